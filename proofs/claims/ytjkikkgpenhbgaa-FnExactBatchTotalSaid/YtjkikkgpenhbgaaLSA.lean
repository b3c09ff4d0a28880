import Derived.Conc.Strewn
import Derived.Conc.CrowdRun
import GoSem.Step
set_option linter.unusedVariables false
set_option linter.unusedSimpArgs false
set_option linter.unusedSectionVars false
namespace Go.Proofs.Ytjkikkgpenhbgaa.Sim
section
open Go Go.Conc
def up (c g:Nat):Nat:=if g=0 then 0 else c+g
def upAct (c:Nat):MemAct→MemAct
 | .go k=>.go (up c k)
 | x=>x
def upOp (c:Nat) (op:MemOp):MemOp:={ op with g:=up c op.g,act:=upAct c op.act }
theorem up_zero (c:Nat):up c 0=0:=rfl
theorem up_inj {c g h:Nat} (e:up c g=up c h):g=h:=by
 unfold up at e
 split at e <;> split at e <;> omega
theorem upAct_touch (c:Nat) (x:MemAct):(upAct c x).touch? = x.touch?:=by cases x <;> rfl
theorem upAct_low {c B:Nat} {x:MemAct} (h:x.low B):(upAct c x).low B:=by cases x <;> first | exact h | trivial
theorem upAct_back {c:Nat} {x y:MemAct} (h:upAct c x=y) (hy:∀ k,y≠.go k):x=y:=by
 cases x with
 | go k=>exact absurd h.symm (hy _)
 | _=>exact h
structure Lk (c:Nat) (t₀ s T:Trace) (φ:Nat→Nat):Prop where
 ext:∃ U,T=t₀++U
 img:∀ i op,s[i]? = some op→T[φ i]? = some (upOp c op)
 lo:∀ i,i<s.size→t₀.size≤φ i
 mono:∀ i j,i<j→j<s.size→φ i<φ j
 gap:∀ k y,T[k]? = some y→t₀.size≤k→(∃ i,i<s.size∧k=φ i)∨(y.act = .mark .disable∨y.act = .mark .enable)
 dfi:∀ g i,i<s.size→T.deaf (up c g) (φ i)=s.deaf g i
 dfe:∀ g,Deaf T (up c g)=Deaf s g
section
variable {c:Nat} {t₀ s T:Trace} {φ:Nat→Nat} (L:Lk c t₀ s T φ)
include L
theorem Lk.act {i:Nat} {x:MemAct} (h:s.act? i=some x):T.act? (φ i)=some (upAct c x):=by
 obtain ⟨op,ho,rfl⟩:=Option.map_eq_some_iff.1 h
 simp [Trace.act?,L.img i op ho,upOp]
theorem Lk.gOf {i g:Nat} (h:s.g? i=some g):T.g? (φ i)=some (up c g):=by
 obtain ⟨op,ho,rfl⟩:=Option.map_eq_some_iff.1 h
 simp [Trace.g?,L.img i op ho,upOp]
theorem Lk.touch {i:Nat} (hi:i<s.size):touchAt T (φ i)=touchAt s i:=by
 have ho:s[i]? = some s[i]:=Array.getElem?_eq_getElem hi
 rw [touchAt_of (L.img i _ ho),touchAt_of ho]
 exact upAct_touch c _
theorem Lk.lt_back {i j:Nat} (hi:i<s.size) (h:φ i<φ j):i<j:=by
 rcases Nat.lt_trichotomy i j with x | rfl | x
 ·exact x
 ·omega
 ·have:=L.mono j i x hi;omega
theorem Lk.back {k:Nat} {y:MemOp} (h:T[k]? = some y) (hk:t₀.size≤k) (hy:y.act≠.mark .disable∧y.act≠.mark .enable) :
  ∃ i op,i<s.size∧k=φ i∧s[i]? = some op∧y=upOp c op:=by
 rcases L.gap k y h hk with ⟨i,hi,rfl⟩ | e
 ·have ho:s[i]? = some s[i]:=Array.getElem?_eq_getElem hi
  exact ⟨i,_,hi,rfl,ho,Option.some.inj (h.symm.trans (L.img i _ ho))⟩
 ·exact (e.elim hy.1 hy.2).elim
theorem Lk.backAct {k:Nat} {x:MemAct} (h:T.act? k=some x) (hk:t₀.size≤k) (hx:x≠.mark .disable∧x≠.mark .enable) (hgo:∀ n,x≠.go n) :
  ∃ i,i<s.size∧k=φ i∧s.act? i=some x:=by
 obtain ⟨y,hy,rfl⟩:=Option.map_eq_some_iff.1 h
 obtain ⟨i,op,hi,rfl,ho,rfl⟩:=L.back hy hk hx
 exact ⟨i,hi,rfl,by rw [act?_of ho];exact congrArg some (upAct_back (c:=c) (x:=op.act) rfl hgo)⟩
theorem Lk.heard {i:Nat} (h:s.heard i):T.heard (φ i):=by
 obtain ⟨g,hg,hd⟩:=h
 exact ⟨up c g,L.gOf hg,by rw [L.dfi g i (lt_of_g? hg)];exact hd⟩
theorem Lk.heard_back {i:Nat} (hi:i<s.size) (h:T.heard (φ i)):s.heard i:=by
 obtain ⟨g',hg',hd⟩:=h
 have hg:s.g? i=some s[i].g:=by simp [Trace.g?,Array.getElem?_eq_getElem hi]
 obtain rfl:g'=up c s[i].g:=Option.some.inj (hg'.symm.trans (L.gOf hg))
 exact ⟨_,hg,by rw [← L.dfi _ i hi];exact hd⟩
theorem Lk.notices {i j:Nat} (h:Notices s i j):Notices T (φ i) (φ j):=by
 cases h with
 | @atomic a hij hi hj hb=>
  have hjs:=lt_of_act? hj
  have his:i<s.size:=Nat.lt_trans hij hjs
  refine .atomic (L.mono _ _ hij hjs) (L.act hi) (L.act hj) (fun k sync h1 h2 e=>?_)
  obtain ⟨k',hk',rfl,hact⟩:=L.backAct e (by have:=L.lo i his;omega) ⟨by simp,by simp⟩ (by simp)
  exact hb k' sync (L.lt_back his h1) (L.lt_back hk' h2) hact
 | @spawn child hi hj hg=>exact .spawn (child:=up c child) (L.act hi) (L.act hj) (L.gOf hg)
 | handOver hi hj=>exact .handOver (L.act hi) (L.act hj)
 | room hi hj=>exact .room (L.act hi) (L.act hj)
 | closed hi hj=>exact .closed (L.act hi) (L.act hj)
 | @marked a hij hi hj hb=>
  have hjs:=lt_of_act? hj
  have his:i<s.size:=Nat.lt_trans hij hjs
  refine .marked (L.mono _ _ hij hjs) (hi.imp L.act L.act) (L.act hj) (fun k h1 h2 e=>?_)
  obtain ⟨k',hk',rfl,hact⟩:=L.backAct e (by have:=L.lo i his;omega) ⟨by simp,by simp⟩ (by simp)
  exact hb k' (L.lt_back his h1) (L.lt_back hk' h2) hact
theorem Lk.hb {i j:Nat} (h:HappensBefore s i j):HappensBefore T (φ i) (φ j):=by
 have edge:∀ a b,(ProgramOrder s a b∨(Notices s a b∧s.heard a∧s.heard b))→(ProgramOrder T (φ a) (φ b)∨(Notices T (φ a) (φ b)∧T.heard (φ a)∧T.heard (φ b))):=fun a b e=>e.elim
  (fun ⟨hab,g,h1,h2⟩=>.inl ⟨L.mono a b hab (lt_of_g? h2),up c g,L.gOf h1,L.gOf h2⟩)
  (fun ⟨n,x,y⟩=>.inr ⟨L.notices n,L.heard x,L.heard y⟩)
 induction h with
 | single e=>exact .single (edge _ _ e)
 | tail _ e ih=>exact .tail ih (edge _ _ e)
theorem Lk.knows0 {i:Nat} (h:Knows s 0 i):Knows T 0 (φ i):=by
 obtain ⟨q,z,hz,hg,hb⟩:=h
 exact ⟨φ q,_,L.img q z hz,by simp [upOp,hg,up],hb.elim (fun e=>.inl (by rw [e])) (fun e=>.inr (L.hb e))⟩
theorem Lk.lt {i:Nat} (hi:i<s.size):φ i<T.size:=lt_size_of_getElem? (L.img i _ (Array.getElem?_eq_getElem hi))
theorem Lk.le:t₀.size≤T.size:=by obtain ⟨U,rfl⟩:=L.ext;simp
end
structure Small (Shun Shun':Loc→Prop) (s:Trace):Prop where
 clean:∀ said,¬ Race said s
 known:∀ i a,touchAt s i=some a→a.loc.isMemory=true→Knows s 0 i∨(Shun' a.loc∧a.kind = .atomic)
 rooted:∀ i g,s.g? i=some g→g≠0→∃ j,s.g? j=some 0∧HappensBefore s j i
 shy:∀ i a,touchAt s i=some a→Shun a.loc→a.kind≠.plain
 over:s.HandedOver
 hear:Deaf s 0=0
theorem past_of_small {c:Nat} {t₀ s T:Trace} {φ:Nat→Nat} {Shun Shun':Loc→Prop} {B B':Nat} (hP:Past Shun B t₀) (hB:B≤B') (L:Lk c t₀ s T φ) (h:Small Shun Shun' s) (low:∀ op ∈ s,op.act.low B') :
  Past (fun l=>Shun l∨Shun' l) B' T:=by
 obtain ⟨U,rfl⟩:=id L.ext
 have place:∀ k a,touchAt (t₀++U) k=some a→(k<t₀.size∧touchAt t₀ k=some a)∨∃ i,i<s.size∧k=φ i∧touchAt s i=some a:=by
  intro k a ha
  rcases Nat.lt_or_ge k t₀.size with hk | hk
  ·exact .inl ⟨hk,by rw [← touchAt_old (u:=U) hk];exact ha⟩
  ·obtain ⟨y,hy,hya⟩:=touch_of ha
   obtain ⟨i,op,hi,rfl,_,_⟩:=L.back hy hk ⟨fun e=>(by rw [e] at hya;cases hya),fun e=>(by rw [e] at hya;cases hya)⟩
   exact .inr ⟨i,hi,rfl,by rw [← L.touch hi];exact ha⟩
 have cross:∀ k i,Knows t₀ 0 k→i<s.size→HappensBefore (t₀++U) k (φ i):=by
  intro k i hk hi
  have hsi:s[i]? = some s[i]:=Array.getElem?_eq_getElem hi
  have hgi:s.g? i=some s[i].g:=by simp [Trace.g?,hsi]
  by_cases e:s[i].g=0
  ·exact hk.hb_new (L.lo i hi) (L.img i _ hsi) (by simp [upOp,e,up])
  ·obtain ⟨j,hj,hb⟩:=h.rooted i _ hgi e
   have hjs:=lt_of_g? hj
   have hj0:s[j].g=0:=by simpa [Trace.g?,Array.getElem?_eq_getElem hjs] using hj
   exact (hk.hb_new (L.lo j hjs) (L.img j _ (Array.getElem?_eq_getElem hjs)) (by simp [upOp,hj0,up])).trans (L.hb hb)
 refine ⟨fun said=>?_,fun k a ha hm=>?_,fun k g hg hne hcn=>?_,?_,fun op hop=>?_⟩
 ·rintro ⟨x,y,hxy,⟨a,b,ha,hb,hcf⟩,n1,n2⟩
  rcases place x a ha with ⟨hx,hax⟩ | ⟨i,hi,rfl,hai⟩
  ·rcases place y b hb with ⟨hy,hby⟩ | ⟨j,hj,rfl,hbj⟩
   ·exact hP.clean said ⟨x,y,hxy,⟨a,b,hax,hby,hcf⟩,fun e=>n1 (hb_app U e),fun e=>n2 (hb_app U e)⟩
   ·rcases hP.known x a hax hcf.2.1 with hk | ⟨hs,hka⟩
    ·exact n1 (cross x j hk hj)
    ·have hkb:=h.shy j b hbj (hcf.1 ▸ hs)
     obtain ⟨_,_,_,hkind⟩:=hcf
     rw [hka] at hkind
     rcases hkind with z | z | ⟨_,z,_⟩
     ·cases z
     ·exact absurd z hkb
     ·cases z
  ·rcases place y b hb with ⟨hy,_⟩ | ⟨j,hj,rfl,hbj⟩
   ·have:=L.lo i hi;omega
   ·have hij:=L.lt_back hi hxy
    by_cases h1:HappensBefore s i j
    ·exact n1 (L.hb h1)
    ·by_cases h2:HappensBefore s j i
     ·exact n2 (L.hb h2)
     ·exact h.clean said ⟨i,j,hij,⟨a,b,hai,hbj,hcf⟩,h1,h2⟩
 ·rcases place k a ha with ⟨_,hak⟩ | ⟨i,_,rfl,hai⟩
  ·exact (hP.known k a hak hm).imp (·.app U) (fun x=>⟨.inl x.1,x.2⟩)
  ·exact (h.known i a hai hm).imp L.knows0 (fun x=>⟨.inr x.1,x.2⟩)
 ·obtain ⟨a,ha,hmem,hkind⟩:=id hcn
  rcases place k a ha with ⟨hk,_⟩ | ⟨i,hi,rfl,hai⟩
  ·obtain ⟨j,hj,hb⟩:=hP.over k g (by rw [← g?_old (u:=U) hk];exact hg) hne ((counts_old hk).1 hcn)
   exact ⟨j,by rw [g?_old (lt_of_g? hj)];exact hj,hb_app U hb⟩
  ·have hgi:s.g? i=some s[i].g:=by simp [Trace.g?,Array.getElem?_eq_getElem hi]
   obtain rfl:g=up c s[i].g:=Option.some.inj (hg.symm.trans (L.gOf hgi))
   have hne':s[i].g≠0:=fun e=>hne (by rw [e];rfl)
   obtain ⟨j,hj,hb⟩:=h.over i _ hgi hne' ⟨a,hai,hmem,hkind.imp id (L.heard_back hi)⟩
   exact ⟨φ j,L.gOf hj,L.hb hb⟩
 ·have:=L.dfe 0
  rw [up_zero] at this
  rw [this,h.hear]
 ·obtain ⟨k,hk,rfl⟩:=Array.mem_iff_getElem.1 hop
  have hy:(t₀++U)[k]? = some (t₀++U)[k]:=Array.getElem?_eq_getElem hk
  rcases Nat.lt_or_ge k t₀.size with hlt | hge
  ·have e:t₀[k]? = some (t₀++U)[k]:=by rw [← getElem?_append_old (u:=U) hlt];exact hy
   exact MemAct.low_mono hB (hP.seen _ (mem_of_getElem? e))
  ·rcases L.gap k _ hy hge with ⟨i,hi,rfl⟩ | e
   ·have ho:s[i]? = some s[i]:=Array.getElem?_eq_getElem hi
    rw [Option.some.inj (hy.symm.trans (L.img i _ ho))]
    exact upAct_low (low _ (mem_of_getElem? ho))
   ·rcases e with e | e <;> rw [e] <;> trivial
def Lkd (c:Nat) (t₀ s T:Trace):Prop:=∃ φ,Lk c t₀ s T φ
section
variable {c:Nat} {t₀ s T:Trace} {φ:Nat→Nat}
theorem Lkd.init (h0:Deaf t₀ 0=0) (hc:∀ g,c<g→Deaf t₀ g=0):Lkd c t₀ #[] t₀:=
  ⟨id,⟨#[],by simp⟩,fun i op h=>by simp at h,fun i h=>by simp at h,fun i j _ h=>by simp at h,fun k y hy hk=>absurd (lt_size_of_getElem? hy) (by omega),fun g i h=>by simp at h,
   fun g=>by
     unfold up
     split
     · rename_i e;subst e;rw [h0];rfl
     · rw [hc _ (by omega)];rfl⟩
theorem deafStep_up {c g:Nat} (op:MemOp) (d:Nat):deafStep (up c g) d (upOp c op)=deafStep g d op:=by
 have e:(up c op.g=up c g)↔(op.g=g):=⟨up_inj,fun e=>by rw [e]⟩
 obtain ⟨h,fn,pos,act⟩:=op
 simp only at e
 cases act with
 | mark m=>cases m <;> simp [deafStep,upOp,upAct,e]
 | _=>simp [deafStep,upOp,upAct]
theorem Lk.both (L:Lk c t₀ s T φ) (op:MemOp):Lk c t₀ (s++#[op]) (T++#[upOp c op]) (fun i=>if i=s.size then T.size else φ i):=by
 have hs:(s++#[op]).size=s.size+1:=by simp
 refine ⟨?_,fun i x hx=>?_,fun i hi=>?_,fun i j hij hj=>?_,fun k y hy hk=>?_,fun g i hi=>?_,fun g=>?_⟩
 ·obtain ⟨U,rfl⟩:=L.ext
  exact ⟨U++#[upOp c op],by simp⟩
 ·by_cases e:i=s.size
  ·subst e
   have:op=x:=by simpa using hx
   subst this
   simp
  ·have hi:i<s.size:=by have:=lt_size_of_getElem? hx;omega
   rw [getElem?_append_old hi] at hx
   simp only [if_neg e]
   rw [getElem?_append_old (L.lt hi)]
   exact L.img i x hx
 ·by_cases e:i=s.size
  ·simp only [if_pos e];exact L.le
  ·simp only [if_neg e];exact L.lo i (by omega)
 ·have ei:i≠s.size:=by omega
  simp only [if_neg ei]
  by_cases e:j=s.size
  ·simp only [if_pos e];exact L.lt (by omega)
  ·simp only [if_neg e];exact L.mono i j hij (by omega)
 ·rcases getElem?_append_cases hy with ⟨_,hy'⟩ | ⟨hk',_⟩
  ·rcases L.gap k y hy' hk with ⟨i,hi,rfl⟩ | h
   ·exact .inl ⟨i,by omega,by simp [Nat.ne_of_lt hi]⟩
   ·exact .inr h
  ·have:=lt_size_of_getElem? hy
   simp at this
   exact .inl ⟨s.size,by omega,by simp;omega⟩
 ·by_cases e:i=s.size
  ·subst e
   show (T++#[upOp c op]).deaf (up c g) (if s.size=s.size then T.size else φ s.size)=(s++#[op]).deaf g s.size
   rw [if_pos rfl,deaf_old (Nat.le_refl _),deaf_old (Nat.le_refl _)]
   exact L.dfe g
  ·have hi':i<s.size:=by omega
   simp only [if_neg e]
   rw [deaf_old (Nat.le_of_lt (L.lt hi')),deaf_old (Nat.le_of_lt hi')]
   exact L.dfi g i hi'
 ·rw [Deaf_push,Deaf_push,L.dfe g,deafStep_up]
theorem Lk.word (L:Lk c t₀ s T φ) {y:MemOp} (h0:y.g≠0) (hcy:y.g≤c) (hm:y.act = .mark .disable∨y.act = .mark .enable):Lk c t₀ s (T++#[y]) φ:=by
 refine ⟨?_,fun i x hx=>?_,L.lo,L.mono,fun k z hz hk=>?_,fun g i hi=>?_,fun g=>?_⟩
 ·obtain ⟨U,rfl⟩:=L.ext
  exact ⟨U++#[y],by simp⟩
 ·rw [getElem?_append_old (L.lt (lt_size_of_getElem? hx))]
  exact L.img i x hx
 ·rcases getElem?_append_cases hz with ⟨_,hz'⟩ | ⟨_,hzu⟩
  ·exact L.gap k z hz' hk
  ·have:z=y:=by simpa using hzu
   subst this
   exact .inr hm
 ·rw [deaf_old (Nat.le_of_lt (L.lt hi))]
  exact L.dfi g i hi
 ·rw [Deaf_other T (g':=y.g) (by unfold up;split <;> omega) #[y] (by simp)]
  exact L.dfe g
theorem Lkd.boths:∀ (l:List MemOp) {s T:Trace},Lkd c t₀ s T→Lkd c t₀ (s++l.toArray) (T++(l.map (upOp c)).toArray)
 | [],_,_,h=>by simpa using h
 | x :: l,s,T,⟨φ,L⟩=>by
  have e1:s++(x :: l).toArray=(s++#[x])++l.toArray:=by simp
  have e2:T++((x :: l).map (upOp c)).toArray=(T++#[upOp c x])++(l.map (upOp c)).toArray:=by simp
  rw [e1,e2]
  exact Lkd.boths l ⟨_,L.both x⟩
theorem Lkd.words:∀ (l:List MemOp) {T:Trace},(∀ y ∈ l,y.g≠0∧y.g≤c∧(y.act = .mark .disable∨y.act = .mark .enable))→Lkd c t₀ s T→Lkd c t₀ s (T++l.toArray)
 | [],_,_,h=>by simpa using h
 | x :: l,T,hl,⟨φ,L⟩=>by
  have e2:T++(x :: l).toArray=(T++#[x])++l.toArray:=by simp
  rw [e2]
  obtain ⟨a,b,d⟩:=hl x (by simp)
  exact Lkd.words l (fun y h=>hl y (by simp [h])) ⟨φ,L.word a b d⟩
theorem up_ofEvents (c g:Nat) (fn:FuncId) (pos:String) (es:Array Event):(MemOp.ofEvents g fn pos es).map (upOp c)=MemOp.ofEvents (up c g) fn pos es:=by
 simp only [ofEvents_eq,Array.map_map]
 congr 1
 funext e
 have:upAct c (MemAct.ofEvent e)=MemAct.ofEvent e:=by
  cases h:MemAct.ofEvent e with
  | go k=>exact absurd h (ofEvent_ne_go e k)
  | _=>rfl
 simp [upOp,this]
theorem Lkd.events (h:Lkd c t₀ s T) (g:Nat) (fn:FuncId) (pos:String) (es:Array Event):Lkd c t₀ (s++MemOp.ofEvents g fn pos es) (T++MemOp.ofEvents (up c g) fn pos es):=by
 have:=Lkd.boths (MemOp.ofEvents g fn pos es).toList h
 have e:((MemOp.ofEvents g fn pos es).toList.map (upOp c)).toArray=(MemOp.ofEvents g fn pos es).map (upOp c):=by apply Array.toList_inj.1;simp
 rw [e,up_ofEvents] at this
 simpa using this
theorem Lkd.mutes (h:Lkd c t₀ s T) {γ:Nat} (h0:γ≠0) (hγ:γ≤c) (fn:FuncId) (pos:String) {es:Array Event} (hm:∀ e ∈ es,e.mute=true):Lkd c t₀ s (T++MemOp.ofEvents γ fn pos es):=by
 have:=Lkd.words (c:=c) (MemOp.ofEvents γ fn pos es).toList (fun y hy=>by obtain ⟨e,he,rfl⟩:=Go.Conc.mem_ofEvents (Array.mem_toList_iff.1 hy);exact ⟨h0,hγ,act_mute (hm e he)⟩) h
 simpa using this
end
end
section
open Go Go.Conc Go.ConcN
open Go.ConcR (stA g_of_ofEvents)
structure Tr (Shun:Loc→Prop) (Wg:Nat) (s:Trace) (j:Nat):Prop where
 start:∀ k,1≤k→k≤j→∃ i,s.g? i=some k∧i<s.size
 rooted:∀ i g,s.g? i=some g→g≠0→∃ i0,s.g? i0=some 0∧HappensBefore s i0 i
 shy:∀ i a,touchAt s i=some a→Shun a.loc→a.kind≠.plain
 heard:∀ i g a,s.g? i=some g→g≠0→touchAt s i=some a→s.heard i∨ShN Wg a.loc
section
variable {Shun:Loc→Prop} {Wg:Nat} {s u:Trace} {j:Nat}
theorem Tr.nil:Tr Shun Wg #[] 0:=⟨fun k h1 h2=>by omega,fun i g h=>by simp [Trace.g?] at h,fun i a h=>by simp [touchAt,Trace.act?] at h,fun i g a h=>by simp [Trace.g?] at h⟩
theorem g?_cases {i g:Nat} (h:(s++u).g? i=some g):(i<s.size∧s.g? i=some g)∨(s.size≤i∧∃ op ∈ u,(s++u)[i]? = some op∧op.g=g):=by
 obtain ⟨op,ho,hg⟩:=Option.map_eq_some_iff.1 h
 rcases getElem?_append_cases ho with ⟨h1,h2⟩ | ⟨h1,h2⟩
 ·exact .inl ⟨h1,by simp [Trace.g?,h2,hg]⟩
 ·exact .inr ⟨h1,op,h2,ho,hg⟩
theorem touch_cases {i:Nat} {a:Touch} (h:touchAt (s++u) i=some a):(i<s.size∧touchAt s i=some a)∨∃ op ∈ u,op.act.touch? = some a:=by
 obtain ⟨op,ho,hg⟩:=touch_of h
 rcases getElem?_append_cases ho with ⟨h1,h2⟩ | ⟨h1,h2⟩
 ·exact .inl ⟨h1,by rw [touchAt_of h2];exact hg⟩
 ·exact .inr ⟨op,h2,hg⟩
theorem Tr.old (h:Tr Shun Wg s j) (hshy:∀ op ∈ u,∀ a,op.act.touch? = some a→Shun a.loc→a.kind≠.plain)
  (hroot:∀ i g,s.size≤i→(s++u).g? i=some g→g≠0→∃ i0,(s++u).g? i0=some 0∧HappensBefore (s++u) i0 i)
  (hheard:∀ i g a,s.size≤i→(s++u).g? i=some g→g≠0→touchAt (s++u) i=some a→(s++u).heard i∨ShN Wg a.loc):Tr Shun Wg (s++u) j:=by
 refine ⟨fun k h1 h2=>?_,fun i g hg hne=>?_,fun i a ha hs=>?_,fun i g a hg hne ha=>?_⟩
 ·obtain ⟨i,hi,hlt⟩:=h.start k h1 h2
  exact ⟨i,by rw [g?_old hlt];exact hi,by simp;omega⟩
 ·rcases Nat.lt_or_ge i s.size with hlt | hge
  ·rw [g?_old hlt] at hg
   obtain ⟨i0,h0,hb⟩:=h.rooted i g hg hne
   exact ⟨i0,by rw [g?_old (lt_of_g? h0)];exact h0,hb_app u hb⟩
  ·exact hroot i g hge hg hne
 ·rcases touch_cases ha with ⟨_,h1⟩ | ⟨op,h1,h2⟩
  ·exact h.shy i a h1 hs
  ·exact hshy op h1 a h2 hs
 ·rcases Nat.lt_or_ge i s.size with hlt | hge
  ·rw [g?_old hlt] at hg
   rw [touchAt_old hlt] at ha
   exact (h.heard i g a hg hne ha).imp (heard_old hlt).2 id
  ·exact hheard i g a hge hg hne ha
theorem Tr.app0 (h:Tr Shun Wg s j) (h0:∀ op ∈ u,op.g=0) (hshy:∀ op ∈ u,∀ a,op.act.touch? = some a→Shun a.loc→a.kind≠.plain):Tr Shun Wg (s++u) j:=by
 have no:∀ i g,s.size≤i→(s++u).g? i=some g→g≠0→False:=fun i g hi hg hne=>by
  rcases g?_cases hg with ⟨h1,_⟩ | ⟨_,op,h1,_,h2⟩
  ·omega
  ·exact hne (h2 ▸ h0 op h1)
 exact h.old hshy (fun i g hi hg hne=>(no i g hi hg hne).elim) (fun i g a hi hg hne _=>(no i g hi hg hne).elim)
theorem Tr.appW (h:Tr Shun Wg s j) {k:Nat} (k1:1≤k) (kj:k≤j) (fn:FuncId) (pos:String) (es:Array Event) (hshy:∀ op ∈ MemOp.ofEvents k fn pos es,∀ a,op.act.touch? = some a→Shun a.loc→a.kind≠.plain)
  (hh:(Deaf s k=0∧∀ e ∈ es,e.loc≠.mark .disable∧e.loc≠.mark .enable)∨∀ op ∈ MemOp.ofEvents k fn pos es,∀ a,op.act.touch? = some a→ShN Wg a.loc):Tr Shun Wg (s++MemOp.ofEvents k fn pos es) j:=by
 obtain ⟨i0,hi0,hlt0⟩:=h.start k k1 kj
 refine h.old hshy (fun i g hi hg hne=>?_) (fun i g a hi hg hne ha=>?_)
 ·rcases g?_cases hg with ⟨h1,_⟩ | ⟨_,op,h1,ho,h2⟩
  ·omega
  ·have hgk:g=k:=by rw [← h2];exact g_of_ofEvents op h1
   subst hgk
   obtain ⟨r,hr,hb⟩:=h.rooted i0 g hi0 hne
   obtain ⟨z,hz,hzg⟩:=Option.map_eq_some_iff.1 hi0
   refine ⟨r,by rw [g?_old (lt_of_g? hr)];exact hr,(hb_app _ hb).trans (hb_po (x:=z) (y:=op) (by omega) ?_ ho (by rw [hzg,h2]))⟩
   rw [getElem?_append_old hlt0]
   exact hz
 ·rcases hh with ⟨hd,hes⟩ | hw
  ·refine .inl ⟨g,hg,?_⟩
   rcases g?_cases hg with ⟨h1,_⟩ | ⟨_,op,h1,ho,h2⟩
   ·omega
   ·have hgk:g=k:=by rw [← h2];exact g_of_ofEvents op h1
    subst hgk
    have hi2:i<(s++MemOp.ofEvents g fn pos es).size:=lt_size_of_getElem? ho
    rw [ofEvents_eq] at hi2
    simp at hi2
    have e:=deaf_inside s g fn pos es (i - s.size) (by omega)
    rw [show s.size+(i - s.size)=i by omega,hd] at e
    rw [e]
    refine deafBehind_idle (fun x hx=>hes x ?_) 0
    exact (Array.mem_iff_getElem?.1 hx).elim fun n hn=>Array.mem_of_getElem? (i:=n) (by
     rw [Array.getElem?_extract] at hn
     split at hn
     ·simpa using hn
     ·cases hn)
  ·refine .inr ?_
   rcases touch_cases ha with ⟨h1,_⟩ | ⟨op,h1,h2⟩
   ·omega
   ·exact hw op h1 a h2
theorem Tr.fork (h:Tr Shun Wg s j) {x y:MemOp} (hx:x.g=0∧x.act = .go (j+1)) (hy:y.g=j+1∧y.act = .start) (h0:Deaf s 0=0) (hk:Deaf s (j+1)=0):Tr Shun Wg (s++#[x,y]) (j+1):=by
 have hxp:(s++#[x,y])[s.size]? = some x:=by simp
 have hyp:(s++#[x,y])[s.size+1]? = some y:=by rw [Array.getElem?_append_right (by omega)];simp
 have e0:(s++#[x,y]).heard s.size:=⟨0,by simp [Trace.g?,hx.1],by rw [deaf_old (Nat.le_refl _)];exact h0⟩
 have e1:(s++#[x,y]).heard (s.size+1):=⟨j+1,by simp [Trace.g?,hy.1],by rw [deaf_succ hxp,deaf_old (Nat.le_refl _)];simp only [deafStep,hx.2];exact hk⟩
 have edge:HappensBefore (s++#[x,y]) s.size (s.size+1):=.single (.inr ⟨.spawn (child:=j+1) (by rw [act?_of hxp,hx.2]) (by rw [act?_of hyp,hy.2]) (by simp [Trace.g?,hy.1]),e0,e1⟩)
 have hno:∀ op ∈ (#[x,y]:Trace),op.act.touch? = none:=fun op hop=>by
  simp at hop
  rcases hop with rfl | rfl
  ·rw [hx.2];rfl
  ·rw [hy.2];rfl
 have main:=h.old (u:=#[x,y]) (fun op hop a ha=>by rw [hno op hop] at ha;cases ha) (fun i g hi hg hne=>by
   have hlt:i<(s++#[x,y]).size:=lt_of_g? hg
   simp at hlt
   rcases Nat.lt_or_ge s.size i with h1 | h1
   ·obtain rfl:i=s.size+1:=by omega
    exact ⟨s.size,by simp [Trace.g?,hx.1],edge⟩
   ·obtain rfl:i=s.size:=by omega
    simp [Trace.g?,hx.1] at hg
    omega) (fun i g a hi hg hne ha=>by
   rcases touch_cases ha with ⟨h1,_⟩ | ⟨op,h1,h2⟩
   ·omega
   ·rw [hno op h1] at h2;cases h2)
 refine ⟨fun k h1 h2=>?_,main.rooted,main.shy,main.heard⟩
 rcases Nat.lt_or_ge k (j+1) with h3 | h3
 ·exact main.start k h1 (by omega)
 ·obtain rfl:k=j+1:=by omega
  exact ⟨s.size+1,by simp [Trace.g?,hy.1],by simp⟩
theorem Tr.small (h:Tr Shun Wg s j) {Own Rd:Nat→Loc→Prop} (hct:CT (ShN Wg) Own Rd s j) (hn:NoRelease (Go.ConcR.stA Wg) s) (hA:AcqAll Wg j s) (hd:Deaf s 0=0):Small Shun (ShN Wg) s:=by
 obtain ⟨q,h1,h2,h3,h4⟩:=hA
 have all:∀ i g,s.g? i=some g→g≠0→∃ r,RelBy (Go.ConcR.stA Wg) s g r∧r<q:=fun i g hgi hne=>by
  obtain ⟨op,ho,rfl⟩:=Option.map_eq_some_iff.1 hgi
  have:=hct.gs i op ho
  have:=h4 (op.g - 1) (by omega)
  rwa [show op.g - 1+1=op.g by omega] at this
 refine ⟨hct.nr,fun i a ha hm=>?_,h.rooted,h.shy,handedOver_all all hn h1 h2 h3,hd⟩
 obtain ⟨x,hx,hxa⟩:=touch_of ha
 by_cases e:x.g=0
 ·have:=knows_own hx
  rw [e] at this
  exact .inl this
 ·have hgi:s.g? i=some x.g:=by simp [Trace.g?,hx]
  obtain ⟨r,hr,hrq⟩:=all i _ hgi e
  rcases Nat.lt_or_ge r i with hlt | hle
  ·have hnc:=hr.after i hlt hgi
   have hk:a.kind = .atomic:=by
    by_cases hk:a.kind = .atomic
    ·exact hk
    ·exact absurd ⟨a,ha,hm,.inl hk⟩ hnc
   rcases h.heard i _ a hgi e ha with hh | hw
   ·exact absurd ⟨a,ha,hm,.inr hh⟩ hnc
   ·exact .inr ⟨hw,hk⟩
  ·obtain ⟨z,hz,hzg⟩:=Option.map_eq_some_iff.1 h2
   have edge:HappensBefore s r q:=.single (.inr ⟨.marked hrq (.inr hr.act) h1 (fun k _ _=>hn k),hr.heard,h3⟩)
   refine .inl ⟨q,z,hz,hzg,.inr ?_⟩
   rcases Nat.lt_or_ge i r with hlt | hge
   ·exact .trans (.single (.inl ⟨hlt,x.g,hgi,hr.g⟩)) edge
   ·obtain rfl:i=r:=by omega
    exact edge
end
theorem low_some (s:Trace):∃ B,∀ op ∈ s,op.act.low B:=by
 obtain ⟨l⟩:=s
 induction l with
 | nil=>exact ⟨0,by simp⟩
 | cons x l ih=>
  obtain ⟨B,hB⟩:=ih
  have:∃ B',x.act.low B':=by
   cases x.act with
   | access e=>cases hl:e.loc with
    | cell a=>exact ⟨a.block+1,by show e.loc.low _;rw [hl];exact Nat.lt_succ_self _⟩
    | obj r=>exact ⟨r+1,by show e.loc.low _;rw [hl];exact Nat.lt_succ_self _⟩
    | _=>exact ⟨0,by show e.loc.low _;rw [hl];trivial⟩
   | mark m=>cases m <;> first
    | exact ⟨_,Nat.lt_succ_self _⟩
    | exact ⟨0,trivial⟩
   | go _=>exact ⟨0,trivial⟩
   | start=>exact ⟨0,trivial⟩
   | _=>exact ⟨_,Nat.lt_succ_self _⟩
  obtain ⟨B',hB'⟩:=this
  exact ⟨max B B',fun op hop=>by
   simp at hop
   rcases hop with rfl | hop
   ·exact MemAct.low_mono (by omega) hB'
   ·exact MemAct.low_mono (by omega) (hB op (by simpa using hop))⟩
end
section
open Go Go.Conc Go.ConcN
open Go.ConcR (KK WgAt stA smA rd wr mk Payload DC0 Bk g_of_ofEvents bk_of_mute ofEvent_loc_mark ofEvent_cell)
theorem counted_state {n j i:Nat} {D:Nat→WD} {tag:CTag} {st sm:Int} (hm:ConcN.Mode j D tag st sm) (hi:i<j) (h5:5≤(D i).stage) (hb:j+pend tag≤n) :
  ∃ v wt:Nat,wt≤1∧v<n∧st=((v:Int)+1)*KK+(wt:Int)∧sm=0:=by
 have hV:1≤Vc j D:=by
  have:=le_sumTo (f:=fun x=>cnt (D x)) hi
  simp only [cnt,h5,if_true] at this
  exact this
 have hVj:=Vc_le j D
 cases hm with
 | opn h1 h2 h3=>
  refine ⟨Vc j D+pend tag - 1,0,by omega,by omega,?_,rfl⟩
  rw [show ((Vc j D+pend tag - 1:Nat):Int)+1=((Vc j D+pend tag:Nat):Int) by omega]
  simp
 | reg h1 h2 h3=>
  refine ⟨Vc j D - 1,1,by omega,by omega,?_,rfl⟩
  rw [show ((Vc j D - 1:Nat):Int)+1=((Vc j D:Nat):Int) by omega]
  simp
 | last L _ h2 h3 h4=>
  by_cases e:i=L
  ·subst e;omega
  ·have:=h4 i hi e;omega
 | sema h2=>have:=h2 i hi;omega
 | fin _ h2=>have:=h2 i hi;omega
section
variable [Payload] {P:Program} {ty:TypeId} {Wg C n:Nat} {Own Rd:Nat→Loc→Prop} {Lw:Nat→Nat} {val:Nat→Value}
 {gs:Array Goroutine} {w:World} {j:Nat} {D:Nat→WD} {tag:CTag} {d0:Nat} {t:Trace} {st sm:Int}
def WKind (Wg:Nat) (Own Rd:Nat→Loc→Prop) (k:Nat) (t:Trace) (fn:FuncId) (pos:String) (es:Array Event):Prop:=
 (Deaf t k=0∧(∀ e ∈ es,e.loc≠.mark .disable∧e.loc≠.mark .enable)∧∀ op ∈ MemOp.ofEvents k fn pos es,OkW (ShN Wg) Own Rd k op)∨
 ∀ op ∈ MemOp.ofEvents k fn pos es,∀ a,op.act.touch? = some a→ShN Wg a.loc∧a.kind≠.plain
omit [Payload] in
theorem WKind.bk {k:Nat} {fn:FuncId} {pos:String} {es:Array Event} (h:∀ e ∈ es,Bk Wg e):WKind Wg Own Rd k t fn pos es:=by
 refine .inr fun op hop x hx=>?_
 obtain ⟨e,he,rfl⟩:=Go.Conc.mem_ofEvents hop
 rcases h e he with h1 | h1 | ⟨a,wr,rfl,ha⟩
 ·simp only [ofEvent_loc_mark h1] at hx;cases hx
 ·simp only [ofEvent_loc_mark h1] at hx;cases hx
 ·simp only [ofEvent_cell,MemAct.touch?,Option.some.injEq] at hx
  subst hx
  exact ⟨⟨a,rfl,ha⟩,by simp⟩
omit [Payload] in
theorem WKind.none {k:Nat} {fn:FuncId} {pos:String} {es:Array Event} (h:∀ e ∈ es,(MemAct.ofEvent e).touch? = none):WKind Wg Own Rd k t fn pos es:=by
 refine .inr fun op hop x hx=>?_
 obtain ⟨e,he,rfl⟩:=Go.Conc.mem_ofEvents hop
 rw [h e he] at hx
 cases hx
theorem goWorker (G:Geo Wg C Lw) (hn:n<2147483648) (hcom:Com P ty Wg C n Own Rd Lw val j gs w t D d0) (hwg:WgAt ty Wg w st sm) (hmode:ConcN.Mode j D tag st sm) (hb:j+pend tag≤n)
  {i:Nat} (hi:i<j) {g:Goroutine} (hg:gs[i+1]? = some g) (hrun:g.status = .running) :
  ∃ g' w' es,stepG P false g w = .go g' w' es∧RC ty Wg C w w'∧WKind Wg Own Rd (i+1) t g.frame.fn g.frame.place es:=by
 obtain ⟨g₁,hg₁,hs⟩:=hcom.wk i hi
 obtain rfl:g=g₁:=by rw [hg] at hg₁;exact Option.some.inj hg₁
 generalize hst:(D i).stage=s at hs
 generalize hfu:(D i).fuel=m at hs
 generalize hde:(D i).deaf=dd at hs
 have hdk:Deaf t (i+1)=dd:=by rw [hcom.deafW i hi,hde]
 have bk2:∀ e ∈ #[rd (Go.ConcR.stA Wg),wr (Go.ConcR.stA Wg)],Bk Wg e:=by intro e he;simp at he;rcases he with rfl | rfl <;> exact bk_cell _ _ rfl
 cases hs with
 | r0 h=>
  rcases Goes.cases h with hstop | ⟨m',rfl,hstep⟩
  ·obtain ⟨_,hhas,g',hgo,m₂,hk⟩:=hstop w (RW.refl w)
   exact ⟨_,_,_,hgo,.refl w,.none (by intro e he;simp at he;subst he;rfl)⟩
  ·obtain ⟨g',w',es,hgo,⟨hac,hev⟩,hg'⟩:=hstep w (RW.refl w)
   exact ⟨_,_,_,hgo,RC.of_cell hac G.hCW,.inl ⟨hdk,fun e he=>⟨(hev e he).2.1,(hev e he).2.2.1⟩,okW_of_EvW hev⟩⟩
 | k1 h=>
  rcases Goes.cases h with hstop | ⟨m',rfl,hstep⟩
  ·obtain ⟨_,g',hgo,m₂,hk⟩:=hstop w (RW.refl w)
   exact ⟨_,_,_,hgo,.refl w,.none (by intro e he;simp at he;subst he;rfl)⟩
  ·obtain ⟨g',w',es,hgo,⟨rfl,rfl⟩,hg'⟩:=hstep w (RW.refl w)
   exact ⟨_,_,_,hgo,.refl _,.bk (by simp)⟩
 | d1 h=>
  rcases Goes.cases h with hstop | ⟨m',rfl,hstep⟩
  ·obtain ⟨_,hall⟩:=hstop w (RW.refl w)
   obtain ⟨v,wt,h1,h2,rfl,rfl⟩:=counted_state hmode hi (by omega) hb
   obtain ⟨g',hgo,_,_⟩:=hall v wt h1 (by omega) hwg
   exact ⟨_,_,_,hgo,RC.of_wg (aside_setCell w (Go.ConcR.stA Wg) _) ⟨_,_,hwg.setSt _⟩,.bk bk2⟩
  ·obtain ⟨g',w',es,hgo,⟨rfl,rfl⟩,hg'⟩:=hstep w (RW.refl w)
   exact ⟨_,_,_,hgo,.refl _,.bk (by simp)⟩
 | d2 h=>
  rcases Goes.cases h with hstop | ⟨m',rfl,hstep⟩
  ·obtain ⟨_,hx⟩:=hstop w (RW.refl w)
   obtain ⟨hW3,hoth,rfl,rfl⟩:=hmode.isLast hi (by omega)
   simp only [hst] at hwg
   obtain ⟨g',hgo,m₂,hk⟩:=hx (by simpa using hwg)
   exact ⟨_,_,_,hgo,.refl w,.bk (by intro e he;simp at he;subst he;exact bk_cell _ _ rfl)⟩
  ·obtain ⟨g',w',es,hgo,⟨rfl,rfl⟩,hg'⟩:=hstep w (RW.refl w)
   exact ⟨_,_,_,hgo,.refl _,.bk (by simp)⟩
 | d3 h=>
  rcases Goes.cases h with hstop | ⟨m',rfl,hstep⟩
  ·obtain ⟨_,hx⟩:=hstop w (RW.refl w)
   obtain ⟨hW3,hoth,rfl,rfl⟩:=hmode.isLast hi (by omega)
   simp only [hst] at hwg
   obtain ⟨g',hgo,m₂,hk⟩:=hx (by simpa using hwg)
   exact ⟨_,_,_,hgo,RC.of_wg (aside_setCell w (Go.ConcR.stA Wg) _) ⟨_,_,hwg.setSt 0⟩,.bk (by intro e he;simp at he;subst he;exact bk_cell _ _ rfl)⟩
  ·obtain ⟨g',w',es,hgo,⟨rfl,rfl⟩,hg'⟩:=hstep w (RW.refl w)
   exact ⟨_,_,_,hgo,.refl _,.bk (by simp)⟩
 | d4 h=>
  rcases Goes.cases h with hstop | ⟨m',rfl,hstep⟩
  ·obtain ⟨_,hmw,hx⟩:=hstop w (RW.refl w)
   obtain ⟨hW3,hoth,rfl,rfl⟩:=hmode.isLast hi (by omega)
   simp only [hst] at hwg
   obtain ⟨g',hgo,q,hq⟩:=hx (by simpa using hwg)
   exact ⟨_,_,_,hgo,RC.of_wg (aside_setCell w (smA Wg) _) ⟨_,_,hwg.setSm 1⟩,.bk bk_sem⟩
  ·obtain ⟨g',w',es,hgo,⟨rfl,rfl⟩,hg'⟩:=hstep w (RW.refl w)
   exact ⟨_,_,_,hgo,.refl _,.bk (by simp)⟩
 | quit h=>
  cases m with
  | zero=>rw [h.1] at hrun;cases hrun
  | succ q=>
   rcases h with ⟨hf,_⟩ | ⟨_,g',es,hmute,hstep,hq⟩
   ·rw [hf] at hrun;cases hrun
   ·exact ⟨_,_,_,hstep w,.refl w,.bk fun e he=>bk_of_mute (hmute e he)⟩
end
end
section
open Go Go.Conc Go.ConcN
open Go.ConcR (KK WgAt stA smA rd wr mk Payload DC0 Bk g_of_ofEvents ofEvent_loc_mark ofEvent_cell)
section
variable [Payload] {P:Program} {ty:TypeId} {Wg C n:Nat} {Own Rd:Nat→Loc→Prop} {Lw:Nat→Nat} {val:Nat→Value} {vals:List Value} {AnchW:Goroutine→World→Prop} {Post:Value→World→Prop}
 {gs:Array Goroutine} {w:World} {j:Nat} {D:Nat→WD} {tag:CTag} {f0 d0:Nat} {a:Goroutine} {t:Trace} {st sm:Int}
def CKind (Wg:Nat) (Own:Nat→Loc→Prop) (j:Nat) (fn:FuncId) (pos:String) (es:Array Event):Prop:=
 ∀ op ∈ MemOp.ofEvents 0 fn pos es,∀ x,op.act.touch? = some x→(ShN Wg x.loc∧x.kind≠.plain)∨∀ k,1≤k→k≤j→¬ Own k x.loc
omit [Payload] in
theorem CKind.bk {fn:FuncId} {pos:String} {es:Array Event} (h:∀ e ∈ es,Bk Wg e):CKind Wg Own j fn pos es:=by
 intro op hop x hx
 obtain ⟨e,he,rfl⟩:=Go.Conc.mem_ofEvents hop
 rcases h e he with h1 | h1 | ⟨a,wr,rfl,ha⟩
 ·simp only [ofEvent_loc_mark h1] at hx;cases hx
 ·simp only [ofEvent_loc_mark h1] at hx;cases hx
 ·simp only [ofEvent_cell,MemAct.touch?,Option.some.injEq] at hx
  subst hx
  exact .inl ⟨⟨a,rfl,ha⟩,by simp⟩
omit [Payload] in
theorem CKind.none {fn:FuncId} {pos:String} {es:Array Event} (h:∀ e ∈ es,(MemAct.ofEvent e).touch? = none):CKind Wg Own j fn pos es:=by
 intro op hop x hx
 obtain ⟨e,he,rfl⟩:=Go.Conc.mem_ofEvents hop
 rw [h e he] at hx
 cases hx
omit [Payload] in
theorem CKind.ev0 {fn:FuncId} {pos:String} {es:Array Event} (h:∀ e ∈ es,Ev0 Wg Own Rd j e):CKind Wg Own j fn pos es:=by
 intro op hop x hx
 rcases (ok0_of_Ev0 h op hop).2 x hx with h1 | h1
 ·exact .inl h1
 ·exact .inr h1.2.1
inductive CStep (P:Program) (Wg:Nat) (Own:Nat→Loc→Prop) (j n d0:Nat) (tag:CTag) (a:Goroutine) (w:World):Prop
 | go (a':Goroutine) (w':World) (es:Array Event) (h:stepG P true a w = .go a' w' es) (hk:CKind Wg Own j a.frame.fn a.frame.place es)
 | spawn (a' child:Goroutine) (h:stepG P true a w = .spawn a' child w #[]) (hd:d0=0) (hj:j<n)
 | done (v:Value) (es:Array Event) (h:stepG P true a w = .ended (.done v) w es) (ht:tag = .ret) (hk:CKind Wg Own j a.frame.fn a.frame.place es)
theorem goCaller (hn:n<2147483648) (hAn:∀ g w,AnchW g w→∃ m,Goes P true (RC ty Wg C) (DP Wg Own Rd n (Lw n)) (AtW1 P ty Wg C n Own Rd (Lw n) vals AnchW Post) m g w)
  (hl:vals.length=n) (hv:∀ i,i<n→vals[i]? = some (val i))
  (hcs:CSit P ty Wg C n Own Rd Lw val vals AnchW Post tag j f0 d0 a w) (hcom:Com P ty Wg C n Own Rd Lw val j gs w t D d0) (hwg:WgAt ty Wg w st sm) (hmode:ConcN.Mode j D tag st sm) (hrun:a.status = .running) :
  CStep P Wg Own j n d0 tag a w:=by
 have hVj:=Vc_le j D
 have idle:∀ {g':Goroutine} {w':World} {es:Array Event} {i:Nat},stepG P true a w = .go g' w' es→DP Wg Own Rd i (Lw i) w w' es→i=j→CStep P Wg Own j n d0 tag a w:=fun hgo hD e=>by
  subst e
  exact .go _ _ _ hgo (.ev0 hD.2)
 have w1:∀ {f:Nat},(∀ vs,tag≠.w2 vs)→pend tag=0→isOpen tag→j=n→Goes P true (RC ty Wg C) (DP Wg Own Rd n (Lw n)) (AtW1 P ty Wg C n Own Rd (Lw n) vals AnchW Post) f a w→CStep P Wg Own j n d0 tag a w:=by
  intro f htg hp ho hj h
  rcases Goes.cases h with hstop | ⟨m',rfl,hstep⟩
  ·obtain ⟨_,hall⟩:=hstop w (.refl w)
   obtain ⟨_,rfl,rfl,_⟩:=hmode.open_inv ho
   obtain ⟨a',hgo,_⟩:=hall (Vc j D) (by omega) (by simpa [hp] using hwg)
   exact .go _ _ _ hgo (.bk bk_rd)
  ·obtain ⟨a',w',es,hgo,hD,hg'⟩:=hstep w (.refl w)
   exact idle hgo hD hj.symm
 cases hcs with
 | skd hr h=>
  rcases Goes.cases h with hstop | ⟨m',rfl,hstep⟩
  ·obtain ⟨_,a',hgo,m₂,hk⟩:=hstop w (.refl w)
   exact .go _ _ _ hgo (.bk bk_dis)
  ·obtain ⟨a',w',es,hgo,hD,hg'⟩:=hstep w (.refl w)
   exact idle hgo hD rfl
 | sa1 hr h=>
  rename_i r
  rcases Goes.cases h with hstop | ⟨m',rfl,hstep⟩
  ·obtain ⟨_,hall⟩:=hstop w (.refl w)
   obtain ⟨ho,rfl,rfl,_⟩:=hmode.open_inv trivial
   obtain ⟨a',hgo,m₂,hk⟩:=hall (Vc (n - (r+1)) D) (by omega) (by simpa [pend] using hwg)
   exact .go _ _ _ hgo (.bk bk_rw)
  ·obtain ⟨a',w',es,hgo,hD,hg'⟩:=hstep w (.refl w)
   exact idle hgo hD rfl
 | ske hr h=>
  rcases Goes.cases h with hstop | ⟨m',rfl,hstep⟩
  ·obtain ⟨_,a',hgo,m₂,hk⟩:=hstop w (.refl w)
   exact .go _ _ _ hgo (.bk bk_en)
  ·obtain ⟨a',w',es,hgo,hD,hg'⟩:=hstep w (.refl w)
   exact idle hgo hD rfl
 | sgo hr h=>
  rcases Goes.cases h with hstop | ⟨m',rfl,hstep⟩
  ·obtain ⟨_,a',child,hsp,_,hwk0,hnext⟩:=hstop w (.refl w)
   exact .spawn _ _ hsp rfl (by omega)
  ·obtain ⟨a',w',es,hgo,hD,hg'⟩:=hstep w (.refl w)
   exact idle hgo hD rfl
 | kd h=>
  rcases Goes.cases h with hstop | ⟨m',rfl,hstep⟩
  ·obtain ⟨_,a',hgo,m₂,hk⟩:=hstop w (.refl w)
   exact .go _ _ _ hgo (.bk bk_dis)
  ·obtain ⟨a',w',es,hgo,hD,hg'⟩:=hstep w (.refl w)
   exact idle hgo hD rfl
 | anch h=>
  rcases Goes.cases h with hstop | ⟨m',rfl,hstep⟩
  ·obtain ⟨m₂,hk⟩:=hAn a w (hstop w (.refl w))
   exact w1 (by simp) rfl trivial rfl hk
  ·obtain ⟨a',w',es,hgo,hD,hg'⟩:=hstep w (.refl w)
   exact idle hgo hD rfl
 | w1 h=>exact w1 (by simp) rfl trivial rfl h
 | w2 h=>
  rename_i vs
  rcases Goes.cases h with hstop | ⟨m',rfl,hstep⟩
  ·obtain ⟨_,hall⟩:=hstop w (.refl w)
   obtain ⟨ho,rfl,rfl,hw2⟩:=hmode.open_inv trivial
   obtain ⟨hhit,hmiss⟩:=hall (Vc n D) (by omega) (by simpa [pend] using hwg)
   by_cases e:Vc n D=vs
   ·obtain ⟨a',hgo,m₂,hk⟩:=hhit e
    exact .go _ _ _ hgo (.bk bk_rw)
   ·obtain ⟨a',hgo,m₂,hk⟩:=hmiss e
    exact .go _ _ _ hgo (.bk bk_rd)
  ·obtain ⟨a',w',es,hgo,hD,hg'⟩:=hstep w (.refl w)
   exact idle hgo hD rfl
 | w3 h=>
  rcases Goes.cases h with hstop | ⟨m',rfl,hstep⟩
  ·obtain ⟨_,hoff,hblk,htake⟩:=hstop w (.refl w)
   cases hmode with
   | opn h1 _ _=>exact h1.elim
   | reg h1 h2 h3=>exact .go _ _ _ (hblk ⟨_,hwg⟩) (.bk (by simp))
   | last L h1 h2 h3 h4=>exact .go _ _ _ (hblk ⟨_,hwg⟩) (.bk (by simp))
   | sema h2=>
    obtain ⟨a',hgo,m₂,hk⟩:=htake hwg
    exact .go _ _ _ hgo (.bk bk_sem)
   | fin h1 _=>exact h1.elim
  ·obtain ⟨a',w',es,hgo,hD,hg'⟩:=hstep w (.refl w)
   exact idle hgo hD rfl
 | blk h=>simp at hrun
 | w4 h=>
  rcases Goes.cases h with hstop | ⟨m',rfl,hstep⟩
  ·obtain ⟨_,hx⟩:=hstop w (.refl w)
   obtain ⟨hq,rfl,rfl⟩:=hmode.fin_inv trivial
   obtain ⟨a',hgo,m₂,hk⟩:=hx hwg
   exact .go _ _ _ hgo (.bk bk_rd)
  ·obtain ⟨a',w',es,hgo,hD,hg'⟩:=hstep w (.refl w)
   exact idle hgo hD rfl
 | ke h=>
  rcases Goes.cases h with hstop | ⟨m',rfl,hstep⟩
  ·obtain ⟨_,a',hgo,m₂,hk⟩:=hstop w (.refl w)
   exact .go _ _ _ hgo (.bk bk_en)
  ·obtain ⟨a',w',es,hgo,hD,hg'⟩:=hstep w (.refl w)
   exact idle hgo hD rfl
 | acq h=>
  rcases Goes.cases h with hstop | ⟨m',rfl,hstep⟩
  ·obtain ⟨_,a',hgo,m₂,hk⟩:=hstop w (.refl w)
   exact .go _ _ _ hgo (.none (by intro e he;simp at he;subst he;rfl))
  ·obtain ⟨a',w',es,hgo,hD,hg'⟩:=hstep w (.refl w)
   exact idle hgo hD rfl
 | ret h=>
  rcases Goes.cases h with hstop | ⟨m',rfl,hstep⟩
  ·obtain ⟨_,hx⟩:=hstop w (.refl w)
   obtain ⟨hq,rfl,rfl⟩:=hmode.fin_inv trivial
   obtain ⟨v,es,hend,hev,hpost⟩:=hx (full_of hl hv hcom.pay fun i hi=>hcom.has i hi (by rw [hq i hi];omega))
   exact .done v es hend rfl (.ev0 hev)
  ·obtain ⟨a',w',es,hgo,hD,hg'⟩:=hstep w (.refl w)
   exact idle hgo hD rfl
end
end
section
open Go
def intType (T:Tables) (t:TypeId):Bool:=match Program.underlying ⟨T,#[]⟩ t with | some (.int _)=>true | _=>false
def builtinOk:Builtin→Bool
 | .append | .cap | .close | .copy | .delete | .len=>true
 | _=>false
def targetOk:Target→Bool
 | .builtin b _ _ _=>builtinOk b
 | .coroexit _=>false
 | _=>true
def deferOk:Target→Bool
 | .collected _=>true
 | _=>false
def opOk (T:Tables):Op→Bool
 | .convert src dst _=>intType T src && intType T dst
 | .call c=>match c.callee with | .builtin b=>builtinOk b | _=>true
 | .go _ | .defer _ | .panic _ | .select .. | .send .. | .recv .. | .ready _ | .waits _=>false
 | _=>true
def zaD (T:Tables):Code→Bool
 | .region _ ops _=>ops.all fun o=>opOk T o.op
 | .seq a b | .cond _ a b | .rangeFunc _ _ a b=>zaD T a && zaD T b
 | .block _ c | .loop c | .scope c=>zaD T c
 | _=>true
def objOk (T:Tables):Obj→Prop
 | .loop L=>zaD T L.assign=true∧zaD T L.body=true∧∀ c,L.pending=some c→zaD T c=true
 | .deferred (some ds)=>∀ d ∈ ds,deferOk d.target=true
 | _=>True
def writeOk (T:Tables):Obj→Prop
 | .loop L=>zaD T L.assign=true∧zaD T L.body=true∧∀ c,L.pending=some c→zaD T c=true
 | .deferred (some ds)=>∀ d ∈ ds,deferOk d.target=true
 | .coro none=>False
 | _=>True
theorem writeOk.ok {T:Tables} {o:Obj} (h:writeOk T o):objOk T o:=by
 cases o with
 | loop L=>exact h
 | deferred ds=>cases ds <;> exact h
 | _=>trivial
theorem writeOk.ne {T:Tables} {o:Obj} (h:writeOk T o):o≠.coro none:=by
 rintro rfl
 exact h
def Olden:Type:=Nat→Option Obj
abbrev Start:=Inhabited Olden
def Start.old [s:Start]:Nat→Option Obj:=s.default
def Eqv (x y:Option Obj):Prop:=x=y∨(((∃ L,x=some (.loop L))∨∃ ds,x=some (.deferred ds))∧y=some (.coro none))
structure Rel [Start] (T:Tables) (S:Nat→Prop) (w w':World):Prop where
 size:w.heap.size=w'.heap.size
 os:w.os=w'.os
 output:w.output=w'.output
 same:∀ b,¬ S b→Eqv w.heap[b]? w'.heap[b]?
 ok:∀ (b:Nat) (o:Obj),w'.heap[b]? = some o→objOk T o
 spoilt:∀ b,S b→∃ c e e',w.heap[b]? = some (.cells c e (0,0))∧w'.heap[b]? = some (.cells #[] e' (0,0))
 elem:∀ b,S b→∀ c e f c' e' f',w.heap[b]? = some (.cells c e f)→w'.heap[b]? = some (.cells c' e' f')→e=e'
 kept:∀ b:Nat,w'.heap[b]? = some (.coro none)→w.heap[b]? = Start.old b
def Dead:Halt→Prop
 | .stuck _=>True
 | .unsupported _=>True
 | _=>False
def markOk:Mark→Prop
 | .noRoom | .extern _=>True
 | _=>False
def Clear (S:Nat→Prop) (n:Nat) (e:Event):Prop:=(∀ a,e.loc = .cell a→¬ S a.block∧a.block<n)∧(∀ r,e.loc = .obj r→¬ S r∧r<n)∧e.loc≠.output∧∀ m,e.loc = .mark m→markOk m
theorem Clear.mono {S:Nat→Prop} {n m:Nat} {e:Event} (h:Clear S n e) (hm:n≤m):Clear S m e:=⟨fun a ha=>⟨(h.1 a ha).1,Nat.lt_of_lt_of_le (h.1 a ha).2 hm⟩,fun a ha=>⟨(h.2.1 a ha).1,Nat.lt_of_lt_of_le (h.2.1 a ha).2 hm⟩,h.2.2⟩
def Agree (w w':World) (n:Nat):Prop:=∀ j,j<n→∀ q,w.tape (w.drawn+j) q=w'.tape (w'.drawn+j) q
def Result.world {α:Type}:Result α→World
 | .ok _ w=>w
 | .halt _ w=>w
def Result.with {α:Type}:Result α→World→Result α
 | .ok a _,w=>.ok a w
 | .halt h _,w=>.halt h w
variable {T:Tables} {F F':Array Func}
structure Like [Start] (T:Tables) {α:Type} (S:Nat→Prop) (w w':World) (es:Array Event) (x:Result α×Array Event) (r':Result α):Prop where
 eq:r'=Result.with x.1 (Result.world r')
 rel:Rel T S (Result.world x.1) (Result.world r')
 ev:∃ es2,x.2=es++es2∧∀ e ∈ es2,Clear S (Result.world x.1).heap.size e
 grow:w.heap.size≤(Result.world x.1).heap.size
 dr':(Result.world r').drawn+w.drawn=w'.drawn+(Result.world x.1).drawn
 tp':(Result.world r').tape=w'.tape
 halts:∀ h w2,x.1 = .halt h w2→∃ v,h = .panic v
def IsDead {α:Type}:Result α→Prop
 | .halt h _=>Dead h
 | _=>False
def Sim (T:Tables) (F F':Array Func) {α:Type} (s:Sem α):Prop:=
 ∀ (_:Start) (S:Nat→Prop),(∀ b,S b→T.globals.size≤b)→∀ (w w':World) (es es':Array Event),Rel T S w w'→Agree w w' ((Result.world (s.runT ⟨T,F⟩ w es).1).drawn - w.drawn)→
  IsDead (s.runT ⟨T,F'⟩ w' es').1∨Like T S w w' es (s.runT ⟨T,F⟩ w es) (s.runT ⟨T,F'⟩ w' es').1
theorem Agree.mono {w w':World} {n m:Nat} (h:Agree w w' n) (hm:m≤n):Agree w w' m:=fun j hj q=>h j (by omega) q
theorem zar {P:Program} {α β:Type} (s:Sem α) (f:α→Sem β):∀ (w:World) (es:Array Event),(Sem.bind s f).runT P w es=match s.runT P w es with
  | (.ok a w1,es1)=>(f a).runT P w1 es1
  | (.halt h w1,es1)=>(.halt h w1,es1):=by
 induction s with
 | pure a=>intro w es;simp [Sem.bind,Sem.runT]
 | load m a k ih=>
  intro w es
  simp only [Sem.bind,Sem.runT]
  cases w.cell? a with
  | some v=>simp only;exact ih _ _ _
  | none=>
   simp only
   cases w.farLoad P a (m == .atomic) with
   | ok r=>obtain ⟨v,t⟩:=r;simp only;exact ih _ _ _
   | error h=>rfl
 | store m a v k ih=>
  intro w es
  simp only [Sem.bind]
  cases v <;> simp only [Sem.runT] <;> first | rfl | skip
  all_goals
   cases w.cell? a with
   | some v=>
    simp only
    cases w.frozen? a with
    | true=>rfl
    | false=>exact ih _ _
   | none=>
    simp only
    cases w.farStore P a _ (m == .atomic) with
    | ok r=>obtain ⟨v,t⟩:=r;simp only;exact ih _ _
    | error h=>rfl
 | new o k ih=>intro w es;simp only [Sem.bind,Sem.runT];exact ih _ _ _
 | shape r k ih=>intro w es;simp only [Sem.bind,Sem.runT];exact ih _ _ _
 | freeze a n k ih=>intro w es;simp only [Sem.bind,Sem.runT];exact ih _ _
 | frozen a k ih=>intro w es;simp only [Sem.bind,Sem.runT];exact ih _ _ _
 | getObj r k ih=>
  intro w es
  simp only [Sem.bind,Sem.runT]
  cases w.heap[r]? with
  | none=>rfl
  | some o=>cases o <;> first | rfl | (simp only;exact ih _ _ _)
 | setObj r o k ih=>
  intro w es
  simp only [Sem.bind,Sem.runT]
  cases w.heap[r]? with
  | none=>rfl
  | some o=>cases o <;> first | rfl | (simp only;exact ih _ _)
 | choose q k ih=>
  intro w es
  simp only [Sem.bind,Sem.runT]
  cases q.forced <;> simp only [if_true,if_false,Bool.false_eq_true] <;> exact ih _ _ _
 | sys c k ih=>intro w es;simp only [Sem.bind,Sem.runT];exact ih _ _ _
 | program k ih=>intro w es;simp only [Sem.bind,Sem.runT];exact ih _ _ _
 | mark m k ih=>intro w es;simp only [Sem.bind,Sem.runT];exact ih _ _
 | halt h=>intro w es;rfl
theorem ask_drawn {α:Type} (a:Ask α):∀ (w:World),w.drawn≤(w.ask a).2.drawn∧(w.ask a).2.tape=w.tape:=by
 induction a with
 | done a=>intro w;simp [World.ask]
 | ask what range k ih=>
  intro w
  simp only [World.ask]
  split
  ·exact ih _ w
  ·have:=ih (((Question.extern what range).cut (w.tape w.drawn (Question.extern what range)))) { w with drawn:=w.drawn+1 }
   exact ⟨by have:=this.1;simp only at this;omega,this.2⟩
theorem sys_drawn (c:Sys) (w:World):w.drawn≤(w.sys c).2.drawn∧(w.sys c).2.tape=w.tape:=by
 simp only [World.sys]
 have h:=ask_drawn (Kernel.perform c w.os) w
 generalize w.ask (Kernel.perform c w.os)=x at h
 obtain ⟨⟨r,os⟩,w1⟩:=x
 split
 ·exact ⟨Nat.le_refl _,rfl⟩
 ·rename_i r' os' w' _ he
  cases he
  exact h
theorem viewStore_keeps {p:Program} {w w1:World} {at_:Addr} {u:TypeId} {k:Addr} {v:Value} {b:Bool} {t:List Addr} (h:w.viewStore p at_ u k v b = .ok (w1,t)):∃ H,w1 = { w with heap:=H }:=by
 unfold World.viewStore at h
 simp only [bind,Except.bind,pure,Except.pure] at h
 repeat' (split at h)
 all_goals first | (cases h;done) | (cases h;exact ⟨_,rfl⟩)
theorem farStore_keeps {p:Program} {w w1:World} {a:Addr} {v:Value} {b:Bool} {t:List Addr} (h:w.farStore p a v b = .ok (w1,t)):∃ H,w1 = { w with heap:=H }:=by
 unfold World.farStore at h
 split at h
 ·split at h
  ·rename_i hv
   cases h
   exact viewStore_keeps hv
  ·cases h
 ·cases h
theorem runT_drawn {P:Program} {α:Type} (s:Sem α):∀ (w:World) (es:Array Event),w.drawn≤(Result.world (s.runT P w es).1).drawn∧(Result.world (s.runT P w es).1).tape=w.tape:=by
 induction s with
 | pure a=>intro w es;simp [Sem.runT,Result.world]
 | load m a k ih=>
  intro w es
  simp only [Sem.runT]
  cases w.cell? a with
  | some v=>simp only;exact ih _ _ _
  | none=>
   simp only
   cases w.farLoad P a (m == .atomic) with
   | ok r=>obtain ⟨v,t⟩:=r;simp only;exact ih _ _ _
   | error h=>simp [Result.world]
 | store m a v k ih=>
  intro w es
  cases v <;> simp only [Sem.runT] <;> first | (simp [Result.world];done) | skip
  all_goals
   cases w.cell? a with
   | some v=>
    simp only
    cases w.frozen? a with
    | true=>simp [Result.world]
    | false=>exact ih (w.setCell a _) _
   | none=>
    cases hf:w.farStore P a _ (m == .atomic) with
    | ok r=>
     obtain ⟨w1,t⟩:=r
     obtain ⟨H,rfl⟩:=farStore_keeps hf
     simp only
     exact ih { w with heap:=H } _
    | error h=>simp [Result.world]
 | new o k ih=>intro w es;simp only [Sem.runT];exact ih _ { w with heap:=w.heap.push o } _
 | shape r k ih=>intro w es;simp only [Sem.runT];exact ih _ _ _
 | freeze a n k ih=>
  intro w es
  simp only [Sem.runT]
  have:=ih (w.freeze a n) es
  have e:(w.freeze a n).drawn=w.drawn∧(w.freeze a n).tape=w.tape:=by simp only [World.freeze];split <;> exact ⟨rfl,rfl⟩
  rw [e.1,e.2] at this
  exact this
 | frozen a k ih=>intro w es;simp only [Sem.runT];exact ih _ _ _
 | getObj r k ih=>
  intro w es
  simp only [Sem.runT]
  cases w.heap[r]? with
  | none=>simp [Result.world]
  | some o=>cases o <;> first | (simp [Result.world];done) | (simp only;exact ih _ _ _)
 | setObj r o k ih=>
  intro w es
  simp only [Sem.runT]
  cases w.heap[r]? with
  | none=>simp [Result.world]
  | some o'=>cases o' <;> first | (simp [Result.world];done) | (simp only;exact ih { w with heap:=w.heap.setIfInBounds r o } _)
 | choose q k ih=>
  intro w es
  simp only [Sem.runT]
  cases q.forced <;> simp only [if_true,if_false,Bool.false_eq_true]
  ·have:=ih (q.cut (w.tape w.drawn q)) { w with drawn:=w.drawn+1 } es
   exact ⟨by have:=this.1;simp only at this;omega,this.2⟩
  ·exact ih _ _ _
 | sys c k ih=>
  intro w es
  simp only [Sem.runT]
  have h:=sys_drawn c w
  have:=ih (w.sys c).1 (w.sys c).2 (es.push ⟨.output,true,false⟩)
  exact ⟨Nat.le_trans h.1 this.1,this.2.trans h.2⟩
 | program k ih=>intro w es;simp only [Sem.runT];exact ih _ _ _
 | mark m k ih=>intro w es;simp only [Sem.runT];exact ih _ _
 | halt h=>intro w es;simp [Sem.runT,Result.world]
end
section
open Go
variable {T:Tables} {F F':Array Func}
theorem underlying_F (t:TypeId):Program.underlying ⟨T,F⟩ t=Program.underlying ⟨T,F'⟩ t:=rfl
theorem cellsOf_F (t:TypeId):Program.cellsOf ⟨T,F⟩ t=Program.cellsOf ⟨T,F'⟩ t:=rfl
theorem bytesOf_F (t:TypeId):Program.bytesOf ⟨T,F⟩ t=Program.bytesOf ⟨T,F'⟩ t:=rfl
theorem depth_F:Program.depth ⟨T,F⟩=Program.depth ⟨T,F'⟩:=rfl
theorem byteOfCell_F:∀ (d:Nat) (t:TypeId) (off:Nat),byteOfCell ⟨T,F⟩ d t off=byteOfCell ⟨T,F'⟩ d t off:=by
 intro d
 induction d with
 | zero=>intro t off;rfl
 | succ d ih=>
  intro t off
  have ih':byteOfCell ⟨T,F⟩ d=byteOfCell ⟨T,F'⟩ d:=by funext t off;exact ih t off
  show byteOfCell ⟨T,F⟩ (d+1) t off=_
  unfold byteOfCell
  rw [ih']
  rfl
theorem cellHolding_F:∀ (d:Nat) (t:TypeId) (b:Nat),cellHolding ⟨T,F⟩ d t b=cellHolding ⟨T,F'⟩ d t b:=by
 intro d
 induction d with
 | zero=>intro t off;rfl
 | succ d ih=>
  intro t off
  have ih':cellHolding ⟨T,F⟩ d=cellHolding ⟨T,F'⟩ d:=by funext t off;exact ih t off
  show cellHolding ⟨T,F⟩ (d+1) t off=_
  unfold cellHolding
  rw [ih']
  rfl
theorem plainCell_F:∀ (d:Nat) (t:TypeId) (off:Nat),plainCell ⟨T,F⟩ d t off=plainCell ⟨T,F'⟩ d t off:=by
 intro d
 induction d with
 | zero=>intro t off;rfl
 | succ d ih=>
  intro t off
  have ih':plainCell ⟨T,F⟩ d=plainCell ⟨T,F'⟩ d:=by funext t off;exact ih t off
  show plainCell ⟨T,F⟩ (d+1) t off=_
  unfold plainCell
  rw [ih']
  rfl
theorem tight_F:∀ (d:Nat) (t:TypeId),tight ⟨T,F⟩ d t=tight ⟨T,F'⟩ d t:=by
 intro d
 induction d with
 | zero=>intro t;rfl
 | succ d ih=>
  intro t
  have ih':tight ⟨T,F⟩ d=tight ⟨T,F'⟩ d:=by funext t;exact ih t
  show tight ⟨T,F⟩ (d+1) t=_
  unfold tight
  rw [ih']
  rfl
theorem seenCells_F (c:Array Value) (e:TypeId):∀ (fuel x stop:Nat),seenCells ⟨T,F⟩ c e fuel x stop=seenCells ⟨T,F'⟩ c e fuel x stop:=by
 intro fuel
 induction fuel with
 | zero=>intro x stop;rfl
 | succ d ih=>
  intro x stop
  unfold seenCells
  simp only [ih,cellHolding_F (F:=F) (F':=F'),bytesOf_F (F:=F) (F':=F'),depth_F (F:=F) (F':=F'),cellsOf_F (F:=F) (F':=F')]
theorem seen_F (w:World) (at_:Addr) (u:TypeId) (k:Addr) (b:Bool):w.seen ⟨T,F⟩ at_ u k b=w.seen ⟨T,F'⟩ at_ u k b:=by
 unfold World.seen
 simp only [seenCells_F (F:=F) (F':=F'),plainCell_F (F:=F) (F':=F'),byteOfCell_F (F:=F) (F':=F'),bytesOf_F (F:=F) (F':=F'),depth_F (F:=F) (F':=F'),cellsOf_F (F:=F) (F':=F')]
theorem seen_w {P:Program} {w w':World} {at_:Addr} (u:TypeId) (k:Addr) (b:Bool) (h:w.heap[at_.block]? = w'.heap[at_.block]?):w.seen P at_ u k b=w'.seen P at_ u k b:=by
 unfold World.seen
 rw [h]
theorem leBytes_len:∀ (s n:Nat),(leBytes s n).length=s
 | 0,_=>rfl
 | s+1,n=>by simp [leBytes,leBytes_len s]
theorem plainCell_pos {P:Program}:∀ (d:Nat) (t:TypeId) (off:Nat) (v:Value),plainCell P d t off=some v→∃ bs,v.bytes? = some bs∧0<bs.length:=by
  intro d
  induction d with
  | zero=>intro t off v h;cases h
  | succ d ih=>
    intro t off v h
    unfold plainCell at h
    split at h
    · rw [Array.findSome?_eq_some_iff] at h
      obtain ⟨l1,a,l2,_,h,_⟩:=h
      split at h
      · exact ih _ _ _ h
      · cases h
    · simp only at h
      split at h
      · cases h
      · exact ih _ _ _ h
    all_goals first
      | (split at h
         · cases h
           first
             | (refine ⟨_,rfl,?_⟩;rename_i k _ _;rw [leBytes_len];cases k <;> decide)
             | (refine ⟨_,rfl,?_⟩;rename_i k _ _;rw [List.length_append,leBytes_len];cases k <;> decide)
             | (refine ⟨_,rfl,?_⟩;simp;done)
         · cases h)
      | cases h
theorem seenCells_nil {P:Program} {e:TypeId} {n x:Nat} (hn:0<n) {c:List (Nat×Nat×List UInt8)} (h:seenCells P #[] e (n+1) x (x+n) = .ok c):False:=by
 unfold seenCells at h
 split at h
 ·omega
 ·simp only at h
  split at h
  ·cases h
  ·split at h
   ·cases h
   ·simp at h
theorem seen_close {P:Program} {d:Nat} {u:TypeId} {off:Nat} {like:Value} {n:Nat} {e:TypeId} {x:Nat} {c:List (Nat×Nat×List UInt8)} (h1:plainCell P d u off=some like) (h2:Option.map (fun x=>x.length) like.bytes? = some n) (h3:seenCells P #[] e (n+1) x (x+n) = .ok c):False:=by
 obtain ⟨bs,hb,hl⟩:=plainCell_pos _ _ _ _ h1
 rw [hb] at h2
 cases h2
 exact seenCells_nil hl h3
theorem seen_spoilt {P:Program} {w:World} {at_:Addr} {u:TypeId} {k:Addr} {b:Bool} {e:TypeId} {fr:Nat×Nat} (h:w.heap[at_.block]? = some (.cells #[] e fr)):∃ why,w.seen P at_ u k b = .error why:=by
 cases hs:w.seen P at_ u k b with
 | error why=>exact ⟨_,rfl⟩
 | ok r=>
  exfalso
  unfold World.seen at hs
  rw [h] at hs
  simp only [bind,Except.bind,pure,Except.pure] at hs
  repeat' (split at hs)
  all_goals first
   | (cases hs;done)
   | skip
  all_goals exact seen_close (by assumption) (by assumption) (by assumption)
theorem seen_coro {P:Program} {w:World} {at_:Addr} {u:TypeId} {k:Addr} {b:Bool} (h:w.heap[at_.block]? = some (.coro none)):∃ why,w.seen P at_ u k b = .error why:=by
 cases hs:w.seen P at_ u k b with
 | error why=>exact ⟨_,rfl⟩
 | ok r=>
  exfalso
  unfold World.seen at hs
  rw [h] at hs
  simp only [bind,Except.bind,pure,Except.pure] at hs
  repeat' (split at hs)
  all_goals (cases hs;done)
end
section
open Go
variable {T:Tables} {F F':Array Func}
section
variable [Start] {S:Nat→Prop} {w w':World} (h:Rel T S w w')
include h
theorem Rel.cell {a:Addr} (hS:¬ S a.block):w.cell? a=w'.cell? a:=by
 unfold World.cell?
 rcases h.same _ hS with e | ⟨⟨L,e⟩ | ⟨L,e⟩,e'⟩
 ·rw [e]
 ·rw [e,e']
 ·rw [e,e']
theorem Rel.shape {r:Nat} (hS:¬ S r):w.shape? r=w'.shape? r:=by
 unfold World.shape?
 rcases h.same _ hS with e | ⟨⟨L,e⟩ | ⟨L,e⟩,e'⟩
 ·rw [e]
 ·rw [e,e']
 ·rw [e,e']
theorem Rel.cellS {a:Addr} (hS:S a.block):w'.cell? a=none:=by
 obtain ⟨c,e,e',_,h'⟩:=h.spoilt _ hS
 unfold World.cell?
 rw [h']
 simp
theorem Rel.notS_of_cell {a:Addr} {v:Value} (hc:w'.cell? a=some v):¬ S a.block:=fun hS=>by rw [h.cellS hS] at hc;cases hc
theorem Rel.frozen (a:Addr):w.frozen? a=w'.frozen? a:=by
 by_cases hS:S a.block
 ·obtain ⟨c,e,e',h1,h2⟩:=h.spoilt _ hS
  unfold World.frozen?
  rw [h1,h2]
 ·unfold World.frozen?
  rcases h.same _ hS with e | ⟨⟨L,e⟩ | ⟨L,e⟩,e'⟩
  ·rw [e]
  ·rw [e,e']
  ·rw [e,e']
theorem Rel.lt {b:Nat} (hS:S b):b<w.heap.size:=by
 obtain ⟨c,e,e',h1,h2⟩:=h.spoilt _ hS
 exact (Array.getElem?_eq_some_iff.1 h1).1
theorem Rel.setCell {a:Addr} (v:Value) (hS:¬ S a.block):Rel T S (w.setCell a v) (w'.setCell a v):=by
 refine ⟨by simp [World.setCell,h.size],h.os,h.output,fun b hb=>?_,fun b o hb=>?_,fun b hb=>?_,fun b hb=>?_,fun b hb=>?_⟩
 ·simp only [World.setCell,Array.getElem?_modify]
  split
  ·rcases h.same b hb with e | ⟨⟨L,e⟩ | ⟨L,e⟩,e'⟩
   ·rw [e];exact .inl rfl
   ·rw [e,e'];exact .inr ⟨.inl ⟨L,rfl⟩,rfl⟩
   ·rw [e,e'];exact .inr ⟨.inr ⟨L,rfl⟩,rfl⟩
  ·exact h.same b hb
 ·simp only [World.setCell,Array.getElem?_modify] at hb
  split at hb
  ·cases ho:w'.heap[b]? with
   | none=>rw [ho] at hb;cases hb
   | some o'=>
    rw [ho] at hb
    have:=h.ok b o' ho
    cases o' <;> first | (cases hb;exact this) | (cases hb;trivial)
  ·exact h.ok b o hb
 ·have hne:¬ a.block=b:=fun e=>hS (e ▸ hb)
  simp only [World.setCell,Array.getElem?_modify,if_neg hne]
  exact h.spoilt b hb
 ·have hne:¬ a.block=b:=fun e=>hS (e ▸ hb)
  simp only [World.setCell,Array.getElem?_modify,if_neg hne]
  exact h.elem b hb
 ·simp only [World.setCell,Array.getElem?_modify] at hb ⊢
  split at hb
  ·rename_i hab
   rw [if_pos hab]
   cases ho:w'.heap[b]? with
   | none=>rw [ho] at hb;cases hb
   | some o'=>
    rw [ho] at hb
    have hc:w'.heap[b]? = some (.coro none):=by
     rw [ho]
     cases o' <;> first | exact hb | (cases hb;done)
    rw [h.kept b hc]
    have hs:=h.same b (fun hS'=>hS (hab ▸ hS'))
    rw [hc,h.kept b hc] at hs
    rcases hs with e | ⟨⟨L,e⟩ | ⟨L,e⟩,_⟩ <;> rw [e] <;> rfl
  ·rename_i hab
   rw [if_neg hab]
   exact h.kept b hb
theorem Rel.setAt {r:Nat} {o:Obj} (ho:writeOk T o) (hS:¬ S r):Rel T S { w with heap:=w.heap.setIfInBounds r o } { w' with heap:=w'.heap.setIfInBounds r o }:=by
 refine ⟨by simp [h.size],h.os,h.output,fun b hb=>?_,fun b o' hb=>?_,fun b hb=>?_,fun b hb=>?_,fun b hb=>?_⟩
 ·simp only [Array.getElem?_setIfInBounds,h.size]
  split
  ·exact .inl rfl
  ·exact h.same b hb
 ·simp only [Array.getElem?_setIfInBounds] at hb
  split at hb
  ·split at hb
   ·cases hb;exact ho.ok
   ·cases hb
  ·exact h.ok b o' hb
 ·have hne:¬ r=b:=fun e=>hS (e ▸ hb)
  simp only [Array.getElem?_setIfInBounds,if_neg hne]
  exact h.spoilt b hb
 ·have hne:¬ r=b:=fun e=>hS (e ▸ hb)
  simp only [Array.getElem?_setIfInBounds,if_neg hne]
  exact h.elem b hb
 ·simp only [Array.getElem?_setIfInBounds,h.size] at hb ⊢
  split at hb
  ·split at hb
   ·exact absurd (Option.some.inj hb) ho.ne
   ·cases hb
  ·rename_i hne
   rw [if_neg hne]
   exact h.kept b hb
theorem Rel.push {o:Obj} (ho:writeOk T o):Rel T S { w with heap:=w.heap.push o } { w' with heap:=w'.heap.push o }:=by
 refine ⟨by simp [h.size],h.os,h.output,fun b hb=>?_,fun b o' hb=>?_,fun b hb=>?_,fun b hb=>?_,fun b hb=>?_⟩
 ·simp only [Array.getElem?_push,h.size]
  split
  ·exact .inl rfl
  ·exact h.same b hb
 ·simp only [Array.getElem?_push] at hb
  split at hb
  ·cases hb;exact ho.ok
  ·exact h.ok b o' hb
 ·have:=h.lt hb
  have hne:¬ b=w.heap.size:=by omega
  simp only [Array.getElem?_push,if_neg hne]
  rw [← h.size,if_neg hne]
  exact h.spoilt b hb
 ·have:=h.lt hb
  have hne:¬ b=w.heap.size:=by omega
  simp only [Array.getElem?_push,if_neg hne]
  rw [← h.size,if_neg hne]
  exact h.elem b hb
 ·simp only [Array.getElem?_push,h.size] at hb ⊢
  split at hb
  ·exact absurd (Option.some.inj hb) ho.ne
  ·rename_i hne
   rw [if_neg hne]
   exact h.kept b hb
theorem Rel.drew:Rel T S { w with drawn:=w.drawn+1 } { w' with drawn:=w'.drawn+1 }:=⟨h.size,h.os,h.output,h.same,h.ok,h.spoilt,h.elem,h.kept⟩
end
theorem noCell_dead (w:World) (a:Addr) (what:String):Dead (w.noCell a what):=by
 unfold World.noCell
 split <;> trivial
theorem viewLoad_at {P:Program} {w:World} {at_:Addr} {u:TypeId} {a:Addr} {b:Bool} {r:Value×List Addr} (h:w.viewLoad P at_ u a b = .ok r):∀ x ∈ r.2,x.block=at_.block:=by
 unfold World.viewLoad at h
 simp only [Bind.bind,Except.bind,Pure.pure,Except.pure] at h
 split at h
 ·cases h
 ·split at h
  ·cases h
   intro x hx
   obtain ⟨y,_,rfl⟩:=List.mem_map.1 hx
   rfl
  ·cases h
theorem viewLoad_lt {P:Program} {w:World} {at_:Addr} {u:TypeId} {a:Addr} {b:Bool} {r:Value×List Addr} (h:w.viewLoad P at_ u a b = .ok r):at_.block<w.heap.size:=by
 apply Classical.byContradiction
 intro hn
 have hno:w.heap[at_.block]? = none:=Array.getElem?_eq_none (by omega)
 cases hs:w.seen P at_ u a b with
 | error x=>
  unfold World.viewLoad at h
  rw [hs] at h
  cases h
 | ok y=>
  unfold World.seen at hs
  rw [hno] at hs
  simp only [Bind.bind,Except.bind] at hs
  repeat' (split at hs)
  all_goals (cases hs;done)
theorem Rel.farLoad [Start] {S:Nat→Prop} {w w':World} (h:Rel T S w w') {a:Addr} (b:Bool) (hS:¬ S a.block) :
  (∃ x,w'.farLoad ⟨T,F'⟩ a b = .error x∧Dead x)∨∃ r,w.farLoad ⟨T,F⟩ a b = .ok r∧w'.farLoad ⟨T,F'⟩ a b = .ok r∧∀ x ∈ r.2,¬ S x.block∧x.block<w.heap.size:=by
 simp only [World.farLoad]
 rcases h.same _ hS with e | ⟨_,e'⟩
 ·rw [← e]
  cases ho:w.heap[a.block]? with
  | none=>exact .inl ⟨_,rfl,noCell_dead _ _ _⟩
  | some o=>
   cases o
   case view at_ u=>
    simp only
    by_cases hV:S at_.block
    ·left
     obtain ⟨c,e,e',_,h'⟩:=h.spoilt _ hV
     obtain ⟨why,hw⟩:=seen_spoilt (P:=⟨T,F'⟩) (u:=u) (k:=a) (b:=b) h'
     simp only [World.viewLoad,hw,Bind.bind,Except.bind]
     exact ⟨_,rfl,trivial⟩
    ·rcases h.same _ hV with e2 | ⟨_,e2⟩
     ·have e1:w'.viewLoad ⟨T,F'⟩ at_ u a b=w.viewLoad ⟨T,F⟩ at_ u a b:=by
       unfold World.viewLoad
       rw [seen_F (F:=F') (F':=F),seen_w (w:=w') (w':=w) u a _ e2.symm]
      rw [e1]
      cases hvl:w.viewLoad ⟨T,F⟩ at_ u a b with
      | error why=>exact .inl ⟨_,rfl,trivial⟩
      | ok r=>exact .inr ⟨_,rfl,rfl,fun x hx=>by rw [viewLoad_at hvl x hx];exact ⟨hV,viewLoad_lt hvl⟩⟩
     ·left
      obtain ⟨why,hw⟩:=seen_coro (P:=⟨T,F'⟩) (u:=u) (k:=a) (b:=b) e2
      simp only [World.viewLoad,hw,Bind.bind,Except.bind]
      exact ⟨_,rfl,trivial⟩
   all_goals exact .inl ⟨_,rfl,noCell_dead _ _ _⟩
 ·rw [e']
  exact .inl ⟨_,rfl,noCell_dead _ _ _⟩
theorem viewStore_at {P:Program} {w:World} {at_:Addr} {u:TypeId} {a:Addr} {v:Value} {b:Bool} {r:World×List Addr} (h:w.viewStore P at_ u a v b = .ok r):(∀ x ∈ r.2,x.block=at_.block)∧∃ o,r.1 = { w with heap:=w.heap.setIfInBounds at_.block o }:=by
  unfold World.viewStore at h
  simp only [Bind.bind,Except.bind,Pure.pure,Except.pure] at h
  repeat' (split at h)
  all_goals first
    | (cases h;done)
    | (cases h
       refine ⟨?_,_,rfl⟩
       intro x hx
       obtain ⟨y,_,rfl⟩:=List.mem_map.1 hx
       rfl)
theorem viewStore_eq {w w':World} {at_:Addr} (hV:w.heap[at_.block]? = w'.heap[at_.block]?) (u:TypeId) (a:Addr) (v:Value) (b:Bool) :
  (∃ x,w'.viewStore ⟨T,F'⟩ at_ u a v b = .error x)∨∃ c e f t,w.viewStore ⟨T,F⟩ at_ u a v b = .ok ({ w with heap:=w.heap.setIfInBounds at_.block (.cells c e f) },t)∧w'.viewStore ⟨T,F'⟩ at_ u a v b = .ok ({ w' with heap:=w'.heap.setIfInBounds at_.block (.cells c e f) },t):=by
 unfold World.viewStore
 rw [seen_F (F:=F') (F':=F),seen_w (w:=w') (w':=w) u a _ hV.symm,tight_F (F:=F') (F':=F),depth_F (F:=F') (F':=F)]
 simp only [Bind.bind,Except.bind,Pure.pure,Except.pure]
 cases tight ⟨T,F⟩ (Program.depth ⟨T,F⟩) u with
 | false=>exact .inl ⟨_,rfl⟩
 | true=>
  simp only [Bool.not_true,Bool.false_eq_true,if_false]
  cases w.seen ⟨T,F⟩ at_ u a b with
  | error x=>exact .inl ⟨_,rfl⟩
  | ok r=>
   simp only
   cases v.bytes? with
   | none=>exact .inl ⟨_,rfl⟩
   | some bytes=>
    simp only
    split
    ·exact .inl ⟨_,rfl⟩
    ·split
     ·exact .inl ⟨_,rfl⟩
     ·exact .inr ⟨_,_,_,_,rfl,rfl⟩
theorem viewStore_lt {P:Program} {w:World} {at_:Addr} {u:TypeId} {a:Addr} {v:Value} {b:Bool} {r:World×List Addr} (h:w.viewStore P at_ u a v b = .ok r):at_.block<w.heap.size:=by
 apply Classical.byContradiction
 intro hn
 have hno:w.heap[at_.block]? = none:=Array.getElem?_eq_none (by omega)
 cases hs:w.seen P at_ u a b with
 | error x=>
  unfold World.viewStore at h
  rw [hs] at h
  cases ht:tight P (Program.depth P) u <;> rw [ht] at h <;> cases h
 | ok y=>
  unfold World.seen at hs
  rw [hno] at hs
  simp only [Bind.bind,Except.bind] at hs
  repeat' (split at hs)
  all_goals (cases hs;done)
theorem Rel.farStore [Start] {S:Nat→Prop} {w w':World} (h:Rel T S w w') {a:Addr} (v:Value) (b:Bool) (hS:¬ S a.block) :
  (∃ x,w'.farStore ⟨T,F'⟩ a v b = .error x∧Dead x)∨∃ w1 w1' t,w.farStore ⟨T,F⟩ a v b = .ok (w1,t)∧w'.farStore ⟨T,F'⟩ a v b = .ok (w1',t)∧Rel T S w1 w1'∧(∀ x ∈ t,¬ S x.block∧x.block<w1.heap.size)∧w.heap.size≤w1.heap.size∧w1.drawn=w.drawn∧w1'.drawn=w'.drawn∧w1.tape=w.tape∧w1'.tape=w'.tape:=by
 simp only [World.farStore]
 rcases h.same _ hS with e | ⟨_,e'⟩
 ·rw [← e]
  cases ho:w.heap[a.block]? with
  | none=>exact .inl ⟨_,rfl,noCell_dead _ _ _⟩
  | some o=>
   cases o
   case view at_ u=>
    simp only
    have dead:(∃ why,w'.seen ⟨T,F'⟩ at_ u a b = .error why)→∃ x,w'.viewStore ⟨T,F'⟩ at_ u a v b = .error x:=by
     rintro ⟨why,hw⟩
     unfold World.viewStore
     rw [hw]
     cases tight ⟨T,F'⟩ (Program.depth ⟨T,F'⟩) u <;> exact ⟨_,rfl⟩
    by_cases hV:S at_.block
    ·left
     obtain ⟨c,e,e',_,h'⟩:=h.spoilt _ hV
     obtain ⟨x,hx⟩:=dead (seen_spoilt h')
     rw [hx]
     exact ⟨_,rfl,trivial⟩
    ·rcases h.same _ hV with e2 | ⟨_,e2⟩
     ·rcases viewStore_eq (T:=T) (F:=F) (F':=F') e2 u a v b with ⟨x,hx⟩ | ⟨c,e,f,t,h1,h2⟩
      ·rw [hx];exact .inl ⟨_,rfl,trivial⟩
      ·rw [h1,h2]
       exact .inr ⟨_,_,_,rfl,rfl,h.setAt trivial hV,fun x hx=>by rw [(viewStore_at h1).1 x hx];exact ⟨hV,by simpa using viewStore_lt h1⟩,by simp,rfl,rfl,rfl,rfl⟩
     ·left
      obtain ⟨x,hx⟩:=dead (seen_coro e2)
      rw [hx]
      exact ⟨_,rfl,trivial⟩
   all_goals exact .inl ⟨_,rfl,noCell_dead _ _ _⟩
 ·rw [e']
  exact .inl ⟨_,rfl,noCell_dead _ _ _⟩
theorem Like.step [Start] {α:Type} {S:Nat→Prop} {w w' w1 w1':World} {es es1:Array Event} {x:Result α×Array Event} {r':Result α} (h:Like T S w1 w1' es1 x r') (hd:w1'.drawn+w.drawn=w'.drawn+w1.drawn) (ht:w1'.tape=w'.tape)
  (he:∃ m,es1=es++m∧∀ e ∈ m,Clear S w1.heap.size e) (hg:w.heap.size≤w1.heap.size:=by exact Nat.le_refl _):Like T S w w' es x r':=by
 obtain ⟨m,hm,hc⟩:=he
 obtain ⟨m2,hm2,hc2⟩:=h.ev
 refine ⟨h.eq,h.rel,⟨m++m2,by rw [hm2,hm,Array.append_assoc],fun e he=>?_⟩,Nat.le_trans hg h.grow,?_,h.tp'.trans ht,h.halts⟩
 ·rcases Array.mem_append.1 he with he | he
  ·exact (hc e he).mono h.grow
  ·exact hc2 e he
 ·have:=h.dr';omega
theorem clear_cell {S:Nat→Prop} {a:Addr} {b c:Bool} {n:Nat} (h:¬ S a.block) (hn:a.block<n):Clear S n ⟨.cell a,b,c⟩:=⟨fun _ e=>by cases e;exact ⟨h,hn⟩,(fun _ e=>by cases e),(fun e=>by cases e),fun _ e=>by cases e⟩
theorem clear_obj {S:Nat→Prop} {r:Nat} {b c:Bool} {n:Nat} (h:¬ S r) (hn:r<n):Clear S n ⟨.obj r,b,c⟩:=⟨(fun _ e=>by cases e),(fun _ e=>by cases e;exact ⟨h,hn⟩),(fun e=>by cases e),fun _ e=>by cases e⟩
theorem push_ev {S:Nat→Prop} {es:Array Event} {e:Event} {n:Nat} (h:Clear S n e):∃ m,es.push e=es++m∧∀ x ∈ m,Clear S n x:=⟨#[e],by simp,by simpa using h⟩
theorem no_ev {S:Nat→Prop} {es:Array Event} {n:Nat}:∃ m,es=es++m∧∀ x ∈ m,Clear S n x:=⟨#[],by simp,by simp⟩
theorem lt_of_cell {w:World} {a:Addr} {v:Value} (h:w.cell? a=some v):a.block<w.heap.size:=by
 unfold World.cell? at h
 split at h
 ·rename_i hx;exact (Array.getElem?_eq_some_iff.1 hx).1
 ·cases h
theorem lt_of_obj {w:World} {r:Nat} {o:Obj} (h:w.heap[r]? = some o):r<w.heap.size:=(Array.getElem?_eq_some_iff.1 h).1
namespace Sim
variable {α β:Type}
theorem pure (a:α):Sim T F F' (Sem.pure a):=fun _ S hT w w' es es' hR _=>.inr ⟨rfl,hR,no_ev,Nat.le_refl _,rfl,rfl,fun _ _ e=>by cases e⟩
theorem halt {h:Halt} (hd:Dead h):Sim T F F' (Sem.halt h:Sem α):=fun _ _ _ _ _ _ _ _ _=>.inl hd
theorem goPanic (v:Value):Sim T F F' (Sem.halt (.panic v):Sem α):=fun _ S hT w w' es es' hR _=>.inr ⟨rfl,hR,no_ev,Nat.le_refl _,rfl,rfl,fun _ _ e=>by cases e;exact ⟨_,rfl⟩⟩
theorem bind {s:Sem α} {f:α→Sem β} (hs:Sim T F F' s) (hf:∀ a,Sim T F F' (f a)):Sim T F F' (Sem.bind s f):=by
 intro _ S hT w w' es es' hR hA
 rw [zar] at hA
 rw [zar,zar]
 have hd:=runT_drawn (P:=⟨T,F⟩) s w es
 have h1:=hs _ S hT w w' es es' hR
 have hdf:=fun a=>runT_drawn (P:=⟨T,F⟩) (f a)
 revert hA hd h1
 generalize Sem.runT ⟨T,F⟩ s w es=x
 generalize Sem.runT ⟨T,F'⟩ s w' es'=x'
 intro hA hd h1
 obtain ⟨r,es1⟩:=x
 obtain ⟨r',es1'⟩:=x'
 cases r with
 | halt h w1=>
  simp only at hA ⊢
  rcases h1 hA with h1 | h1
  ·left
   cases r' with
   | halt h' w1'=>exact h1
   | ok a w1'=>exact h1.elim
  ·have he:=h1.eq
   simp only [Result.with] at he
   rw [he] at h1 ⊢
   right
   exact ⟨rfl,h1.rel,h1.ev,h1.grow,h1.dr',h1.tp',fun h2 w2 e=>by cases e;exact h1.halts _ _ rfl⟩
 | ok a w1=>
  have hA:Agree w w' ((Result.world ((f a).runT ⟨T,F⟩ w1 es1).1).drawn - w.drawn):=hA
  have hd:w.drawn≤w1.drawn∧w1.tape=w.tape:=hd
  have hdf:=hdf a w1 es1
  rcases h1 (hA.mono (show w1.drawn - w.drawn≤_ by omega)) with h1 | h1
  ·left
   cases r' with
   | halt h' w1'=>exact h1
   | ok a w1'=>exact h1.elim
  ·have he:=h1.eq
   simp only [Result.with] at he
   cases r' with
   | halt h' w1'=>cases he
   | ok a' w1'=>
    cases he
    have hrel:Rel T S w1 w1':=h1.rel
    have hdr:w1'.drawn+w.drawn=w'.drawn+w1.drawn:=h1.dr'
    have htp:w1'.tape=w'.tape:=h1.tp'
    have hev:∃ m,es1=es++m∧∀ x ∈ m,Clear S w1.heap.size x:=h1.ev
    have hA':Agree w1 w1' ((Result.world ((f a).runT ⟨T,F⟩ w1 es1).1).drawn - w1.drawn):=by
     intro j hj q
     have:=hA (w1.drawn - w.drawn+j) (by omega) q
     rw [hd.2,htp]
     have e1:w.drawn+(w1.drawn - w.drawn+j)=w1.drawn+j:=by omega
     have e2:w'.drawn+(w1.drawn - w.drawn+j)=w1'.drawn+j:=by omega
     rw [e1,e2] at this
     exact this
    rcases hf a _ S hT w1 w1' es1 es1' hrel hA' with h2 | h2
    ·exact .inl h2
    ·exact .inr (h2.step hdr htp hev h1.grow)
theorem load {m:Mode} {a:Addr} {k:Value→Sem α} (hk:∀ v,Sim T F F' (k v)):Sim T F F' (Sem.load m a k):=by
 intro _ S hT w w' es es' hR hA
 simp only [Sem.runT] at hA ⊢
 by_cases hS:S a.block
 ·left
  obtain ⟨c,e,e',_,h'⟩:=hR.spoilt _ hS
  rw [hR.cellS hS]
  simp only [World.farLoad,h',World.noCell]
  trivial
 ·rw [← hR.cell hS]
  cases hc:w.cell? a with
  | some v=>
   rw [hc] at hA
   simp only at hA ⊢
   rcases hk v _ S hT w w' _ (es'.push ⟨.cell a,false,m == .atomic⟩) hR hA with h | h
   ·exact .inl h
   ·exact .inr (h.step (by omega) rfl (push_ev (clear_cell hS (lt_of_cell hc))))
  | none=>
   rw [hc] at hA
   simp only at hA ⊢
   rcases hR.farLoad (T:=T) (F:=F) (F':=F') (m == .atomic) hS with ⟨x,hx,hd⟩ | ⟨⟨v,t⟩,h1,h2,h3⟩
   ·rw [hx];exact .inl hd
   ·rw [h1] at hA ⊢
    rw [h2]
    simp only at hA ⊢
    rcases hk v _ S hT w w' _ (es'++(t.toArray.map (⟨.cell ·,false,m == .atomic⟩))) hR hA with h | h
    ·exact .inl h
    ·refine .inr (h.step (by omega) rfl ⟨_,rfl,fun e he=>?_⟩)
     obtain ⟨x,hx,rfl⟩:=Array.mem_map.1 he
     exact clear_cell (h3 x (by simpa using hx)).1 (h3 x (by simpa using hx)).2
theorem store {m:Mode} {a:Addr} {v:Value} {k:Sem α} (hk:Sim T F F' k):Sim T F F' (Sem.store m a v k):=by
 have main:(∀ x,v≠.agg x)→(∀ x,v≠.tuple x)→Sim T F F' (Sem.store m a v k):=by
  intro n1 n2 _ S hT w w' es es' hR hA
  have e1:∀ (P:Program) (w:World) (es:Array Event),(Sem.store m a v k).runT P w es=match w.cell? a with
   | some _=>
    if w.frozen? a then (.halt (.unsupported (.unsafePointer "a write to bytes that a string shares")) w,es)
    else k.runT P (w.setCell a v) (es.push ⟨.cell a,true,m == .atomic⟩)
   | none=>match w.farStore P a v (m == .atomic) with
    | .ok (w,touched)=>k.runT P w (es++touched.toArray.map (⟨.cell ·,true,m == .atomic⟩))
    | .error h=>(.halt h w,es):=by
   intro P w es
   cases v <;> first | rfl | exact absurd rfl (n1 _) | exact absurd rfl (n2 _)
  rw [e1] at hA
  rw [e1,e1]
  by_cases hS:S a.block
  ·left
   obtain ⟨c,e,e',_,h'⟩:=hR.spoilt _ hS
   rw [hR.cellS hS]
   simp only [World.farStore,h',World.noCell]
   trivial
  ·rw [← hR.cell hS,← hR.frozen a]
   cases hc:w.cell? a with
   | some v'=>
    rw [hc] at hA
    simp only at hA ⊢
    cases hf:w.frozen? a with
    | true=>left;trivial
    | false=>
     rw [hf] at hA
     simp only [Bool.false_eq_true,if_false] at hA ⊢
     rcases hk _ S hT (w.setCell a v) (w'.setCell a v) _ (es'.push ⟨.cell a,true,m == .atomic⟩) (hR.setCell v hS) hA with h | h
     ·exact .inl h
     ·exact .inr (h.step (show w'.drawn+w.drawn=w'.drawn+w.drawn by rfl) rfl (push_ev (clear_cell hS (by simpa [World.setCell] using lt_of_cell hc))) (by simp [World.setCell]))
   | none=>
    rw [hc] at hA
    simp only at hA ⊢
    rcases hR.farStore (T:=T) (F:=F) (F':=F') v (m == .atomic) hS with ⟨x,hx,hd⟩ | ⟨w1,w1',t,h1,h2,h3,h4,hgr,d1,d2,t1,t2⟩
    ·rw [hx];exact .inl hd
    ·rw [h1] at hA ⊢
     rw [h2]
     simp only at hA ⊢
     rcases hk _ S hT w1 w1' _ (es'++(t.toArray.map (⟨.cell ·,true,m == .atomic⟩))) h3 (by
      intro j hj q
      have:=hA j (by rw [d1] at hj;exact hj) q
      rw [t1,t2,d1,d2];exact this) with h | h
     ·exact .inl h
     ·refine .inr (h.step (by omega) t2 ⟨_,rfl,fun e he=>?_⟩ hgr)
      obtain ⟨x,hx,rfl⟩:=Array.mem_map.1 he
      exact clear_cell (h4 x (by simpa using hx)).1 (h4 x (by simpa using hx)).2
 cases v
 case agg x=>exact fun _ _ _ _ _ _ _ _ _=>.inl trivial
 case tuple x=>exact fun _ _ _ _ _ _ _ _ _=>.inl trivial
 all_goals exact main (fun _ h=>by cases h) (fun _ h=>by cases h)
theorem new {o:Obj} {k:Nat→Sem α} (ho:writeOk T o) (hk:∀ r,Sim T F F' (k r)):Sim T F F' (Sem.new o k):=by
 intro _ S hT w w' es es' hR hA
 simp only [Sem.runT] at hA ⊢
 rw [← hR.size]
 rcases hk w.heap.size _ S hT { w with heap:=w.heap.push o } { w' with heap:=w'.heap.push o } es es' (hR.push ho) hA with h | h
 ·exact .inl h
 ·exact .inr (h.step (show w'.drawn+w.drawn=w'.drawn+w.drawn by rfl) rfl no_ev (by simp))
theorem shape {r:Nat} {k:Option (TypeId×Nat)→Sem α} (he:∀ x y,k (some x)=k (some y)) (hk:∀ v,Sim T F F' (k v)):Sim T F F' (Sem.shape r k):=by
 intro _ S hT w w' es es' hR hA
 simp only [Sem.runT] at hA ⊢
 have e:k (w'.shape? r)=k (w.shape? r):=by
  by_cases hS:S r
  ·obtain ⟨c,e,e',h1,h2⟩:=hR.spoilt _ hS
   simp only [World.shape?,h1,h2]
   exact he _ _
  ·rw [hR.shape hS]
 rw [e]
 rcases hk _ _ S hT w w' es es' hR hA with h | h
 ·exact .inl h
 ·exact .inr (h.step (by omega) rfl no_ev)
theorem shapeE {r:Nat} {k:Option (TypeId×Nat)→Sem α} (he:∀ e x y,k (some (e,x))=k (some (e,y))) (hk:∀ v,Sim T F F' (k v)):Sim T F F' (Sem.shape r k):=by
 intro _ S hT w w' es es' hR hA
 simp only [Sem.runT] at hA ⊢
 have e:k (w'.shape? r)=k (w.shape? r):=by
  by_cases hS:S r
  ·obtain ⟨c,e,e',h1,h2⟩:=hR.spoilt _ hS
   have:=hR.elem _ hS _ _ _ _ _ _ h1 h2
   subst this
   simp only [World.shape?,h1,h2]
   exact he _ _ _
  ·rw [hR.shape hS]
 rw [e]
 rcases hk _ _ S hT w w' es es' hR hA with h | h
 ·exact .inl h
 ·exact .inr (h.step (by omega) rfl no_ev)
theorem frozen {a:Addr} {k:Bool→Sem α} (hk:∀ v,Sim T F F' (k v)):Sim T F F' (Sem.frozen a k):=by
 intro _ S hT w w' es es' hR hA
 simp only [Sem.runT] at hA ⊢
 rw [← hR.frozen a]
 rcases hk _ _ S hT w w' es es' hR hA with h | h
 ·exact .inl h
 ·exact .inr (h.step (by omega) rfl no_ev)
def Odd (T:Tables) (F':Array Func) (k:Obj→Sem α):Prop:=∀ L ds,(∀ w es,IsDead ((k (.coro none)).runT ⟨T,F'⟩ w es).1)∨(k (.coro none)=k (.loop L)∧k (.coro none)=k (.deferred ds))
theorem getObj {r:Nat} {k:Obj→Sem α} (hc:Odd T F' k) (hk:∀ v,objOk T v→Sim T F F' (k v)):Sim T F F' (Sem.getObj r k):=by
 intro _ S hT w w' es es' hR hA
 simp only [Sem.runT] at hA ⊢
 by_cases hS:S r
 ·left
  obtain ⟨c,e,e',_,h'⟩:=hR.spoilt _ hS
  rw [h']
  trivial
 ·rcases hR.same _ hS with e | ⟨e,e'⟩
  ·cases ho:w.heap[r]? with
   | none=>rw [← e,ho];exact .inl trivial
   | some o=>
    rw [ho] at hA
    have hok:=hR.ok r o (by rw [← e,ho])
    rw [← e,ho]
    cases o
    case cells=>exact .inl trivial
    all_goals
     simp only at hA ⊢
     rcases hk _ hok _ S hT w w' _ (es'.push ⟨.obj r,false,_⟩) hR hA with h | h
     ·exact .inl h
     ·exact .inr (h.step (by omega) rfl (push_ev (clear_obj hS (lt_of_obj ho))))
  ·rw [e']
   simp only
   have main:∀ o,w.heap[r]? = some o→(∀ c e f,o≠.cells c e f)→k (.coro none)=k o→IsDead ((k (.coro none)).runT ⟨T,F'⟩ w' (es'.push ⟨.obj r,false,(Obj.coro none).isChan⟩)).1∨Like T S w w' es ((k o).runT ⟨T,F⟩ w (es.push ⟨.obj r,false,o.isChan⟩)) ((k (.coro none)).runT ⟨T,F'⟩ w' (es'.push ⟨.obj r,false,(Obj.coro none).isChan⟩)).1:=by
    intro o ho hn hk'
    rw [ho] at hA
    have hA':Agree w w' ((Result.world ((k o).runT ⟨T,F⟩ w (es.push ⟨.obj r,false,o.isChan⟩)).1).drawn - w.drawn):=by
     cases o
     case cells=>exact absurd rfl (hn _ _ _)
     all_goals exact hA
    have hs:=hk (.coro none) trivial
    rw [hk'] at hs ⊢
    rcases hs _ S hT w w' (es.push ⟨.obj r,false,o.isChan⟩) (es'.push ⟨.obj r,false,(Obj.coro none).isChan⟩) hR hA' with h | h
    ·exact .inl h
    ·exact .inr (h.step (by omega) rfl (push_ev (clear_obj hS (lt_of_obj ho))))
   rcases e with ⟨L,e⟩ | ⟨ds,e⟩
   ·rcases hc L none with h | ⟨h,_⟩
    ·exact .inl (h _ _)
    ·have:=main _ e (by intro _ _ _ h;cases h) h
     rw [e]
     exact this
   ·rcases hc ⟨.ready,none,0,#[],#[],.skip,.skip,0⟩ ds with h | ⟨_,h⟩
    ·exact .inl (h _ _)
    ·have:=main _ e (by intro _ _ _ h;cases h) h
     rw [e]
     exact this
theorem setObj {r:Nat} {o:Obj} {k:Sem α} (ho:writeOk T o) (hk:Sim T F F' k):Sim T F F' (Sem.setObj r o k):=by
 intro _ S hT w w' es es' hR hA
 simp only [Sem.runT] at hA ⊢
 by_cases hS:S r
 ·left
  obtain ⟨c,e,e',_,h'⟩:=hR.spoilt _ hS
  rw [h']
  trivial
 ·have main:∀ o1 o2,w.heap[r]? = some o1→w'.heap[r]? = some o2→(∀ c e f,o1≠.cells c e f)→(∀ c e f,o2≠.cells c e f)→o1.isChan=o2.isChan∨True→IsDead (Sem.runT ⟨T,F'⟩ k { w' with heap:=w'.heap.setIfInBounds r o } (es'.push ⟨.obj r,true,o.isChan⟩)).1∨
    Like T S w w' es (Sem.runT ⟨T,F⟩ k { w with heap:=w.heap.setIfInBounds r o } (es.push ⟨.obj r,true,o.isChan⟩)) (Sem.runT ⟨T,F'⟩ k { w' with heap:=w'.heap.setIfInBounds r o } (es'.push ⟨.obj r,true,o.isChan⟩)).1:=by
   intro o1 o2 h1 h2 n1 n2 _
   have hA':Agree w w' ((Result.world (Sem.runT ⟨T,F⟩ k { w with heap:=w.heap.setIfInBounds r o } (es.push ⟨.obj r,true,o.isChan⟩)).1).drawn - w.drawn):=by
    rw [h1] at hA
    cases o1
    case cells=>exact absurd rfl (n1 _ _ _)
    all_goals exact hA
   rcases hk _ S hT { w with heap:=w.heap.setIfInBounds r o } { w' with heap:=w'.heap.setIfInBounds r o } _ (es'.push ⟨.obj r,true,o.isChan⟩) (hR.setAt ho hS) hA' with h | h
   ·exact .inl h
   ·exact .inr (h.step (show w'.drawn+w.drawn=w'.drawn+w.drawn by rfl) rfl (push_ev (clear_obj hS (by simpa using lt_of_obj h1))) (by simp))
  rcases hR.same _ hS with e | ⟨⟨L,e⟩ | ⟨L,e⟩,e'⟩
  ·cases ho:w.heap[r]? with
   | none=>rw [← e,ho];exact .inl trivial
   | some o'=>
    rw [← e,ho]
    by_cases hc:∃ c e f,o' = .cells c e f
    ·obtain ⟨c,e,f,rfl⟩:=hc
     exact .inl trivial
    ·have:=main o' o' ho (by rw [← e,ho]) (fun c e f h=>hc ⟨c,e,f,h⟩) (fun c e f h=>hc ⟨c,e,f,h⟩) (.inr trivial)
     cases o'
     case cells=>exact .inl trivial
     all_goals exact this
  ·have:=main _ _ e e' (by intro _ _ _ h;cases h) (by intro _ _ _ h;cases h) (.inr trivial)
   rw [e,e']
   exact this
  ·have:=main _ _ e e' (by intro _ _ _ h;cases h) (by intro _ _ _ h;cases h) (.inr trivial)
   rw [e,e']
   exact this
theorem choose {q:Question} {k:Nat→Sem α} (hk:∀ n,Sim T F F' (k n)):Sim T F F' (Sem.choose q k):=by
 intro _ S hT w w' es es' hR hA
 simp only [Sem.runT] at hA ⊢
 cases hq:q.forced with
 | true=>
  rw [hq] at hA
  simp only [if_true] at hA ⊢
  rcases hk _ _ S hT w w' es es' hR hA with h | h
  ·exact .inl h
  ·exact .inr (h.step (by omega) rfl no_ev)
 | false=>
  rw [hq] at hA
  simp only [Bool.false_eq_true,if_false] at hA ⊢
  have hd:=(runT_drawn (P:=⟨T,F⟩) (k (q.cut (w.tape w.drawn q))) { w with drawn:=w.drawn+1 } es).1
  simp only at hd
  have e:=hA 0 (by omega) q
  simp only [Nat.add_zero] at e
  rw [← e]
  rcases hk (q.cut (w.tape w.drawn q)) _ S hT { w with drawn:=w.drawn+1 } { w' with drawn:=w'.drawn+1 } es es' hR.drew (by
   intro j hj q'
   have:=hA (j+1) (by simp only at hj;omega) q'
   simp only
   rw [show w.drawn+1+j=w.drawn+(j+1) by omega,show w'.drawn+1+j=w'.drawn+(j+1) by omega]
   exact this) with h | h
  ·exact .inl h
  ·exact .inr (h.step (show w'.drawn+1+w.drawn=w'.drawn+(w.drawn+1) by omega) rfl no_ev)
theorem program {k:Program→Sem α} (he:k ⟨T,F'⟩=k ⟨T,F⟩) (hk:Sim T F F' (k ⟨T,F⟩)):Sim T F F' (Sem.program k):=by
 intro _ S hT w w' es es' hR hA
 simp only [Sem.runT] at hA ⊢
 rw [he]
 exact hk _ S hT w w' es es' hR hA
theorem mark {m:Mark} {k:Sem α} (hm:markOk m) (hk:Sim T F F' k):Sim T F F' (Sem.mark m k):=by
 intro _ S hT w w' es es' hR hA
 simp only [Sem.runT] at hA ⊢
 rcases hk _ S hT w w' _ (es'.push ⟨.mark m,false,true⟩) hR hA with h | h
 ·exact .inl h
 ·exact .inr (h.step (by omega) rfl (push_ev ⟨(fun _ e=>by cases e),(fun _ e=>by cases e),(fun e=>by cases e),fun _ e=>by cases e;exact hm⟩))
end Sim
end
section
open Go Sim
variable {T:Tables} {F F':Array Func}
theorem Sim.stuck {α:Type} (why:String):Sim T F F' (Go.stuck why:Sem α):=Sim.halt trivial
theorem Sim.unsupported {α:Type} (u:Unsupported):Sim T F F' (Go.unsupported u:Sem α):=Sim.halt trivial
theorem Sim.goPanic' {α:Type} (v:Value):Sim T F F' (Go.goPanic v:Sem α):=Sim.goPanic v
theorem Sim.load' (a:Addr) (m:Mode):Sim T F F' (Go.load a m):=Sim.load Sim.pure
theorem Sim.store' (a:Addr) (v:Value) (m:Mode):Sim T F F' (Go.store a v m):=Sim.store (Sim.pure _)
theorem Sim.newObj' (o:Obj) (ho:writeOk T o):Sim T F F' (Go.newObj o):=Sim.new ho Sim.pure
theorem Sim.frozen' (a:Addr):Sim T F F' (Go.frozen a):=Sim.frozen Sim.pure
theorem Sim.getObj' {α:Type} {r:Nat} {k:Obj→Sem α} (hc:Odd T F' k) (hk:∀ v,objOk T v→Sim T F F' (k v)):Sim T F F' (Bind.bind (Go.getObj r) k):=Sim.getObj (k:=fun s=>Sem.bind (Sem.pure s) k) hc hk
theorem Sim.setObj' (r:Nat) (o:Obj) (ho:writeOk T o):Sim T F F' (Go.setObj r o):=Sim.setObj ho (Sim.pure _)
theorem Sim.choose' (q:Question):Sim T F F' (Go.choose q):=Sim.choose Sim.pure
theorem Sim.mark' (m:Mark) (hm:markOk m):Sim T F F' (Go.mark m):=Sim.mark hm (Sim.pure _)
theorem Sim.program' {α:Type} {k:Program→Sem α} (he:k ⟨T,F'⟩=k ⟨T,F⟩) (hk:Sim T F F' (k ⟨T,F⟩)):Sim T F F' (Bind.bind Go.program k):=
 Sim.program (k:=fun p=>Sem.bind (Sem.pure p) k) he hk
theorem Sim.map {α β:Type} {s:Sem α} (f:α→β) (h:Sim T F F' s):Sim T F F' (f <$> s):=Sim.bind h fun _=>Sim.pure _
theorem Sim.typeInfo (t:TypeId):Sim T F F' (Go.typeInfo t):=Sim.program' rfl (by split;exact Sim.pure _;exact Sim.stuck _)
theorem Sim.underlying (t:TypeId):Sim T F F' (Go.underlying t):=Sim.program' rfl (by split;exact Sim.pure _;exact Sim.stuck _)
theorem Sim.zeroValue (t:TypeId):Sim T F F' (Go.zeroValue t):=Sim.bind (Sim.typeInfo t) fun _=>by split;exact Sim.pure _;exact Sim.unsupported _
theorem Sim.sizeOf (t:TypeId):Sim T F F' (Go.sizeOf t):=Sim.bind (Sim.typeInfo t) fun _=>Sim.pure _
theorem Sim.isAgg (t:TypeId):Sim T F F' (Go.isAgg t):=Sim.bind (Sim.underlying t) fun _=>by split <;> exact Sim.pure _
theorem Sim.typeStr (t:TypeId):Sim T F F' (Go.typeStr t):=Sim.bind (Sim.typeInfo t) fun _=>by dsimp only;split;exact Sim.unsupported _;exact Sim.pure _
theorem Sim.loadCellsFrom (a:Addr):∀ (n i:Nat) (acc:Array Value),Sim T F F' (Go.loadCellsFrom a i n acc)
 | 0,_,_=>Sim.pure _
 | n+1,i,acc=>Sim.bind (Sim.load' _ _) fun v=>Sim.loadCellsFrom a n (i+1) (acc.push v)
theorem Sim.loadCells (a:Addr) (n:Nat):Sim T F F' (Go.loadCells a n):=Sim.loadCellsFrom a n 0 #[]
theorem Sim.storeCells (a:Addr):∀ (vs:List Value) (i:Nat),Sim T F F' (Go.storeCells a vs i)
 | [],_=>Sim.pure _
 | v :: rest,i=>Sim.bind (Sim.store' _ _ _) fun _=>Sim.storeCells a rest (i+1)
theorem Sim.loadVar (t:TypeId) (a:Addr):Sim T F F' (Go.loadVar t a):=Sim.bind (Sim.isAgg t) fun _=>by
 split
 ·exact Sim.bind (Sim.sizeOf t) fun _=>Sim.bind (Sim.loadCells _ _) fun _=>Sim.pure _
 ·exact Sim.load' _ _
theorem Sim.storeVar (t:TypeId) (a:Addr) (v:Value):Sim T F F' (Go.storeVar t a v):=Sim.bind (Sim.sizeOf t) fun _=>by
 dsimp only
 split
 ·exact Sim.bind (Sim.stuck _) fun _=>Sim.storeCells _ _ _
 ·exact Sim.storeCells _ _ _
theorem Sim.newRow (t:TypeId) (cs:Array Value):Sim T F F' (Go.newRow t cs):=Sim.bind (Sim.newObj' _ trivial) fun _=>Sim.pure _
theorem Sim.newVar (t:TypeId) (v:Value):Sim T F F' (Go.newVar t v):=Sim.newRow _ _
theorem Sim.elemOf (t:TypeId):Sim T F F' (Go.elemOf t):=Sim.bind (Sim.underlying t) fun _=>by split;exact Sim.pure _;exact Sim.stuck _
theorem Sim.part (t:TypeId) (cs:Array Value) (off:Nat):Sim T F F' (Go.part t cs off):=Sim.bind (Sim.isAgg t) fun _=>by
 split
 ·exact Sim.bind (Sim.sizeOf t) fun _=>Sim.pure _
 ·split;exact Sim.pure _;exact Sim.stuck _
theorem Sim.runtimePanic {α:Type} (e:RuntimeError):Sim T F F' (Go.runtimePanic e:Sem α):=by
 refine Sim.program' ?_ ?_
 ·cases e <;> rfl
 ·cases e
  all_goals first
   | exact Sim.goPanic _
   | exact Sim.bind (Sim.elemOf _) fun _=>Sim.bind (Sim.newVar _ _) fun _=>Sim.goPanic _
theorem Sim.boundsPanic {α:Type} (k:IntKind) (x y:Int) (c:BoundsCode):Sim T F F' (Go.boundsPanic k x y c:Sem α):=by
 unfold Go.boundsPanic
 split
 ·exact Sim.bind (Sim.map _ (Sim.choose' _)) fun _=>Sim.runtimePanic _
 ·exact Sim.bind (Sim.pure _) fun _=>Sim.runtimePanic _
theorem Sim.asIntOf (v:Value):Sim T F F' (Go.asIntOf v):=by
 unfold Go.asIntOf
 split
 ·exact Sim.pure _
 ·exact Sim.unsupported _
 ·exact Sim.stuck _
theorem Sim.asInt (v:Value):Sim T F F' (Go.asInt v):=Sim.bind (Sim.asIntOf v) fun _=>Sim.pure _
theorem Sim.asBool (v:Value):Sim T F F' (Go.asBool v):=by
 unfold Go.asBool
 split
 ·exact Sim.pure _
 ·exact Sim.stuck _
theorem Sim.asString (v:Value):Sim T F F' (Go.asString v):=by
 unfold Go.asString
 split
 ·exact Sim.pure _
 ·exact Sim.stuck _
theorem Sim.asAgg (v:Value):Sim T F F' (Go.asAgg v):=by
 unfold Go.asAgg
 split
 ·exact Sim.pure _
 ·exact Sim.stuck _
theorem Sim.asAddr (v:Value):Sim T F F' (Go.asAddr v):=by
 unfold Go.asAddr
 split
 ·exact Sim.pure _
 ·exact Sim.runtimePanic _
 ·exact Sim.stuck _
theorem Sim.askRoom (n:Nat):Sim T F F' (Go.askRoom n):=by
 unfold Go.askRoom
 split
 ·exact Sim.mark' _ trivial
 ·exact Sim.pure _
theorem Sim.shape' {α:Type} {r:Nat} {k:Option (TypeId×Nat)→Sem α} (he:∀ x y,k (some x)=k (some y)) (hk:∀ v,Sim T F F' (k v)):Sim T F F' (Bind.bind (Go.shape r) k):=
 Sim.shape (k:=fun s=>Sem.bind (Sem.pure s) k) he hk
theorem Sim.viewAt (r:Nat):Sim T F F' (Go.viewAt r):=by
 unfold Go.viewAt
 refine Sim.shape' (fun _ _=>rfl) fun o=>?_
 cases o with
 | some _=>exact Sim.pure _
 | none=>exact Sim.getObj' (fun _ _=>.inr ⟨rfl,rfl⟩) fun _ _=>by split <;> exact Sim.pure _
theorem Sim.numberAt (r:Nat):Sim T F F' (Go.numberAt r):=by
 unfold Go.numberAt
 refine Sim.shape' (fun _ _=>rfl) fun o=>?_
 cases o with
 | some _=>exact Sim.pure _
 | none=>exact Sim.getObj' (fun _ _=>.inr ⟨rfl,rfl⟩) fun _ _=>by split <;> exact Sim.pure _
theorem Sim.behindNumber (a:Addr):Sim T F F' (Go.behindNumber a):=Sim.bind (Sim.numberAt _) fun _=>Sim.pure _
theorem Sim.noView (a:Addr):Sim T F F' (Go.noView a):=Sim.bind (Sim.viewAt _) fun _=>by split;exact Sim.unsupported _;exact Sim.pure _
end
end Go.Proofs.Ytjkikkgpenhbgaa.Sim
