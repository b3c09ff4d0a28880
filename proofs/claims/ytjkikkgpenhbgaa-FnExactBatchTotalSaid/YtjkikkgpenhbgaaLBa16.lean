import Derived.Test.YtjkikkgpenhbgaaLBa0
import Derived.Test.YtjkikkgpenhbgaaLBa3
import Derived.Test.YtjkikkgpenhbgaaLBa12
namespace Go.Proofs.Ytjkikkgpenhbgaa.Ba
open Go.RowKit Go.Proofs.YtjkikkgpenhbgaaW.PrintWords Go.Proofs.YtjkikkgpenhbgaaW.PrintLast Go.Proofs.YtjkikkgpenhbgaaW.PrintMore
attribute [local go_sem] max2_int min2_int max_two min_two max_three min_three max_four min_four
set_option linter.unusedVariables false
set_option linter.unusedSimpArgs false
def impl_sized.f (a0:Int) (l1:List Int) (a2:Int):Option (Bool):=(impl_kindOk.f a0).bind fun t327=>(if t327=true then (if (l1.length:Int)=a2 then ((impl_elementsOk.f l1 20).bind fun t328=>(some t328)) else (some false)) else (some false))
set_option maxHeartbeats 8000000 in
set_option maxRecDepth 100000 in
theorem impl_sized.calls (a0:Int) (A1:Option Addr) (c1:Nat) (l1:List Int) (a2:Int) (r:Bool) (w:World) (hr1:Kd.C (Kd.int .i64) w A1 l1.length l1) (hc1:l1.length≤c1) (h:impl_sized.f a0 l1 a2=some r) :
  Calls Tru.prog 78 #[.int .i64 a0,.slice A1 l1.length c1,.int .i64 a2] w fun e w'=>e = .returned (.bool r)∧Drawn0 w w':=by
 have HR1:=Aside0.mk hr1
 have HC1:=Aside0.mk hc1
 clear hr1 hc1
 have H:((impl_kindOk.f a0).bind fun t327=>(if t327=true then (if (l1.length:Int)=a2 then ((impl_elementsOk.f l1 20).bind fun t328=>(some t328)) else (some false)) else (some false)))=some r:=h
 clear h
 replace H:=Option.bind_eq_some_iff.mp H
 obtain ⟨t327,A40,H⟩:=H
 replace H:(if t327=true then (if (l1.length:Int)=a2 then ((impl_elementsOk.f l1 20).bind fun t328=>(some t328)) else (some false)) else (some false))=some r:=H
 have A4:=Aside0.mk A40
 clear A40
 by_cases c5:t327=true
 ·subst c5
  have H1:(if (l1.length:Int)=a2 then ((impl_elementsOk.f l1 20).bind fun t328=>(some t328)) else (some false))=some r:=by rw [if_pos rfl] at H;exact H
  clear H
  have H:=H1
  clear H1
  by_cases c6:(l1.length:Int)=a2
  ·rw [if_pos c6] at H
   have c6b0:((l1.length:Int) == a2)=true:=beq_iff_eq.mpr c6
   have c6b1:((l1.length:Int) != a2)=false:=bne_eq_false_iff_eq.mpr c6
   clear c6
   replace H:=Option.bind_eq_some_iff.mp H
   obtain ⟨t328,A70,H⟩:=H
   replace H:(some t328)=some r:=H
   have A7:=Aside0.mk A70
   clear A70
   obtain rfl:=Option.some.inj H
   go_enter Tru.func78,Try.ntmps78
   go_wp2_with (first | ((with_reducible refine zah (f:=76) rfl ?_);refine goesL_ (some 8) rfl rfl Tru.func76 (by kernel_rfl) rfl #[.int .i64 a0] rfl (by (try simp only [List.map_toArray,List.map_cons,List.map_nil]);first | done | rfl | (simp only [List.length_drop,List.length_take];rfl)) ?_;(with_reducible refine (impl_kindOk.calls a0 true _ A4.out).mono ?_);rintro e w' ⟨rfl,⟨nd,rfl⟩⟩;refine ⟨_,rfl,?_⟩) | (go_at_call 36;(with_reducible refine (impl_elementsOk.calls _ _ l1 20 t328 _ ?side1 ?side2 A7.out).mono ?_);(case side1=>repeat (first | exact HR1.out | (with_reducible refine Kd.C_alloc ?_ _) | (with_reducible refine Kd.C_drewN ?_ _) | (with_reducible refine Kd.C_drew ?_)));(case side2=>exact HC1.out);rintro e w' ⟨rfl,⟨nd,rfl⟩⟩))
   go_ret
   exact ⟨by first | rfl | (simp;done) | (simp [*];done),by repeat (first | exact Drawn0.refl _ | apply Drawn0.step)⟩
  ·rw [if_neg c6] at H
   have c6b0:((l1.length:Int) == a2)=false:=beq_eq_false_iff_ne.mpr c6
   have c6b1:((l1.length:Int) != a2)=true:=bne_iff_ne.mpr c6
   obtain rfl:=Option.some.inj H
   go_enter Tru.func78,Try.ntmps78
   go_wp2_with (first | ((with_reducible refine zah (f:=76) rfl ?_);refine goesL_ (some 8) rfl rfl Tru.func76 (by kernel_rfl) rfl #[.int .i64 a0] rfl (by (try simp only [List.map_toArray,List.map_cons,List.map_nil]);first | done | rfl | (simp only [List.length_drop,List.length_take];rfl)) ?_;(with_reducible refine (impl_kindOk.calls a0 true _ A4.out).mono ?_);rintro e w' ⟨rfl,⟨nd,rfl⟩⟩;refine ⟨_,rfl,?_⟩))
   go_ret
   exact ⟨by first | rfl | (simp;done) | (simp [*];done),by repeat (first | exact Drawn0.refl _ | apply Drawn0.step)⟩
 ·replace c5:=Bool.eq_false_iff.mpr c5
  subst c5
  have H1:(some false)=some r:=by rw [if_neg (show ¬ (false=true) by decide)] at H;exact H
  clear H
  have H:=H1
  clear H1
  obtain rfl:=Option.some.inj H
  go_enter Tru.func78,Try.ntmps78
  go_wp2_with (first | ((with_reducible refine zah (f:=76) rfl ?_);refine goesL_ (some 8) rfl rfl Tru.func76 (by kernel_rfl) rfl #[.int .i64 a0] rfl (by (try simp only [List.map_toArray,List.map_cons,List.map_nil]);first | done | rfl | (simp only [List.length_drop,List.length_take];rfl)) ?_;(with_reducible refine (impl_kindOk.calls a0 false _ A4.out).mono ?_);rintro e w' ⟨rfl,⟨nd,rfl⟩⟩;refine ⟨_,rfl,?_⟩))
  go_ret
  exact ⟨by first | rfl | (simp;done) | (simp [*];done),by repeat (first | exact Drawn0.refl _ | apply Drawn0.step)⟩
section
open Go.Maps
def ky (x:Int):Lit:=.int .i64 x
def Gs (l:List Int) (k:Nat):DataW Unit:=setOf (.lit (.bool true)) ((l.take k).map ky)
set_option maxRecDepth 100000 in
theorem Gs_zero (l:List Int):Gs l 0 = .map []:=by simp [Gs,setOf]
set_option maxRecDepth 100000 in
theorem Gs_succ (l:List Int) (k:Nat) (hk:k<l.length):Gs l (k+1)=(Gs l k).put (ky (rd l k)) (.lit (.bool true)):=by
 unfold Gs
 have hr:rd l k=l[k]:=by simp [rd,hk]
 rw [List.take_succ_eq_append_getElem hk,List.map_append,List.map_cons,List.map_nil,setOf_snoc,hr]
set_option maxRecDepth 100000 in
theorem ky_key (x:Int):WideAt.IsKeyLit (ky x):=trivial
set_option maxRecDepth 100000 in
theorem any_ky (x:Int) (l:List Int):(l.map ky).any (fun y=>y.sameKey (ky x))=l.contains x:=by
 induction l with
 | nil=>rfl
 | cons a r ih=>
  rw [List.map_cons,List.any_cons,ih,List.contains_cons]
  congr 1
  show decide (IntKind.i64=IntKind.i64∧a=x)=(x == a)
  by_cases e:a=x
  ·subst e;simp
  ·have e':¬ x=a:=fun h=>e h.symm
   simp [e,e']
set_option maxRecDepth 100000 in
theorem fold_len (xs:List Int):∀ L:List Int,L.Nodup→((xs.map ky).foldl addKey (L.map ky)).length≤L.length+xs.length∧(((xs.map ky).foldl addKey (L.map ky)).length=L.length+xs.length↔(L++xs).Nodup):=by
 induction xs with
 | nil=>intro L hL;simp [hL]
 | cons a r ih=>
  intro L hL
  rw [List.map_cons,List.foldl_cons]
  have e:addKey (L.map ky) (ky a)=if L.contains a=true then L.map ky else (L++[a]).map ky:=by
   unfold addKey
   rw [any_ky]
   split <;> simp
  rw [e]
  by_cases h:L.contains a=true
  ·rw [if_pos h]
   obtain ⟨h1,h2⟩:=ih L hL
   refine ⟨by simp;omega,⟨fun h3=>by simp at h3;omega,fun h3=>?_⟩⟩
   have:a ∈ L:=by simpa using h
   rw [List.nodup_append] at h3
   exact absurd rfl (h3.2.2 a this a (by simp))
  ·rw [if_neg h]
   have hn:(L++[a]).Nodup:=by
    rw [List.nodup_append]
    refine ⟨hL,by simp,fun x hx y hy=>?_⟩
    obtain rfl:y=a:=by simpa using hy
    rintro rfl
    exact h (by simpa using hx)
   obtain ⟨h1,h2⟩:=ih (L++[a]) hn
   refine ⟨by simp at h1 ⊢;omega,?_⟩
   rw [show L++a :: r=(L++[a])++r by simp,← h2]
   simp
   omega
set_option maxRecDepth 100000 in
theorem size_Gs (l:List Int):Maps.size (Gs l l.length)≤l.length∧(Maps.size (Gs l l.length)=l.length↔l.Nodup):=by
 unfold Gs
 rw [List.take_length,size_setOf _ _ (fun y hy=>by obtain ⟨_,_,rfl⟩:=List.mem_map.1 hy;exact ky_key _)]
 have:=fold_len l [] (by simp)
 simpa using this
set_option maxRecDepth 100000 in
theorem gLaw:Keyed Tru.prog 3:=int_keyed ((Tru.und _).trans Try.underlying3)
def allWf (l:List Int):Bool:=l.all fun x=>(Lit.int .i64 x).wf
set_option maxRecDepth 100000 in
theorem allWf_rd {l:List Int} (h:allWf l=true) (k:Nat):(Lit.int .i64 (rd l k)).wf=true:=by
 unfold rd
 simp only [Int.toNat_natCast,List.getD_eq_getElem?_getD]
 rcases Nat.lt_or_ge k l.length with hi | hi
 ·rw [List.getElem?_eq_getElem hi];exact List.all_eq_true.1 h _ (List.getElem_mem hi)
 ·rw [List.getElem?_eq_none hi];decide
def GroupEnd (l:List Int) (w:World) (e:Ending) (w':World):Prop:=
 e = .returned (.tuple #[.map (some w.heap.size),.bool (decide l.Nodup)])∧Aside0 (w'.ownsMap Tru.prog 3 (plainElem Tru.prog 4) w.heap.size l.length (Gs l l.length))∧Aside0 (Below w.heap.size w w')
set_option maxHeartbeats 1000000 in
set_option maxRecDepth 100000 in
theorem groupOf.calls (A0:Option Addr) (c0:Nat) (l0:List Int) (w:World) (hr0:Kd.C (Kd.int .i64) w A0 l0.length l0) (hn:l0.length≤1048576000) (hwf:allWf l0=true) :
  Calls Tru.prog 104 #[.slice A0 l0.length c0] w (GroupEnd l0 w):=by
 have HR0:=Aside0.mk hr0
 have HWF:=Aside0.mk hwf
 clear hr0 hwf
 have hmm:=@run_makeMap Tru.prog
 go_enter Tru.func104,Try.ntmps104
 go_wp2
 go_loopw [10] (fun i wr=>∃ k:Nat,k≤l0.length∧i = .int .i64 k∧Aside0 (wr.ownsMap Tru.prog 3 (plainElem Tru.prog 4) w.heap.size k (Gs l0 k))∧Aside0 (Below w.heap.size w wr))
  (fun i _=>l0.length - (intOf i).toNat)
 case atStart=>exact ⟨0,Nat.zero_le _,rfl,⟨by rw [Gs_zero];exact World.ownsMap_made _ _ _ _⟩,⟨(Below.refl _ _).alloc (Nat.le_refl _) _⟩⟩
 case round=>
  obtain ⟨k,hk,rfl,HO,HB⟩:=hrel
  by_cases hlt:k<l0.length
  ·obtain ⟨ad,e,hx⟩:=Kd.at_int HR0.out (k:Int) (by omega) (by omega)
   cases e
   simp only [Int.toNat_natCast] at hx
   replace hx:=(HB.out.cell (World.block_lt_of_cell? w _ hx)).trans hx
   have HK:Aside0 (keyOf Tru.prog 3 (.int .i64 (rd l0 k))=some (ky (rd l0 k))):=⟨keyOf_int_mk ((Tru.und _).trans Try.underlying3) (allWf_rd HWF.out k)⟩
   go_wp2_with (first
    | (at_mapUpdate;refine wpList_mapUpdate_own _ rfl _ _ _ 121 rfl 3 4 gLaw ((Tru.und _).trans Try.underlying121) (plainElem (H:=Unit) Tru.prog 4) w.heap.size k _ rfl HO.out (by unfold maxLen;omega) _ _ _ rfl rfl HK.out _ [] (plainElem_bool ((Tru.und _).trans Try.underlying4) true) ?_;intro w1 hown1 hgrow1;have HO1:=Aside0.mk hown1;have HB1:=Aside0.mk (HB.out.grown hgrow1 HB.out.size (fun j hj=>by cases hj;exact Nat.le_refl _));clear hown1 hgrow1))
   go_roundw
   case rel=>exact ⟨k+1,by omega,by go_num,⟨(Gs_succ l0 k hlt).symm ▸ HO1.out⟩,HB1⟩
   case measure=>simp [intOf];omega
  ·obtain rfl:k=l0.length:=by omega
   go_wp2_with (first
    | ((with_reducible refine zam (N:=19) rfl ?_);refine wpList_len_own _ rfl _ 121 rfl 3 4 ((Tru.und _).trans Try.underlying121) _ w.heap.size _ _ rfl HO.out ?_))
   go_ret2
   have hs:=size_Gs l0
   have hd:(((Maps.size (Gs l0 l0.length):Nat):Int) == ((l0.length:Nat):Int))=decide l0.Nodup:=by
    rw [Bool.eq_iff_iff,beq_iff_eq,decide_eq_true_eq,← hs.2]
    omega
   refine ⟨?_,HO,HB⟩
   rw [← hd]
   rfl
end
def iOk (n:Int):Bool:=decide (1≤n) && decide (n≤99)
set_option maxHeartbeats 400000 in
set_option maxRecDepth 100000 in
theorem idsOk1.yes (n:Int) (w:World) (h:iOk n=true):Calls Tru.prog 105 #[.int .i64 n] w fun e w'=>e = .returned (.bool false)∧Drawn0 w w':=by
 simp only [iOk,Bool.and_eq_true,decide_eq_true_eq] at h
 obtain ⟨h1,h2⟩:=h
 go_enter Tru.func105,Try.ntmps105
 go_wp2
 go_ret
 exact ⟨rfl,Drawn0.refl _⟩
set_option maxHeartbeats 400000 in
set_option maxRecDepth 100000 in
theorem idsOk1.no (n:Int) (w:World) (h:iOk n=false):Calls Tru.prog 105 #[.int .i64 n] w fun e w'=>e = .returned (.bool true)∧Drawn0 w w':=by
 have h':n<1∨99<n:=by simp only [iOk,Bool.and_eq_false_iff,decide_eq_false_iff_not] at h;omega
 clear h
 rcases h' with h1 | h1
 ·go_enter Tru.func105,Try.ntmps105
  go_wp2
  go_ret
  exact ⟨rfl,Drawn0.refl _⟩
 ·have h0:decide (1≤n)=true:=by simp;omega
  have h2:decide (n≤99)=false:=by simp;omega
  go_enter Tru.func105,Try.ntmps105
  go_wp2
  go_ret
  exact ⟨rfl,Drawn0.refl _⟩
set_option maxHeartbeats 1000000 in
set_option maxRecDepth 100000 in
theorem IndexFuncI.ok (A0:Option Addr) (c0:Nat) (l0:List Int) (w:World) (hr0:Kd.C (Kd.int .i64) w A0 l0.length l0) (hm:l0.length≤9223372036854775807) (h:l0.all iOk=true) :
  Calls Tru.prog 84 #[.slice A0 l0.length c0,.func (.func 105) #[] #[]] w fun e w'=>e = .returned (.int .i64 (-1))∧Drawn0 w w':=by
 have HR0:=Aside0.mk hr0
 clear hr0
 have H:=Aside0.mk h
 clear h
 go_enter Tru.func84,Try.ntmps84
 go_wp2
 go_loopw [8] (fun i wr=>∃ k:Nat,k≤l0.length∧i = .int .i64 k∧Drawn0 w wr) (fun i _=>l0.length - (intOf i).toNat)
 case atStart=>exact ⟨0,Nat.zero_le _,rfl,Drawn0.refl _⟩
 case round=>
  obtain ⟨k,hk,rfl,⟨m1,rfl⟩⟩:=hrel
  by_cases hlt:k<l0.length
  ·have hok:iOk (rd l0 k)=true:=by
    have:=List.all_eq_true.1 H.out (l0[k]) (List.getElem_mem hlt)
    simpa [rd,hlt] using this
   have HOK:=Aside0.mk hok
   clear hok
   obtain ⟨ad,e,hx⟩:=Kd.at_int HR0.out (k:Int) (by omega) (by omega)
   cases e
   simp only [Int.toNat_natCast] at hx
   go_wp2_with (first | (go_at_call 105;refine (idsOk1.yes _ _ HOK.out).mono ?_;rintro e w' ⟨rfl,⟨nd,rfl⟩⟩))
   go_roundw
   case rel=>exact ⟨k+1,by omega,by go_num,by repeat (first | exact Drawn0.refl _ | apply Drawn0.step)⟩
   case measure=>simp [intOf];omega
  ·go_wp2
   go_ret
   exact ⟨rfl,by repeat (first | exact Drawn0.refl _ | apply Drawn0.step)⟩
set_option maxRecDepth 100000 in
theorem all_rdI (l:List Int) (h:∀ i,i<l.length→iOk (rd l i)=true):l.all iOk=true:=by
 rw [List.all_eq_true]
 intro x hx
 obtain ⟨i,hi,rfl⟩:=List.getElem_of_mem hx
 have:=h i hi
 simpa [rd,hi] using this
def SomeNatI (w:World) (e:Ending) (w':World):Prop:=∃ j:Nat,e = .returned (.int .i64 j)∧Drawn0 w w'
set_option maxHeartbeats 1000000 in
set_option maxRecDepth 100000 in
theorem IndexFuncI.bad (A0:Option Addr) (c0:Nat) (l0:List Int) (w:World) (hr0:Kd.C (Kd.int .i64) w A0 l0.length l0) (hm:l0.length≤9223372036854775807) (h:l0.all iOk=false) :
  Calls Tru.prog 84 #[.slice A0 l0.length c0,.func (.func 105) #[] #[]] w (SomeNatI w):=by
 have HR0:=Aside0.mk hr0
 clear hr0
 have H:=Aside0.mk h
 clear h
 go_enter Tru.func84,Try.ntmps84
 go_wp2
 go_loopw [8] (fun i wr=>∃ k:Nat,k≤l0.length∧i = .int .i64 k∧Drawn0 w wr∧Aside0 (∀ i,i<k→iOk (rd l0 i)=true)) (fun i _=>l0.length - (intOf i).toNat)
 case atStart=>exact ⟨0,Nat.zero_le _,rfl,Drawn0.refl _,⟨by omega⟩⟩
 case round=>
  obtain ⟨k,hk,rfl,⟨m1,rfl⟩,hall⟩:=hrel
  by_cases hlt:k<l0.length
  ·obtain ⟨ad,e,hx⟩:=Kd.at_int HR0.out (k:Int) (by omega) (by omega)
   cases e
   simp only [Int.toNat_natCast] at hx
   cases hok:iOk (rd l0 k)
   ·have HOK:=Aside0.mk hok
    clear hok
    go_wp2_with (first | (go_at_call 105;refine (idsOk1.no _ _ HOK.out).mono ?_;rintro e w' ⟨rfl,⟨nd,rfl⟩⟩))
    go_ret
    exact ⟨k,rfl,by repeat (first | exact Drawn0.refl _ | apply Drawn0.step)⟩
   ·have HOK:=Aside0.mk hok
    clear hok
    go_wp2_with (first | (go_at_call 105;refine (idsOk1.yes _ _ HOK.out).mono ?_;rintro e w' ⟨rfl,⟨nd,rfl⟩⟩))
    go_roundw
    case rel=>exact ⟨k+1,by omega,by go_num,by repeat (first | exact Drawn0.refl _ | apply Drawn0.step),⟨fun i hi=>by
     rcases Nat.lt_or_ge i k with h1 | h1
     ·exact hall.out i h1
     ·obtain rfl:i=k:=by omega
      exact HOK.out⟩⟩
    case measure=>simp [intOf];omega
  ·exfalso
   have:=all_rdI l0 (fun i hi=>hall.out i (by omega))
   rw [H.out] at this
   cases this
set_option maxRecDepth 100000 in
theorem ContainsFuncI.ok (A0:Option Addr) (c0:Nat) (l0:List Int) (w:World) (hr0:Kd.C (Kd.int .i64) w A0 l0.length l0) (hm:l0.length≤9223372036854775807) (h:l0.all iOk=true) :
  Calls Tru.prog 64 #[.slice A0 l0.length c0,.func (.func 105) #[] #[]] w fun e w'=>e = .returned (.bool false)∧Drawn0 w w':=by
 have HR0:=Aside0.mk hr0
 clear hr0
 have H:=Aside0.mk h
 clear h
 go_enter Tru.func64,Try.ntmps64
 go_wp2_with (first | (go_at_call 84;refine (IndexFuncI.ok A0 c0 l0 _ HR0.out hm H.out).mono ?_;rintro e w' ⟨rfl,⟨nd,rfl⟩⟩))
 go_ret
 exact ⟨rfl,by repeat (first | exact Drawn0.refl _ | apply Drawn0.step)⟩
set_option maxRecDepth 100000 in
theorem ContainsFuncI.bad (A0:Option Addr) (c0:Nat) (l0:List Int) (w:World) (hr0:Kd.C (Kd.int .i64) w A0 l0.length l0) (hm:l0.length≤9223372036854775807) (h:l0.all iOk=false) :
  Calls Tru.prog 64 #[.slice A0 l0.length c0,.func (.func 105) #[] #[]] w fun e w'=>e = .returned (.bool true)∧Drawn0 w w':=by
 have HR0:=Aside0.mk hr0
 clear hr0
 have H:=Aside0.mk h
 clear h
 go_enter Tru.func64,Try.ntmps64
 go_wp2_with (first | (go_at_call 84;refine (IndexFuncI.bad A0 c0 l0 _ HR0.out hm H.out).mono ?_;rintro e w' ⟨j,rfl,⟨nd,rfl⟩⟩))
 go_ret
 exact ⟨by simp,by repeat (first | exact Drawn0.refl _ | apply Drawn0.step)⟩
def impl_idsOk.f (l0:List Int) (a1:Int):Option Bool:=if (allWf l0 && decide (l0.length≤1048576000))=true then some (decide l0.Nodup && decide ((l0.length:Int)≤a1) && l0.all iOk) else none
set_option maxHeartbeats 1000000 in
set_option maxRecDepth 100000 in
theorem impl_idsOk.calls (A0:Option Addr) (c0:Nat) (l0:List Int) (a1:Int) (r:Bool) (w:World) (hr0:Kd.C (Kd.int .i64) w A0 l0.length l0) (hc0:l0.length≤c0) (h:impl_idsOk.f l0 a1=some r) :
  Calls Tru.prog 79 #[.slice A0 l0.length c0,.int .i64 a1] w fun e w'=>e = .returned (.bool r)∧Below w.heap.size w w':=by
 unfold impl_idsOk.f at h
 by_cases hp:(allWf l0 && decide (l0.length≤1048576000))=true
 ·rw [if_pos hp] at h
  obtain rfl:=Option.some.inj h
  clear h
  rw [Bool.and_eq_true,decide_eq_true_eq] at hp
  obtain ⟨hwf,hn⟩:=hp
  have hm:l0.length≤9223372036854775807:=hr0.2.1
  have HWF:=Aside0.mk hwf
  have HR0:=Aside0.mk hr0
  clear hwf hr0
  cases hd:decide l0.Nodup
  ·have HD:=Aside0.mk hd
   clear hd
   go_enter Tru.func79,Try.ntmps79
   go_wp2_with (first | (go_at_call 104;refine (groupOf.calls A0 c0 l0 _ HR0.out hn HWF.out).mono ?_;rintro e w1 ⟨rfl,HO,HB⟩;rw [HD.out]))
   go_ret
   exact ⟨by first | rfl | (simp;done),HB.out⟩
  ·have HD:=Aside0.mk hd
   clear hd
   by_cases c2:(l0.length:Int)≤a1
   ·have c2b0:decide ((l0.length:Int)≤a1)=true:=decide_eq_true c2
    cases hall:l0.all iOk
    ·have H:=Aside0.mk hall
     rw [c2b0]
     clear hall c2
     go_enter Tru.func79,Try.ntmps79
     go_wp2_with (first | (go_at_call 104;refine (groupOf.calls A0 c0 l0 _ HR0.out hn HWF.out).mono ?_;rintro e w1 ⟨rfl,HO,HB⟩;rw [HD.out]) | (go_at_call 64;refine (ContainsFuncI.bad A0 c0 l0 _ (Kd.C_below HR0.out HB.out) hm H.out).mono ?_;rintro e w' ⟨rfl,⟨nd,rfl⟩⟩))
     go_ret
     exact ⟨by first | rfl | (simp;done),by repeat (first | exact HB.out | apply zac | apply below_drew)⟩
    ·have H:=Aside0.mk hall
     rw [c2b0]
     clear hall c2
     go_enter Tru.func79,Try.ntmps79
     go_wp2_with (first | (go_at_call 104;refine (groupOf.calls A0 c0 l0 _ HR0.out hn HWF.out).mono ?_;rintro e w1 ⟨rfl,HO,HB⟩;rw [HD.out]) | (go_at_call 64;refine (ContainsFuncI.ok A0 c0 l0 _ (Kd.C_below HR0.out HB.out) hm H.out).mono ?_;rintro e w' ⟨rfl,⟨nd,rfl⟩⟩))
     go_ret
     exact ⟨by first | rfl | (simp;done),by repeat (first | exact HB.out | apply zac | apply below_drew)⟩
   ·have c2b0:decide ((l0.length:Int)≤a1)=false:=decide_eq_false c2
    rw [c2b0]
    clear c2
    go_enter Tru.func79,Try.ntmps79
    go_wp2_with (first | (go_at_call 104;refine (groupOf.calls A0 c0 l0 _ HR0.out hn HWF.out).mono ?_;rintro e w1 ⟨rfl,HO,HB⟩;rw [HD.out]))
    go_ret
    exact ⟨by first | rfl | (simp;done),HB.out⟩
 ·rw [if_neg hp] at h
  cases h
end Go.Proofs.Ytjkikkgpenhbgaa.Ba
