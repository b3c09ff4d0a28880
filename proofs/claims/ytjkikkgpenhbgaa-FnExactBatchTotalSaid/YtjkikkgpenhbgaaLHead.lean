import Derived.Test.YtjkikkgpenhbgaaRows
import Derived.JoinedOf
import Derived.KernelRfl
namespace Go.Proofs.Ytjkikkgpenhbgaa.Head
theorem words_split (p r:List Char):wordsSigns (p++Char.ofNat 32 :: r)=wordsSigns p++wordsSigns r:=by
 induction p with
 | nil=>rfl
 | cons c p ih=>
  by_cases h:c=Char.ofNat 32
  ·subst h
   show [] :: wordsSigns (p++Char.ofNat 32 :: r)=([] :: wordsSigns p)++wordsSigns r
   rw [ih];rfl
  ·have e:∀ l,wordsSigns (c :: l)=match wordsSigns l with | w :: ws=>(c :: w) :: ws | []=>[[c]]:=fun l=>by
    rw [wordsSigns] <;> first | rfl | exact h
   rw [List.cons_append,e,e,ih]
   have:wordsSigns p≠[]:=by
    cases p with
    | nil=>simp [wordsSigns]
    | cons d q=>
     by_cases h2:d=Char.ofNat 32
     ·subst h2;simp [wordsSigns]
     ·rw [wordsSigns]
      ·split <;> simp
      ·exact h2
   cases hw:wordsSigns p with
   | nil=>exact absurd hw this
   | cons w ws=>rfl
def cutW:List Char:=[99,117,116].map Char.ofNat
theorem make_of (P:Program) (W:List (List Char)) (h:behindMainWord (wordsSigns P.initOrder.toList)=cutW :: W):P.make=some .cut:=by
 unfold Program.make
 rw [h]
 kernel_rfl
theorem lifts_of (P:Program) (W:List (List Char)) (h:behindMainWord (wordsSigns P.initOrder.toList)=cutW :: W):P.headLifts=[]:=by
 unfold Program.headLifts
 rw [h]
 kernel_rfl
theorem final_of (P:Program) (W:List (List Char)) (h:behindMainWord (wordsSigns P.initOrder.toList)=cutW :: W):P.liftsFinal=false:=by
 unfold Program.liftsFinal
 rw [lifts_of P W h,h]
 kernel_rfl
theorem enter_of (P:Program) (W:List (List Char)) (h:behindMainWord (wordsSigns P.initOrder.toList)=cutW :: W) (h1:P.laysLater=false) (h2:P.bearsReflect=false) (h3:P.doorFits []=true):P.mayEnter=true:=by
 unfold Program.mayEnter
 rw [h]
 have e:stripLifts liftWords (cutW :: W)=([],cutW :: W):=by kernel_rfl
 simp only [e,h1,h2,h3]
 show ((cutW == "gc".toList || cutW == "spec".toList) && (W.isEmpty || W.head? == some "stop".toList) || cutW == "carried".toList && List.take 2 W == ["gc".toList,"cut".toList] && !false && !false || (cutW :: W).head? == some "cut".toList && (([]:List String).contains "finals" || !false) && (([]:List String).contains "reflectrows" || !false) && (([]:List String).contains "reflectrows" || !([]:List String).contains "leanrows") && true)=true
 kernel_rfl
def headA:List Char:=[104,97,114,110,101,115,115,32,48,54,51,100,102,98,99,101,97,48,101,49,49,49,54,48,57,97,53,52,52,98,53,97,56,52,52,51,100,49,54,50,55,101,55,49,56,51,50,48,51,57,99,54,54,50,49,57,51,99,98,102,55,100,101,101,98,54,49,53,54,48,57,101,32,99,117,116].map Char.ofNat
def headB:List Char:=[97,116,32,108,111,111,112,46,101,120,97,109,112,108,101,47,115,99,114,117,116,105,110,101,101,114,47,108,97,119,115,46,70,110,68,101,99,105,100,101,32,108,111,111,112,46,101,120,97,109,112,108,101,47,115,99,114,117,116,105,110,101,101,114,47,108,97,119,115,46,70,110,68,101,99,105,100,101,83,112,108,105,116,32,108,111,111,112,46,101,120,97,109,112,108,101,47,115,99,114,117,116,105,110,101,101,114,47,108,97,119,115,46,70,110,66,97,116,99,104,78,101,119,32,108,111,111,112,46,101,120,97,109,112,108,101,47,115,99,114,117,116,105,110,101,101,114,47,108,97,119,115,46,70,110,69,120,97,99,116,66,97,116,99,104,84,101,108,108,32,108,111,111,112,46,101,120,97,109,112,108,101,47,115,99,114,117,116,105,110,101,101,114,47,108,97,119,115,46,70,110,69,120,97,99,116,66,97,116,99,104,84,111,116,97,108].map Char.ofNat
theorem head_is:Try.prog.initOrder=String.ofList (headA++Char.ofNat 32 :: headB):=by kernel_rfl
theorem head_three:wordsSigns headA=[[104,97,114,110,101,115,115].map Char.ofNat,[48,54,51,100,102,98,99,101,97,48,101,49,49,49,54,48,57,97,53,52,52,98,53,97,56,52,52,51,100,49,54,50,55,101,55,49,56,51,50,48,51,57,99,54,54,50,49,57,51,99,98,102,55,100,101,101,98,54,49,53,54,48,57,101].map Char.ofNat,[99,117,116].map Char.ofNat]:=by decide +kernel
theorem head_words:wordsSigns Try.prog.initOrder.toList=[[104,97,114,110,101,115,115].map Char.ofNat,[48,54,51,100,102,98,99,101,97,48,101,49,49,49,54,48,57,97,53,52,52,98,53,97,56,52,52,51,100,49,54,50,55,101,55,49,56,51,50,48,51,57,99,54,54,50,49,57,51,99,98,102,55,100,101,101,98,54,49,53,54,48,57,101].map Char.ofNat,[99,117,116].map Char.ofNat]++wordsSigns headB:=by rw [head_is,String.toList_ofList,words_split,head_three]
theorem behind_of (W:List (List Char)):behindMainWord ([[104,97,114,110,101,115,115].map Char.ofNat,[48,54,51,100,102,98,99,101,97,48,101,49,49,49,54,48,57,97,53,52,52,98,53,97,56,52,52,51,100,49,54,50,55,101,55,49,56,51,50,48,51,57,99,54,54,50,49,57,51,99,98,102,55,100,101,101,98,54,49,53,54,48,57,101].map Char.ofNat,[99,117,116].map Char.ofNat]++W)=cutW :: W:=by kernel_rfl
theorem head_behind:behindMainWord (wordsSigns Try.prog.initOrder.toList)=cutW :: wordsSigns headB:=by rw [head_words,behind_of]
theorem head_make:Try.prog.make=some .cut:=make_of _ _ head_behind
theorem head_lifts:Try.prog.liftsFinal=false:=final_of _ _ head_behind
theorem head_enter:Try.prog.mayEnter=true:=enter_of _ _ head_behind (by kernel_rfl) (by kernel_rfl) (by kernel_rfl)
end Go.Proofs.Ytjkikkgpenhbgaa.Head
