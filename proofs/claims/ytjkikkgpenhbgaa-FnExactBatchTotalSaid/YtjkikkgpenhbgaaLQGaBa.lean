import Derived.Test.YtjkikkgpenhbgaaLBa1
import Derived.Test.YtjkikkgpenhbgaaLBa0
import Derived.Test.YtjkikkgpenhbgaaLBa12
import Derived.Test.YtjkikkgpenhbgaaLBa3
import Derived.Test.YtjkikkgpenhbgaaLBa4
set_option linter.unusedVariables false
set_option linter.unusedSimpArgs false
namespace Go.Proofs.Ytjkikkgpenhbgaa.Q
open Go.RowKit Go.Proofs.Ytjkikkgpenhbgaa.Ba Go.Proofs.YtjkikkgpenhbgaaW.PrintWords Go.Proofs.YtjkikkgpenhbgaaW.PrintLast Go.Proofs.YtjkikkgpenhbgaaW.PrintMore
theorem w64 {a:Int} (h1:-9223372036854775808≤a) (h2:a≤9223372036854775807):wrap64 a=a:=by unfold wrap64;omega
theorem l6In_f (a b c:Int):spec_l6In.f a b c=some (decide (b≤a) && decide (a≤c)):=by
 unfold spec_l6In.f
 by_cases h:a≥b
 ·rw [if_pos h];have:decide (b≤a)=true:=decide_eq_true h;rw [this];rfl
 ·rw [if_neg h];have:decide (b≤a)=false:=decide_eq_false h;rw [this];rfl
theorem within_f (a b c:Int):impl_within.f a b c=some (decide (b≤a) && decide (a≤c)):=l6In_f a b c
theorem kOk_iff (n:Int):kOk n=(decide (1≤n) && decide (n≤3)):=by
 unfold kOk
 rw [Bool.eq_iff_iff];simp;omega
theorem l11Kind_f (a:Int):spec_l11Kind.f a=some (kOk a):=by
 unfold spec_l11Kind.f;rw [l6In_f,kOk_iff];rfl
theorem specTypeLen_f (a:Int):spec_TypeLen.f a=some (tLen a):=by
 unfold spec_TypeLen.f tLen
 split
 ·rfl
 split
 ·rfl
 split <;> rfl
theorem tLen_le (a:Int):0≤tLen a∧tLen a≤4:=by
 unfold tLen;split <;> (try split) <;> (try split) <;> omega
theorem rd_nat (l:List Int) (i:Nat) (h:i<l.length):rd l (i:Int)=l[i]:=by
 simp [rd,h]
theorem fieldOk_f (a:Int):spec_FieldOk.f a=some (fOk a):=by
 unfold spec_FieldOk.f;rw [l6In_f];rfl
theorem fOk_iff (a:Int):fOk a=true↔0≤a∧a≤30:=by simp [fOk]
theorem all_get {l:List Int} (h:l.all fOk=true) (i:Nat) (hi:i<l.length):fOk l[i]=true:=List.all_eq_true.1 h _ (List.getElem_mem hi)
theorem shareOk_loop (l:List Int) (hl:l.length≤1048576000) (d:Nat):∀ (k:Nat) (i:Nat),i+d=l.length→(l.take i).all fOk=true→d<k→spec_ShareOk.l0 k l (i:Int)=some (l.all fOk && decide ((l.length:Int)≤20)):=by
 induction d with
 | zero=>
  intro k i hi ht hk
  obtain ⟨k,rfl⟩:∃ j,k=j+1:=⟨k - 1,by omega⟩
  simp only [spec_ShareOk.l0]
  rw [if_neg (by omega)]
  obtain rfl:i=l.length:=by omega
  rw [List.take_length] at ht
  simp [ht]
 | succ d ih=>
  intro k i hi ht hk
  obtain ⟨k,rfl⟩:∃ j,k=j+1:=⟨k - 1,by omega⟩
  simp only [spec_ShareOk.l0]
  have h1:i<l.length:=by omega
  rw [if_pos (by omega),if_pos (by omega),fieldOk_f,Option.bind_some,rd_nat l i h1,w64 (by omega) (by omega)]
  cases e:fOk l[i]
  ·rw [if_neg (by simp)]
   have:l.all fOk=false:=by
    cases h:l.all fOk
    ·rfl
    ·rw [all_get h i h1] at e;cases e
   rw [this];rfl
  ·rw [if_pos rfl]
   have:=ih k (i+1) (by omega) (by rw [List.take_succ_eq_append_getElem h1,List.all_append,ht];simp [e]) (by omega)
   simpa using this
theorem shareOk_f (k:Nat) (l:List Int) (hl:l.length≤1048576000) (hk:l.length<k):spec_ShareOk.f k l=some (l.all fOk && decide ((l.length:Int)≤20)):=
 shareOk_loop l hl l.length k 0 (by omega) (by simp) hk
theorem fieldSum_f (a b:Int) (ha:fOk a=true) (hb:fOk b=true):spec_FieldSum.f a b=some ((a+b) % 31):=by
 unfold spec_FieldSum.f
 have h1:=(fOk_iff a).1 ha
 have h2:=(fOk_iff b).1 hb
 rw [fieldOk_f,Option.bind_some,if_pos ha,fieldOk_f,Option.bind_some,if_pos hb,w64 (by omega) (by omega),Int.tmod_eq_emod_of_nonneg (by omega)]
def sumL (a b:List Int):List Int:=List.zipWith (fun x y=>(x+y) % 31) a b
theorem sumL_length (a b:List Int) (h:a.length=b.length):(sumL a b).length=a.length:=by simp [sumL,h]
theorem l3Sum_loop (a b:List Int) (hl:a.length=b.length) (hn:a.length≤1048576000) (ha:a.all fOk=true) (hb:b.all fOk=true) (d:Nat):∀ (k:Nat) (i:Nat),i+d=a.length→d<k→spec_l3Sum.l0 k a b ((sumL a b).take i) (i:Int)=some (sumL a b):=by
 have hs:=sumL_length a b hl
 induction d with
 | zero=>
  intro k i hi hk
  obtain ⟨k,rfl⟩:∃ j,k=j+1:=⟨k - 1,by omega⟩
  simp only [spec_l3Sum.l0]
  rw [if_neg (by omega),List.take_of_length_le (by omega)]
 | succ d ih=>
  intro k i hi hk
  obtain ⟨k,rfl⟩:∃ j,k=j+1:=⟨k - 1,by omega⟩
  simp only [spec_l3Sum.l0]
  have h1:i<a.length:=by omega
  have h2:i<b.length:=by omega
  rw [if_pos (by omega),if_pos (by omega),if_pos (by omega),rd_nat a i h1,rd_nat b i h2,fieldSum_f _ _ (all_get ha i h1) (all_get hb i h2),Option.bind_some,if_pos (by rw [List.length_take];omega),w64 (by omega) (by omega)]
  have:=ih k (i+1) (by omega) (by omega)
  have h3:i<(sumL a b).length:=by omega
  rw [List.take_succ_eq_append_getElem h3] at this
  have e:(sumL a b)[i]=(a[i]+b[i]) % 31:=by simp [sumL]
  rw [e] at this
  simpa using this
theorem l3Sum_f (k:Nat) (a b:List Int) (hl:a.length=b.length) (hn:a.length≤1048576000) (ha:a.all fOk=true) (hb:b.all fOk=true) (hk:a.length<k):spec_l3Sum.f k a b=some (sumL a b):=by
 have:=l3Sum_loop a b hl hn ha hb a.length k 0 (by omega) hk
 unfold spec_l3Sum.f
 simpa using this
theorem eachGood_of (a b:List Int) (ha:a.all fOk=true) (hb:b.all fOk=true) (hl:a.length=b.length) (h:a.length≤20):Go.Proofs.Ytjkikkgpenhbgaa.Sim.eachGood a b=true:=by
 have e:Go.Proofs.Ytjkikkgpenhbgaa.Sim.numOk=fOk:=rfl
 have h2:b.length≤20:=by omega
 simp [Go.Proofs.Ytjkikkgpenhbgaa.Sim.eachGood,Go.Proofs.Ytjkikkgpenhbgaa.Sim.sOk,e,ha,hb,hl,h2]
theorem eachF_of (m:Go.Proofs.Ytjkikkgpenhbgaa.Sim.Mk) (a b:List Int) (ha:a.all fOk=true) (hb:b.all fOk=true) (hl:a.length=b.length) (h:a.length≤20):Ea.eachF m a b=some (Go.Proofs.Ytjkikkgpenhbgaa.Sim.eachVals m a b,true):=by
 unfold Ea.eachF
 rw [eachGood_of a b ha hb hl h,if_pos rfl]
end Go.Proofs.Ytjkikkgpenhbgaa.Q
