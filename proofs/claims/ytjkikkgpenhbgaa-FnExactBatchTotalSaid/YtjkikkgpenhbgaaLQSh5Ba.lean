import Derived.Test.YtjkikkgpenhbgaaLBa16
import Derived.Test.YtjkikkgpenhbgaaLBa24
import Derived.Test.YtjkikkgpenhbgaaLQGaBa
import Derived.Test.YtjkikkgpenhbgaaLQGbBa
set_option linter.unusedVariables false
set_option linter.unusedSimpArgs false
namespace Go.Proofs.Ytjkikkgpenhbgaa.Q
open Go.RowKit Go.Proofs.Ytjkikkgpenhbgaa.Ba Go.Proofs.YtjkikkgpenhbgaaW.PrintWords Go.Proofs.YtjkikkgpenhbgaaW.PrintLast Go.Proofs.YtjkikkgpenhbgaaW.PrintMore
theorem total_loop (b:Int) (ok:Bool) (a:Int) (s i':List Int) (c d:Int) (t j:List Int) (n:Int) (l:List Int) (hl:l.length≤4) (dd:Nat):∀ (k i:Nat) (x7 x8:Int),i+dd=l.length→dd<k→(b≠2→x8=2 ^ i)→
  ∃ r,spec_BatchTotal.l0 k l ok x7 x8 (i:Int) a b s i' c d t j n=some (r,ok)∧impl_BatchTotal.l0 k ok x7 l (l.length:Int) (i:Int) a b s i' c d t j n=some (r,ok):=by
 induction dd with
 | zero=>
  intro k i x7 x8 hi hk h8
  obtain ⟨k,rfl⟩:∃ q,k=q+1:=⟨k - 1,by omega⟩
  have h1:¬ (i:Int)<(l.length:Int):=by omega
  simp only [spec_BatchTotal.l0,impl_BatchTotal.l0,if_neg h1]
  exact ⟨_,rfl,rfl⟩
 | succ dd ih=>
  intro k i x7 x8 hi hk h8
  obtain ⟨k,rfl⟩:∃ q,k=q+1:=⟨k - 1,by omega⟩
  have h1:(i:Int)<(l.length:Int):=by omega
  have h0:(0:Int)≤i:=by omega
  have hw:wrap64 ((i:Int)+1)=((i+1:Nat):Int):=w64 (by omega) (by omega)
  simp only [spec_BatchTotal.l0,impl_BatchTotal.l0,impl_oneHot.f,if_pos h1,if_pos h0,Option.bind_some,hw]
  by_cases hb:b=2
  ·simp only [hb,decide_true,if_true]
   rw [hb] at ih
   exact ih k (i+1) _ x8 (by omega) (by omega) (fun h=>absurd rfl h)
  ·have hx:=h8 hb
   subst hx
   have e:shl .i64 1 (i:Int)=2 ^ i∧wrap64 (2*2 ^ i)=(2:Int) ^ (i+1):=by
    have:i=0∨i=1∨i=2∨i=3:=by omega
    rcases this with rfl | rfl | rfl | rfl <;> exact ⟨by decide,by rw [w64 (by omega) (by omega)];rfl⟩
   simp only [hb,decide_false,if_false,Bool.false_eq_true,e.1,e.2]
   exact ih k (i+1) _ _ (by omega) (by omega) (fun _=>rfl)
theorem batchTotal_both (k:Nat) (a b:Int) (s i:List Int) (c d:Int) (t j:List Int) (n:Int) (hs:s.length≤1048576) (hi:i.length≤1048576) (ht:t.length≤1048576) (hj:j.length≤1048576) (hk:2*i.length+2*j.length+s.length+t.length+9<k) (hwi:allWf i=true) (hwj:allWf j=true) :
  ∃ v,spec_BatchTotal.f k a b s i c d t j n=some v∧impl_BatchTotal.f k a b s i c d t j n=some v:=by
 obtain ⟨e1,e2⟩:=tellV_both k a b s i c d t j n hs hi ht hj hk hwi hwj
 unfold spec_BatchTotal.f impl_BatchTotal.f
 rw [e1,e2,Option.bind_some,Option.bind_some]
 have hsh:=tellV_short a b s i c d t j n
 obtain ⟨r,r1,r2⟩:=total_loop b (tellV a b s i c d t j n).2.2 a s i c d t j n (tellV a b s i c d t j n).1 hsh (tellV a b s i c d t j n).1.length k 0 0 1 (by omega) (by omega) (fun _=>rfl)
 exact ⟨_,r1,r2⟩
end Go.Proofs.Ytjkikkgpenhbgaa.Q
