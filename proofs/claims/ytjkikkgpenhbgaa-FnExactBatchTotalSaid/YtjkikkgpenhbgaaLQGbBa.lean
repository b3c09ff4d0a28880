import Derived.KernelRfl
import Derived.Test.YtjkikkgpenhbgaaLBa1
import Derived.Test.YtjkikkgpenhbgaaLBa12
import Derived.Test.YtjkikkgpenhbgaaLBa0
import Derived.Test.YtjkikkgpenhbgaaLZ
import Derived.Test.YtjkikkgpenhbgaaLBa16
import Derived.Test.YtjkikkgpenhbgaaLBa17
import Derived.Test.YtjkikkgpenhbgaaLBa18
import Derived.Test.YtjkikkgpenhbgaaLBa20
import Derived.Test.YtjkikkgpenhbgaaLBa21
import Derived.Test.YtjkikkgpenhbgaaLBa22
import Derived.Test.YtjkikkgpenhbgaaLBa3
import Derived.Test.YtjkikkgpenhbgaaLBa4
import Derived.Test.YtjkikkgpenhbgaaLQGaBa
set_option linter.unusedVariables false
set_option linter.unusedSimpArgs false
namespace Go.Proofs.Ytjkikkgpenhbgaa.Q
open Go.RowKit Go.Proofs.Ytjkikkgpenhbgaa.Ba Go.Proofs.YtjkikkgpenhbgaaW.PrintWords Go.Proofs.YtjkikkgpenhbgaaW.PrintLast Go.Proofs.YtjkikkgpenhbgaaW.PrintMore
theorem eqIntS_loop (l m:List Int) (hl:l.length≤1048576000) (hm:m.length=l.length) (d:Nat):∀ (k:Nat) (i:Nat),i+d=l.length→l.take i=m.take i→d<k→laws_eqIntS.l0 k l m (i:Int)=some (decide (l=m)):=by
 induction d with
 | zero=>
  intro k i hi ht hk
  obtain ⟨k,rfl⟩:∃ j,k=j+1:=⟨k - 1,by omega⟩
  simp only [laws_eqIntS.l0]
  rw [if_neg (by omega)]
  obtain rfl:i=l.length:=by omega
  rw [List.take_length,← hm,List.take_length] at ht
  simp [ht]
 | succ d ih=>
  intro k i hi ht hk
  obtain ⟨k,rfl⟩:∃ j,k=j+1:=⟨k - 1,by omega⟩
  simp only [laws_eqIntS.l0]
  have h1:i<l.length:=by omega
  have h2:i<m.length:=by omega
  rw [if_pos (by omega),if_pos (by omega),if_pos (by omega),w64 (by omega) (by omega),rd_nat l i h1,rd_nat m i h2]
  by_cases e:l[i]=m[i]
  ·rw [if_pos e]
   have:=ih k (i+1) (by omega) (by rw [List.take_succ_eq_append_getElem h1,List.take_succ_eq_append_getElem h2,ht,e]) (by omega)
   simpa using this
  ·rw [if_neg e]
   have:l≠m:=fun h=>by subst h;exact e rfl
   simp [this]
theorem eqIntS_f (k:Nat) (l m:List Int) (hl:l.length≤1048576000) (hk:l.length<k):laws_eqIntS.f k l m=some (decide (l=m)):=by
 unfold laws_eqIntS.f
 by_cases e:l.length=m.length
 ·rw [if_pos (by omega)]
  exact eqIntS_loop l m hl e.symm l.length k 0 (by omega) (by simp) hk
 ·rw [if_neg (by omega)]
  have:l≠m:=fun h=>by subst h;exact e rfl
  simp [this]
theorem eqCol_f (k:Nat) (a b:Int) (s i:List Int) (a' b':Int) (s' i':List Int) (hs:s.length≤1048576000) (hi:i.length≤1048576000) (hk:s.length<k) (hk2:i.length<k) :
  laws_eqCol.f k a b s i a' b' s' i'=some (decide (a=a') && decide (b=b') && decide (s=s') && decide (i=i')):=by
 unfold laws_eqCol.f
 by_cases h1:a=a'
 ·by_cases h2:b=b'
  ·rw [if_pos h1,if_pos h2,eqIntS_f k s s' hs hk,Option.bind_some]
   by_cases h3:s=s'
   ·rw [if_pos (by simp [h3]),eqIntS_f k i i' hi hk2,Option.bind_some]
    by_cases h4:i=i' <;> simp [h1,h2,h3,h4]
   ·rw [if_neg (by simp [h3])];simp [h3]
  ·rw [if_pos h1,if_neg h2];simp [h2]
 ·rw [if_neg h1];simp [h1]
theorem eqBatch_f (k:Nat) (a b:Int) (s i:List Int) (c d:Int) (t j:List Int) (n:Int) (a' b':Int) (s' i':List Int) (c' d':Int) (t' j':List Int) (n':Int)
  (hs:s.length≤1048576000) (hi:i.length≤1048576000) (ht:t.length≤1048576000) (hj:j.length≤1048576000) (k1:s.length<k) (k2:i.length<k) (k3:t.length<k) (k4:j.length<k) :
  laws_eqBatch.f k a b s i c d t j n a' b' s' i' c' d' t' j' n'=some (decide (a=a') && decide (b=b') && decide (s=s') && decide (i=i') && (decide (c=c') && decide (d=d') && decide (t=t') && decide (j=j')) && decide (n=n')):=by
 unfold laws_eqBatch.f
 rw [eqCol_f k a b s i a' b' s' i' hs hi k1 k2,Option.bind_some,eqCol_f k c d t j c' d' t' j' ht hj k3 k4]
 generalize (decide (a=a') && decide (b=b') && decide (s=s') && decide (i=i'))=x
 generalize (decide (c=c') && decide (d=d') && decide (t=t') && decide (j=j'))=y
 cases x
 ·rfl
 ·rw [if_pos rfl,Option.bind_some]
  cases y
  ·rfl
  ·rw [if_pos rfl]
   by_cases h:n=n' <;> simp [h]
theorem szIntS_f (l:List Int) (a:Int) (h0:0≤a) (h:a≤1048576) (hl:l.length≤maxLen):laws_szIntS.f l a=some (if a - (l.length:Int)<0 then -1 else a - (l.length:Int)):=by
 unfold laws_szIntS.f
 unfold maxLen at hl
 rw [w64 (by omega) (by omega)]
 split <;> rfl
theorem toIntS_loop (l:List Int) (hl:l.length≤1048576000) (d:Nat):∀ (k:Nat) (i:Nat) (m:List Int),i+d=l.length→m.length=l.length→m.take i=l.take i→d<k→laws_toIntS.l0 k l m (i:Int)=some l:=by
 induction d with
 | zero=>
  intro k i m hi hm ht hk
  obtain ⟨k,rfl⟩:∃ j,k=j+1:=⟨k - 1,by omega⟩
  simp only [laws_toIntS.l0]
  rw [if_neg (by omega)]
  obtain rfl:i=l.length:=by omega
  rw [List.take_length,← hm,List.take_length] at ht
  rw [ht]
 | succ d ih=>
  intro k i m hi hm ht hk
  obtain ⟨k,rfl⟩:∃ j,k=j+1:=⟨k - 1,by omega⟩
  simp only [laws_toIntS.l0]
  rw [if_pos (by omega),if_pos (by omega),if_pos (by omega),w64 (by omega) (by omega)]
  have hlt:i<l.length:=by omega
  have:=ih k (i+1) (m.set i l[i]) (by omega) (by simpa using hm) (by
   have h2:i<m.length:=by omega
   rw [List.take_succ_eq_append_getElem (by simpa using h2),List.take_succ_eq_append_getElem hlt,List.take_set_of_le (Nat.le_refl _),ht]
   simp) (by omega)
  rw [rd_nat l i hlt]
  simpa using this
theorem toIntS_f (k:Nat) (l:List Int) (hl:l.length≤1048576000) (hk:l.length<k):laws_toIntS.f k l=some l:=by
 unfold laws_toIntS.f
 rw [if_pos (by omega),if_pos (by simp;omega)]
 exact toIntS_loop l hl l.length k 0 _ (by omega) (by simp) (by simp) hk
def vecOk (kind:Int) (s:List Int):Bool:=kOk kind && decide ((s.length:Int)=tLen kind) && s.all fOk
theorem l11Vec_f (k:Nat) (kind:Int) (s:List Int) (hl:s.length≤1048576000) (hk:s.length<k):spec_l11Vec.f k kind s=some (vecOk kind s):=by
 unfold spec_l11Vec.f vecOk
 rw [l11Kind_f,Option.bind_some]
 cases h:kOk kind
 ·rfl
 ·rw [if_pos rfl,shareOk_f k s hl hk,Option.bind_some]
  have ht:=tLen_le kind
  cases h2:s.all fOk
  ·simp
  ·by_cases h3:(s.length:Int)≤20
   ·rw [if_pos (by simp [h3]),specTypeLen_f,Option.bind_some]
    simp only [Bool.true_and,Bool.and_true]
    rfl
   ·rw [if_neg (by simp;omega)]
    have:¬ ((s.length:Int)=tLen kind):=by omega
    simp [this]
theorem sized_f (kind:Int) (s:List Int):impl_sized.f kind s (tLen kind)=some (vecOk kind s):=by
 unfold impl_sized.f vecOk impl_kindOk.f impl_elementsOk.f
 have ht:=tLen_le kind
 rw [Option.bind_some]
 cases h:kOk kind
 ·rfl
 ·rw [if_pos rfl]
  by_cases h3:(s.length:Int)=tLen kind
  ·rw [if_pos h3,Option.bind_some]
   have:(s.length:Int)≤20:=by omega
   simp [h3];omega
  ·rw [if_neg h3];simp [h3]
theorem l22Has_loop (l:List Int) (a:Int) (hl:l.length≤1048576000) (d:Nat):∀ (k:Nat) (i:Nat),i+d=l.length→a ∉ l.take i→d<k→spec_l22Has.l0 k l a (i:Int)=some (l.contains a):=by
 induction d with
 | zero=>
  intro k i hi ht hk
  obtain ⟨k,rfl⟩:∃ j,k=j+1:=⟨k - 1,by omega⟩
  simp only [spec_l22Has.l0]
  rw [if_neg (by omega)]
  obtain rfl:i=l.length:=by omega
  rw [List.take_length] at ht
  simp [ht]
 | succ d ih=>
  intro k i hi ht hk
  obtain ⟨k,rfl⟩:∃ j,k=j+1:=⟨k - 1,by omega⟩
  simp only [spec_l22Has.l0]
  have h1:i<l.length:=by omega
  rw [if_pos (by omega),if_pos (by omega),rd_nat l i h1,w64 (by omega) (by omega)]
  by_cases e:l[i]=a
  ·rw [if_pos e]
   have:a ∈ l:=by rw [← e];exact List.getElem_mem h1
   simp [this]
  ·rw [if_neg e]
   have:=ih k (i+1) (by omega) (by
    rw [List.take_succ_eq_append_getElem h1,List.mem_append]
    rintro (h | h)
    ·exact ht h
    ·simp at h;exact e h.symm) (by omega)
   simpa using this
theorem l22Has_f (k:Nat) (l:List Int) (a:Int) (hl:l.length≤1048576000) (hk:l.length<k):spec_l22Has.f k l a=some (l.contains a):=
 l22Has_loop l a hl l.length k 0 (by omega) (by simp) hk
def colOk (side kind:Int) (s i:List Int):Bool:=decide (1≤side) && decide (side≤2) && vecOk kind s && i.all iOk && decide i.Nodup && decide ((i.length:Int)≤9)
theorem implColOk_f (side kind:Int) (s i:List Int) (hi:i.length≤1048576000) (hw:allWf i=true):impl_ColOk.f side kind s i=some (colOk side kind s i):=by
 unfold impl_ColOk.f colOk impl_TypeLen.f impl_idsOk.f
 rw [within_f,Option.bind_some]
 cases h:(decide (1≤side) && decide (side≤2))
 ·rfl
 ·rw [if_pos rfl,Option.bind_some,sized_f,Option.bind_some]
  cases h2:vecOk kind s
  ·rfl
  ·rw [if_pos rfl,if_pos (by simp [hw,hi]),Option.bind_some]
   simp only [Bool.true_and,Option.some.injEq]
   cases i.all iOk <;> cases decide i.Nodup <;> simp
theorem nodup_take_succ {l:List Int} {i:Nat} (h:i<l.length) (ht:(l.take i).Nodup) (hn:l[i] ∉ l.take i):(l.take (i+1)).Nodup:=by
 rw [List.take_succ_eq_append_getElem h,List.nodup_append]
 refine ⟨ht,by simp,?_⟩
 intro a ha b hb
 simp only [List.mem_singleton] at hb
 subst hb
 exact fun e=>hn (e ▸ ha)
theorem not_nodup {l:List Int} {i:Nat} (h:i<l.length) (hn:l[i] ∈ l.take i):¬ l.Nodup:=by
 intro hd
 have:=(List.take_sublist (i+1) l).nodup hd
 rw [List.take_succ_eq_append_getElem h,List.nodup_append] at this
 exact this.2.2 _ hn _ (by simp) rfl
theorem idOk_f (a:Int):spec_l6In.f a 1 99=some (iOk a):=by rw [l6In_f];rfl
theorem specColOk_loop (side kind:Int) (s l:List Int) (hs:s.length≤1048576000) (hl:l.length≤1048576000) (d:Nat):∀ (k:Nat) (i:Nat),i+d=l.length→(l.take i).all iOk=true→(l.take i).Nodup→d+l.length<k→d+s.length+1<k→
  spec_ColOk.l0 k (i:Int) side kind s l=some (colOk side kind s l):=by
 induction d with
 | zero=>
  intro k i hi ht hn hk hk2
  obtain ⟨k,rfl⟩:∃ j,k=j+1:=⟨k - 1,by omega⟩
  simp only [spec_ColOk.l0]
  rw [if_neg (by omega)]
  obtain rfl:i=l.length:=by omega
  rw [List.take_length] at ht hn
  rw [l6In_f,Option.bind_some]
  unfold colOk
  rw [ht]
  cases h:(decide (1≤side) && decide (side≤2))
  ·rfl
  ·rw [if_pos rfl,l11Vec_f k kind s hs (by omega),Option.bind_some]
   cases h2:vecOk kind s
   ·rfl
   ·rw [if_pos rfl];simp [hn]
 | succ d ih=>
  intro k i hi ht hn hk hk2
  obtain ⟨k,rfl⟩:∃ j,k=j+1:=⟨k - 1,by omega⟩
  simp only [spec_ColOk.l0]
  have h1:i<l.length:=by omega
  rw [if_pos (by omega),if_pos (by omega),rd_nat l i h1,idOk_f,Option.bind_some]
  cases e:iOk l[i]
  ·rw [if_neg (by simp)]
   have:l.all iOk=false:=by
    cases h:l.all iOk
    ·rfl
    ·have:=List.all_eq_true.1 h _ (List.getElem_mem h1);rw [e] at this;cases this
   simp [colOk,this]
  ·rw [if_pos rfl,if_pos (by omega),Int.toNat_natCast,l22Has_f k _ _ (by rw [List.length_take];omega) (by rw [List.length_take];omega),Option.bind_some,w64 (by omega) (by omega)]
   by_cases hc:l[i] ∈ l.take i
   ·rw [if_pos (by simpa using hc)]
    have:=not_nodup h1 hc
    simp [colOk,this]
   ·rw [if_neg (by simpa using hc)]
    have:=ih k (i+1) (by omega) (by rw [List.take_succ_eq_append_getElem h1,List.all_append,ht];simp [e]) (nodup_take_succ h1 hn hc) (by omega) (by omega)
    simpa using this
theorem specColOk_f (k:Nat) (side kind:Int) (s l:List Int) (hs:s.length≤1048576000) (hl:l.length≤1048576000) (hk:2*l.length<k) (hk2:l.length+s.length+1<k):spec_ColOk.f k side kind s l=some (colOk side kind s l):=by
 unfold spec_ColOk.f
 have:=specColOk_loop side kind s l hs hl l.length k 0 (by omega) (by simp) (by simp) (by omega) (by omega)
 simpa using this
theorem szCol_f (a b:Int) (s i:List Int) (m:Int) (h0:0≤m) (h:m≤1048576) (hs:s.length≤maxLen) (hi:i.length≤maxLen):laws_szCol.f a b s i m=some (if m - (s.length:Int) - (i.length:Int)<0 then -1 else m - (s.length:Int) - (i.length:Int)):=by
 unfold laws_szCol.f
 rw [szIntS_f s m h0 h hs,Option.bind_some]
 by_cases h1:m - (s.length:Int)<0
 ·rw [if_pos h1,if_pos (by omega),if_pos (by omega)]
 ·rw [if_neg h1,if_neg h1,szIntS_f i _ (by omega) (by omega) hi,Option.bind_some]
  by_cases h2:m - (s.length:Int) - (i.length:Int)<0
  ·rw [if_pos h2,if_pos (by omega)]
  ·rw [if_neg h2,if_neg h2]
theorem toCol_f (k:Nat) (a b:Int) (s i:List Int) (hs:s.length≤1048576000) (hi:i.length≤1048576000) (hk:s.length<k) (hk2:i.length<k):laws_toCol.f k a b s i=some (a,b,s,i):=by
 unfold laws_toCol.f
 rw [toIntS_f k s hs hk,Option.bind_some,toIntS_f k i hi hk2,Option.bind_some]
def hv (x:Int) (l:List Int):Int:=l.foldr (fun c acc=>(acc*x+c) % 31) 0
theorem same_loop (l m:List Int) (hl:l.length≤1048576000) (hm:m.length=l.length) (d:Nat):∀ (k:Nat) (i:Nat),i+d=l.length→l.take i=m.take i→d<k→spec_l12Same.l0 k l m (i:Int)=some (decide (l=m)):=by
 induction d with
 | zero=>
  intro k i hi ht hk
  obtain ⟨k,rfl⟩:∃ j,k=j+1:=⟨k - 1,by omega⟩
  simp only [spec_l12Same.l0]
  rw [if_neg (by omega)]
  obtain rfl:i=l.length:=by omega
  rw [List.take_length,← hm,List.take_length] at ht
  simp [ht]
 | succ d ih=>
  intro k i hi ht hk
  obtain ⟨k,rfl⟩:∃ j,k=j+1:=⟨k - 1,by omega⟩
  simp only [spec_l12Same.l0]
  have h1:i<l.length:=by omega
  have h2:i<m.length:=by omega
  rw [if_pos (by omega),if_pos (by omega),if_pos (by omega),w64 (by omega) (by omega),rd_nat l i h1,rd_nat m i h2]
  by_cases e:l[i]=m[i]
  ·rw [if_pos e]
   have:=ih k (i+1) (by omega) (by rw [List.take_succ_eq_append_getElem h1,List.take_succ_eq_append_getElem h2,ht,e]) (by omega)
   simpa using this
  ·rw [if_neg e]
   have:l≠m:=fun h=>by subst h;exact e rfl
   simp [this]
theorem same_f (k:Nat) (l m:List Int) (hl:l.length≤1048576000) (hk:l.length<k):spec_l12Same.f k l m=some (decide (l=m)):=by
 unfold spec_l12Same.f
 by_cases e:l.length=m.length
 ·rw [if_pos (by omega)]
  exact same_loop l m hl e.symm l.length k 0 (by omega) (by simp) hk
 ·rw [if_neg (by omega)]
  have:l≠m:=fun h=>by subst h;exact e rfl
  simp [this]
theorem sEqual_loop (l m:List Int) (hl:l.length≤1048576000) (hm:m.length=l.length) (d:Nat):∀ (k:Nat) (i:Nat),i+d=l.length→l.take i=m.take i→d<k→slices_Equal_int_int.l0 k l m (l.length:Int) (i:Int)=some (decide (l=m)):=by
 induction d with
 | zero=>
  intro k i hi ht hk
  obtain ⟨k,rfl⟩:∃ j,k=j+1:=⟨k - 1,by omega⟩
  simp only [slices_Equal_int_int.l0]
  rw [if_neg (by omega)]
  obtain rfl:i=l.length:=by omega
  rw [List.take_length,← hm,List.take_length] at ht
  simp [ht]
 | succ d ih=>
  intro k i hi ht hk
  obtain ⟨k,rfl⟩:∃ j,k=j+1:=⟨k - 1,by omega⟩
  simp only [slices_Equal_int_int.l0]
  have h1:i<l.length:=by omega
  have h2:i<m.length:=by omega
  rw [if_pos (by omega),if_pos (by omega),if_pos (by omega),if_pos (by omega),w64 (by omega) (by omega),rd_nat l i h1,rd_nat m i h2]
  by_cases e:l[i]=m[i]
  ·rw [if_pos e]
   have:=ih k (i+1) (by omega) (by rw [List.take_succ_eq_append_getElem h1,List.take_succ_eq_append_getElem h2,ht,e]) (by omega)
   simpa using this
  ·rw [if_neg e]
   have:l≠m:=fun h=>by subst h;exact e rfl
   simp [this]
theorem sEqual_f (k:Nat) (l m:List Int) (hl:l.length≤1048576000) (hk:l.length<k):slices_Equal_int_int.f k l m=some (decide (l=m)):=by
 unfold slices_Equal_int_int.f
 by_cases e:l.length=m.length
 ·rw [if_pos (by omega)]
  exact sEqual_loop l m hl e.symm l.length k 0 (by omega) (by simp) hk
 ·rw [if_neg (by omega)]
  have:l≠m:=fun h=>by subst h;exact e rfl
  simp [this]
def batchV (a b:Int) (s i:List Int) (c d:Int) (t j:List Int) (n:Int):Bool:=colOk a b s i && colOk c d t j && (decide (a=1) && decide (c=2) && decide (b=d) && decide (i=j) && (decide (1≤n) && decide (n≤9)))
theorem batchV_both (k:Nat) (a b:Int) (s i:List Int) (c d:Int) (t j:List Int) (n:Int) (hs:s.length≤1048576) (hi:i.length≤1048576) (ht:t.length≤1048576) (hj:j.length≤1048576) (hk:2*i.length+2*j.length+s.length+t.length+2<k) (hwi:allWf i=true) (hwj:allWf j=true) :
  spec_BatchOk.f k a b s i c d t j n=some (batchV a b s i c d t j n)∧impl_BatchOk.f k a b s i c d t j n=some (batchV a b s i c d t j n):=by
 unfold spec_BatchOk.f impl_BatchOk.f impl_needOk.f batchV
 rw [specColOk_f k a b s i (by omega) (by omega) (by omega) (by omega),implColOk_f a b s i (by omega) hwi,Option.bind_some,Option.bind_some]
 cases colOk a b s i
 ·exact ⟨rfl,rfl⟩
 rw [if_pos rfl,if_pos rfl,specColOk_f k c d t j (by omega) (by omega) (by omega) (by omega),implColOk_f c d t j (by omega) hwj,Option.bind_some,Option.bind_some]
 cases colOk c d t j
 ·exact ⟨rfl,rfl⟩
 rw [if_pos rfl,if_pos rfl,same_f k i j (by omega) (by omega),sEqual_f k i j (by omega) (by omega),within_f,l6In_f]
 refine ⟨?_,?_⟩ <;>
  (by_cases h1:a=1 <;> by_cases h2:c=2 <;> by_cases h3:b=d <;> by_cases h4:i=j <;> simp [h1,h2,h3,h4])
theorem batchV_lens {a b:Int} {s i:List Int} {c d:Int} {t j:List Int} {n:Int} (h:batchV a b s i c d t j n=true):s.length=t.length∧s.length≤4∧s.all fOk=true∧t.all fOk=true∧i.length≤9∧1≤n:=by
 simp only [batchV,colOk,vecOk,Bool.and_eq_true,decide_eq_true_eq] at h
 obtain ⟨⟨h1,h2⟩,⟨⟨⟨h3,h4⟩,h5⟩,h6⟩,h7,h8⟩:=h
 have:=tLen_le b
 subst h5
 refine ⟨?_,?_,?_,?_,?_,h7⟩
 all_goals (first | omega | simp_all)
def tellV (a b:Int) (s i:List Int) (c d:Int) (t j:List Int) (n:Int):List Int×Int×Bool:=
 if batchV a b s i c d t j n=true then (if (i.length:Int)<n then ([],0,false) else (sumL s t,(i.length:Int),true)) else ([],0,false)
theorem tellV_both (k:Nat) (a b:Int) (s i:List Int) (c d:Int) (t j:List Int) (n:Int) (hs:s.length≤1048576) (hi:i.length≤1048576) (ht:t.length≤1048576) (hj:j.length≤1048576) (hk:2*i.length+2*j.length+s.length+t.length+9<k) (hwi:allWf i=true) (hwj:allWf j=true) :
  spec_BatchTell.f k a b s i c d t j n=some (tellV a b s i c d t j n)∧impl_BatchTell.f k a b s i c d t j n=some (tellV a b s i c d t j n):=by
 obtain ⟨e1,e2⟩:=batchV_both k a b s i c d t j n hs hi ht hj (by omega) hwi hwj
 unfold spec_BatchTell.f impl_BatchTell.f tellV
 rw [e1,e2,Option.bind_some,Option.bind_some]
 cases hv:batchV a b s i c d t j n
 ·exact ⟨rfl,rfl⟩
 obtain ⟨h1,h2,h3,h4,h5,h6⟩:=batchV_lens hv
 rw [if_pos rfl,if_pos rfl,if_pos rfl]
 by_cases hn:(i.length:Int)<n
 ·rw [if_pos hn,if_pos hn,if_pos hn]
  exact ⟨rfl,rfl⟩
 ·rw [if_neg hn,if_neg hn,if_neg hn]
  unfold spec_l23Sums.f impl_Batch_sums.f impl_ShareSum.f
  rw [l3Sum_f k s t (by omega) (by omega) h3 h4 (by omega),eachF_of .plus s t h3 h4 h1 (by omega)]
  exact ⟨rfl,rfl⟩
theorem tellV_short (a b:Int) (s i:List Int) (c d:Int) (t j:List Int) (n:Int):(tellV a b s i c d t j n).1.length≤4:=by
 unfold tellV
 cases hv:batchV a b s i c d t j n
 ·simp
 ·obtain ⟨h1,h2,_⟩:=batchV_lens hv
  rw [if_pos rfl]
  split
  ·simp
  ·simp only
   rw [sumL_length s t h1]
   exact h2
theorem toBatch_f (k:Nat) (a b:Int) (s i:List Int) (c d:Int) (t j:List Int) (n:Int) (hs:s.length≤1048576000) (hi:i.length≤1048576000) (ht:t.length≤1048576000) (hj:j.length≤1048576000) (k1:s.length<k) (k2:i.length<k) (k3:t.length<k) (k4:j.length<k) :
  laws_toBatch.f k a b s i c d t j n=some (a,b,s,i,c,d,t,j,n):=by
 unfold laws_toBatch.f
 rw [toCol_f _ a b s i (by omega) (by omega) (by omega) (by omega),Option.bind_some,toCol_f _ c d t j (by omega) (by omega) (by omega) (by omega),Option.bind_some]
theorem szBatch_f (a b:Int) (s i:List Int) (c d:Int) (t j:List Int) (n:Int) (hs:s.length≤maxLen) (hi:i.length≤maxLen) (ht:t.length≤maxLen) (hj:j.length≤maxLen) :
  ∃ z,laws_szBatch.f a b s i c d t j n 1048576=some z∧(z<0∨s.length+i.length+t.length+j.length≤1048576):=by
 unfold laws_szBatch.f
 rw [szCol_f a b s i _ (by omega) (by omega) hs hi,Option.bind_some]
 by_cases h:(1048576:Int) - (s.length:Int) - (i.length:Int)<0
 ·rw [if_pos h,if_pos (by omega)]
  exact ⟨_,rfl,.inl (by omega)⟩
 ·rw [if_neg h,if_neg h,szCol_f c d t j _ (by omega) (by omega) ht hj,Option.bind_some]
  by_cases h2:(1048576:Int) - (s.length:Int) - (i.length:Int) - (t.length:Int) - (j.length:Int)<0
  ·rw [if_pos h2,if_pos (by omega)]
   exact ⟨_,rfl,.inl (by omega)⟩
  ·rw [if_neg h2,if_neg h2]
   exact ⟨_,rfl,.inr (by omega)⟩
end Go.Proofs.Ytjkikkgpenhbgaa.Q
