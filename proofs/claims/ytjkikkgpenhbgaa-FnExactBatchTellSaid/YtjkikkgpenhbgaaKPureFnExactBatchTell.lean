import Derived.Test.YtjkikkgpenhbgaaKBa18
import Derived.Test.YtjkikkgpenhbgaaKBa21
import Derived.Test.YtjkikkgpenhbgaaKBa23
import Derived.Test.YtjkikkgpenhbgaaKQGbBa
set_option linter.unusedVariables false
set_option linter.unusedSimpArgs false
namespace Go.Proofs.Ytjkikkgpenhbgaa.Pure
open Go.RowKit Go.Proofs.Ytjkikkgpenhbgaa.Ba Go.Proofs.YtjkikkgpenhbgaaW.PrintWords Go.Proofs.YtjkikkgpenhbgaaW.PrintLast Go.Proofs.YtjkikkgpenhbgaaW.PrintMore Go.Proofs.Ytjkikkgpenhbgaa.Q
theorem FnExactBatchTell:∀ (a0_0 a0_1:Int) (l0_2 l0_3:List Int) (a0_4 a0_5:Int) (l0_6 l0_7:List Int) (a0_8:Int),(Lit.int .i64 a0_0).wf=true→(Lit.int .i64 a0_1).wf=true→l0_2.length≤maxLen→(∀ x ∈ l0_2,(Lit.int .i64 x).wf=true)→l0_3.length≤maxLen→(∀ x ∈ l0_3,(Lit.int .i64 x).wf=true)→(Lit.int .i64 a0_4).wf=true→(Lit.int .i64 a0_5).wf=true→l0_6.length≤maxLen→(∀ x ∈ l0_6,(Lit.int .i64 x).wf=true)→l0_7.length≤maxLen→(∀ x ∈ l0_7,(Lit.int .i64 x).wf=true)→(Lit.int .i64 a0_8).wf=true→∃ k,laws_FnExactBatchTell.f k a0_0 a0_1 l0_2 l0_3 a0_4 a0_5 l0_6 l0_7 a0_8=some true:=by
 intro a b s i c d t j n _ _ hs _ hi hwi _ _ ht _ hj hwj _
 obtain ⟨z,ez,hz⟩:=szBatch_f a b s i c d t j n hs hi ht hj
 obtain ⟨k,hk⟩:∃ k,k=2*i.length+2*j.length+s.length+t.length+20:=⟨_,rfl⟩
 refine ⟨k+3,?_⟩
 unfold laws_FnExactBatchTell.f
 rw [ez,Option.bind_some]
 by_cases hz0:z<0
 ·rw [if_pos hz0]
 have hz1:s.length+i.length+t.length+j.length≤1048576:=by omega
 rw [if_neg hz0]
 have T:∀ m,k≤m→laws_toBatch.f m a b s i c d t j n=some (a,b,s,i,c,d,t,j,n):=fun m hm=>toBatch_f m a b s i c d t j n (by omega) (by omega) (by omega) (by omega) (by omega) (by omega) (by omega) (by omega)
 have B:∀ m,k≤m→spec_BatchTell.f m a b s i c d t j n=some (tellV a b s i c d t j n)∧impl_BatchTell.f m a b s i c d t j n=some (tellV a b s i c d t j n):=fun m hm=>tellV_both m a b s i c d t j n (by omega) (by omega) (by omega) (by omega) (by omega) (List.all_eq_true.2 hwi) (List.all_eq_true.2 hwj)
 have hsh:=tellV_short a b s i c d t j n
 generalize tellV a b s i c d t j n=v at B hsh
 obtain ⟨l,x,ok⟩:=v
 simp only at hsh
 rw [T (k+3) (by omega)]
 simp only [Option.bind_some]
 rw [(B (k+3) (by omega)).1]
 simp only [Option.bind_some]
 rw [(B (k+3) (by omega)).2]
 simp only [Option.bind_some]
 rw [eqIntS_f (k+3) l l (by omega) (by omega),Option.bind_some,if_pos (by simp)]
 simp only [if_true,bne_self_eq_false]
 simp only [laws_FnExactBatchTell.j0]
 rw [if_neg (by simp),T (k+2) (by omega)]
 simp only [Option.bind_some]
 rw [eqBatch_f (k+2) _ _ _ _ _ _ _ _ _ _ _ _ _ _ _ _ _ _ (by omega) (by omega) (by omega) (by omega) (by omega) (by omega) (by omega) (by omega),Option.bind_some,if_pos (by simp),markBatch_f (k+2) _ _ _ _ _ _ _ _ _ 1 (by omega) (by omega) (by omega) (by omega) (by omega) (by omega) (by omega) (by omega) (by omega) (by omega),Option.bind_some]
 simp only
 rw [if_neg (by omega),eqIntS_f (k+2) l l (by omega) (by omega),Option.bind_some,if_pos (by simp)]
 simp only [if_true,bne_self_eq_false]
 simp only [laws_FnExactBatchTell.j1]
 rw [if_neg (by simp),markIntS_f (k+1) l 1 (by omega) (by omega) (by omega) (by omega),Option.bind_some]
 simp only
 rw [heldIntS_f (k+1) l.length 1 (by omega) (by omega) (by omega) (by omega),Option.bind_some,if_neg (by omega),if_pos rfl,T (k+1) (by omega)]
 simp only [Option.bind_some]
 rw [(B (k+1) (by omega)).2]
 simp only [Option.bind_some]
 rw [eqIntS_f (k+1) l l (by omega) (by omega),Option.bind_some,if_pos (by simp)]
 simp only [if_true,bne_self_eq_false]
 simp only [laws_FnExactBatchTell.j2]
 rw [if_neg (by simp),heldIntS_f k l.length 1 (by omega) (by omega) (by omega) (by omega),Option.bind_some,if_neg (by omega),if_pos rfl]
end Go.Proofs.Ytjkikkgpenhbgaa.Pure
