import Derived.Test.YtjkikkgpenhbgaaLBa21
import Derived.Test.YtjkikkgpenhbgaaLBa25
import Derived.Test.YtjkikkgpenhbgaaLQGbBa
import Derived.Test.YtjkikkgpenhbgaaLQSh5Ba
set_option linter.unusedVariables false
set_option linter.unusedSimpArgs false
namespace Go.Proofs.Ytjkikkgpenhbgaa.Pure
open Go.RowKit Go.Proofs.Ytjkikkgpenhbgaa.Ba Go.Proofs.YtjkikkgpenhbgaaW.PrintWords Go.Proofs.YtjkikkgpenhbgaaW.PrintLast Go.Proofs.YtjkikkgpenhbgaaW.PrintMore Go.Proofs.Ytjkikkgpenhbgaa.Q
theorem FnExactBatchTotal:∀ (a0_0 a0_1:Int) (l0_2 l0_3:List Int) (a0_4 a0_5:Int) (l0_6 l0_7:List Int) (a0_8:Int),(Lit.int .i64 a0_0).wf=true→(Lit.int .i64 a0_1).wf=true→l0_2.length≤maxLen→(∀ x ∈ l0_2,(Lit.int .i64 x).wf=true)→l0_3.length≤maxLen→(∀ x ∈ l0_3,(Lit.int .i64 x).wf=true)→(Lit.int .i64 a0_4).wf=true→(Lit.int .i64 a0_5).wf=true→l0_6.length≤maxLen→(∀ x ∈ l0_6,(Lit.int .i64 x).wf=true)→l0_7.length≤maxLen→(∀ x ∈ l0_7,(Lit.int .i64 x).wf=true)→(Lit.int .i64 a0_8).wf=true→∃ k,laws_FnExactBatchTotal.f k a0_0 a0_1 l0_2 l0_3 a0_4 a0_5 l0_6 l0_7 a0_8=some true:=by
 intro a b s i c d t j n _ _ hs _ hi hwi _ _ ht _ hj hwj _
 obtain ⟨z,ez,hz⟩:=szBatch_f a b s i c d t j n hs hi ht hj
 obtain ⟨k,hk⟩:∃ k,k=2*i.length+2*j.length+s.length+t.length+20:=⟨_,rfl⟩
 refine ⟨k+2,?_⟩
 unfold laws_FnExactBatchTotal.f
 rw [ez,Option.bind_some]
 by_cases hz0:z<0
 ·rw [if_pos hz0]
 have hz1:s.length+i.length+t.length+j.length≤1048576:=by omega
 rw [if_neg hz0]
 have T:∀ m,k≤m→laws_toBatch.f m a b s i c d t j n=some (a,b,s,i,c,d,t,j,n):=fun m hm=>toBatch_f m a b s i c d t j n (by omega) (by omega) (by omega) (by omega) (by omega) (by omega) (by omega) (by omega)
 obtain ⟨v,e1,e2⟩:=batchTotal_both (k+2) a b s i c d t j n (by omega) (by omega) (by omega) (by omega) (by omega) (List.all_eq_true.2 hwi) (List.all_eq_true.2 hwj)
 rw [T (k+2) (by omega)]
 simp only [Option.bind_some]
 rw [e1]
 simp only [Option.bind_some]
 rw [e2]
 simp only [Option.bind_some,if_true,bne_self_eq_false]
 simp only [laws_FnExactBatchTotal.j0]
 rw [if_neg (by simp),T (k+1) (by omega)]
 simp only [Option.bind_some]
 rw [eqBatch_f (k+1) _ _ _ _ _ _ _ _ _ _ _ _ _ _ _ _ _ _ (by omega) (by omega) (by omega) (by omega) (by omega) (by omega) (by omega) (by omega),Option.bind_some,if_pos (by simp)]
end Go.Proofs.Ytjkikkgpenhbgaa.Pure
