import Derived.Test.YtjkikkgpenhbgaaLZ
import Derived.Test.YtjkikkgpenhbgaaLBa0
import Derived.Test.YtjkikkgpenhbgaaLBa4
import Derived.Test.YtjkikkgpenhbgaaLBa17
namespace Go.Proofs.Ytjkikkgpenhbgaa.Ba
open Go.RowKit Go.Proofs.YtjkikkgpenhbgaaW.PrintWords Go.Proofs.YtjkikkgpenhbgaaW.PrintLast Go.Proofs.YtjkikkgpenhbgaaW.PrintMore Go.Proofs.Ytjkikkgpenhbgaa.Z
attribute [local go_sem] max2_int min2_int max_two min_two max_three min_three max_four min_four
set_option linter.unusedVariables false
set_option linter.unusedSimpArgs false
def impl_Batch_sums.f (a0_0:Int) (a0_1:Int) (l0_2:List Int) (l0_3:List Int) (a0_4:Int) (a0_5:Int) (l0_6:List Int) (l0_7:List Int) (a0_8:Int):Option (List Int):=(impl_ShareSum.f l0_2 l0_6).bind fun bt343=>(some bt343.1)
set_option maxHeartbeats 8000000 in
set_option maxRecDepth 100000 in
theorem impl_Batch_sums.calls (a0_0:Int) (a0_1:Int) (A0_2:Option Addr) (c0_2:Nat) (l0_2:List Int) (A0_3:Option Addr) (c0_3:Nat) (l0_3:List Int) (a0_4:Int) (a0_5:Int) (A0_6:Option Addr) (c0_6:Nat) (l0_6:List Int) (A0_7:Option Addr) (c0_7:Nat) (l0_7:List Int) (a0_8:Int) (r:List Int) (w:World) (hr0_2:Kd.C (Kd.int .i64) w A0_2 l0_2.length l0_2) (hc0_2:l0_2.length≤c0_2) (hr0_3:Kd.C (Kd.int .i64) w A0_3 l0_3.length l0_3) (hc0_3:l0_3.length≤c0_3) (hr0_6:Kd.C (Kd.int .i64) w A0_6 l0_6.length l0_6) (hc0_6:l0_6.length≤c0_6) (hr0_7:Kd.C (Kd.int .i64) w A0_7 l0_7.length l0_7) (hc0_7:l0_7.length≤c0_7) (h:impl_Batch_sums.f a0_0 a0_1 l0_2 l0_3 a0_4 a0_5 l0_6 l0_7 a0_8=some r) :
  Calls Tru.prog 52 #[.agg #[.int .i64 a0_0,.int .i64 a0_1,.slice A0_2 l0_2.length c0_2,.slice A0_3 l0_3.length c0_3,.int .i64 a0_4,.int .i64 a0_5,.slice A0_6 l0_6.length c0_6,.slice A0_7 l0_7.length c0_7,.int .i64 a0_8]] w fun e w'=>∃ v0_:Value,e = .returned (v0_)∧Kd.R (Kd.int .i64) 3 w' w.heap.size (fun _=>True) v0_ r∧Below w.heap.size w w':=by
 have hu38:=((Tru.und _).trans ((Tru.und _).trans Try.underlying38))
 have HR0_2:=Aside0.mk hr0_2
 have HC0_2:=Aside0.mk hc0_2
 clear hr0_2 hc0_2
 have HR0_3:=Aside0.mk hr0_3
 have HC0_3:=Aside0.mk hc0_3
 clear hr0_3 hc0_3
 have HR0_6:=Aside0.mk hr0_6
 have HC0_6:=Aside0.mk hc0_6
 clear hr0_6 hc0_6
 have HR0_7:=Aside0.mk hr0_7
 have HC0_7:=Aside0.mk hc0_7
 clear hr0_7 hc0_7
 have HB:=Aside0.mk (Below.refl w.heap.size w)
 have H:((impl_ShareSum.f l0_2 l0_6).bind fun bt343=>(some bt343.1))=some r:=h
 clear h
 replace H:=bnd H
 obtain ⟨⟨t343,t344⟩,A2,H⟩:=H
 dsimp only at H
 obtain rfl:=Option.some.inj H
 go_enter Tru.func52,Try.ntmps52
 go_wp2_with (first | ((with_reducible refine zam (N:=1) rfl ?_);refine boxZ (N:=1) (cs:=#[.int .i64 a0_0,.int .i64 a0_1,.slice A0_2 l0_2.length c0_2,.slice A0_3 l0_3.length c0_3,.int .i64 a0_4,.int .i64 a0_5,.slice A0_6 l0_6.length c0_6,.slice A0_7 l0_7.length c0_7,.int .i64 a0_8]) (t:=38) ?_;intro gb342 hg w3 hbox hb;replace BK342:=Aside0.mk (hbox);replace GW342:=gwZ hg;replace GE342:=gwZ hg;replace HB:=bnZ hb;clear hb hbox hg;have hcz4_0:w3.cell? ⟨gb342,0,none⟩=some (.int .i64 a0_0):=(zab BK342.out 0).trans rfl;have hcz4_1:w3.cell? ⟨gb342,1,none⟩=some (.int .i64 a0_1):=(zab BK342.out 1).trans rfl;have hcz4_2:w3.cell? ⟨gb342,2,none⟩=some (.slice A0_2 l0_2.length c0_2):=(zab BK342.out 2).trans rfl;have hcz4_3:w3.cell? ⟨gb342,3,none⟩=some (.slice A0_3 l0_3.length c0_3):=(zab BK342.out 3).trans rfl;have hcz4_4:w3.cell? ⟨gb342,4,none⟩=some (.int .i64 a0_4):=(zab BK342.out 4).trans rfl;have hcz4_5:w3.cell? ⟨gb342,5,none⟩=some (.int .i64 a0_5):=(zab BK342.out 5).trans rfl;have hcz4_6:w3.cell? ⟨gb342,6,none⟩=some (.slice A0_6 l0_6.length c0_6):=(zab BK342.out 6).trans rfl;have hcz4_7:w3.cell? ⟨gb342,7,none⟩=some (.slice A0_7 l0_7.length c0_7):=(zab BK342.out 7).trans rfl;have hcz4_8:w3.cell? ⟨gb342,8,none⟩=some (.int .i64 a0_8):=(zab BK342.out 8).trans rfl;have hfz4_0:=zaa BK342.out 0;have hfz4_1:=zaa BK342.out 1;have hfz4_2:=zaa BK342.out 2;have hfz4_3:=zaa BK342.out 3;have hfz4_4:=zaa BK342.out 4;have hfz4_5:=zaa BK342.out 5;have hfz4_6:=zaa BK342.out 6;have hfz4_7:=zaa BK342.out 7;have hfz4_8:=zaa BK342.out 8) | ((with_reducible refine zah (f:=11) rfl ?_);refine goesZ (some 12) Tru.func11 #[.slice A0_2 l0_2.length c0_2,.slice A0_6 l0_6.length c0_6] ?_;(with_reducible refine (impl_ShareSum.calls _ _ l0_2 _ _ l0_6 t343 t344 _ ?side1 ?side2 ?side3 ?side4 A2.out).mono ?_);(case side1=>exact (Kd.C_below HR0_2.out HB.out));(case side2=>exact HC0_2.out);(case side3=>exact (Kd.C_below HR0_6.out HB.out));(case side4=>exact HC0_6.out);rintro e w5 ⟨v345,rfl,ho0,hb⟩;refine ⟨_,rfl,?_⟩;replace HO346:=Aside0.mk (Kd.R_lower ho0 bsZ);replace BK342:=bkZ hb BK342.out;replace HB:=bnZ hb;clear hb ho0))
 go_ret
 exact ⟨_,rfl,HO346.out,by repeat (with_reducible first | exact HB.out | apply zae | apply zac | apply zaf | refine zag ?_ GE342.out)⟩
def impl_BatchTell.f (k:Nat) (a0_0:Int) (a0_1:Int) (l0_2:List Int) (l0_3:List Int) (a0_4:Int) (a0_5:Int) (l0_6:List Int) (l0_7:List Int) (a0_8:Int):Option (List Int×Int×Bool):=(impl_BatchOk.f k a0_0 a0_1 l0_2 l0_3 a0_4 a0_5 l0_6 l0_7 a0_8).bind fun t348=>(if t348=true then (if (l0_3.length:Int)<a0_8 then (some (([]:List Int),0,false)) else ((impl_Batch_sums.f a0_0 a0_1 l0_2 l0_3 a0_4 a0_5 l0_6 l0_7 a0_8).bind fun t349=>(some (t349,(l0_3.length:Int),true)))) else (some (([]:List Int),0,false)))
def impl_BatchTell.T3:Bool×List (List Nat×List Nat):=(true,[([],[]),([0],[0]),([],[]),([2],[2]),([3],[3]),([4],[4]),([1,1,0,1],[1]),([5,6,0,1,2,3,4,5,6],[5]),([7,0,1,2,3,4,5,6,7],[])])
def impl_BatchTell.B3:List Nat:=[0,1,0,4,12,28,3,127,255]
set_option maxRecDepth 100000 in
theorem impl_BatchTell.tab3:rtab .any (opsOf Try.f20 3)=impl_BatchTell.T3:=by kernel_rfl
set_option maxRecDepth 100000 in
theorem impl_BatchTell.bits3:waitsOk impl_BatchTell.T3.2 impl_BatchTell.B3=true:=by kernel_rfl
set_option maxHeartbeats 8000000 in
set_option maxRecDepth 100000 in
theorem impl_BatchTell.calls (k:Nat) (a0_0:Int) (a0_1:Int) (A0_2:Option Addr) (c0_2:Nat) (l0_2:List Int) (A0_3:Option Addr) (c0_3:Nat) (l0_3:List Int) (a0_4:Int) (a0_5:Int) (A0_6:Option Addr) (c0_6:Nat) (l0_6:List Int) (A0_7:Option Addr) (c0_7:Nat) (l0_7:List Int) (a0_8:Int) (r1:List Int) (r2:Int) (r3:Bool) (w:World) (hr0_2:Kd.C (Kd.int .i64) w A0_2 l0_2.length l0_2) (hc0_2:l0_2.length≤c0_2) (hr0_3:Kd.C (Kd.int .i64) w A0_3 l0_3.length l0_3) (hc0_3:l0_3.length≤c0_3) (hr0_6:Kd.C (Kd.int .i64) w A0_6 l0_6.length l0_6) (hc0_6:l0_6.length≤c0_6) (hr0_7:Kd.C (Kd.int .i64) w A0_7 l0_7.length l0_7) (hc0_7:l0_7.length≤c0_7) (h:impl_BatchTell.f k a0_0 a0_1 l0_2 l0_3 a0_4 a0_5 l0_6 l0_7 a0_8=some (r1,r2,r3)) :
  Calls Tru.prog 20 #[.agg #[.int .i64 a0_0,.int .i64 a0_1,.slice A0_2 l0_2.length c0_2,.slice A0_3 l0_3.length c0_3,.int .i64 a0_4,.int .i64 a0_5,.slice A0_6 l0_6.length c0_6,.slice A0_7 l0_7.length c0_7,.int .i64 a0_8]] w fun e w'=>∃ v0_:Value,e = .returned (.tuple #[v0_,.int .i64 r2,.bool r3])∧Kd.R (Kd.int .i64) 3 w' w.heap.size (fun _=>True) v0_ r1∧Below w.heap.size w w':=by
 have hu38:=((Tru.und _).trans ((Tru.und _).trans Try.underlying38))
 have HR0_2:=Aside0.mk hr0_2
 have HC0_2:=Aside0.mk hc0_2
 clear hr0_2 hc0_2
 have HR0_3:=Aside0.mk hr0_3
 have HC0_3:=Aside0.mk hc0_3
 clear hr0_3 hc0_3
 have HR0_6:=Aside0.mk hr0_6
 have HC0_6:=Aside0.mk hc0_6
 clear hr0_6 hc0_6
 have HR0_7:=Aside0.mk hr0_7
 have HC0_7:=Aside0.mk hc0_7
 clear hr0_7 hc0_7
 have HB:=Aside0.mk (Below.refl w.heap.size w)
 have H:=h
 unfold impl_BatchTell.f at H
 clear h
 replace H:=bnd H
 obtain ⟨t348,A2,H⟩:=H
 by_cases c3:t348=true
 ·subst c3
  rw [if_pos rfl] at H
  by_cases c4:(l0_3.length:Int)<a0_8
  ·rw [if_pos c4] at H
   have c4b0:decide ((l0_3.length:Int)<a0_8)=true:=decide_eq_true c4
   clear c4
   simp only [Option.some.injEq,Prod.mk.injEq] at H
   obtain ⟨rfl,rfl,rfl⟩:=H
   go_enter Tru.func20,Try.ntmps20
   go_wp2_with (first | ((with_reducible refine zam (N:=1) rfl ?_);(try (refine gate_guard (by rfl) ?_;dsimp only));refine boxZ (N:=1) (cs:=#[.int .i64 a0_0,.int .i64 a0_1,.slice A0_2 l0_2.length c0_2,.slice A0_3 l0_3.length c0_3,.int .i64 a0_4,.int .i64 a0_5,.slice A0_6 l0_6.length c0_6,.slice A0_7 l0_7.length c0_7,.int .i64 a0_8]) (t:=38) ?_;intro gb347 hg w5 hbox hb;replace BK347:=Aside0.mk (hbox);replace GW347:=gwZ hg;replace GE347:=gwZ hg;replace HB:=bnZ hb;clear hb hbox hg;have hcz6_0:w5.cell? ⟨gb347,0,none⟩=some (.int .i64 a0_0):=(zab BK347.out 0).trans rfl;have hcz6_1:w5.cell? ⟨gb347,1,none⟩=some (.int .i64 a0_1):=(zab BK347.out 1).trans rfl;have hcz6_2:w5.cell? ⟨gb347,2,none⟩=some (.slice A0_2 l0_2.length c0_2):=(zab BK347.out 2).trans rfl;have hcz6_3:w5.cell? ⟨gb347,3,none⟩=some (.slice A0_3 l0_3.length c0_3):=(zab BK347.out 3).trans rfl;have hcz6_4:w5.cell? ⟨gb347,4,none⟩=some (.int .i64 a0_4):=(zab BK347.out 4).trans rfl;have hcz6_5:w5.cell? ⟨gb347,5,none⟩=some (.int .i64 a0_5):=(zab BK347.out 5).trans rfl;have hcz6_6:w5.cell? ⟨gb347,6,none⟩=some (.slice A0_6 l0_6.length c0_6):=(zab BK347.out 6).trans rfl;have hcz6_7:w5.cell? ⟨gb347,7,none⟩=some (.slice A0_7 l0_7.length c0_7):=(zab BK347.out 7).trans rfl;have hcz6_8:w5.cell? ⟨gb347,8,none⟩=some (.int .i64 a0_8):=(zab BK347.out 8).trans rfl;have hfz6_0:=zaa BK347.out 0;have hfz6_1:=zaa BK347.out 1;have hfz6_2:=zaa BK347.out 2;have hfz6_3:=zaa BK347.out 3;have hfz6_4:=zaa BK347.out 4;have hfz6_5:=zaa BK347.out 5;have hfz6_6:=zaa BK347.out 6;have hfz6_7:=zaa BK347.out 7;have hfz6_8:=zaa BK347.out 8) | ((with_reducible refine zah (f:=21) rfl ?_);refine goesZ (some 6) Tru.func21 #[.agg #[.int .i64 a0_0,.int .i64 a0_1,.slice A0_2 l0_2.length c0_2,.slice A0_3 l0_3.length c0_3,.int .i64 a0_4,.int .i64 a0_5,.slice A0_6 l0_6.length c0_6,.slice A0_7 l0_7.length c0_7,.int .i64 a0_8]] ?_;(with_reducible refine (impl_BatchOk.calls k a0_0 a0_1 _ _ l0_2 _ _ l0_3 a0_4 a0_5 _ _ l0_6 _ _ l0_7 a0_8 true _ ?side1 ?side2 ?side3 ?side4 ?side5 ?side6 ?side7 ?side8 A2.out).mono ?_);(case side1=>exact (Kd.C_below HR0_2.out HB.out));(case side2=>exact HC0_2.out);(case side3=>exact (Kd.C_below HR0_3.out HB.out));(case side4=>exact HC0_3.out);(case side5=>exact (Kd.C_below HR0_6.out HB.out));(case side6=>exact HC0_6.out);(case side7=>exact (Kd.C_below HR0_7.out HB.out));(case side8=>exact HC0_7.out);rintro e w7 ⟨rfl,hb⟩;refine ⟨_,rfl,?_⟩;replace BK347:=bkZ hb BK347.out;replace HB:=bnZ hb;(try clear hb);(try clear hb2);(try clear hk);(try clear hi);have hcz8_0:w7.cell? ⟨gb347,0,none⟩=some (.int .i64 a0_0):=(zab BK347.out 0).trans rfl;have hcz8_1:w7.cell? ⟨gb347,1,none⟩=some (.int .i64 a0_1):=(zab BK347.out 1).trans rfl;have hcz8_2:w7.cell? ⟨gb347,2,none⟩=some (.slice A0_2 l0_2.length c0_2):=(zab BK347.out 2).trans rfl;have hcz8_3:w7.cell? ⟨gb347,3,none⟩=some (.slice A0_3 l0_3.length c0_3):=(zab BK347.out 3).trans rfl;have hcz8_4:w7.cell? ⟨gb347,4,none⟩=some (.int .i64 a0_4):=(zab BK347.out 4).trans rfl;have hcz8_5:w7.cell? ⟨gb347,5,none⟩=some (.int .i64 a0_5):=(zab BK347.out 5).trans rfl;have hcz8_6:w7.cell? ⟨gb347,6,none⟩=some (.slice A0_6 l0_6.length c0_6):=(zab BK347.out 6).trans rfl;have hcz8_7:w7.cell? ⟨gb347,7,none⟩=some (.slice A0_7 l0_7.length c0_7):=(zab BK347.out 7).trans rfl;have hcz8_8:w7.cell? ⟨gb347,8,none⟩=some (.int .i64 a0_8):=(zab BK347.out 8).trans rfl;have hfz8_0:=zaa BK347.out 0;have hfz8_1:=zaa BK347.out 1;have hfz8_2:=zaa BK347.out 2;have hfz8_3:=zaa BK347.out 3;have hfz8_4:=zaa BK347.out 4;have hfz8_5:=zaa BK347.out 5;have hfz8_6:=zaa BK347.out 6;have hfz8_7:=zaa BK347.out 7;have hfz8_8:=zaa BK347.out 8))
   go_ret3
   exact ⟨_,rfl,by first | exact Kd.R_nil _ _ _ _ _ | exact Kd.N_nil _ _ _ _ _ | exact Kd.V_nil _ _ _ _ _ | exact Kd.Q_nil _ _ _ _ _ | exact Kd.S_nil _ _ _ _ _,by repeat (with_reducible first | exact HB.out | apply zae | apply zac | apply zaf | refine zag ?_ GE347.out)⟩
  ·rw [if_neg c4] at H
   have c4b0:decide ((l0_3.length:Int)<a0_8)=false:=decide_eq_false c4
   clear c4
   replace H:=bnd H
   obtain ⟨t349,A9,H⟩:=H
   simp only [Option.some.injEq,Prod.mk.injEq] at H
   obtain ⟨rfl,rfl,rfl⟩:=H
   go_enter Tru.func20,Try.ntmps20
   try go_wp2_with (first | ((with_reducible refine zam (N:=1) rfl ?_);(try (refine gate_guard (by rfl) ?_;dsimp only));refine boxZ (N:=1) (cs:=#[.int .i64 a0_0,.int .i64 a0_1,.slice A0_2 l0_2.length c0_2,.slice A0_3 l0_3.length c0_3,.int .i64 a0_4,.int .i64 a0_5,.slice A0_6 l0_6.length c0_6,.slice A0_7 l0_7.length c0_7,.int .i64 a0_8]) (t:=38) ?_;intro gb347 hg w10 hbox hb;replace BK347:=Aside0.mk (hbox);replace GW347:=gwZ hg;replace GE347:=gwZ hg;replace HB:=bnZ hb;clear hb hbox hg;have hcz11_0:w10.cell? ⟨gb347,0,none⟩=some (.int .i64 a0_0):=(zab BK347.out 0).trans rfl;have hcz11_1:w10.cell? ⟨gb347,1,none⟩=some (.int .i64 a0_1):=(zab BK347.out 1).trans rfl;have hcz11_2:w10.cell? ⟨gb347,2,none⟩=some (.slice A0_2 l0_2.length c0_2):=(zab BK347.out 2).trans rfl;have hcz11_3:w10.cell? ⟨gb347,3,none⟩=some (.slice A0_3 l0_3.length c0_3):=(zab BK347.out 3).trans rfl;have hcz11_4:w10.cell? ⟨gb347,4,none⟩=some (.int .i64 a0_4):=(zab BK347.out 4).trans rfl;have hcz11_5:w10.cell? ⟨gb347,5,none⟩=some (.int .i64 a0_5):=(zab BK347.out 5).trans rfl;have hcz11_6:w10.cell? ⟨gb347,6,none⟩=some (.slice A0_6 l0_6.length c0_6):=(zab BK347.out 6).trans rfl;have hcz11_7:w10.cell? ⟨gb347,7,none⟩=some (.slice A0_7 l0_7.length c0_7):=(zab BK347.out 7).trans rfl;have hcz11_8:w10.cell? ⟨gb347,8,none⟩=some (.int .i64 a0_8):=(zab BK347.out 8).trans rfl;have hfz11_0:=zaa BK347.out 0;have hfz11_1:=zaa BK347.out 1;have hfz11_2:=zaa BK347.out 2;have hfz11_3:=zaa BK347.out 3;have hfz11_4:=zaa BK347.out 4;have hfz11_5:=zaa BK347.out 5;have hfz11_6:=zaa BK347.out 6;have hfz11_7:=zaa BK347.out 7;have hfz11_8:=zaa BK347.out 8) | ((with_reducible refine zah (f:=21) rfl ?_);refine goesZ (some 6) Tru.func21 #[.agg #[.int .i64 a0_0,.int .i64 a0_1,.slice A0_2 l0_2.length c0_2,.slice A0_3 l0_3.length c0_3,.int .i64 a0_4,.int .i64 a0_5,.slice A0_6 l0_6.length c0_6,.slice A0_7 l0_7.length c0_7,.int .i64 a0_8]] ?_;(with_reducible refine (impl_BatchOk.calls k a0_0 a0_1 _ _ l0_2 _ _ l0_3 a0_4 a0_5 _ _ l0_6 _ _ l0_7 a0_8 true _ ?side1 ?side2 ?side3 ?side4 ?side5 ?side6 ?side7 ?side8 A2.out).mono ?_);(case side1=>exact (Kd.C_below HR0_2.out HB.out));(case side2=>exact HC0_2.out);(case side3=>exact (Kd.C_below HR0_3.out HB.out));(case side4=>exact HC0_3.out);(case side5=>exact (Kd.C_below HR0_6.out HB.out));(case side6=>exact HC0_6.out);(case side7=>exact (Kd.C_below HR0_7.out HB.out));(case side8=>exact HC0_7.out);rintro e w12 ⟨rfl,hb⟩;refine ⟨_,rfl,?_⟩;replace BK347:=bkZ hb BK347.out;replace HB:=bnZ hb;(try clear hb);(try clear hb2);(try clear hk);(try clear hi);have hcz13_0:w12.cell? ⟨gb347,0,none⟩=some (.int .i64 a0_0):=(zab BK347.out 0).trans rfl;have hcz13_1:w12.cell? ⟨gb347,1,none⟩=some (.int .i64 a0_1):=(zab BK347.out 1).trans rfl;have hcz13_2:w12.cell? ⟨gb347,2,none⟩=some (.slice A0_2 l0_2.length c0_2):=(zab BK347.out 2).trans rfl;have hcz13_3:w12.cell? ⟨gb347,3,none⟩=some (.slice A0_3 l0_3.length c0_3):=(zab BK347.out 3).trans rfl;have hcz13_4:w12.cell? ⟨gb347,4,none⟩=some (.int .i64 a0_4):=(zab BK347.out 4).trans rfl;have hcz13_5:w12.cell? ⟨gb347,5,none⟩=some (.int .i64 a0_5):=(zab BK347.out 5).trans rfl;have hcz13_6:w12.cell? ⟨gb347,6,none⟩=some (.slice A0_6 l0_6.length c0_6):=(zab BK347.out 6).trans rfl;have hcz13_7:w12.cell? ⟨gb347,7,none⟩=some (.slice A0_7 l0_7.length c0_7):=(zab BK347.out 7).trans rfl;have hcz13_8:w12.cell? ⟨gb347,8,none⟩=some (.int .i64 a0_8):=(zab BK347.out 8).trans rfl;have hfz13_0:=zaa BK347.out 0;have hfz13_1:=zaa BK347.out 1;have hfz13_2:=zaa BK347.out 2;have hfz13_3:=zaa BK347.out 3;have hfz13_4:=zaa BK347.out 4;have hfz13_5:=zaa BK347.out 5;have hfz13_6:=zaa BK347.out 6;have hfz13_7:=zaa BK347.out 7;have hfz13_8:=zaa BK347.out 8))
   replace BK347:=Aside0.mk (zak BK347.out)
   replace HB:=Aside0.mk (zaf HB.out)
   refine start_ (n:=9) (S:=fun w'=>w'.cell? ⟨gb347,0,none⟩=some (.int .i64 a0_0)∧w'.cell? ⟨gb347,1,none⟩=some (.int .i64 a0_1)∧w'.cell? ⟨gb347,2,none⟩=some (.slice A0_2 l0_2.length c0_2)∧w'.cell? ⟨gb347,3,none⟩=some (.slice A0_3 l0_3.length c0_3)∧w'.cell? ⟨gb347,4,none⟩=some (.int .i64 a0_4)∧w'.cell? ⟨gb347,5,none⟩=some (.int .i64 a0_5)∧w'.cell? ⟨gb347,6,none⟩=some (.slice A0_6 l0_6.length c0_6)∧w'.cell? ⟨gb347,7,none⟩=some (.slice A0_7 l0_7.length c0_7)∧w'.cell? ⟨gb347,8,none⟩=some (.int .i64 a0_8)) (ds:=[]) (bs 9 0) (by kernel_rfl) rfl rfl ⟨(zab BK347.out 0).trans rfl,(zab BK347.out 1).trans rfl,(zab BK347.out 2).trans rfl,(zab BK347.out 3).trans rfl,(zab BK347.out 4).trans rfl,(zab BK347.out 5).trans rfl,(zab BK347.out 6).trans rfl,(zab BK347.out 7).trans rfl,(zab BK347.out 8).trans rfl⟩ (fun hHeld=>?_);refine with_tabW impl_BatchTell.tab3 impl_BatchTell.bits3 (fun HT_ HW_=>?_)
   generalize w12.drew=w14 at BK347 HB hHeld ⊢
   refine pZ 2 (some 19) (bs 9 4) rfl rfl (zav HT_.out (by kernel_rfl)) ?_
   refine pZ 3 (some 20) (bs 9 12) rfl rfl (zav HT_.out (by kernel_rfl)) ?_
   refine tZ 0 (some 17) (bs 9 13) rfl rfl (take_ofW HT_.out HW_.out (by kernel_rfl)) hHeld (by rintro w' ⟨s0,s1,s2,s3,s4,s5,s6,s7,s8⟩;go_simp;with_reducible rfl) ?_
   refine tZ 4 (some 21) (bs 9 29) rfl rfl (take_ofW HT_.out HW_.out (by kernel_rfl)) hHeld (by rintro w' ⟨s0,s1,s2,s3,s4,s5,s6,s7,s8⟩;go_simp;with_reducible rfl) ?_
   refine pZ 5 (some 22) (bs 9 61) rfl rfl (zav HT_.out (by kernel_rfl)) ?_
   refine one_ (i:=1) (N:=some 18) (bs 9 63) rfl rfl (one_of HT_.out (by kernel_rfl)) (by decide) (fun K hK=>?_)
   refine goes_ Tru.func52 (by kernel_rfl) rfl #[.agg #[.int .i64 a0_0,.int .i64 a0_1,.slice A0_2 l0_2.length c0_2,.slice A0_3 l0_3.length c0_3,.int .i64 a0_4,.int .i64 a0_5,.slice A0_6 l0_6.length c0_6,.slice A0_7 l0_7.length c0_7,.int .i64 a0_8]] (by rfl) rfl rfl (by (try simp only [List.map_toArray,List.map_cons,List.map_nil]);first | done | rfl | (simp only [List.length_drop,List.length_take];rfl)) ?_
   with_reducible refine (impl_Batch_sums.calls a0_0 a0_1 _ _ l0_2 _ _ l0_3 a0_4 a0_5 _ _ l0_6 _ _ l0_7 a0_8 t349 _ ?side1 ?side2 ?side3 ?side4 ?side5 ?side6 ?side7 ?side8 A9.out).mono ?_
   (case side1=>exact (Kd.C_below HR0_2.out HB.out))
   (case side2=>exact HC0_2.out)
   (case side3=>exact (Kd.C_below HR0_3.out HB.out))
   (case side4=>exact HC0_3.out)
   (case side5=>exact (Kd.C_below HR0_6.out HB.out))
   (case side6=>exact HC0_6.out)
   (case side7=>exact (Kd.C_below HR0_7.out HB.out))
   (case side8=>exact HC0_7.out)
   rintro e w15 ⟨v350,rfl,ho0,hb⟩
   refine ⟨_,rfl,?_⟩
   replace HO351:=Aside0.mk (Kd.R_lower ho0 bsZ)
   replace BK347:=bkZ hb BK347.out
   replace HB:=bnZ hb
   (try clear hb)
   (try clear hb2)
   (try clear hk)
   (try clear hi)
   (try clear ho0)
   refine hK.out _ _ ⟨(zab BK347.out 0).trans rfl,(zab BK347.out 1).trans rfl,(zab BK347.out 2).trans rfl,(zab BK347.out 3).trans rfl,(zab BK347.out 4).trans rfl,(zab BK347.out 5).trans rfl,(zab BK347.out 6).trans rfl,(zab BK347.out 7).trans rfl,(zab BK347.out 8).trans rfl⟩ (fun hHeld=>?_)
   clear hK K
   refine norm_ (a':=?_) ?_ ?_
   rotate_left
   ·show Act.put _ (some 18) _=_
    simp only [Act.put,List.setIfInBounds_toArray,List.set_cons_zero,List.set_cons_succ,i64_w,i32_w]
    rfl
   refine pZ 6 (some 2) (bs 9 127) rfl rfl (zav HT_.out (by kernel_rfl)) ?_
   refine pZ 7 (some 3) (bs 9 255) rfl rfl (zav HT_.out (by kernel_rfl)) ?_
   refine pZ 8 (some 4) (bs 9 511) rfl rfl (zav HT_.out (by kernel_rfl)) ?_
   refine done_ (done_of HT_.out (by kernel_rfl)) ?_
   try go_wp2
   go_ret3
   exact ⟨_,rfl,HO351.out,by repeat (with_reducible first | exact HB.out | apply zae | apply zac | apply zaf | refine zag ?_ GE347.out)⟩
 ·replace c3:=Bool.eq_false_iff.mpr c3
  subst c3
  rw [if_neg (show ¬ (false=true) by decide)] at H
  simp only [Option.some.injEq,Prod.mk.injEq] at H
  obtain ⟨rfl,rfl,rfl⟩:=H
  go_enter Tru.func20,Try.ntmps20
  go_wp2_with (first | ((with_reducible refine zam (N:=1) rfl ?_);(try (refine gate_guard (by rfl) ?_;dsimp only));refine boxZ (N:=1) (cs:=#[.int .i64 a0_0,.int .i64 a0_1,.slice A0_2 l0_2.length c0_2,.slice A0_3 l0_3.length c0_3,.int .i64 a0_4,.int .i64 a0_5,.slice A0_6 l0_6.length c0_6,.slice A0_7 l0_7.length c0_7,.int .i64 a0_8]) (t:=38) ?_;intro gb347 hg w16 hbox hb;replace BK347:=Aside0.mk (hbox);replace GW347:=gwZ hg;replace GE347:=gwZ hg;replace HB:=bnZ hb;clear hb hbox hg;have hcz17_0:w16.cell? ⟨gb347,0,none⟩=some (.int .i64 a0_0):=(zab BK347.out 0).trans rfl;have hcz17_1:w16.cell? ⟨gb347,1,none⟩=some (.int .i64 a0_1):=(zab BK347.out 1).trans rfl;have hcz17_2:w16.cell? ⟨gb347,2,none⟩=some (.slice A0_2 l0_2.length c0_2):=(zab BK347.out 2).trans rfl;have hcz17_3:w16.cell? ⟨gb347,3,none⟩=some (.slice A0_3 l0_3.length c0_3):=(zab BK347.out 3).trans rfl;have hcz17_4:w16.cell? ⟨gb347,4,none⟩=some (.int .i64 a0_4):=(zab BK347.out 4).trans rfl;have hcz17_5:w16.cell? ⟨gb347,5,none⟩=some (.int .i64 a0_5):=(zab BK347.out 5).trans rfl;have hcz17_6:w16.cell? ⟨gb347,6,none⟩=some (.slice A0_6 l0_6.length c0_6):=(zab BK347.out 6).trans rfl;have hcz17_7:w16.cell? ⟨gb347,7,none⟩=some (.slice A0_7 l0_7.length c0_7):=(zab BK347.out 7).trans rfl;have hcz17_8:w16.cell? ⟨gb347,8,none⟩=some (.int .i64 a0_8):=(zab BK347.out 8).trans rfl;have hfz17_0:=zaa BK347.out 0;have hfz17_1:=zaa BK347.out 1;have hfz17_2:=zaa BK347.out 2;have hfz17_3:=zaa BK347.out 3;have hfz17_4:=zaa BK347.out 4;have hfz17_5:=zaa BK347.out 5;have hfz17_6:=zaa BK347.out 6;have hfz17_7:=zaa BK347.out 7;have hfz17_8:=zaa BK347.out 8) | ((with_reducible refine zah (f:=21) rfl ?_);refine goesZ (some 6) Tru.func21 #[.agg #[.int .i64 a0_0,.int .i64 a0_1,.slice A0_2 l0_2.length c0_2,.slice A0_3 l0_3.length c0_3,.int .i64 a0_4,.int .i64 a0_5,.slice A0_6 l0_6.length c0_6,.slice A0_7 l0_7.length c0_7,.int .i64 a0_8]] ?_;(with_reducible refine (impl_BatchOk.calls k a0_0 a0_1 _ _ l0_2 _ _ l0_3 a0_4 a0_5 _ _ l0_6 _ _ l0_7 a0_8 false _ ?side1 ?side2 ?side3 ?side4 ?side5 ?side6 ?side7 ?side8 A2.out).mono ?_);(case side1=>exact (Kd.C_below HR0_2.out HB.out));(case side2=>exact HC0_2.out);(case side3=>exact (Kd.C_below HR0_3.out HB.out));(case side4=>exact HC0_3.out);(case side5=>exact (Kd.C_below HR0_6.out HB.out));(case side6=>exact HC0_6.out);(case side7=>exact (Kd.C_below HR0_7.out HB.out));(case side8=>exact HC0_7.out);rintro e w18 ⟨rfl,hb⟩;refine ⟨_,rfl,?_⟩;replace BK347:=bkZ hb BK347.out;replace HB:=bnZ hb;clear hb))
  go_ret3
  exact ⟨_,rfl,by first | exact Kd.R_nil _ _ _ _ _ | exact Kd.N_nil _ _ _ _ _ | exact Kd.V_nil _ _ _ _ _ | exact Kd.Q_nil _ _ _ _ _ | exact Kd.S_nil _ _ _ _ _,by repeat (with_reducible first | exact HB.out | apply zae | apply zac | apply zaf | refine zag ?_ GE347.out)⟩
end Go.Proofs.Ytjkikkgpenhbgaa.Ba
