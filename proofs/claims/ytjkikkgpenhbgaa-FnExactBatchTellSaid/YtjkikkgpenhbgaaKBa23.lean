import Derived.Test.YtjkikkgpenhbgaaKZ
import Derived.Test.YtjkikkgpenhbgaaKBa0
import Derived.Test.YtjkikkgpenhbgaaKBa18
import Derived.Test.YtjkikkgpenhbgaaKBa20
import Derived.Test.YtjkikkgpenhbgaaKBa21
import Derived.Test.YtjkikkgpenhbgaaKBa22
namespace Go.Proofs.Ytjkikkgpenhbgaa.Ba
open Go.RowKit Go.Proofs.YtjkikkgpenhbgaaW.PrintWords Go.Proofs.YtjkikkgpenhbgaaW.PrintLast Go.Proofs.YtjkikkgpenhbgaaW.PrintMore Go.Proofs.Ytjkikkgpenhbgaa.Z
attribute [local go_sem] max2_int min2_int max_two min_two max_three min_three max_four min_four
set_option linter.unusedVariables false
set_option linter.unusedSimpArgs false
mutual
def laws_FnExactBatchTell.j0:Nat→List Int→Int→Bool→List Int→Int→Bool→Bool→Int→Int→List Int→List Int→Int→Int→List Int→List Int→Int→Int→Int→List Int→List Int→Int→Int→List Int→List Int→Int→Option (Bool)
 | 0,_,_,_,_,_,_,_,_,_,_,_,_,_,_,_,_,_,_,_,_,_,_,_,_,_=>none
 | k+1,x4,x5,x6,x8,x9,x10,x50,x499000,x499001,x499002,x499003,x499004,x499005,x499006,x499007,x499008,x540000,x540001,x540002,x540003,x540004,x540005,x540006,x540007,x540008=>if x50=true then (some false) else ((laws_toBatch.f k x499000 x499001 x499002 x499003 x499004 x499005 x499006 x499007 x499008).bind fun bt546=>((laws_eqBatch.f k x540000 x540001 x540002 x540003 x540004 x540005 x540006 x540007 x540008 bt546.1 bt546.2.1 bt546.2.2.1 bt546.2.2.2.1 bt546.2.2.2.2.1 bt546.2.2.2.2.2.1 bt546.2.2.2.2.2.2.1 bt546.2.2.2.2.2.2.2.1 bt546.2.2.2.2.2.2.2.2).bind fun t563=>(if t563=true then ((laws_markBatch.f k x540000 x540001 x540002 x540003 x540004 x540005 x540006 x540007 x540008 1).bind fun bt564=>(if bt564.1<0 then (laws_FnExactBatchTell.j1 k x4 x5 x6 x8 true x499000 x499001 x499002 x499003 x499004 x499005 x499006 x499007 x499008) else ((laws_eqIntS.f k x8 x4).bind fun t569=>(if t569=true then (if x9=x5 then (laws_FnExactBatchTell.j1 k x4 x5 x6 x8 (x10 != x6) x499000 x499001 x499002 x499003 x499004 x499005 x499006 x499007 x499008) else (laws_FnExactBatchTell.j1 k x4 x5 x6 x8 true x499000 x499001 x499002 x499003 x499004 x499005 x499006 x499007 x499008)) else (laws_FnExactBatchTell.j1 k x4 x5 x6 x8 true x499000 x499001 x499002 x499003 x499004 x499005 x499006 x499007 x499008))))) else (some false))))
def laws_FnExactBatchTell.j1:Nat→List Int→Int→Bool→List Int→Bool→Int→Int→List Int→List Int→Int→Int→List Int→List Int→Int→Option (Bool)
 | 0,_,_,_,_,_,_,_,_,_,_,_,_,_,_=>none
 | k+1,x4,x5,x6,x8,x76,x499000,x499001,x499002,x499003,x499004,x499005,x499006,x499007,x499008=>if x76=true then (some false) else ((laws_markIntS.f k x8 1).bind fun bt570=>((laws_heldIntS.f k bt570.2 1).bind fun t572=>(if t572<0 then (some false) else (if t572=bt570.1 then ((laws_toBatch.f k x499000 x499001 x499002 x499003 x499004 x499005 x499006 x499007 x499008).bind fun bt573=>((impl_BatchTell.f k bt573.1 bt573.2.1 bt573.2.2.1 bt573.2.2.2.1 bt573.2.2.2.2.1 bt573.2.2.2.2.2.1 bt573.2.2.2.2.2.2.1 bt573.2.2.2.2.2.2.2.1 bt573.2.2.2.2.2.2.2.2).bind fun bt590=>((laws_eqIntS.f k bt590.1 x4).bind fun t595=>(if t595=true then (if bt590.2.1=x5 then (laws_FnExactBatchTell.j2 k bt570.2 bt570.1 (bt590.2.2 != x6)) else (laws_FnExactBatchTell.j2 k bt570.2 bt570.1 true)) else (laws_FnExactBatchTell.j2 k bt570.2 bt570.1 true))))) else (some false)))))
def laws_FnExactBatchTell.j2:Nat→List Int→Int→Bool→Option (Bool)
 | 0,_,_,_=>none
 | k+1,x8,x12,x108=>if x108=true then (some false) else ((laws_heldIntS.f k x8 1).bind fun t596=>(if t596<0 then (some false) else (if t596=x12 then (some true) else (some false))))
end
def laws_FnExactBatchTell.f (k:Nat) (a0_0:Int) (a0_1:Int) (l0_2:List Int) (l0_3:List Int) (a0_4:Int) (a0_5:Int) (l0_6:List Int) (l0_7:List Int) (a0_8:Int):Option (Bool):=(laws_szBatch.f a0_0 a0_1 l0_2 l0_3 a0_4 a0_5 l0_6 l0_7 a0_8 1048576).bind fun t499=>(if t499<0 then (some true) else ((laws_toBatch.f k a0_0 a0_1 l0_2 l0_3 a0_4 a0_5 l0_6 l0_7 a0_8).bind fun bt500=>((spec_BatchTell.f k bt500.1 bt500.2.1 bt500.2.2.1 bt500.2.2.2.1 bt500.2.2.2.2.1 bt500.2.2.2.2.2.1 bt500.2.2.2.2.2.2.1 bt500.2.2.2.2.2.2.2.1 bt500.2.2.2.2.2.2.2.2).bind fun bt517=>((laws_toBatch.f k a0_0 a0_1 l0_2 l0_3 a0_4 a0_5 l0_6 l0_7 a0_8).bind fun bt522=>((impl_BatchTell.f k bt522.1 bt522.2.1 bt522.2.2.1 bt522.2.2.2.1 bt522.2.2.2.2.1 bt522.2.2.2.2.2.1 bt522.2.2.2.2.2.2.1 bt522.2.2.2.2.2.2.2.1 bt522.2.2.2.2.2.2.2.2).bind fun bt540=>((laws_eqIntS.f k bt540.1 bt517.1).bind fun t545=>(if t545=true then (if bt540.2.1=bt517.2.1 then (laws_FnExactBatchTell.j0 k bt517.1 bt517.2.1 bt517.2.2 bt540.1 bt540.2.1 bt540.2.2 (bt540.2.2 != bt517.2.2) a0_0 a0_1 l0_2 l0_3 a0_4 a0_5 l0_6 l0_7 a0_8 bt522.1 bt522.2.1 bt522.2.2.1 bt522.2.2.2.1 bt522.2.2.2.2.1 bt522.2.2.2.2.2.1 bt522.2.2.2.2.2.2.1 bt522.2.2.2.2.2.2.2.1 bt522.2.2.2.2.2.2.2.2) else (laws_FnExactBatchTell.j0 k bt517.1 bt517.2.1 bt517.2.2 bt540.1 bt540.2.1 bt540.2.2 true a0_0 a0_1 l0_2 l0_3 a0_4 a0_5 l0_6 l0_7 a0_8 bt522.1 bt522.2.1 bt522.2.2.1 bt522.2.2.2.1 bt522.2.2.2.2.1 bt522.2.2.2.2.2.1 bt522.2.2.2.2.2.2.1 bt522.2.2.2.2.2.2.2.1 bt522.2.2.2.2.2.2.2.2)) else (laws_FnExactBatchTell.j0 k bt517.1 bt517.2.1 bt517.2.2 bt540.1 bt540.2.1 bt540.2.2 true a0_0 a0_1 l0_2 l0_3 a0_4 a0_5 l0_6 l0_7 a0_8 bt522.1 bt522.2.1 bt522.2.2.1 bt522.2.2.2.1 bt522.2.2.2.2.1 bt522.2.2.2.2.2.1 bt522.2.2.2.2.2.2.1 bt522.2.2.2.2.2.2.2.1 bt522.2.2.2.2.2.2.2.2))))))))
set_option maxHeartbeats 8000000 in
set_option maxRecDepth 100000 in
theorem laws_FnExactBatchTell.calls (k:Nat) (a0_0:Int) (a0_1:Int) (A0_2:Option Addr) (c0_2:Nat) (l0_2:List Int) (A0_3:Option Addr) (c0_3:Nat) (l0_3:List Int) (a0_4:Int) (a0_5:Int) (A0_6:Option Addr) (c0_6:Nat) (l0_6:List Int) (A0_7:Option Addr) (c0_7:Nat) (l0_7:List Int) (a0_8:Int) (r:Bool) (w:World) (hr0_2:Kd.C (Kd.int .i64) w A0_2 l0_2.length l0_2) (hc0_2:l0_2.length≤c0_2) (hr0_3:Kd.C (Kd.int .i64) w A0_3 l0_3.length l0_3) (hc0_3:l0_3.length≤c0_3) (hr0_6:Kd.C (Kd.int .i64) w A0_6 l0_6.length l0_6) (hc0_6:l0_6.length≤c0_6) (hr0_7:Kd.C (Kd.int .i64) w A0_7 l0_7.length l0_7) (hc0_7:l0_7.length≤c0_7) (h:laws_FnExactBatchTell.f k a0_0 a0_1 l0_2 l0_3 a0_4 a0_5 l0_6 l0_7 a0_8=some r) (hTr:r=true) :
  Calls Tru.prog 6 #[.agg #[.int .i64 a0_0,.int .i64 a0_1,.slice A0_2 l0_2.length c0_2,.slice A0_3 l0_3.length c0_3,.int .i64 a0_4,.int .i64 a0_5,.slice A0_6 l0_6.length c0_6,.slice A0_7 l0_7.length c0_7,.int .i64 a0_8]] w fun e w'=>e = .returned (.bool r)∧Below w.heap.size w w':=by
 have HT0_:=Aside0.mk hTr
 clear hTr
 have hu48:=((Tru.und _).trans ((Tru.und _).trans Try.underlying48))
 have hu38:=((Tru.und _).trans ((Tru.und _).trans Try.underlying38))
 have HR0_2:=Aside0.mk hr0_2
 have HC0_2:=Aside0.mk hc0_2
 clear hr0_2 hc0_2
 have HR0_3:=Aside0.mk hr0_3
 have HC0_3:=Aside0.mk hc0_3
 clear hr0_3 hc0_3
 have HR0_6:=Aside0.mk hr0_6
 have HC0_6:=Aside0.mk hc0_6
 clear hr0_6 hc0_6
 have HR0_7:=Aside0.mk hr0_7
 have HC0_7:=Aside0.mk hc0_7
 clear hr0_7 hc0_7
 have HB:=Aside0.mk (Below.refl w.heap.size w)
 have H:=h
 unfold laws_FnExactBatchTell.f at H
 clear h
 replace H:=bnd H
 obtain ⟨t499,A2,H⟩:=H
 by_cases c3:t499<0
 ·rw [if_pos c3] at H
  have c3b0:decide (t499<0)=true:=decide_eq_true c3
  clear c3
  obtain rfl:=Option.some.inj H
  go_enter Tru.func6,Try.ntmps6
  go_wp2_with (first | ((with_reducible refine zam (N:=1) rfl ?_);refine boxZ (N:=1) (cs:=#[.int .i64 a0_0,.int .i64 a0_1,.slice A0_2 l0_2.length c0_2,.slice A0_3 l0_3.length c0_3,.int .i64 a0_4,.int .i64 a0_5,.slice A0_6 l0_6.length c0_6,.slice A0_7 l0_7.length c0_7,.int .i64 a0_8]) (t:=48) ?_;intro gb498 hg w4 hbox hb;replace BK498:=Aside0.mk (hbox);replace GW498:=Aside0.mk ((by rw [hg];exact (zal (by repeat (first | (with_reducible first | exact HB.out | apply zae | apply zac | apply zaf) | exact HB.out))):w.heap.size≤gb498));replace GE498:=Aside0.mk ((by rw [hg];exact (zal (by repeat (first | (with_reducible first | exact HB.out | apply zae | apply zac | apply zaf) | exact HB.out))):w.heap.size≤gb498));replace HB:=Aside0.mk (zao (by repeat (first | (with_reducible first | exact HB.out | apply zae | apply zac | apply zaf) | exact HB.out)) hb);clear hb hbox hg;have hcz5_0:w4.cell? ⟨gb498,0,none⟩=some (.int .i64 a0_0):=(zab BK498.out 0).trans rfl;have hcz5_1:w4.cell? ⟨gb498,1,none⟩=some (.int .i64 a0_1):=(zab BK498.out 1).trans rfl;have hcz5_2:w4.cell? ⟨gb498,2,none⟩=some (.slice A0_2 l0_2.length c0_2):=(zab BK498.out 2).trans rfl;have hcz5_3:w4.cell? ⟨gb498,3,none⟩=some (.slice A0_3 l0_3.length c0_3):=(zab BK498.out 3).trans rfl;have hcz5_4:w4.cell? ⟨gb498,4,none⟩=some (.int .i64 a0_4):=(zab BK498.out 4).trans rfl;have hcz5_5:w4.cell? ⟨gb498,5,none⟩=some (.int .i64 a0_5):=(zab BK498.out 5).trans rfl;have hcz5_6:w4.cell? ⟨gb498,6,none⟩=some (.slice A0_6 l0_6.length c0_6):=(zab BK498.out 6).trans rfl;have hcz5_7:w4.cell? ⟨gb498,7,none⟩=some (.slice A0_7 l0_7.length c0_7):=(zab BK498.out 7).trans rfl;have hcz5_8:w4.cell? ⟨gb498,8,none⟩=some (.int .i64 a0_8):=(zab BK498.out 8).trans rfl;have hfz5_0:=zaa BK498.out 0;have hfz5_1:=zaa BK498.out 1;have hfz5_2:=zaa BK498.out 2;have hfz5_3:=zaa BK498.out 3;have hfz5_4:=zaa BK498.out 4;have hfz5_5:=zaa BK498.out 5;have hfz5_6:=zaa BK498.out 6;have hfz5_7:=zaa BK498.out 7;have hfz5_8:=zaa BK498.out 8) | ((with_reducible refine zaj (f:=22) rfl ?_);refine zaB (some 19) Tru.func22 #[.agg #[.int .i64 a0_0,.int .i64 a0_1,.slice A0_2 l0_2.length c0_2,.slice A0_3 l0_3.length c0_3,.int .i64 a0_4,.int .i64 a0_5,.slice A0_6 l0_6.length c0_6,.slice A0_7 l0_7.length c0_7,.int .i64 a0_8],.int .i64 1048576] ?_;(with_reducible refine (laws_szBatch.calls a0_0 a0_1 _ _ l0_2 _ _ l0_3 a0_4 a0_5 _ _ l0_6 _ _ l0_7 a0_8 1048576 t499 _ ?side1 ?side2 ?side3 ?side4 ?side5 ?side6 ?side7 ?side8 A2.out).mono ?_);(case side1=>exact (Kd.C_below HR0_2.out HB.out));(case side2=>exact HC0_2.out);(case side3=>exact (Kd.C_below HR0_3.out HB.out));(case side4=>exact HC0_3.out);(case side5=>exact (Kd.C_below HR0_6.out HB.out));(case side6=>exact HC0_6.out);(case side7=>exact (Kd.C_below HR0_7.out HB.out));(case side8=>exact HC0_7.out);rintro e w6 ⟨rfl,hb⟩;refine ⟨_,rfl,?_⟩;replace BK498:=Aside0.mk (zap (g:=gb498) (o:=.cells #[.int .i64 a0_0,.int .i64 a0_1,.slice A0_2 l0_2.length c0_2,.slice A0_3 l0_3.length c0_3,.int .i64 a0_4,.int .i64 a0_5,.slice A0_6 l0_6.length c0_6,.slice A0_7 l0_7.length c0_7,.int .i64 a0_8] 48 (0,0)) (by (with_reducible repeat (first | refine zai ?_ _ | refine zak ?_ | refine zah ?_ _));exact BK498.out) hb);replace HB:=Aside0.mk (zao (by repeat (first | (with_reducible first | exact HB.out | apply zae | apply zac | apply zaf | refine zag ?_ GE498.out) | exact HB.out)) hb);clear hb))
  go_ret
  exact ⟨rfl,by repeat (first | (with_reducible first | exact HB.out | apply zae | apply zac | apply zaf | refine zag ?_ GE498.out) | exact HB.out)⟩
 ·rw [if_neg c3] at H
  have c3b0:decide (t499<0)=false:=decide_eq_false c3
  clear c3
  replace H:=bnd H
  obtain ⟨⟨t500,t501,t502,t505,t508,t509,t510,t513,t516⟩,A7,H⟩:=H
  dsimp only at H
  replace H:=bnd H
  obtain ⟨⟨t517,t520,t521⟩,A8,H⟩:=H
  dsimp only at H
  replace H:=bnd H
  obtain ⟨⟨t522,t523,t524,t527,t530,t531,t532,t535,t538⟩,A9,H⟩:=H
  dsimp only at H
  replace H:=bnd H
  obtain ⟨⟨t540,t543,t544⟩,A10,H⟩:=H
  dsimp only at H
  have HC11:=Aside0.mk H
  clear H
  go_enter Tru.func6,Try.ntmps6
  go_upto_region 8 with (first | ((with_reducible refine zam (N:=1) rfl ?_);refine boxZ (N:=1) (cs:=#[.int .i64 a0_0,.int .i64 a0_1,.slice A0_2 l0_2.length c0_2,.slice A0_3 l0_3.length c0_3,.int .i64 a0_4,.int .i64 a0_5,.slice A0_6 l0_6.length c0_6,.slice A0_7 l0_7.length c0_7,.int .i64 a0_8]) (t:=48) ?_;intro gb498 hg w12 hbox hb;have n0_:=Aside0.mk (zao (by repeat (first | (with_reducible first | exact HB.out | apply zae | apply zac | apply zaf) | exact HB.out)) hb);have n1_:=Aside0.mk (hbox);have n2_:=Aside0.mk ((by rw [hg];exact (zal (by repeat (first | (with_reducible first | exact HB.out | apply zae | apply zac | apply zaf) | exact HB.out))):w.heap.size≤gb498));have n3_:=Aside0.mk ((by rw [hg];exact (zal (by repeat (first | (with_reducible first | exact HB.out | apply zae | apply zac | apply zaf) | exact HB.out))):w.heap.size≤gb498));clear HB;have HB:=n0_;have BK498:=n1_;have GW498:=n2_;have GE498:=n3_;clear n0_ n1_ n2_ n3_;clear hb hbox hg;have hcz13_0:w12.cell? ⟨gb498,0,none⟩=some (.int .i64 a0_0):=(zab BK498.out 0).trans rfl;have hcz13_1:w12.cell? ⟨gb498,1,none⟩=some (.int .i64 a0_1):=(zab BK498.out 1).trans rfl;have hcz13_2:w12.cell? ⟨gb498,2,none⟩=some (.slice A0_2 l0_2.length c0_2):=(zab BK498.out 2).trans rfl;have hcz13_3:w12.cell? ⟨gb498,3,none⟩=some (.slice A0_3 l0_3.length c0_3):=(zab BK498.out 3).trans rfl;have hcz13_4:w12.cell? ⟨gb498,4,none⟩=some (.int .i64 a0_4):=(zab BK498.out 4).trans rfl;have hcz13_5:w12.cell? ⟨gb498,5,none⟩=some (.int .i64 a0_5):=(zab BK498.out 5).trans rfl;have hcz13_6:w12.cell? ⟨gb498,6,none⟩=some (.slice A0_6 l0_6.length c0_6):=(zab BK498.out 6).trans rfl;have hcz13_7:w12.cell? ⟨gb498,7,none⟩=some (.slice A0_7 l0_7.length c0_7):=(zab BK498.out 7).trans rfl;have hcz13_8:w12.cell? ⟨gb498,8,none⟩=some (.int .i64 a0_8):=(zab BK498.out 8).trans rfl;have hfz13_0:=zaa BK498.out 0;have hfz13_1:=zaa BK498.out 1;have hfz13_2:=zaa BK498.out 2;have hfz13_3:=zaa BK498.out 3;have hfz13_4:=zaa BK498.out 4;have hfz13_5:=zaa BK498.out 5;have hfz13_6:=zaa BK498.out 6;have hfz13_7:=zaa BK498.out 7;have hfz13_8:=zaa BK498.out 8) | ((with_reducible refine zaj (f:=22) rfl ?_);refine zaB (some 19) Tru.func22 #[.agg #[.int .i64 a0_0,.int .i64 a0_1,.slice A0_2 l0_2.length c0_2,.slice A0_3 l0_3.length c0_3,.int .i64 a0_4,.int .i64 a0_5,.slice A0_6 l0_6.length c0_6,.slice A0_7 l0_7.length c0_7,.int .i64 a0_8],.int .i64 1048576] ?_;(with_reducible refine (laws_szBatch.calls a0_0 a0_1 _ _ l0_2 _ _ l0_3 a0_4 a0_5 _ _ l0_6 _ _ l0_7 a0_8 1048576 t499 _ ?side1 ?side2 ?side3 ?side4 ?side5 ?side6 ?side7 ?side8 A2.out).mono ?_);(case side1=>exact (Kd.C_below HR0_2.out HB.out));(case side2=>exact HC0_2.out);(case side3=>exact (Kd.C_below HR0_3.out HB.out));(case side4=>exact HC0_3.out);(case side5=>exact (Kd.C_below HR0_6.out HB.out));(case side6=>exact HC0_6.out);(case side7=>exact (Kd.C_below HR0_7.out HB.out));(case side8=>exact HC0_7.out);rintro e w14 ⟨rfl,hb⟩;refine ⟨_,rfl,?_⟩;have n0_:=Aside0.mk (zap (g:=gb498) (o:=.cells #[.int .i64 a0_0,.int .i64 a0_1,.slice A0_2 l0_2.length c0_2,.slice A0_3 l0_3.length c0_3,.int .i64 a0_4,.int .i64 a0_5,.slice A0_6 l0_6.length c0_6,.slice A0_7 l0_7.length c0_7,.int .i64 a0_8] 48 (0,0)) (by (with_reducible repeat (first | refine zai ?_ _ | refine zak ?_ | refine zah ?_ _));exact BK498.out) hb);have n1_:=Aside0.mk (zao (by repeat (first | (with_reducible first | exact HB.out | apply zae | apply zac | apply zaf | refine zag ?_ GE498.out) | exact HB.out)) hb);clear BK498;clear HB;have BK498:=n0_;have HB:=n1_;clear n0_ n1_;(try clear hb);(try clear hb2);(try clear hk);(try clear hi);have hcz15_0:w14.cell? ⟨gb498,0,none⟩=some (.int .i64 a0_0):=(zab BK498.out 0).trans rfl;have hcz15_1:w14.cell? ⟨gb498,1,none⟩=some (.int .i64 a0_1):=(zab BK498.out 1).trans rfl;have hcz15_2:w14.cell? ⟨gb498,2,none⟩=some (.slice A0_2 l0_2.length c0_2):=(zab BK498.out 2).trans rfl;have hcz15_3:w14.cell? ⟨gb498,3,none⟩=some (.slice A0_3 l0_3.length c0_3):=(zab BK498.out 3).trans rfl;have hcz15_4:w14.cell? ⟨gb498,4,none⟩=some (.int .i64 a0_4):=(zab BK498.out 4).trans rfl;have hcz15_5:w14.cell? ⟨gb498,5,none⟩=some (.int .i64 a0_5):=(zab BK498.out 5).trans rfl;have hcz15_6:w14.cell? ⟨gb498,6,none⟩=some (.slice A0_6 l0_6.length c0_6):=(zab BK498.out 6).trans rfl;have hcz15_7:w14.cell? ⟨gb498,7,none⟩=some (.slice A0_7 l0_7.length c0_7):=(zab BK498.out 7).trans rfl;have hcz15_8:w14.cell? ⟨gb498,8,none⟩=some (.int .i64 a0_8):=(zab BK498.out 8).trans rfl;have hfz15_0:=zaa BK498.out 0;have hfz15_1:=zaa BK498.out 1;have hfz15_2:=zaa BK498.out 2;have hfz15_3:=zaa BK498.out 3;have hfz15_4:=zaa BK498.out 4;have hfz15_5:=zaa BK498.out 5;have hfz15_6:=zaa BK498.out 6;have hfz15_7:=zaa BK498.out 7;have hfz15_8:=zaa BK498.out 8) | ((with_reducible refine zaj (f:=24) rfl ?_);refine zaB (some 24) Tru.func24 #[.agg #[.int .i64 a0_0,.int .i64 a0_1,.slice A0_2 l0_2.length c0_2,.slice A0_3 l0_3.length c0_3,.int .i64 a0_4,.int .i64 a0_5,.slice A0_6 l0_6.length c0_6,.slice A0_7 l0_7.length c0_7,.int .i64 a0_8]] ?_;(with_reducible refine (laws_toBatch.calls k a0_0 a0_1 _ _ l0_2 _ _ l0_3 a0_4 a0_5 _ _ l0_6 _ _ l0_7 a0_8 t500 t501 t502 t505 t508 t509 t510 t513 t516 _ ?side1 ?side2 ?side3 ?side4 ?side5 ?side6 ?side7 ?side8 A7.out).mono ?_);(case side1=>exact (Kd.C_below HR0_2.out HB.out));(case side2=>exact HC0_2.out);(case side3=>exact (Kd.C_below HR0_3.out HB.out));(case side4=>exact HC0_3.out);(case side5=>exact (Kd.C_below HR0_6.out HB.out));(case side6=>exact HC0_6.out);(case side7=>exact (Kd.C_below HR0_7.out HB.out));(case side8=>exact HC0_7.out);rintro e w16 ⟨v503,v506,v511,v514,rfl,ho0,ho1,ho2,ho3,hb⟩;refine ⟨_,rfl,?_⟩;have n0_:=Aside0.mk (Kd.R_lower ho0 (zal (by repeat (first | (with_reducible first | exact HB.out | apply zae | apply zac | apply zaf | refine zag ?_ GE498.out) | exact HB.out))));have n1_:=Aside0.mk (Kd.R_lower ho1 (zal (by repeat (first | (with_reducible first | exact HB.out | apply zae | apply zac | apply zaf | refine zag ?_ GE498.out) | exact HB.out))));have n2_:=Aside0.mk (Kd.R_lower ho2 (zal (by repeat (first | (with_reducible first | exact HB.out | apply zae | apply zac | apply zaf | refine zag ?_ GE498.out) | exact HB.out))));have n3_:=Aside0.mk (Kd.R_lower ho3 (zal (by repeat (first | (with_reducible first | exact HB.out | apply zae | apply zac | apply zaf | refine zag ?_ GE498.out) | exact HB.out))));have n4_:=Aside0.mk (zap (g:=gb498) (o:=.cells #[.int .i64 a0_0,.int .i64 a0_1,.slice A0_2 l0_2.length c0_2,.slice A0_3 l0_3.length c0_3,.int .i64 a0_4,.int .i64 a0_5,.slice A0_6 l0_6.length c0_6,.slice A0_7 l0_7.length c0_7,.int .i64 a0_8] 48 (0,0)) (by (with_reducible repeat (first | refine zai ?_ _ | refine zak ?_ | refine zah ?_ _));exact BK498.out) hb);have n5_:=Aside0.mk (zao (by repeat (first | (with_reducible first | exact HB.out | apply zae | apply zac | apply zaf | refine zag ?_ GE498.out) | exact HB.out)) hb);clear BK498;clear HB;have HO504:=n0_;have HO507:=n1_;have HO512:=n2_;have HO515:=n3_;have BK498:=n4_;have HB:=n5_;clear n0_ n1_ n2_ n3_ n4_ n5_;(try clear hb);(try clear hb2);(try clear hk);(try clear hi);(try clear ho0);(try clear ho1);(try clear ho2);(try clear ho3);obtain ⟨Ao17,co17,eo17⟩:=Kd.R_slice HO504.out;subst eo17;obtain ⟨Ao18,co18,eo18⟩:=Kd.R_slice HO507.out;subst eo18;obtain ⟨Ao19,co19,eo19⟩:=Kd.R_slice HO512.out;subst eo19;obtain ⟨Ao20,co20,eo20⟩:=Kd.R_slice HO515.out;subst eo20) | ((with_reducible refine zaj (f:=23) rfl ?_);refine zaB (some 25) Tru.func23 #[.agg #[.int .i64 t500,.int .i64 t501,.slice Ao17 t502.length co17,.slice Ao18 t505.length co18,.int .i64 t508,.int .i64 t509,.slice Ao19 t510.length co19,.slice Ao20 t513.length co20,.int .i64 t516]] ?_;(with_reducible refine (spec_BatchTell.calls k t500 t501 _ _ t502 _ _ t505 t508 t509 _ _ t510 _ _ t513 t516 t517 t520 t521 _ ?side1 ?side2 ?side3 ?side4 ?side5 ?side6 ?side7 ?side8 A8.out).mono ?_);(case side1=>exact (Kd.R_reads' HO504.out).2.2);(case side2=>exact (Kd.R_reads' HO504.out).2.1);(case side3=>exact (Kd.R_reads' HO507.out).2.2);(case side4=>exact (Kd.R_reads' HO507.out).2.1);(case side5=>exact (Kd.R_reads' HO512.out).2.2);(case side6=>exact (Kd.R_reads' HO512.out).2.1);(case side7=>exact (Kd.R_reads' HO515.out).2.2);(case side8=>exact (Kd.R_reads' HO515.out).2.1);rintro e w21 ⟨v518,rfl,ho0,hb⟩;refine ⟨_,rfl,?_⟩;have n0_:=Aside0.mk (Kd.R_elder' (HO504.out) (Kd.R_base ho0) hb);have n1_:=Aside0.mk (Kd.R_elder' (HO507.out) (Kd.R_base ho0) hb);have n2_:=Aside0.mk (Kd.R_elder' (HO512.out) (Kd.R_base ho0) hb);have n3_:=Aside0.mk (Kd.R_elder' (HO515.out) (Kd.R_base ho0) hb);have n4_:=Aside0.mk (Kd.R_lower (Kd.R_new' (Kd.R_new' (Kd.R_new' (Kd.R_new' ho0 (Kd.R_lt (HO504.out))) (Kd.R_lt (HO507.out))) (Kd.R_lt (HO512.out))) (Kd.R_lt (HO515.out))) (zal (by repeat (first | (with_reducible first | exact HB.out | apply zae | apply zac | apply zaf | refine zag ?_ GE498.out) | exact HB.out))));have n5_:=Aside0.mk (zap (g:=gb498) (o:=.cells #[.int .i64 a0_0,.int .i64 a0_1,.slice A0_2 l0_2.length c0_2,.slice A0_3 l0_3.length c0_3,.int .i64 a0_4,.int .i64 a0_5,.slice A0_6 l0_6.length c0_6,.slice A0_7 l0_7.length c0_7,.int .i64 a0_8] 48 (0,0)) (by (with_reducible repeat (first | refine zai ?_ _ | refine zak ?_ | refine zah ?_ _));exact BK498.out) hb);have n6_:=Aside0.mk (zao (by repeat (first | (with_reducible first | exact HB.out | apply zae | apply zac | apply zaf | refine zag ?_ GE498.out) | exact HB.out)) hb);clear HO504;clear HO507;clear HO512;clear HO515;clear BK498;clear HB;have HO504:=n0_;have HO507:=n1_;have HO512:=n2_;have HO515:=n3_;have HO519:=n4_;have BK498:=n5_;have HB:=n6_;clear n0_ n1_ n2_ n3_ n4_ n5_ n6_;(try clear hb);(try clear hb2);(try clear hk);(try clear hi);(try clear ho0);have hcz22_0:w21.cell? ⟨gb498,0,none⟩=some (.int .i64 a0_0):=(zab BK498.out 0).trans rfl;have hcz22_1:w21.cell? ⟨gb498,1,none⟩=some (.int .i64 a0_1):=(zab BK498.out 1).trans rfl;have hcz22_2:w21.cell? ⟨gb498,2,none⟩=some (.slice A0_2 l0_2.length c0_2):=(zab BK498.out 2).trans rfl;have hcz22_3:w21.cell? ⟨gb498,3,none⟩=some (.slice A0_3 l0_3.length c0_3):=(zab BK498.out 3).trans rfl;have hcz22_4:w21.cell? ⟨gb498,4,none⟩=some (.int .i64 a0_4):=(zab BK498.out 4).trans rfl;have hcz22_5:w21.cell? ⟨gb498,5,none⟩=some (.int .i64 a0_5):=(zab BK498.out 5).trans rfl;have hcz22_6:w21.cell? ⟨gb498,6,none⟩=some (.slice A0_6 l0_6.length c0_6):=(zab BK498.out 6).trans rfl;have hcz22_7:w21.cell? ⟨gb498,7,none⟩=some (.slice A0_7 l0_7.length c0_7):=(zab BK498.out 7).trans rfl;have hcz22_8:w21.cell? ⟨gb498,8,none⟩=some (.int .i64 a0_8):=(zab BK498.out 8).trans rfl;have hfz22_0:=zaa BK498.out 0;have hfz22_1:=zaa BK498.out 1;have hfz22_2:=zaa BK498.out 2;have hfz22_3:=zaa BK498.out 3;have hfz22_4:=zaa BK498.out 4;have hfz22_5:=zaa BK498.out 5;have hfz22_6:=zaa BK498.out 6;have hfz22_7:=zaa BK498.out 7;have hfz22_8:=zaa BK498.out 8) | ((with_reducible refine zaj (f:=24) rfl ?_);refine zaB (some 30) Tru.func24 #[.agg #[.int .i64 a0_0,.int .i64 a0_1,.slice A0_2 l0_2.length c0_2,.slice A0_3 l0_3.length c0_3,.int .i64 a0_4,.int .i64 a0_5,.slice A0_6 l0_6.length c0_6,.slice A0_7 l0_7.length c0_7,.int .i64 a0_8]] ?_;(with_reducible refine (laws_toBatch.calls k a0_0 a0_1 _ _ l0_2 _ _ l0_3 a0_4 a0_5 _ _ l0_6 _ _ l0_7 a0_8 t522 t523 t524 t527 t530 t531 t532 t535 t538 _ ?side1 ?side2 ?side3 ?side4 ?side5 ?side6 ?side7 ?side8 A9.out).mono ?_);(case side1=>exact (Kd.C_below HR0_2.out HB.out));(case side2=>exact HC0_2.out);(case side3=>exact (Kd.C_below HR0_3.out HB.out));(case side4=>exact HC0_3.out);(case side5=>exact (Kd.C_below HR0_6.out HB.out));(case side6=>exact HC0_6.out);(case side7=>exact (Kd.C_below HR0_7.out HB.out));(case side8=>exact HC0_7.out);rintro e w23 ⟨v525,v528,v533,v536,rfl,ho0,ho1,ho2,ho3,hb⟩;refine ⟨_,rfl,?_⟩;have n0_:=Aside0.mk (Kd.R_mono (Kd.R_told (Kd.R_told (Kd.R_told (Kd.R_told (Kd.R_old (HO504.out) hb) (Kd.R_base ho0)) (Kd.R_base ho1)) (Kd.R_base ho2)) (Kd.R_base ho3)) (fun _ h_=>h_.1));have n1_:=Aside0.mk (Kd.R_mono (Kd.R_told (Kd.R_told (Kd.R_told (Kd.R_told (Kd.R_old (HO507.out) hb) (Kd.R_base ho0)) (Kd.R_base ho1)) (Kd.R_base ho2)) (Kd.R_base ho3)) (fun _ h_=>h_.1));have n2_:=Aside0.mk (Kd.R_mono (Kd.R_told (Kd.R_told (Kd.R_told (Kd.R_told (Kd.R_old (HO512.out) hb) (Kd.R_base ho0)) (Kd.R_base ho1)) (Kd.R_base ho2)) (Kd.R_base ho3)) (fun _ h_=>h_.1));have n3_:=Aside0.mk (Kd.R_mono (Kd.R_told (Kd.R_told (Kd.R_told (Kd.R_told (Kd.R_old (HO515.out) hb) (Kd.R_base ho0)) (Kd.R_base ho1)) (Kd.R_base ho2)) (Kd.R_base ho3)) (fun _ h_=>h_.1));have n4_:=Aside0.mk (Kd.R_mono (Kd.R_told (Kd.R_told (Kd.R_told (Kd.R_told (Kd.R_old (HO519.out) hb) (Kd.R_base ho0)) (Kd.R_base ho1)) (Kd.R_base ho2)) (Kd.R_base ho3)) (fun _ h_=>h_.1));have n5_:=Aside0.mk (Kd.R_lower (Kd.R_new' (Kd.R_new' (Kd.R_new' (Kd.R_new' (Kd.R_new' ho0 (Kd.R_lt (HO504.out))) (Kd.R_lt (HO507.out))) (Kd.R_lt (HO512.out))) (Kd.R_lt (HO515.out))) (Kd.R_lt (HO519.out))) (zal (by repeat (first | (with_reducible first | exact HB.out | apply zae | apply zac | apply zaf | refine zag ?_ GE498.out) | exact HB.out))));have n6_:=Aside0.mk (Kd.R_lower (Kd.R_new' (Kd.R_new' (Kd.R_new' (Kd.R_new' (Kd.R_new' ho1 (Kd.R_lt (HO504.out))) (Kd.R_lt (HO507.out))) (Kd.R_lt (HO512.out))) (Kd.R_lt (HO515.out))) (Kd.R_lt (HO519.out))) (zal (by repeat (first | (with_reducible first | exact HB.out | apply zae | apply zac | apply zaf | refine zag ?_ GE498.out) | exact HB.out))));have n7_:=Aside0.mk (Kd.R_lower (Kd.R_new' (Kd.R_new' (Kd.R_new' (Kd.R_new' (Kd.R_new' ho2 (Kd.R_lt (HO504.out))) (Kd.R_lt (HO507.out))) (Kd.R_lt (HO512.out))) (Kd.R_lt (HO515.out))) (Kd.R_lt (HO519.out))) (zal (by repeat (first | (with_reducible first | exact HB.out | apply zae | apply zac | apply zaf | refine zag ?_ GE498.out) | exact HB.out))));have n8_:=Aside0.mk (Kd.R_lower (Kd.R_new' (Kd.R_new' (Kd.R_new' (Kd.R_new' (Kd.R_new' ho3 (Kd.R_lt (HO504.out))) (Kd.R_lt (HO507.out))) (Kd.R_lt (HO512.out))) (Kd.R_lt (HO515.out))) (Kd.R_lt (HO519.out))) (zal (by repeat (first | (with_reducible first | exact HB.out | apply zae | apply zac | apply zaf | refine zag ?_ GE498.out) | exact HB.out))));have n9_:=Aside0.mk (zap (g:=gb498) (o:=.cells #[.int .i64 a0_0,.int .i64 a0_1,.slice A0_2 l0_2.length c0_2,.slice A0_3 l0_3.length c0_3,.int .i64 a0_4,.int .i64 a0_5,.slice A0_6 l0_6.length c0_6,.slice A0_7 l0_7.length c0_7,.int .i64 a0_8] 48 (0,0)) (by (with_reducible repeat (first | refine zai ?_ _ | refine zak ?_ | refine zah ?_ _));exact BK498.out) hb);have n10_:=Aside0.mk (zao (by repeat (first | (with_reducible first | exact HB.out | apply zae | apply zac | apply zaf | refine zag ?_ GE498.out) | exact HB.out)) hb);clear HO504;clear HO507;clear HO512;clear HO515;clear HO519;clear BK498;clear HB;have HO504:=n0_;have HO507:=n1_;have HO512:=n2_;have HO515:=n3_;have HO519:=n4_;have HO526:=n5_;have HO529:=n6_;have HO534:=n7_;have HO537:=n8_;have BK498:=n9_;have HB:=n10_;clear n0_ n1_ n2_ n3_ n4_ n5_ n6_ n7_ n8_ n9_ n10_;(try clear hb);(try clear hb2);(try clear hk);(try clear hi);(try clear ho0);(try clear ho1);(try clear ho2);(try clear ho3)) | ((with_reducible refine zam (N:=7) rfl ?_);refine boxZ (N:=7) (cs:=#[.int .i64 0,.int .i64 0,.slice none 0 0,.slice none 0 0,.int .i64 0,.int .i64 0,.slice none 0 0,.slice none 0 0,.int .i64 0]) (t:=38) ?_;intro gb539 hg w24 hbox hb;have n0_:=Aside0.mk (Kd.R_below (HO504.out) hb);have n1_:=Aside0.mk (Kd.R_below (HO507.out) hb);have n2_:=Aside0.mk (Kd.R_below (HO512.out) hb);have n3_:=Aside0.mk (Kd.R_below (HO515.out) hb);have n4_:=Aside0.mk (Kd.R_below (HO519.out) hb);have n5_:=Aside0.mk (Kd.R_below (HO526.out) hb);have n6_:=Aside0.mk (Kd.R_below (HO529.out) hb);have n7_:=Aside0.mk (Kd.R_below (HO534.out) hb);have n8_:=Aside0.mk (Kd.R_below (HO537.out) hb);have n9_:=Aside0.mk (zap (g:=gb498) (o:=.cells #[.int .i64 a0_0,.int .i64 a0_1,.slice A0_2 l0_2.length c0_2,.slice A0_3 l0_3.length c0_3,.int .i64 a0_4,.int .i64 a0_5,.slice A0_6 l0_6.length c0_6,.slice A0_7 l0_7.length c0_7,.int .i64 a0_8] 48 (0,0)) (by (with_reducible repeat (first | refine zai ?_ _ | refine zak ?_ | refine zah ?_ _));exact BK498.out) hb);have n10_:=Aside0.mk (zao (by repeat (first | (with_reducible first | exact HB.out | apply zae | apply zac | apply zaf | refine zag ?_ GE498.out) | exact HB.out)) hb);have n11_:=Aside0.mk (hbox);have n12_:=Aside0.mk ((by rw [hg];exact (zal (by repeat (first | (with_reducible first | exact HB.out | apply zae | apply zac | apply zaf | refine zag ?_ GE498.out) | exact HB.out))):w.heap.size≤gb539));have n13_:=Aside0.mk ((by rw [hg];exact (zal (by repeat (first | (with_reducible first | exact HB.out | apply zae | apply zac | apply zaf | refine zag ?_ GE498.out) | exact HB.out))):w.heap.size≤gb539));have n14_:=Aside0.mk ((by rw [hg];exact Nat.ne_of_lt (blk_lt (g:=gb498) (o:=.cells #[.int .i64 a0_0,.int .i64 a0_1,.slice A0_2 l0_2.length c0_2,.slice A0_3 l0_3.length c0_3,.int .i64 a0_4,.int .i64 a0_5,.slice A0_6 l0_6.length c0_6,.slice A0_7 l0_7.length c0_7,.int .i64 a0_8] 48 (0,0)) (by (with_reducible repeat (first | refine zai ?_ _ | refine zak ?_ | refine zah ?_ _));exact BK498.out)):gb498≠gb539));have n15_:=Aside0.mk ((by rw [hg];exact Nat.ne_of_gt (blk_lt (g:=gb498) (o:=.cells #[.int .i64 a0_0,.int .i64 a0_1,.slice A0_2 l0_2.length c0_2,.slice A0_3 l0_3.length c0_3,.int .i64 a0_4,.int .i64 a0_5,.slice A0_6 l0_6.length c0_6,.slice A0_7 l0_7.length c0_7,.int .i64 a0_8] 48 (0,0)) (by (with_reducible repeat (first | refine zai ?_ _ | refine zak ?_ | refine zah ?_ _));exact BK498.out)):gb539≠gb498));clear HO504;clear HO507;clear HO512;clear HO515;clear HO519;clear HO526;clear HO529;clear HO534;clear HO537;clear BK498;clear HB;have HO504:=n0_;have HO507:=n1_;have HO512:=n2_;have HO515:=n3_;have HO519:=n4_;have HO526:=n5_;have HO529:=n6_;have HO534:=n7_;have HO537:=n8_;have BK498:=n9_;have HB:=n10_;have BK539:=n11_;have GW539:=n12_;have GE539:=n13_;have NB498_539:=n14_;have NB539_498:=n15_;clear n0_ n1_ n2_ n3_ n4_ n5_ n6_ n7_ n8_ n9_ n10_ n11_ n12_ n13_ n14_ n15_;clear hb hbox hg;have hnb25:=NB539_498.out;have hnc25:=NB498_539.out;have hcz26_0:w24.cell? ⟨gb539,0,none⟩=some (.int .i64 0):=(zab BK539.out 0).trans rfl;have hcz26_1:w24.cell? ⟨gb539,1,none⟩=some (.int .i64 0):=(zab BK539.out 1).trans rfl;have hcz26_2:w24.cell? ⟨gb539,2,none⟩=some (.slice none 0 0):=(zab BK539.out 2).trans rfl;have hcz26_3:w24.cell? ⟨gb539,3,none⟩=some (.slice none 0 0):=(zab BK539.out 3).trans rfl;have hcz26_4:w24.cell? ⟨gb539,4,none⟩=some (.int .i64 0):=(zab BK539.out 4).trans rfl;have hcz26_5:w24.cell? ⟨gb539,5,none⟩=some (.int .i64 0):=(zab BK539.out 5).trans rfl;have hcz26_6:w24.cell? ⟨gb539,6,none⟩=some (.slice none 0 0):=(zab BK539.out 6).trans rfl;have hcz26_7:w24.cell? ⟨gb539,7,none⟩=some (.slice none 0 0):=(zab BK539.out 7).trans rfl;have hcz26_8:w24.cell? ⟨gb539,8,none⟩=some (.int .i64 0):=(zab BK539.out 8).trans rfl;have hfz26_0:=zaa BK539.out 0;have hfz26_1:=zaa BK539.out 1;have hfz26_2:=zaa BK539.out 2;have hfz26_3:=zaa BK539.out 3;have hfz26_4:=zaa BK539.out 4;have hfz26_5:=zaa BK539.out 5;have hfz26_6:=zaa BK539.out 6;have hfz26_7:=zaa BK539.out 7;have hfz26_8:=zaa BK539.out 8;obtain ⟨Ao27,co27,eo27⟩:=Kd.R_slice HO526.out;subst eo27;obtain ⟨Ao28,co28,eo28⟩:=Kd.R_slice HO529.out;subst eo28;obtain ⟨Ao29,co29,eo29⟩:=Kd.R_slice HO534.out;subst eo29;obtain ⟨Ao30,co30,eo30⟩:=Kd.R_slice HO537.out;subst eo30) | ((with_reducible refine zaj (f:=20) rfl ?_);refine zaB (some 33) Tru.func20 #[.agg #[.int .i64 t522,.int .i64 t523,.slice Ao27 t524.length co27,.slice Ao28 t527.length co28,.int .i64 t530,.int .i64 t531,.slice Ao29 t532.length co29,.slice Ao30 t535.length co30,.int .i64 t538]] ?_;(with_reducible refine (impl_BatchTell.calls k t522 t523 _ _ t524 _ _ t527 t530 t531 _ _ t532 _ _ t535 t538 t540 t543 t544 _ ?side1 ?side2 ?side3 ?side4 ?side5 ?side6 ?side7 ?side8 A10.out).mono ?_);(case side1=>refine (Kd.R_reads' (e:=3) (base:=w.heap.size) (ok:=fun k_=>((((((some k_≠(.slice Ao28 t527.length co28:Value).ownBlock∧(some k_≠(.slice Ao29 t532.length co29:Value).ownBlock∧some k_≠(.slice Ao30 t535.length co30:Value).ownBlock))∧some k_≠(.slice Ao17 t502.length co17:Value).ownBlock)∧some k_≠(.slice Ao18 t505.length co18:Value).ownBlock)∧some k_≠(.slice Ao19 t510.length co19:Value).ownBlock)∧some k_≠(.slice Ao20 t513.length co20:Value).ownBlock)∧some k_≠(v518:Value).ownBlock)) (n:=t524.length) (c:=co27) ?_).2.2;exact (by (with_reducible repeat (first | apply Kd.R_alloc | apply Kd.R_drewN | apply Kd.R_drew));exact (Kd.R_mono (Kd.R_far (p:=⟨gb539,8,none⟩) (Kd.R_far (p:=⟨gb539,7,none⟩) (Kd.R_far (p:=⟨gb539,6,none⟩) (Kd.R_far (p:=⟨gb539,5,none⟩) (Kd.R_far (p:=⟨gb539,4,none⟩) (Kd.R_far (p:=⟨gb539,3,none⟩) (Kd.R_far (p:=⟨gb539,2,none⟩) (Kd.R_far (p:=⟨gb539,1,none⟩) (Kd.R_far (p:=⟨gb539,0,none⟩) (Kd.R_types HO526.out BK539.out (by decide)) (fun _ hk=>hk.2) (.int .i64 t522)) (fun _ hk=>hk.2) (.int .i64 t523)) (fun _ hk=>hk.2) (.slice Ao27 t524.length co27)) (fun _ hk=>hk.2) (.slice Ao28 t527.length co28)) (fun _ hk=>hk.2) (.int .i64 t530)) (fun _ hk=>hk.2) (.int .i64 t531)) (fun _ hk=>hk.2) (.slice Ao29 t532.length co29)) (fun _ hk=>hk.2) (.slice Ao30 t535.length co30)) (fun _ hk=>hk.2) (.int .i64 t538)) (fun _ h_=>h_.1))));(case side2=>exact (Kd.R_reads' HO526.out).2.1);(case side3=>refine (Kd.R_reads' (e:=3) (base:=w.heap.size) (ok:=fun k_=>((((((some k_≠(.slice Ao27 t524.length co27:Value).ownBlock∧(some k_≠(.slice Ao29 t532.length co29:Value).ownBlock∧some k_≠(.slice Ao30 t535.length co30:Value).ownBlock))∧some k_≠(.slice Ao17 t502.length co17:Value).ownBlock)∧some k_≠(.slice Ao18 t505.length co18:Value).ownBlock)∧some k_≠(.slice Ao19 t510.length co19:Value).ownBlock)∧some k_≠(.slice Ao20 t513.length co20:Value).ownBlock)∧some k_≠(v518:Value).ownBlock)) (n:=t527.length) (c:=co28) ?_).2.2;exact (by (with_reducible repeat (first | apply Kd.R_alloc | apply Kd.R_drewN | apply Kd.R_drew));exact (Kd.R_mono (Kd.R_far (p:=⟨gb539,8,none⟩) (Kd.R_far (p:=⟨gb539,7,none⟩) (Kd.R_far (p:=⟨gb539,6,none⟩) (Kd.R_far (p:=⟨gb539,5,none⟩) (Kd.R_far (p:=⟨gb539,4,none⟩) (Kd.R_far (p:=⟨gb539,3,none⟩) (Kd.R_far (p:=⟨gb539,2,none⟩) (Kd.R_far (p:=⟨gb539,1,none⟩) (Kd.R_far (p:=⟨gb539,0,none⟩) (Kd.R_types HO529.out BK539.out (by decide)) (fun _ hk=>hk.2) (.int .i64 t522)) (fun _ hk=>hk.2) (.int .i64 t523)) (fun _ hk=>hk.2) (.slice Ao27 t524.length co27)) (fun _ hk=>hk.2) (.slice Ao28 t527.length co28)) (fun _ hk=>hk.2) (.int .i64 t530)) (fun _ hk=>hk.2) (.int .i64 t531)) (fun _ hk=>hk.2) (.slice Ao29 t532.length co29)) (fun _ hk=>hk.2) (.slice Ao30 t535.length co30)) (fun _ hk=>hk.2) (.int .i64 t538)) (fun _ h_=>h_.1))));(case side4=>exact (Kd.R_reads' HO529.out).2.1);(case side5=>refine (Kd.R_reads' (e:=3) (base:=w.heap.size) (ok:=fun k_=>((((((some k_≠(.slice Ao27 t524.length co27:Value).ownBlock∧(some k_≠(.slice Ao28 t527.length co28:Value).ownBlock∧some k_≠(.slice Ao30 t535.length co30:Value).ownBlock))∧some k_≠(.slice Ao17 t502.length co17:Value).ownBlock)∧some k_≠(.slice Ao18 t505.length co18:Value).ownBlock)∧some k_≠(.slice Ao19 t510.length co19:Value).ownBlock)∧some k_≠(.slice Ao20 t513.length co20:Value).ownBlock)∧some k_≠(v518:Value).ownBlock)) (n:=t532.length) (c:=co29) ?_).2.2;exact (by (with_reducible repeat (first | apply Kd.R_alloc | apply Kd.R_drewN | apply Kd.R_drew));exact (Kd.R_mono (Kd.R_far (p:=⟨gb539,8,none⟩) (Kd.R_far (p:=⟨gb539,7,none⟩) (Kd.R_far (p:=⟨gb539,6,none⟩) (Kd.R_far (p:=⟨gb539,5,none⟩) (Kd.R_far (p:=⟨gb539,4,none⟩) (Kd.R_far (p:=⟨gb539,3,none⟩) (Kd.R_far (p:=⟨gb539,2,none⟩) (Kd.R_far (p:=⟨gb539,1,none⟩) (Kd.R_far (p:=⟨gb539,0,none⟩) (Kd.R_types HO534.out BK539.out (by decide)) (fun _ hk=>hk.2) (.int .i64 t522)) (fun _ hk=>hk.2) (.int .i64 t523)) (fun _ hk=>hk.2) (.slice Ao27 t524.length co27)) (fun _ hk=>hk.2) (.slice Ao28 t527.length co28)) (fun _ hk=>hk.2) (.int .i64 t530)) (fun _ hk=>hk.2) (.int .i64 t531)) (fun _ hk=>hk.2) (.slice Ao29 t532.length co29)) (fun _ hk=>hk.2) (.slice Ao30 t535.length co30)) (fun _ hk=>hk.2) (.int .i64 t538)) (fun _ h_=>h_.1))));(case side6=>exact (Kd.R_reads' HO534.out).2.1);(case side7=>refine (Kd.R_reads' (e:=3) (base:=w.heap.size) (ok:=fun k_=>((((((some k_≠(.slice Ao27 t524.length co27:Value).ownBlock∧(some k_≠(.slice Ao28 t527.length co28:Value).ownBlock∧some k_≠(.slice Ao29 t532.length co29:Value).ownBlock))∧some k_≠(.slice Ao17 t502.length co17:Value).ownBlock)∧some k_≠(.slice Ao18 t505.length co18:Value).ownBlock)∧some k_≠(.slice Ao19 t510.length co19:Value).ownBlock)∧some k_≠(.slice Ao20 t513.length co20:Value).ownBlock)∧some k_≠(v518:Value).ownBlock)) (n:=t535.length) (c:=co30) ?_).2.2;exact (by (with_reducible repeat (first | apply Kd.R_alloc | apply Kd.R_drewN | apply Kd.R_drew));exact (Kd.R_mono (Kd.R_far (p:=⟨gb539,8,none⟩) (Kd.R_far (p:=⟨gb539,7,none⟩) (Kd.R_far (p:=⟨gb539,6,none⟩) (Kd.R_far (p:=⟨gb539,5,none⟩) (Kd.R_far (p:=⟨gb539,4,none⟩) (Kd.R_far (p:=⟨gb539,3,none⟩) (Kd.R_far (p:=⟨gb539,2,none⟩) (Kd.R_far (p:=⟨gb539,1,none⟩) (Kd.R_far (p:=⟨gb539,0,none⟩) (Kd.R_types HO537.out BK539.out (by decide)) (fun _ hk=>hk.2) (.int .i64 t522)) (fun _ hk=>hk.2) (.int .i64 t523)) (fun _ hk=>hk.2) (.slice Ao27 t524.length co27)) (fun _ hk=>hk.2) (.slice Ao28 t527.length co28)) (fun _ hk=>hk.2) (.int .i64 t530)) (fun _ hk=>hk.2) (.int .i64 t531)) (fun _ hk=>hk.2) (.slice Ao29 t532.length co29)) (fun _ hk=>hk.2) (.slice Ao30 t535.length co30)) (fun _ hk=>hk.2) (.int .i64 t538)) (fun _ h_=>h_.1))));(case side8=>exact (Kd.R_reads' HO537.out).2.1);rintro e w31 ⟨v541,rfl,ho0,hb⟩;refine ⟨_,rfl,?_⟩;have n0_:=Aside0.mk (Kd.R_elder' (by (with_reducible repeat (first | apply Kd.R_alloc | apply Kd.R_drewN | apply Kd.R_drew));exact (Kd.R_mono (Kd.R_far (p:=⟨gb539,8,none⟩) (Kd.R_far (p:=⟨gb539,7,none⟩) (Kd.R_far (p:=⟨gb539,6,none⟩) (Kd.R_far (p:=⟨gb539,5,none⟩) (Kd.R_far (p:=⟨gb539,4,none⟩) (Kd.R_far (p:=⟨gb539,3,none⟩) (Kd.R_far (p:=⟨gb539,2,none⟩) (Kd.R_far (p:=⟨gb539,1,none⟩) (Kd.R_far (p:=⟨gb539,0,none⟩) (Kd.R_types HO504.out BK539.out (by decide)) (fun _ hk=>hk.2) (.int .i64 t522)) (fun _ hk=>hk.2) (.int .i64 t523)) (fun _ hk=>hk.2) (.slice Ao27 t524.length co27)) (fun _ hk=>hk.2) (.slice Ao28 t527.length co28)) (fun _ hk=>hk.2) (.int .i64 t530)) (fun _ hk=>hk.2) (.int .i64 t531)) (fun _ hk=>hk.2) (.slice Ao29 t532.length co29)) (fun _ hk=>hk.2) (.slice Ao30 t535.length co30)) (fun _ hk=>hk.2) (.int .i64 t538)) (fun _ h_=>h_.1))) (Kd.R_base ho0) hb);have n1_:=Aside0.mk (Kd.R_elder' (by (with_reducible repeat (first | apply Kd.R_alloc | apply Kd.R_drewN | apply Kd.R_drew));exact (Kd.R_mono (Kd.R_far (p:=⟨gb539,8,none⟩) (Kd.R_far (p:=⟨gb539,7,none⟩) (Kd.R_far (p:=⟨gb539,6,none⟩) (Kd.R_far (p:=⟨gb539,5,none⟩) (Kd.R_far (p:=⟨gb539,4,none⟩) (Kd.R_far (p:=⟨gb539,3,none⟩) (Kd.R_far (p:=⟨gb539,2,none⟩) (Kd.R_far (p:=⟨gb539,1,none⟩) (Kd.R_far (p:=⟨gb539,0,none⟩) (Kd.R_types HO507.out BK539.out (by decide)) (fun _ hk=>hk.2) (.int .i64 t522)) (fun _ hk=>hk.2) (.int .i64 t523)) (fun _ hk=>hk.2) (.slice Ao27 t524.length co27)) (fun _ hk=>hk.2) (.slice Ao28 t527.length co28)) (fun _ hk=>hk.2) (.int .i64 t530)) (fun _ hk=>hk.2) (.int .i64 t531)) (fun _ hk=>hk.2) (.slice Ao29 t532.length co29)) (fun _ hk=>hk.2) (.slice Ao30 t535.length co30)) (fun _ hk=>hk.2) (.int .i64 t538)) (fun _ h_=>h_.1))) (Kd.R_base ho0) hb);have n2_:=Aside0.mk (Kd.R_elder' (by (with_reducible repeat (first | apply Kd.R_alloc | apply Kd.R_drewN | apply Kd.R_drew));exact (Kd.R_mono (Kd.R_far (p:=⟨gb539,8,none⟩) (Kd.R_far (p:=⟨gb539,7,none⟩) (Kd.R_far (p:=⟨gb539,6,none⟩) (Kd.R_far (p:=⟨gb539,5,none⟩) (Kd.R_far (p:=⟨gb539,4,none⟩) (Kd.R_far (p:=⟨gb539,3,none⟩) (Kd.R_far (p:=⟨gb539,2,none⟩) (Kd.R_far (p:=⟨gb539,1,none⟩) (Kd.R_far (p:=⟨gb539,0,none⟩) (Kd.R_types HO512.out BK539.out (by decide)) (fun _ hk=>hk.2) (.int .i64 t522)) (fun _ hk=>hk.2) (.int .i64 t523)) (fun _ hk=>hk.2) (.slice Ao27 t524.length co27)) (fun _ hk=>hk.2) (.slice Ao28 t527.length co28)) (fun _ hk=>hk.2) (.int .i64 t530)) (fun _ hk=>hk.2) (.int .i64 t531)) (fun _ hk=>hk.2) (.slice Ao29 t532.length co29)) (fun _ hk=>hk.2) (.slice Ao30 t535.length co30)) (fun _ hk=>hk.2) (.int .i64 t538)) (fun _ h_=>h_.1))) (Kd.R_base ho0) hb);have n3_:=Aside0.mk (Kd.R_elder' (by (with_reducible repeat (first | apply Kd.R_alloc | apply Kd.R_drewN | apply Kd.R_drew));exact (Kd.R_mono (Kd.R_far (p:=⟨gb539,8,none⟩) (Kd.R_far (p:=⟨gb539,7,none⟩) (Kd.R_far (p:=⟨gb539,6,none⟩) (Kd.R_far (p:=⟨gb539,5,none⟩) (Kd.R_far (p:=⟨gb539,4,none⟩) (Kd.R_far (p:=⟨gb539,3,none⟩) (Kd.R_far (p:=⟨gb539,2,none⟩) (Kd.R_far (p:=⟨gb539,1,none⟩) (Kd.R_far (p:=⟨gb539,0,none⟩) (Kd.R_types HO515.out BK539.out (by decide)) (fun _ hk=>hk.2) (.int .i64 t522)) (fun _ hk=>hk.2) (.int .i64 t523)) (fun _ hk=>hk.2) (.slice Ao27 t524.length co27)) (fun _ hk=>hk.2) (.slice Ao28 t527.length co28)) (fun _ hk=>hk.2) (.int .i64 t530)) (fun _ hk=>hk.2) (.int .i64 t531)) (fun _ hk=>hk.2) (.slice Ao29 t532.length co29)) (fun _ hk=>hk.2) (.slice Ao30 t535.length co30)) (fun _ hk=>hk.2) (.int .i64 t538)) (fun _ h_=>h_.1))) (Kd.R_base ho0) hb);have n4_:=Aside0.mk (Kd.R_elder' (by (with_reducible repeat (first | apply Kd.R_alloc | apply Kd.R_drewN | apply Kd.R_drew));exact (Kd.R_mono (Kd.R_far (p:=⟨gb539,8,none⟩) (Kd.R_far (p:=⟨gb539,7,none⟩) (Kd.R_far (p:=⟨gb539,6,none⟩) (Kd.R_far (p:=⟨gb539,5,none⟩) (Kd.R_far (p:=⟨gb539,4,none⟩) (Kd.R_far (p:=⟨gb539,3,none⟩) (Kd.R_far (p:=⟨gb539,2,none⟩) (Kd.R_far (p:=⟨gb539,1,none⟩) (Kd.R_far (p:=⟨gb539,0,none⟩) (Kd.R_types HO519.out BK539.out (by decide)) (fun _ hk=>hk.2) (.int .i64 t522)) (fun _ hk=>hk.2) (.int .i64 t523)) (fun _ hk=>hk.2) (.slice Ao27 t524.length co27)) (fun _ hk=>hk.2) (.slice Ao28 t527.length co28)) (fun _ hk=>hk.2) (.int .i64 t530)) (fun _ hk=>hk.2) (.int .i64 t531)) (fun _ hk=>hk.2) (.slice Ao29 t532.length co29)) (fun _ hk=>hk.2) (.slice Ao30 t535.length co30)) (fun _ hk=>hk.2) (.int .i64 t538)) (fun _ h_=>h_.1))) (Kd.R_base ho0) hb);have n5_:=Aside0.mk (Kd.R_elder' (by (with_reducible repeat (first | apply Kd.R_alloc | apply Kd.R_drewN | apply Kd.R_drew));exact (Kd.R_mono (Kd.R_far (p:=⟨gb539,8,none⟩) (Kd.R_far (p:=⟨gb539,7,none⟩) (Kd.R_far (p:=⟨gb539,6,none⟩) (Kd.R_far (p:=⟨gb539,5,none⟩) (Kd.R_far (p:=⟨gb539,4,none⟩) (Kd.R_far (p:=⟨gb539,3,none⟩) (Kd.R_far (p:=⟨gb539,2,none⟩) (Kd.R_far (p:=⟨gb539,1,none⟩) (Kd.R_far (p:=⟨gb539,0,none⟩) (Kd.R_types HO526.out BK539.out (by decide)) (fun _ hk=>hk.2) (.int .i64 t522)) (fun _ hk=>hk.2) (.int .i64 t523)) (fun _ hk=>hk.2) (.slice Ao27 t524.length co27)) (fun _ hk=>hk.2) (.slice Ao28 t527.length co28)) (fun _ hk=>hk.2) (.int .i64 t530)) (fun _ hk=>hk.2) (.int .i64 t531)) (fun _ hk=>hk.2) (.slice Ao29 t532.length co29)) (fun _ hk=>hk.2) (.slice Ao30 t535.length co30)) (fun _ hk=>hk.2) (.int .i64 t538)) (fun _ h_=>h_.1))) (Kd.R_base ho0) hb);have n6_:=Aside0.mk (Kd.R_elder' (by (with_reducible repeat (first | apply Kd.R_alloc | apply Kd.R_drewN | apply Kd.R_drew));exact (Kd.R_mono (Kd.R_far (p:=⟨gb539,8,none⟩) (Kd.R_far (p:=⟨gb539,7,none⟩) (Kd.R_far (p:=⟨gb539,6,none⟩) (Kd.R_far (p:=⟨gb539,5,none⟩) (Kd.R_far (p:=⟨gb539,4,none⟩) (Kd.R_far (p:=⟨gb539,3,none⟩) (Kd.R_far (p:=⟨gb539,2,none⟩) (Kd.R_far (p:=⟨gb539,1,none⟩) (Kd.R_far (p:=⟨gb539,0,none⟩) (Kd.R_types HO529.out BK539.out (by decide)) (fun _ hk=>hk.2) (.int .i64 t522)) (fun _ hk=>hk.2) (.int .i64 t523)) (fun _ hk=>hk.2) (.slice Ao27 t524.length co27)) (fun _ hk=>hk.2) (.slice Ao28 t527.length co28)) (fun _ hk=>hk.2) (.int .i64 t530)) (fun _ hk=>hk.2) (.int .i64 t531)) (fun _ hk=>hk.2) (.slice Ao29 t532.length co29)) (fun _ hk=>hk.2) (.slice Ao30 t535.length co30)) (fun _ hk=>hk.2) (.int .i64 t538)) (fun _ h_=>h_.1))) (Kd.R_base ho0) hb);have n7_:=Aside0.mk (Kd.R_elder' (by (with_reducible repeat (first | apply Kd.R_alloc | apply Kd.R_drewN | apply Kd.R_drew));exact (Kd.R_mono (Kd.R_far (p:=⟨gb539,8,none⟩) (Kd.R_far (p:=⟨gb539,7,none⟩) (Kd.R_far (p:=⟨gb539,6,none⟩) (Kd.R_far (p:=⟨gb539,5,none⟩) (Kd.R_far (p:=⟨gb539,4,none⟩) (Kd.R_far (p:=⟨gb539,3,none⟩) (Kd.R_far (p:=⟨gb539,2,none⟩) (Kd.R_far (p:=⟨gb539,1,none⟩) (Kd.R_far (p:=⟨gb539,0,none⟩) (Kd.R_types HO534.out BK539.out (by decide)) (fun _ hk=>hk.2) (.int .i64 t522)) (fun _ hk=>hk.2) (.int .i64 t523)) (fun _ hk=>hk.2) (.slice Ao27 t524.length co27)) (fun _ hk=>hk.2) (.slice Ao28 t527.length co28)) (fun _ hk=>hk.2) (.int .i64 t530)) (fun _ hk=>hk.2) (.int .i64 t531)) (fun _ hk=>hk.2) (.slice Ao29 t532.length co29)) (fun _ hk=>hk.2) (.slice Ao30 t535.length co30)) (fun _ hk=>hk.2) (.int .i64 t538)) (fun _ h_=>h_.1))) (Kd.R_base ho0) hb);have n8_:=Aside0.mk (Kd.R_elder' (by (with_reducible repeat (first | apply Kd.R_alloc | apply Kd.R_drewN | apply Kd.R_drew));exact (Kd.R_mono (Kd.R_far (p:=⟨gb539,8,none⟩) (Kd.R_far (p:=⟨gb539,7,none⟩) (Kd.R_far (p:=⟨gb539,6,none⟩) (Kd.R_far (p:=⟨gb539,5,none⟩) (Kd.R_far (p:=⟨gb539,4,none⟩) (Kd.R_far (p:=⟨gb539,3,none⟩) (Kd.R_far (p:=⟨gb539,2,none⟩) (Kd.R_far (p:=⟨gb539,1,none⟩) (Kd.R_far (p:=⟨gb539,0,none⟩) (Kd.R_types HO537.out BK539.out (by decide)) (fun _ hk=>hk.2) (.int .i64 t522)) (fun _ hk=>hk.2) (.int .i64 t523)) (fun _ hk=>hk.2) (.slice Ao27 t524.length co27)) (fun _ hk=>hk.2) (.slice Ao28 t527.length co28)) (fun _ hk=>hk.2) (.int .i64 t530)) (fun _ hk=>hk.2) (.int .i64 t531)) (fun _ hk=>hk.2) (.slice Ao29 t532.length co29)) (fun _ hk=>hk.2) (.slice Ao30 t535.length co30)) (fun _ hk=>hk.2) (.int .i64 t538)) (fun _ h_=>h_.1))) (Kd.R_base ho0) hb);have n9_:=Aside0.mk (Kd.R_lower (Kd.R_new' (Kd.R_new' (Kd.R_new' (Kd.R_new' (Kd.R_new' (Kd.R_new' (Kd.R_new' (Kd.R_new' (Kd.R_new' ho0 (Kd.R_lt (by (with_reducible repeat (first | apply Kd.R_alloc | apply Kd.R_drewN | apply Kd.R_drew));exact (Kd.R_mono (Kd.R_far (p:=⟨gb539,8,none⟩) (Kd.R_far (p:=⟨gb539,7,none⟩) (Kd.R_far (p:=⟨gb539,6,none⟩) (Kd.R_far (p:=⟨gb539,5,none⟩) (Kd.R_far (p:=⟨gb539,4,none⟩) (Kd.R_far (p:=⟨gb539,3,none⟩) (Kd.R_far (p:=⟨gb539,2,none⟩) (Kd.R_far (p:=⟨gb539,1,none⟩) (Kd.R_far (p:=⟨gb539,0,none⟩) (Kd.R_types HO504.out BK539.out (by decide)) (fun _ hk=>hk.2) (.int .i64 t522)) (fun _ hk=>hk.2) (.int .i64 t523)) (fun _ hk=>hk.2) (.slice Ao27 t524.length co27)) (fun _ hk=>hk.2) (.slice Ao28 t527.length co28)) (fun _ hk=>hk.2) (.int .i64 t530)) (fun _ hk=>hk.2) (.int .i64 t531)) (fun _ hk=>hk.2) (.slice Ao29 t532.length co29)) (fun _ hk=>hk.2) (.slice Ao30 t535.length co30)) (fun _ hk=>hk.2) (.int .i64 t538)) (fun _ h_=>h_.1))))) (Kd.R_lt (by (with_reducible repeat (first | apply Kd.R_alloc | apply Kd.R_drewN | apply Kd.R_drew));exact (Kd.R_mono (Kd.R_far (p:=⟨gb539,8,none⟩) (Kd.R_far (p:=⟨gb539,7,none⟩) (Kd.R_far (p:=⟨gb539,6,none⟩) (Kd.R_far (p:=⟨gb539,5,none⟩) (Kd.R_far (p:=⟨gb539,4,none⟩) (Kd.R_far (p:=⟨gb539,3,none⟩) (Kd.R_far (p:=⟨gb539,2,none⟩) (Kd.R_far (p:=⟨gb539,1,none⟩) (Kd.R_far (p:=⟨gb539,0,none⟩) (Kd.R_types HO507.out BK539.out (by decide)) (fun _ hk=>hk.2) (.int .i64 t522)) (fun _ hk=>hk.2) (.int .i64 t523)) (fun _ hk=>hk.2) (.slice Ao27 t524.length co27)) (fun _ hk=>hk.2) (.slice Ao28 t527.length co28)) (fun _ hk=>hk.2) (.int .i64 t530)) (fun _ hk=>hk.2) (.int .i64 t531)) (fun _ hk=>hk.2) (.slice Ao29 t532.length co29)) (fun _ hk=>hk.2) (.slice Ao30 t535.length co30)) (fun _ hk=>hk.2) (.int .i64 t538)) (fun _ h_=>h_.1))))) (Kd.R_lt (by (with_reducible repeat (first | apply Kd.R_alloc | apply Kd.R_drewN | apply Kd.R_drew));exact (Kd.R_mono (Kd.R_far (p:=⟨gb539,8,none⟩) (Kd.R_far (p:=⟨gb539,7,none⟩) (Kd.R_far (p:=⟨gb539,6,none⟩) (Kd.R_far (p:=⟨gb539,5,none⟩) (Kd.R_far (p:=⟨gb539,4,none⟩) (Kd.R_far (p:=⟨gb539,3,none⟩) (Kd.R_far (p:=⟨gb539,2,none⟩) (Kd.R_far (p:=⟨gb539,1,none⟩) (Kd.R_far (p:=⟨gb539,0,none⟩) (Kd.R_types HO512.out BK539.out (by decide)) (fun _ hk=>hk.2) (.int .i64 t522)) (fun _ hk=>hk.2) (.int .i64 t523)) (fun _ hk=>hk.2) (.slice Ao27 t524.length co27)) (fun _ hk=>hk.2) (.slice Ao28 t527.length co28)) (fun _ hk=>hk.2) (.int .i64 t530)) (fun _ hk=>hk.2) (.int .i64 t531)) (fun _ hk=>hk.2) (.slice Ao29 t532.length co29)) (fun _ hk=>hk.2) (.slice Ao30 t535.length co30)) (fun _ hk=>hk.2) (.int .i64 t538)) (fun _ h_=>h_.1))))) (Kd.R_lt (by (with_reducible repeat (first | apply Kd.R_alloc | apply Kd.R_drewN | apply Kd.R_drew));exact (Kd.R_mono (Kd.R_far (p:=⟨gb539,8,none⟩) (Kd.R_far (p:=⟨gb539,7,none⟩) (Kd.R_far (p:=⟨gb539,6,none⟩) (Kd.R_far (p:=⟨gb539,5,none⟩) (Kd.R_far (p:=⟨gb539,4,none⟩) (Kd.R_far (p:=⟨gb539,3,none⟩) (Kd.R_far (p:=⟨gb539,2,none⟩) (Kd.R_far (p:=⟨gb539,1,none⟩) (Kd.R_far (p:=⟨gb539,0,none⟩) (Kd.R_types HO515.out BK539.out (by decide)) (fun _ hk=>hk.2) (.int .i64 t522)) (fun _ hk=>hk.2) (.int .i64 t523)) (fun _ hk=>hk.2) (.slice Ao27 t524.length co27)) (fun _ hk=>hk.2) (.slice Ao28 t527.length co28)) (fun _ hk=>hk.2) (.int .i64 t530)) (fun _ hk=>hk.2) (.int .i64 t531)) (fun _ hk=>hk.2) (.slice Ao29 t532.length co29)) (fun _ hk=>hk.2) (.slice Ao30 t535.length co30)) (fun _ hk=>hk.2) (.int .i64 t538)) (fun _ h_=>h_.1))))) (Kd.R_lt (by (with_reducible repeat (first | apply Kd.R_alloc | apply Kd.R_drewN | apply Kd.R_drew));exact (Kd.R_mono (Kd.R_far (p:=⟨gb539,8,none⟩) (Kd.R_far (p:=⟨gb539,7,none⟩) (Kd.R_far (p:=⟨gb539,6,none⟩) (Kd.R_far (p:=⟨gb539,5,none⟩) (Kd.R_far (p:=⟨gb539,4,none⟩) (Kd.R_far (p:=⟨gb539,3,none⟩) (Kd.R_far (p:=⟨gb539,2,none⟩) (Kd.R_far (p:=⟨gb539,1,none⟩) (Kd.R_far (p:=⟨gb539,0,none⟩) (Kd.R_types HO519.out BK539.out (by decide)) (fun _ hk=>hk.2) (.int .i64 t522)) (fun _ hk=>hk.2) (.int .i64 t523)) (fun _ hk=>hk.2) (.slice Ao27 t524.length co27)) (fun _ hk=>hk.2) (.slice Ao28 t527.length co28)) (fun _ hk=>hk.2) (.int .i64 t530)) (fun _ hk=>hk.2) (.int .i64 t531)) (fun _ hk=>hk.2) (.slice Ao29 t532.length co29)) (fun _ hk=>hk.2) (.slice Ao30 t535.length co30)) (fun _ hk=>hk.2) (.int .i64 t538)) (fun _ h_=>h_.1))))) (Kd.R_lt (by (with_reducible repeat (first | apply Kd.R_alloc | apply Kd.R_drewN | apply Kd.R_drew));exact (Kd.R_mono (Kd.R_far (p:=⟨gb539,8,none⟩) (Kd.R_far (p:=⟨gb539,7,none⟩) (Kd.R_far (p:=⟨gb539,6,none⟩) (Kd.R_far (p:=⟨gb539,5,none⟩) (Kd.R_far (p:=⟨gb539,4,none⟩) (Kd.R_far (p:=⟨gb539,3,none⟩) (Kd.R_far (p:=⟨gb539,2,none⟩) (Kd.R_far (p:=⟨gb539,1,none⟩) (Kd.R_far (p:=⟨gb539,0,none⟩) (Kd.R_types HO526.out BK539.out (by decide)) (fun _ hk=>hk.2) (.int .i64 t522)) (fun _ hk=>hk.2) (.int .i64 t523)) (fun _ hk=>hk.2) (.slice Ao27 t524.length co27)) (fun _ hk=>hk.2) (.slice Ao28 t527.length co28)) (fun _ hk=>hk.2) (.int .i64 t530)) (fun _ hk=>hk.2) (.int .i64 t531)) (fun _ hk=>hk.2) (.slice Ao29 t532.length co29)) (fun _ hk=>hk.2) (.slice Ao30 t535.length co30)) (fun _ hk=>hk.2) (.int .i64 t538)) (fun _ h_=>h_.1))))) (Kd.R_lt (by (with_reducible repeat (first | apply Kd.R_alloc | apply Kd.R_drewN | apply Kd.R_drew));exact (Kd.R_mono (Kd.R_far (p:=⟨gb539,8,none⟩) (Kd.R_far (p:=⟨gb539,7,none⟩) (Kd.R_far (p:=⟨gb539,6,none⟩) (Kd.R_far (p:=⟨gb539,5,none⟩) (Kd.R_far (p:=⟨gb539,4,none⟩) (Kd.R_far (p:=⟨gb539,3,none⟩) (Kd.R_far (p:=⟨gb539,2,none⟩) (Kd.R_far (p:=⟨gb539,1,none⟩) (Kd.R_far (p:=⟨gb539,0,none⟩) (Kd.R_types HO529.out BK539.out (by decide)) (fun _ hk=>hk.2) (.int .i64 t522)) (fun _ hk=>hk.2) (.int .i64 t523)) (fun _ hk=>hk.2) (.slice Ao27 t524.length co27)) (fun _ hk=>hk.2) (.slice Ao28 t527.length co28)) (fun _ hk=>hk.2) (.int .i64 t530)) (fun _ hk=>hk.2) (.int .i64 t531)) (fun _ hk=>hk.2) (.slice Ao29 t532.length co29)) (fun _ hk=>hk.2) (.slice Ao30 t535.length co30)) (fun _ hk=>hk.2) (.int .i64 t538)) (fun _ h_=>h_.1))))) (Kd.R_lt (by (with_reducible repeat (first | apply Kd.R_alloc | apply Kd.R_drewN | apply Kd.R_drew));exact (Kd.R_mono (Kd.R_far (p:=⟨gb539,8,none⟩) (Kd.R_far (p:=⟨gb539,7,none⟩) (Kd.R_far (p:=⟨gb539,6,none⟩) (Kd.R_far (p:=⟨gb539,5,none⟩) (Kd.R_far (p:=⟨gb539,4,none⟩) (Kd.R_far (p:=⟨gb539,3,none⟩) (Kd.R_far (p:=⟨gb539,2,none⟩) (Kd.R_far (p:=⟨gb539,1,none⟩) (Kd.R_far (p:=⟨gb539,0,none⟩) (Kd.R_types HO534.out BK539.out (by decide)) (fun _ hk=>hk.2) (.int .i64 t522)) (fun _ hk=>hk.2) (.int .i64 t523)) (fun _ hk=>hk.2) (.slice Ao27 t524.length co27)) (fun _ hk=>hk.2) (.slice Ao28 t527.length co28)) (fun _ hk=>hk.2) (.int .i64 t530)) (fun _ hk=>hk.2) (.int .i64 t531)) (fun _ hk=>hk.2) (.slice Ao29 t532.length co29)) (fun _ hk=>hk.2) (.slice Ao30 t535.length co30)) (fun _ hk=>hk.2) (.int .i64 t538)) (fun _ h_=>h_.1))))) (Kd.R_lt (by (with_reducible repeat (first | apply Kd.R_alloc | apply Kd.R_drewN | apply Kd.R_drew));exact (Kd.R_mono (Kd.R_far (p:=⟨gb539,8,none⟩) (Kd.R_far (p:=⟨gb539,7,none⟩) (Kd.R_far (p:=⟨gb539,6,none⟩) (Kd.R_far (p:=⟨gb539,5,none⟩) (Kd.R_far (p:=⟨gb539,4,none⟩) (Kd.R_far (p:=⟨gb539,3,none⟩) (Kd.R_far (p:=⟨gb539,2,none⟩) (Kd.R_far (p:=⟨gb539,1,none⟩) (Kd.R_far (p:=⟨gb539,0,none⟩) (Kd.R_types HO537.out BK539.out (by decide)) (fun _ hk=>hk.2) (.int .i64 t522)) (fun _ hk=>hk.2) (.int .i64 t523)) (fun _ hk=>hk.2) (.slice Ao27 t524.length co27)) (fun _ hk=>hk.2) (.slice Ao28 t527.length co28)) (fun _ hk=>hk.2) (.int .i64 t530)) (fun _ hk=>hk.2) (.int .i64 t531)) (fun _ hk=>hk.2) (.slice Ao29 t532.length co29)) (fun _ hk=>hk.2) (.slice Ao30 t535.length co30)) (fun _ hk=>hk.2) (.int .i64 t538)) (fun _ h_=>h_.1))))) (zal (by repeat (first | (with_reducible first | exact HB.out | apply zae | apply zac | apply zaf | refine zag ?_ GE498.out | refine zag ?_ GE539.out) | exact HB.out))));have n10_:=Aside0.mk (zap (g:=gb498) (o:=.cells #[.int .i64 a0_0,.int .i64 a0_1,.slice A0_2 l0_2.length c0_2,.slice A0_3 l0_3.length c0_3,.int .i64 a0_4,.int .i64 a0_5,.slice A0_6 l0_6.length c0_6,.slice A0_7 l0_7.length c0_7,.int .i64 a0_8] 48 (0,0)) (by (with_reducible repeat (first | refine zai ?_ _ | refine zak ?_ | refine zah ?_ _));refine zaH ?_ NB498_539.out _;(with_reducible repeat (first | refine zai ?_ _ | refine zak ?_ | refine zah ?_ _));refine zaH ?_ NB498_539.out _;(with_reducible repeat (first | refine zai ?_ _ | refine zak ?_ | refine zah ?_ _));refine zaH ?_ NB498_539.out _;(with_reducible repeat (first | refine zai ?_ _ | refine zak ?_ | refine zah ?_ _));refine zaH ?_ NB498_539.out _;(with_reducible repeat (first | refine zai ?_ _ | refine zak ?_ | refine zah ?_ _));refine zaH ?_ NB498_539.out _;(with_reducible repeat (first | refine zai ?_ _ | refine zak ?_ | refine zah ?_ _));refine zaH ?_ NB498_539.out _;(with_reducible repeat (first | refine zai ?_ _ | refine zak ?_ | refine zah ?_ _));refine zaH ?_ NB498_539.out _;(with_reducible repeat (first | refine zai ?_ _ | refine zak ?_ | refine zah ?_ _));refine zaH ?_ NB498_539.out _;(with_reducible repeat (first | refine zai ?_ _ | refine zak ?_ | refine zah ?_ _));refine zaH ?_ NB498_539.out _;(with_reducible repeat (first | refine zai ?_ _ | refine zak ?_ | refine zah ?_ _));exact BK498.out) hb);have n11_:=Aside0.mk (zap (g:=gb539) (o:=.cells #[.int .i64 t522,.int .i64 t523,.slice Ao27 t524.length co27,.slice Ao28 t527.length co28,.int .i64 t530,.int .i64 t531,.slice Ao29 t532.length co29,.slice Ao30 t535.length co30,.int .i64 t538] 38 (0,0)) (by (with_reducible repeat (first | refine zai ?_ _ | refine zak ?_ | refine zah ?_ _));refine zaI (cs:=#[.int .i64 t522,.int .i64 t523,.slice Ao27 t524.length co27,.slice Ao28 t527.length co28,.int .i64 t530,.int .i64 t531,.slice Ao29 t532.length co29,.slice Ao30 t535.length co30,.int .i64 0]) ?_ 8 _ rfl;(with_reducible repeat (first | refine zai ?_ _ | refine zak ?_ | refine zah ?_ _));refine zaI (cs:=#[.int .i64 t522,.int .i64 t523,.slice Ao27 t524.length co27,.slice Ao28 t527.length co28,.int .i64 t530,.int .i64 t531,.slice Ao29 t532.length co29,.slice none 0 0,.int .i64 0]) ?_ 7 _ rfl;(with_reducible repeat (first | refine zai ?_ _ | refine zak ?_ | refine zah ?_ _));refine zaI (cs:=#[.int .i64 t522,.int .i64 t523,.slice Ao27 t524.length co27,.slice Ao28 t527.length co28,.int .i64 t530,.int .i64 t531,.slice none 0 0,.slice none 0 0,.int .i64 0]) ?_ 6 _ rfl;(with_reducible repeat (first | refine zai ?_ _ | refine zak ?_ | refine zah ?_ _));refine zaI (cs:=#[.int .i64 t522,.int .i64 t523,.slice Ao27 t524.length co27,.slice Ao28 t527.length co28,.int .i64 t530,.int .i64 0,.slice none 0 0,.slice none 0 0,.int .i64 0]) ?_ 5 _ rfl;(with_reducible repeat (first | refine zai ?_ _ | refine zak ?_ | refine zah ?_ _));refine zaI (cs:=#[.int .i64 t522,.int .i64 t523,.slice Ao27 t524.length co27,.slice Ao28 t527.length co28,.int .i64 0,.int .i64 0,.slice none 0 0,.slice none 0 0,.int .i64 0]) ?_ 4 _ rfl;(with_reducible repeat (first | refine zai ?_ _ | refine zak ?_ | refine zah ?_ _));refine zaI (cs:=#[.int .i64 t522,.int .i64 t523,.slice Ao27 t524.length co27,.slice none 0 0,.int .i64 0,.int .i64 0,.slice none 0 0,.slice none 0 0,.int .i64 0]) ?_ 3 _ rfl;(with_reducible repeat (first | refine zai ?_ _ | refine zak ?_ | refine zah ?_ _));refine zaI (cs:=#[.int .i64 t522,.int .i64 t523,.slice none 0 0,.slice none 0 0,.int .i64 0,.int .i64 0,.slice none 0 0,.slice none 0 0,.int .i64 0]) ?_ 2 _ rfl;(with_reducible repeat (first | refine zai ?_ _ | refine zak ?_ | refine zah ?_ _));refine zaI (cs:=#[.int .i64 t522,.int .i64 0,.slice none 0 0,.slice none 0 0,.int .i64 0,.int .i64 0,.slice none 0 0,.slice none 0 0,.int .i64 0]) ?_ 1 _ rfl;(with_reducible repeat (first | refine zai ?_ _ | refine zak ?_ | refine zah ?_ _));refine zaI (cs:=#[.int .i64 0,.int .i64 0,.slice none 0 0,.slice none 0 0,.int .i64 0,.int .i64 0,.slice none 0 0,.slice none 0 0,.int .i64 0]) ?_ 0 _ rfl;(with_reducible repeat (first | refine zai ?_ _ | refine zak ?_ | refine zah ?_ _));exact BK539.out) hb);have n12_:=Aside0.mk (zao (by repeat (first | (with_reducible first | exact HB.out | apply zae | apply zac | apply zaf | refine zag ?_ GE498.out | refine zag ?_ GE539.out) | exact HB.out)) hb);clear HO504;clear HO507;clear HO512;clear HO515;clear HO519;clear HO526;clear HO529;clear HO534;clear HO537;clear BK498;clear BK539;clear HB;have HO504:=n0_;have HO507:=n1_;have HO512:=n2_;have HO515:=n3_;have HO519:=n4_;have HO526:=n5_;have HO529:=n6_;have HO534:=n7_;have HO537:=n8_;have HO542:=n9_;have BK498:=n10_;have BK539:=n11_;have HB:=n12_;clear n0_ n1_ n2_ n3_ n4_ n5_ n6_ n7_ n8_ n9_ n10_ n11_ n12_;(try clear hb);(try clear hb2);(try clear hk);(try clear hi);(try clear ho0)))
  (try simp only [Act.put,List.setIfInBounds_toArray,List.set_cons_zero,List.set_cons_succ])
  go_cut [50] (fun v50 wc=>∃ (kq:Nat) (x50_10:Bool),v50 = .bool x50_10∧Aside0 (laws_FnExactBatchTell.j0 kq t517 t520 t521 t540 t543 t544 x50_10 a0_0 a0_1 l0_2 l0_3 a0_4 a0_5 l0_6 l0_7 a0_8 t522 t523 t524 t527 t530 t531 t532 t535 t538=some r)∧Aside0 (kq≤k)∧Aside0 (Kd.R (Kd.int .i64) 3 wc w.heap.size (fun k_=>some k_≠(v541:Value).ownBlock∧some k_≠((.slice Ao27 t524.length co27):Value).ownBlock∧some k_≠((.slice Ao28 t527.length co28):Value).ownBlock∧some k_≠((.slice Ao29 t532.length co29):Value).ownBlock∧some k_≠((.slice Ao30 t535.length co30):Value).ownBlock) v518 t517)∧Aside0 (Kd.R (Kd.int .i64) 3 wc w.heap.size (fun k_=>some k_≠(v518:Value).ownBlock∧some k_≠((.slice Ao27 t524.length co27):Value).ownBlock∧some k_≠((.slice Ao28 t527.length co28):Value).ownBlock∧some k_≠((.slice Ao29 t532.length co29):Value).ownBlock∧some k_≠((.slice Ao30 t535.length co30):Value).ownBlock) v541 t540)∧Aside0 (Kd.R (Kd.int .i64) 3 wc w.heap.size (fun k_=>some k_≠(v518:Value).ownBlock∧some k_≠(v541:Value).ownBlock∧some k_≠((.slice Ao28 t527.length co28):Value).ownBlock∧some k_≠((.slice Ao29 t532.length co29):Value).ownBlock∧some k_≠((.slice Ao30 t535.length co30):Value).ownBlock) (.slice Ao27 t524.length co27) t524)∧Aside0 (Kd.R (Kd.int .i64) 3 wc w.heap.size (fun k_=>some k_≠(v518:Value).ownBlock∧some k_≠(v541:Value).ownBlock∧some k_≠((.slice Ao27 t524.length co27):Value).ownBlock∧some k_≠((.slice Ao29 t532.length co29):Value).ownBlock∧some k_≠((.slice Ao30 t535.length co30):Value).ownBlock) (.slice Ao28 t527.length co28) t527)∧Aside0 (Kd.R (Kd.int .i64) 3 wc w.heap.size (fun k_=>some k_≠(v518:Value).ownBlock∧some k_≠(v541:Value).ownBlock∧some k_≠((.slice Ao27 t524.length co27):Value).ownBlock∧some k_≠((.slice Ao28 t527.length co28):Value).ownBlock∧some k_≠((.slice Ao30 t535.length co30):Value).ownBlock) (.slice Ao29 t532.length co29) t532)∧Aside0 (Kd.R (Kd.int .i64) 3 wc w.heap.size (fun k_=>some k_≠(v518:Value).ownBlock∧some k_≠(v541:Value).ownBlock∧some k_≠((.slice Ao27 t524.length co27):Value).ownBlock∧some k_≠((.slice Ao28 t527.length co28):Value).ownBlock∧some k_≠((.slice Ao29 t532.length co29):Value).ownBlock) (.slice Ao30 t535.length co30) t535)∧Aside0 (wc.heap[gb498]? = some (.cells #[.int .i64 a0_0,.int .i64 a0_1,(.slice A0_2 l0_2.length c0_2),(.slice A0_3 l0_3.length c0_3),.int .i64 a0_4,.int .i64 a0_5,(.slice A0_6 l0_6.length c0_6),(.slice A0_7 l0_7.length c0_7),.int .i64 a0_8] 48 (0,0)))∧Aside0 (wc.heap[gb539]? = some (.cells #[.int .i64 t522,.int .i64 t523,(.slice Ao27 t524.length co27),(.slice Ao28 t527.length co28),.int .i64 t530,.int .i64 t531,(.slice Ao29 t532.length co29),(.slice Ao30 t535.length co30),.int .i64 t538] 38 (0,0)))∧Aside0 (Below w.heap.size w wc))
  case first=>
   have H:=HC11.out
   clear HC11
   replace H:=bnd H
   obtain ⟨t545,A32,H⟩:=H
   by_cases c33:t545=true
   ·subst c33
    rw [if_pos rfl] at H
    by_cases c34:t543=t520
    ·rw [if_pos c34] at H
     have c34b0:(t543 == t520)=true:=beq_iff_eq.mpr c34
     have c34b1:(t543 != t520)=false:=bne_eq_false_iff_eq.mpr c34
     clear c34
     (first | rw [c34b0] | (simp only [i64_w,i32_w];rw [c34b0]) | skip)
     have H':=Aside0.mk H
     clear H
     obtain ⟨Ao35,co35,eo35⟩:=Kd.R_slice HO542.out
     subst eo35
     obtain ⟨Ao36,co36,eo36⟩:=Kd.R_slice HO519.out
     subst eo36
     go_wp2_with (first | ((with_reducible refine zaj (f:=25) rfl ?_);refine zaB (some 39) Tru.func25 #[.slice Ao35 t540.length co35,.slice Ao36 t517.length co36] ?_;(with_reducible refine (laws_eqIntS.calls k _ _ t540 _ _ t517 true _ ?side1 ?side2 ?side3 ?side4 A32.out).mono ?_);(case side1=>exact (Kd.R_reads' HO542.out).2.2);(case side2=>exact (Kd.R_reads' HO542.out).2.1);(case side3=>exact (Kd.R_reads' HO519.out).2.2);(case side4=>exact (Kd.R_reads' HO519.out).2.1);rintro e w' ⟨rfl,⟨nd,rfl⟩⟩;refine ⟨_,rfl,?_⟩))
     go_meet
     case rel=>exact ⟨_,((t544 != t521)),rfl,H',⟨by first | omega | exact Nat.le_refl _⟩,⟨Kd.R_mono HO519.out (fun _ hk=>⟨hk.2,⟨hk.1.1.1.1.2,⟨hk.1.1.1.2,⟨hk.1.1.2,hk.1.2⟩⟩⟩⟩)⟩,⟨Kd.R_mono HO542.out (fun _ hk=>⟨hk.1.1.1.1.2,⟨hk.1.1.1.2,⟨hk.1.1.2,⟨hk.1.2,hk.2⟩⟩⟩⟩)⟩,⟨Kd.R_mono HO526.out (fun _ hk=>⟨hk.1.2,⟨hk.2,⟨hk.1.1.1.1.1.1.1,⟨hk.1.1.1.1.1.1.2.1,hk.1.1.1.1.1.1.2.2⟩⟩⟩⟩)⟩,⟨Kd.R_mono HO529.out (fun _ hk=>⟨hk.1.2,⟨hk.2,⟨hk.1.1.1.1.1.1.1,⟨hk.1.1.1.1.1.1.2.1,hk.1.1.1.1.1.1.2.2⟩⟩⟩⟩)⟩,⟨Kd.R_mono HO534.out (fun _ hk=>⟨hk.1.2,⟨hk.2,⟨hk.1.1.1.1.1.1.1,⟨hk.1.1.1.1.1.1.2.1,hk.1.1.1.1.1.1.2.2⟩⟩⟩⟩)⟩,⟨Kd.R_mono HO537.out (fun _ hk=>⟨hk.1.2,⟨hk.2,⟨hk.1.1.1.1.1.1.1,⟨hk.1.1.1.1.1.1.2.1,hk.1.1.1.1.1.1.2.2⟩⟩⟩⟩)⟩,⟨by (with_reducible repeat (first | refine zai ?_ _ | refine zak ?_ | refine zah ?_ _));exact BK498.out⟩,⟨by (with_reducible repeat (first | refine zai ?_ _ | refine zak ?_ | refine zah ?_ _));exact BK539.out⟩,⟨by repeat (first | (with_reducible first | exact HB.out | apply zae | apply zac | apply zaf | refine zag ?_ GE498.out | refine zag ?_ GE539.out) | exact HB.out)⟩⟩
    ·rw [if_neg c34] at H
     have c34b0:(t543 == t520)=false:=beq_eq_false_iff_ne.mpr c34
     have c34b1:(t543 != t520)=true:=bne_iff_ne.mpr c34
     (first | rw [c34b0] | (simp only [i64_w,i32_w];rw [c34b0]) | skip)
     have H':=Aside0.mk H
     clear H
     obtain ⟨Ao37,co37,eo37⟩:=Kd.R_slice HO542.out
     subst eo37
     obtain ⟨Ao38,co38,eo38⟩:=Kd.R_slice HO519.out
     subst eo38
     go_wp2_with (first | ((with_reducible refine zaj (f:=25) rfl ?_);refine zaB (some 39) Tru.func25 #[.slice Ao37 t540.length co37,.slice Ao38 t517.length co38] ?_;(with_reducible refine (laws_eqIntS.calls k _ _ t540 _ _ t517 true _ ?side1 ?side2 ?side3 ?side4 A32.out).mono ?_);(case side1=>exact (Kd.R_reads' HO542.out).2.2);(case side2=>exact (Kd.R_reads' HO542.out).2.1);(case side3=>exact (Kd.R_reads' HO519.out).2.2);(case side4=>exact (Kd.R_reads' HO519.out).2.1);rintro e w' ⟨rfl,⟨nd,rfl⟩⟩;refine ⟨_,rfl,?_⟩))
     go_meet
     case rel=>exact ⟨_,(true),rfl,H',⟨by first | omega | exact Nat.le_refl _⟩,⟨Kd.R_mono HO519.out (fun _ hk=>⟨hk.2,⟨hk.1.1.1.1.2,⟨hk.1.1.1.2,⟨hk.1.1.2,hk.1.2⟩⟩⟩⟩)⟩,⟨Kd.R_mono HO542.out (fun _ hk=>⟨hk.1.1.1.1.2,⟨hk.1.1.1.2,⟨hk.1.1.2,⟨hk.1.2,hk.2⟩⟩⟩⟩)⟩,⟨Kd.R_mono HO526.out (fun _ hk=>⟨hk.1.2,⟨hk.2,⟨hk.1.1.1.1.1.1.1,⟨hk.1.1.1.1.1.1.2.1,hk.1.1.1.1.1.1.2.2⟩⟩⟩⟩)⟩,⟨Kd.R_mono HO529.out (fun _ hk=>⟨hk.1.2,⟨hk.2,⟨hk.1.1.1.1.1.1.1,⟨hk.1.1.1.1.1.1.2.1,hk.1.1.1.1.1.1.2.2⟩⟩⟩⟩)⟩,⟨Kd.R_mono HO534.out (fun _ hk=>⟨hk.1.2,⟨hk.2,⟨hk.1.1.1.1.1.1.1,⟨hk.1.1.1.1.1.1.2.1,hk.1.1.1.1.1.1.2.2⟩⟩⟩⟩)⟩,⟨Kd.R_mono HO537.out (fun _ hk=>⟨hk.1.2,⟨hk.2,⟨hk.1.1.1.1.1.1.1,⟨hk.1.1.1.1.1.1.2.1,hk.1.1.1.1.1.1.2.2⟩⟩⟩⟩)⟩,⟨by (with_reducible repeat (first | refine zai ?_ _ | refine zak ?_ | refine zah ?_ _));exact BK498.out⟩,⟨by (with_reducible repeat (first | refine zai ?_ _ | refine zak ?_ | refine zah ?_ _));exact BK539.out⟩,⟨by repeat (first | (with_reducible first | exact HB.out | apply zae | apply zac | apply zaf | refine zag ?_ GE498.out | refine zag ?_ GE539.out) | exact HB.out)⟩⟩
   ·replace c33:=Bool.eq_false_iff.mpr c33
    subst c33
    rw [if_neg (show ¬ (false=true) by decide)] at H
    have H':=Aside0.mk H
    clear H
    obtain ⟨Ao39,co39,eo39⟩:=Kd.R_slice HO542.out
    subst eo39
    obtain ⟨Ao40,co40,eo40⟩:=Kd.R_slice HO519.out
    subst eo40
    go_wp2_with (first | ((with_reducible refine zaj (f:=25) rfl ?_);refine zaB (some 39) Tru.func25 #[.slice Ao39 t540.length co39,.slice Ao40 t517.length co40] ?_;(with_reducible refine (laws_eqIntS.calls k _ _ t540 _ _ t517 false _ ?side1 ?side2 ?side3 ?side4 A32.out).mono ?_);(case side1=>exact (Kd.R_reads' HO542.out).2.2);(case side2=>exact (Kd.R_reads' HO542.out).2.1);(case side3=>exact (Kd.R_reads' HO519.out).2.2);(case side4=>exact (Kd.R_reads' HO519.out).2.1);rintro e w' ⟨rfl,⟨nd,rfl⟩⟩;refine ⟨_,rfl,?_⟩))
    go_meet
    case rel=>exact ⟨_,(true),rfl,H',⟨by first | omega | exact Nat.le_refl _⟩,⟨Kd.R_mono HO519.out (fun _ hk=>⟨hk.2,⟨hk.1.1.1.1.2,⟨hk.1.1.1.2,⟨hk.1.1.2,hk.1.2⟩⟩⟩⟩)⟩,⟨Kd.R_mono HO542.out (fun _ hk=>⟨hk.1.1.1.1.2,⟨hk.1.1.1.2,⟨hk.1.1.2,⟨hk.1.2,hk.2⟩⟩⟩⟩)⟩,⟨Kd.R_mono HO526.out (fun _ hk=>⟨hk.1.2,⟨hk.2,⟨hk.1.1.1.1.1.1.1,⟨hk.1.1.1.1.1.1.2.1,hk.1.1.1.1.1.1.2.2⟩⟩⟩⟩)⟩,⟨Kd.R_mono HO529.out (fun _ hk=>⟨hk.1.2,⟨hk.2,⟨hk.1.1.1.1.1.1.1,⟨hk.1.1.1.1.1.1.2.1,hk.1.1.1.1.1.1.2.2⟩⟩⟩⟩)⟩,⟨Kd.R_mono HO534.out (fun _ hk=>⟨hk.1.2,⟨hk.2,⟨hk.1.1.1.1.1.1.1,⟨hk.1.1.1.1.1.1.2.1,hk.1.1.1.1.1.1.2.2⟩⟩⟩⟩)⟩,⟨Kd.R_mono HO537.out (fun _ hk=>⟨hk.1.2,⟨hk.2,⟨hk.1.1.1.1.1.1.1,⟨hk.1.1.1.1.1.1.2.1,hk.1.1.1.1.1.1.2.2⟩⟩⟩⟩)⟩,⟨by (with_reducible repeat (first | refine zai ?_ _ | refine zak ?_ | refine zah ?_ _));exact BK498.out⟩,⟨by (with_reducible repeat (first | refine zai ?_ _ | refine zak ?_ | refine zah ?_ _));exact BK539.out⟩,⟨by repeat (first | (with_reducible first | exact HB.out | apply zae | apply zac | apply zaf | refine zag ?_ GE498.out | refine zag ?_ GE539.out) | exact HB.out)⟩⟩
  case rest=>
   clear HC11
   try clear c2
   try clear p2
   try clear c3
   try clear c3b0
   try clear c6
   try clear c20
   try clear c22
   try clear c23
   try clear c24
   try clear c25
   try clear c33
   try clear c34
   try clear c34b0
   try clear c34b1
   try clear hcz13_0
   try clear hcz13_1
   try clear hcz13_2
   try clear hcz13_3
   try clear hcz13_4
   try clear hcz13_5
   try clear hcz13_6
   try clear hcz13_7
   try clear hcz13_8
   try clear hcz15_0
   try clear hcz15_1
   try clear hcz15_2
   try clear hcz15_3
   try clear hcz15_4
   try clear hcz15_5
   try clear hcz15_6
   try clear hcz15_7
   try clear hcz15_8
   try clear hcz22_0
   try clear hcz22_1
   try clear hcz22_2
   try clear hcz22_3
   try clear hcz22_4
   try clear hcz22_5
   try clear hcz22_6
   try clear hcz22_7
   try clear hcz22_8
   try clear hcz26_0
   try clear hcz26_1
   try clear hcz26_2
   try clear hcz26_3
   try clear hcz26_4
   try clear hcz26_5
   try clear hcz26_6
   try clear hcz26_7
   try clear hcz26_8
   try clear hcz5_0
   try clear hcz5_1
   try clear hcz5_2
   try clear hcz5_3
   try clear hcz5_4
   try clear hcz5_5
   try clear hcz5_6
   try clear hcz5_7
   try clear hcz5_8
   try clear hfz13_0
   try clear hfz13_1
   try clear hfz13_2
   try clear hfz13_3
   try clear hfz13_4
   try clear hfz13_5
   try clear hfz13_6
   try clear hfz13_7
   try clear hfz13_8
   try clear hfz15_0
   try clear hfz15_1
   try clear hfz15_2
   try clear hfz15_3
   try clear hfz15_4
   try clear hfz15_5
   try clear hfz15_6
   try clear hfz15_7
   try clear hfz15_8
   try clear hfz22_0
   try clear hfz22_1
   try clear hfz22_2
   try clear hfz22_3
   try clear hfz22_4
   try clear hfz22_5
   try clear hfz22_6
   try clear hfz22_7
   try clear hfz22_8
   try clear hfz26_0
   try clear hfz26_1
   try clear hfz26_2
   try clear hfz26_3
   try clear hfz26_4
   try clear hfz26_5
   try clear hfz26_6
   try clear hfz26_7
   try clear hfz26_8
   try clear hfz5_0
   try clear hfz5_1
   try clear hfz5_2
   try clear hfz5_3
   try clear hfz5_4
   try clear hfz5_5
   try clear hfz5_6
   try clear hfz5_7
   try clear hfz5_8
   obtain ⟨kq,x50_10,rfl,HA,HJ10,HO_4,HO_8,HO_540002,HO_540003,HO_540006,HO_540007,BK498,BK539,HB⟩:=hcut
   cases kq with
   | zero=>exact absurd HA.out (by simp [laws_FnExactBatchTell.j0])
   | succ kj10=>
    have H:=HA.out
    clear HA
    simp only [laws_FnExactBatchTell.j0] at H
    by_cases c41:x50_10=true
    ·subst c41
     rw [if_pos rfl] at H
     exact absurd (Option.some.inj (H.trans (congrArg some HT0_.out))) (by decide)
    ·replace c41:=Bool.eq_false_iff.mpr c41
     subst c41
     rw [if_neg (show ¬ (false=true) by decide)] at H
     replace H:=bnd H
     obtain ⟨⟨t546,t547,t548,t551,t554,t555,t556,t559,t562⟩,A42,H⟩:=H
     dsimp only at H
     replace H:=bnd H
     obtain ⟨t563,A43,H⟩:=H
     by_cases c44:t563=true
     ·subst c44
      rw [if_pos rfl] at H
      replace H:=bnd H
      obtain ⟨⟨t564,t565,t566,t567,t568⟩,A45,H⟩:=H
      dsimp only at H
      have HC46:=Aside0.mk H
      clear H
      try go_wp2
      replace HO_4:=Aside0.mk (Kd.R_drew HO_4.out)
      replace HO_8:=Aside0.mk (Kd.R_drew HO_8.out)
      replace HO_540002:=Aside0.mk (Kd.R_drew HO_540002.out)
      replace HO_540003:=Aside0.mk (Kd.R_drew HO_540003.out)
      replace HO_540006:=Aside0.mk (Kd.R_drew HO_540006.out)
      replace HO_540007:=Aside0.mk (Kd.R_drew HO_540007.out)
      replace BK498:=Aside0.mk (zak BK498.out)
      replace BK539:=Aside0.mk (zak BK539.out)
      replace HB:=Aside0.mk (zaf HB.out)
      refine start_ (n:=5) (S:=fun w'=>w'.cell? ⟨gb539,0,none⟩=some (.int .i64 t522)∧w'.cell? ⟨gb539,1,none⟩=some (.int .i64 t523)∧w'.cell? ⟨gb539,2,none⟩=some (.slice Ao27 t524.length co27)∧w'.cell? ⟨gb539,3,none⟩=some (.slice Ao28 t527.length co28)∧w'.cell? ⟨gb539,4,none⟩=some (.int .i64 t530)∧w'.cell? ⟨gb539,5,none⟩=some (.int .i64 t531)∧w'.cell? ⟨gb539,6,none⟩=some (.slice Ao29 t532.length co29)∧w'.cell? ⟨gb539,7,none⟩=some (.slice Ao30 t535.length co30)∧w'.cell? ⟨gb539,8,none⟩=some (.int .i64 t538)∧w'.cell? ⟨gb498,0,none⟩=some (.int .i64 a0_0)∧w'.cell? ⟨gb498,1,none⟩=some (.int .i64 a0_1)∧w'.cell? ⟨gb498,2,none⟩=some (.slice A0_2 l0_2.length c0_2)∧w'.cell? ⟨gb498,3,none⟩=some (.slice A0_3 l0_3.length c0_3)∧w'.cell? ⟨gb498,4,none⟩=some (.int .i64 a0_4)∧w'.cell? ⟨gb498,5,none⟩=some (.int .i64 a0_5)∧w'.cell? ⟨gb498,6,none⟩=some (.slice A0_6 l0_6.length c0_6)∧w'.cell? ⟨gb498,7,none⟩=some (.slice A0_7 l0_7.length c0_7)∧w'.cell? ⟨gb498,8,none⟩=some (.int .i64 a0_8)) (ds:=[]) #[false,false,false,false,false] (by kernel_rfl) rfl rfl ⟨(zab BK539.out 0).trans rfl,(zab BK539.out 1).trans rfl,(zab BK539.out 2).trans rfl,(zab BK539.out 3).trans rfl,(zab BK539.out 4).trans rfl,(zab BK539.out 5).trans rfl,(zab BK539.out 6).trans rfl,(zab BK539.out 7).trans rfl,(zab BK539.out 8).trans rfl,(zab BK498.out 0).trans rfl,(zab BK498.out 1).trans rfl,(zab BK498.out 2).trans rfl,(zab BK498.out 3).trans rfl,(zab BK498.out 4).trans rfl,(zab BK498.out 5).trans rfl,(zab BK498.out 6).trans rfl,(zab BK498.out 7).trans rfl,(zab BK498.out 8).trans rfl⟩ (fun hHeld=>?_)
      generalize wc.drew=w47 at HO_4 HO_8 HO_540002 HO_540003 HO_540006 HO_540007 BK498 BK539 HB hHeld ⊢
      refine tZ 0 (some 51) #[true,false,false,false,false] rfl rfl (by kernel_rfl) hHeld (by rintro w' ⟨s0,s1,s2,s3,s4,s5,s6,s7,s8,s9,s10,s11,s12,s13,s14,s15,s16,s17⟩;go_simp;with_reducible rfl) ?_
      refine tZ 1 (some 52) #[true,true,false,false,false] rfl rfl (by kernel_rfl) hHeld (by rintro w' ⟨s0,s1,s2,s3,s4,s5,s6,s7,s8,s9,s10,s11,s12,s13,s14,s15,s16,s17⟩;go_simp;with_reducible rfl) ?_
      refine one_ (i:=2) (N:=some 53) #[true,true,true,false,false] rfl rfl (by kernel_rfl) (by decide) (fun K hK=>?_)
      refine goes_ Tru.func24 (by kernel_rfl) rfl #[.agg #[.int .i64 a0_0,.int .i64 a0_1,.slice A0_2 l0_2.length c0_2,.slice A0_3 l0_3.length c0_3,.int .i64 a0_4,.int .i64 a0_5,.slice A0_6 l0_6.length c0_6,.slice A0_7 l0_7.length c0_7,.int .i64 a0_8]] (by rfl) rfl rfl (by (try simp only [List.map_toArray,List.map_cons,List.map_nil]);first | done | rfl | (simp only [List.length_drop,List.length_take];rfl)) ?_
      with_reducible refine (laws_toBatch.calls kj10 a0_0 a0_1 _ _ l0_2 _ _ l0_3 a0_4 a0_5 _ _ l0_6 _ _ l0_7 a0_8 t546 t547 t548 t551 t554 t555 t556 t559 t562 _ ?side1 ?side2 ?side3 ?side4 ?side5 ?side6 ?side7 ?side8 A42.out).mono ?_
      (case side1=>exact (Kd.C_below HR0_2.out HB.out))
      (case side2=>exact HC0_2.out)
      (case side3=>exact (Kd.C_below HR0_3.out HB.out))
      (case side4=>exact HC0_3.out)
      (case side5=>exact (Kd.C_below HR0_6.out HB.out))
      (case side6=>exact HC0_6.out)
      (case side7=>exact (Kd.C_below HR0_7.out HB.out))
      (case side8=>exact HC0_7.out)
      rintro e w48 ⟨v549,v552,v557,v560,rfl,ho0,ho1,ho2,ho3,hb⟩
      refine ⟨_,rfl,?_⟩
      replace HO550:=Aside0.mk (Kd.R_lower (Kd.R_new' (Kd.R_new' (Kd.R_new' (Kd.R_new' (Kd.R_new' (Kd.R_new' ho0 (Kd.R_lt (HO_4.out))) (Kd.R_lt (HO_8.out))) (Kd.R_lt (HO_540002.out))) (Kd.R_lt (HO_540003.out))) (Kd.R_lt (HO_540006.out))) (Kd.R_lt (HO_540007.out))) (zal (by repeat (first | (with_reducible first | exact HB.out | apply zae | apply zac | apply zaf | refine zag ?_ GE498.out | refine zag ?_ GE539.out) | exact HB.out))))
      replace HO553:=Aside0.mk (Kd.R_lower (Kd.R_new' (Kd.R_new' (Kd.R_new' (Kd.R_new' (Kd.R_new' (Kd.R_new' ho1 (Kd.R_lt (HO_4.out))) (Kd.R_lt (HO_8.out))) (Kd.R_lt (HO_540002.out))) (Kd.R_lt (HO_540003.out))) (Kd.R_lt (HO_540006.out))) (Kd.R_lt (HO_540007.out))) (zal (by repeat (first | (with_reducible first | exact HB.out | apply zae | apply zac | apply zaf | refine zag ?_ GE498.out | refine zag ?_ GE539.out) | exact HB.out))))
      replace HO558:=Aside0.mk (Kd.R_lower (Kd.R_new' (Kd.R_new' (Kd.R_new' (Kd.R_new' (Kd.R_new' (Kd.R_new' ho2 (Kd.R_lt (HO_4.out))) (Kd.R_lt (HO_8.out))) (Kd.R_lt (HO_540002.out))) (Kd.R_lt (HO_540003.out))) (Kd.R_lt (HO_540006.out))) (Kd.R_lt (HO_540007.out))) (zal (by repeat (first | (with_reducible first | exact HB.out | apply zae | apply zac | apply zaf | refine zag ?_ GE498.out | refine zag ?_ GE539.out) | exact HB.out))))
      replace HO561:=Aside0.mk (Kd.R_lower (Kd.R_new' (Kd.R_new' (Kd.R_new' (Kd.R_new' (Kd.R_new' (Kd.R_new' ho3 (Kd.R_lt (HO_4.out))) (Kd.R_lt (HO_8.out))) (Kd.R_lt (HO_540002.out))) (Kd.R_lt (HO_540003.out))) (Kd.R_lt (HO_540006.out))) (Kd.R_lt (HO_540007.out))) (zal (by repeat (first | (with_reducible first | exact HB.out | apply zae | apply zac | apply zaf | refine zag ?_ GE498.out | refine zag ?_ GE539.out) | exact HB.out))))
      replace HO_4:=Aside0.mk (Kd.R_mono (Kd.R_told (Kd.R_told (Kd.R_told (Kd.R_told (Kd.R_old (HO_4.out) hb) (Kd.R_base ho0)) (Kd.R_base ho1)) (Kd.R_base ho2)) (Kd.R_base ho3)) (fun _ h_=>h_.1))
      replace HO_8:=Aside0.mk (Kd.R_mono (Kd.R_told (Kd.R_told (Kd.R_told (Kd.R_told (Kd.R_old (HO_8.out) hb) (Kd.R_base ho0)) (Kd.R_base ho1)) (Kd.R_base ho2)) (Kd.R_base ho3)) (fun _ h_=>h_.1))
      replace HO_540002:=Aside0.mk (Kd.R_mono (Kd.R_told (Kd.R_told (Kd.R_told (Kd.R_told (Kd.R_old (HO_540002.out) hb) (Kd.R_base ho0)) (Kd.R_base ho1)) (Kd.R_base ho2)) (Kd.R_base ho3)) (fun _ h_=>h_.1))
      replace HO_540003:=Aside0.mk (Kd.R_mono (Kd.R_told (Kd.R_told (Kd.R_told (Kd.R_told (Kd.R_old (HO_540003.out) hb) (Kd.R_base ho0)) (Kd.R_base ho1)) (Kd.R_base ho2)) (Kd.R_base ho3)) (fun _ h_=>h_.1))
      replace HO_540006:=Aside0.mk (Kd.R_mono (Kd.R_told (Kd.R_told (Kd.R_told (Kd.R_told (Kd.R_old (HO_540006.out) hb) (Kd.R_base ho0)) (Kd.R_base ho1)) (Kd.R_base ho2)) (Kd.R_base ho3)) (fun _ h_=>h_.1))
      replace HO_540007:=Aside0.mk (Kd.R_mono (Kd.R_told (Kd.R_told (Kd.R_told (Kd.R_told (Kd.R_old (HO_540007.out) hb) (Kd.R_base ho0)) (Kd.R_base ho1)) (Kd.R_base ho2)) (Kd.R_base ho3)) (fun _ h_=>h_.1))
      replace BK498:=Aside0.mk (zap (g:=gb498) (o:=.cells #[.int .i64 a0_0,.int .i64 a0_1,.slice A0_2 l0_2.length c0_2,.slice A0_3 l0_3.length c0_3,.int .i64 a0_4,.int .i64 a0_5,.slice A0_6 l0_6.length c0_6,.slice A0_7 l0_7.length c0_7,.int .i64 a0_8] 48 (0,0)) (by (with_reducible repeat (first | refine zai ?_ _ | refine zak ?_ | refine zah ?_ _));exact BK498.out) hb)
      replace BK539:=Aside0.mk (zap (g:=gb539) (o:=.cells #[.int .i64 t522,.int .i64 t523,.slice Ao27 t524.length co27,.slice Ao28 t527.length co28,.int .i64 t530,.int .i64 t531,.slice Ao29 t532.length co29,.slice Ao30 t535.length co30,.int .i64 t538] 38 (0,0)) (by (with_reducible repeat (first | refine zai ?_ _ | refine zak ?_ | refine zah ?_ _));exact BK539.out) hb)
      replace HB:=Aside0.mk (zao (by repeat (first | (with_reducible first | exact HB.out | apply zae | apply zac | apply zaf | refine zag ?_ GE498.out | refine zag ?_ GE539.out) | exact HB.out)) hb)
      (try clear hb)
      (try clear hb2)
      (try clear hk)
      (try clear hi)
      (try clear ho0)
      (try clear ho1)
      (try clear ho2)
      (try clear ho3)
      obtain ⟨Ao49,co49,eo49⟩:=Kd.R_slice HO550.out
      (first | subst eo49 | (injection eo49 with f1_ f2_ f3_;have f4_:=f1_.symm;have f5_:=f3_.symm;clear f1_ f2_ f3_;subst f4_;subst f5_))
      obtain ⟨Ao50,co50,eo50⟩:=Kd.R_slice HO553.out
      (first | subst eo50 | (injection eo50 with f1_ f2_ f3_;have f4_:=f1_.symm;have f5_:=f3_.symm;clear f1_ f2_ f3_;subst f4_;subst f5_))
      obtain ⟨Ao51,co51,eo51⟩:=Kd.R_slice HO558.out
      (first | subst eo51 | (injection eo51 with f1_ f2_ f3_;have f4_:=f1_.symm;have f5_:=f3_.symm;clear f1_ f2_ f3_;subst f4_;subst f5_))
      obtain ⟨Ao52,co52,eo52⟩:=Kd.R_slice HO561.out
      (first | subst eo52 | (injection eo52 with f1_ f2_ f3_;have f4_:=f1_.symm;have f5_:=f3_.symm;clear f1_ f2_ f3_;subst f4_;subst f5_))
      refine hK.out _ _ ⟨(zab BK539.out 0).trans rfl,(zab BK539.out 1).trans rfl,(zab BK539.out 2).trans rfl,(zab BK539.out 3).trans rfl,(zab BK539.out 4).trans rfl,(zab BK539.out 5).trans rfl,(zab BK539.out 6).trans rfl,(zab BK539.out 7).trans rfl,(zab BK539.out 8).trans rfl,(zab BK498.out 0).trans rfl,(zab BK498.out 1).trans rfl,(zab BK498.out 2).trans rfl,(zab BK498.out 3).trans rfl,(zab BK498.out 4).trans rfl,(zab BK498.out 5).trans rfl,(zab BK498.out 6).trans rfl,(zab BK498.out 7).trans rfl,(zab BK498.out 8).trans rfl⟩ (fun hHeld=>?_)
      clear hK K
      refine norm_ (a':=?_) ?_ ?_
      rotate_left
      ·show Act.put _ (some 53) _=_
       simp only [Act.put,List.setIfInBounds_toArray,List.set_cons_zero,List.set_cons_succ,i64_w,i32_w]
       rfl
      refine one_ (i:=3) (N:=some 54) #[true,true,true,true,false] rfl rfl (by kernel_rfl) (by decide) (fun K hK=>?_)
      refine goes_ Tru.func26 (by kernel_rfl) rfl #[.agg #[.int .i64 t522,.int .i64 t523,.slice Ao27 t524.length co27,.slice Ao28 t527.length co28,.int .i64 t530,.int .i64 t531,.slice Ao29 t532.length co29,.slice Ao30 t535.length co30,.int .i64 t538],.agg #[.int .i64 t546,.int .i64 t547,.slice Ao49 t548.length co49,.slice Ao50 t551.length co50,.int .i64 t554,.int .i64 t555,.slice Ao51 t556.length co51,.slice Ao52 t559.length co52,.int .i64 t562]] (by rfl) rfl rfl (by (try simp only [List.map_toArray,List.map_cons,List.map_nil]);first | done | rfl | (simp only [List.length_drop,List.length_take];rfl)) ?_
      with_reducible refine (laws_eqBatch.calls kj10 t522 t523 _ _ t524 _ _ t527 t530 t531 _ _ t532 _ _ t535 t538 t546 t547 _ _ t548 _ _ t551 t554 t555 _ _ t556 _ _ t559 t562 true _ ?side1 ?side2 ?side3 ?side4 ?side5 ?side6 ?side7 ?side8 ?side9 ?side10 ?side11 ?side12 ?side13 ?side14 ?side15 ?side16 A43.out).mono ?_
      (case side1=>exact (Kd.R_reads' HO_540002.out).2.2)
      (case side2=>exact (Kd.R_reads' HO_540002.out).2.1)
      (case side3=>exact (Kd.R_reads' HO_540003.out).2.2)
      (case side4=>exact (Kd.R_reads' HO_540003.out).2.1)
      (case side5=>exact (Kd.R_reads' HO_540006.out).2.2)
      (case side6=>exact (Kd.R_reads' HO_540006.out).2.1)
      (case side7=>exact (Kd.R_reads' HO_540007.out).2.2)
      (case side8=>exact (Kd.R_reads' HO_540007.out).2.1)
      (case side9=>exact (Kd.R_reads' HO550.out).2.2)
      (case side10=>exact (Kd.R_reads' HO550.out).2.1)
      (case side11=>exact (Kd.R_reads' HO553.out).2.2)
      (case side12=>exact (Kd.R_reads' HO553.out).2.1)
      (case side13=>exact (Kd.R_reads' HO558.out).2.2)
      (case side14=>exact (Kd.R_reads' HO558.out).2.1)
      (case side15=>exact (Kd.R_reads' HO561.out).2.2)
      (case side16=>exact (Kd.R_reads' HO561.out).2.1)
      rintro e w53 ⟨rfl,hb⟩
      refine ⟨_,rfl,?_⟩
      replace HO_4:=Aside0.mk (Kd.R_below (HO_4.out) hb)
      replace HO_8:=Aside0.mk (Kd.R_below (HO_8.out) hb)
      replace HO_540002:=Aside0.mk (Kd.R_below (HO_540002.out) hb)
      replace HO_540003:=Aside0.mk (Kd.R_below (HO_540003.out) hb)
      replace HO_540006:=Aside0.mk (Kd.R_below (HO_540006.out) hb)
      replace HO_540007:=Aside0.mk (Kd.R_below (HO_540007.out) hb)
      replace HO550:=Aside0.mk (Kd.R_below (HO550.out) hb)
      replace HO553:=Aside0.mk (Kd.R_below (HO553.out) hb)
      replace HO558:=Aside0.mk (Kd.R_below (HO558.out) hb)
      replace HO561:=Aside0.mk (Kd.R_below (HO561.out) hb)
      replace BK498:=Aside0.mk (zap (g:=gb498) (o:=.cells #[.int .i64 a0_0,.int .i64 a0_1,.slice A0_2 l0_2.length c0_2,.slice A0_3 l0_3.length c0_3,.int .i64 a0_4,.int .i64 a0_5,.slice A0_6 l0_6.length c0_6,.slice A0_7 l0_7.length c0_7,.int .i64 a0_8] 48 (0,0)) (by (with_reducible repeat (first | refine zai ?_ _ | refine zak ?_ | refine zah ?_ _));exact BK498.out) hb)
      replace BK539:=Aside0.mk (zap (g:=gb539) (o:=.cells #[.int .i64 t522,.int .i64 t523,.slice Ao27 t524.length co27,.slice Ao28 t527.length co28,.int .i64 t530,.int .i64 t531,.slice Ao29 t532.length co29,.slice Ao30 t535.length co30,.int .i64 t538] 38 (0,0)) (by (with_reducible repeat (first | refine zai ?_ _ | refine zak ?_ | refine zah ?_ _));exact BK539.out) hb)
      replace HB:=Aside0.mk (zao (by repeat (first | (with_reducible first | exact HB.out | apply zae | apply zac | apply zaf | refine zag ?_ GE498.out | refine zag ?_ GE539.out) | exact HB.out)) hb)
      (try clear hb)
      (try clear hb2)
      (try clear hk)
      (try clear hi)
      refine hK.out _ _ ⟨(zab BK539.out 0).trans rfl,(zab BK539.out 1).trans rfl,(zab BK539.out 2).trans rfl,(zab BK539.out 3).trans rfl,(zab BK539.out 4).trans rfl,(zab BK539.out 5).trans rfl,(zab BK539.out 6).trans rfl,(zab BK539.out 7).trans rfl,(zab BK539.out 8).trans rfl,(zab BK498.out 0).trans rfl,(zab BK498.out 1).trans rfl,(zab BK498.out 2).trans rfl,(zab BK498.out 3).trans rfl,(zab BK498.out 4).trans rfl,(zab BK498.out 5).trans rfl,(zab BK498.out 6).trans rfl,(zab BK498.out 7).trans rfl,(zab BK498.out 8).trans rfl⟩ (fun hHeld=>?_)
      clear hK K
      refine norm_ (a':=?_) ?_ ?_
      rotate_left
      ·show Act.put _ (some 54) _=_
       simp only [Act.put,List.setIfInBounds_toArray,List.set_cons_zero,List.set_cons_succ,i64_w,i32_w]
       rfl
      refine pZ 4 (some 55) #[true,true,true,true,true] rfl rfl (by kernel_rfl) ?_
      refine done_ (by kernel_rfl) ?_
      have hnb54:=NB539_498.out
      have hnc54:=NB498_539.out
      have hcz55_0:w53.cell? ⟨gb539,0,none⟩=some (.int .i64 t522):=(zab BK539.out 0).trans rfl
      have hcz55_1:w53.cell? ⟨gb539,1,none⟩=some (.int .i64 t523):=(zab BK539.out 1).trans rfl
      have hcz55_2:w53.cell? ⟨gb539,2,none⟩=some (.slice Ao27 t524.length co27):=(zab BK539.out 2).trans rfl
      have hcz55_3:w53.cell? ⟨gb539,3,none⟩=some (.slice Ao28 t527.length co28):=(zab BK539.out 3).trans rfl
      have hcz55_4:w53.cell? ⟨gb539,4,none⟩=some (.int .i64 t530):=(zab BK539.out 4).trans rfl
      have hcz55_5:w53.cell? ⟨gb539,5,none⟩=some (.int .i64 t531):=(zab BK539.out 5).trans rfl
      have hcz55_6:w53.cell? ⟨gb539,6,none⟩=some (.slice Ao29 t532.length co29):=(zab BK539.out 6).trans rfl
      have hcz55_7:w53.cell? ⟨gb539,7,none⟩=some (.slice Ao30 t535.length co30):=(zab BK539.out 7).trans rfl
      have hcz55_8:w53.cell? ⟨gb539,8,none⟩=some (.int .i64 t538):=(zab BK539.out 8).trans rfl
      have hfz55_0:=zaa BK539.out 0
      have hfz55_1:=zaa BK539.out 1
      have hfz55_2:=zaa BK539.out 2
      have hfz55_3:=zaa BK539.out 3
      have hfz55_4:=zaa BK539.out 4
      have hfz55_5:=zaa BK539.out 5
      have hfz55_6:=zaa BK539.out 6
      have hfz55_7:=zaa BK539.out 7
      have hfz55_8:=zaa BK539.out 8
      go_upto_region 14 with (first | ((with_reducible refine zaj (f:=27) rfl ?_);refine zaB (some 58) Tru.func27 #[.agg #[.int .i64 t522,.int .i64 t523,.slice Ao27 t524.length co27,.slice Ao28 t527.length co28,.int .i64 t530,.int .i64 t531,.slice Ao29 t532.length co29,.slice Ao30 t535.length co30,.int .i64 t538],.int .i64 1] ?_;(with_reducible refine (laws_markBatch.calls kj10 t522 t523 (fun k_=>some k_=(.slice Ao27 t524.length co27:Value).ownBlock) (.slice Ao27 t524.length co27) t524 (fun k_=>some k_=(.slice Ao28 t527.length co28:Value).ownBlock) (.slice Ao28 t527.length co28) t527 t530 t531 (fun k_=>some k_=(.slice Ao29 t532.length co29:Value).ownBlock) (.slice Ao29 t532.length co29) t532 (fun k_=>some k_=(.slice Ao30 t535.length co30:Value).ownBlock) (.slice Ao30 t535.length co30) t535 t538 1 t564 t565 t566 t567 t568 w _ ?side1 ?side2 ?side3 ?side4 ?side5 ?side6 ?side7 ?side8 ?side9 ?side10 ?side11 ?side12 ?side13 ?side14 ?side15 ?side16 ?side17 A45.out).mono ?_);(case side1=>repeat (first | (with_reducible first | exact HB.out | apply zae | apply zac | apply zaf | refine zag ?_ GE498.out | refine zag ?_ GE539.out) | exact HB.out));(case side2=>exact Kd.R_tight rfl HO_540002.out);(case side3=>exact fun k_ e_=>(HO_540002.out.1 k_ e_.symm).1.1.1.1.2.2.1);(case side4=>exact fun k_ e_=>(HO_540002.out.1 k_ e_.symm).1.1.1.1.2.2.2.1);(case side5=>exact fun k_ e_=>(HO_540002.out.1 k_ e_.symm).1.1.1.1.2.2.2.2);(case side6=>exact Kd.R_tight rfl HO_540003.out);(case side7=>exact fun k_ e_=>(HO_540003.out.1 k_ e_.symm).1.1.1.1.2.2.1);(case side8=>exact fun k_ e_=>(HO_540003.out.1 k_ e_.symm).1.1.1.1.2.2.2.1);(case side9=>exact fun k_ e_=>(HO_540003.out.1 k_ e_.symm).1.1.1.1.2.2.2.2);(case side10=>exact Kd.R_tight rfl HO_540006.out);(case side11=>exact fun k_ e_=>(HO_540006.out.1 k_ e_.symm).1.1.1.1.2.2.1);(case side12=>exact fun k_ e_=>(HO_540006.out.1 k_ e_.symm).1.1.1.1.2.2.2.1);(case side13=>exact fun k_ e_=>(HO_540006.out.1 k_ e_.symm).1.1.1.1.2.2.2.2);(case side14=>exact Kd.R_tight rfl HO_540007.out);(case side15=>exact fun k_ e_=>(HO_540007.out.1 k_ e_.symm).1.1.1.1.2.2.1);(case side16=>exact fun k_ e_=>(HO_540007.out.1 k_ e_.symm).1.1.1.1.2.2.2.1);(case side17=>exact fun k_ e_=>(HO_540007.out.1 k_ e_.symm).1.1.1.1.2.2.2.2);rintro e w56 ⟨rfl,hy0,hy1,hy2,hy3,hb,hkp⟩;refine ⟨_,rfl,?_⟩;have n0_:=Aside0.mk (Kd.R_mono (ok':=fun k_=>some k_≠(v541:Value).ownBlock∧some k_≠(.slice Ao27 t524.length co27:Value).ownBlock∧some k_≠(.slice Ao28 t527.length co28:Value).ownBlock∧some k_≠(.slice Ao29 t532.length co29:Value).ownBlock∧some k_≠(.slice Ao30 t535.length co30:Value).ownBlock∧some k_≠(.slice Ao49 t548.length co49:Value).ownBlock∧some k_≠(.slice Ao50 t551.length co50:Value).ownBlock∧some k_≠(.slice Ao51 t556.length co51:Value).ownBlock∧some k_≠(.slice Ao52 t559.length co52:Value).ownBlock) (Kd.R_keptB (HO_4.out) hkp (fun k_ hk_ hs_=>Or.elim hs_ (fun e_=>(hk_.1.1.1.1.2.1) e_) (fun e_=>Or.elim e_ (fun e_=>(hk_.1.1.1.1.2.2.1) e_) (fun e_=>Or.elim e_ (fun e_=>(hk_.1.1.1.1.2.2.2.1) e_) (fun e_=>(hk_.1.1.1.1.2.2.2.2) e_))))) (fun k_ hk_=>⟨hk_.1.1.1.1.1.1,hk_.1.1.1.1.1.2.1,hk_.1.1.1.1.1.2.2.1,hk_.1.1.1.1.1.2.2.2.1,hk_.1.1.1.1.1.2.2.2.2,hk_.1.1.1.1.2,hk_.1.1.1.2,hk_.1.1.2,hk_.1.2⟩));have n1_:=Aside0.mk (Kd.R_mono (ok':=fun k_=>some k_≠(v518:Value).ownBlock∧some k_≠(.slice Ao27 t524.length co27:Value).ownBlock∧some k_≠(.slice Ao28 t527.length co28:Value).ownBlock∧some k_≠(.slice Ao29 t532.length co29:Value).ownBlock∧some k_≠(.slice Ao30 t535.length co30:Value).ownBlock∧some k_≠(.slice Ao49 t548.length co49:Value).ownBlock∧some k_≠(.slice Ao50 t551.length co50:Value).ownBlock∧some k_≠(.slice Ao51 t556.length co51:Value).ownBlock∧some k_≠(.slice Ao52 t559.length co52:Value).ownBlock) (Kd.R_keptB (HO_8.out) hkp (fun k_ hk_ hs_=>Or.elim hs_ (fun e_=>(hk_.1.1.1.1.2.1) e_) (fun e_=>Or.elim e_ (fun e_=>(hk_.1.1.1.1.2.2.1) e_) (fun e_=>Or.elim e_ (fun e_=>(hk_.1.1.1.1.2.2.2.1) e_) (fun e_=>(hk_.1.1.1.1.2.2.2.2) e_))))) (fun k_ hk_=>⟨hk_.1.1.1.1.1.1,hk_.1.1.1.1.1.2.1,hk_.1.1.1.1.1.2.2.1,hk_.1.1.1.1.1.2.2.2.1,hk_.1.1.1.1.1.2.2.2.2,hk_.1.1.1.1.2,hk_.1.1.1.2,hk_.1.1.2,hk_.1.2⟩));have n2_:=Aside0.mk (Kd.R_reok rfl hy0 (fun k_ e_=>HO_540002.out.1 k_ e_));have n3_:=Aside0.mk (Kd.R_reok rfl hy1 (fun k_ e_=>HO_540003.out.1 k_ e_));have n4_:=Aside0.mk (Kd.R_reok rfl hy2 (fun k_ e_=>HO_540006.out.1 k_ e_));have n5_:=Aside0.mk (Kd.R_reok rfl hy3 (fun k_ e_=>HO_540007.out.1 k_ e_));have n6_:=Aside0.mk (blk_kept (by (with_reducible repeat (first | refine zai ?_ _ | refine zak ?_ | refine zah ?_ _));exact BK498.out) hkp (fun hs_=>Or.elim hs_ (fun e_=>(fun e_=>(Kd.R_ne HO_540002.out BK498.out (by decide)) e_) e_) (fun e_=>Or.elim e_ (fun e_=>(fun e_=>(Kd.R_ne HO_540003.out BK498.out (by decide)) e_) e_) (fun e_=>Or.elim e_ (fun e_=>(fun e_=>(Kd.R_ne HO_540006.out BK498.out (by decide)) e_) e_) (fun e_=>(fun e_=>(Kd.R_ne HO_540007.out BK498.out (by decide)) e_) e_)))));have n7_:=Aside0.mk (blk_kept (by (with_reducible repeat (first | refine zai ?_ _ | refine zak ?_ | refine zah ?_ _));exact BK539.out) hkp (fun hs_=>Or.elim hs_ (fun e_=>(fun e_=>(Kd.R_ne HO_540002.out BK539.out (by decide)) e_) e_) (fun e_=>Or.elim e_ (fun e_=>(fun e_=>(Kd.R_ne HO_540003.out BK539.out (by decide)) e_) e_) (fun e_=>Or.elim e_ (fun e_=>(fun e_=>(Kd.R_ne HO_540006.out BK539.out (by decide)) e_) e_) (fun e_=>(fun e_=>(Kd.R_ne HO_540007.out BK539.out (by decide)) e_) e_)))));have n8_:=Aside0.mk (Kd.R_mono (ok':=fun k_=>some k_≠(v518:Value).ownBlock∧some k_≠(v541:Value).ownBlock∧some k_≠(.slice Ao27 t524.length co27:Value).ownBlock∧some k_≠(.slice Ao28 t527.length co28:Value).ownBlock∧some k_≠(.slice Ao29 t532.length co29:Value).ownBlock∧some k_≠(.slice Ao30 t535.length co30:Value).ownBlock∧some k_≠(.slice Ao50 t551.length co50:Value).ownBlock∧some k_≠(.slice Ao51 t556.length co51:Value).ownBlock∧some k_≠(.slice Ao52 t559.length co52:Value).ownBlock) (Kd.R_keptB (HO550.out) hkp (fun k_ hk_ hs_=>Or.elim hs_ (fun e_=>(hk_.1.1.1.2) e_) (fun e_=>Or.elim e_ (fun e_=>(hk_.1.1.2) e_) (fun e_=>Or.elim e_ (fun e_=>(hk_.1.2) e_) (fun e_=>(hk_.2) e_))))) (fun k_ hk_=>⟨hk_.1.1.1.1.1.1.2,hk_.1.1.1.1.1.2,hk_.1.1.1.1.2,hk_.1.1.1.2,hk_.1.1.2,hk_.1.2,hk_.1.1.1.1.1.1.1.1,hk_.1.1.1.1.1.1.1.2.1,hk_.1.1.1.1.1.1.1.2.2⟩));have n9_:=Aside0.mk (Kd.R_mono (ok':=fun k_=>some k_≠(v518:Value).ownBlock∧some k_≠(v541:Value).ownBlock∧some k_≠(.slice Ao27 t524.length co27:Value).ownBlock∧some k_≠(.slice Ao28 t527.length co28:Value).ownBlock∧some k_≠(.slice Ao29 t532.length co29:Value).ownBlock∧some k_≠(.slice Ao30 t535.length co30:Value).ownBlock∧some k_≠(.slice Ao49 t548.length co49:Value).ownBlock∧some k_≠(.slice Ao51 t556.length co51:Value).ownBlock∧some k_≠(.slice Ao52 t559.length co52:Value).ownBlock) (Kd.R_keptB (HO553.out) hkp (fun k_ hk_ hs_=>Or.elim hs_ (fun e_=>(hk_.1.1.1.2) e_) (fun e_=>Or.elim e_ (fun e_=>(hk_.1.1.2) e_) (fun e_=>Or.elim e_ (fun e_=>(hk_.1.2) e_) (fun e_=>(hk_.2) e_))))) (fun k_ hk_=>⟨hk_.1.1.1.1.1.1.2,hk_.1.1.1.1.1.2,hk_.1.1.1.1.2,hk_.1.1.1.2,hk_.1.1.2,hk_.1.2,hk_.1.1.1.1.1.1.1.1,hk_.1.1.1.1.1.1.1.2.1,hk_.1.1.1.1.1.1.1.2.2⟩));have n10_:=Aside0.mk (Kd.R_mono (ok':=fun k_=>some k_≠(v518:Value).ownBlock∧some k_≠(v541:Value).ownBlock∧some k_≠(.slice Ao27 t524.length co27:Value).ownBlock∧some k_≠(.slice Ao28 t527.length co28:Value).ownBlock∧some k_≠(.slice Ao29 t532.length co29:Value).ownBlock∧some k_≠(.slice Ao30 t535.length co30:Value).ownBlock∧some k_≠(.slice Ao49 t548.length co49:Value).ownBlock∧some k_≠(.slice Ao50 t551.length co50:Value).ownBlock∧some k_≠(.slice Ao52 t559.length co52:Value).ownBlock) (Kd.R_keptB (HO558.out) hkp (fun k_ hk_ hs_=>Or.elim hs_ (fun e_=>(hk_.1.1.1.2) e_) (fun e_=>Or.elim e_ (fun e_=>(hk_.1.1.2) e_) (fun e_=>Or.elim e_ (fun e_=>(hk_.1.2) e_) (fun e_=>(hk_.2) e_))))) (fun k_ hk_=>⟨hk_.1.1.1.1.1.1.2,hk_.1.1.1.1.1.2,hk_.1.1.1.1.2,hk_.1.1.1.2,hk_.1.1.2,hk_.1.2,hk_.1.1.1.1.1.1.1.1,hk_.1.1.1.1.1.1.1.2.1,hk_.1.1.1.1.1.1.1.2.2⟩));have n11_:=Aside0.mk (Kd.R_mono (ok':=fun k_=>some k_≠(v518:Value).ownBlock∧some k_≠(v541:Value).ownBlock∧some k_≠(.slice Ao27 t524.length co27:Value).ownBlock∧some k_≠(.slice Ao28 t527.length co28:Value).ownBlock∧some k_≠(.slice Ao29 t532.length co29:Value).ownBlock∧some k_≠(.slice Ao30 t535.length co30:Value).ownBlock∧some k_≠(.slice Ao49 t548.length co49:Value).ownBlock∧some k_≠(.slice Ao50 t551.length co50:Value).ownBlock∧some k_≠(.slice Ao51 t556.length co51:Value).ownBlock) (Kd.R_keptB (HO561.out) hkp (fun k_ hk_ hs_=>Or.elim hs_ (fun e_=>(hk_.1.1.1.2) e_) (fun e_=>Or.elim e_ (fun e_=>(hk_.1.1.2) e_) (fun e_=>Or.elim e_ (fun e_=>(hk_.1.2) e_) (fun e_=>(hk_.2) e_))))) (fun k_ hk_=>⟨hk_.1.1.1.1.1.1.2,hk_.1.1.1.1.1.2,hk_.1.1.1.1.2,hk_.1.1.1.2,hk_.1.1.2,hk_.1.2,hk_.1.1.1.1.1.1.1.1,hk_.1.1.1.1.1.1.1.2.1,hk_.1.1.1.1.1.1.1.2.2⟩));have n12_:=Aside0.mk (hb);clear HO_4;clear HO_8;clear HO_540002;clear HO_540003;clear HO_540006;clear HO_540007;clear BK498;clear BK539;clear HO550;clear HO553;clear HO558;clear HO561;clear HB;have HO_4:=n0_;have HO_8:=n1_;have HO_540002:=n2_;have HO_540003:=n3_;have HO_540006:=n4_;have HO_540007:=n5_;have BK498:=n6_;have BK539:=n7_;have HO550:=n8_;have HO553:=n9_;have HO558:=n10_;have HO561:=n11_;have HB:=n12_;clear n0_ n1_ n2_ n3_ n4_ n5_ n6_ n7_ n8_ n9_ n10_ n11_ n12_;(try clear hb);(try clear hkp);(try clear hy0);(try clear hy1);(try clear hy2);(try clear hy3)))
      (try simp only [Act.put,List.setIfInBounds_toArray,List.set_cons_zero,List.set_cons_succ])
      go_cut [76] (fun v76 wc=>∃ (kq:Nat) (x76_45:Bool),v76 = .bool x76_45∧Aside0 (laws_FnExactBatchTell.j1 kq t517 t520 t521 t540 x76_45 a0_0 a0_1 l0_2 l0_3 a0_4 a0_5 l0_6 l0_7 a0_8=some r)∧Aside0 (kq≤kj10)∧Aside0 (Kd.R (Kd.int .i64) 3 wc w.heap.size (fun k_=>some k_≠(v541:Value).ownBlock∧some k_≠((.slice Ao27 t524.length co27):Value).ownBlock∧some k_≠((.slice Ao28 t527.length co28):Value).ownBlock∧some k_≠((.slice Ao29 t532.length co29):Value).ownBlock∧some k_≠((.slice Ao30 t535.length co30):Value).ownBlock) v518 t517)∧Aside0 (Kd.R (Kd.int .i64) 3 wc w.heap.size (fun k_=>some k_≠(v518:Value).ownBlock∧some k_≠((.slice Ao27 t524.length co27):Value).ownBlock∧some k_≠((.slice Ao28 t527.length co28):Value).ownBlock∧some k_≠((.slice Ao29 t532.length co29):Value).ownBlock∧some k_≠((.slice Ao30 t535.length co30):Value).ownBlock) v541 t540)∧Aside0 (Kd.R (Kd.int .i64) 3 wc w.heap.size (fun k_=>some k_≠(v518:Value).ownBlock∧some k_≠(v541:Value).ownBlock∧some k_≠((.slice Ao28 t527.length co28):Value).ownBlock∧some k_≠((.slice Ao29 t532.length co29):Value).ownBlock∧some k_≠((.slice Ao30 t535.length co30):Value).ownBlock) (.slice Ao27 t524.length co27) t565)∧Aside0 (Kd.R (Kd.int .i64) 3 wc w.heap.size (fun k_=>some k_≠(v518:Value).ownBlock∧some k_≠(v541:Value).ownBlock∧some k_≠((.slice Ao27 t524.length co27):Value).ownBlock∧some k_≠((.slice Ao29 t532.length co29):Value).ownBlock∧some k_≠((.slice Ao30 t535.length co30):Value).ownBlock) (.slice Ao28 t527.length co28) t566)∧Aside0 (Kd.R (Kd.int .i64) 3 wc w.heap.size (fun k_=>some k_≠(v518:Value).ownBlock∧some k_≠(v541:Value).ownBlock∧some k_≠((.slice Ao27 t524.length co27):Value).ownBlock∧some k_≠((.slice Ao28 t527.length co28):Value).ownBlock∧some k_≠((.slice Ao30 t535.length co30):Value).ownBlock) (.slice Ao29 t532.length co29) t567)∧Aside0 (Kd.R (Kd.int .i64) 3 wc w.heap.size (fun k_=>some k_≠(v518:Value).ownBlock∧some k_≠(v541:Value).ownBlock∧some k_≠((.slice Ao27 t524.length co27):Value).ownBlock∧some k_≠((.slice Ao28 t527.length co28):Value).ownBlock∧some k_≠((.slice Ao29 t532.length co29):Value).ownBlock) (.slice Ao30 t535.length co30) t568)∧Aside0 (wc.heap[gb498]? = some (.cells #[.int .i64 a0_0,.int .i64 a0_1,(.slice A0_2 l0_2.length c0_2),(.slice A0_3 l0_3.length c0_3),.int .i64 a0_4,.int .i64 a0_5,(.slice A0_6 l0_6.length c0_6),(.slice A0_7 l0_7.length c0_7),.int .i64 a0_8] 48 (0,0)))∧Aside0 (wc.heap[gb539]? = some (.cells #[.int .i64 t522,.int .i64 t523,(.slice Ao27 t524.length co27),(.slice Ao28 t527.length co28),.int .i64 t530,.int .i64 t531,(.slice Ao29 t532.length co29),(.slice Ao30 t535.length co30),.int .i64 t538] 38 (0,0)))∧Aside0 (Below w.heap.size w wc))
      case first=>
       have H:=HC46.out
       clear HC46
       by_cases c57:t564<0
       ·rw [if_pos c57] at H
        have c57b0:decide (t564<0)=true:=decide_eq_true c57
        clear c57
        (first | rw [c57b0] | (simp only [i64_w,i32_w];rw [c57b0]) | skip)
        have H':=Aside0.mk H
        clear H
        go_wp2
        go_meet
        case rel=>exact ⟨_,(true),rfl,H',⟨by have:=HJ10.out;first | omega | exact Nat.le_refl _⟩,⟨Kd.R_mono HO_4.out (fun _ hk=>⟨hk.1,⟨hk.2.1,⟨hk.2.2.1,⟨hk.2.2.2.1,hk.2.2.2.2.1⟩⟩⟩⟩)⟩,⟨Kd.R_mono HO_8.out (fun _ hk=>⟨hk.1,⟨hk.2.1,⟨hk.2.2.1,⟨hk.2.2.2.1,hk.2.2.2.2.1⟩⟩⟩⟩)⟩,⟨Kd.R_mono HO_540002.out (fun _ hk=>⟨hk.1.1.1.1.1,⟨hk.1.1.1.1.2.1,⟨hk.1.1.1.1.2.2.1,⟨hk.1.1.1.1.2.2.2.1,hk.1.1.1.1.2.2.2.2⟩⟩⟩⟩)⟩,⟨Kd.R_mono HO_540003.out (fun _ hk=>⟨hk.1.1.1.1.1,⟨hk.1.1.1.1.2.1,⟨hk.1.1.1.1.2.2.1,⟨hk.1.1.1.1.2.2.2.1,hk.1.1.1.1.2.2.2.2⟩⟩⟩⟩)⟩,⟨Kd.R_mono HO_540006.out (fun _ hk=>⟨hk.1.1.1.1.1,⟨hk.1.1.1.1.2.1,⟨hk.1.1.1.1.2.2.1,⟨hk.1.1.1.1.2.2.2.1,hk.1.1.1.1.2.2.2.2⟩⟩⟩⟩)⟩,⟨Kd.R_mono HO_540007.out (fun _ hk=>⟨hk.1.1.1.1.1,⟨hk.1.1.1.1.2.1,⟨hk.1.1.1.1.2.2.1,⟨hk.1.1.1.1.2.2.2.1,hk.1.1.1.1.2.2.2.2⟩⟩⟩⟩)⟩,⟨by (with_reducible repeat (first | refine zai ?_ _ | refine zak ?_ | refine zah ?_ _));exact BK498.out⟩,⟨by (with_reducible repeat (first | refine zai ?_ _ | refine zak ?_ | refine zah ?_ _));exact BK539.out⟩,⟨by repeat (first | (with_reducible first | exact HB.out | apply zae | apply zac | apply zaf | refine zag ?_ GE498.out | refine zag ?_ GE539.out) | exact HB.out)⟩⟩
       ·rw [if_neg c57] at H
        have c57b0:decide (t564<0)=false:=decide_eq_false c57
        clear c57
        (first | rw [c57b0] | (simp only [i64_w,i32_w];rw [c57b0]) | skip)
        replace H:=bnd H
        obtain ⟨t569,A58,H⟩:=H
        by_cases c59:t569=true
        ·subst c59
         rw [if_pos rfl] at H
         by_cases c60:t543=t520
         ·rw [if_pos c60] at H
          have c60b0:(t543 == t520)=true:=beq_iff_eq.mpr c60
          have c60b1:(t543 != t520)=false:=bne_eq_false_iff_eq.mpr c60
          clear c60
          have H':=Aside0.mk H
          clear H
          obtain ⟨Ao61,co61,eo61⟩:=Kd.R_slice HO_8.out
          subst eo61
          obtain ⟨Ao62,co62,eo62⟩:=Kd.R_slice HO_4.out
          subst eo62
          go_wp2_with (first | (go_at_call 25;(with_reducible refine (laws_eqIntS.calls kj10 _ _ t540 _ _ t517 true _ ?side1 ?side2 ?side3 ?side4 A58.out).mono ?_);(case side1=>exact (Kd.R_reads' HO_8.out).2.2);(case side2=>exact (Kd.R_reads' HO_8.out).2.1);(case side3=>exact (Kd.R_reads' HO_4.out).2.2);(case side4=>exact (Kd.R_reads' HO_4.out).2.1);rintro e w' ⟨rfl,⟨nd,rfl⟩⟩))
          go_meet
          case rel=>exact ⟨_,((t544 != t521)),rfl,H',⟨by have:=HJ10.out;first | omega | exact Nat.le_refl _⟩,⟨Kd.R_mono HO_4.out (fun _ hk=>⟨hk.1,⟨hk.2.1,⟨hk.2.2.1,⟨hk.2.2.2.1,hk.2.2.2.2.1⟩⟩⟩⟩)⟩,⟨Kd.R_mono HO_8.out (fun _ hk=>⟨hk.1,⟨hk.2.1,⟨hk.2.2.1,⟨hk.2.2.2.1,hk.2.2.2.2.1⟩⟩⟩⟩)⟩,⟨Kd.R_mono HO_540002.out (fun _ hk=>⟨hk.1.1.1.1.1,⟨hk.1.1.1.1.2.1,⟨hk.1.1.1.1.2.2.1,⟨hk.1.1.1.1.2.2.2.1,hk.1.1.1.1.2.2.2.2⟩⟩⟩⟩)⟩,⟨Kd.R_mono HO_540003.out (fun _ hk=>⟨hk.1.1.1.1.1,⟨hk.1.1.1.1.2.1,⟨hk.1.1.1.1.2.2.1,⟨hk.1.1.1.1.2.2.2.1,hk.1.1.1.1.2.2.2.2⟩⟩⟩⟩)⟩,⟨Kd.R_mono HO_540006.out (fun _ hk=>⟨hk.1.1.1.1.1,⟨hk.1.1.1.1.2.1,⟨hk.1.1.1.1.2.2.1,⟨hk.1.1.1.1.2.2.2.1,hk.1.1.1.1.2.2.2.2⟩⟩⟩⟩)⟩,⟨Kd.R_mono HO_540007.out (fun _ hk=>⟨hk.1.1.1.1.1,⟨hk.1.1.1.1.2.1,⟨hk.1.1.1.1.2.2.1,⟨hk.1.1.1.1.2.2.2.1,hk.1.1.1.1.2.2.2.2⟩⟩⟩⟩)⟩,⟨by (with_reducible repeat (first | refine zai ?_ _ | refine zak ?_ | refine zah ?_ _));exact BK498.out⟩,⟨by (with_reducible repeat (first | refine zai ?_ _ | refine zak ?_ | refine zah ?_ _));exact BK539.out⟩,⟨by repeat (first | (with_reducible first | exact HB.out | apply zae | apply zac | apply zaf | refine zag ?_ GE498.out | refine zag ?_ GE539.out) | exact HB.out)⟩⟩
         ·rw [if_neg c60] at H
          have c60b0:(t543 == t520)=false:=beq_eq_false_iff_ne.mpr c60
          have c60b1:(t543 != t520)=true:=bne_iff_ne.mpr c60
          have H':=Aside0.mk H
          clear H
          obtain ⟨Ao63,co63,eo63⟩:=Kd.R_slice HO_8.out
          subst eo63
          obtain ⟨Ao64,co64,eo64⟩:=Kd.R_slice HO_4.out
          subst eo64
          go_wp2_with (first | (go_at_call 25;(with_reducible refine (laws_eqIntS.calls kj10 _ _ t540 _ _ t517 true _ ?side1 ?side2 ?side3 ?side4 A58.out).mono ?_);(case side1=>exact (Kd.R_reads' HO_8.out).2.2);(case side2=>exact (Kd.R_reads' HO_8.out).2.1);(case side3=>exact (Kd.R_reads' HO_4.out).2.2);(case side4=>exact (Kd.R_reads' HO_4.out).2.1);rintro e w' ⟨rfl,⟨nd,rfl⟩⟩))
          go_meet
          case rel=>exact ⟨_,(true),rfl,H',⟨by have:=HJ10.out;first | omega | exact Nat.le_refl _⟩,⟨Kd.R_mono HO_4.out (fun _ hk=>⟨hk.1,⟨hk.2.1,⟨hk.2.2.1,⟨hk.2.2.2.1,hk.2.2.2.2.1⟩⟩⟩⟩)⟩,⟨Kd.R_mono HO_8.out (fun _ hk=>⟨hk.1,⟨hk.2.1,⟨hk.2.2.1,⟨hk.2.2.2.1,hk.2.2.2.2.1⟩⟩⟩⟩)⟩,⟨Kd.R_mono HO_540002.out (fun _ hk=>⟨hk.1.1.1.1.1,⟨hk.1.1.1.1.2.1,⟨hk.1.1.1.1.2.2.1,⟨hk.1.1.1.1.2.2.2.1,hk.1.1.1.1.2.2.2.2⟩⟩⟩⟩)⟩,⟨Kd.R_mono HO_540003.out (fun _ hk=>⟨hk.1.1.1.1.1,⟨hk.1.1.1.1.2.1,⟨hk.1.1.1.1.2.2.1,⟨hk.1.1.1.1.2.2.2.1,hk.1.1.1.1.2.2.2.2⟩⟩⟩⟩)⟩,⟨Kd.R_mono HO_540006.out (fun _ hk=>⟨hk.1.1.1.1.1,⟨hk.1.1.1.1.2.1,⟨hk.1.1.1.1.2.2.1,⟨hk.1.1.1.1.2.2.2.1,hk.1.1.1.1.2.2.2.2⟩⟩⟩⟩)⟩,⟨Kd.R_mono HO_540007.out (fun _ hk=>⟨hk.1.1.1.1.1,⟨hk.1.1.1.1.2.1,⟨hk.1.1.1.1.2.2.1,⟨hk.1.1.1.1.2.2.2.1,hk.1.1.1.1.2.2.2.2⟩⟩⟩⟩)⟩,⟨by (with_reducible repeat (first | refine zai ?_ _ | refine zak ?_ | refine zah ?_ _));exact BK498.out⟩,⟨by (with_reducible repeat (first | refine zai ?_ _ | refine zak ?_ | refine zah ?_ _));exact BK539.out⟩,⟨by repeat (first | (with_reducible first | exact HB.out | apply zae | apply zac | apply zaf | refine zag ?_ GE498.out | refine zag ?_ GE539.out) | exact HB.out)⟩⟩
        ·replace c59:=Bool.eq_false_iff.mpr c59
         subst c59
         rw [if_neg (show ¬ (false=true) by decide)] at H
         have H':=Aside0.mk H
         clear H
         obtain ⟨Ao65,co65,eo65⟩:=Kd.R_slice HO_8.out
         subst eo65
         obtain ⟨Ao66,co66,eo66⟩:=Kd.R_slice HO_4.out
         subst eo66
         go_wp2_with (first | (go_at_call 25;(with_reducible refine (laws_eqIntS.calls kj10 _ _ t540 _ _ t517 false _ ?side1 ?side2 ?side3 ?side4 A58.out).mono ?_);(case side1=>exact (Kd.R_reads' HO_8.out).2.2);(case side2=>exact (Kd.R_reads' HO_8.out).2.1);(case side3=>exact (Kd.R_reads' HO_4.out).2.2);(case side4=>exact (Kd.R_reads' HO_4.out).2.1);rintro e w' ⟨rfl,⟨nd,rfl⟩⟩))
         go_meet
         case rel=>exact ⟨_,(true),rfl,H',⟨by have:=HJ10.out;first | omega | exact Nat.le_refl _⟩,⟨Kd.R_mono HO_4.out (fun _ hk=>⟨hk.1,⟨hk.2.1,⟨hk.2.2.1,⟨hk.2.2.2.1,hk.2.2.2.2.1⟩⟩⟩⟩)⟩,⟨Kd.R_mono HO_8.out (fun _ hk=>⟨hk.1,⟨hk.2.1,⟨hk.2.2.1,⟨hk.2.2.2.1,hk.2.2.2.2.1⟩⟩⟩⟩)⟩,⟨Kd.R_mono HO_540002.out (fun _ hk=>⟨hk.1.1.1.1.1,⟨hk.1.1.1.1.2.1,⟨hk.1.1.1.1.2.2.1,⟨hk.1.1.1.1.2.2.2.1,hk.1.1.1.1.2.2.2.2⟩⟩⟩⟩)⟩,⟨Kd.R_mono HO_540003.out (fun _ hk=>⟨hk.1.1.1.1.1,⟨hk.1.1.1.1.2.1,⟨hk.1.1.1.1.2.2.1,⟨hk.1.1.1.1.2.2.2.1,hk.1.1.1.1.2.2.2.2⟩⟩⟩⟩)⟩,⟨by (with_reducible repeat (first | apply Kd.R_alloc | apply Kd.R_drewN | apply Kd.R_drew));exact Kd.R_mono HO_540006.out (fun _ hk=>⟨hk.1.1.1.1.1,⟨hk.1.1.1.1.2.1,⟨hk.1.1.1.1.2.2.1,⟨hk.1.1.1.1.2.2.2.1,hk.1.1.1.1.2.2.2.2⟩⟩⟩⟩)⟩,⟨by (with_reducible repeat (first | apply Kd.R_alloc | apply Kd.R_drewN | apply Kd.R_drew));exact Kd.R_mono HO_540007.out (fun _ hk=>⟨hk.1.1.1.1.1,⟨hk.1.1.1.1.2.1,⟨hk.1.1.1.1.2.2.1,⟨hk.1.1.1.1.2.2.2.1,hk.1.1.1.1.2.2.2.2⟩⟩⟩⟩)⟩,⟨by (with_reducible repeat (first | refine zai ?_ _ | refine zak ?_ | refine zah ?_ _));exact BK498.out⟩,⟨by (with_reducible repeat (first | refine zai ?_ _ | refine zak ?_ | refine zah ?_ _));exact BK539.out⟩,⟨by repeat (first | (with_reducible first | exact HB.out | apply zae | apply zac | apply zaf | refine zag ?_ GE498.out | refine zag ?_ GE539.out) | exact HB.out)⟩⟩
      case rest=>
       clear HC46
       try clear c2
       try clear p2
       try clear c3
       try clear c3b0
       try clear c4
       try clear c5
       try clear c6
       try clear c20
       try clear c22
       try clear c23
       try clear c24
       try clear c25
       try clear c26
       try clear c27
       try clear c33
       try clear c34
       try clear c34b0
       try clear c34b1
       try clear c41
       try clear c44
       try clear c54
       try clear c57
       try clear c57b0
       try clear c59
       try clear c60
       try clear c60b0
       try clear c60b1
       try clear hcz13_0
       try clear hcz13_1
       try clear hcz13_2
       try clear hcz13_3
       try clear hcz13_4
       try clear hcz13_5
       try clear hcz13_6
       try clear hcz13_7
       try clear hcz13_8
       try clear hcz15_0
       try clear hcz15_1
       try clear hcz15_2
       try clear hcz15_3
       try clear hcz15_4
       try clear hcz15_5
       try clear hcz15_6
       try clear hcz15_7
       try clear hcz15_8
       try clear hcz22_0
       try clear hcz22_1
       try clear hcz22_2
       try clear hcz22_3
       try clear hcz22_4
       try clear hcz22_5
       try clear hcz22_6
       try clear hcz22_7
       try clear hcz22_8
       try clear hcz26_0
       try clear hcz26_1
       try clear hcz26_2
       try clear hcz26_3
       try clear hcz26_4
       try clear hcz26_5
       try clear hcz26_6
       try clear hcz26_7
       try clear hcz26_8
       try clear hcz55_0
       try clear hcz55_1
       try clear hcz55_2
       try clear hcz55_3
       try clear hcz55_4
       try clear hcz55_5
       try clear hcz55_6
       try clear hcz55_7
       try clear hcz55_8
       try clear hcz5_0
       try clear hcz5_1
       try clear hcz5_2
       try clear hcz5_3
       try clear hcz5_4
       try clear hcz5_5
       try clear hcz5_6
       try clear hcz5_7
       try clear hcz5_8
       try clear hfz13_0
       try clear hfz13_1
       try clear hfz13_2
       try clear hfz13_3
       try clear hfz13_4
       try clear hfz13_5
       try clear hfz13_6
       try clear hfz13_7
       try clear hfz13_8
       try clear hfz15_0
       try clear hfz15_1
       try clear hfz15_2
       try clear hfz15_3
       try clear hfz15_4
       try clear hfz15_5
       try clear hfz15_6
       try clear hfz15_7
       try clear hfz15_8
       try clear hfz22_0
       try clear hfz22_1
       try clear hfz22_2
       try clear hfz22_3
       try clear hfz22_4
       try clear hfz22_5
       try clear hfz22_6
       try clear hfz22_7
       try clear hfz22_8
       try clear hfz26_0
       try clear hfz26_1
       try clear hfz26_2
       try clear hfz26_3
       try clear hfz26_4
       try clear hfz26_5
       try clear hfz26_6
       try clear hfz26_7
       try clear hfz26_8
       try clear hfz55_0
       try clear hfz55_1
       try clear hfz55_2
       try clear hfz55_3
       try clear hfz55_4
       try clear hfz55_5
       try clear hfz55_6
       try clear hfz55_7
       try clear hfz55_8
       try clear hfz5_0
       try clear hfz5_1
       try clear hfz5_2
       try clear hfz5_3
       try clear hfz5_4
       try clear hfz5_5
       try clear hfz5_6
       try clear hfz5_7
       try clear hfz5_8
       try clear p2
       obtain ⟨kq,x76_45,rfl,HA,HJ45,HO_4,HO_8,HO_540002,HO_540003,HO_540006,HO_540007,BK498,BK539,HB⟩:=hcut
       have hl540002_45:=(Kd.R_reads' HO_540002.out).1
       rw [hl540002_45] at HO_540002
       (try simp only [hl540002_45])
       (try simp only [hl540002_45] at BK498)
       (try simp only [hl540002_45] at BK539)
       (try simp only [hl540002_45] at HO_4)
       (try simp only [hl540002_45] at HO_8)
       (try simp only [hl540002_45] at HO_540003)
       (try simp only [hl540002_45] at HO_540006)
       (try simp only [hl540002_45] at HO_540007)
       have hl540003_45:=(Kd.R_reads' HO_540003.out).1
       rw [hl540003_45] at HO_540003
       (try simp only [hl540003_45])
       (try simp only [hl540003_45] at BK498)
       (try simp only [hl540003_45] at BK539)
       (try simp only [hl540003_45] at HO_4)
       (try simp only [hl540003_45] at HO_8)
       (try simp only [hl540003_45] at HO_540002)
       (try simp only [hl540003_45] at HO_540006)
       (try simp only [hl540003_45] at HO_540007)
       have hl540006_45:=(Kd.R_reads' HO_540006.out).1
       rw [hl540006_45] at HO_540006
       (try simp only [hl540006_45])
       (try simp only [hl540006_45] at BK498)
       (try simp only [hl540006_45] at BK539)
       (try simp only [hl540006_45] at HO_4)
       (try simp only [hl540006_45] at HO_8)
       (try simp only [hl540006_45] at HO_540002)
       (try simp only [hl540006_45] at HO_540003)
       (try simp only [hl540006_45] at HO_540007)
       have hl540007_45:=(Kd.R_reads' HO_540007.out).1
       rw [hl540007_45] at HO_540007
       (try simp only [hl540007_45])
       (try simp only [hl540007_45] at BK498)
       (try simp only [hl540007_45] at BK539)
       (try simp only [hl540007_45] at HO_4)
       (try simp only [hl540007_45] at HO_8)
       (try simp only [hl540007_45] at HO_540002)
       (try simp only [hl540007_45] at HO_540003)
       (try simp only [hl540007_45] at HO_540006)
       cases kq with
       | zero=>exact absurd HA.out (by simp [laws_FnExactBatchTell.j1])
       | succ kj45=>
        have H:=HA.out
        clear HA
        simp only [laws_FnExactBatchTell.j1] at H
        by_cases c67:x76_45=true
        ·subst c67
         rw [if_pos rfl] at H
         exact absurd (Option.some.inj (H.trans (congrArg some HT0_.out))) (by decide)
        ·replace c67:=Bool.eq_false_iff.mpr c67
         subst c67
         rw [if_neg (show ¬ (false=true) by decide)] at H
         replace H:=bnd H
         obtain ⟨⟨t570,t571⟩,A68,H⟩:=H
         dsimp only at H
         replace H:=bnd H
         obtain ⟨t572,A69,H⟩:=H
         by_cases c70:t572<0
         ·rw [if_pos c70] at H
          have c70b0:decide (t572<0)=true:=decide_eq_true c70
          clear c70
          exact absurd (Option.some.inj (H.trans (congrArg some HT0_.out))) (by decide)
         ·rw [if_neg c70] at H
          have c70b0:decide (t572<0)=false:=decide_eq_false c70
          clear c70
          by_cases c73:t572=t570
          ·rw [if_pos c73] at H
           have c73b0:(t572 == t570)=true:=beq_iff_eq.mpr c73
           have c73b1:(t572 != t570)=false:=bne_eq_false_iff_eq.mpr c73
           clear c73
           replace H:=bnd H
           obtain ⟨⟨t573,t574,t575,t578,t581,t582,t583,t586,t589⟩,A74,H⟩:=H
           dsimp only at H
           replace H:=bnd H
           obtain ⟨⟨t590,t593,t594⟩,A75,H⟩:=H
           dsimp only at H
           have HC76:=Aside0.mk H
           clear H
           obtain ⟨Ao77,co77,eo77⟩:=Kd.R_slice HO_8.out
           subst eo77
           go_upto_region 25 with (first | ((with_reducible refine zaj (f:=28) rfl ?_);refine zaB (some 79) Tru.func28 #[.slice Ao77 t540.length co77,.int .i64 1] ?_;(with_reducible refine (laws_markIntS.calls kj45 (fun k_=>some k_=(.slice Ao77 t540.length co77:Value).ownBlock) (.slice Ao77 t540.length co77) t540 1 t570 t571 w _ ?side1 ?side2 A68.out).mono ?_);(case side1=>repeat (first | (with_reducible first | exact HB.out | apply zae | apply zac | apply zaf | refine zag ?_ GE498.out | refine zag ?_ GE539.out) | exact HB.out));(case side2=>exact Kd.R_tight rfl HO_8.out);rintro e w78 ⟨rfl,hy0,hb,hkp⟩;refine ⟨_,rfl,?_⟩;have n0_:=Aside0.mk (Kd.R_mono (ok':=fun k_=>some k_≠(.slice Ao77 t540.length co77:Value).ownBlock∧some k_≠(.slice Ao27 t565.length co27:Value).ownBlock∧some k_≠(.slice Ao28 t566.length co28:Value).ownBlock∧some k_≠(.slice Ao29 t567.length co29:Value).ownBlock∧some k_≠(.slice Ao30 t568.length co30:Value).ownBlock) (Kd.R_keptB (HO_4.out) hkp (fun k_ hk_ hs_=>(hk_.1) hs_)) (fun k_ hk_=>⟨hk_.1.1,hk_.1.2.1,hk_.1.2.2.1,hk_.1.2.2.2.1,hk_.1.2.2.2.2⟩));have n1_:=Aside0.mk (Kd.R_reok rfl hy0 (fun k_ e_=>HO_8.out.1 k_ e_));have n2_:=Aside0.mk (Kd.R_mono (ok':=fun k_=>some k_≠(v518:Value).ownBlock∧some k_≠(.slice Ao77 t540.length co77:Value).ownBlock∧some k_≠(.slice Ao28 t566.length co28:Value).ownBlock∧some k_≠(.slice Ao29 t567.length co29:Value).ownBlock∧some k_≠(.slice Ao30 t568.length co30:Value).ownBlock) (Kd.R_keptB (HO_540002.out) hkp (fun k_ hk_ hs_=>(hk_.2.1) hs_)) (fun k_ hk_=>⟨hk_.1.1,hk_.1.2.1,hk_.1.2.2.1,hk_.1.2.2.2.1,hk_.1.2.2.2.2⟩));have n3_:=Aside0.mk (Kd.R_mono (ok':=fun k_=>some k_≠(v518:Value).ownBlock∧some k_≠(.slice Ao77 t540.length co77:Value).ownBlock∧some k_≠(.slice Ao27 t565.length co27:Value).ownBlock∧some k_≠(.slice Ao29 t567.length co29:Value).ownBlock∧some k_≠(.slice Ao30 t568.length co30:Value).ownBlock) (Kd.R_keptB (HO_540003.out) hkp (fun k_ hk_ hs_=>(hk_.2.1) hs_)) (fun k_ hk_=>⟨hk_.1.1,hk_.1.2.1,hk_.1.2.2.1,hk_.1.2.2.2.1,hk_.1.2.2.2.2⟩));have n4_:=Aside0.mk (Kd.R_mono (ok':=fun k_=>some k_≠(v518:Value).ownBlock∧some k_≠(.slice Ao77 t540.length co77:Value).ownBlock∧some k_≠(.slice Ao27 t565.length co27:Value).ownBlock∧some k_≠(.slice Ao28 t566.length co28:Value).ownBlock∧some k_≠(.slice Ao30 t568.length co30:Value).ownBlock) (Kd.R_keptB (HO_540006.out) hkp (fun k_ hk_ hs_=>(hk_.2.1) hs_)) (fun k_ hk_=>⟨hk_.1.1,hk_.1.2.1,hk_.1.2.2.1,hk_.1.2.2.2.1,hk_.1.2.2.2.2⟩));have n5_:=Aside0.mk (Kd.R_mono (ok':=fun k_=>some k_≠(v518:Value).ownBlock∧some k_≠(.slice Ao77 t540.length co77:Value).ownBlock∧some k_≠(.slice Ao27 t565.length co27:Value).ownBlock∧some k_≠(.slice Ao28 t566.length co28:Value).ownBlock∧some k_≠(.slice Ao29 t567.length co29:Value).ownBlock) (Kd.R_keptB (HO_540007.out) hkp (fun k_ hk_ hs_=>(hk_.2.1) hs_)) (fun k_ hk_=>⟨hk_.1.1,hk_.1.2.1,hk_.1.2.2.1,hk_.1.2.2.2.1,hk_.1.2.2.2.2⟩));have n6_:=Aside0.mk (blk_kept (by (with_reducible repeat (first | refine zai ?_ _ | refine zak ?_ | refine zah ?_ _));exact BK498.out) hkp (fun hs_=>(fun e_=>(Kd.R_ne HO_8.out BK498.out (by decide)) e_) hs_));have n7_:=Aside0.mk (blk_kept (by (with_reducible repeat (first | refine zai ?_ _ | refine zak ?_ | refine zah ?_ _));exact BK539.out) hkp (fun hs_=>(fun e_=>(Kd.R_ne HO_8.out BK539.out (by decide)) e_) hs_));have n8_:=Aside0.mk (hb);clear HO_4;clear HO_8;clear HO_540002;clear HO_540003;clear HO_540006;clear HO_540007;clear BK498;clear BK539;clear HB;have HO_4:=n0_;have HO_8:=n1_;have HO_540002:=n2_;have HO_540003:=n3_;have HO_540006:=n4_;have HO_540007:=n5_;have BK498:=n6_;have BK539:=n7_;have HB:=n8_;clear n0_ n1_ n2_ n3_ n4_ n5_ n6_ n7_ n8_;(try clear hb);(try clear hkp);(try clear hy0)) | ((with_reducible refine zaj (f:=29) rfl ?_);refine goesL_ (some 82) rfl rfl Tru.func29 (by kernel_rfl) rfl #[.slice Ao77 t571.length co77,.int .i64 1] rfl (by (try simp only [List.map_toArray,List.map_cons,List.map_nil]);first | done | (rw [show t571.length=t540.length from (Kd.R_reads' HO_8.out).1.symm] <;> rfl) | rfl | (simp only [List.length_drop,List.length_take];rfl)) ?_;(with_reducible refine (laws_heldIntS.calls kj45 _ _ t571 1 t572 _ ?side1 ?side2 A69.out).mono ?_);(case side1=>exact (Kd.R_reads' HO_8.out).2.2);(case side2=>rw [show t571.length=t540.length from (Kd.R_reads' HO_8.out).1.symm];exact (Kd.R_reads' HO_8.out).2.1);rintro e w' ⟨rfl,⟨nd,rfl⟩⟩;refine ⟨_,rfl,?_⟩;have hnb79:=NB498_539.out;have hnc79:=NB539_498.out;have hcz80_0:w78.cell? ⟨gb498,0,none⟩=some (.int .i64 a0_0):=(zab BK498.out 0).trans rfl;have hcz80_1:w78.cell? ⟨gb498,1,none⟩=some (.int .i64 a0_1):=(zab BK498.out 1).trans rfl;have hcz80_2:w78.cell? ⟨gb498,2,none⟩=some (.slice A0_2 l0_2.length c0_2):=(zab BK498.out 2).trans rfl;have hcz80_3:w78.cell? ⟨gb498,3,none⟩=some (.slice A0_3 l0_3.length c0_3):=(zab BK498.out 3).trans rfl;have hcz80_4:w78.cell? ⟨gb498,4,none⟩=some (.int .i64 a0_4):=(zab BK498.out 4).trans rfl;have hcz80_5:w78.cell? ⟨gb498,5,none⟩=some (.int .i64 a0_5):=(zab BK498.out 5).trans rfl;have hcz80_6:w78.cell? ⟨gb498,6,none⟩=some (.slice A0_6 l0_6.length c0_6):=(zab BK498.out 6).trans rfl;have hcz80_7:w78.cell? ⟨gb498,7,none⟩=some (.slice A0_7 l0_7.length c0_7):=(zab BK498.out 7).trans rfl;have hcz80_8:w78.cell? ⟨gb498,8,none⟩=some (.int .i64 a0_8):=(zab BK498.out 8).trans rfl;have hfz80_0:=zaa BK498.out 0;have hfz80_1:=zaa BK498.out 1;have hfz80_2:=zaa BK498.out 2;have hfz80_3:=zaa BK498.out 3;have hfz80_4:=zaa BK498.out 4;have hfz80_5:=zaa BK498.out 5;have hfz80_6:=zaa BK498.out 6;have hfz80_7:=zaa BK498.out 7;have hfz80_8:=zaa BK498.out 8) | ((with_reducible refine zaj (f:=24) rfl ?_);refine zaB (some 90) Tru.func24 #[.agg #[.int .i64 a0_0,.int .i64 a0_1,.slice A0_2 l0_2.length c0_2,.slice A0_3 l0_3.length c0_3,.int .i64 a0_4,.int .i64 a0_5,.slice A0_6 l0_6.length c0_6,.slice A0_7 l0_7.length c0_7,.int .i64 a0_8]] ?_;(with_reducible refine (laws_toBatch.calls kj45 a0_0 a0_1 _ _ l0_2 _ _ l0_3 a0_4 a0_5 _ _ l0_6 _ _ l0_7 a0_8 t573 t574 t575 t578 t581 t582 t583 t586 t589 _ ?side1 ?side2 ?side3 ?side4 ?side5 ?side6 ?side7 ?side8 A74.out).mono ?_);(case side1=>repeat (first | exact (Kd.C_below HR0_2.out (by repeat (first | (with_reducible first | exact HB.out | apply zae | apply zac | apply zaf | refine zag ?_ GE498.out | refine zag ?_ GE539.out) | exact HB.out))) | (with_reducible refine Kd.C_alloc ?_ _) | (with_reducible refine Kd.C_drewN ?_ _) | (with_reducible refine Kd.C_drew ?_)));(case side2=>exact HC0_2.out);(case side3=>repeat (first | exact (Kd.C_below HR0_3.out (by repeat (first | (with_reducible first | exact HB.out | apply zae | apply zac | apply zaf | refine zag ?_ GE498.out | refine zag ?_ GE539.out) | exact HB.out))) | (with_reducible refine Kd.C_alloc ?_ _) | (with_reducible refine Kd.C_drewN ?_ _) | (with_reducible refine Kd.C_drew ?_)));(case side4=>exact HC0_3.out);(case side5=>repeat (first | exact (Kd.C_below HR0_6.out (by repeat (first | (with_reducible first | exact HB.out | apply zae | apply zac | apply zaf | refine zag ?_ GE498.out | refine zag ?_ GE539.out) | exact HB.out))) | (with_reducible refine Kd.C_alloc ?_ _) | (with_reducible refine Kd.C_drewN ?_ _) | (with_reducible refine Kd.C_drew ?_)));(case side6=>exact HC0_6.out);(case side7=>repeat (first | exact (Kd.C_below HR0_7.out (by repeat (first | (with_reducible first | exact HB.out | apply zae | apply zac | apply zaf | refine zag ?_ GE498.out | refine zag ?_ GE539.out) | exact HB.out))) | (with_reducible refine Kd.C_alloc ?_ _) | (with_reducible refine Kd.C_drewN ?_ _) | (with_reducible refine Kd.C_drew ?_)));(case side8=>exact HC0_7.out);rintro e w81 ⟨v576,v579,v584,v587,rfl,ho0,ho1,ho2,ho3,hb⟩;refine ⟨_,rfl,?_⟩;have n0_:=Aside0.mk (Kd.R_mono (Kd.R_told (Kd.R_told (Kd.R_told (Kd.R_told (Kd.R_old (by (with_reducible repeat (first | apply Kd.R_alloc | apply Kd.R_drewN | apply Kd.R_drew));exact HO_4.out) hb) (Kd.R_base ho0)) (Kd.R_base ho1)) (Kd.R_base ho2)) (Kd.R_base ho3)) (fun _ h_=>h_.1));have n1_:=Aside0.mk (Kd.R_mono (Kd.R_told (Kd.R_told (Kd.R_told (Kd.R_told (Kd.R_old (by (with_reducible repeat (first | apply Kd.R_alloc | apply Kd.R_drewN | apply Kd.R_drew));exact HO_8.out) hb) (Kd.R_base ho0)) (Kd.R_base ho1)) (Kd.R_base ho2)) (Kd.R_base ho3)) (fun _ h_=>h_.1));have n2_:=Aside0.mk (Kd.R_mono (Kd.R_told (Kd.R_told (Kd.R_told (Kd.R_told (Kd.R_old (by (with_reducible repeat (first | apply Kd.R_alloc | apply Kd.R_drewN | apply Kd.R_drew));exact HO_540002.out) hb) (Kd.R_base ho0)) (Kd.R_base ho1)) (Kd.R_base ho2)) (Kd.R_base ho3)) (fun _ h_=>h_.1));have n3_:=Aside0.mk (Kd.R_mono (Kd.R_told (Kd.R_told (Kd.R_told (Kd.R_told (Kd.R_old (by (with_reducible repeat (first | apply Kd.R_alloc | apply Kd.R_drewN | apply Kd.R_drew));exact HO_540003.out) hb) (Kd.R_base ho0)) (Kd.R_base ho1)) (Kd.R_base ho2)) (Kd.R_base ho3)) (fun _ h_=>h_.1));have n4_:=Aside0.mk (Kd.R_mono (Kd.R_told (Kd.R_told (Kd.R_told (Kd.R_told (Kd.R_old (by (with_reducible repeat (first | apply Kd.R_alloc | apply Kd.R_drewN | apply Kd.R_drew));exact HO_540006.out) hb) (Kd.R_base ho0)) (Kd.R_base ho1)) (Kd.R_base ho2)) (Kd.R_base ho3)) (fun _ h_=>h_.1));have n5_:=Aside0.mk (Kd.R_mono (Kd.R_told (Kd.R_told (Kd.R_told (Kd.R_told (Kd.R_old (by (with_reducible repeat (first | apply Kd.R_alloc | apply Kd.R_drewN | apply Kd.R_drew));exact HO_540007.out) hb) (Kd.R_base ho0)) (Kd.R_base ho1)) (Kd.R_base ho2)) (Kd.R_base ho3)) (fun _ h_=>h_.1));have n6_:=Aside0.mk (Kd.R_lower (Kd.R_new' (Kd.R_new' (Kd.R_new' (Kd.R_new' (Kd.R_new' (Kd.R_new' ho0 (Kd.R_lt (by (with_reducible repeat (first | apply Kd.R_alloc | apply Kd.R_drewN | apply Kd.R_drew));exact HO_4.out))) (Kd.R_lt (by (with_reducible repeat (first | apply Kd.R_alloc | apply Kd.R_drewN | apply Kd.R_drew));exact HO_8.out))) (Kd.R_lt (by (with_reducible repeat (first | apply Kd.R_alloc | apply Kd.R_drewN | apply Kd.R_drew));exact HO_540002.out))) (Kd.R_lt (by (with_reducible repeat (first | apply Kd.R_alloc | apply Kd.R_drewN | apply Kd.R_drew));exact HO_540003.out))) (Kd.R_lt (by (with_reducible repeat (first | apply Kd.R_alloc | apply Kd.R_drewN | apply Kd.R_drew));exact HO_540006.out))) (Kd.R_lt (by (with_reducible repeat (first | apply Kd.R_alloc | apply Kd.R_drewN | apply Kd.R_drew));exact HO_540007.out))) (zal (by repeat (first | (with_reducible first | exact HB.out | apply zae | apply zac | apply zaf | refine zag ?_ GE498.out | refine zag ?_ GE539.out) | exact HB.out))));have n7_:=Aside0.mk (Kd.R_lower (Kd.R_new' (Kd.R_new' (Kd.R_new' (Kd.R_new' (Kd.R_new' (Kd.R_new' ho1 (Kd.R_lt (by (with_reducible repeat (first | apply Kd.R_alloc | apply Kd.R_drewN | apply Kd.R_drew));exact HO_4.out))) (Kd.R_lt (by (with_reducible repeat (first | apply Kd.R_alloc | apply Kd.R_drewN | apply Kd.R_drew));exact HO_8.out))) (Kd.R_lt (by (with_reducible repeat (first | apply Kd.R_alloc | apply Kd.R_drewN | apply Kd.R_drew));exact HO_540002.out))) (Kd.R_lt (by (with_reducible repeat (first | apply Kd.R_alloc | apply Kd.R_drewN | apply Kd.R_drew));exact HO_540003.out))) (Kd.R_lt (by (with_reducible repeat (first | apply Kd.R_alloc | apply Kd.R_drewN | apply Kd.R_drew));exact HO_540006.out))) (Kd.R_lt (by (with_reducible repeat (first | apply Kd.R_alloc | apply Kd.R_drewN | apply Kd.R_drew));exact HO_540007.out))) (zal (by repeat (first | (with_reducible first | exact HB.out | apply zae | apply zac | apply zaf | refine zag ?_ GE498.out | refine zag ?_ GE539.out) | exact HB.out))));have n8_:=Aside0.mk (Kd.R_lower (Kd.R_new' (Kd.R_new' (Kd.R_new' (Kd.R_new' (Kd.R_new' (Kd.R_new' ho2 (Kd.R_lt (by (with_reducible repeat (first | apply Kd.R_alloc | apply Kd.R_drewN | apply Kd.R_drew));exact HO_4.out))) (Kd.R_lt (by (with_reducible repeat (first | apply Kd.R_alloc | apply Kd.R_drewN | apply Kd.R_drew));exact HO_8.out))) (Kd.R_lt (by (with_reducible repeat (first | apply Kd.R_alloc | apply Kd.R_drewN | apply Kd.R_drew));exact HO_540002.out))) (Kd.R_lt (by (with_reducible repeat (first | apply Kd.R_alloc | apply Kd.R_drewN | apply Kd.R_drew));exact HO_540003.out))) (Kd.R_lt (by (with_reducible repeat (first | apply Kd.R_alloc | apply Kd.R_drewN | apply Kd.R_drew));exact HO_540006.out))) (Kd.R_lt (by (with_reducible repeat (first | apply Kd.R_alloc | apply Kd.R_drewN | apply Kd.R_drew));exact HO_540007.out))) (zal (by repeat (first | (with_reducible first | exact HB.out | apply zae | apply zac | apply zaf | refine zag ?_ GE498.out | refine zag ?_ GE539.out) | exact HB.out))));have n9_:=Aside0.mk (Kd.R_lower (Kd.R_new' (Kd.R_new' (Kd.R_new' (Kd.R_new' (Kd.R_new' (Kd.R_new' ho3 (Kd.R_lt (by (with_reducible repeat (first | apply Kd.R_alloc | apply Kd.R_drewN | apply Kd.R_drew));exact HO_4.out))) (Kd.R_lt (by (with_reducible repeat (first | apply Kd.R_alloc | apply Kd.R_drewN | apply Kd.R_drew));exact HO_8.out))) (Kd.R_lt (by (with_reducible repeat (first | apply Kd.R_alloc | apply Kd.R_drewN | apply Kd.R_drew));exact HO_540002.out))) (Kd.R_lt (by (with_reducible repeat (first | apply Kd.R_alloc | apply Kd.R_drewN | apply Kd.R_drew));exact HO_540003.out))) (Kd.R_lt (by (with_reducible repeat (first | apply Kd.R_alloc | apply Kd.R_drewN | apply Kd.R_drew));exact HO_540006.out))) (Kd.R_lt (by (with_reducible repeat (first | apply Kd.R_alloc | apply Kd.R_drewN | apply Kd.R_drew));exact HO_540007.out))) (zal (by repeat (first | (with_reducible first | exact HB.out | apply zae | apply zac | apply zaf | refine zag ?_ GE498.out | refine zag ?_ GE539.out) | exact HB.out))));have n10_:=Aside0.mk (zap (g:=gb498) (o:=.cells #[.int .i64 a0_0,.int .i64 a0_1,.slice A0_2 l0_2.length c0_2,.slice A0_3 l0_3.length c0_3,.int .i64 a0_4,.int .i64 a0_5,.slice A0_6 l0_6.length c0_6,.slice A0_7 l0_7.length c0_7,.int .i64 a0_8] 48 (0,0)) (by (with_reducible repeat (first | refine zai ?_ _ | refine zak ?_ | refine zah ?_ _));exact BK498.out) hb);have n11_:=Aside0.mk (zap (g:=gb539) (o:=.cells #[.int .i64 t522,.int .i64 t523,.slice Ao27 t565.length co27,.slice Ao28 t566.length co28,.int .i64 t530,.int .i64 t531,.slice Ao29 t567.length co29,.slice Ao30 t568.length co30,.int .i64 t538] 38 (0,0)) (by (with_reducible repeat (first | refine zai ?_ _ | refine zak ?_ | refine zah ?_ _));exact BK539.out) hb);have n12_:=Aside0.mk (zao (by repeat (first | (with_reducible first | exact HB.out | apply zae | apply zac | apply zaf | refine zag ?_ GE498.out | refine zag ?_ GE539.out) | exact HB.out)) hb);clear HO_4;clear HO_8;clear HO_540002;clear HO_540003;clear HO_540006;clear HO_540007;clear BK498;clear BK539;clear HB;have HO_4:=n0_;have HO_8:=n1_;have HO_540002:=n2_;have HO_540003:=n3_;have HO_540006:=n4_;have HO_540007:=n5_;have HO577:=n6_;have HO580:=n7_;have HO585:=n8_;have HO588:=n9_;have BK498:=n10_;have BK539:=n11_;have HB:=n12_;clear n0_ n1_ n2_ n3_ n4_ n5_ n6_ n7_ n8_ n9_ n10_ n11_ n12_;(try clear hb);(try clear hb2);(try clear hk);(try clear hi);(try clear ho0);(try clear ho1);(try clear ho2);(try clear ho3);obtain ⟨Ao82,co82,eo82⟩:=Kd.R_slice HO577.out;subst eo82;obtain ⟨Ao83,co83,eo83⟩:=Kd.R_slice HO580.out;subst eo83;obtain ⟨Ao84,co84,eo84⟩:=Kd.R_slice HO585.out;subst eo84;obtain ⟨Ao85,co85,eo85⟩:=Kd.R_slice HO588.out;subst eo85) | ((with_reducible refine zaj (f:=20) rfl ?_);refine zaB (some 91) Tru.func20 #[.agg #[.int .i64 t573,.int .i64 t574,.slice Ao82 t575.length co82,.slice Ao83 t578.length co83,.int .i64 t581,.int .i64 t582,.slice Ao84 t583.length co84,.slice Ao85 t586.length co85,.int .i64 t589]] ?_;(with_reducible refine (impl_BatchTell.calls kj45 t573 t574 _ _ t575 _ _ t578 t581 t582 _ _ t583 _ _ t586 t589 t590 t593 t594 _ ?side1 ?side2 ?side3 ?side4 ?side5 ?side6 ?side7 ?side8 A75.out).mono ?_);(case side1=>exact (Kd.R_reads' HO577.out).2.2);(case side2=>exact (Kd.R_reads' HO577.out).2.1);(case side3=>exact (Kd.R_reads' HO580.out).2.2);(case side4=>exact (Kd.R_reads' HO580.out).2.1);(case side5=>exact (Kd.R_reads' HO585.out).2.2);(case side6=>exact (Kd.R_reads' HO585.out).2.1);(case side7=>exact (Kd.R_reads' HO588.out).2.2);(case side8=>exact (Kd.R_reads' HO588.out).2.1);rintro e w86 ⟨v591,rfl,ho0,hb⟩;refine ⟨_,rfl,?_⟩;have n0_:=Aside0.mk (Kd.R_elder' (by (with_reducible repeat (first | apply Kd.R_alloc | apply Kd.R_drewN | apply Kd.R_drew));exact HO_4.out) (Kd.R_base ho0) hb);have n1_:=Aside0.mk (Kd.R_elder' (by (with_reducible repeat (first | apply Kd.R_alloc | apply Kd.R_drewN | apply Kd.R_drew));exact HO_8.out) (Kd.R_base ho0) hb);have n2_:=Aside0.mk (Kd.R_elder' (by (with_reducible repeat (first | apply Kd.R_alloc | apply Kd.R_drewN | apply Kd.R_drew));exact HO_540002.out) (Kd.R_base ho0) hb);have n3_:=Aside0.mk (Kd.R_elder' (by (with_reducible repeat (first | apply Kd.R_alloc | apply Kd.R_drewN | apply Kd.R_drew));exact HO_540003.out) (Kd.R_base ho0) hb);have n4_:=Aside0.mk (Kd.R_elder' (by (with_reducible repeat (first | apply Kd.R_alloc | apply Kd.R_drewN | apply Kd.R_drew));exact HO_540006.out) (Kd.R_base ho0) hb);have n5_:=Aside0.mk (Kd.R_elder' (by (with_reducible repeat (first | apply Kd.R_alloc | apply Kd.R_drewN | apply Kd.R_drew));exact HO_540007.out) (Kd.R_base ho0) hb);have n6_:=Aside0.mk (Kd.R_elder' (by (with_reducible repeat (first | apply Kd.R_alloc | apply Kd.R_drewN | apply Kd.R_drew));exact HO577.out) (Kd.R_base ho0) hb);have n7_:=Aside0.mk (Kd.R_elder' (by (with_reducible repeat (first | apply Kd.R_alloc | apply Kd.R_drewN | apply Kd.R_drew));exact HO580.out) (Kd.R_base ho0) hb);have n8_:=Aside0.mk (Kd.R_elder' (by (with_reducible repeat (first | apply Kd.R_alloc | apply Kd.R_drewN | apply Kd.R_drew));exact HO585.out) (Kd.R_base ho0) hb);have n9_:=Aside0.mk (Kd.R_elder' (by (with_reducible repeat (first | apply Kd.R_alloc | apply Kd.R_drewN | apply Kd.R_drew));exact HO588.out) (Kd.R_base ho0) hb);have n10_:=Aside0.mk (Kd.R_lower (Kd.R_new' (Kd.R_new' (Kd.R_new' (Kd.R_new' (Kd.R_new' (Kd.R_new' (Kd.R_new' (Kd.R_new' (Kd.R_new' (Kd.R_new' ho0 (Kd.R_lt (by (with_reducible repeat (first | apply Kd.R_alloc | apply Kd.R_drewN | apply Kd.R_drew));exact HO_4.out))) (Kd.R_lt (by (with_reducible repeat (first | apply Kd.R_alloc | apply Kd.R_drewN | apply Kd.R_drew));exact HO_8.out))) (Kd.R_lt (by (with_reducible repeat (first | apply Kd.R_alloc | apply Kd.R_drewN | apply Kd.R_drew));exact HO_540002.out))) (Kd.R_lt (by (with_reducible repeat (first | apply Kd.R_alloc | apply Kd.R_drewN | apply Kd.R_drew));exact HO_540003.out))) (Kd.R_lt (by (with_reducible repeat (first | apply Kd.R_alloc | apply Kd.R_drewN | apply Kd.R_drew));exact HO_540006.out))) (Kd.R_lt (by (with_reducible repeat (first | apply Kd.R_alloc | apply Kd.R_drewN | apply Kd.R_drew));exact HO_540007.out))) (Kd.R_lt (by (with_reducible repeat (first | apply Kd.R_alloc | apply Kd.R_drewN | apply Kd.R_drew));exact HO577.out))) (Kd.R_lt (by (with_reducible repeat (first | apply Kd.R_alloc | apply Kd.R_drewN | apply Kd.R_drew));exact HO580.out))) (Kd.R_lt (by (with_reducible repeat (first | apply Kd.R_alloc | apply Kd.R_drewN | apply Kd.R_drew));exact HO585.out))) (Kd.R_lt (by (with_reducible repeat (first | apply Kd.R_alloc | apply Kd.R_drewN | apply Kd.R_drew));exact HO588.out))) (zal (by repeat (first | (with_reducible first | exact HB.out | apply zae | apply zac | apply zaf | refine zag ?_ GE498.out | refine zag ?_ GE539.out) | exact HB.out))));have n11_:=Aside0.mk (zap (g:=gb498) (o:=.cells #[.int .i64 a0_0,.int .i64 a0_1,.slice A0_2 l0_2.length c0_2,.slice A0_3 l0_3.length c0_3,.int .i64 a0_4,.int .i64 a0_5,.slice A0_6 l0_6.length c0_6,.slice A0_7 l0_7.length c0_7,.int .i64 a0_8] 48 (0,0)) (by (with_reducible repeat (first | refine zai ?_ _ | refine zak ?_ | refine zah ?_ _));exact BK498.out) hb);have n12_:=Aside0.mk (zap (g:=gb539) (o:=.cells #[.int .i64 t522,.int .i64 t523,.slice Ao27 t565.length co27,.slice Ao28 t566.length co28,.int .i64 t530,.int .i64 t531,.slice Ao29 t567.length co29,.slice Ao30 t568.length co30,.int .i64 t538] 38 (0,0)) (by (with_reducible repeat (first | refine zai ?_ _ | refine zak ?_ | refine zah ?_ _));exact BK539.out) hb);have n13_:=Aside0.mk (zao (by repeat (first | (with_reducible first | exact HB.out | apply zae | apply zac | apply zaf | refine zag ?_ GE498.out | refine zag ?_ GE539.out) | exact HB.out)) hb);clear HO_4;clear HO_8;clear HO_540002;clear HO_540003;clear HO_540006;clear HO_540007;clear HO577;clear HO580;clear HO585;clear HO588;clear BK498;clear BK539;clear HB;have HO_4:=n0_;have HO_8:=n1_;have HO_540002:=n2_;have HO_540003:=n3_;have HO_540006:=n4_;have HO_540007:=n5_;have HO577:=n6_;have HO580:=n7_;have HO585:=n8_;have HO588:=n9_;have HO592:=n10_;have BK498:=n11_;have BK539:=n12_;have HB:=n13_;clear n0_ n1_ n2_ n3_ n4_ n5_ n6_ n7_ n8_ n9_ n10_ n11_ n12_ n13_;(try clear hb);(try clear hb2);(try clear hk);(try clear hi);(try clear ho0)))
           (try simp only [Act.put,List.setIfInBounds_toArray,List.set_cons_zero,List.set_cons_succ])
           go_cut [108] (fun v108 wc=>∃ (kq:Nat) (x108_75:Bool),v108 = .bool x108_75∧Aside0 (laws_FnExactBatchTell.j2 kq t571 t570 x108_75=some r)∧Aside0 (kq≤kj45)∧Aside0 (Kd.R (Kd.int .i64) 3 wc w.heap.size (fun k_=>some k_≠((.slice Ao27 t565.length co27):Value).ownBlock∧some k_≠((.slice Ao28 t566.length co28):Value).ownBlock∧some k_≠((.slice Ao29 t567.length co29):Value).ownBlock∧some k_≠((.slice Ao30 t568.length co30):Value).ownBlock) (.slice Ao77 t540.length co77) t571)∧Aside0 (Kd.R (Kd.int .i64) 3 wc w.heap.size (fun k_=>some k_≠((.slice Ao77 t540.length co77):Value).ownBlock∧some k_≠((.slice Ao28 t566.length co28):Value).ownBlock∧some k_≠((.slice Ao29 t567.length co29):Value).ownBlock∧some k_≠((.slice Ao30 t568.length co30):Value).ownBlock) (.slice Ao27 t565.length co27) t565)∧Aside0 (Kd.R (Kd.int .i64) 3 wc w.heap.size (fun k_=>some k_≠((.slice Ao77 t540.length co77):Value).ownBlock∧some k_≠((.slice Ao27 t565.length co27):Value).ownBlock∧some k_≠((.slice Ao29 t567.length co29):Value).ownBlock∧some k_≠((.slice Ao30 t568.length co30):Value).ownBlock) (.slice Ao28 t566.length co28) t566)∧Aside0 (Kd.R (Kd.int .i64) 3 wc w.heap.size (fun k_=>some k_≠((.slice Ao77 t540.length co77):Value).ownBlock∧some k_≠((.slice Ao27 t565.length co27):Value).ownBlock∧some k_≠((.slice Ao28 t566.length co28):Value).ownBlock∧some k_≠((.slice Ao30 t568.length co30):Value).ownBlock) (.slice Ao29 t567.length co29) t567)∧Aside0 (Kd.R (Kd.int .i64) 3 wc w.heap.size (fun k_=>some k_≠((.slice Ao77 t540.length co77):Value).ownBlock∧some k_≠((.slice Ao27 t565.length co27):Value).ownBlock∧some k_≠((.slice Ao28 t566.length co28):Value).ownBlock∧some k_≠((.slice Ao29 t567.length co29):Value).ownBlock) (.slice Ao30 t568.length co30) t568)∧Aside0 (wc.heap[gb498]? = some (.cells #[.int .i64 a0_0,.int .i64 a0_1,(.slice A0_2 l0_2.length c0_2),(.slice A0_3 l0_3.length c0_3),.int .i64 a0_4,.int .i64 a0_5,(.slice A0_6 l0_6.length c0_6),(.slice A0_7 l0_7.length c0_7),.int .i64 a0_8] 48 (0,0)))∧Aside0 (wc.heap[gb539]? = some (.cells #[.int .i64 t522,.int .i64 t523,(.slice Ao27 t565.length co27),(.slice Ao28 t566.length co28),.int .i64 t530,.int .i64 t531,(.slice Ao29 t567.length co29),(.slice Ao30 t568.length co30),.int .i64 t538] 38 (0,0)))∧Aside0 (Below w.heap.size w wc))
           case first=>
            have H:=HC76.out
            clear HC76
            replace H:=bnd H
            obtain ⟨t595,A87,H⟩:=H
            by_cases c88:t595=true
            ·subst c88
             rw [if_pos rfl] at H
             by_cases c89:t593=t520
             ·rw [if_pos c89] at H
              have c89b0:(t593 == t520)=true:=beq_iff_eq.mpr c89
              have c89b1:(t593 != t520)=false:=bne_eq_false_iff_eq.mpr c89
              clear c89
              (first | rw [c89b0] | (simp only [i64_w,i32_w];rw [c89b0]) | skip)
              have H':=Aside0.mk H
              clear H
              obtain ⟨Ao90,co90,eo90⟩:=Kd.R_slice HO592.out
              subst eo90
              obtain ⟨Ao91,co91,eo91⟩:=Kd.R_slice HO_4.out
              subst eo91
              go_wp2_with (first | ((with_reducible refine zaj (f:=25) rfl ?_);refine zaB (some 97) Tru.func25 #[.slice Ao90 t590.length co90,.slice Ao91 t517.length co91] ?_;(with_reducible refine (laws_eqIntS.calls kj45 _ _ t590 _ _ t517 true _ ?side1 ?side2 ?side3 ?side4 A87.out).mono ?_);(case side1=>exact (Kd.R_reads' HO592.out).2.2);(case side2=>exact (Kd.R_reads' HO592.out).2.1);(case side3=>exact (Kd.R_reads' HO_4.out).2.2);(case side4=>exact (Kd.R_reads' HO_4.out).2.1);rintro e w' ⟨rfl,⟨nd,rfl⟩⟩;refine ⟨_,rfl,?_⟩))
              go_meet
              case rel=>exact ⟨_,((t594 != t521)),rfl,H',⟨by have:=HJ10.out;have:=HJ45.out;first | omega | exact Nat.le_refl _⟩,⟨by (try simp only [hl540002_45]);(try simp only [hl540003_45]);(try simp only [hl540006_45]);(try simp only [hl540007_45]);(with_reducible repeat (first | apply Kd.R_alloc | apply Kd.R_drewN | apply Kd.R_drew));exact Kd.R_mono HO_8.out (fun _ hk=>⟨hk.1.1.1.1.1.2.1,⟨hk.1.1.1.1.1.2.2.1,⟨hk.1.1.1.1.1.2.2.2.1,hk.1.1.1.1.1.2.2.2.2⟩⟩⟩)⟩,⟨by (try simp only [hl540002_45]);(try simp only [hl540003_45]);(try simp only [hl540006_45]);(try simp only [hl540007_45]);(with_reducible repeat (first | apply Kd.R_alloc | apply Kd.R_drewN | apply Kd.R_drew));exact Kd.R_mono HO_540002.out (fun _ hk=>⟨hk.1.1.1.1.1.2.1,⟨hk.1.1.1.1.1.2.2.1,⟨hk.1.1.1.1.1.2.2.2.1,hk.1.1.1.1.1.2.2.2.2⟩⟩⟩)⟩,⟨by (try simp only [hl540002_45]);(try simp only [hl540003_45]);(try simp only [hl540006_45]);(try simp only [hl540007_45]);(with_reducible repeat (first | apply Kd.R_alloc | apply Kd.R_drewN | apply Kd.R_drew));exact Kd.R_mono HO_540003.out (fun _ hk=>⟨hk.1.1.1.1.1.2.1,⟨hk.1.1.1.1.1.2.2.1,⟨hk.1.1.1.1.1.2.2.2.1,hk.1.1.1.1.1.2.2.2.2⟩⟩⟩)⟩,⟨by (try simp only [hl540002_45]);(try simp only [hl540003_45]);(try simp only [hl540006_45]);(try simp only [hl540007_45]);(with_reducible repeat (first | apply Kd.R_alloc | apply Kd.R_drewN | apply Kd.R_drew));exact Kd.R_mono HO_540006.out (fun _ hk=>⟨hk.1.1.1.1.1.2.1,⟨hk.1.1.1.1.1.2.2.1,⟨hk.1.1.1.1.1.2.2.2.1,hk.1.1.1.1.1.2.2.2.2⟩⟩⟩)⟩,⟨by (try simp only [hl540002_45]);(try simp only [hl540003_45]);(try simp only [hl540006_45]);(try simp only [hl540007_45]);(with_reducible repeat (first | apply Kd.R_alloc | apply Kd.R_drewN | apply Kd.R_drew));exact Kd.R_mono HO_540007.out (fun _ hk=>⟨hk.1.1.1.1.1.2.1,⟨hk.1.1.1.1.1.2.2.1,⟨hk.1.1.1.1.1.2.2.2.1,hk.1.1.1.1.1.2.2.2.2⟩⟩⟩)⟩,⟨by (try simp only [hl540002_45]);(try simp only [hl540003_45]);(try simp only [hl540006_45]);(try simp only [hl540007_45]);(with_reducible repeat (first | refine zai ?_ _ | refine zak ?_ | refine zah ?_ _));exact BK498.out⟩,⟨by (try simp only [hl540002_45]);(try simp only [hl540003_45]);(try simp only [hl540006_45]);(try simp only [hl540007_45]);(with_reducible repeat (first | refine zai ?_ _ | refine zak ?_ | refine zah ?_ _));exact BK539.out⟩,⟨by repeat (first | (with_reducible first | exact HB.out | apply zae | apply zac | apply zaf | refine zag ?_ GE498.out | refine zag ?_ GE539.out) | exact HB.out)⟩⟩
             ·rw [if_neg c89] at H
              have c89b0:(t593 == t520)=false:=beq_eq_false_iff_ne.mpr c89
              have c89b1:(t593 != t520)=true:=bne_iff_ne.mpr c89
              (first | rw [c89b0] | (simp only [i64_w,i32_w];rw [c89b0]) | skip)
              have H':=Aside0.mk H
              clear H
              obtain ⟨Ao92,co92,eo92⟩:=Kd.R_slice HO592.out
              subst eo92
              obtain ⟨Ao93,co93,eo93⟩:=Kd.R_slice HO_4.out
              subst eo93
              go_wp2_with (first | ((with_reducible refine zaj (f:=25) rfl ?_);refine zaB (some 97) Tru.func25 #[.slice Ao92 t590.length co92,.slice Ao93 t517.length co93] ?_;(with_reducible refine (laws_eqIntS.calls kj45 _ _ t590 _ _ t517 true _ ?side1 ?side2 ?side3 ?side4 A87.out).mono ?_);(case side1=>exact (Kd.R_reads' HO592.out).2.2);(case side2=>exact (Kd.R_reads' HO592.out).2.1);(case side3=>exact (Kd.R_reads' HO_4.out).2.2);(case side4=>exact (Kd.R_reads' HO_4.out).2.1);rintro e w' ⟨rfl,⟨nd,rfl⟩⟩;refine ⟨_,rfl,?_⟩))
              go_meet
              case rel=>exact ⟨_,(true),rfl,H',⟨by have:=HJ10.out;have:=HJ45.out;first | omega | exact Nat.le_refl _⟩,⟨by (try simp only [hl540002_45]);(try simp only [hl540003_45]);(try simp only [hl540006_45]);(try simp only [hl540007_45]);(with_reducible repeat (first | apply Kd.R_alloc | apply Kd.R_drewN | apply Kd.R_drew));exact Kd.R_mono HO_8.out (fun _ hk=>⟨hk.1.1.1.1.1.2.1,⟨hk.1.1.1.1.1.2.2.1,⟨hk.1.1.1.1.1.2.2.2.1,hk.1.1.1.1.1.2.2.2.2⟩⟩⟩)⟩,⟨by (try simp only [hl540002_45]);(try simp only [hl540003_45]);(try simp only [hl540006_45]);(try simp only [hl540007_45]);(with_reducible repeat (first | apply Kd.R_alloc | apply Kd.R_drewN | apply Kd.R_drew));exact Kd.R_mono HO_540002.out (fun _ hk=>⟨hk.1.1.1.1.1.2.1,⟨hk.1.1.1.1.1.2.2.1,⟨hk.1.1.1.1.1.2.2.2.1,hk.1.1.1.1.1.2.2.2.2⟩⟩⟩)⟩,⟨by (try simp only [hl540002_45]);(try simp only [hl540003_45]);(try simp only [hl540006_45]);(try simp only [hl540007_45]);(with_reducible repeat (first | apply Kd.R_alloc | apply Kd.R_drewN | apply Kd.R_drew));exact Kd.R_mono HO_540003.out (fun _ hk=>⟨hk.1.1.1.1.1.2.1,⟨hk.1.1.1.1.1.2.2.1,⟨hk.1.1.1.1.1.2.2.2.1,hk.1.1.1.1.1.2.2.2.2⟩⟩⟩)⟩,⟨by (try simp only [hl540002_45]);(try simp only [hl540003_45]);(try simp only [hl540006_45]);(try simp only [hl540007_45]);(with_reducible repeat (first | apply Kd.R_alloc | apply Kd.R_drewN | apply Kd.R_drew));exact Kd.R_mono HO_540006.out (fun _ hk=>⟨hk.1.1.1.1.1.2.1,⟨hk.1.1.1.1.1.2.2.1,⟨hk.1.1.1.1.1.2.2.2.1,hk.1.1.1.1.1.2.2.2.2⟩⟩⟩)⟩,⟨by (try simp only [hl540002_45]);(try simp only [hl540003_45]);(try simp only [hl540006_45]);(try simp only [hl540007_45]);(with_reducible repeat (first | apply Kd.R_alloc | apply Kd.R_drewN | apply Kd.R_drew));exact Kd.R_mono HO_540007.out (fun _ hk=>⟨hk.1.1.1.1.1.2.1,⟨hk.1.1.1.1.1.2.2.1,⟨hk.1.1.1.1.1.2.2.2.1,hk.1.1.1.1.1.2.2.2.2⟩⟩⟩)⟩,⟨by (try simp only [hl540002_45]);(try simp only [hl540003_45]);(try simp only [hl540006_45]);(try simp only [hl540007_45]);(with_reducible repeat (first | refine zai ?_ _ | refine zak ?_ | refine zah ?_ _));exact BK498.out⟩,⟨by (try simp only [hl540002_45]);(try simp only [hl540003_45]);(try simp only [hl540006_45]);(try simp only [hl540007_45]);(with_reducible repeat (first | refine zai ?_ _ | refine zak ?_ | refine zah ?_ _));exact BK539.out⟩,⟨by repeat (first | (with_reducible first | exact HB.out | apply zae | apply zac | apply zaf | refine zag ?_ GE498.out | refine zag ?_ GE539.out) | exact HB.out)⟩⟩
            ·replace c88:=Bool.eq_false_iff.mpr c88
             subst c88
             rw [if_neg (show ¬ (false=true) by decide)] at H
             have H':=Aside0.mk H
             clear H
             obtain ⟨Ao94,co94,eo94⟩:=Kd.R_slice HO592.out
             subst eo94
             obtain ⟨Ao95,co95,eo95⟩:=Kd.R_slice HO_4.out
             subst eo95
             go_wp2_with (first | ((with_reducible refine zaj (f:=25) rfl ?_);refine zaB (some 97) Tru.func25 #[.slice Ao94 t590.length co94,.slice Ao95 t517.length co95] ?_;(with_reducible refine (laws_eqIntS.calls kj45 _ _ t590 _ _ t517 false _ ?side1 ?side2 ?side3 ?side4 A87.out).mono ?_);(case side1=>exact (Kd.R_reads' HO592.out).2.2);(case side2=>exact (Kd.R_reads' HO592.out).2.1);(case side3=>exact (Kd.R_reads' HO_4.out).2.2);(case side4=>exact (Kd.R_reads' HO_4.out).2.1);rintro e w' ⟨rfl,⟨nd,rfl⟩⟩;refine ⟨_,rfl,?_⟩))
             go_meet
             case rel=>exact ⟨_,(true),rfl,H',⟨by have:=HJ10.out;have:=HJ45.out;first | omega | exact Nat.le_refl _⟩,⟨by (try simp only [hl540002_45]);(try simp only [hl540003_45]);(try simp only [hl540006_45]);(try simp only [hl540007_45]);(with_reducible repeat (first | apply Kd.R_alloc | apply Kd.R_drewN | apply Kd.R_drew));exact Kd.R_mono HO_8.out (fun _ hk=>⟨hk.1.1.1.1.1.2.1,⟨hk.1.1.1.1.1.2.2.1,⟨hk.1.1.1.1.1.2.2.2.1,hk.1.1.1.1.1.2.2.2.2⟩⟩⟩)⟩,⟨by (try simp only [hl540002_45]);(try simp only [hl540003_45]);(try simp only [hl540006_45]);(try simp only [hl540007_45]);(with_reducible repeat (first | apply Kd.R_alloc | apply Kd.R_drewN | apply Kd.R_drew));exact Kd.R_mono HO_540002.out (fun _ hk=>⟨hk.1.1.1.1.1.2.1,⟨hk.1.1.1.1.1.2.2.1,⟨hk.1.1.1.1.1.2.2.2.1,hk.1.1.1.1.1.2.2.2.2⟩⟩⟩)⟩,⟨by (try simp only [hl540002_45]);(try simp only [hl540003_45]);(try simp only [hl540006_45]);(try simp only [hl540007_45]);(with_reducible repeat (first | apply Kd.R_alloc | apply Kd.R_drewN | apply Kd.R_drew));exact Kd.R_mono HO_540003.out (fun _ hk=>⟨hk.1.1.1.1.1.2.1,⟨hk.1.1.1.1.1.2.2.1,⟨hk.1.1.1.1.1.2.2.2.1,hk.1.1.1.1.1.2.2.2.2⟩⟩⟩)⟩,⟨by (try simp only [hl540002_45]);(try simp only [hl540003_45]);(try simp only [hl540006_45]);(try simp only [hl540007_45]);(with_reducible repeat (first | apply Kd.R_alloc | apply Kd.R_drewN | apply Kd.R_drew));exact Kd.R_mono HO_540006.out (fun _ hk=>⟨hk.1.1.1.1.1.2.1,⟨hk.1.1.1.1.1.2.2.1,⟨hk.1.1.1.1.1.2.2.2.1,hk.1.1.1.1.1.2.2.2.2⟩⟩⟩)⟩,⟨by (try simp only [hl540002_45]);(try simp only [hl540003_45]);(try simp only [hl540006_45]);(try simp only [hl540007_45]);(with_reducible repeat (first | apply Kd.R_alloc | apply Kd.R_drewN | apply Kd.R_drew));exact Kd.R_mono HO_540007.out (fun _ hk=>⟨hk.1.1.1.1.1.2.1,⟨hk.1.1.1.1.1.2.2.1,⟨hk.1.1.1.1.1.2.2.2.1,hk.1.1.1.1.1.2.2.2.2⟩⟩⟩)⟩,⟨by (try simp only [hl540002_45]);(try simp only [hl540003_45]);(try simp only [hl540006_45]);(try simp only [hl540007_45]);(with_reducible repeat (first | refine zai ?_ _ | refine zak ?_ | refine zah ?_ _));exact BK498.out⟩,⟨by (try simp only [hl540002_45]);(try simp only [hl540003_45]);(try simp only [hl540006_45]);(try simp only [hl540007_45]);(with_reducible repeat (first | refine zai ?_ _ | refine zak ?_ | refine zah ?_ _));exact BK539.out⟩,⟨by repeat (first | (with_reducible first | exact HB.out | apply zae | apply zac | apply zaf | refine zag ?_ GE498.out | refine zag ?_ GE539.out) | exact HB.out)⟩⟩
           case rest=>
            clear HC76
            try clear c2
            try clear p2
            try clear c3
            try clear c3b0
            try clear c4
            try clear c5
            try clear c6
            try clear c7
            try clear c8
            try clear c20
            try clear c22
            try clear c23
            try clear c24
            try clear c25
            try clear c26
            try clear c27
            try clear c28
            try clear c29
            try clear c33
            try clear c34
            try clear c34b0
            try clear c34b1
            try clear c41
            try clear c44
            try clear c54
            try clear c57
            try clear c57b0
            try clear c59
            try clear c60
            try clear c60b0
            try clear c60b1
            try clear c67
            try clear c70
            try clear c70b0
            try clear c73
            try clear c73b0
            try clear c73b1
            try clear c79
            try clear c88
            try clear c89
            try clear c89b0
            try clear c89b1
            try clear hcz13_0
            try clear hcz13_1
            try clear hcz13_2
            try clear hcz13_3
            try clear hcz13_4
            try clear hcz13_5
            try clear hcz13_6
            try clear hcz13_7
            try clear hcz13_8
            try clear hcz15_0
            try clear hcz15_1
            try clear hcz15_2
            try clear hcz15_3
            try clear hcz15_4
            try clear hcz15_5
            try clear hcz15_6
            try clear hcz15_7
            try clear hcz15_8
            try clear hcz22_0
            try clear hcz22_1
            try clear hcz22_2
            try clear hcz22_3
            try clear hcz22_4
            try clear hcz22_5
            try clear hcz22_6
            try clear hcz22_7
            try clear hcz22_8
            try clear hcz26_0
            try clear hcz26_1
            try clear hcz26_2
            try clear hcz26_3
            try clear hcz26_4
            try clear hcz26_5
            try clear hcz26_6
            try clear hcz26_7
            try clear hcz26_8
            try clear hcz55_0
            try clear hcz55_1
            try clear hcz55_2
            try clear hcz55_3
            try clear hcz55_4
            try clear hcz55_5
            try clear hcz55_6
            try clear hcz55_7
            try clear hcz55_8
            try clear hcz5_0
            try clear hcz5_1
            try clear hcz5_2
            try clear hcz5_3
            try clear hcz5_4
            try clear hcz5_5
            try clear hcz5_6
            try clear hcz5_7
            try clear hcz5_8
            try clear hcz80_0
            try clear hcz80_1
            try clear hcz80_2
            try clear hcz80_3
            try clear hcz80_4
            try clear hcz80_5
            try clear hcz80_6
            try clear hcz80_7
            try clear hcz80_8
            try clear hfz13_0
            try clear hfz13_1
            try clear hfz13_2
            try clear hfz13_3
            try clear hfz13_4
            try clear hfz13_5
            try clear hfz13_6
            try clear hfz13_7
            try clear hfz13_8
            try clear hfz15_0
            try clear hfz15_1
            try clear hfz15_2
            try clear hfz15_3
            try clear hfz15_4
            try clear hfz15_5
            try clear hfz15_6
            try clear hfz15_7
            try clear hfz15_8
            try clear hfz22_0
            try clear hfz22_1
            try clear hfz22_2
            try clear hfz22_3
            try clear hfz22_4
            try clear hfz22_5
            try clear hfz22_6
            try clear hfz22_7
            try clear hfz22_8
            try clear hfz26_0
            try clear hfz26_1
            try clear hfz26_2
            try clear hfz26_3
            try clear hfz26_4
            try clear hfz26_5
            try clear hfz26_6
            try clear hfz26_7
            try clear hfz26_8
            try clear hfz55_0
            try clear hfz55_1
            try clear hfz55_2
            try clear hfz55_3
            try clear hfz55_4
            try clear hfz55_5
            try clear hfz55_6
            try clear hfz55_7
            try clear hfz55_8
            try clear hfz5_0
            try clear hfz5_1
            try clear hfz5_2
            try clear hfz5_3
            try clear hfz5_4
            try clear hfz5_5
            try clear hfz5_6
            try clear hfz5_7
            try clear hfz5_8
            try clear hfz80_0
            try clear hfz80_1
            try clear hfz80_2
            try clear hfz80_3
            try clear hfz80_4
            try clear hfz80_5
            try clear hfz80_6
            try clear hfz80_7
            try clear hfz80_8
            try clear p2
            obtain ⟨kq,x108_75,rfl,HA,HJ75,HO_8,HO_540002,HO_540003,HO_540006,HO_540007,BK498,BK539,HB⟩:=hcut
            have hl8_75:=(Kd.R_reads' HO_8.out).1
            rw [hl8_75] at HO_8
            (try simp only [hl8_75])
            (try simp only [hl8_75] at BK498)
            (try simp only [hl8_75] at BK539)
            (try simp only [hl8_75] at HO_540002)
            (try simp only [hl8_75] at HO_540003)
            (try simp only [hl8_75] at HO_540006)
            (try simp only [hl8_75] at HO_540007)
            cases kq with
            | zero=>exact absurd HA.out (by simp [laws_FnExactBatchTell.j2])
            | succ kj75=>
             have H:=HA.out
             clear HA
             simp only [laws_FnExactBatchTell.j2] at H
             by_cases c96:x108_75=true
             ·subst c96
              rw [if_pos rfl] at H
              exact absurd (Option.some.inj (H.trans (congrArg some HT0_.out))) (by decide)
             ·replace c96:=Bool.eq_false_iff.mpr c96
              subst c96
              rw [if_neg (show ¬ (false=true) by decide)] at H
              replace H:=bnd H
              obtain ⟨t596,A97,H⟩:=H
              by_cases c98:t596<0
              ·rw [if_pos c98] at H
               have c98b0:decide (t596<0)=true:=decide_eq_true c98
               clear c98
               exact absurd (Option.some.inj (H.trans (congrArg some HT0_.out))) (by decide)
              ·rw [if_neg c98] at H
               have c98b0:decide (t596<0)=false:=decide_eq_false c98
               clear c98
               by_cases c99:t596=t570
               ·rw [if_pos c99] at H
                have c99b0:(t596 == t570)=true:=beq_iff_eq.mpr c99
                have c99b1:(t596 != t570)=false:=bne_eq_false_iff_eq.mpr c99
                clear c99
                obtain rfl:=Option.some.inj H
                go_wp2_with (first | ((with_reducible refine zaj (f:=29) rfl ?_);refine zaB (some 111) Tru.func29 #[.slice Ao77 t571.length co77,.int .i64 1] ?_;(with_reducible refine (laws_heldIntS.calls kj75 _ _ t571 1 t596 _ ?side1 ?side2 A97.out).mono ?_);(case side1=>exact (Kd.R_reads' HO_8.out).2.2);(case side2=>exact (Kd.R_reads' HO_8.out).2.1);rintro e w' ⟨rfl,⟨nd,rfl⟩⟩;refine ⟨_,rfl,?_⟩))
                go_ret
                exact ⟨rfl,by repeat (first | (with_reducible first | exact HB.out | apply zae | apply zac | apply zaf | refine zag ?_ GE498.out | refine zag ?_ GE539.out) | exact HB.out)⟩
               ·rw [if_neg c99] at H
                have c99b0:(t596 == t570)=false:=beq_eq_false_iff_ne.mpr c99
                have c99b1:(t596 != t570)=true:=bne_iff_ne.mpr c99
                exact absurd (Option.some.inj (H.trans (congrArg some HT0_.out))) (by decide)
          ·rw [if_neg c73] at H
           have c73b0:(t572 == t570)=false:=beq_eq_false_iff_ne.mpr c73
           have c73b1:(t572 != t570)=true:=bne_iff_ne.mpr c73
           exact absurd (Option.some.inj (H.trans (congrArg some HT0_.out))) (by decide)
     ·replace c44:=Bool.eq_false_iff.mpr c44
      subst c44
      rw [if_neg (show ¬ (false=true) by decide)] at H
      exact absurd (Option.some.inj (H.trans (congrArg some HT0_.out))) (by decide)
end Go.Proofs.Ytjkikkgpenhbgaa.Ba
