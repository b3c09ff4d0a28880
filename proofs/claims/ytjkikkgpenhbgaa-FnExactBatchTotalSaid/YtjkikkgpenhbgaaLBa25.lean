import Derived.Test.YtjkikkgpenhbgaaLBa0
import Derived.Test.YtjkikkgpenhbgaaLBa20
import Derived.Test.YtjkikkgpenhbgaaLBa21
import Derived.Test.YtjkikkgpenhbgaaLBa22
import Derived.Test.YtjkikkgpenhbgaaLBa24
namespace Go.Proofs.Ytjkikkgpenhbgaa.Ba
open Go.RowKit Go.Proofs.YtjkikkgpenhbgaaW.PrintWords Go.Proofs.YtjkikkgpenhbgaaW.PrintLast Go.Proofs.YtjkikkgpenhbgaaW.PrintMore
attribute [local go_sem] max2_int min2_int max_two min_two max_three min_three max_four min_four
set_option linter.unusedVariables false
set_option linter.unusedSimpArgs false
def laws_FnExactBatchTotal.j0:Nat→Bool→Int→Int→List Int→List Int→Int→Int→List Int→List Int→Int→Int→Int→List Int→List Int→Int→Int→List Int→List Int→Int→Option (Bool)
 | 0,_,_,_,_,_,_,_,_,_,_,_,_,_,_,_,_,_,_,_=>none
 | k+1,x34,x614000,x614001,x614002,x614003,x614004,x614005,x614006,x614007,x614008,x652000,x652001,x652002,x652003,x652004,x652005,x652006,x652007,x652008=>if x34=true then (some false) else ((laws_toBatch.f k x614000 x614001 x614002 x614003 x614004 x614005 x614006 x614007 x614008).bind fun bt654=>((laws_eqBatch.f k x652000 x652001 x652002 x652003 x652004 x652005 x652006 x652007 x652008 bt654.1 bt654.2.1 bt654.2.2.1 bt654.2.2.2.1 bt654.2.2.2.2.1 bt654.2.2.2.2.2.1 bt654.2.2.2.2.2.2.1 bt654.2.2.2.2.2.2.2.1 bt654.2.2.2.2.2.2.2.2).bind fun t671=>(if t671=true then (some true) else (some false))))
def laws_FnExactBatchTotal.f (k:Nat) (a0_0:Int) (a0_1:Int) (l0_2:List Int) (l0_3:List Int) (a0_4:Int) (a0_5:Int) (l0_6:List Int) (l0_7:List Int) (a0_8:Int):Option (Bool):=(laws_szBatch.f a0_0 a0_1 l0_2 l0_3 a0_4 a0_5 l0_6 l0_7 a0_8 1048576).bind fun t614=>(if t614<0 then (some true) else ((laws_toBatch.f k a0_0 a0_1 l0_2 l0_3 a0_4 a0_5 l0_6 l0_7 a0_8).bind fun bt615=>((spec_BatchTotal.f k bt615.1 bt615.2.1 bt615.2.2.1 bt615.2.2.2.1 bt615.2.2.2.2.1 bt615.2.2.2.2.2.1 bt615.2.2.2.2.2.2.1 bt615.2.2.2.2.2.2.2.1 bt615.2.2.2.2.2.2.2.2).bind fun bt632=>((laws_toBatch.f k a0_0 a0_1 l0_2 l0_3 a0_4 a0_5 l0_6 l0_7 a0_8).bind fun bt634=>((impl_BatchTotal.f k bt634.1 bt634.2.1 bt634.2.2.1 bt634.2.2.2.1 bt634.2.2.2.2.1 bt634.2.2.2.2.2.1 bt634.2.2.2.2.2.2.1 bt634.2.2.2.2.2.2.2.1 bt634.2.2.2.2.2.2.2.2).bind fun bt652=>(if bt652.1=bt632.1 then (laws_FnExactBatchTotal.j0 k (bt652.2 != bt632.2) a0_0 a0_1 l0_2 l0_3 a0_4 a0_5 l0_6 l0_7 a0_8 bt634.1 bt634.2.1 bt634.2.2.1 bt634.2.2.2.1 bt634.2.2.2.2.1 bt634.2.2.2.2.2.1 bt634.2.2.2.2.2.2.1 bt634.2.2.2.2.2.2.2.1 bt634.2.2.2.2.2.2.2.2) else (laws_FnExactBatchTotal.j0 k true a0_0 a0_1 l0_2 l0_3 a0_4 a0_5 l0_6 l0_7 a0_8 bt634.1 bt634.2.1 bt634.2.2.1 bt634.2.2.2.1 bt634.2.2.2.2.1 bt634.2.2.2.2.2.1 bt634.2.2.2.2.2.2.1 bt634.2.2.2.2.2.2.2.1 bt634.2.2.2.2.2.2.2.2)))))))
set_option maxHeartbeats 8000000 in
set_option maxRecDepth 100000 in
theorem laws_FnExactBatchTotal.calls (k:Nat) (a0_0:Int) (a0_1:Int) (A0_2:Option Addr) (c0_2:Nat) (l0_2:List Int) (A0_3:Option Addr) (c0_3:Nat) (l0_3:List Int) (a0_4:Int) (a0_5:Int) (A0_6:Option Addr) (c0_6:Nat) (l0_6:List Int) (A0_7:Option Addr) (c0_7:Nat) (l0_7:List Int) (a0_8:Int) (r:Bool) (w:World) (hr0_2:Kd.C (Kd.int .i64) w A0_2 l0_2.length l0_2) (hc0_2:l0_2.length≤c0_2) (hr0_3:Kd.C (Kd.int .i64) w A0_3 l0_3.length l0_3) (hc0_3:l0_3.length≤c0_3) (hr0_6:Kd.C (Kd.int .i64) w A0_6 l0_6.length l0_6) (hc0_6:l0_6.length≤c0_6) (hr0_7:Kd.C (Kd.int .i64) w A0_7 l0_7.length l0_7) (hc0_7:l0_7.length≤c0_7) (h:laws_FnExactBatchTotal.f k a0_0 a0_1 l0_2 l0_3 a0_4 a0_5 l0_6 l0_7 a0_8=some r) (hTr:r=true) :
  Calls Tru.prog 7 #[.agg #[.int .i64 a0_0,.int .i64 a0_1,.slice A0_2 l0_2.length c0_2,.slice A0_3 l0_3.length c0_3,.int .i64 a0_4,.int .i64 a0_5,.slice A0_6 l0_6.length c0_6,.slice A0_7 l0_7.length c0_7,.int .i64 a0_8]] w fun e w'=>e = .returned (.bool r)∧Below w.heap.size w w':=by
 have HT0_:=Aside0.mk hTr
 clear hTr
 have hu48:=((Tru.und _).trans Try.underlying48)
 have hu38:=((Tru.und _).trans Try.underlying38)
 have HR0_2:=Aside0.mk hr0_2
 have HC0_2:=Aside0.mk hc0_2
 clear hr0_2 hc0_2
 have HR0_3:=Aside0.mk hr0_3
 have HC0_3:=Aside0.mk hc0_3
 clear hr0_3 hc0_3
 have HR0_6:=Aside0.mk hr0_6
 have HC0_6:=Aside0.mk hc0_6
 clear hr0_6 hc0_6
 have HR0_7:=Aside0.mk hr0_7
 have HC0_7:=Aside0.mk hc0_7
 clear hr0_7 hc0_7
 have HB:=Aside0.mk (Below.refl w.heap.size w)
 have H:((laws_szBatch.f a0_0 a0_1 l0_2 l0_3 a0_4 a0_5 l0_6 l0_7 a0_8 1048576).bind fun t614=>(if t614<0 then (some true) else ((laws_toBatch.f k a0_0 a0_1 l0_2 l0_3 a0_4 a0_5 l0_6 l0_7 a0_8).bind fun bt615=>((spec_BatchTotal.f k bt615.1 bt615.2.1 bt615.2.2.1 bt615.2.2.2.1 bt615.2.2.2.2.1 bt615.2.2.2.2.2.1 bt615.2.2.2.2.2.2.1 bt615.2.2.2.2.2.2.2.1 bt615.2.2.2.2.2.2.2.2).bind fun bt632=>((laws_toBatch.f k a0_0 a0_1 l0_2 l0_3 a0_4 a0_5 l0_6 l0_7 a0_8).bind fun bt634=>((impl_BatchTotal.f k bt634.1 bt634.2.1 bt634.2.2.1 bt634.2.2.2.1 bt634.2.2.2.2.1 bt634.2.2.2.2.2.1 bt634.2.2.2.2.2.2.1 bt634.2.2.2.2.2.2.2.1 bt634.2.2.2.2.2.2.2.2).bind fun bt652=>(if bt652.1=bt632.1 then (laws_FnExactBatchTotal.j0 k (bt652.2 != bt632.2) a0_0 a0_1 l0_2 l0_3 a0_4 a0_5 l0_6 l0_7 a0_8 bt634.1 bt634.2.1 bt634.2.2.1 bt634.2.2.2.1 bt634.2.2.2.2.1 bt634.2.2.2.2.2.1 bt634.2.2.2.2.2.2.1 bt634.2.2.2.2.2.2.2.1 bt634.2.2.2.2.2.2.2.2) else (laws_FnExactBatchTotal.j0 k true a0_0 a0_1 l0_2 l0_3 a0_4 a0_5 l0_6 l0_7 a0_8 bt634.1 bt634.2.1 bt634.2.2.1 bt634.2.2.2.1 bt634.2.2.2.2.1 bt634.2.2.2.2.2.1 bt634.2.2.2.2.2.2.1 bt634.2.2.2.2.2.2.2.1 bt634.2.2.2.2.2.2.2.2))))))))=some r:=h
 clear h
 replace H:=Option.bind_eq_some_iff.mp H
 obtain ⟨t614,A20,H⟩:=H
 replace H:(if t614<0 then (some true) else ((laws_toBatch.f k a0_0 a0_1 l0_2 l0_3 a0_4 a0_5 l0_6 l0_7 a0_8).bind fun bt615=>((spec_BatchTotal.f k bt615.1 bt615.2.1 bt615.2.2.1 bt615.2.2.2.1 bt615.2.2.2.2.1 bt615.2.2.2.2.2.1 bt615.2.2.2.2.2.2.1 bt615.2.2.2.2.2.2.2.1 bt615.2.2.2.2.2.2.2.2).bind fun bt632=>((laws_toBatch.f k a0_0 a0_1 l0_2 l0_3 a0_4 a0_5 l0_6 l0_7 a0_8).bind fun bt634=>((impl_BatchTotal.f k bt634.1 bt634.2.1 bt634.2.2.1 bt634.2.2.2.1 bt634.2.2.2.2.1 bt634.2.2.2.2.2.1 bt634.2.2.2.2.2.2.1 bt634.2.2.2.2.2.2.2.1 bt634.2.2.2.2.2.2.2.2).bind fun bt652=>(if bt652.1=bt632.1 then (laws_FnExactBatchTotal.j0 k (bt652.2 != bt632.2) a0_0 a0_1 l0_2 l0_3 a0_4 a0_5 l0_6 l0_7 a0_8 bt634.1 bt634.2.1 bt634.2.2.1 bt634.2.2.2.1 bt634.2.2.2.2.1 bt634.2.2.2.2.2.1 bt634.2.2.2.2.2.2.1 bt634.2.2.2.2.2.2.2.1 bt634.2.2.2.2.2.2.2.2) else (laws_FnExactBatchTotal.j0 k true a0_0 a0_1 l0_2 l0_3 a0_4 a0_5 l0_6 l0_7 a0_8 bt634.1 bt634.2.1 bt634.2.2.1 bt634.2.2.2.1 bt634.2.2.2.2.1 bt634.2.2.2.2.2.1 bt634.2.2.2.2.2.2.1 bt634.2.2.2.2.2.2.2.1 bt634.2.2.2.2.2.2.2.2)))))))=some r:=H
 have A2:=Aside0.mk A20
 clear A20
 by_cases c3:t614<0
 ·rw [if_pos c3] at H
  have c3b0:decide (t614<0)=true:=decide_eq_true c3
  clear c3
  obtain rfl:=Option.some.inj H
  go_enter Tru.func7,Try.ntmps7
  go_wp2_with (first | ((with_reducible refine zam (N:=1) rfl ?_);refine box_event ?hg (N:=1) ?hd (cs:=#[.int .i64 a0_0,.int .i64 a0_1,.slice A0_2 l0_2.length c0_2,.slice A0_3 l0_3.length c0_3,.int .i64 a0_4,.int .i64 a0_5,.slice A0_6 l0_6.length c0_6,.slice A0_7 l0_7.length c0_7,.int .i64 a0_8]) (t:=48) ?hr ?_;(case hd=>rfl);(case hg=>rfl);(case hr=>first | (go_simp;done) | (go_simp;rfl));intro gb613 hg w4 hbox hb;have n0_:=Aside0.mk (zao (by repeat (first | (with_reducible first | exact HB.out | apply zae | apply zac | apply zaf) | exact HB.out)) hb);have n1_:=Aside0.mk (hbox);have n2_:=Aside0.mk ((by rw [hg];exact (zal (by repeat (first | (with_reducible first | exact HB.out | apply zae | apply zac | apply zaf) | exact HB.out))):w.heap.size≤gb613));have n3_:=Aside0.mk ((by rw [hg];exact (zal (by repeat (first | (with_reducible first | exact HB.out | apply zae | apply zac | apply zaf) | exact HB.out))):w.heap.size≤gb613));clear HB;have HB:=n0_;have BK613:=n1_;have GW613:=n2_;have GE613:=n3_;clear n0_ n1_ n2_ n3_;clear hb hbox hg;have hcz5_0:w4.cell? ⟨gb613,0,none⟩=some (.int .i64 a0_0):=(zab BK613.out 0).trans rfl;have hcz5_1:w4.cell? ⟨gb613,1,none⟩=some (.int .i64 a0_1):=(zab BK613.out 1).trans rfl;have hcz5_2:w4.cell? ⟨gb613,2,none⟩=some (.slice A0_2 l0_2.length c0_2):=(zab BK613.out 2).trans rfl;have hcz5_3:w4.cell? ⟨gb613,3,none⟩=some (.slice A0_3 l0_3.length c0_3):=(zab BK613.out 3).trans rfl;have hcz5_4:w4.cell? ⟨gb613,4,none⟩=some (.int .i64 a0_4):=(zab BK613.out 4).trans rfl;have hcz5_5:w4.cell? ⟨gb613,5,none⟩=some (.int .i64 a0_5):=(zab BK613.out 5).trans rfl;have hcz5_6:w4.cell? ⟨gb613,6,none⟩=some (.slice A0_6 l0_6.length c0_6):=(zab BK613.out 6).trans rfl;have hcz5_7:w4.cell? ⟨gb613,7,none⟩=some (.slice A0_7 l0_7.length c0_7):=(zab BK613.out 7).trans rfl;have hcz5_8:w4.cell? ⟨gb613,8,none⟩=some (.int .i64 a0_8):=(zab BK613.out 8).trans rfl;have hfz5_0:=zaa BK613.out 0;have hfz5_1:=zaa BK613.out 1;have hfz5_2:=zaa BK613.out 2;have hfz5_3:=zaa BK613.out 3;have hfz5_4:=zaa BK613.out 4;have hfz5_5:=zaa BK613.out 5;have hfz5_6:=zaa BK613.out 6;have hfz5_7:=zaa BK613.out 7;have hfz5_8:=zaa BK613.out 8) | ((with_reducible refine zah (f:=22) rfl ?_);refine goesL_ (some 11) rfl rfl Tru.func22 (by kernel_rfl) rfl #[.agg #[.int .i64 a0_0,.int .i64 a0_1,.slice A0_2 l0_2.length c0_2,.slice A0_3 l0_3.length c0_3,.int .i64 a0_4,.int .i64 a0_5,.slice A0_6 l0_6.length c0_6,.slice A0_7 l0_7.length c0_7,.int .i64 a0_8],.int .i64 1048576] rfl (by (try simp only [List.map_toArray,List.map_cons,List.map_nil]);first | done | rfl | (simp only [List.length_drop,List.length_take];rfl)) ?_;(with_reducible refine (laws_szBatch.calls a0_0 a0_1 _ _ l0_2 _ _ l0_3 a0_4 a0_5 _ _ l0_6 _ _ l0_7 a0_8 1048576 t614 _ ?side1 ?side2 ?side3 ?side4 ?side5 ?side6 ?side7 ?side8 A2.out).mono ?_);(case side1=>repeat (first | exact (Kd.C_below HR0_2.out HB.out) | (with_reducible refine Kd.C_alloc ?_ _) | (with_reducible refine Kd.C_drewN ?_ _) | (with_reducible refine Kd.C_drew ?_)));(case side2=>exact HC0_2.out);(case side3=>repeat (first | exact (Kd.C_below HR0_3.out HB.out) | (with_reducible refine Kd.C_alloc ?_ _) | (with_reducible refine Kd.C_drewN ?_ _) | (with_reducible refine Kd.C_drew ?_)));(case side4=>exact HC0_3.out);(case side5=>repeat (first | exact (Kd.C_below HR0_6.out HB.out) | (with_reducible refine Kd.C_alloc ?_ _) | (with_reducible refine Kd.C_drewN ?_ _) | (with_reducible refine Kd.C_drew ?_)));(case side6=>exact HC0_6.out);(case side7=>repeat (first | exact (Kd.C_below HR0_7.out HB.out) | (with_reducible refine Kd.C_alloc ?_ _) | (with_reducible refine Kd.C_drewN ?_ _) | (with_reducible refine Kd.C_drew ?_)));(case side8=>exact HC0_7.out);rintro e w6 ⟨rfl,hb⟩;refine ⟨_,rfl,?_⟩;have n0_:=Aside0.mk (zaq (g:=gb613) (o:=.cells #[.int .i64 a0_0,.int .i64 a0_1,.slice A0_2 l0_2.length c0_2,.slice A0_3 l0_3.length c0_3,.int .i64 a0_4,.int .i64 a0_5,.slice A0_6 l0_6.length c0_6,.slice A0_7 l0_7.length c0_7,.int .i64 a0_8] 48 (0,0)) (by (with_reducible repeat (first | refine zaj ?_ _ | refine zak ?_ | refine zai ?_ _));exact BK613.out) hb);have n1_:=Aside0.mk (zao (by repeat (first | (with_reducible first | exact HB.out | apply zae | apply zac | apply zaf | refine zag ?_ GE613.out) | exact HB.out)) hb);clear BK613;clear HB;have BK613:=n0_;have HB:=n1_;clear n0_ n1_;(try clear hb);(try clear hb2);(try clear hk);(try clear hi)))
  go_ret
  exact ⟨by first | rfl | (simp [errW_none,errW_some] <;> rfl) | (simp [*,errW_none,errW_some] <;> rfl),by repeat (first | (with_reducible first | exact HB.out | apply zae | apply zac | apply zaf | refine zag ?_ GE613.out) | exact HB.out)⟩
 ·rw [if_neg c3] at H
  have c3b0:decide (t614<0)=false:=decide_eq_false c3
  clear c3
  replace H:=Option.bind_eq_some_iff.mp H
  obtain ⟨⟨t615,t616,t617,t620,t623,t624,t625,t628,t631⟩,A70,H⟩:=H
  replace H:((spec_BatchTotal.f k t615 t616 t617 t620 t623 t624 t625 t628 t631).bind fun bt632=>((laws_toBatch.f k a0_0 a0_1 l0_2 l0_3 a0_4 a0_5 l0_6 l0_7 a0_8).bind fun bt634=>((impl_BatchTotal.f k bt634.1 bt634.2.1 bt634.2.2.1 bt634.2.2.2.1 bt634.2.2.2.2.1 bt634.2.2.2.2.2.1 bt634.2.2.2.2.2.2.1 bt634.2.2.2.2.2.2.2.1 bt634.2.2.2.2.2.2.2.2).bind fun bt652=>(if bt652.1=bt632.1 then (laws_FnExactBatchTotal.j0 k (bt652.2 != bt632.2) a0_0 a0_1 l0_2 l0_3 a0_4 a0_5 l0_6 l0_7 a0_8 bt634.1 bt634.2.1 bt634.2.2.1 bt634.2.2.2.1 bt634.2.2.2.2.1 bt634.2.2.2.2.2.1 bt634.2.2.2.2.2.2.1 bt634.2.2.2.2.2.2.2.1 bt634.2.2.2.2.2.2.2.2) else (laws_FnExactBatchTotal.j0 k true a0_0 a0_1 l0_2 l0_3 a0_4 a0_5 l0_6 l0_7 a0_8 bt634.1 bt634.2.1 bt634.2.2.1 bt634.2.2.2.1 bt634.2.2.2.2.1 bt634.2.2.2.2.2.1 bt634.2.2.2.2.2.2.1 bt634.2.2.2.2.2.2.2.1 bt634.2.2.2.2.2.2.2.2)))))=some r:=H
  have A7:=Aside0.mk A70
  clear A70
  replace H:=Option.bind_eq_some_iff.mp H
  obtain ⟨⟨t632,t633⟩,A80,H⟩:=H
  replace H:((laws_toBatch.f k a0_0 a0_1 l0_2 l0_3 a0_4 a0_5 l0_6 l0_7 a0_8).bind fun bt634=>((impl_BatchTotal.f k bt634.1 bt634.2.1 bt634.2.2.1 bt634.2.2.2.1 bt634.2.2.2.2.1 bt634.2.2.2.2.2.1 bt634.2.2.2.2.2.2.1 bt634.2.2.2.2.2.2.2.1 bt634.2.2.2.2.2.2.2.2).bind fun bt652=>(if bt652.1=t632 then (laws_FnExactBatchTotal.j0 k (bt652.2 != t633) a0_0 a0_1 l0_2 l0_3 a0_4 a0_5 l0_6 l0_7 a0_8 bt634.1 bt634.2.1 bt634.2.2.1 bt634.2.2.2.1 bt634.2.2.2.2.1 bt634.2.2.2.2.2.1 bt634.2.2.2.2.2.2.1 bt634.2.2.2.2.2.2.2.1 bt634.2.2.2.2.2.2.2.2) else (laws_FnExactBatchTotal.j0 k true a0_0 a0_1 l0_2 l0_3 a0_4 a0_5 l0_6 l0_7 a0_8 bt634.1 bt634.2.1 bt634.2.2.1 bt634.2.2.2.1 bt634.2.2.2.2.1 bt634.2.2.2.2.2.1 bt634.2.2.2.2.2.2.1 bt634.2.2.2.2.2.2.2.1 bt634.2.2.2.2.2.2.2.2))))=some r:=H
  have A8:=Aside0.mk A80
  clear A80
  replace H:=Option.bind_eq_some_iff.mp H
  obtain ⟨⟨t634,t635,t636,t639,t642,t643,t644,t647,t650⟩,A90,H⟩:=H
  replace H:((impl_BatchTotal.f k t634 t635 t636 t639 t642 t643 t644 t647 t650).bind fun bt652=>(if bt652.1=t632 then (laws_FnExactBatchTotal.j0 k (bt652.2 != t633) a0_0 a0_1 l0_2 l0_3 a0_4 a0_5 l0_6 l0_7 a0_8 t634 t635 t636 t639 t642 t643 t644 t647 t650) else (laws_FnExactBatchTotal.j0 k true a0_0 a0_1 l0_2 l0_3 a0_4 a0_5 l0_6 l0_7 a0_8 t634 t635 t636 t639 t642 t643 t644 t647 t650)))=some r:=H
  have A9:=Aside0.mk A90
  clear A90
  replace H:=Option.bind_eq_some_iff.mp H
  obtain ⟨⟨t652,t653⟩,A100,H⟩:=H
  replace H:(if t652=t632 then (laws_FnExactBatchTotal.j0 k (t653 != t633) a0_0 a0_1 l0_2 l0_3 a0_4 a0_5 l0_6 l0_7 a0_8 t634 t635 t636 t639 t642 t643 t644 t647 t650) else (laws_FnExactBatchTotal.j0 k true a0_0 a0_1 l0_2 l0_3 a0_4 a0_5 l0_6 l0_7 a0_8 t634 t635 t636 t639 t642 t643 t644 t647 t650))=some r:=H
  have A10:=Aside0.mk A100
  clear A100
  have HC11:=Aside0.mk H
  clear H
  go_enter Tru.func7,Try.ntmps7
  go_upto_region 8 with (first | ((with_reducible refine zam (N:=1) rfl ?_);refine box_event ?hg (N:=1) ?hd (cs:=#[.int .i64 a0_0,.int .i64 a0_1,.slice A0_2 l0_2.length c0_2,.slice A0_3 l0_3.length c0_3,.int .i64 a0_4,.int .i64 a0_5,.slice A0_6 l0_6.length c0_6,.slice A0_7 l0_7.length c0_7,.int .i64 a0_8]) (t:=48) ?hr ?_;(case hd=>rfl);(case hg=>rfl);(case hr=>first | (go_simp;done) | (go_simp;rfl));intro gb613 hg w12 hbox hb;have n0_:=Aside0.mk (zao (by repeat (first | (with_reducible first | exact HB.out | apply zae | apply zac | apply zaf) | exact HB.out)) hb);have n1_:=Aside0.mk (hbox);have n2_:=Aside0.mk ((by rw [hg];exact (zal (by repeat (first | (with_reducible first | exact HB.out | apply zae | apply zac | apply zaf) | exact HB.out))):w.heap.size≤gb613));have n3_:=Aside0.mk ((by rw [hg];exact (zal (by repeat (first | (with_reducible first | exact HB.out | apply zae | apply zac | apply zaf) | exact HB.out))):w.heap.size≤gb613));clear HB;have HB:=n0_;have BK613:=n1_;have GW613:=n2_;have GE613:=n3_;clear n0_ n1_ n2_ n3_;clear hb hbox hg;have hcz13_0:w12.cell? ⟨gb613,0,none⟩=some (.int .i64 a0_0):=(zab BK613.out 0).trans rfl;have hcz13_1:w12.cell? ⟨gb613,1,none⟩=some (.int .i64 a0_1):=(zab BK613.out 1).trans rfl;have hcz13_2:w12.cell? ⟨gb613,2,none⟩=some (.slice A0_2 l0_2.length c0_2):=(zab BK613.out 2).trans rfl;have hcz13_3:w12.cell? ⟨gb613,3,none⟩=some (.slice A0_3 l0_3.length c0_3):=(zab BK613.out 3).trans rfl;have hcz13_4:w12.cell? ⟨gb613,4,none⟩=some (.int .i64 a0_4):=(zab BK613.out 4).trans rfl;have hcz13_5:w12.cell? ⟨gb613,5,none⟩=some (.int .i64 a0_5):=(zab BK613.out 5).trans rfl;have hcz13_6:w12.cell? ⟨gb613,6,none⟩=some (.slice A0_6 l0_6.length c0_6):=(zab BK613.out 6).trans rfl;have hcz13_7:w12.cell? ⟨gb613,7,none⟩=some (.slice A0_7 l0_7.length c0_7):=(zab BK613.out 7).trans rfl;have hcz13_8:w12.cell? ⟨gb613,8,none⟩=some (.int .i64 a0_8):=(zab BK613.out 8).trans rfl;have hfz13_0:=zaa BK613.out 0;have hfz13_1:=zaa BK613.out 1;have hfz13_2:=zaa BK613.out 2;have hfz13_3:=zaa BK613.out 3;have hfz13_4:=zaa BK613.out 4;have hfz13_5:=zaa BK613.out 5;have hfz13_6:=zaa BK613.out 6;have hfz13_7:=zaa BK613.out 7;have hfz13_8:=zaa BK613.out 8) | ((with_reducible refine zah (f:=22) rfl ?_);refine goesL_ (some 11) rfl rfl Tru.func22 (by kernel_rfl) rfl #[.agg #[.int .i64 a0_0,.int .i64 a0_1,.slice A0_2 l0_2.length c0_2,.slice A0_3 l0_3.length c0_3,.int .i64 a0_4,.int .i64 a0_5,.slice A0_6 l0_6.length c0_6,.slice A0_7 l0_7.length c0_7,.int .i64 a0_8],.int .i64 1048576] rfl (by (try simp only [List.map_toArray,List.map_cons,List.map_nil]);first | done | rfl | (simp only [List.length_drop,List.length_take];rfl)) ?_;(with_reducible refine (laws_szBatch.calls a0_0 a0_1 _ _ l0_2 _ _ l0_3 a0_4 a0_5 _ _ l0_6 _ _ l0_7 a0_8 1048576 t614 _ ?side1 ?side2 ?side3 ?side4 ?side5 ?side6 ?side7 ?side8 A2.out).mono ?_);(case side1=>repeat (first | exact (Kd.C_below HR0_2.out HB.out) | (with_reducible refine Kd.C_alloc ?_ _) | (with_reducible refine Kd.C_drewN ?_ _) | (with_reducible refine Kd.C_drew ?_)));(case side2=>exact HC0_2.out);(case side3=>repeat (first | exact (Kd.C_below HR0_3.out HB.out) | (with_reducible refine Kd.C_alloc ?_ _) | (with_reducible refine Kd.C_drewN ?_ _) | (with_reducible refine Kd.C_drew ?_)));(case side4=>exact HC0_3.out);(case side5=>repeat (first | exact (Kd.C_below HR0_6.out HB.out) | (with_reducible refine Kd.C_alloc ?_ _) | (with_reducible refine Kd.C_drewN ?_ _) | (with_reducible refine Kd.C_drew ?_)));(case side6=>exact HC0_6.out);(case side7=>repeat (first | exact (Kd.C_below HR0_7.out HB.out) | (with_reducible refine Kd.C_alloc ?_ _) | (with_reducible refine Kd.C_drewN ?_ _) | (with_reducible refine Kd.C_drew ?_)));(case side8=>exact HC0_7.out);rintro e w14 ⟨rfl,hb⟩;refine ⟨_,rfl,?_⟩;have n0_:=Aside0.mk (zaq (g:=gb613) (o:=.cells #[.int .i64 a0_0,.int .i64 a0_1,.slice A0_2 l0_2.length c0_2,.slice A0_3 l0_3.length c0_3,.int .i64 a0_4,.int .i64 a0_5,.slice A0_6 l0_6.length c0_6,.slice A0_7 l0_7.length c0_7,.int .i64 a0_8] 48 (0,0)) (by (with_reducible repeat (first | refine zaj ?_ _ | refine zak ?_ | refine zai ?_ _));exact BK613.out) hb);have n1_:=Aside0.mk (zao (by repeat (first | (with_reducible first | exact HB.out | apply zae | apply zac | apply zaf | refine zag ?_ GE613.out) | exact HB.out)) hb);clear BK613;clear HB;have BK613:=n0_;have HB:=n1_;clear n0_ n1_;(try clear hb);(try clear hb2);(try clear hk);(try clear hi);have hcz15_0:w14.cell? ⟨gb613,0,none⟩=some (.int .i64 a0_0):=(zab BK613.out 0).trans rfl;have hcz15_1:w14.cell? ⟨gb613,1,none⟩=some (.int .i64 a0_1):=(zab BK613.out 1).trans rfl;have hcz15_2:w14.cell? ⟨gb613,2,none⟩=some (.slice A0_2 l0_2.length c0_2):=(zab BK613.out 2).trans rfl;have hcz15_3:w14.cell? ⟨gb613,3,none⟩=some (.slice A0_3 l0_3.length c0_3):=(zab BK613.out 3).trans rfl;have hcz15_4:w14.cell? ⟨gb613,4,none⟩=some (.int .i64 a0_4):=(zab BK613.out 4).trans rfl;have hcz15_5:w14.cell? ⟨gb613,5,none⟩=some (.int .i64 a0_5):=(zab BK613.out 5).trans rfl;have hcz15_6:w14.cell? ⟨gb613,6,none⟩=some (.slice A0_6 l0_6.length c0_6):=(zab BK613.out 6).trans rfl;have hcz15_7:w14.cell? ⟨gb613,7,none⟩=some (.slice A0_7 l0_7.length c0_7):=(zab BK613.out 7).trans rfl;have hcz15_8:w14.cell? ⟨gb613,8,none⟩=some (.int .i64 a0_8):=(zab BK613.out 8).trans rfl;have hfz15_0:=zaa BK613.out 0;have hfz15_1:=zaa BK613.out 1;have hfz15_2:=zaa BK613.out 2;have hfz15_3:=zaa BK613.out 3;have hfz15_4:=zaa BK613.out 4;have hfz15_5:=zaa BK613.out 5;have hfz15_6:=zaa BK613.out 6;have hfz15_7:=zaa BK613.out 7;have hfz15_8:=zaa BK613.out 8) | ((with_reducible refine zah (f:=24) rfl ?_);refine goesL_ (some 16) rfl rfl Tru.func24 (by kernel_rfl) rfl #[.agg #[.int .i64 a0_0,.int .i64 a0_1,.slice A0_2 l0_2.length c0_2,.slice A0_3 l0_3.length c0_3,.int .i64 a0_4,.int .i64 a0_5,.slice A0_6 l0_6.length c0_6,.slice A0_7 l0_7.length c0_7,.int .i64 a0_8]] rfl (by (try simp only [List.map_toArray,List.map_cons,List.map_nil]);first | done | rfl | (simp only [List.length_drop,List.length_take];rfl)) ?_;(with_reducible refine (laws_toBatch.calls k a0_0 a0_1 _ _ l0_2 _ _ l0_3 a0_4 a0_5 _ _ l0_6 _ _ l0_7 a0_8 t615 t616 t617 t620 t623 t624 t625 t628 t631 _ ?side1 ?side2 ?side3 ?side4 ?side5 ?side6 ?side7 ?side8 A7.out).mono ?_);(case side1=>repeat (first | exact (Kd.C_below HR0_2.out HB.out) | (with_reducible refine Kd.C_alloc ?_ _) | (with_reducible refine Kd.C_drewN ?_ _) | (with_reducible refine Kd.C_drew ?_)));(case side2=>exact HC0_2.out);(case side3=>repeat (first | exact (Kd.C_below HR0_3.out HB.out) | (with_reducible refine Kd.C_alloc ?_ _) | (with_reducible refine Kd.C_drewN ?_ _) | (with_reducible refine Kd.C_drew ?_)));(case side4=>exact HC0_3.out);(case side5=>repeat (first | exact (Kd.C_below HR0_6.out HB.out) | (with_reducible refine Kd.C_alloc ?_ _) | (with_reducible refine Kd.C_drewN ?_ _) | (with_reducible refine Kd.C_drew ?_)));(case side6=>exact HC0_6.out);(case side7=>repeat (first | exact (Kd.C_below HR0_7.out HB.out) | (with_reducible refine Kd.C_alloc ?_ _) | (with_reducible refine Kd.C_drewN ?_ _) | (with_reducible refine Kd.C_drew ?_)));(case side8=>exact HC0_7.out);rintro e w16 ⟨v618,v621,v626,v629,rfl,ho0,ho1,ho2,ho3,hb⟩;refine ⟨_,rfl,?_⟩;have n0_:=Aside0.mk (Kd.R_lower ho0 (zal (by repeat (first | (with_reducible first | exact HB.out | apply zae | apply zac | apply zaf | refine zag ?_ GE613.out) | exact HB.out))));have n1_:=Aside0.mk (Kd.R_lower ho1 (zal (by repeat (first | (with_reducible first | exact HB.out | apply zae | apply zac | apply zaf | refine zag ?_ GE613.out) | exact HB.out))));have n2_:=Aside0.mk (Kd.R_lower ho2 (zal (by repeat (first | (with_reducible first | exact HB.out | apply zae | apply zac | apply zaf | refine zag ?_ GE613.out) | exact HB.out))));have n3_:=Aside0.mk (Kd.R_lower ho3 (zal (by repeat (first | (with_reducible first | exact HB.out | apply zae | apply zac | apply zaf | refine zag ?_ GE613.out) | exact HB.out))));have n4_:=Aside0.mk (zaq (g:=gb613) (o:=.cells #[.int .i64 a0_0,.int .i64 a0_1,.slice A0_2 l0_2.length c0_2,.slice A0_3 l0_3.length c0_3,.int .i64 a0_4,.int .i64 a0_5,.slice A0_6 l0_6.length c0_6,.slice A0_7 l0_7.length c0_7,.int .i64 a0_8] 48 (0,0)) (by (with_reducible repeat (first | refine zaj ?_ _ | refine zak ?_ | refine zai ?_ _));exact BK613.out) hb);have n5_:=Aside0.mk (zao (by repeat (first | (with_reducible first | exact HB.out | apply zae | apply zac | apply zaf | refine zag ?_ GE613.out) | exact HB.out)) hb);clear BK613;clear HB;have HO619:=n0_;have HO622:=n1_;have HO627:=n2_;have HO630:=n3_;have BK613:=n4_;have HB:=n5_;clear n0_ n1_ n2_ n3_ n4_ n5_;(try clear hb);(try clear hb2);(try clear hk);(try clear hi);(try clear ho0);(try clear ho1);(try clear ho2);(try clear ho3);obtain ⟨Ao17,co17,eo17⟩:=Kd.R_slice HO619.out;subst eo17;obtain ⟨Ao18,co18,eo18⟩:=Kd.R_slice HO622.out;subst eo18;obtain ⟨Ao19,co19,eo19⟩:=Kd.R_slice HO627.out;subst eo19;obtain ⟨Ao20,co20,eo20⟩:=Kd.R_slice HO630.out;subst eo20) | ((with_reducible refine zah (f:=30) rfl ?_);refine goesL_ (some 17) rfl rfl Tru.func30 (by kernel_rfl) rfl #[.agg #[.int .i64 t615,.int .i64 t616,.slice Ao17 t617.length co17,.slice Ao18 t620.length co18,.int .i64 t623,.int .i64 t624,.slice Ao19 t625.length co19,.slice Ao20 t628.length co20,.int .i64 t631]] rfl (by (try simp only [List.map_toArray,List.map_cons,List.map_nil]);first | done | rfl | (simp only [List.length_drop,List.length_take];rfl)) ?_;(with_reducible refine (spec_BatchTotal.calls k t615 t616 _ _ t617 _ _ t620 t623 t624 _ _ t625 _ _ t628 t631 t632 t633 _ ?side1 ?side2 ?side3 ?side4 ?side5 ?side6 ?side7 ?side8 A8.out).mono ?_);(case side1=>repeat (first | exact (Kd.R_reads' HO619.out).2.2 | (with_reducible refine Kd.C_alloc ?_ _) | (with_reducible refine Kd.C_drewN ?_ _) | (with_reducible refine Kd.C_drew ?_)));(case side2=>exact (Kd.R_reads' HO619.out).2.1);(case side3=>repeat (first | exact (Kd.R_reads' HO622.out).2.2 | (with_reducible refine Kd.C_alloc ?_ _) | (with_reducible refine Kd.C_drewN ?_ _) | (with_reducible refine Kd.C_drew ?_)));(case side4=>exact (Kd.R_reads' HO622.out).2.1);(case side5=>repeat (first | exact (Kd.R_reads' HO627.out).2.2 | (with_reducible refine Kd.C_alloc ?_ _) | (with_reducible refine Kd.C_drewN ?_ _) | (with_reducible refine Kd.C_drew ?_)));(case side6=>exact (Kd.R_reads' HO627.out).2.1);(case side7=>repeat (first | exact (Kd.R_reads' HO630.out).2.2 | (with_reducible refine Kd.C_alloc ?_ _) | (with_reducible refine Kd.C_drewN ?_ _) | (with_reducible refine Kd.C_drew ?_)));(case side8=>exact (Kd.R_reads' HO630.out).2.1);rintro e w21 ⟨rfl,hb⟩;refine ⟨_,rfl,?_⟩;have n0_:=Aside0.mk (Kd.R_below (by (with_reducible repeat (first | apply Kd.R_alloc | apply Kd.R_drewN | apply Kd.R_drew));exact HO619.out) hb);have n1_:=Aside0.mk (Kd.R_below (by (with_reducible repeat (first | apply Kd.R_alloc | apply Kd.R_drewN | apply Kd.R_drew));exact HO622.out) hb);have n2_:=Aside0.mk (Kd.R_below (by (with_reducible repeat (first | apply Kd.R_alloc | apply Kd.R_drewN | apply Kd.R_drew));exact HO627.out) hb);have n3_:=Aside0.mk (Kd.R_below (by (with_reducible repeat (first | apply Kd.R_alloc | apply Kd.R_drewN | apply Kd.R_drew));exact HO630.out) hb);have n4_:=Aside0.mk (zaq (g:=gb613) (o:=.cells #[.int .i64 a0_0,.int .i64 a0_1,.slice A0_2 l0_2.length c0_2,.slice A0_3 l0_3.length c0_3,.int .i64 a0_4,.int .i64 a0_5,.slice A0_6 l0_6.length c0_6,.slice A0_7 l0_7.length c0_7,.int .i64 a0_8] 48 (0,0)) (by (with_reducible repeat (first | refine zaj ?_ _ | refine zak ?_ | refine zai ?_ _));exact BK613.out) hb);have n5_:=Aside0.mk (zao (by repeat (first | (with_reducible first | exact HB.out | apply zae | apply zac | apply zaf | refine zag ?_ GE613.out) | exact HB.out)) hb);clear HO619;clear HO622;clear HO627;clear HO630;clear BK613;clear HB;have HO619:=n0_;have HO622:=n1_;have HO627:=n2_;have HO630:=n3_;have BK613:=n4_;have HB:=n5_;clear n0_ n1_ n2_ n3_ n4_ n5_;(try clear hb);(try clear hb2);(try clear hk);(try clear hi);have hcz22_0:w21.cell? ⟨gb613,0,none⟩=some (.int .i64 a0_0):=(zab BK613.out 0).trans rfl;have hcz22_1:w21.cell? ⟨gb613,1,none⟩=some (.int .i64 a0_1):=(zab BK613.out 1).trans rfl;have hcz22_2:w21.cell? ⟨gb613,2,none⟩=some (.slice A0_2 l0_2.length c0_2):=(zab BK613.out 2).trans rfl;have hcz22_3:w21.cell? ⟨gb613,3,none⟩=some (.slice A0_3 l0_3.length c0_3):=(zab BK613.out 3).trans rfl;have hcz22_4:w21.cell? ⟨gb613,4,none⟩=some (.int .i64 a0_4):=(zab BK613.out 4).trans rfl;have hcz22_5:w21.cell? ⟨gb613,5,none⟩=some (.int .i64 a0_5):=(zab BK613.out 5).trans rfl;have hcz22_6:w21.cell? ⟨gb613,6,none⟩=some (.slice A0_6 l0_6.length c0_6):=(zab BK613.out 6).trans rfl;have hcz22_7:w21.cell? ⟨gb613,7,none⟩=some (.slice A0_7 l0_7.length c0_7):=(zab BK613.out 7).trans rfl;have hcz22_8:w21.cell? ⟨gb613,8,none⟩=some (.int .i64 a0_8):=(zab BK613.out 8).trans rfl;have hfz22_0:=zaa BK613.out 0;have hfz22_1:=zaa BK613.out 1;have hfz22_2:=zaa BK613.out 2;have hfz22_3:=zaa BK613.out 3;have hfz22_4:=zaa BK613.out 4;have hfz22_5:=zaa BK613.out 5;have hfz22_6:=zaa BK613.out 6;have hfz22_7:=zaa BK613.out 7;have hfz22_8:=zaa BK613.out 8) | ((with_reducible refine zah (f:=24) rfl ?_);refine goesL_ (some 21) rfl rfl Tru.func24 (by kernel_rfl) rfl #[.agg #[.int .i64 a0_0,.int .i64 a0_1,.slice A0_2 l0_2.length c0_2,.slice A0_3 l0_3.length c0_3,.int .i64 a0_4,.int .i64 a0_5,.slice A0_6 l0_6.length c0_6,.slice A0_7 l0_7.length c0_7,.int .i64 a0_8]] rfl (by (try simp only [List.map_toArray,List.map_cons,List.map_nil]);first | done | rfl | (simp only [List.length_drop,List.length_take];rfl)) ?_;(with_reducible refine (laws_toBatch.calls k a0_0 a0_1 _ _ l0_2 _ _ l0_3 a0_4 a0_5 _ _ l0_6 _ _ l0_7 a0_8 t634 t635 t636 t639 t642 t643 t644 t647 t650 _ ?side1 ?side2 ?side3 ?side4 ?side5 ?side6 ?side7 ?side8 A9.out).mono ?_);(case side1=>repeat (first | exact (Kd.C_below HR0_2.out HB.out) | (with_reducible refine Kd.C_alloc ?_ _) | (with_reducible refine Kd.C_drewN ?_ _) | (with_reducible refine Kd.C_drew ?_)));(case side2=>exact HC0_2.out);(case side3=>repeat (first | exact (Kd.C_below HR0_3.out HB.out) | (with_reducible refine Kd.C_alloc ?_ _) | (with_reducible refine Kd.C_drewN ?_ _) | (with_reducible refine Kd.C_drew ?_)));(case side4=>exact HC0_3.out);(case side5=>repeat (first | exact (Kd.C_below HR0_6.out HB.out) | (with_reducible refine Kd.C_alloc ?_ _) | (with_reducible refine Kd.C_drewN ?_ _) | (with_reducible refine Kd.C_drew ?_)));(case side6=>exact HC0_6.out);(case side7=>repeat (first | exact (Kd.C_below HR0_7.out HB.out) | (with_reducible refine Kd.C_alloc ?_ _) | (with_reducible refine Kd.C_drewN ?_ _) | (with_reducible refine Kd.C_drew ?_)));(case side8=>exact HC0_7.out);rintro e w23 ⟨v637,v640,v645,v648,rfl,ho0,ho1,ho2,ho3,hb⟩;refine ⟨_,rfl,?_⟩;have n0_:=Aside0.mk (Kd.R_mono (Kd.R_told (Kd.R_told (Kd.R_told (Kd.R_told (Kd.R_old (by (with_reducible repeat (first | apply Kd.R_alloc | apply Kd.R_drewN | apply Kd.R_drew));exact HO619.out) hb) (Kd.R_base ho0)) (Kd.R_base ho1)) (Kd.R_base ho2)) (Kd.R_base ho3)) (fun _ h_=>h_.1));have n1_:=Aside0.mk (Kd.R_mono (Kd.R_told (Kd.R_told (Kd.R_told (Kd.R_told (Kd.R_old (by (with_reducible repeat (first | apply Kd.R_alloc | apply Kd.R_drewN | apply Kd.R_drew));exact HO622.out) hb) (Kd.R_base ho0)) (Kd.R_base ho1)) (Kd.R_base ho2)) (Kd.R_base ho3)) (fun _ h_=>h_.1));have n2_:=Aside0.mk (Kd.R_mono (Kd.R_told (Kd.R_told (Kd.R_told (Kd.R_told (Kd.R_old (by (with_reducible repeat (first | apply Kd.R_alloc | apply Kd.R_drewN | apply Kd.R_drew));exact HO627.out) hb) (Kd.R_base ho0)) (Kd.R_base ho1)) (Kd.R_base ho2)) (Kd.R_base ho3)) (fun _ h_=>h_.1));have n3_:=Aside0.mk (Kd.R_mono (Kd.R_told (Kd.R_told (Kd.R_told (Kd.R_told (Kd.R_old (by (with_reducible repeat (first | apply Kd.R_alloc | apply Kd.R_drewN | apply Kd.R_drew));exact HO630.out) hb) (Kd.R_base ho0)) (Kd.R_base ho1)) (Kd.R_base ho2)) (Kd.R_base ho3)) (fun _ h_=>h_.1));have n4_:=Aside0.mk (Kd.R_lower (Kd.R_new' (Kd.R_new' (Kd.R_new' (Kd.R_new' ho0 (Kd.R_lt (by (with_reducible repeat (first | apply Kd.R_alloc | apply Kd.R_drewN | apply Kd.R_drew));exact HO619.out))) (Kd.R_lt (by (with_reducible repeat (first | apply Kd.R_alloc | apply Kd.R_drewN | apply Kd.R_drew));exact HO622.out))) (Kd.R_lt (by (with_reducible repeat (first | apply Kd.R_alloc | apply Kd.R_drewN | apply Kd.R_drew));exact HO627.out))) (Kd.R_lt (by (with_reducible repeat (first | apply Kd.R_alloc | apply Kd.R_drewN | apply Kd.R_drew));exact HO630.out))) (zal (by repeat (first | (with_reducible first | exact HB.out | apply zae | apply zac | apply zaf | refine zag ?_ GE613.out) | exact HB.out))));have n5_:=Aside0.mk (Kd.R_lower (Kd.R_new' (Kd.R_new' (Kd.R_new' (Kd.R_new' ho1 (Kd.R_lt (by (with_reducible repeat (first | apply Kd.R_alloc | apply Kd.R_drewN | apply Kd.R_drew));exact HO619.out))) (Kd.R_lt (by (with_reducible repeat (first | apply Kd.R_alloc | apply Kd.R_drewN | apply Kd.R_drew));exact HO622.out))) (Kd.R_lt (by (with_reducible repeat (first | apply Kd.R_alloc | apply Kd.R_drewN | apply Kd.R_drew));exact HO627.out))) (Kd.R_lt (by (with_reducible repeat (first | apply Kd.R_alloc | apply Kd.R_drewN | apply Kd.R_drew));exact HO630.out))) (zal (by repeat (first | (with_reducible first | exact HB.out | apply zae | apply zac | apply zaf | refine zag ?_ GE613.out) | exact HB.out))));have n6_:=Aside0.mk (Kd.R_lower (Kd.R_new' (Kd.R_new' (Kd.R_new' (Kd.R_new' ho2 (Kd.R_lt (by (with_reducible repeat (first | apply Kd.R_alloc | apply Kd.R_drewN | apply Kd.R_drew));exact HO619.out))) (Kd.R_lt (by (with_reducible repeat (first | apply Kd.R_alloc | apply Kd.R_drewN | apply Kd.R_drew));exact HO622.out))) (Kd.R_lt (by (with_reducible repeat (first | apply Kd.R_alloc | apply Kd.R_drewN | apply Kd.R_drew));exact HO627.out))) (Kd.R_lt (by (with_reducible repeat (first | apply Kd.R_alloc | apply Kd.R_drewN | apply Kd.R_drew));exact HO630.out))) (zal (by repeat (first | (with_reducible first | exact HB.out | apply zae | apply zac | apply zaf | refine zag ?_ GE613.out) | exact HB.out))));have n7_:=Aside0.mk (Kd.R_lower (Kd.R_new' (Kd.R_new' (Kd.R_new' (Kd.R_new' ho3 (Kd.R_lt (by (with_reducible repeat (first | apply Kd.R_alloc | apply Kd.R_drewN | apply Kd.R_drew));exact HO619.out))) (Kd.R_lt (by (with_reducible repeat (first | apply Kd.R_alloc | apply Kd.R_drewN | apply Kd.R_drew));exact HO622.out))) (Kd.R_lt (by (with_reducible repeat (first | apply Kd.R_alloc | apply Kd.R_drewN | apply Kd.R_drew));exact HO627.out))) (Kd.R_lt (by (with_reducible repeat (first | apply Kd.R_alloc | apply Kd.R_drewN | apply Kd.R_drew));exact HO630.out))) (zal (by repeat (first | (with_reducible first | exact HB.out | apply zae | apply zac | apply zaf | refine zag ?_ GE613.out) | exact HB.out))));have n8_:=Aside0.mk (zaq (g:=gb613) (o:=.cells #[.int .i64 a0_0,.int .i64 a0_1,.slice A0_2 l0_2.length c0_2,.slice A0_3 l0_3.length c0_3,.int .i64 a0_4,.int .i64 a0_5,.slice A0_6 l0_6.length c0_6,.slice A0_7 l0_7.length c0_7,.int .i64 a0_8] 48 (0,0)) (by (with_reducible repeat (first | refine zaj ?_ _ | refine zak ?_ | refine zai ?_ _));exact BK613.out) hb);have n9_:=Aside0.mk (zao (by repeat (first | (with_reducible first | exact HB.out | apply zae | apply zac | apply zaf | refine zag ?_ GE613.out) | exact HB.out)) hb);clear HO619;clear HO622;clear HO627;clear HO630;clear BK613;clear HB;have HO619:=n0_;have HO622:=n1_;have HO627:=n2_;have HO630:=n3_;have HO638:=n4_;have HO641:=n5_;have HO646:=n6_;have HO649:=n7_;have BK613:=n8_;have HB:=n9_;clear n0_ n1_ n2_ n3_ n4_ n5_ n6_ n7_ n8_ n9_;(try clear hb);(try clear hb2);(try clear hk);(try clear hi);(try clear ho0);(try clear ho1);(try clear ho2);(try clear ho3)) | ((with_reducible refine zam (N:=6) rfl ?_);refine box_event ?hg (N:=6) ?hd (cs:=#[.int .i64 0,.int .i64 0,.slice none 0 0,.slice none 0 0,.int .i64 0,.int .i64 0,.slice none 0 0,.slice none 0 0,.int .i64 0]) (t:=38) ?hr ?_;(case hd=>rfl);(case hg=>rfl);(case hr=>first | (go_simp;done) | (go_simp;rfl));intro gb651 hg w24 hbox hb;have n0_:=Aside0.mk (Kd.R_below (by (with_reducible repeat (first | apply Kd.R_alloc | apply Kd.R_drewN | apply Kd.R_drew));exact HO619.out) hb);have n1_:=Aside0.mk (Kd.R_below (by (with_reducible repeat (first | apply Kd.R_alloc | apply Kd.R_drewN | apply Kd.R_drew));exact HO622.out) hb);have n2_:=Aside0.mk (Kd.R_below (by (with_reducible repeat (first | apply Kd.R_alloc | apply Kd.R_drewN | apply Kd.R_drew));exact HO627.out) hb);have n3_:=Aside0.mk (Kd.R_below (by (with_reducible repeat (first | apply Kd.R_alloc | apply Kd.R_drewN | apply Kd.R_drew));exact HO630.out) hb);have n4_:=Aside0.mk (Kd.R_below (by (with_reducible repeat (first | apply Kd.R_alloc | apply Kd.R_drewN | apply Kd.R_drew));exact HO638.out) hb);have n5_:=Aside0.mk (Kd.R_below (by (with_reducible repeat (first | apply Kd.R_alloc | apply Kd.R_drewN | apply Kd.R_drew));exact HO641.out) hb);have n6_:=Aside0.mk (Kd.R_below (by (with_reducible repeat (first | apply Kd.R_alloc | apply Kd.R_drewN | apply Kd.R_drew));exact HO646.out) hb);have n7_:=Aside0.mk (Kd.R_below (by (with_reducible repeat (first | apply Kd.R_alloc | apply Kd.R_drewN | apply Kd.R_drew));exact HO649.out) hb);have n8_:=Aside0.mk (zaq (g:=gb613) (o:=.cells #[.int .i64 a0_0,.int .i64 a0_1,.slice A0_2 l0_2.length c0_2,.slice A0_3 l0_3.length c0_3,.int .i64 a0_4,.int .i64 a0_5,.slice A0_6 l0_6.length c0_6,.slice A0_7 l0_7.length c0_7,.int .i64 a0_8] 48 (0,0)) (by (with_reducible repeat (first | refine zaj ?_ _ | refine zak ?_ | refine zai ?_ _));exact BK613.out) hb);have n9_:=Aside0.mk (zao (by repeat (first | (with_reducible first | exact HB.out | apply zae | apply zac | apply zaf | refine zag ?_ GE613.out) | exact HB.out)) hb);have n10_:=Aside0.mk (hbox);have n11_:=Aside0.mk ((by rw [hg];exact (zal (by repeat (first | (with_reducible first | exact HB.out | apply zae | apply zac | apply zaf | refine zag ?_ GE613.out) | exact HB.out))):w.heap.size≤gb651));have n12_:=Aside0.mk ((by rw [hg];exact (zal (by repeat (first | (with_reducible first | exact HB.out | apply zae | apply zac | apply zaf | refine zag ?_ GE613.out) | exact HB.out))):w.heap.size≤gb651));have n13_:=Aside0.mk ((by rw [hg];exact Nat.ne_of_lt (blk_lt (g:=gb613) (o:=.cells #[.int .i64 a0_0,.int .i64 a0_1,.slice A0_2 l0_2.length c0_2,.slice A0_3 l0_3.length c0_3,.int .i64 a0_4,.int .i64 a0_5,.slice A0_6 l0_6.length c0_6,.slice A0_7 l0_7.length c0_7,.int .i64 a0_8] 48 (0,0)) (by (with_reducible repeat (first | refine zaj ?_ _ | refine zak ?_ | refine zai ?_ _));exact BK613.out)):gb613≠gb651));have n14_:=Aside0.mk ((by rw [hg];exact Nat.ne_of_gt (blk_lt (g:=gb613) (o:=.cells #[.int .i64 a0_0,.int .i64 a0_1,.slice A0_2 l0_2.length c0_2,.slice A0_3 l0_3.length c0_3,.int .i64 a0_4,.int .i64 a0_5,.slice A0_6 l0_6.length c0_6,.slice A0_7 l0_7.length c0_7,.int .i64 a0_8] 48 (0,0)) (by (with_reducible repeat (first | refine zaj ?_ _ | refine zak ?_ | refine zai ?_ _));exact BK613.out)):gb651≠gb613));clear HO619;clear HO622;clear HO627;clear HO630;clear HO638;clear HO641;clear HO646;clear HO649;clear BK613;clear HB;have HO619:=n0_;have HO622:=n1_;have HO627:=n2_;have HO630:=n3_;have HO638:=n4_;have HO641:=n5_;have HO646:=n6_;have HO649:=n7_;have BK613:=n8_;have HB:=n9_;have BK651:=n10_;have GW651:=n11_;have GE651:=n12_;have NB613_651:=n13_;have NB651_613:=n14_;clear n0_ n1_ n2_ n3_ n4_ n5_ n6_ n7_ n8_ n9_ n10_ n11_ n12_ n13_ n14_;clear hb hbox hg;have hnb25:=NB651_613.out;have hnc25:=NB613_651.out;have hcz26_0:w24.cell? ⟨gb651,0,none⟩=some (.int .i64 0):=(zab BK651.out 0).trans rfl;have hcz26_1:w24.cell? ⟨gb651,1,none⟩=some (.int .i64 0):=(zab BK651.out 1).trans rfl;have hcz26_2:w24.cell? ⟨gb651,2,none⟩=some (.slice none 0 0):=(zab BK651.out 2).trans rfl;have hcz26_3:w24.cell? ⟨gb651,3,none⟩=some (.slice none 0 0):=(zab BK651.out 3).trans rfl;have hcz26_4:w24.cell? ⟨gb651,4,none⟩=some (.int .i64 0):=(zab BK651.out 4).trans rfl;have hcz26_5:w24.cell? ⟨gb651,5,none⟩=some (.int .i64 0):=(zab BK651.out 5).trans rfl;have hcz26_6:w24.cell? ⟨gb651,6,none⟩=some (.slice none 0 0):=(zab BK651.out 6).trans rfl;have hcz26_7:w24.cell? ⟨gb651,7,none⟩=some (.slice none 0 0):=(zab BK651.out 7).trans rfl;have hcz26_8:w24.cell? ⟨gb651,8,none⟩=some (.int .i64 0):=(zab BK651.out 8).trans rfl;have hfz26_0:=zaa BK651.out 0;have hfz26_1:=zaa BK651.out 1;have hfz26_2:=zaa BK651.out 2;have hfz26_3:=zaa BK651.out 3;have hfz26_4:=zaa BK651.out 4;have hfz26_5:=zaa BK651.out 5;have hfz26_6:=zaa BK651.out 6;have hfz26_7:=zaa BK651.out 7;have hfz26_8:=zaa BK651.out 8;obtain ⟨Ao27,co27,eo27⟩:=Kd.R_slice HO638.out;subst eo27;obtain ⟨Ao28,co28,eo28⟩:=Kd.R_slice HO641.out;subst eo28;obtain ⟨Ao29,co29,eo29⟩:=Kd.R_slice HO646.out;subst eo29;obtain ⟨Ao30,co30,eo30⟩:=Kd.R_slice HO649.out;subst eo30) | ((with_reducible refine zah (f:=31) rfl ?_);refine goesL_ (some 24) rfl rfl Tru.func31 (by kernel_rfl) rfl #[.agg #[.int .i64 t634,.int .i64 t635,.slice Ao27 t636.length co27,.slice Ao28 t639.length co28,.int .i64 t642,.int .i64 t643,.slice Ao29 t644.length co29,.slice Ao30 t647.length co30,.int .i64 t650]] rfl (by (try simp only [List.map_toArray,List.map_cons,List.map_nil]);first | done | rfl | (simp only [List.length_drop,List.length_take];rfl)) ?_;(with_reducible refine (impl_BatchTotal.calls k t634 t635 _ _ t636 _ _ t639 t642 t643 _ _ t644 _ _ t647 t650 t652 t653 _ ?side1 ?side2 ?side3 ?side4 ?side5 ?side6 ?side7 ?side8 A10.out).mono ?_);(case side1=>refine (Kd.R_reads' (e:=3) (base:=w.heap.size) (ok:=fun k_=>(((((some k_≠(.slice Ao28 t639.length co28:Value).ownBlock∧(some k_≠(.slice Ao29 t644.length co29:Value).ownBlock∧some k_≠(.slice Ao30 t647.length co30:Value).ownBlock))∧some k_≠(.slice Ao17 t617.length co17:Value).ownBlock)∧some k_≠(.slice Ao18 t620.length co18:Value).ownBlock)∧some k_≠(.slice Ao19 t625.length co19:Value).ownBlock)∧some k_≠(.slice Ao20 t628.length co20:Value).ownBlock)) (n:=t636.length) (c:=co27) ?_).2.2;exact (by (with_reducible repeat (first | apply Kd.R_alloc | apply Kd.R_drewN | apply Kd.R_drew));exact (Kd.R_mono (Kd.R_far (p:=⟨gb651,8,none⟩) (Kd.R_far (p:=⟨gb651,7,none⟩) (Kd.R_far (p:=⟨gb651,6,none⟩) (Kd.R_far (p:=⟨gb651,5,none⟩) (Kd.R_far (p:=⟨gb651,4,none⟩) (Kd.R_far (p:=⟨gb651,3,none⟩) (Kd.R_far (p:=⟨gb651,2,none⟩) (Kd.R_far (p:=⟨gb651,1,none⟩) (Kd.R_far (p:=⟨gb651,0,none⟩) (Kd.R_types HO638.out BK651.out (by decide)) (fun _ hk=>hk.2) (.int .i64 t634)) (fun _ hk=>hk.2) (.int .i64 t635)) (fun _ hk=>hk.2) (.slice Ao27 t636.length co27)) (fun _ hk=>hk.2) (.slice Ao28 t639.length co28)) (fun _ hk=>hk.2) (.int .i64 t642)) (fun _ hk=>hk.2) (.int .i64 t643)) (fun _ hk=>hk.2) (.slice Ao29 t644.length co29)) (fun _ hk=>hk.2) (.slice Ao30 t647.length co30)) (fun _ hk=>hk.2) (.int .i64 t650)) (fun _ h_=>h_.1))));(case side2=>exact (Kd.R_reads' HO638.out).2.1);(case side3=>refine (Kd.R_reads' (e:=3) (base:=w.heap.size) (ok:=fun k_=>(((((some k_≠(.slice Ao27 t636.length co27:Value).ownBlock∧(some k_≠(.slice Ao29 t644.length co29:Value).ownBlock∧some k_≠(.slice Ao30 t647.length co30:Value).ownBlock))∧some k_≠(.slice Ao17 t617.length co17:Value).ownBlock)∧some k_≠(.slice Ao18 t620.length co18:Value).ownBlock)∧some k_≠(.slice Ao19 t625.length co19:Value).ownBlock)∧some k_≠(.slice Ao20 t628.length co20:Value).ownBlock)) (n:=t639.length) (c:=co28) ?_).2.2;exact (by (with_reducible repeat (first | apply Kd.R_alloc | apply Kd.R_drewN | apply Kd.R_drew));exact (Kd.R_mono (Kd.R_far (p:=⟨gb651,8,none⟩) (Kd.R_far (p:=⟨gb651,7,none⟩) (Kd.R_far (p:=⟨gb651,6,none⟩) (Kd.R_far (p:=⟨gb651,5,none⟩) (Kd.R_far (p:=⟨gb651,4,none⟩) (Kd.R_far (p:=⟨gb651,3,none⟩) (Kd.R_far (p:=⟨gb651,2,none⟩) (Kd.R_far (p:=⟨gb651,1,none⟩) (Kd.R_far (p:=⟨gb651,0,none⟩) (Kd.R_types HO641.out BK651.out (by decide)) (fun _ hk=>hk.2) (.int .i64 t634)) (fun _ hk=>hk.2) (.int .i64 t635)) (fun _ hk=>hk.2) (.slice Ao27 t636.length co27)) (fun _ hk=>hk.2) (.slice Ao28 t639.length co28)) (fun _ hk=>hk.2) (.int .i64 t642)) (fun _ hk=>hk.2) (.int .i64 t643)) (fun _ hk=>hk.2) (.slice Ao29 t644.length co29)) (fun _ hk=>hk.2) (.slice Ao30 t647.length co30)) (fun _ hk=>hk.2) (.int .i64 t650)) (fun _ h_=>h_.1))));(case side4=>exact (Kd.R_reads' HO641.out).2.1);(case side5=>refine (Kd.R_reads' (e:=3) (base:=w.heap.size) (ok:=fun k_=>(((((some k_≠(.slice Ao27 t636.length co27:Value).ownBlock∧(some k_≠(.slice Ao28 t639.length co28:Value).ownBlock∧some k_≠(.slice Ao30 t647.length co30:Value).ownBlock))∧some k_≠(.slice Ao17 t617.length co17:Value).ownBlock)∧some k_≠(.slice Ao18 t620.length co18:Value).ownBlock)∧some k_≠(.slice Ao19 t625.length co19:Value).ownBlock)∧some k_≠(.slice Ao20 t628.length co20:Value).ownBlock)) (n:=t644.length) (c:=co29) ?_).2.2;exact (by (with_reducible repeat (first | apply Kd.R_alloc | apply Kd.R_drewN | apply Kd.R_drew));exact (Kd.R_mono (Kd.R_far (p:=⟨gb651,8,none⟩) (Kd.R_far (p:=⟨gb651,7,none⟩) (Kd.R_far (p:=⟨gb651,6,none⟩) (Kd.R_far (p:=⟨gb651,5,none⟩) (Kd.R_far (p:=⟨gb651,4,none⟩) (Kd.R_far (p:=⟨gb651,3,none⟩) (Kd.R_far (p:=⟨gb651,2,none⟩) (Kd.R_far (p:=⟨gb651,1,none⟩) (Kd.R_far (p:=⟨gb651,0,none⟩) (Kd.R_types HO646.out BK651.out (by decide)) (fun _ hk=>hk.2) (.int .i64 t634)) (fun _ hk=>hk.2) (.int .i64 t635)) (fun _ hk=>hk.2) (.slice Ao27 t636.length co27)) (fun _ hk=>hk.2) (.slice Ao28 t639.length co28)) (fun _ hk=>hk.2) (.int .i64 t642)) (fun _ hk=>hk.2) (.int .i64 t643)) (fun _ hk=>hk.2) (.slice Ao29 t644.length co29)) (fun _ hk=>hk.2) (.slice Ao30 t647.length co30)) (fun _ hk=>hk.2) (.int .i64 t650)) (fun _ h_=>h_.1))));(case side6=>exact (Kd.R_reads' HO646.out).2.1);(case side7=>refine (Kd.R_reads' (e:=3) (base:=w.heap.size) (ok:=fun k_=>(((((some k_≠(.slice Ao27 t636.length co27:Value).ownBlock∧(some k_≠(.slice Ao28 t639.length co28:Value).ownBlock∧some k_≠(.slice Ao29 t644.length co29:Value).ownBlock))∧some k_≠(.slice Ao17 t617.length co17:Value).ownBlock)∧some k_≠(.slice Ao18 t620.length co18:Value).ownBlock)∧some k_≠(.slice Ao19 t625.length co19:Value).ownBlock)∧some k_≠(.slice Ao20 t628.length co20:Value).ownBlock)) (n:=t647.length) (c:=co30) ?_).2.2;exact (by (with_reducible repeat (first | apply Kd.R_alloc | apply Kd.R_drewN | apply Kd.R_drew));exact (Kd.R_mono (Kd.R_far (p:=⟨gb651,8,none⟩) (Kd.R_far (p:=⟨gb651,7,none⟩) (Kd.R_far (p:=⟨gb651,6,none⟩) (Kd.R_far (p:=⟨gb651,5,none⟩) (Kd.R_far (p:=⟨gb651,4,none⟩) (Kd.R_far (p:=⟨gb651,3,none⟩) (Kd.R_far (p:=⟨gb651,2,none⟩) (Kd.R_far (p:=⟨gb651,1,none⟩) (Kd.R_far (p:=⟨gb651,0,none⟩) (Kd.R_types HO649.out BK651.out (by decide)) (fun _ hk=>hk.2) (.int .i64 t634)) (fun _ hk=>hk.2) (.int .i64 t635)) (fun _ hk=>hk.2) (.slice Ao27 t636.length co27)) (fun _ hk=>hk.2) (.slice Ao28 t639.length co28)) (fun _ hk=>hk.2) (.int .i64 t642)) (fun _ hk=>hk.2) (.int .i64 t643)) (fun _ hk=>hk.2) (.slice Ao29 t644.length co29)) (fun _ hk=>hk.2) (.slice Ao30 t647.length co30)) (fun _ hk=>hk.2) (.int .i64 t650)) (fun _ h_=>h_.1))));(case side8=>exact (Kd.R_reads' HO649.out).2.1);rintro e w31 ⟨rfl,hb⟩;refine ⟨_,rfl,?_⟩;have n0_:=Aside0.mk (Kd.R_below (by (with_reducible repeat (first | apply Kd.R_alloc | apply Kd.R_drewN | apply Kd.R_drew));exact (Kd.R_mono (Kd.R_far (p:=⟨gb651,8,none⟩) (Kd.R_far (p:=⟨gb651,7,none⟩) (Kd.R_far (p:=⟨gb651,6,none⟩) (Kd.R_far (p:=⟨gb651,5,none⟩) (Kd.R_far (p:=⟨gb651,4,none⟩) (Kd.R_far (p:=⟨gb651,3,none⟩) (Kd.R_far (p:=⟨gb651,2,none⟩) (Kd.R_far (p:=⟨gb651,1,none⟩) (Kd.R_far (p:=⟨gb651,0,none⟩) (Kd.R_types HO619.out BK651.out (by decide)) (fun _ hk=>hk.2) (.int .i64 t634)) (fun _ hk=>hk.2) (.int .i64 t635)) (fun _ hk=>hk.2) (.slice Ao27 t636.length co27)) (fun _ hk=>hk.2) (.slice Ao28 t639.length co28)) (fun _ hk=>hk.2) (.int .i64 t642)) (fun _ hk=>hk.2) (.int .i64 t643)) (fun _ hk=>hk.2) (.slice Ao29 t644.length co29)) (fun _ hk=>hk.2) (.slice Ao30 t647.length co30)) (fun _ hk=>hk.2) (.int .i64 t650)) (fun _ h_=>h_.1))) hb);have n1_:=Aside0.mk (Kd.R_below (by (with_reducible repeat (first | apply Kd.R_alloc | apply Kd.R_drewN | apply Kd.R_drew));exact (Kd.R_mono (Kd.R_far (p:=⟨gb651,8,none⟩) (Kd.R_far (p:=⟨gb651,7,none⟩) (Kd.R_far (p:=⟨gb651,6,none⟩) (Kd.R_far (p:=⟨gb651,5,none⟩) (Kd.R_far (p:=⟨gb651,4,none⟩) (Kd.R_far (p:=⟨gb651,3,none⟩) (Kd.R_far (p:=⟨gb651,2,none⟩) (Kd.R_far (p:=⟨gb651,1,none⟩) (Kd.R_far (p:=⟨gb651,0,none⟩) (Kd.R_types HO622.out BK651.out (by decide)) (fun _ hk=>hk.2) (.int .i64 t634)) (fun _ hk=>hk.2) (.int .i64 t635)) (fun _ hk=>hk.2) (.slice Ao27 t636.length co27)) (fun _ hk=>hk.2) (.slice Ao28 t639.length co28)) (fun _ hk=>hk.2) (.int .i64 t642)) (fun _ hk=>hk.2) (.int .i64 t643)) (fun _ hk=>hk.2) (.slice Ao29 t644.length co29)) (fun _ hk=>hk.2) (.slice Ao30 t647.length co30)) (fun _ hk=>hk.2) (.int .i64 t650)) (fun _ h_=>h_.1))) hb);have n2_:=Aside0.mk (Kd.R_below (by (with_reducible repeat (first | apply Kd.R_alloc | apply Kd.R_drewN | apply Kd.R_drew));exact (Kd.R_mono (Kd.R_far (p:=⟨gb651,8,none⟩) (Kd.R_far (p:=⟨gb651,7,none⟩) (Kd.R_far (p:=⟨gb651,6,none⟩) (Kd.R_far (p:=⟨gb651,5,none⟩) (Kd.R_far (p:=⟨gb651,4,none⟩) (Kd.R_far (p:=⟨gb651,3,none⟩) (Kd.R_far (p:=⟨gb651,2,none⟩) (Kd.R_far (p:=⟨gb651,1,none⟩) (Kd.R_far (p:=⟨gb651,0,none⟩) (Kd.R_types HO627.out BK651.out (by decide)) (fun _ hk=>hk.2) (.int .i64 t634)) (fun _ hk=>hk.2) (.int .i64 t635)) (fun _ hk=>hk.2) (.slice Ao27 t636.length co27)) (fun _ hk=>hk.2) (.slice Ao28 t639.length co28)) (fun _ hk=>hk.2) (.int .i64 t642)) (fun _ hk=>hk.2) (.int .i64 t643)) (fun _ hk=>hk.2) (.slice Ao29 t644.length co29)) (fun _ hk=>hk.2) (.slice Ao30 t647.length co30)) (fun _ hk=>hk.2) (.int .i64 t650)) (fun _ h_=>h_.1))) hb);have n3_:=Aside0.mk (Kd.R_below (by (with_reducible repeat (first | apply Kd.R_alloc | apply Kd.R_drewN | apply Kd.R_drew));exact (Kd.R_mono (Kd.R_far (p:=⟨gb651,8,none⟩) (Kd.R_far (p:=⟨gb651,7,none⟩) (Kd.R_far (p:=⟨gb651,6,none⟩) (Kd.R_far (p:=⟨gb651,5,none⟩) (Kd.R_far (p:=⟨gb651,4,none⟩) (Kd.R_far (p:=⟨gb651,3,none⟩) (Kd.R_far (p:=⟨gb651,2,none⟩) (Kd.R_far (p:=⟨gb651,1,none⟩) (Kd.R_far (p:=⟨gb651,0,none⟩) (Kd.R_types HO630.out BK651.out (by decide)) (fun _ hk=>hk.2) (.int .i64 t634)) (fun _ hk=>hk.2) (.int .i64 t635)) (fun _ hk=>hk.2) (.slice Ao27 t636.length co27)) (fun _ hk=>hk.2) (.slice Ao28 t639.length co28)) (fun _ hk=>hk.2) (.int .i64 t642)) (fun _ hk=>hk.2) (.int .i64 t643)) (fun _ hk=>hk.2) (.slice Ao29 t644.length co29)) (fun _ hk=>hk.2) (.slice Ao30 t647.length co30)) (fun _ hk=>hk.2) (.int .i64 t650)) (fun _ h_=>h_.1))) hb);have n4_:=Aside0.mk (Kd.R_below (by (with_reducible repeat (first | apply Kd.R_alloc | apply Kd.R_drewN | apply Kd.R_drew));exact (Kd.R_mono (Kd.R_far (p:=⟨gb651,8,none⟩) (Kd.R_far (p:=⟨gb651,7,none⟩) (Kd.R_far (p:=⟨gb651,6,none⟩) (Kd.R_far (p:=⟨gb651,5,none⟩) (Kd.R_far (p:=⟨gb651,4,none⟩) (Kd.R_far (p:=⟨gb651,3,none⟩) (Kd.R_far (p:=⟨gb651,2,none⟩) (Kd.R_far (p:=⟨gb651,1,none⟩) (Kd.R_far (p:=⟨gb651,0,none⟩) (Kd.R_types HO638.out BK651.out (by decide)) (fun _ hk=>hk.2) (.int .i64 t634)) (fun _ hk=>hk.2) (.int .i64 t635)) (fun _ hk=>hk.2) (.slice Ao27 t636.length co27)) (fun _ hk=>hk.2) (.slice Ao28 t639.length co28)) (fun _ hk=>hk.2) (.int .i64 t642)) (fun _ hk=>hk.2) (.int .i64 t643)) (fun _ hk=>hk.2) (.slice Ao29 t644.length co29)) (fun _ hk=>hk.2) (.slice Ao30 t647.length co30)) (fun _ hk=>hk.2) (.int .i64 t650)) (fun _ h_=>h_.1))) hb);have n5_:=Aside0.mk (Kd.R_below (by (with_reducible repeat (first | apply Kd.R_alloc | apply Kd.R_drewN | apply Kd.R_drew));exact (Kd.R_mono (Kd.R_far (p:=⟨gb651,8,none⟩) (Kd.R_far (p:=⟨gb651,7,none⟩) (Kd.R_far (p:=⟨gb651,6,none⟩) (Kd.R_far (p:=⟨gb651,5,none⟩) (Kd.R_far (p:=⟨gb651,4,none⟩) (Kd.R_far (p:=⟨gb651,3,none⟩) (Kd.R_far (p:=⟨gb651,2,none⟩) (Kd.R_far (p:=⟨gb651,1,none⟩) (Kd.R_far (p:=⟨gb651,0,none⟩) (Kd.R_types HO641.out BK651.out (by decide)) (fun _ hk=>hk.2) (.int .i64 t634)) (fun _ hk=>hk.2) (.int .i64 t635)) (fun _ hk=>hk.2) (.slice Ao27 t636.length co27)) (fun _ hk=>hk.2) (.slice Ao28 t639.length co28)) (fun _ hk=>hk.2) (.int .i64 t642)) (fun _ hk=>hk.2) (.int .i64 t643)) (fun _ hk=>hk.2) (.slice Ao29 t644.length co29)) (fun _ hk=>hk.2) (.slice Ao30 t647.length co30)) (fun _ hk=>hk.2) (.int .i64 t650)) (fun _ h_=>h_.1))) hb);have n6_:=Aside0.mk (Kd.R_below (by (with_reducible repeat (first | apply Kd.R_alloc | apply Kd.R_drewN | apply Kd.R_drew));exact (Kd.R_mono (Kd.R_far (p:=⟨gb651,8,none⟩) (Kd.R_far (p:=⟨gb651,7,none⟩) (Kd.R_far (p:=⟨gb651,6,none⟩) (Kd.R_far (p:=⟨gb651,5,none⟩) (Kd.R_far (p:=⟨gb651,4,none⟩) (Kd.R_far (p:=⟨gb651,3,none⟩) (Kd.R_far (p:=⟨gb651,2,none⟩) (Kd.R_far (p:=⟨gb651,1,none⟩) (Kd.R_far (p:=⟨gb651,0,none⟩) (Kd.R_types HO646.out BK651.out (by decide)) (fun _ hk=>hk.2) (.int .i64 t634)) (fun _ hk=>hk.2) (.int .i64 t635)) (fun _ hk=>hk.2) (.slice Ao27 t636.length co27)) (fun _ hk=>hk.2) (.slice Ao28 t639.length co28)) (fun _ hk=>hk.2) (.int .i64 t642)) (fun _ hk=>hk.2) (.int .i64 t643)) (fun _ hk=>hk.2) (.slice Ao29 t644.length co29)) (fun _ hk=>hk.2) (.slice Ao30 t647.length co30)) (fun _ hk=>hk.2) (.int .i64 t650)) (fun _ h_=>h_.1))) hb);have n7_:=Aside0.mk (Kd.R_below (by (with_reducible repeat (first | apply Kd.R_alloc | apply Kd.R_drewN | apply Kd.R_drew));exact (Kd.R_mono (Kd.R_far (p:=⟨gb651,8,none⟩) (Kd.R_far (p:=⟨gb651,7,none⟩) (Kd.R_far (p:=⟨gb651,6,none⟩) (Kd.R_far (p:=⟨gb651,5,none⟩) (Kd.R_far (p:=⟨gb651,4,none⟩) (Kd.R_far (p:=⟨gb651,3,none⟩) (Kd.R_far (p:=⟨gb651,2,none⟩) (Kd.R_far (p:=⟨gb651,1,none⟩) (Kd.R_far (p:=⟨gb651,0,none⟩) (Kd.R_types HO649.out BK651.out (by decide)) (fun _ hk=>hk.2) (.int .i64 t634)) (fun _ hk=>hk.2) (.int .i64 t635)) (fun _ hk=>hk.2) (.slice Ao27 t636.length co27)) (fun _ hk=>hk.2) (.slice Ao28 t639.length co28)) (fun _ hk=>hk.2) (.int .i64 t642)) (fun _ hk=>hk.2) (.int .i64 t643)) (fun _ hk=>hk.2) (.slice Ao29 t644.length co29)) (fun _ hk=>hk.2) (.slice Ao30 t647.length co30)) (fun _ hk=>hk.2) (.int .i64 t650)) (fun _ h_=>h_.1))) hb);have n8_:=Aside0.mk (zaq (g:=gb613) (o:=.cells #[.int .i64 a0_0,.int .i64 a0_1,.slice A0_2 l0_2.length c0_2,.slice A0_3 l0_3.length c0_3,.int .i64 a0_4,.int .i64 a0_5,.slice A0_6 l0_6.length c0_6,.slice A0_7 l0_7.length c0_7,.int .i64 a0_8] 48 (0,0)) (by (with_reducible repeat (first | refine zaj ?_ _ | refine zak ?_ | refine zai ?_ _));refine zaG ?_ NB613_651.out _;(with_reducible repeat (first | refine zaj ?_ _ | refine zak ?_ | refine zai ?_ _));refine zaG ?_ NB613_651.out _;(with_reducible repeat (first | refine zaj ?_ _ | refine zak ?_ | refine zai ?_ _));refine zaG ?_ NB613_651.out _;(with_reducible repeat (first | refine zaj ?_ _ | refine zak ?_ | refine zai ?_ _));refine zaG ?_ NB613_651.out _;(with_reducible repeat (first | refine zaj ?_ _ | refine zak ?_ | refine zai ?_ _));refine zaG ?_ NB613_651.out _;(with_reducible repeat (first | refine zaj ?_ _ | refine zak ?_ | refine zai ?_ _));refine zaG ?_ NB613_651.out _;(with_reducible repeat (first | refine zaj ?_ _ | refine zak ?_ | refine zai ?_ _));refine zaG ?_ NB613_651.out _;(with_reducible repeat (first | refine zaj ?_ _ | refine zak ?_ | refine zai ?_ _));refine zaG ?_ NB613_651.out _;(with_reducible repeat (first | refine zaj ?_ _ | refine zak ?_ | refine zai ?_ _));refine zaG ?_ NB613_651.out _;(with_reducible repeat (first | refine zaj ?_ _ | refine zak ?_ | refine zai ?_ _));exact BK613.out) hb);have n9_:=Aside0.mk (zaq (g:=gb651) (o:=.cells #[.int .i64 t634,.int .i64 t635,.slice Ao27 t636.length co27,.slice Ao28 t639.length co28,.int .i64 t642,.int .i64 t643,.slice Ao29 t644.length co29,.slice Ao30 t647.length co30,.int .i64 t650] 38 (0,0)) (by (with_reducible repeat (first | refine zaj ?_ _ | refine zak ?_ | refine zai ?_ _));refine zaH (cs:=#[.int .i64 t634,.int .i64 t635,.slice Ao27 t636.length co27,.slice Ao28 t639.length co28,.int .i64 t642,.int .i64 t643,.slice Ao29 t644.length co29,.slice Ao30 t647.length co30,.int .i64 0]) ?_ 8 _ rfl;(with_reducible repeat (first | refine zaj ?_ _ | refine zak ?_ | refine zai ?_ _));refine zaH (cs:=#[.int .i64 t634,.int .i64 t635,.slice Ao27 t636.length co27,.slice Ao28 t639.length co28,.int .i64 t642,.int .i64 t643,.slice Ao29 t644.length co29,.slice none 0 0,.int .i64 0]) ?_ 7 _ rfl;(with_reducible repeat (first | refine zaj ?_ _ | refine zak ?_ | refine zai ?_ _));refine zaH (cs:=#[.int .i64 t634,.int .i64 t635,.slice Ao27 t636.length co27,.slice Ao28 t639.length co28,.int .i64 t642,.int .i64 t643,.slice none 0 0,.slice none 0 0,.int .i64 0]) ?_ 6 _ rfl;(with_reducible repeat (first | refine zaj ?_ _ | refine zak ?_ | refine zai ?_ _));refine zaH (cs:=#[.int .i64 t634,.int .i64 t635,.slice Ao27 t636.length co27,.slice Ao28 t639.length co28,.int .i64 t642,.int .i64 0,.slice none 0 0,.slice none 0 0,.int .i64 0]) ?_ 5 _ rfl;(with_reducible repeat (first | refine zaj ?_ _ | refine zak ?_ | refine zai ?_ _));refine zaH (cs:=#[.int .i64 t634,.int .i64 t635,.slice Ao27 t636.length co27,.slice Ao28 t639.length co28,.int .i64 0,.int .i64 0,.slice none 0 0,.slice none 0 0,.int .i64 0]) ?_ 4 _ rfl;(with_reducible repeat (first | refine zaj ?_ _ | refine zak ?_ | refine zai ?_ _));refine zaH (cs:=#[.int .i64 t634,.int .i64 t635,.slice Ao27 t636.length co27,.slice none 0 0,.int .i64 0,.int .i64 0,.slice none 0 0,.slice none 0 0,.int .i64 0]) ?_ 3 _ rfl;(with_reducible repeat (first | refine zaj ?_ _ | refine zak ?_ | refine zai ?_ _));refine zaH (cs:=#[.int .i64 t634,.int .i64 t635,.slice none 0 0,.slice none 0 0,.int .i64 0,.int .i64 0,.slice none 0 0,.slice none 0 0,.int .i64 0]) ?_ 2 _ rfl;(with_reducible repeat (first | refine zaj ?_ _ | refine zak ?_ | refine zai ?_ _));refine zaH (cs:=#[.int .i64 t634,.int .i64 0,.slice none 0 0,.slice none 0 0,.int .i64 0,.int .i64 0,.slice none 0 0,.slice none 0 0,.int .i64 0]) ?_ 1 _ rfl;(with_reducible repeat (first | refine zaj ?_ _ | refine zak ?_ | refine zai ?_ _));refine zaH (cs:=#[.int .i64 0,.int .i64 0,.slice none 0 0,.slice none 0 0,.int .i64 0,.int .i64 0,.slice none 0 0,.slice none 0 0,.int .i64 0]) ?_ 0 _ rfl;(with_reducible repeat (first | refine zaj ?_ _ | refine zak ?_ | refine zai ?_ _));exact BK651.out) hb);have n10_:=Aside0.mk (zao (by repeat (first | (with_reducible first | exact HB.out | apply zae | apply zac | apply zaf | refine zag ?_ GE613.out | refine zag ?_ GE651.out) | exact HB.out)) hb);clear HO619;clear HO622;clear HO627;clear HO630;clear HO638;clear HO641;clear HO646;clear HO649;clear BK613;clear BK651;clear HB;have HO619:=n0_;have HO622:=n1_;have HO627:=n2_;have HO630:=n3_;have HO638:=n4_;have HO641:=n5_;have HO646:=n6_;have HO649:=n7_;have BK613:=n8_;have BK651:=n9_;have HB:=n10_;clear n0_ n1_ n2_ n3_ n4_ n5_ n6_ n7_ n8_ n9_ n10_;(try clear hb);(try clear hb2);(try clear hk);(try clear hi)))
  (try simp only [Act.put,List.setIfInBounds_toArray,List.set_cons_zero,List.set_cons_succ])
  go_cut [34] (fun v34 wc=>∃ (kq:Nat) (x34_10:Bool),v34 = .bool x34_10∧Aside0 (laws_FnExactBatchTotal.j0 kq x34_10 a0_0 a0_1 l0_2 l0_3 a0_4 a0_5 l0_6 l0_7 a0_8 t634 t635 t636 t639 t642 t643 t644 t647 t650=some r)∧Aside0 (kq≤k)∧Aside0 (Kd.R (Kd.int .i64) 3 wc w.heap.size (fun k_=>some k_≠((.slice Ao28 t639.length co28):Value).ownBlock∧some k_≠((.slice Ao29 t644.length co29):Value).ownBlock∧some k_≠((.slice Ao30 t647.length co30):Value).ownBlock) (.slice Ao27 t636.length co27) t636)∧Aside0 (Kd.R (Kd.int .i64) 3 wc w.heap.size (fun k_=>some k_≠((.slice Ao27 t636.length co27):Value).ownBlock∧some k_≠((.slice Ao29 t644.length co29):Value).ownBlock∧some k_≠((.slice Ao30 t647.length co30):Value).ownBlock) (.slice Ao28 t639.length co28) t639)∧Aside0 (Kd.R (Kd.int .i64) 3 wc w.heap.size (fun k_=>some k_≠((.slice Ao27 t636.length co27):Value).ownBlock∧some k_≠((.slice Ao28 t639.length co28):Value).ownBlock∧some k_≠((.slice Ao30 t647.length co30):Value).ownBlock) (.slice Ao29 t644.length co29) t644)∧Aside0 (Kd.R (Kd.int .i64) 3 wc w.heap.size (fun k_=>some k_≠((.slice Ao27 t636.length co27):Value).ownBlock∧some k_≠((.slice Ao28 t639.length co28):Value).ownBlock∧some k_≠((.slice Ao29 t644.length co29):Value).ownBlock) (.slice Ao30 t647.length co30) t647)∧Aside0 (wc.heap[gb613]? = some (.cells #[.int .i64 a0_0,.int .i64 a0_1,(.slice A0_2 l0_2.length c0_2),(.slice A0_3 l0_3.length c0_3),.int .i64 a0_4,.int .i64 a0_5,(.slice A0_6 l0_6.length c0_6),(.slice A0_7 l0_7.length c0_7),.int .i64 a0_8] 48 (0,0)))∧Aside0 (wc.heap[gb651]? = some (.cells #[.int .i64 t634,.int .i64 t635,(.slice Ao27 t636.length co27),(.slice Ao28 t639.length co28),.int .i64 t642,.int .i64 t643,(.slice Ao29 t644.length co29),(.slice Ao30 t647.length co30),.int .i64 t650] 38 (0,0)))∧Aside0 (Below w.heap.size w wc))
  case first=>
   have H:=HC11.out
   clear HC11
   by_cases c32:t652=t632
   ·rw [if_pos c32] at H
    have c32b0:(t652 == t632)=true:=beq_iff_eq.mpr c32
    have c32b1:(t652 != t632)=false:=bne_eq_false_iff_eq.mpr c32
    clear c32
    (first | rw [c32b0] | (simp only [i64_w,i32_w];rw [c32b0]) | skip)
    have H':=Aside0.mk H
    clear H
    go_wp2
    go_meet
    case rel=>exact ⟨_,((t653 != t633)),(by first | rfl | (simp;done) | (simp [*];done)),H',⟨by first | omega | exact Nat.le_refl _⟩,⟨by (with_reducible repeat (first | apply Kd.R_alloc | apply Kd.R_drewN | apply Kd.R_drew));exact Kd.R_mono HO638.out (fun _ hk=>⟨hk.1.1.1.1.1,⟨hk.1.1.1.1.2.1,hk.1.1.1.1.2.2⟩⟩)⟩,⟨by (with_reducible repeat (first | apply Kd.R_alloc | apply Kd.R_drewN | apply Kd.R_drew));exact Kd.R_mono HO641.out (fun _ hk=>⟨hk.1.1.1.1.1,⟨hk.1.1.1.1.2.1,hk.1.1.1.1.2.2⟩⟩)⟩,⟨by (with_reducible repeat (first | apply Kd.R_alloc | apply Kd.R_drewN | apply Kd.R_drew));exact Kd.R_mono HO646.out (fun _ hk=>⟨hk.1.1.1.1.1,⟨hk.1.1.1.1.2.1,hk.1.1.1.1.2.2⟩⟩)⟩,⟨by (with_reducible repeat (first | apply Kd.R_alloc | apply Kd.R_drewN | apply Kd.R_drew));exact Kd.R_mono HO649.out (fun _ hk=>⟨hk.1.1.1.1.1,⟨hk.1.1.1.1.2.1,hk.1.1.1.1.2.2⟩⟩)⟩,⟨by (with_reducible repeat (first | refine zaj ?_ _ | refine zak ?_ | refine zai ?_ _));exact BK613.out⟩,⟨by (with_reducible repeat (first | refine zaj ?_ _ | refine zak ?_ | refine zai ?_ _));exact BK651.out⟩,⟨by repeat (first | (with_reducible first | exact HB.out | apply zae | apply zac | apply zaf | refine zag ?_ GE613.out | refine zag ?_ GE651.out) | exact HB.out)⟩⟩
   ·rw [if_neg c32] at H
    have c32b0:(t652 == t632)=false:=beq_eq_false_iff_ne.mpr c32
    have c32b1:(t652 != t632)=true:=bne_iff_ne.mpr c32
    (first | rw [c32b0] | (simp only [i64_w,i32_w];rw [c32b0]) | skip)
    have H':=Aside0.mk H
    clear H
    go_wp2
    go_meet
    case rel=>exact ⟨_,(true),(by first | rfl | (simp;done) | (simp [*];done)),H',⟨by first | omega | exact Nat.le_refl _⟩,⟨by (with_reducible repeat (first | apply Kd.R_alloc | apply Kd.R_drewN | apply Kd.R_drew));exact Kd.R_mono HO638.out (fun _ hk=>⟨hk.1.1.1.1.1,⟨hk.1.1.1.1.2.1,hk.1.1.1.1.2.2⟩⟩)⟩,⟨by (with_reducible repeat (first | apply Kd.R_alloc | apply Kd.R_drewN | apply Kd.R_drew));exact Kd.R_mono HO641.out (fun _ hk=>⟨hk.1.1.1.1.1,⟨hk.1.1.1.1.2.1,hk.1.1.1.1.2.2⟩⟩)⟩,⟨by (with_reducible repeat (first | apply Kd.R_alloc | apply Kd.R_drewN | apply Kd.R_drew));exact Kd.R_mono HO646.out (fun _ hk=>⟨hk.1.1.1.1.1,⟨hk.1.1.1.1.2.1,hk.1.1.1.1.2.2⟩⟩)⟩,⟨by (with_reducible repeat (first | apply Kd.R_alloc | apply Kd.R_drewN | apply Kd.R_drew));exact Kd.R_mono HO649.out (fun _ hk=>⟨hk.1.1.1.1.1,⟨hk.1.1.1.1.2.1,hk.1.1.1.1.2.2⟩⟩)⟩,⟨by (with_reducible repeat (first | refine zaj ?_ _ | refine zak ?_ | refine zai ?_ _));exact BK613.out⟩,⟨by (with_reducible repeat (first | refine zaj ?_ _ | refine zak ?_ | refine zai ?_ _));exact BK651.out⟩,⟨by repeat (first | (with_reducible first | exact HB.out | apply zae | apply zac | apply zaf | refine zag ?_ GE613.out | refine zag ?_ GE651.out) | exact HB.out)⟩⟩
  case rest=>
   clear HC11
   try clear c2
   try clear p2
   try clear c3
   try clear c3b0
   try clear c7
   try clear c22
   try clear c24
   try clear c25
   try clear c30
   try clear c31
   try clear c32
   try clear c32b0
   try clear c32b1
   try clear hcz13_0
   try clear hcz13_1
   try clear hcz13_2
   try clear hcz13_3
   try clear hcz13_4
   try clear hcz13_5
   try clear hcz13_6
   try clear hcz13_7
   try clear hcz13_8
   try clear hcz15_0
   try clear hcz15_1
   try clear hcz15_2
   try clear hcz15_3
   try clear hcz15_4
   try clear hcz15_5
   try clear hcz15_6
   try clear hcz15_7
   try clear hcz15_8
   try clear hcz22_0
   try clear hcz22_1
   try clear hcz22_2
   try clear hcz22_3
   try clear hcz22_4
   try clear hcz22_5
   try clear hcz22_6
   try clear hcz22_7
   try clear hcz22_8
   try clear hcz26_0
   try clear hcz26_1
   try clear hcz26_2
   try clear hcz26_3
   try clear hcz26_4
   try clear hcz26_5
   try clear hcz26_6
   try clear hcz26_7
   try clear hcz26_8
   try clear hcz5_0
   try clear hcz5_1
   try clear hcz5_2
   try clear hcz5_3
   try clear hcz5_4
   try clear hcz5_5
   try clear hcz5_6
   try clear hcz5_7
   try clear hcz5_8
   try clear hfz13_0
   try clear hfz13_1
   try clear hfz13_2
   try clear hfz13_3
   try clear hfz13_4
   try clear hfz13_5
   try clear hfz13_6
   try clear hfz13_7
   try clear hfz13_8
   try clear hfz15_0
   try clear hfz15_1
   try clear hfz15_2
   try clear hfz15_3
   try clear hfz15_4
   try clear hfz15_5
   try clear hfz15_6
   try clear hfz15_7
   try clear hfz15_8
   try clear hfz22_0
   try clear hfz22_1
   try clear hfz22_2
   try clear hfz22_3
   try clear hfz22_4
   try clear hfz22_5
   try clear hfz22_6
   try clear hfz22_7
   try clear hfz22_8
   try clear hfz26_0
   try clear hfz26_1
   try clear hfz26_2
   try clear hfz26_3
   try clear hfz26_4
   try clear hfz26_5
   try clear hfz26_6
   try clear hfz26_7
   try clear hfz26_8
   try clear hfz5_0
   try clear hfz5_1
   try clear hfz5_2
   try clear hfz5_3
   try clear hfz5_4
   try clear hfz5_5
   try clear hfz5_6
   try clear hfz5_7
   try clear hfz5_8
   obtain ⟨kq,x34_10,rfl,HA,HJ10,HO_652002,HO_652003,HO_652006,HO_652007,BK613,BK651,HB⟩:=hcut
   cases kq with
   | zero=>exact absurd HA.out (by simp [laws_FnExactBatchTotal.j0])
   | succ kj10=>
    have H:=HA.out
    clear HA
    simp only [laws_FnExactBatchTotal.j0] at H
    by_cases c33:x34_10=true
    ·subst c33
     have H1:(some false)=some r:=by rw [if_pos rfl] at H;exact H
     clear H
     have H:=H1
     clear H1
     exact absurd (Option.some.inj (H.trans (congrArg some HT0_.out))) (by decide)
    ·replace c33:=Bool.eq_false_iff.mpr c33
     subst c33
     have H1:((laws_toBatch.f kj10 a0_0 a0_1 l0_2 l0_3 a0_4 a0_5 l0_6 l0_7 a0_8).bind fun bt654=>((laws_eqBatch.f kj10 t634 t635 t636 t639 t642 t643 t644 t647 t650 bt654.1 bt654.2.1 bt654.2.2.1 bt654.2.2.2.1 bt654.2.2.2.2.1 bt654.2.2.2.2.2.1 bt654.2.2.2.2.2.2.1 bt654.2.2.2.2.2.2.2.1 bt654.2.2.2.2.2.2.2.2).bind fun t671=>(if t671=true then (some true) else (some false))))=some r:=by rw [if_neg (show ¬ (false=true) by decide)] at H;exact H
     clear H
     have H:=H1
     clear H1
     replace H:=Option.bind_eq_some_iff.mp H
     obtain ⟨⟨t654,t655,t656,t659,t662,t663,t664,t667,t670⟩,A340,H⟩:=H
     replace H:((laws_eqBatch.f kj10 t634 t635 t636 t639 t642 t643 t644 t647 t650 t654 t655 t656 t659 t662 t663 t664 t667 t670).bind fun t671=>(if t671=true then (some true) else (some false)))=some r:=H
     have A34:=Aside0.mk A340
     clear A340
     replace H:=Option.bind_eq_some_iff.mp H
     obtain ⟨t671,A350,H⟩:=H
     replace H:(if t671=true then (some true) else (some false))=some r:=H
     have A35:=Aside0.mk A350
     clear A350
     by_cases c36:t671=true
     ·subst c36
      have H1:(some true)=some r:=by rw [if_pos rfl] at H;exact H
      clear H
      have H:=H1
      clear H1
      obtain rfl:=Option.some.inj H
      try go_wp2
      have n0_:=Aside0.mk (Kd.R_drew HO_652002.out)
      have n1_:=Aside0.mk (Kd.R_drew HO_652003.out)
      have n2_:=Aside0.mk (Kd.R_drew HO_652006.out)
      have n3_:=Aside0.mk (Kd.R_drew HO_652007.out)
      have n4_:=Aside0.mk (zak BK613.out)
      have n5_:=Aside0.mk (zak BK651.out)
      have n6_:=Aside0.mk (zaf HB.out)
      clear HO_652002
      clear HO_652003
      clear HO_652006
      clear HO_652007
      clear BK613
      clear BK651
      clear HB
      have HO_652002:=n0_
      have HO_652003:=n1_
      have HO_652006:=n2_
      have HO_652007:=n3_
      have BK613:=n4_
      have BK651:=n5_
      have HB:=n6_
      clear n0_ n1_ n2_ n3_ n4_ n5_ n6_
      refine start_ (n:=5) (S:=fun w'=>w'.cell? ⟨gb651,0,none⟩=some (.int .i64 t634)∧w'.cell? ⟨gb651,1,none⟩=some (.int .i64 t635)∧w'.cell? ⟨gb651,2,none⟩=some (.slice Ao27 t636.length co27)∧w'.cell? ⟨gb651,3,none⟩=some (.slice Ao28 t639.length co28)∧w'.cell? ⟨gb651,4,none⟩=some (.int .i64 t642)∧w'.cell? ⟨gb651,5,none⟩=some (.int .i64 t643)∧w'.cell? ⟨gb651,6,none⟩=some (.slice Ao29 t644.length co29)∧w'.cell? ⟨gb651,7,none⟩=some (.slice Ao30 t647.length co30)∧w'.cell? ⟨gb651,8,none⟩=some (.int .i64 t650)∧w'.cell? ⟨gb613,0,none⟩=some (.int .i64 a0_0)∧w'.cell? ⟨gb613,1,none⟩=some (.int .i64 a0_1)∧w'.cell? ⟨gb613,2,none⟩=some (.slice A0_2 l0_2.length c0_2)∧w'.cell? ⟨gb613,3,none⟩=some (.slice A0_3 l0_3.length c0_3)∧w'.cell? ⟨gb613,4,none⟩=some (.int .i64 a0_4)∧w'.cell? ⟨gb613,5,none⟩=some (.int .i64 a0_5)∧w'.cell? ⟨gb613,6,none⟩=some (.slice A0_6 l0_6.length c0_6)∧w'.cell? ⟨gb613,7,none⟩=some (.slice A0_7 l0_7.length c0_7)∧w'.cell? ⟨gb613,8,none⟩=some (.int .i64 a0_8)) (ds:=[]) #[false,false,false,false,false] (by kernel_rfl) rfl rfl ⟨(zab BK651.out 0).trans rfl,(zab BK651.out 1).trans rfl,(zab BK651.out 2).trans rfl,(zab BK651.out 3).trans rfl,(zab BK651.out 4).trans rfl,(zab BK651.out 5).trans rfl,(zab BK651.out 6).trans rfl,(zab BK651.out 7).trans rfl,(zab BK651.out 8).trans rfl,(zab BK613.out 0).trans rfl,(zab BK613.out 1).trans rfl,(zab BK613.out 2).trans rfl,(zab BK613.out 3).trans rfl,(zab BK613.out 4).trans rfl,(zab BK613.out 5).trans rfl,(zab BK613.out 6).trans rfl,(zab BK613.out 7).trans rfl,(zab BK613.out 8).trans rfl⟩ (fun hHeld=>?_)
      generalize wc.drew=w37 at HO_652002 HO_652003 HO_652006 HO_652007 BK613 BK651 HB hHeld ⊢
      refine take_ (i:=0) (N:=some 35) (v:=?_) (a':=?_) #[true,false,false,false,false] rfl rfl (by kernel_rfl) (fun _ _ _ h=>h) (Or.inl ⟨by rfl,?_⟩) hHeld ?_ ?_
      rotate_left
      ·rintro w' ⟨s0,s1,s2,s3,s4,s5,s6,s7,s8,s9,s10,s11,s12,s13,s14,s15,s16,s17⟩
       go_simp
       with_reducible rfl
      rotate_left
      ·simp only [Act.put,List.setIfInBounds_toArray,List.set_cons_zero,List.set_cons_succ,i64_w,i32_w]
       rfl
      refine take_ (i:=1) (N:=some 36) (v:=?_) (a':=?_) #[true,true,false,false,false] rfl rfl (by kernel_rfl) (fun _ _ _ h=>h) (Or.inl ⟨by rfl,?_⟩) hHeld ?_ ?_
      rotate_left
      ·rintro w' ⟨s0,s1,s2,s3,s4,s5,s6,s7,s8,s9,s10,s11,s12,s13,s14,s15,s16,s17⟩
       go_simp
       with_reducible rfl
      rotate_left
      ·simp only [Act.put,List.setIfInBounds_toArray,List.set_cons_zero,List.set_cons_succ,i64_w,i32_w]
       rfl
      refine one_ (i:=2) (N:=some 37) #[true,true,true,false,false] rfl rfl (by kernel_rfl) (by decide) (fun K hK=>?_)
      refine goes_ Tru.func24 (by kernel_rfl) rfl #[.agg #[.int .i64 a0_0,.int .i64 a0_1,.slice A0_2 l0_2.length c0_2,.slice A0_3 l0_3.length c0_3,.int .i64 a0_4,.int .i64 a0_5,.slice A0_6 l0_6.length c0_6,.slice A0_7 l0_7.length c0_7,.int .i64 a0_8]] (by rfl) rfl rfl (by (try simp only [List.map_toArray,List.map_cons,List.map_nil]);first | done | rfl | (simp only [List.length_drop,List.length_take];rfl)) ?_
      with_reducible refine (laws_toBatch.calls kj10 a0_0 a0_1 _ _ l0_2 _ _ l0_3 a0_4 a0_5 _ _ l0_6 _ _ l0_7 a0_8 t654 t655 t656 t659 t662 t663 t664 t667 t670 _ ?side1 ?side2 ?side3 ?side4 ?side5 ?side6 ?side7 ?side8 A34.out).mono ?_
      (case side1=>repeat (first | exact (Kd.C_below HR0_2.out HB.out) | (with_reducible refine Kd.C_alloc ?_ _) | (with_reducible refine Kd.C_drewN ?_ _) | (with_reducible refine Kd.C_drew ?_)))
      (case side2=>exact HC0_2.out)
      (case side3=>repeat (first | exact (Kd.C_below HR0_3.out HB.out) | (with_reducible refine Kd.C_alloc ?_ _) | (with_reducible refine Kd.C_drewN ?_ _) | (with_reducible refine Kd.C_drew ?_)))
      (case side4=>exact HC0_3.out)
      (case side5=>repeat (first | exact (Kd.C_below HR0_6.out HB.out) | (with_reducible refine Kd.C_alloc ?_ _) | (with_reducible refine Kd.C_drewN ?_ _) | (with_reducible refine Kd.C_drew ?_)))
      (case side6=>exact HC0_6.out)
      (case side7=>repeat (first | exact (Kd.C_below HR0_7.out HB.out) | (with_reducible refine Kd.C_alloc ?_ _) | (with_reducible refine Kd.C_drewN ?_ _) | (with_reducible refine Kd.C_drew ?_)))
      (case side8=>exact HC0_7.out)
      rintro e w38 ⟨v657,v660,v665,v668,rfl,ho0,ho1,ho2,ho3,hb⟩
      refine ⟨_,rfl,?_⟩
      have n0_:=Aside0.mk (Kd.R_mono (Kd.R_told (Kd.R_told (Kd.R_told (Kd.R_told (Kd.R_old (by (with_reducible repeat (first | apply Kd.R_alloc | apply Kd.R_drewN | apply Kd.R_drew));exact HO_652002.out) hb) (Kd.R_base ho0)) (Kd.R_base ho1)) (Kd.R_base ho2)) (Kd.R_base ho3)) (fun _ h_=>h_.1))
      have n1_:=Aside0.mk (Kd.R_mono (Kd.R_told (Kd.R_told (Kd.R_told (Kd.R_told (Kd.R_old (by (with_reducible repeat (first | apply Kd.R_alloc | apply Kd.R_drewN | apply Kd.R_drew));exact HO_652003.out) hb) (Kd.R_base ho0)) (Kd.R_base ho1)) (Kd.R_base ho2)) (Kd.R_base ho3)) (fun _ h_=>h_.1))
      have n2_:=Aside0.mk (Kd.R_mono (Kd.R_told (Kd.R_told (Kd.R_told (Kd.R_told (Kd.R_old (by (with_reducible repeat (first | apply Kd.R_alloc | apply Kd.R_drewN | apply Kd.R_drew));exact HO_652006.out) hb) (Kd.R_base ho0)) (Kd.R_base ho1)) (Kd.R_base ho2)) (Kd.R_base ho3)) (fun _ h_=>h_.1))
      have n3_:=Aside0.mk (Kd.R_mono (Kd.R_told (Kd.R_told (Kd.R_told (Kd.R_told (Kd.R_old (by (with_reducible repeat (first | apply Kd.R_alloc | apply Kd.R_drewN | apply Kd.R_drew));exact HO_652007.out) hb) (Kd.R_base ho0)) (Kd.R_base ho1)) (Kd.R_base ho2)) (Kd.R_base ho3)) (fun _ h_=>h_.1))
      have n4_:=Aside0.mk (Kd.R_lower (Kd.R_new' (Kd.R_new' (Kd.R_new' (Kd.R_new' ho0 (Kd.R_lt (by (with_reducible repeat (first | apply Kd.R_alloc | apply Kd.R_drewN | apply Kd.R_drew));exact HO_652002.out))) (Kd.R_lt (by (with_reducible repeat (first | apply Kd.R_alloc | apply Kd.R_drewN | apply Kd.R_drew));exact HO_652003.out))) (Kd.R_lt (by (with_reducible repeat (first | apply Kd.R_alloc | apply Kd.R_drewN | apply Kd.R_drew));exact HO_652006.out))) (Kd.R_lt (by (with_reducible repeat (first | apply Kd.R_alloc | apply Kd.R_drewN | apply Kd.R_drew));exact HO_652007.out))) (zal (by repeat (first | (with_reducible first | exact HB.out | apply zae | apply zac | apply zaf | refine zag ?_ GE613.out | refine zag ?_ GE651.out) | exact HB.out))))
      have n5_:=Aside0.mk (Kd.R_lower (Kd.R_new' (Kd.R_new' (Kd.R_new' (Kd.R_new' ho1 (Kd.R_lt (by (with_reducible repeat (first | apply Kd.R_alloc | apply Kd.R_drewN | apply Kd.R_drew));exact HO_652002.out))) (Kd.R_lt (by (with_reducible repeat (first | apply Kd.R_alloc | apply Kd.R_drewN | apply Kd.R_drew));exact HO_652003.out))) (Kd.R_lt (by (with_reducible repeat (first | apply Kd.R_alloc | apply Kd.R_drewN | apply Kd.R_drew));exact HO_652006.out))) (Kd.R_lt (by (with_reducible repeat (first | apply Kd.R_alloc | apply Kd.R_drewN | apply Kd.R_drew));exact HO_652007.out))) (zal (by repeat (first | (with_reducible first | exact HB.out | apply zae | apply zac | apply zaf | refine zag ?_ GE613.out | refine zag ?_ GE651.out) | exact HB.out))))
      have n6_:=Aside0.mk (Kd.R_lower (Kd.R_new' (Kd.R_new' (Kd.R_new' (Kd.R_new' ho2 (Kd.R_lt (by (with_reducible repeat (first | apply Kd.R_alloc | apply Kd.R_drewN | apply Kd.R_drew));exact HO_652002.out))) (Kd.R_lt (by (with_reducible repeat (first | apply Kd.R_alloc | apply Kd.R_drewN | apply Kd.R_drew));exact HO_652003.out))) (Kd.R_lt (by (with_reducible repeat (first | apply Kd.R_alloc | apply Kd.R_drewN | apply Kd.R_drew));exact HO_652006.out))) (Kd.R_lt (by (with_reducible repeat (first | apply Kd.R_alloc | apply Kd.R_drewN | apply Kd.R_drew));exact HO_652007.out))) (zal (by repeat (first | (with_reducible first | exact HB.out | apply zae | apply zac | apply zaf | refine zag ?_ GE613.out | refine zag ?_ GE651.out) | exact HB.out))))
      have n7_:=Aside0.mk (Kd.R_lower (Kd.R_new' (Kd.R_new' (Kd.R_new' (Kd.R_new' ho3 (Kd.R_lt (by (with_reducible repeat (first | apply Kd.R_alloc | apply Kd.R_drewN | apply Kd.R_drew));exact HO_652002.out))) (Kd.R_lt (by (with_reducible repeat (first | apply Kd.R_alloc | apply Kd.R_drewN | apply Kd.R_drew));exact HO_652003.out))) (Kd.R_lt (by (with_reducible repeat (first | apply Kd.R_alloc | apply Kd.R_drewN | apply Kd.R_drew));exact HO_652006.out))) (Kd.R_lt (by (with_reducible repeat (first | apply Kd.R_alloc | apply Kd.R_drewN | apply Kd.R_drew));exact HO_652007.out))) (zal (by repeat (first | (with_reducible first | exact HB.out | apply zae | apply zac | apply zaf | refine zag ?_ GE613.out | refine zag ?_ GE651.out) | exact HB.out))))
      have n8_:=Aside0.mk (zaq (g:=gb613) (o:=.cells #[.int .i64 a0_0,.int .i64 a0_1,.slice A0_2 l0_2.length c0_2,.slice A0_3 l0_3.length c0_3,.int .i64 a0_4,.int .i64 a0_5,.slice A0_6 l0_6.length c0_6,.slice A0_7 l0_7.length c0_7,.int .i64 a0_8] 48 (0,0)) (by (with_reducible repeat (first | refine zaj ?_ _ | refine zak ?_ | refine zai ?_ _));exact BK613.out) hb)
      have n9_:=Aside0.mk (zaq (g:=gb651) (o:=.cells #[.int .i64 t634,.int .i64 t635,.slice Ao27 t636.length co27,.slice Ao28 t639.length co28,.int .i64 t642,.int .i64 t643,.slice Ao29 t644.length co29,.slice Ao30 t647.length co30,.int .i64 t650] 38 (0,0)) (by (with_reducible repeat (first | refine zaj ?_ _ | refine zak ?_ | refine zai ?_ _));exact BK651.out) hb)
      have n10_:=Aside0.mk (zao (by repeat (first | (with_reducible first | exact HB.out | apply zae | apply zac | apply zaf | refine zag ?_ GE613.out | refine zag ?_ GE651.out) | exact HB.out)) hb)
      clear HO_652002
      clear HO_652003
      clear HO_652006
      clear HO_652007
      clear BK613
      clear BK651
      clear HB
      have HO_652002:=n0_
      have HO_652003:=n1_
      have HO_652006:=n2_
      have HO_652007:=n3_
      have HO658:=n4_
      have HO661:=n5_
      have HO666:=n6_
      have HO669:=n7_
      have BK613:=n8_
      have BK651:=n9_
      have HB:=n10_
      clear n0_ n1_ n2_ n3_ n4_ n5_ n6_ n7_ n8_ n9_ n10_
      (try clear hb)
      (try clear hb2)
      (try clear hk)
      (try clear hi)
      (try clear ho0)
      (try clear ho1)
      (try clear ho2)
      (try clear ho3)
      obtain ⟨Ao39,co39,eo39⟩:=Kd.R_slice HO658.out
      (first | subst eo39 | (injection eo39 with f1_ f2_ f3_;have f4_:=f1_.symm;have f5_:=f3_.symm;clear f1_ f2_ f3_;subst f4_;subst f5_))
      obtain ⟨Ao40,co40,eo40⟩:=Kd.R_slice HO661.out
      (first | subst eo40 | (injection eo40 with f1_ f2_ f3_;have f4_:=f1_.symm;have f5_:=f3_.symm;clear f1_ f2_ f3_;subst f4_;subst f5_))
      obtain ⟨Ao41,co41,eo41⟩:=Kd.R_slice HO666.out
      (first | subst eo41 | (injection eo41 with f1_ f2_ f3_;have f4_:=f1_.symm;have f5_:=f3_.symm;clear f1_ f2_ f3_;subst f4_;subst f5_))
      obtain ⟨Ao42,co42,eo42⟩:=Kd.R_slice HO669.out
      (first | subst eo42 | (injection eo42 with f1_ f2_ f3_;have f4_:=f1_.symm;have f5_:=f3_.symm;clear f1_ f2_ f3_;subst f4_;subst f5_))
      refine hK.out _ _ ⟨(zab BK651.out 0).trans rfl,(zab BK651.out 1).trans rfl,(zab BK651.out 2).trans rfl,(zab BK651.out 3).trans rfl,(zab BK651.out 4).trans rfl,(zab BK651.out 5).trans rfl,(zab BK651.out 6).trans rfl,(zab BK651.out 7).trans rfl,(zab BK651.out 8).trans rfl,(zab BK613.out 0).trans rfl,(zab BK613.out 1).trans rfl,(zab BK613.out 2).trans rfl,(zab BK613.out 3).trans rfl,(zab BK613.out 4).trans rfl,(zab BK613.out 5).trans rfl,(zab BK613.out 6).trans rfl,(zab BK613.out 7).trans rfl,(zab BK613.out 8).trans rfl⟩ (fun hHeld=>?_)
      clear hK K
      refine norm_ (a':=?_) ?_ ?_
      rotate_left
      ·show Act.put _ (some 37) _=_
       simp only [Act.put,List.setIfInBounds_toArray,List.set_cons_zero,List.set_cons_succ,i64_w,i32_w]
       rfl
      refine one_ (i:=3) (N:=some 38) #[true,true,true,true,false] rfl rfl (by kernel_rfl) (by decide) (fun K hK=>?_)
      refine goes_ Tru.func26 (by kernel_rfl) rfl #[.agg #[.int .i64 t634,.int .i64 t635,.slice Ao27 t636.length co27,.slice Ao28 t639.length co28,.int .i64 t642,.int .i64 t643,.slice Ao29 t644.length co29,.slice Ao30 t647.length co30,.int .i64 t650],.agg #[.int .i64 t654,.int .i64 t655,.slice Ao39 t656.length co39,.slice Ao40 t659.length co40,.int .i64 t662,.int .i64 t663,.slice Ao41 t664.length co41,.slice Ao42 t667.length co42,.int .i64 t670]] (by rfl) rfl rfl (by (try simp only [List.map_toArray,List.map_cons,List.map_nil]);first | done | rfl | (simp only [List.length_drop,List.length_take];rfl)) ?_
      with_reducible refine (laws_eqBatch.calls kj10 t634 t635 _ _ t636 _ _ t639 t642 t643 _ _ t644 _ _ t647 t650 t654 t655 _ _ t656 _ _ t659 t662 t663 _ _ t664 _ _ t667 t670 true _ ?side1 ?side2 ?side3 ?side4 ?side5 ?side6 ?side7 ?side8 ?side9 ?side10 ?side11 ?side12 ?side13 ?side14 ?side15 ?side16 A35.out).mono ?_
      (case side1=>repeat (first | exact (Kd.R_reads' HO_652002.out).2.2 | (with_reducible refine Kd.C_alloc ?_ _) | (with_reducible refine Kd.C_drewN ?_ _) | (with_reducible refine Kd.C_drew ?_)))
      (case side2=>exact (Kd.R_reads' HO_652002.out).2.1)
      (case side3=>repeat (first | exact (Kd.R_reads' HO_652003.out).2.2 | (with_reducible refine Kd.C_alloc ?_ _) | (with_reducible refine Kd.C_drewN ?_ _) | (with_reducible refine Kd.C_drew ?_)))
      (case side4=>exact (Kd.R_reads' HO_652003.out).2.1)
      (case side5=>repeat (first | exact (Kd.R_reads' HO_652006.out).2.2 | (with_reducible refine Kd.C_alloc ?_ _) | (with_reducible refine Kd.C_drewN ?_ _) | (with_reducible refine Kd.C_drew ?_)))
      (case side6=>exact (Kd.R_reads' HO_652006.out).2.1)
      (case side7=>repeat (first | exact (Kd.R_reads' HO_652007.out).2.2 | (with_reducible refine Kd.C_alloc ?_ _) | (with_reducible refine Kd.C_drewN ?_ _) | (with_reducible refine Kd.C_drew ?_)))
      (case side8=>exact (Kd.R_reads' HO_652007.out).2.1)
      (case side9=>repeat (first | exact (Kd.R_reads' HO658.out).2.2 | (with_reducible refine Kd.C_alloc ?_ _) | (with_reducible refine Kd.C_drewN ?_ _) | (with_reducible refine Kd.C_drew ?_)))
      (case side10=>exact (Kd.R_reads' HO658.out).2.1)
      (case side11=>repeat (first | exact (Kd.R_reads' HO661.out).2.2 | (with_reducible refine Kd.C_alloc ?_ _) | (with_reducible refine Kd.C_drewN ?_ _) | (with_reducible refine Kd.C_drew ?_)))
      (case side12=>exact (Kd.R_reads' HO661.out).2.1)
      (case side13=>repeat (first | exact (Kd.R_reads' HO666.out).2.2 | (with_reducible refine Kd.C_alloc ?_ _) | (with_reducible refine Kd.C_drewN ?_ _) | (with_reducible refine Kd.C_drew ?_)))
      (case side14=>exact (Kd.R_reads' HO666.out).2.1)
      (case side15=>repeat (first | exact (Kd.R_reads' HO669.out).2.2 | (with_reducible refine Kd.C_alloc ?_ _) | (with_reducible refine Kd.C_drewN ?_ _) | (with_reducible refine Kd.C_drew ?_)))
      (case side16=>exact (Kd.R_reads' HO669.out).2.1)
      rintro e w43 ⟨rfl,hb⟩
      refine ⟨_,rfl,?_⟩
      have n0_:=Aside0.mk (Kd.R_below (by (with_reducible repeat (first | apply Kd.R_alloc | apply Kd.R_drewN | apply Kd.R_drew));exact HO_652002.out) hb)
      have n1_:=Aside0.mk (Kd.R_below (by (with_reducible repeat (first | apply Kd.R_alloc | apply Kd.R_drewN | apply Kd.R_drew));exact HO_652003.out) hb)
      have n2_:=Aside0.mk (Kd.R_below (by (with_reducible repeat (first | apply Kd.R_alloc | apply Kd.R_drewN | apply Kd.R_drew));exact HO_652006.out) hb)
      have n3_:=Aside0.mk (Kd.R_below (by (with_reducible repeat (first | apply Kd.R_alloc | apply Kd.R_drewN | apply Kd.R_drew));exact HO_652007.out) hb)
      have n4_:=Aside0.mk (Kd.R_below (by (with_reducible repeat (first | apply Kd.R_alloc | apply Kd.R_drewN | apply Kd.R_drew));exact HO658.out) hb)
      have n5_:=Aside0.mk (Kd.R_below (by (with_reducible repeat (first | apply Kd.R_alloc | apply Kd.R_drewN | apply Kd.R_drew));exact HO661.out) hb)
      have n6_:=Aside0.mk (Kd.R_below (by (with_reducible repeat (first | apply Kd.R_alloc | apply Kd.R_drewN | apply Kd.R_drew));exact HO666.out) hb)
      have n7_:=Aside0.mk (Kd.R_below (by (with_reducible repeat (first | apply Kd.R_alloc | apply Kd.R_drewN | apply Kd.R_drew));exact HO669.out) hb)
      have n8_:=Aside0.mk (zaq (g:=gb613) (o:=.cells #[.int .i64 a0_0,.int .i64 a0_1,.slice A0_2 l0_2.length c0_2,.slice A0_3 l0_3.length c0_3,.int .i64 a0_4,.int .i64 a0_5,.slice A0_6 l0_6.length c0_6,.slice A0_7 l0_7.length c0_7,.int .i64 a0_8] 48 (0,0)) (by (with_reducible repeat (first | refine zaj ?_ _ | refine zak ?_ | refine zai ?_ _));exact BK613.out) hb)
      have n9_:=Aside0.mk (zaq (g:=gb651) (o:=.cells #[.int .i64 t634,.int .i64 t635,.slice Ao27 t636.length co27,.slice Ao28 t639.length co28,.int .i64 t642,.int .i64 t643,.slice Ao29 t644.length co29,.slice Ao30 t647.length co30,.int .i64 t650] 38 (0,0)) (by (with_reducible repeat (first | refine zaj ?_ _ | refine zak ?_ | refine zai ?_ _));exact BK651.out) hb)
      have n10_:=Aside0.mk (zao (by repeat (first | (with_reducible first | exact HB.out | apply zae | apply zac | apply zaf | refine zag ?_ GE613.out | refine zag ?_ GE651.out) | exact HB.out)) hb)
      clear HO_652002
      clear HO_652003
      clear HO_652006
      clear HO_652007
      clear HO658
      clear HO661
      clear HO666
      clear HO669
      clear BK613
      clear BK651
      clear HB
      have HO_652002:=n0_
      have HO_652003:=n1_
      have HO_652006:=n2_
      have HO_652007:=n3_
      have HO658:=n4_
      have HO661:=n5_
      have HO666:=n6_
      have HO669:=n7_
      have BK613:=n8_
      have BK651:=n9_
      have HB:=n10_
      clear n0_ n1_ n2_ n3_ n4_ n5_ n6_ n7_ n8_ n9_ n10_
      (try clear hb)
      (try clear hb2)
      (try clear hk)
      (try clear hi)
      refine hK.out _ _ ⟨(zab BK651.out 0).trans rfl,(zab BK651.out 1).trans rfl,(zab BK651.out 2).trans rfl,(zab BK651.out 3).trans rfl,(zab BK651.out 4).trans rfl,(zab BK651.out 5).trans rfl,(zab BK651.out 6).trans rfl,(zab BK651.out 7).trans rfl,(zab BK651.out 8).trans rfl,(zab BK613.out 0).trans rfl,(zab BK613.out 1).trans rfl,(zab BK613.out 2).trans rfl,(zab BK613.out 3).trans rfl,(zab BK613.out 4).trans rfl,(zab BK613.out 5).trans rfl,(zab BK613.out 6).trans rfl,(zab BK613.out 7).trans rfl,(zab BK613.out 8).trans rfl⟩ (fun hHeld=>?_)
      clear hK K
      refine norm_ (a':=?_) ?_ ?_
      rotate_left
      ·show Act.put _ (some 38) _=_
       simp only [Act.put,List.setIfInBounds_toArray,List.set_cons_zero,List.set_cons_succ,i64_w,i32_w]
       rfl
      refine pure_ (i:=4) (N:=some 39) (v:=?_) (a':=?_) #[true,true,true,true,true] rfl rfl (by kernel_rfl) (fun _ _ _ h=>h) (Or.inl ⟨by rfl,?_⟩) ?_ ?_
      rotate_left
      ·intro w'
       go_simp
       with_reducible rfl
      rotate_left
      ·simp only [Act.put,List.setIfInBounds_toArray,List.set_cons_zero,List.set_cons_succ,i64_w,i32_w]
       rfl
      refine done_ (by kernel_rfl) ?_
      try go_wp2
      go_ret
      exact ⟨by first | rfl | (simp [errW_none,errW_some] <;> rfl) | (simp [*,errW_none,errW_some] <;> rfl),by repeat (first | (with_reducible first | exact HB.out | apply zae | apply zac | apply zaf | refine zag ?_ GE613.out | refine zag ?_ GE651.out) | exact HB.out)⟩
     ·replace c36:=Bool.eq_false_iff.mpr c36
      subst c36
      have H1:(some false)=some r:=by rw [if_neg (show ¬ (false=true) by decide)] at H;exact H
      clear H
      have H:=H1
      clear H1
      exact absurd (Option.some.inj (H.trans (congrArg some HT0_.out))) (by decide)
end Go.Proofs.Ytjkikkgpenhbgaa.Ba
