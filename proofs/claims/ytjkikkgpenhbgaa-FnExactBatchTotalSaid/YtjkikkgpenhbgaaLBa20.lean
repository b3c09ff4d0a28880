import Derived.Test.YtjkikkgpenhbgaaLZ
import Derived.Test.YtjkikkgpenhbgaaLBa0
import Derived.Test.YtjkikkgpenhbgaaLBa1
import Derived.Test.YtjkikkgpenhbgaaLBa3
import Derived.Test.YtjkikkgpenhbgaaLBa12
namespace Go.Proofs.Ytjkikkgpenhbgaa.Ba
open Go.RowKit Go.Proofs.YtjkikkgpenhbgaaW.PrintWords Go.Proofs.YtjkikkgpenhbgaaW.PrintLast Go.Proofs.YtjkikkgpenhbgaaW.PrintMore Go.Proofs.Ytjkikkgpenhbgaa.Z
attribute [local go_sem] max2_int min2_int max_two min_two max_three min_three max_four min_four
set_option linter.unusedVariables false
set_option linter.unusedSimpArgs false
theorem c74x20:Ent Tru.prog 74:=ent Tru.func74 (by kernel_rfl) rfl
def laws_szIntS.f (l0:List Int) (a1:Int):Option (Int):=if (wrap64 (a1 - (l0.length:Int)))<0 then (some (-1)) else (some (wrap64 (a1 - (l0.length:Int))))
set_option maxHeartbeats 8000000 in
set_option maxRecDepth 100000 in
theorem laws_szIntS.calls (A0:Option Addr) (c0:Nat) (l0:List Int) (a1:Int) (r:Int) (w:World) (hr0:Kd.C (Kd.int .i64) w A0 l0.length l0) (hc0:l0.length≤c0) (h:laws_szIntS.f l0 a1=some r) :
  Calls Tru.prog 80 #[.slice A0 l0.length c0,.int .i64 a1] w fun e w'=>e = .returned (.int .i64 r)∧Drawn0 w w':=by
 have HR0:=Aside0.mk hr0
 have HC0:=Aside0.mk hc0
 clear hr0 hc0
 have H:=h
 unfold laws_szIntS.f at H
 clear h
 by_cases c3:(wrap64 (a1 - (l0.length:Int)))<0
 ·rw [if_pos c3] at H
  have c3b0:decide ((wrap64 (a1 - (l0.length:Int)))<0)=true:=decide_eq_true c3
  clear c3
  obtain rfl:=Option.some.inj H
  go_enter Tru.func80,Try.ntmps80
  go_wp2
  go_ret
  exact ⟨rfl,by repeat (first | exact Drawn0.refl _ | apply Drawn0.step)⟩
 ·rw [if_neg c3] at H
  have c3b0:decide ((wrap64 (a1 - (l0.length:Int)))<0)=false:=decide_eq_false c3
  clear c3
  obtain rfl:=Option.some.inj H
  go_enter Tru.func80,Try.ntmps80
  go_wp2
  go_ret
  exact ⟨rfl,by repeat (first | exact Drawn0.refl _ | apply Drawn0.step)⟩
def laws_szCol.f (a0_0:Int) (a0_1:Int) (l0_2:List Int) (l0_3:List Int) (a1:Int):Option (Int):=(laws_szIntS.f l0_2 a1).bind fun t402=>(if t402<0 then (some (-1)) else ((laws_szIntS.f l0_3 t402).bind fun t403=>(if t403<0 then (some (-1)) else (some t403))))
set_option maxHeartbeats 8000000 in
set_option maxRecDepth 100000 in
theorem laws_szCol.calls (a0_0:Int) (a0_1:Int) (A0_2:Option Addr) (c0_2:Nat) (l0_2:List Int) (A0_3:Option Addr) (c0_3:Nat) (l0_3:List Int) (a1:Int) (r:Int) (w:World) (hr0_2:Kd.C (Kd.int .i64) w A0_2 l0_2.length l0_2) (hc0_2:l0_2.length≤c0_2) (hr0_3:Kd.C (Kd.int .i64) w A0_3 l0_3.length l0_3) (hc0_3:l0_3.length≤c0_3) (h:laws_szCol.f a0_0 a0_1 l0_2 l0_3 a1=some r) :
  Calls Tru.prog 55 #[.agg #[.int .i64 a0_0,.int .i64 a0_1,.slice A0_2 l0_2.length c0_2,.slice A0_3 l0_3.length c0_3],.int .i64 a1] w fun e w'=>e = .returned (.int .i64 r)∧Below w.heap.size w w':=by
 have hu46:=((Tru.und _).trans ((Tru.und _).trans Try.underlying46))
 have HR0_2:=Aside0.mk hr0_2
 have HC0_2:=Aside0.mk hc0_2
 clear hr0_2 hc0_2
 have HR0_3:=Aside0.mk hr0_3
 have HC0_3:=Aside0.mk hc0_3
 clear hr0_3 hc0_3
 have HB:=Aside0.mk (Below.refl w.heap.size w)
 have H:=h
 unfold laws_szCol.f at H
 clear h
 replace H:=bnd H
 obtain ⟨t402,A3,H⟩:=H
 by_cases c4:t402<0
 ·rw [if_pos c4] at H
  have c4b0:decide (t402<0)=true:=decide_eq_true c4
  clear c4
  obtain rfl:=Option.some.inj H
  go_enter Tru.func55,Try.ntmps55
  go_wp2_with (first | ((with_reducible refine zam (N:=2) rfl ?_);refine boxZ (N:=2) (cs:=#[.int .i64 a0_0,.int .i64 a0_1,.slice A0_2 l0_2.length c0_2,.slice A0_3 l0_3.length c0_3]) (t:=46) ?_;intro gb401 hg w5 hbox hb;replace BK401:=Aside0.mk (hbox);replace GW401:=gwZ hg;replace GE401:=gwZ hg;replace HB:=bnZ hb;clear hb hbox hg;have hcz6_0:w5.cell? ⟨gb401,0,none⟩=some (.int .i64 a0_0):=(zab BK401.out 0).trans rfl;have hcz6_1:w5.cell? ⟨gb401,1,none⟩=some (.int .i64 a0_1):=(zab BK401.out 1).trans rfl;have hcz6_2:w5.cell? ⟨gb401,2,none⟩=some (.slice A0_2 l0_2.length c0_2):=(zab BK401.out 2).trans rfl;have hcz6_3:w5.cell? ⟨gb401,3,none⟩=some (.slice A0_3 l0_3.length c0_3):=(zab BK401.out 3).trans rfl;have hfz6_0:=zaa BK401.out 0;have hfz6_1:=zaa BK401.out 1;have hfz6_2:=zaa BK401.out 2;have hfz6_3:=zaa BK401.out 3) | ((with_reducible refine zah (f:=80) rfl ?_);refine goesZ (some 8) Tru.func80 #[.slice A0_2 l0_2.length c0_2,.int .i64 a1] ?_;(with_reducible refine (laws_szIntS.calls _ _ l0_2 a1 t402 _ ?side1 ?side2 A3.out).mono ?_);(case side1=>exact (Kd.C_below HR0_2.out HB.out));(case side2=>exact HC0_2.out);rintro e w' ⟨rfl,⟨nd,rfl⟩⟩;refine ⟨_,rfl,?_⟩))
  go_ret
  exact ⟨rfl,by repeat (with_reducible first | exact HB.out | apply zae | apply zac | apply zaf | refine zag ?_ GE401.out)⟩
 ·rw [if_neg c4] at H
  have c4b0:decide (t402<0)=false:=decide_eq_false c4
  clear c4
  replace H:=bnd H
  obtain ⟨t403,A7,H⟩:=H
  by_cases c8:t403<0
  ·rw [if_pos c8] at H
   have c8b0:decide (t403<0)=true:=decide_eq_true c8
   clear c8
   obtain rfl:=Option.some.inj H
   go_enter Tru.func55,Try.ntmps55
   go_wp2_with (first | ((with_reducible refine zam (N:=2) rfl ?_);refine boxZ (N:=2) (cs:=#[.int .i64 a0_0,.int .i64 a0_1,.slice A0_2 l0_2.length c0_2,.slice A0_3 l0_3.length c0_3]) (t:=46) ?_;intro gb401 hg w9 hbox hb;replace BK401:=Aside0.mk (hbox);replace GW401:=gwZ hg;replace GE401:=gwZ hg;replace HB:=bnZ hb;clear hb hbox hg;have hcz10_0:w9.cell? ⟨gb401,0,none⟩=some (.int .i64 a0_0):=(zab BK401.out 0).trans rfl;have hcz10_1:w9.cell? ⟨gb401,1,none⟩=some (.int .i64 a0_1):=(zab BK401.out 1).trans rfl;have hcz10_2:w9.cell? ⟨gb401,2,none⟩=some (.slice A0_2 l0_2.length c0_2):=(zab BK401.out 2).trans rfl;have hcz10_3:w9.cell? ⟨gb401,3,none⟩=some (.slice A0_3 l0_3.length c0_3):=(zab BK401.out 3).trans rfl;have hfz10_0:=zaa BK401.out 0;have hfz10_1:=zaa BK401.out 1;have hfz10_2:=zaa BK401.out 2;have hfz10_3:=zaa BK401.out 3) | ((with_reducible refine zah (f:=80) rfl ?_);refine goesZ (some 8) Tru.func80 #[.slice A0_2 l0_2.length c0_2,.int .i64 a1] ?_;(with_reducible refine (laws_szIntS.calls _ _ l0_2 a1 t402 _ ?side1 ?side2 A3.out).mono ?_);(case side1=>exact (Kd.C_below HR0_2.out HB.out));(case side2=>exact HC0_2.out);rintro e w' ⟨rfl,⟨nd,rfl⟩⟩;refine ⟨_,rfl,?_⟩) | ((with_reducible refine zah (f:=80) rfl ?_);refine goesZ (some 14) Tru.func80 #[.slice A0_3 l0_3.length c0_3,.int .i64 t402] ?_;(with_reducible refine (laws_szIntS.calls _ _ l0_3 t402 t403 _ ?side1 ?side2 A7.out).mono ?_);(case side1=>repeat (first | exact (Kd.C_below HR0_3.out bZ) | (with_reducible refine Kd.C_alloc ?_ _) | (with_reducible refine Kd.C_drewN ?_ _) | (with_reducible refine Kd.C_drew ?_)));(case side2=>exact HC0_3.out);rintro e w' ⟨rfl,⟨nd,rfl⟩⟩;refine ⟨_,rfl,?_⟩))
   go_ret
   exact ⟨rfl,by repeat (with_reducible first | exact HB.out | apply zae | apply zac | apply zaf | refine zag ?_ GE401.out)⟩
  ·rw [if_neg c8] at H
   have c8b0:decide (t403<0)=false:=decide_eq_false c8
   clear c8
   obtain rfl:=Option.some.inj H
   go_enter Tru.func55,Try.ntmps55
   go_wp2_with (first | ((with_reducible refine zam (N:=2) rfl ?_);refine boxZ (N:=2) (cs:=#[.int .i64 a0_0,.int .i64 a0_1,.slice A0_2 l0_2.length c0_2,.slice A0_3 l0_3.length c0_3]) (t:=46) ?_;intro gb401 hg w11 hbox hb;replace BK401:=Aside0.mk (hbox);replace GW401:=gwZ hg;replace GE401:=gwZ hg;replace HB:=bnZ hb;clear hb hbox hg;have hcz12_0:w11.cell? ⟨gb401,0,none⟩=some (.int .i64 a0_0):=(zab BK401.out 0).trans rfl;have hcz12_1:w11.cell? ⟨gb401,1,none⟩=some (.int .i64 a0_1):=(zab BK401.out 1).trans rfl;have hcz12_2:w11.cell? ⟨gb401,2,none⟩=some (.slice A0_2 l0_2.length c0_2):=(zab BK401.out 2).trans rfl;have hcz12_3:w11.cell? ⟨gb401,3,none⟩=some (.slice A0_3 l0_3.length c0_3):=(zab BK401.out 3).trans rfl;have hfz12_0:=zaa BK401.out 0;have hfz12_1:=zaa BK401.out 1;have hfz12_2:=zaa BK401.out 2;have hfz12_3:=zaa BK401.out 3) | ((with_reducible refine zah (f:=80) rfl ?_);refine goesZ (some 8) Tru.func80 #[.slice A0_2 l0_2.length c0_2,.int .i64 a1] ?_;(with_reducible refine (laws_szIntS.calls _ _ l0_2 a1 t402 _ ?side1 ?side2 A3.out).mono ?_);(case side1=>exact (Kd.C_below HR0_2.out HB.out));(case side2=>exact HC0_2.out);rintro e w' ⟨rfl,⟨nd,rfl⟩⟩;refine ⟨_,rfl,?_⟩) | ((with_reducible refine zah (f:=80) rfl ?_);refine goesZ (some 14) Tru.func80 #[.slice A0_3 l0_3.length c0_3,.int .i64 t402] ?_;(with_reducible refine (laws_szIntS.calls _ _ l0_3 t402 t403 _ ?side1 ?side2 A7.out).mono ?_);(case side1=>repeat (first | exact (Kd.C_below HR0_3.out bZ) | (with_reducible refine Kd.C_alloc ?_ _) | (with_reducible refine Kd.C_drewN ?_ _) | (with_reducible refine Kd.C_drew ?_)));(case side2=>exact HC0_3.out);rintro e w' ⟨rfl,⟨nd,rfl⟩⟩;refine ⟨_,rfl,?_⟩))
   go_ret
   exact ⟨rfl,by repeat (with_reducible first | exact HB.out | apply zae | apply zac | apply zaf | refine zag ?_ GE401.out)⟩
def laws_szBatch.f (a0_0:Int) (a0_1:Int) (l0_2:List Int) (l0_3:List Int) (a0_4:Int) (a0_5:Int) (l0_6:List Int) (l0_7:List Int) (a0_8:Int) (a1:Int):Option (Int):=(laws_szCol.f a0_0 a0_1 l0_2 l0_3 a1).bind fun t405=>(if t405<0 then (some (-1)) else ((laws_szCol.f a0_4 a0_5 l0_6 l0_7 t405).bind fun t406=>(if t406<0 then (some (-1)) else (some t406))))
set_option maxHeartbeats 8000000 in
set_option maxRecDepth 100000 in
theorem laws_szBatch.calls (a0_0:Int) (a0_1:Int) (A0_2:Option Addr) (c0_2:Nat) (l0_2:List Int) (A0_3:Option Addr) (c0_3:Nat) (l0_3:List Int) (a0_4:Int) (a0_5:Int) (A0_6:Option Addr) (c0_6:Nat) (l0_6:List Int) (A0_7:Option Addr) (c0_7:Nat) (l0_7:List Int) (a0_8:Int) (a1:Int) (r:Int) (w:World) (hr0_2:Kd.C (Kd.int .i64) w A0_2 l0_2.length l0_2) (hc0_2:l0_2.length≤c0_2) (hr0_3:Kd.C (Kd.int .i64) w A0_3 l0_3.length l0_3) (hc0_3:l0_3.length≤c0_3) (hr0_6:Kd.C (Kd.int .i64) w A0_6 l0_6.length l0_6) (hc0_6:l0_6.length≤c0_6) (hr0_7:Kd.C (Kd.int .i64) w A0_7 l0_7.length l0_7) (hc0_7:l0_7.length≤c0_7) (h:laws_szBatch.f a0_0 a0_1 l0_2 l0_3 a0_4 a0_5 l0_6 l0_7 a0_8 a1=some r) :
  Calls Tru.prog 22 #[.agg #[.int .i64 a0_0,.int .i64 a0_1,.slice A0_2 l0_2.length c0_2,.slice A0_3 l0_3.length c0_3,.int .i64 a0_4,.int .i64 a0_5,.slice A0_6 l0_6.length c0_6,.slice A0_7 l0_7.length c0_7,.int .i64 a0_8],.int .i64 a1] w fun e w'=>e = .returned (.int .i64 r)∧Below w.heap.size w w':=by
 have hu48:=((Tru.und _).trans ((Tru.und _).trans Try.underlying48))
 have hu46:=((Tru.und _).trans ((Tru.und _).trans Try.underlying46))
 have HR0_2:=Aside0.mk hr0_2
 have HC0_2:=Aside0.mk hc0_2
 clear hr0_2 hc0_2
 have HR0_3:=Aside0.mk hr0_3
 have HC0_3:=Aside0.mk hc0_3
 clear hr0_3 hc0_3
 have HR0_6:=Aside0.mk hr0_6
 have HC0_6:=Aside0.mk hc0_6
 clear hr0_6 hc0_6
 have HR0_7:=Aside0.mk hr0_7
 have HC0_7:=Aside0.mk hc0_7
 clear hr0_7 hc0_7
 have HB:=Aside0.mk (Below.refl w.heap.size w)
 have H:=h
 unfold laws_szBatch.f at H
 clear h
 replace H:=bnd H
 obtain ⟨t405,A3,H⟩:=H
 by_cases c4:t405<0
 ·rw [if_pos c4] at H
  have c4b0:decide (t405<0)=true:=decide_eq_true c4
  clear c4
  obtain rfl:=Option.some.inj H
  go_enter Tru.func22,Try.ntmps22
  go_wp2_with (first | ((with_reducible refine zam (N:=2) rfl ?_);refine boxZ (N:=2) (cs:=#[.int .i64 a0_0,.int .i64 a0_1,.slice A0_2 l0_2.length c0_2,.slice A0_3 l0_3.length c0_3,.int .i64 a0_4,.int .i64 a0_5,.slice A0_6 l0_6.length c0_6,.slice A0_7 l0_7.length c0_7,.int .i64 a0_8]) (t:=48) ?_;intro gb404 hg w5 hbox hb;replace BK404:=Aside0.mk (hbox);replace GW404:=gwZ hg;replace GE404:=gwZ hg;replace HB:=bnZ hb;clear hb hbox hg;have hcz6_0:w5.cell? ⟨gb404,0,none⟩=some (.int .i64 a0_0):=(zab BK404.out 0).trans rfl;have hcz6_1:w5.cell? ⟨gb404,1,none⟩=some (.int .i64 a0_1):=(zab BK404.out 1).trans rfl;have hcz6_2:w5.cell? ⟨gb404,2,none⟩=some (.slice A0_2 l0_2.length c0_2):=(zab BK404.out 2).trans rfl;have hcz6_3:w5.cell? ⟨gb404,3,none⟩=some (.slice A0_3 l0_3.length c0_3):=(zab BK404.out 3).trans rfl;have hcz6_4:w5.cell? ⟨gb404,4,none⟩=some (.int .i64 a0_4):=(zab BK404.out 4).trans rfl;have hcz6_5:w5.cell? ⟨gb404,5,none⟩=some (.int .i64 a0_5):=(zab BK404.out 5).trans rfl;have hcz6_6:w5.cell? ⟨gb404,6,none⟩=some (.slice A0_6 l0_6.length c0_6):=(zab BK404.out 6).trans rfl;have hcz6_7:w5.cell? ⟨gb404,7,none⟩=some (.slice A0_7 l0_7.length c0_7):=(zab BK404.out 7).trans rfl;have hcz6_8:w5.cell? ⟨gb404,8,none⟩=some (.int .i64 a0_8):=(zab BK404.out 8).trans rfl;have hfz6_0:=zaa BK404.out 0;have hfz6_1:=zaa BK404.out 1;have hfz6_2:=zaa BK404.out 2;have hfz6_3:=zaa BK404.out 3;have hfz6_4:=zaa BK404.out 4;have hfz6_5:=zaa BK404.out 5;have hfz6_6:=zaa BK404.out 6;have hfz6_7:=zaa BK404.out 7;have hfz6_8:=zaa BK404.out 8) | ((with_reducible refine zah (f:=55) rfl ?_);refine goesZ (some 8) Tru.func55 #[.agg #[.int .i64 a0_0,.int .i64 a0_1,.slice A0_2 l0_2.length c0_2,.slice A0_3 l0_3.length c0_3],.int .i64 a1] ?_;(with_reducible refine (laws_szCol.calls a0_0 a0_1 _ _ l0_2 _ _ l0_3 a1 t405 _ ?side1 ?side2 ?side3 ?side4 A3.out).mono ?_);(case side1=>exact (Kd.C_below HR0_2.out HB.out));(case side2=>exact HC0_2.out);(case side3=>exact (Kd.C_below HR0_3.out HB.out));(case side4=>exact HC0_3.out);rintro e w7 ⟨rfl,hb⟩;refine ⟨_,rfl,?_⟩;replace BK404:=bkZ hb BK404.out;replace HB:=bnZ hb;clear hb))
  go_ret
  exact ⟨rfl,by repeat (with_reducible first | exact HB.out | apply zae | apply zac | apply zaf | refine zag ?_ GE404.out)⟩
 ·rw [if_neg c4] at H
  have c4b0:decide (t405<0)=false:=decide_eq_false c4
  clear c4
  replace H:=bnd H
  obtain ⟨t406,A8,H⟩:=H
  by_cases c9:t406<0
  ·rw [if_pos c9] at H
   have c9b0:decide (t406<0)=true:=decide_eq_true c9
   clear c9
   obtain rfl:=Option.some.inj H
   go_enter Tru.func22,Try.ntmps22
   go_wp2_with (first | ((with_reducible refine zam (N:=2) rfl ?_);refine boxZ (N:=2) (cs:=#[.int .i64 a0_0,.int .i64 a0_1,.slice A0_2 l0_2.length c0_2,.slice A0_3 l0_3.length c0_3,.int .i64 a0_4,.int .i64 a0_5,.slice A0_6 l0_6.length c0_6,.slice A0_7 l0_7.length c0_7,.int .i64 a0_8]) (t:=48) ?_;intro gb404 hg w10 hbox hb;replace BK404:=Aside0.mk (hbox);replace GW404:=gwZ hg;replace GE404:=gwZ hg;replace HB:=bnZ hb;clear hb hbox hg;have hcz11_0:w10.cell? ⟨gb404,0,none⟩=some (.int .i64 a0_0):=(zab BK404.out 0).trans rfl;have hcz11_1:w10.cell? ⟨gb404,1,none⟩=some (.int .i64 a0_1):=(zab BK404.out 1).trans rfl;have hcz11_2:w10.cell? ⟨gb404,2,none⟩=some (.slice A0_2 l0_2.length c0_2):=(zab BK404.out 2).trans rfl;have hcz11_3:w10.cell? ⟨gb404,3,none⟩=some (.slice A0_3 l0_3.length c0_3):=(zab BK404.out 3).trans rfl;have hcz11_4:w10.cell? ⟨gb404,4,none⟩=some (.int .i64 a0_4):=(zab BK404.out 4).trans rfl;have hcz11_5:w10.cell? ⟨gb404,5,none⟩=some (.int .i64 a0_5):=(zab BK404.out 5).trans rfl;have hcz11_6:w10.cell? ⟨gb404,6,none⟩=some (.slice A0_6 l0_6.length c0_6):=(zab BK404.out 6).trans rfl;have hcz11_7:w10.cell? ⟨gb404,7,none⟩=some (.slice A0_7 l0_7.length c0_7):=(zab BK404.out 7).trans rfl;have hcz11_8:w10.cell? ⟨gb404,8,none⟩=some (.int .i64 a0_8):=(zab BK404.out 8).trans rfl;have hfz11_0:=zaa BK404.out 0;have hfz11_1:=zaa BK404.out 1;have hfz11_2:=zaa BK404.out 2;have hfz11_3:=zaa BK404.out 3;have hfz11_4:=zaa BK404.out 4;have hfz11_5:=zaa BK404.out 5;have hfz11_6:=zaa BK404.out 6;have hfz11_7:=zaa BK404.out 7;have hfz11_8:=zaa BK404.out 8) | ((with_reducible refine zah (f:=55) rfl ?_);refine goesZ (some 8) Tru.func55 #[.agg #[.int .i64 a0_0,.int .i64 a0_1,.slice A0_2 l0_2.length c0_2,.slice A0_3 l0_3.length c0_3],.int .i64 a1] ?_;(with_reducible refine (laws_szCol.calls a0_0 a0_1 _ _ l0_2 _ _ l0_3 a1 t405 _ ?side1 ?side2 ?side3 ?side4 A3.out).mono ?_);(case side1=>exact (Kd.C_below HR0_2.out HB.out));(case side2=>exact HC0_2.out);(case side3=>exact (Kd.C_below HR0_3.out HB.out));(case side4=>exact HC0_3.out);rintro e w12 ⟨rfl,hb⟩;refine ⟨_,rfl,?_⟩;replace BK404:=bkZ hb BK404.out;replace HB:=bnZ hb;(try clear hb);(try clear hb2);(try clear hk);(try clear hi);have hcz13_0:w12.cell? ⟨gb404,0,none⟩=some (.int .i64 a0_0):=(zab BK404.out 0).trans rfl;have hcz13_1:w12.cell? ⟨gb404,1,none⟩=some (.int .i64 a0_1):=(zab BK404.out 1).trans rfl;have hcz13_2:w12.cell? ⟨gb404,2,none⟩=some (.slice A0_2 l0_2.length c0_2):=(zab BK404.out 2).trans rfl;have hcz13_3:w12.cell? ⟨gb404,3,none⟩=some (.slice A0_3 l0_3.length c0_3):=(zab BK404.out 3).trans rfl;have hcz13_4:w12.cell? ⟨gb404,4,none⟩=some (.int .i64 a0_4):=(zab BK404.out 4).trans rfl;have hcz13_5:w12.cell? ⟨gb404,5,none⟩=some (.int .i64 a0_5):=(zab BK404.out 5).trans rfl;have hcz13_6:w12.cell? ⟨gb404,6,none⟩=some (.slice A0_6 l0_6.length c0_6):=(zab BK404.out 6).trans rfl;have hcz13_7:w12.cell? ⟨gb404,7,none⟩=some (.slice A0_7 l0_7.length c0_7):=(zab BK404.out 7).trans rfl;have hcz13_8:w12.cell? ⟨gb404,8,none⟩=some (.int .i64 a0_8):=(zab BK404.out 8).trans rfl;have hfz13_0:=zaa BK404.out 0;have hfz13_1:=zaa BK404.out 1;have hfz13_2:=zaa BK404.out 2;have hfz13_3:=zaa BK404.out 3;have hfz13_4:=zaa BK404.out 4;have hfz13_5:=zaa BK404.out 5;have hfz13_6:=zaa BK404.out 6;have hfz13_7:=zaa BK404.out 7;have hfz13_8:=zaa BK404.out 8) | ((with_reducible refine zah (f:=55) rfl ?_);refine goesZ (some 14) Tru.func55 #[.agg #[.int .i64 a0_4,.int .i64 a0_5,.slice A0_6 l0_6.length c0_6,.slice A0_7 l0_7.length c0_7],.int .i64 t405] ?_;(with_reducible refine (laws_szCol.calls a0_4 a0_5 _ _ l0_6 _ _ l0_7 t405 t406 _ ?side1 ?side2 ?side3 ?side4 A8.out).mono ?_);(case side1=>exact (Kd.C_below HR0_6.out HB.out));(case side2=>exact HC0_6.out);(case side3=>exact (Kd.C_below HR0_7.out HB.out));(case side4=>exact HC0_7.out);rintro e w14 ⟨rfl,hb⟩;refine ⟨_,rfl,?_⟩;replace BK404:=bkZ hb BK404.out;replace HB:=bnZ hb;clear hb))
   go_ret
   exact ⟨rfl,by repeat (with_reducible first | exact HB.out | apply zae | apply zac | apply zaf | refine zag ?_ GE404.out)⟩
  ·rw [if_neg c9] at H
   have c9b0:decide (t406<0)=false:=decide_eq_false c9
   clear c9
   obtain rfl:=Option.some.inj H
   go_enter Tru.func22,Try.ntmps22
   go_wp2_with (first | ((with_reducible refine zam (N:=2) rfl ?_);refine boxZ (N:=2) (cs:=#[.int .i64 a0_0,.int .i64 a0_1,.slice A0_2 l0_2.length c0_2,.slice A0_3 l0_3.length c0_3,.int .i64 a0_4,.int .i64 a0_5,.slice A0_6 l0_6.length c0_6,.slice A0_7 l0_7.length c0_7,.int .i64 a0_8]) (t:=48) ?_;intro gb404 hg w15 hbox hb;replace BK404:=Aside0.mk (hbox);replace GW404:=gwZ hg;replace GE404:=gwZ hg;replace HB:=bnZ hb;clear hb hbox hg;have hcz16_0:w15.cell? ⟨gb404,0,none⟩=some (.int .i64 a0_0):=(zab BK404.out 0).trans rfl;have hcz16_1:w15.cell? ⟨gb404,1,none⟩=some (.int .i64 a0_1):=(zab BK404.out 1).trans rfl;have hcz16_2:w15.cell? ⟨gb404,2,none⟩=some (.slice A0_2 l0_2.length c0_2):=(zab BK404.out 2).trans rfl;have hcz16_3:w15.cell? ⟨gb404,3,none⟩=some (.slice A0_3 l0_3.length c0_3):=(zab BK404.out 3).trans rfl;have hcz16_4:w15.cell? ⟨gb404,4,none⟩=some (.int .i64 a0_4):=(zab BK404.out 4).trans rfl;have hcz16_5:w15.cell? ⟨gb404,5,none⟩=some (.int .i64 a0_5):=(zab BK404.out 5).trans rfl;have hcz16_6:w15.cell? ⟨gb404,6,none⟩=some (.slice A0_6 l0_6.length c0_6):=(zab BK404.out 6).trans rfl;have hcz16_7:w15.cell? ⟨gb404,7,none⟩=some (.slice A0_7 l0_7.length c0_7):=(zab BK404.out 7).trans rfl;have hcz16_8:w15.cell? ⟨gb404,8,none⟩=some (.int .i64 a0_8):=(zab BK404.out 8).trans rfl;have hfz16_0:=zaa BK404.out 0;have hfz16_1:=zaa BK404.out 1;have hfz16_2:=zaa BK404.out 2;have hfz16_3:=zaa BK404.out 3;have hfz16_4:=zaa BK404.out 4;have hfz16_5:=zaa BK404.out 5;have hfz16_6:=zaa BK404.out 6;have hfz16_7:=zaa BK404.out 7;have hfz16_8:=zaa BK404.out 8) | ((with_reducible refine zah (f:=55) rfl ?_);refine goesZ (some 8) Tru.func55 #[.agg #[.int .i64 a0_0,.int .i64 a0_1,.slice A0_2 l0_2.length c0_2,.slice A0_3 l0_3.length c0_3],.int .i64 a1] ?_;(with_reducible refine (laws_szCol.calls a0_0 a0_1 _ _ l0_2 _ _ l0_3 a1 t405 _ ?side1 ?side2 ?side3 ?side4 A3.out).mono ?_);(case side1=>exact (Kd.C_below HR0_2.out HB.out));(case side2=>exact HC0_2.out);(case side3=>exact (Kd.C_below HR0_3.out HB.out));(case side4=>exact HC0_3.out);rintro e w17 ⟨rfl,hb⟩;refine ⟨_,rfl,?_⟩;replace BK404:=bkZ hb BK404.out;replace HB:=bnZ hb;(try clear hb);(try clear hb2);(try clear hk);(try clear hi);have hcz18_0:w17.cell? ⟨gb404,0,none⟩=some (.int .i64 a0_0):=(zab BK404.out 0).trans rfl;have hcz18_1:w17.cell? ⟨gb404,1,none⟩=some (.int .i64 a0_1):=(zab BK404.out 1).trans rfl;have hcz18_2:w17.cell? ⟨gb404,2,none⟩=some (.slice A0_2 l0_2.length c0_2):=(zab BK404.out 2).trans rfl;have hcz18_3:w17.cell? ⟨gb404,3,none⟩=some (.slice A0_3 l0_3.length c0_3):=(zab BK404.out 3).trans rfl;have hcz18_4:w17.cell? ⟨gb404,4,none⟩=some (.int .i64 a0_4):=(zab BK404.out 4).trans rfl;have hcz18_5:w17.cell? ⟨gb404,5,none⟩=some (.int .i64 a0_5):=(zab BK404.out 5).trans rfl;have hcz18_6:w17.cell? ⟨gb404,6,none⟩=some (.slice A0_6 l0_6.length c0_6):=(zab BK404.out 6).trans rfl;have hcz18_7:w17.cell? ⟨gb404,7,none⟩=some (.slice A0_7 l0_7.length c0_7):=(zab BK404.out 7).trans rfl;have hcz18_8:w17.cell? ⟨gb404,8,none⟩=some (.int .i64 a0_8):=(zab BK404.out 8).trans rfl;have hfz18_0:=zaa BK404.out 0;have hfz18_1:=zaa BK404.out 1;have hfz18_2:=zaa BK404.out 2;have hfz18_3:=zaa BK404.out 3;have hfz18_4:=zaa BK404.out 4;have hfz18_5:=zaa BK404.out 5;have hfz18_6:=zaa BK404.out 6;have hfz18_7:=zaa BK404.out 7;have hfz18_8:=zaa BK404.out 8) | ((with_reducible refine zah (f:=55) rfl ?_);refine goesZ (some 14) Tru.func55 #[.agg #[.int .i64 a0_4,.int .i64 a0_5,.slice A0_6 l0_6.length c0_6,.slice A0_7 l0_7.length c0_7],.int .i64 t405] ?_;(with_reducible refine (laws_szCol.calls a0_4 a0_5 _ _ l0_6 _ _ l0_7 t405 t406 _ ?side1 ?side2 ?side3 ?side4 A8.out).mono ?_);(case side1=>exact (Kd.C_below HR0_6.out HB.out));(case side2=>exact HC0_6.out);(case side3=>exact (Kd.C_below HR0_7.out HB.out));(case side4=>exact HC0_7.out);rintro e w19 ⟨rfl,hb⟩;refine ⟨_,rfl,?_⟩;replace BK404:=bkZ hb BK404.out;replace HB:=bnZ hb;clear hb))
   go_ret
   exact ⟨rfl,by repeat (with_reducible first | exact HB.out | apply zae | apply zac | apply zaf | refine zag ?_ GE404.out)⟩
def spec_l22Has.l0:Nat→List Int→Int→Int→Option (Bool)
 | 0,_,_,_=>none
 | k+1,x0,x1,x5=>if x5<(x0.length:Int) then (if 0≤x5 then (if (rd x0 x5)=x1 then (some true) else (spec_l22Has.l0 k x0 x1 (wrap64 (x5+1)))) else (none)) else (some false)
def spec_l22Has.f (k:Nat) (l0:List Int) (a1:Int):Option (Bool):=spec_l22Has.l0 k l0 a1 0
set_option maxHeartbeats 8000000 in
set_option maxRecDepth 100000 in
theorem spec_l22Has.calls (k:Nat) (A0:Option Addr) (c0:Nat) (l0:List Int) (a1:Int) (r:Bool) (w:World) (hr0:Kd.C (Kd.int .i64) w A0 l0.length l0) (hc0:l0.length≤c0) (h:spec_l22Has.f k l0 a1=some r) :
  Calls Tru.prog 107 #[.slice A0 l0.length c0,.int .i64 a1] w fun e w'=>e = .returned (.bool r)∧Drawn0 w w':=by
 have HR0:=Aside0.mk hr0
 have HC0:=Aside0.mk hc0
 clear hr0 hc0
 have H:(spec_l22Has.l0 k l0 a1 0)=some r:=h
 clear h
 have H':=Aside0.mk H
 clear H
 go_enter Tru.func107,Try.ntmps107
 go_wp2
 go_loopg [5] k (fun kq v5 w'=>∃ (x5_1:Int),v5 = .int .i64 x5_1∧Aside0 (spec_l22Has.l0 kq l0 a1 x5_1=some r)∧Aside0 (kq≤k)∧Drawn0 w w')
 case atStart=>exact ⟨(0),rfl,H',⟨Nat.le_refl _⟩,by repeat (first | exact Drawn0.refl _ | apply Drawn0.step)⟩
 case round=>
  clear H'
  try clear c1
  try clear p2
  obtain ⟨x5_1,rfl,HA,HK1,⟨m1,rfl⟩⟩:=hrel
  cases gk with
  | zero=>exact absurd HA.out (by simp [spec_l22Has.l0])
  | succ k1=>
   have H:=HA.out
   clear HA
   simp only [spec_l22Has.l0] at H
   by_cases c3:x5_1<(l0.length:Int)
   ·rw [if_pos c3] at H
    have c3b0:decide (x5_1<(l0.length:Int))=true:=decide_eq_true c3
    clear c3
    by_cases c4:0≤x5_1
    ·rw [if_pos c4] at H
     have c4b0:decide (0≤x5_1)=true:=decide_eq_true c4
     clear c4
     by_cases c5:(rd l0 x5_1)=a1
     ·rw [if_pos c5] at H
      have c5b0:((rd l0 x5_1) == a1)=true:=beq_iff_eq.mpr c5
      have c5b1:((rd l0 x5_1) != a1)=false:=bne_eq_false_iff_eq.mpr c5
      clear c5
      obtain rfl:=Option.some.inj H
      have p407:0≤(x5_1:Int):=of_decide_eq_true ‹_›
      have q407:x5_1<(l0.length:Int):=of_decide_eq_true ‹_›
      obtain ⟨ad407,e407,hx407_0⟩:=Kd.at_int HR0.out x5_1 p407 q407
      cases e407
      replace p407:=eq_true p407
      replace q407:=eq_true q407
      go_wp2
      go_ret
      exact ⟨rfl,⟨_,rfl⟩⟩
     ·rw [if_neg c5] at H
      have c5b0:((rd l0 x5_1) == a1)=false:=beq_eq_false_iff_ne.mpr c5
      have c5b1:((rd l0 x5_1) != a1)=true:=bne_iff_ne.mpr c5
      have H':=Aside0.mk H
      clear H
      have p407:0≤(x5_1:Int):=of_decide_eq_true ‹_›
      have q407:x5_1<(l0.length:Int):=of_decide_eq_true ‹_›
      obtain ⟨ad407,e407,hx407_0⟩:=Kd.at_int HR0.out x5_1 p407 q407
      cases e407
      replace p407:=eq_true p407
      replace q407:=eq_true q407
      go_wp2
      go_roundg k1
      case measure=>have:=HK1.out;omega
      case rel=>exact ⟨(wrap64 (x5_1+1)),rfl,H',⟨by have:=HK1.out;omega⟩,⟨_,rfl⟩⟩
    ·rw [if_neg c4] at H
     exact absurd H (by simp)
   ·rw [if_neg c3] at H
    have c3b0:decide (x5_1<(l0.length:Int))=false:=decide_eq_false c3
    clear c3
    obtain rfl:=Option.some.inj H
    go_wp2
    go_ret
    exact ⟨rfl,⟨_,rfl⟩⟩
def spec_l11Vec.f (k:Nat) (a0:Int) (l1:List Int):Option (Bool):=(spec_l11Kind.f a0).bind fun t408=>(if t408=true then ((spec_ShareOk.f k l1).bind fun t409=>(if t409=true then ((spec_TypeLen.f a0).bind fun t410=>(some ((l1.length:Int) == t410))) else (some false))) else (some false))
set_option maxHeartbeats 8000000 in
set_option maxRecDepth 100000 in
theorem spec_l11Vec.calls (k:Nat) (a0:Int) (A1:Option Addr) (c1:Nat) (l1:List Int) (r:Bool) (w:World) (hr1:Kd.C (Kd.int .i64) w A1 l1.length l1) (hc1:l1.length≤c1) (h:spec_l11Vec.f k a0 l1=some r) :
  Calls Tru.prog 108 #[.int .i64 a0,.slice A1 l1.length c1] w fun e w'=>e = .returned (.bool r)∧Drawn0 w w':=by
 have HR1:=Aside0.mk hr1
 have HC1:=Aside0.mk hc1
 clear hr1 hc1
 have H:=h
 unfold spec_l11Vec.f at H
 clear h
 replace H:=bnd H
 obtain ⟨t408,A3,H⟩:=H
 by_cases c4:t408=true
 ·subst c4
  rw [if_pos rfl] at H
  replace H:=bnd H
  obtain ⟨t409,A5,H⟩:=H
  by_cases c6:t409=true
  ·subst c6
   rw [if_pos rfl] at H
   replace H:=bnd H
   obtain ⟨t410,A7,H⟩:=H
   obtain rfl:=Option.some.inj H
   go_enter Tru.func108,Try.ntmps108
   go_wp2_with (first | (refine gsD c74x20 (spec_l11Kind.calls a0 true _ A3.out) ?_;intro nd) | (go_at_call 39;(with_reducible refine (spec_ShareOk.calls k _ _ l1 true _ ?side1 ?side2 A5.out).mono ?_);(case side1=>exact HR1.out);(case side2=>exact HC1.out);rintro e w' ⟨rfl,⟨nd,rfl⟩⟩) | (go_at_call 75;(with_reducible refine (spec_TypeLen.calls a0 t410 _ A7.out).mono ?_);rintro e w' ⟨rfl,⟨nd,rfl⟩⟩))
   go_ret
   exact ⟨rfl,⟨_,rfl⟩⟩
  ·replace c6:=Bool.eq_false_iff.mpr c6
   subst c6
   rw [if_neg (show ¬ (false=true) by decide)] at H
   obtain rfl:=Option.some.inj H
   go_enter Tru.func108,Try.ntmps108
   go_wp2_with (first | (refine gsD c74x20 (spec_l11Kind.calls a0 true _ A3.out) ?_;intro nd) | (go_at_call 39;(with_reducible refine (spec_ShareOk.calls k _ _ l1 false _ ?side1 ?side2 A5.out).mono ?_);(case side1=>exact HR1.out);(case side2=>exact HC1.out);rintro e w' ⟨rfl,⟨nd,rfl⟩⟩))
   go_ret
   exact ⟨rfl,⟨_,rfl⟩⟩
 ·replace c4:=Bool.eq_false_iff.mpr c4
  subst c4
  rw [if_neg (show ¬ (false=true) by decide)] at H
  obtain rfl:=Option.some.inj H
  go_enter Tru.func108,Try.ntmps108
  go_wp2_with (first | (refine gsD c74x20 (spec_l11Kind.calls a0 false _ A3.out) ?_;intro nd))
  go_ret
  exact ⟨rfl,⟨_,rfl⟩⟩
set_option maxRecDepth 100000 in
theorem spec_l22Has.calls_take (k:Nat) (A0:Option Addr) (c0:Nat) (l0:List Int) (n:Nat) (hn:n≤l0.length) (a1:Int) (r:Bool) (w:World) (hr0:Kd.C (Kd.int .i64) w A0 (l0.take n).length (l0.take n)) (hc0:(l0.take n).length≤c0) (h:spec_l22Has.f k (l0.take n) a1=some r) :
  Calls Tru.prog 107 #[.slice A0 n c0,.int .i64 a1] w fun e w'=>e = .returned (.bool r)∧Drawn0 w w':=by
 have h0:=spec_l22Has.calls k A0 c0 (l0.take n) a1 r w hr0 hc0 h
 rwa [show (l0.take n).length=n by rw [List.length_take];omega] at h0
def spec_ColOk.l0:Nat→Int→Int→Int→List Int→List Int→Option (Bool)
 | 0,_,_,_,_,_=>none
 | k+1,x3,x412000,x412001,x412002,x412003=>if x3<(x412003.length:Int) then (if 0≤x3 then ((spec_l6In.f (rd x412003 x3) 1 99).bind fun t415=>(if t415=true then (if x3≤(x412003.length:Int) then ((spec_l22Has.f k (x412003.take (x3:Int).toNat) (rd x412003 x3)).bind fun t418=>(if t418=true then (some false) else (spec_ColOk.l0 k (wrap64 (x3+1)) x412000 x412001 x412002 x412003))) else (none)) else (some false))) else (none)) else ((spec_l6In.f x412000 1 2).bind fun t412=>(if t412=true then ((spec_l11Vec.f k x412001 x412002).bind fun t413=>(if t413=true then (some (decide ((x412003.length:Int)≤9))) else (some false))) else (some false)))
def spec_ColOk.f (k:Nat) (a0_0:Int) (a0_1:Int) (l0_2:List Int) (l0_3:List Int):Option (Bool):=spec_ColOk.l0 k 0 a0_0 a0_1 l0_2 l0_3
set_option maxHeartbeats 8000000 in
set_option maxRecDepth 100000 in
theorem spec_ColOk.calls (k:Nat) (a0_0:Int) (a0_1:Int) (A0_2:Option Addr) (c0_2:Nat) (l0_2:List Int) (A0_3:Option Addr) (c0_3:Nat) (l0_3:List Int) (r:Bool) (w:World) (hr0_2:Kd.C (Kd.int .i64) w A0_2 l0_2.length l0_2) (hc0_2:l0_2.length≤c0_2) (hr0_3:Kd.C (Kd.int .i64) w A0_3 l0_3.length l0_3) (hc0_3:l0_3.length≤c0_3) (h:spec_ColOk.f k a0_0 a0_1 l0_2 l0_3=some r) :
  Calls Tru.prog 81 #[.agg #[.int .i64 a0_0,.int .i64 a0_1,.slice A0_2 l0_2.length c0_2,.slice A0_3 l0_3.length c0_3]] w fun e w'=>e = .returned (.bool r)∧Below w.heap.size w w':=by
 have hu36:=((Tru.und _).trans ((Tru.und _).trans Try.underlying36))
 have HR0_2:=Aside0.mk hr0_2
 have HC0_2:=Aside0.mk hc0_2
 clear hr0_2 hc0_2
 have HR0_3:=Aside0.mk hr0_3
 have HC0_3:=Aside0.mk hc0_3
 clear hr0_3 hc0_3
 have HB:=Aside0.mk (Below.refl w.heap.size w)
 have H:(spec_ColOk.l0 k 0 a0_0 a0_1 l0_2 l0_3)=some r:=h
 clear h
 have H':=Aside0.mk H
 clear H
 go_enter Tru.func81,Try.ntmps81
 go_wp2_with (first | ((with_reducible refine zam (N:=1) rfl ?_);(try (refine gate_guard (by rfl) ?_;dsimp only));refine boxZ (N:=1) (cs:=#[.int .i64 a0_0,.int .i64 a0_1,.slice A0_2 l0_2.length c0_2,.slice A0_3 l0_3.length c0_3]) (t:=36) ?_;intro gb411 hg w2 hbox hb;replace BK411:=Aside0.mk (hbox);replace GW411:=gwZ hg;replace GE411:=gwZ hg;replace HB:=bnZ hb;clear hb hbox hg))
 repeat (go_quiet (first | ((with_reducible refine zam (N:=1) rfl ?_);(try (refine gate_guard (by rfl) ?_;dsimp only));refine boxZ (N:=1) (cs:=#[.int .i64 a0_0,.int .i64 a0_1,.slice A0_2 l0_2.length c0_2,.slice A0_3 l0_3.length c0_3]) (t:=36) ?_;intro gb411 hg w2 hbox hb;have n0_:=bnZ hb;have n1_:=Aside0.mk (hbox);have n2_:=Aside0.mk ((by rw [hg];exact bsZ:w.heap.size≤gb411));have n3_:=Aside0.mk ((by rw [hg];exact bsZ:w.heap.size≤gb411));clear HB;have HB:=n0_;have BK411:=n1_;have GW411:=n2_;have GE411:=n3_;clear n0_ n1_ n2_ n3_;clear hb hbox hg));try go_wp2_with (first | ((with_reducible refine zam (N:=1) rfl ?_);(try (refine gate_guard (by rfl) ?_;dsimp only));refine boxZ (N:=1) (cs:=#[.int .i64 a0_0,.int .i64 a0_1,.slice A0_2 l0_2.length c0_2,.slice A0_3 l0_3.length c0_3]) (t:=36) ?_;intro gb411 hg w2 hbox hb;replace BK411:=Aside0.mk (hbox);replace GW411:=gwZ hg;replace GE411:=gwZ hg;replace HB:=bnZ hb;clear hb hbox hg)))
 go_loopg [3] k (fun kq v3 w'=>∃ (x3_1:Int),v3 = .int .i64 x3_1∧Aside0 (spec_ColOk.l0 kq x3_1 a0_0 a0_1 l0_2 l0_3=some r)∧Aside0 (kq≤k)∧Aside0 (w'.heap[gb411]? = some (.cells #[.int .i64 a0_0,.int .i64 a0_1,(.slice A0_2 l0_2.length c0_2),(.slice A0_3 l0_3.length c0_3)] 36 (0,0)))∧Aside0 (Below w.heap.size w w'))
 case atStart=>exact ⟨(0),rfl,H',⟨Nat.le_refl _⟩,⟨by exact BK411.out⟩,⟨by repeat (with_reducible first | exact HB.out | apply zae | apply zac | apply zaf | refine zag ?_ GE411.out)⟩⟩
 case round=>
  clear H'
  try clear p2
  obtain ⟨x3_1,rfl,HA,HK1,BK411,HB⟩:=hrel
  cases gk with
  | zero=>exact absurd HA.out (by simp [spec_ColOk.l0])
  | succ k1=>
   have H:=HA.out
   clear HA
   simp only [spec_ColOk.l0] at H
   by_cases c3:x3_1<(l0_3.length:Int)
   ·rw [if_pos c3] at H
    have c3b0:decide (x3_1<(l0_3.length:Int))=true:=decide_eq_true c3
    clear c3
    by_cases c4:0≤x3_1
    ·rw [if_pos c4] at H
     have c4b0:decide (0≤x3_1)=true:=decide_eq_true c4
     clear c4
     replace H:=bnd H
     obtain ⟨t415,A5,H⟩:=H
     by_cases c6:t415=true
     ·subst c6
      rw [if_pos rfl] at H
      have c7b0:=eq_true (of_decide_eq_true ‹_› : 0≤x3_1)
      by_cases c8:x3_1≤(l0_3.length:Int)
      ·rw [if_pos c8] at H
       have c8b0:=eq_true c8
       have c8b1:decide (x3_1≤(l0_3.length:Int))=true:=decide_eq_true c8
       clear c8
       replace H:=bnd H
       obtain ⟨t418,A9,H⟩:=H
       by_cases c10:t418=true
       ·subst c10
        rw [if_pos rfl] at H
        obtain rfl:=Option.some.inj H
        have hcz11_0:wr.cell? ⟨gb411,0,none⟩=some (.int .i64 a0_0):=(zab BK411.out 0).trans rfl
        have hcz11_1:wr.cell? ⟨gb411,1,none⟩=some (.int .i64 a0_1):=(zab BK411.out 1).trans rfl
        have hcz11_2:wr.cell? ⟨gb411,2,none⟩=some (.slice A0_2 l0_2.length c0_2):=(zab BK411.out 2).trans rfl
        have hcz11_3:wr.cell? ⟨gb411,3,none⟩=some (.slice A0_3 l0_3.length c0_3):=(zab BK411.out 3).trans rfl
        have hfz11_0:=zaa BK411.out 0
        have hfz11_1:=zaa BK411.out 1
        have hfz11_2:=zaa BK411.out 2
        have hfz11_3:=zaa BK411.out 3
        have p414:0≤(x3_1:Int):=of_decide_eq_true ‹_›
        have q414:x3_1<(l0_3.length:Int):=of_decide_eq_true ‹_›
        obtain ⟨ad414,e414,hx414_0⟩:=Kd.at_int HR0_3.out x3_1 p414 q414
        cases e414
        replace hx414_0:=(HB.out.cell (World.block_lt_of_cell? w _ hx414_0)).trans hx414_0
        replace p414:=eq_true p414
        replace q414:=eq_true q414
        obtain ⟨i012,hi012,_,hsz12,_⟩:=info_parts info3;obtain ⟨hcut12,hA12,hC12⟩:=print_take_of (P:=Tru.prog) (Value.int .i64) 0 23 3 .i64 ((Tru.und _).trans ((Tru.und _).trans Try.underlying23)) hi012 hsz12 (some ad414) c0_3 l0_3 x3_1 (of_decide_eq_true ‹_›) (of_decide_eq_true ‹_›) HC0_3.out;have HR416:=Aside0.mk (Kd.C_of_reads (h1:=fun _=>rfl) (hA12 _ (Kd.reads_of_C HR0_3.out)));have HC416:=Aside0.mk hC12;clear hA12 hC12 hi012 hsz12;have p417:0≤(x3_1:Int):=of_decide_eq_true ‹_›;have q417:x3_1<(l0_3.length:Int):=of_decide_eq_true ‹_›;obtain ⟨ad417,e417,hx417_0⟩:=Kd.at_int HR0_3.out x3_1 p417 q417;obtain rfl:ad414=ad417:=(by injection e417);replace hx417_0:=(HB.out.cell (World.block_lt_of_cell? w _ hx417_0)).trans hx417_0;have HN:=Aside0.mk (show (x3_1:Int).toNat≤l0_3.length by omega);replace p417:=eq_true p417;replace q417:=eq_true q417
        go_wp2_with (first | (go_at_call 47;(with_reducible refine (spec_l6In.calls (rd l0_3 x3_1) 1 99 true _ A5.out).mono ?_);rintro e w' ⟨rfl,⟨nd,rfl⟩⟩;(try first | exact ⟨rfl,_,World.drewN_drewN _ _ _⟩ | exact ⟨rfl,_,Eq.trans (World.drewN_drewN _ _ _) (congrArg (World.drewN _) (Nat.add_assoc _ _ _))⟩)) | (go_at_call 107;(with_reducible refine (spec_l22Has.calls_take k1 _ _ l0_3 (x3_1:Int).toNat HN.out (rd l0_3 x3_1) true _ ?side1 ?side2 A9.out).mono ?_);(case side1=>repeat (first | exact (Kd.C_below HR416.out bZ) | (with_reducible refine Kd.C_alloc ?_ _) | (with_reducible refine Kd.C_drewN ?_ _) | (with_reducible refine Kd.C_drew ?_)));(case side2=>exact HC416.out);rintro e w' ⟨rfl,⟨nd,rfl⟩⟩;(try first | exact ⟨rfl,_,World.drewN_drewN _ _ _⟩ | exact ⟨rfl,_,Eq.trans (World.drewN_drewN _ _ _) (congrArg (World.drewN _) (Nat.add_assoc _ _ _))⟩)))
        repeat (go_quiet (first | (go_at_call 47;(with_reducible refine (spec_l6In.calls (rd l0_3 x3_1) 1 99 true _ A5.out).mono ?_);rintro e w' ⟨rfl,⟨nd,rfl⟩⟩;(try first | exact ⟨rfl,_,World.drewN_drewN _ _ _⟩ | exact ⟨rfl,_,Eq.trans (World.drewN_drewN _ _ _) (congrArg (World.drewN _) (Nat.add_assoc _ _ _))⟩)) | (go_at_call 107;(with_reducible refine (spec_l22Has.calls_take k1 _ _ l0_3 (x3_1:Int).toNat HN.out (rd l0_3 x3_1) true _ ?side1 ?side2 A9.out).mono ?_);(case side1=>repeat (first | exact (Kd.C_below HR416.out bZ) | (with_reducible refine Kd.C_alloc ?_ _) | (with_reducible refine Kd.C_drewN ?_ _) | (with_reducible refine Kd.C_drew ?_)));(case side2=>exact HC416.out);rintro e w' ⟨rfl,⟨nd,rfl⟩⟩;(try first | exact ⟨rfl,_,World.drewN_drewN _ _ _⟩ | exact ⟨rfl,_,Eq.trans (World.drewN_drewN _ _ _) (congrArg (World.drewN _) (Nat.add_assoc _ _ _))⟩)));try go_wp2_with (first | (go_at_call 47;(with_reducible refine (spec_l6In.calls (rd l0_3 x3_1) 1 99 true _ A5.out).mono ?_);rintro e w' ⟨rfl,⟨nd,rfl⟩⟩;(try first | exact ⟨rfl,_,World.drewN_drewN _ _ _⟩ | exact ⟨rfl,_,Eq.trans (World.drewN_drewN _ _ _) (congrArg (World.drewN _) (Nat.add_assoc _ _ _))⟩)) | (go_at_call 107;(with_reducible refine (spec_l22Has.calls_take k1 _ _ l0_3 (x3_1:Int).toNat HN.out (rd l0_3 x3_1) true _ ?side1 ?side2 A9.out).mono ?_);(case side1=>repeat (first | exact (Kd.C_below HR416.out bZ) | (with_reducible refine Kd.C_alloc ?_ _) | (with_reducible refine Kd.C_drewN ?_ _) | (with_reducible refine Kd.C_drew ?_)));(case side2=>exact HC416.out);rintro e w' ⟨rfl,⟨nd,rfl⟩⟩;(try first | exact ⟨rfl,_,World.drewN_drewN _ _ _⟩ | exact ⟨rfl,_,Eq.trans (World.drewN_drewN _ _ _) (congrArg (World.drewN _) (Nat.add_assoc _ _ _))⟩))))
        go_ret
        exact ⟨rfl,by repeat (with_reducible first | exact HB.out | apply zae | apply zac | apply zaf | refine zag ?_ GE411.out)⟩
       ·replace c10:=Bool.eq_false_iff.mpr c10
        subst c10
        rw [if_neg (show ¬ (false=true) by decide)] at H
        have H':=Aside0.mk H
        clear H
        have hcz13_0:wr.cell? ⟨gb411,0,none⟩=some (.int .i64 a0_0):=(zab BK411.out 0).trans rfl
        have hcz13_1:wr.cell? ⟨gb411,1,none⟩=some (.int .i64 a0_1):=(zab BK411.out 1).trans rfl
        have hcz13_2:wr.cell? ⟨gb411,2,none⟩=some (.slice A0_2 l0_2.length c0_2):=(zab BK411.out 2).trans rfl
        have hcz13_3:wr.cell? ⟨gb411,3,none⟩=some (.slice A0_3 l0_3.length c0_3):=(zab BK411.out 3).trans rfl
        have hfz13_0:=zaa BK411.out 0
        have hfz13_1:=zaa BK411.out 1
        have hfz13_2:=zaa BK411.out 2
        have hfz13_3:=zaa BK411.out 3
        have p414:0≤(x3_1:Int):=of_decide_eq_true ‹_›
        have q414:x3_1<(l0_3.length:Int):=of_decide_eq_true ‹_›
        obtain ⟨ad414,e414,hx414_0⟩:=Kd.at_int HR0_3.out x3_1 p414 q414
        cases e414
        replace hx414_0:=(HB.out.cell (World.block_lt_of_cell? w _ hx414_0)).trans hx414_0
        replace p414:=eq_true p414
        replace q414:=eq_true q414
        obtain ⟨i014,hi014,_,hsz14,_⟩:=info_parts info3;obtain ⟨hcut14,hA14,hC14⟩:=print_take_of (P:=Tru.prog) (Value.int .i64) 0 23 3 .i64 ((Tru.und _).trans ((Tru.und _).trans Try.underlying23)) hi014 hsz14 (some ad414) c0_3 l0_3 x3_1 (of_decide_eq_true ‹_›) (of_decide_eq_true ‹_›) HC0_3.out;have HR416:=Aside0.mk (Kd.C_of_reads (h1:=fun _=>rfl) (hA14 _ (Kd.reads_of_C HR0_3.out)));have HC416:=Aside0.mk hC14;clear hA14 hC14 hi014 hsz14;have p417:0≤(x3_1:Int):=of_decide_eq_true ‹_›;have q417:x3_1<(l0_3.length:Int):=of_decide_eq_true ‹_›;obtain ⟨ad417,e417,hx417_0⟩:=Kd.at_int HR0_3.out x3_1 p417 q417;obtain rfl:ad414=ad417:=(by injection e417);replace hx417_0:=(HB.out.cell (World.block_lt_of_cell? w _ hx417_0)).trans hx417_0;have HN:=Aside0.mk (show (x3_1:Int).toNat≤l0_3.length by omega);replace p417:=eq_true p417;replace q417:=eq_true q417
        go_wp2_with (first | (go_at_call 47;(with_reducible refine (spec_l6In.calls (rd l0_3 x3_1) 1 99 true _ A5.out).mono ?_);rintro e w' ⟨rfl,⟨nd,rfl⟩⟩;(try first | exact ⟨rfl,_,World.drewN_drewN _ _ _⟩ | exact ⟨rfl,_,Eq.trans (World.drewN_drewN _ _ _) (congrArg (World.drewN _) (Nat.add_assoc _ _ _))⟩)) | (go_at_call 107;(with_reducible refine (spec_l22Has.calls_take k1 _ _ l0_3 (x3_1:Int).toNat HN.out (rd l0_3 x3_1) false _ ?side1 ?side2 A9.out).mono ?_);(case side1=>repeat (first | exact (Kd.C_below HR416.out bZ) | (with_reducible refine Kd.C_alloc ?_ _) | (with_reducible refine Kd.C_drewN ?_ _) | (with_reducible refine Kd.C_drew ?_)));(case side2=>exact HC416.out);rintro e w' ⟨rfl,⟨nd,rfl⟩⟩;(try first | exact ⟨rfl,_,World.drewN_drewN _ _ _⟩ | exact ⟨rfl,_,Eq.trans (World.drewN_drewN _ _ _) (congrArg (World.drewN _) (Nat.add_assoc _ _ _))⟩)))
        repeat (go_quiet (first | (go_at_call 47;(with_reducible refine (spec_l6In.calls (rd l0_3 x3_1) 1 99 true _ A5.out).mono ?_);rintro e w' ⟨rfl,⟨nd,rfl⟩⟩;(try first | exact ⟨rfl,_,World.drewN_drewN _ _ _⟩ | exact ⟨rfl,_,Eq.trans (World.drewN_drewN _ _ _) (congrArg (World.drewN _) (Nat.add_assoc _ _ _))⟩)) | (go_at_call 107;(with_reducible refine (spec_l22Has.calls_take k1 _ _ l0_3 (x3_1:Int).toNat HN.out (rd l0_3 x3_1) false _ ?side1 ?side2 A9.out).mono ?_);(case side1=>repeat (first | exact (Kd.C_below HR416.out bZ) | (with_reducible refine Kd.C_alloc ?_ _) | (with_reducible refine Kd.C_drewN ?_ _) | (with_reducible refine Kd.C_drew ?_)));(case side2=>exact HC416.out);rintro e w' ⟨rfl,⟨nd,rfl⟩⟩;(try first | exact ⟨rfl,_,World.drewN_drewN _ _ _⟩ | exact ⟨rfl,_,Eq.trans (World.drewN_drewN _ _ _) (congrArg (World.drewN _) (Nat.add_assoc _ _ _))⟩)));try go_wp2_with (first | (go_at_call 47;(with_reducible refine (spec_l6In.calls (rd l0_3 x3_1) 1 99 true _ A5.out).mono ?_);rintro e w' ⟨rfl,⟨nd,rfl⟩⟩;(try first | exact ⟨rfl,_,World.drewN_drewN _ _ _⟩ | exact ⟨rfl,_,Eq.trans (World.drewN_drewN _ _ _) (congrArg (World.drewN _) (Nat.add_assoc _ _ _))⟩)) | (go_at_call 107;(with_reducible refine (spec_l22Has.calls_take k1 _ _ l0_3 (x3_1:Int).toNat HN.out (rd l0_3 x3_1) false _ ?side1 ?side2 A9.out).mono ?_);(case side1=>repeat (first | exact (Kd.C_below HR416.out bZ) | (with_reducible refine Kd.C_alloc ?_ _) | (with_reducible refine Kd.C_drewN ?_ _) | (with_reducible refine Kd.C_drew ?_)));(case side2=>exact HC416.out);rintro e w' ⟨rfl,⟨nd,rfl⟩⟩;(try first | exact ⟨rfl,_,World.drewN_drewN _ _ _⟩ | exact ⟨rfl,_,Eq.trans (World.drewN_drewN _ _ _) (congrArg (World.drewN _) (Nat.add_assoc _ _ _))⟩))))
        go_roundg k1
        case measure=>have:=HK1.out;omega
        case rel=>exact ⟨(wrap64 (x3_1+1)),rfl,H',⟨by have:=HK1.out;omega⟩,⟨by exact BK411.out⟩,⟨by repeat (with_reducible first | exact HB.out | apply zae | apply zac | apply zaf | refine zag ?_ GE411.out)⟩⟩
      ·rw [if_neg c8] at H
       exact absurd H (by simp)
     ·replace c6:=Bool.eq_false_iff.mpr c6
      subst c6
      rw [if_neg (show ¬ (false=true) by decide)] at H
      obtain rfl:=Option.some.inj H
      have hcz15_0:wr.cell? ⟨gb411,0,none⟩=some (.int .i64 a0_0):=(zab BK411.out 0).trans rfl
      have hcz15_1:wr.cell? ⟨gb411,1,none⟩=some (.int .i64 a0_1):=(zab BK411.out 1).trans rfl
      have hcz15_2:wr.cell? ⟨gb411,2,none⟩=some (.slice A0_2 l0_2.length c0_2):=(zab BK411.out 2).trans rfl
      have hcz15_3:wr.cell? ⟨gb411,3,none⟩=some (.slice A0_3 l0_3.length c0_3):=(zab BK411.out 3).trans rfl
      have hfz15_0:=zaa BK411.out 0
      have hfz15_1:=zaa BK411.out 1
      have hfz15_2:=zaa BK411.out 2
      have hfz15_3:=zaa BK411.out 3
      have p414:0≤(x3_1:Int):=of_decide_eq_true ‹_›
      have q414:x3_1<(l0_3.length:Int):=of_decide_eq_true ‹_›
      obtain ⟨ad414,e414,hx414_0⟩:=Kd.at_int HR0_3.out x3_1 p414 q414
      cases e414
      replace hx414_0:=(HB.out.cell (World.block_lt_of_cell? w _ hx414_0)).trans hx414_0
      replace p414:=eq_true p414
      replace q414:=eq_true q414
      go_wp2_with (first | (go_at_call 47;(with_reducible refine (spec_l6In.calls (rd l0_3 x3_1) 1 99 false _ A5.out).mono ?_);rintro e w' ⟨rfl,⟨nd,rfl⟩⟩;(try first | exact ⟨rfl,_,World.drewN_drewN _ _ _⟩ | exact ⟨rfl,_,Eq.trans (World.drewN_drewN _ _ _) (congrArg (World.drewN _) (Nat.add_assoc _ _ _))⟩)))
      repeat (go_quiet (first | (go_at_call 47;(with_reducible refine (spec_l6In.calls (rd l0_3 x3_1) 1 99 false _ A5.out).mono ?_);rintro e w' ⟨rfl,⟨nd,rfl⟩⟩;(try first | exact ⟨rfl,_,World.drewN_drewN _ _ _⟩ | exact ⟨rfl,_,Eq.trans (World.drewN_drewN _ _ _) (congrArg (World.drewN _) (Nat.add_assoc _ _ _))⟩)));try go_wp2_with (first | (go_at_call 47;(with_reducible refine (spec_l6In.calls (rd l0_3 x3_1) 1 99 false _ A5.out).mono ?_);rintro e w' ⟨rfl,⟨nd,rfl⟩⟩;(try first | exact ⟨rfl,_,World.drewN_drewN _ _ _⟩ | exact ⟨rfl,_,Eq.trans (World.drewN_drewN _ _ _) (congrArg (World.drewN _) (Nat.add_assoc _ _ _))⟩))))
      go_ret
      exact ⟨rfl,by repeat (with_reducible first | exact HB.out | apply zae | apply zac | apply zaf | refine zag ?_ GE411.out)⟩
    ·rw [if_neg c4] at H
     exact absurd H (by simp)
   ·rw [if_neg c3] at H
    have c3b0:decide (x3_1<(l0_3.length:Int))=false:=decide_eq_false c3
    clear c3
    replace H:=bnd H
    obtain ⟨t412,A16,H⟩:=H
    by_cases c17:t412=true
    ·subst c17
     rw [if_pos rfl] at H
     replace H:=bnd H
     obtain ⟨t413,A18,H⟩:=H
     by_cases c19:t413=true
     ·subst c19
      rw [if_pos rfl] at H
      obtain rfl:=Option.some.inj H
      have hcz20_0:wr.cell? ⟨gb411,0,none⟩=some (.int .i64 a0_0):=(zab BK411.out 0).trans rfl
      have hcz20_1:wr.cell? ⟨gb411,1,none⟩=some (.int .i64 a0_1):=(zab BK411.out 1).trans rfl
      have hcz20_2:wr.cell? ⟨gb411,2,none⟩=some (.slice A0_2 l0_2.length c0_2):=(zab BK411.out 2).trans rfl
      have hcz20_3:wr.cell? ⟨gb411,3,none⟩=some (.slice A0_3 l0_3.length c0_3):=(zab BK411.out 3).trans rfl
      have hfz20_0:=zaa BK411.out 0
      have hfz20_1:=zaa BK411.out 1
      have hfz20_2:=zaa BK411.out 2
      have hfz20_3:=zaa BK411.out 3
      go_wp2_with (first | (go_at_call 47;(with_reducible refine (spec_l6In.calls a0_0 1 2 true _ A16.out).mono ?_);rintro e w' ⟨rfl,⟨nd,rfl⟩⟩;(try first | exact ⟨rfl,_,World.drewN_drewN _ _ _⟩ | exact ⟨rfl,_,Eq.trans (World.drewN_drewN _ _ _) (congrArg (World.drewN _) (Nat.add_assoc _ _ _))⟩)) | (go_at_call 108;(with_reducible refine (spec_l11Vec.calls k1 a0_1 _ _ l0_2 true _ ?side1 ?side2 A18.out).mono ?_);(case side1=>repeat (first | exact (Kd.C_below HR0_2.out bZ) | (with_reducible refine Kd.C_alloc ?_ _) | (with_reducible refine Kd.C_drewN ?_ _) | (with_reducible refine Kd.C_drew ?_)));(case side2=>exact HC0_2.out);rintro e w' ⟨rfl,⟨nd,rfl⟩⟩;(try first | exact ⟨rfl,_,World.drewN_drewN _ _ _⟩ | exact ⟨rfl,_,Eq.trans (World.drewN_drewN _ _ _) (congrArg (World.drewN _) (Nat.add_assoc _ _ _))⟩)))
      repeat (go_quiet (first | (go_at_call 47;(with_reducible refine (spec_l6In.calls a0_0 1 2 true _ A16.out).mono ?_);rintro e w' ⟨rfl,⟨nd,rfl⟩⟩;(try first | exact ⟨rfl,_,World.drewN_drewN _ _ _⟩ | exact ⟨rfl,_,Eq.trans (World.drewN_drewN _ _ _) (congrArg (World.drewN _) (Nat.add_assoc _ _ _))⟩)) | (go_at_call 108;(with_reducible refine (spec_l11Vec.calls k1 a0_1 _ _ l0_2 true _ ?side1 ?side2 A18.out).mono ?_);(case side1=>repeat (first | exact (Kd.C_below HR0_2.out bZ) | (with_reducible refine Kd.C_alloc ?_ _) | (with_reducible refine Kd.C_drewN ?_ _) | (with_reducible refine Kd.C_drew ?_)));(case side2=>exact HC0_2.out);rintro e w' ⟨rfl,⟨nd,rfl⟩⟩;(try first | exact ⟨rfl,_,World.drewN_drewN _ _ _⟩ | exact ⟨rfl,_,Eq.trans (World.drewN_drewN _ _ _) (congrArg (World.drewN _) (Nat.add_assoc _ _ _))⟩)));try go_wp2_with (first | (go_at_call 47;(with_reducible refine (spec_l6In.calls a0_0 1 2 true _ A16.out).mono ?_);rintro e w' ⟨rfl,⟨nd,rfl⟩⟩;(try first | exact ⟨rfl,_,World.drewN_drewN _ _ _⟩ | exact ⟨rfl,_,Eq.trans (World.drewN_drewN _ _ _) (congrArg (World.drewN _) (Nat.add_assoc _ _ _))⟩)) | (go_at_call 108;(with_reducible refine (spec_l11Vec.calls k1 a0_1 _ _ l0_2 true _ ?side1 ?side2 A18.out).mono ?_);(case side1=>repeat (first | exact (Kd.C_below HR0_2.out bZ) | (with_reducible refine Kd.C_alloc ?_ _) | (with_reducible refine Kd.C_drewN ?_ _) | (with_reducible refine Kd.C_drew ?_)));(case side2=>exact HC0_2.out);rintro e w' ⟨rfl,⟨nd,rfl⟩⟩;(try first | exact ⟨rfl,_,World.drewN_drewN _ _ _⟩ | exact ⟨rfl,_,Eq.trans (World.drewN_drewN _ _ _) (congrArg (World.drewN _) (Nat.add_assoc _ _ _))⟩))))
      go_ret
      exact ⟨rfl,by repeat (with_reducible first | exact HB.out | apply zae | apply zac | apply zaf | refine zag ?_ GE411.out)⟩
     ·replace c19:=Bool.eq_false_iff.mpr c19
      subst c19
      rw [if_neg (show ¬ (false=true) by decide)] at H
      obtain rfl:=Option.some.inj H
      have hcz21_0:wr.cell? ⟨gb411,0,none⟩=some (.int .i64 a0_0):=(zab BK411.out 0).trans rfl
      have hcz21_1:wr.cell? ⟨gb411,1,none⟩=some (.int .i64 a0_1):=(zab BK411.out 1).trans rfl
      have hcz21_2:wr.cell? ⟨gb411,2,none⟩=some (.slice A0_2 l0_2.length c0_2):=(zab BK411.out 2).trans rfl
      have hcz21_3:wr.cell? ⟨gb411,3,none⟩=some (.slice A0_3 l0_3.length c0_3):=(zab BK411.out 3).trans rfl
      have hfz21_0:=zaa BK411.out 0
      have hfz21_1:=zaa BK411.out 1
      have hfz21_2:=zaa BK411.out 2
      have hfz21_3:=zaa BK411.out 3
      go_wp2_with (first | (go_at_call 47;(with_reducible refine (spec_l6In.calls a0_0 1 2 true _ A16.out).mono ?_);rintro e w' ⟨rfl,⟨nd,rfl⟩⟩;(try first | exact ⟨rfl,_,World.drewN_drewN _ _ _⟩ | exact ⟨rfl,_,Eq.trans (World.drewN_drewN _ _ _) (congrArg (World.drewN _) (Nat.add_assoc _ _ _))⟩)) | (go_at_call 108;(with_reducible refine (spec_l11Vec.calls k1 a0_1 _ _ l0_2 false _ ?side1 ?side2 A18.out).mono ?_);(case side1=>repeat (first | exact (Kd.C_below HR0_2.out bZ) | (with_reducible refine Kd.C_alloc ?_ _) | (with_reducible refine Kd.C_drewN ?_ _) | (with_reducible refine Kd.C_drew ?_)));(case side2=>exact HC0_2.out);rintro e w' ⟨rfl,⟨nd,rfl⟩⟩;(try first | exact ⟨rfl,_,World.drewN_drewN _ _ _⟩ | exact ⟨rfl,_,Eq.trans (World.drewN_drewN _ _ _) (congrArg (World.drewN _) (Nat.add_assoc _ _ _))⟩)))
      repeat (go_quiet (first | (go_at_call 47;(with_reducible refine (spec_l6In.calls a0_0 1 2 true _ A16.out).mono ?_);rintro e w' ⟨rfl,⟨nd,rfl⟩⟩;(try first | exact ⟨rfl,_,World.drewN_drewN _ _ _⟩ | exact ⟨rfl,_,Eq.trans (World.drewN_drewN _ _ _) (congrArg (World.drewN _) (Nat.add_assoc _ _ _))⟩)) | (go_at_call 108;(with_reducible refine (spec_l11Vec.calls k1 a0_1 _ _ l0_2 false _ ?side1 ?side2 A18.out).mono ?_);(case side1=>repeat (first | exact (Kd.C_below HR0_2.out bZ) | (with_reducible refine Kd.C_alloc ?_ _) | (with_reducible refine Kd.C_drewN ?_ _) | (with_reducible refine Kd.C_drew ?_)));(case side2=>exact HC0_2.out);rintro e w' ⟨rfl,⟨nd,rfl⟩⟩;(try first | exact ⟨rfl,_,World.drewN_drewN _ _ _⟩ | exact ⟨rfl,_,Eq.trans (World.drewN_drewN _ _ _) (congrArg (World.drewN _) (Nat.add_assoc _ _ _))⟩)));try go_wp2_with (first | (go_at_call 47;(with_reducible refine (spec_l6In.calls a0_0 1 2 true _ A16.out).mono ?_);rintro e w' ⟨rfl,⟨nd,rfl⟩⟩;(try first | exact ⟨rfl,_,World.drewN_drewN _ _ _⟩ | exact ⟨rfl,_,Eq.trans (World.drewN_drewN _ _ _) (congrArg (World.drewN _) (Nat.add_assoc _ _ _))⟩)) | (go_at_call 108;(with_reducible refine (spec_l11Vec.calls k1 a0_1 _ _ l0_2 false _ ?side1 ?side2 A18.out).mono ?_);(case side1=>repeat (first | exact (Kd.C_below HR0_2.out bZ) | (with_reducible refine Kd.C_alloc ?_ _) | (with_reducible refine Kd.C_drewN ?_ _) | (with_reducible refine Kd.C_drew ?_)));(case side2=>exact HC0_2.out);rintro e w' ⟨rfl,⟨nd,rfl⟩⟩;(try first | exact ⟨rfl,_,World.drewN_drewN _ _ _⟩ | exact ⟨rfl,_,Eq.trans (World.drewN_drewN _ _ _) (congrArg (World.drewN _) (Nat.add_assoc _ _ _))⟩))))
      go_ret
      exact ⟨rfl,by repeat (with_reducible first | exact HB.out | apply zae | apply zac | apply zaf | refine zag ?_ GE411.out)⟩
    ·replace c17:=Bool.eq_false_iff.mpr c17
     subst c17
     rw [if_neg (show ¬ (false=true) by decide)] at H
     obtain rfl:=Option.some.inj H
     have hcz22_0:wr.cell? ⟨gb411,0,none⟩=some (.int .i64 a0_0):=(zab BK411.out 0).trans rfl
     have hcz22_1:wr.cell? ⟨gb411,1,none⟩=some (.int .i64 a0_1):=(zab BK411.out 1).trans rfl
     have hcz22_2:wr.cell? ⟨gb411,2,none⟩=some (.slice A0_2 l0_2.length c0_2):=(zab BK411.out 2).trans rfl
     have hcz22_3:wr.cell? ⟨gb411,3,none⟩=some (.slice A0_3 l0_3.length c0_3):=(zab BK411.out 3).trans rfl
     have hfz22_0:=zaa BK411.out 0
     have hfz22_1:=zaa BK411.out 1
     have hfz22_2:=zaa BK411.out 2
     have hfz22_3:=zaa BK411.out 3
     go_wp2_with (first | (go_at_call 47;(with_reducible refine (spec_l6In.calls a0_0 1 2 false _ A16.out).mono ?_);rintro e w' ⟨rfl,⟨nd,rfl⟩⟩;(try first | exact ⟨rfl,_,World.drewN_drewN _ _ _⟩ | exact ⟨rfl,_,Eq.trans (World.drewN_drewN _ _ _) (congrArg (World.drewN _) (Nat.add_assoc _ _ _))⟩)))
     repeat (go_quiet (first | (go_at_call 47;(with_reducible refine (spec_l6In.calls a0_0 1 2 false _ A16.out).mono ?_);rintro e w' ⟨rfl,⟨nd,rfl⟩⟩;(try first | exact ⟨rfl,_,World.drewN_drewN _ _ _⟩ | exact ⟨rfl,_,Eq.trans (World.drewN_drewN _ _ _) (congrArg (World.drewN _) (Nat.add_assoc _ _ _))⟩)));try go_wp2_with (first | (go_at_call 47;(with_reducible refine (spec_l6In.calls a0_0 1 2 false _ A16.out).mono ?_);rintro e w' ⟨rfl,⟨nd,rfl⟩⟩;(try first | exact ⟨rfl,_,World.drewN_drewN _ _ _⟩ | exact ⟨rfl,_,Eq.trans (World.drewN_drewN _ _ _) (congrArg (World.drewN _) (Nat.add_assoc _ _ _))⟩))))
     go_ret
     exact ⟨rfl,by repeat (with_reducible first | exact HB.out | apply zae | apply zac | apply zaf | refine zag ?_ GE411.out)⟩
def spec_l12Same.l0:Nat→List Int→List Int→Int→Option (Bool)
 | 0,_,_,_=>none
 | k+1,x0,x1,x5=>if x5<(x0.length:Int) then (if 0≤x5 then (if x5<(x1.length:Int) then (if (rd x0 x5)=(rd x1 x5) then (spec_l12Same.l0 k x0 x1 (wrap64 (x5+1))) else (some false)) else (none)) else (none)) else (some true)
def spec_l12Same.f (k:Nat) (l0:List Int) (l1:List Int):Option (Bool):=if (l0.length:Int)=(l1.length:Int) then (spec_l12Same.l0 k l0 l1 0) else (some false)
set_option maxHeartbeats 8000000 in
set_option maxRecDepth 100000 in
theorem spec_l12Same.calls (k:Nat) (A0:Option Addr) (c0:Nat) (l0:List Int) (A1:Option Addr) (c1:Nat) (l1:List Int) (r:Bool) (w:World) (hr0:Kd.C (Kd.int .i64) w A0 l0.length l0) (hc0:l0.length≤c0) (hr1:Kd.C (Kd.int .i64) w A1 l1.length l1) (hc1:l1.length≤c1) (h:spec_l12Same.f k l0 l1=some r) :
  Calls Tru.prog 82 #[.slice A0 l0.length c0,.slice A1 l1.length c1] w fun e w'=>e = .returned (.bool r)∧Drawn0 w w':=by
 have HR0:=Aside0.mk hr0
 have HC0:=Aside0.mk hc0
 clear hr0 hc0
 have HR1:=Aside0.mk hr1
 have HC1:=Aside0.mk hc1
 clear hr1 hc1
 have H:(if (l0.length:Int)=(l1.length:Int) then (spec_l12Same.l0 k l0 l1 0) else (some false))=some r:=h
 clear h
 by_cases c3:(l0.length:Int)=(l1.length:Int)
 ·rw [if_pos c3] at H
  have c3b0:((l0.length:Int) == (l1.length:Int))=true:=beq_iff_eq.mpr c3
  have c3b1:((l0.length:Int) != (l1.length:Int))=false:=bne_eq_false_iff_eq.mpr c3
  have c3b2:(l0.length == l1.length)=true:=by first | simpa using c3 | (simp at c3 ⊢;omega)
  clear c3
  have H':=Aside0.mk H
  clear H
  go_enter Tru.func82,Try.ntmps82
  go_wp2
  repeat (go_quiet (fail);try go_wp2)
  go_loopg [5] k (fun kq v5 w'=>∃ (x5_1:Int),v5 = .int .i64 x5_1∧Aside0 (spec_l12Same.l0 kq l0 l1 x5_1=some r)∧Aside0 (kq≤k)∧Drawn0 w w')
  case atStart=>exact ⟨(0),rfl,H',⟨Nat.le_refl _⟩,by repeat (first | exact Drawn0.refl _ | apply Drawn0.step)⟩
  case round=>
   clear H'
   try clear c1
   try clear p2
   try clear c3
   try clear c3b0
   try clear c3b1
   try clear c3b2
   obtain ⟨x5_1,rfl,HA,HK1,⟨m1,rfl⟩⟩:=hrel
   cases gk with
   | zero=>exact absurd HA.out (by simp [spec_l12Same.l0])
   | succ k1=>
    have H:=HA.out
    clear HA
    simp only [spec_l12Same.l0] at H
    by_cases c4:x5_1<(l0.length:Int)
    ·rw [if_pos c4] at H
     have c4b0:decide (x5_1<(l0.length:Int))=true:=decide_eq_true c4
     clear c4
     by_cases c5:0≤x5_1
     ·rw [if_pos c5] at H
      have c5b0:decide (0≤x5_1)=true:=decide_eq_true c5
      clear c5
      by_cases c6:x5_1<(l1.length:Int)
      ·rw [if_pos c6] at H
       have c6b0:decide (x5_1<(l1.length:Int))=true:=decide_eq_true c6
       clear c6
       by_cases c7:(rd l0 x5_1)=(rd l1 x5_1)
       ·rw [if_pos c7] at H
        have c7b0:((rd l0 x5_1) == (rd l1 x5_1))=true:=beq_iff_eq.mpr c7
        have c7b1:((rd l0 x5_1) != (rd l1 x5_1))=false:=bne_eq_false_iff_eq.mpr c7
        clear c7
        have H':=Aside0.mk H
        clear H
        have p419:0≤(x5_1:Int):=of_decide_eq_true ‹_›
        have q419:x5_1<(l0.length:Int):=of_decide_eq_true ‹_›
        obtain ⟨ad419,e419,hx419_0⟩:=Kd.at_int HR0.out x5_1 p419 q419
        cases e419
        replace p419:=eq_true p419
        replace q419:=eq_true q419
        have p420:0≤(x5_1:Int):=of_decide_eq_true ‹_›
        have q420:x5_1<(l1.length:Int):=of_decide_eq_true ‹_›
        obtain ⟨ad420,e420,hx420_0⟩:=Kd.at_int HR1.out x5_1 p420 q420
        cases e420
        replace p420:=eq_true p420
        replace q420:=eq_true q420
        go_wp2
        repeat (go_quiet (fail);try go_wp2)
        go_roundg k1
        case measure=>have:=HK1.out;omega
        case rel=>exact ⟨(wrap64 (x5_1+1)),rfl,H',⟨by have:=HK1.out;omega⟩,⟨_,rfl⟩⟩
       ·rw [if_neg c7] at H
        have c7b0:((rd l0 x5_1) == (rd l1 x5_1))=false:=beq_eq_false_iff_ne.mpr c7
        have c7b1:((rd l0 x5_1) != (rd l1 x5_1))=true:=bne_iff_ne.mpr c7
        obtain rfl:=Option.some.inj H
        have p419:0≤(x5_1:Int):=of_decide_eq_true ‹_›
        have q419:x5_1<(l0.length:Int):=of_decide_eq_true ‹_›
        obtain ⟨ad419,e419,hx419_0⟩:=Kd.at_int HR0.out x5_1 p419 q419
        cases e419
        replace p419:=eq_true p419
        replace q419:=eq_true q419
        have p420:0≤(x5_1:Int):=of_decide_eq_true ‹_›
        have q420:x5_1<(l1.length:Int):=of_decide_eq_true ‹_›
        obtain ⟨ad420,e420,hx420_0⟩:=Kd.at_int HR1.out x5_1 p420 q420
        cases e420
        replace p420:=eq_true p420
        replace q420:=eq_true q420
        go_wp2
        repeat (go_quiet (fail);try go_wp2)
        go_ret
        exact ⟨rfl,by repeat (first | exact Drawn0.refl _ | apply Drawn0.step)⟩
      ·rw [if_neg c6] at H
       exact absurd H (by simp)
     ·rw [if_neg c5] at H
      exact absurd H (by simp)
    ·rw [if_neg c4] at H
     have c4b0:decide (x5_1<(l0.length:Int))=false:=decide_eq_false c4
     clear c4
     obtain rfl:=Option.some.inj H
     go_wp2
     repeat (go_quiet (fail);try go_wp2)
     go_ret
     exact ⟨rfl,⟨_,rfl⟩⟩
 ·rw [if_neg c3] at H
  have c3b0:((l0.length:Int) == (l1.length:Int))=false:=beq_eq_false_iff_ne.mpr c3
  have c3b1:((l0.length:Int) != (l1.length:Int))=true:=bne_iff_ne.mpr c3
  have c3b2:(l0.length == l1.length)=false:=by first | simpa using c3 | (simp at c3 ⊢;omega)
  obtain rfl:=Option.some.inj H
  go_enter Tru.func82,Try.ntmps82
  go_wp2
  repeat (go_quiet (fail);try go_wp2)
  go_ret
  exact ⟨rfl,by repeat (first | exact Drawn0.refl _ | apply Drawn0.step)⟩
end Go.Proofs.Ytjkikkgpenhbgaa.Ba
