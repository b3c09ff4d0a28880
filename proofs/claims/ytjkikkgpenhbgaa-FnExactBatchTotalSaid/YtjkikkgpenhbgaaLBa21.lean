import Derived.Test.YtjkikkgpenhbgaaLZ
import Derived.Test.YtjkikkgpenhbgaaLBa0
import Derived.Test.YtjkikkgpenhbgaaLBa1
import Derived.Test.YtjkikkgpenhbgaaLBa4
import Derived.Test.YtjkikkgpenhbgaaLBa20
namespace Go.Proofs.Ytjkikkgpenhbgaa.Ba
open Go.RowKit Go.Proofs.YtjkikkgpenhbgaaW.PrintWords Go.Proofs.YtjkikkgpenhbgaaW.PrintLast Go.Proofs.YtjkikkgpenhbgaaW.PrintMore Go.Proofs.Ytjkikkgpenhbgaa.Z
attribute [local go_sem] max2_int min2_int max_two min_two max_three min_three max_four min_four
set_option linter.unusedVariables false
set_option linter.unusedSimpArgs false
theorem c58x21:Ent Tru.prog 58:=ent Tru.func58 (by kernel_rfl) rfl
theorem c83x21:Ent Tru.prog 83:=ent Tru.func83 (by kernel_rfl) rfl
def spec_BatchOk.f (k:Nat) (a0_0:Int) (a0_1:Int) (l0_2:List Int) (l0_3:List Int) (a0_4:Int) (a0_5:Int) (l0_6:List Int) (l0_7:List Int) (a0_8:Int):Option (Bool):=(spec_ColOk.f k a0_0 a0_1 l0_2 l0_3).bind fun t422=>(if t422=true then ((spec_ColOk.f k a0_4 a0_5 l0_6 l0_7).bind fun t423=>(if t423=true then (if a0_0=1 then (if a0_4=2 then (if a0_1=a0_5 then ((spec_l12Same.f k l0_3 l0_7).bind fun t424=>(if t424=true then ((spec_l6In.f a0_8 1 9).bind fun t425=>(some t425)) else (some false))) else (some false)) else (some false)) else (some false)) else (some false))) else (some false))
set_option maxHeartbeats 8000000 in
set_option maxRecDepth 100000 in
theorem spec_BatchOk.calls (k:Nat) (a0_0:Int) (a0_1:Int) (A0_2:Option Addr) (c0_2:Nat) (l0_2:List Int) (A0_3:Option Addr) (c0_3:Nat) (l0_3:List Int) (a0_4:Int) (a0_5:Int) (A0_6:Option Addr) (c0_6:Nat) (l0_6:List Int) (A0_7:Option Addr) (c0_7:Nat) (l0_7:List Int) (a0_8:Int) (r:Bool) (w:World) (hr0_2:Kd.C (Kd.int .i64) w A0_2 l0_2.length l0_2) (hc0_2:l0_2.length≤c0_2) (hr0_3:Kd.C (Kd.int .i64) w A0_3 l0_3.length l0_3) (hc0_3:l0_3.length≤c0_3) (hr0_6:Kd.C (Kd.int .i64) w A0_6 l0_6.length l0_6) (hc0_6:l0_6.length≤c0_6) (hr0_7:Kd.C (Kd.int .i64) w A0_7 l0_7.length l0_7) (hc0_7:l0_7.length≤c0_7) (h:spec_BatchOk.f k a0_0 a0_1 l0_2 l0_3 a0_4 a0_5 l0_6 l0_7 a0_8=some r) :
  Calls Tru.prog 56 #[.agg #[.int .i64 a0_0,.int .i64 a0_1,.slice A0_2 l0_2.length c0_2,.slice A0_3 l0_3.length c0_3,.int .i64 a0_4,.int .i64 a0_5,.slice A0_6 l0_6.length c0_6,.slice A0_7 l0_7.length c0_7,.int .i64 a0_8]] w fun e w'=>e = .returned (.bool r)∧Below w.heap.size w w':=by
 have hu38:=((Tru.und _).trans ((Tru.und _).trans Try.underlying38))
 have hu36:=((Tru.und _).trans ((Tru.und _).trans Try.underlying36))
 have HR0_2:=Aside0.mk hr0_2
 have HC0_2:=Aside0.mk hc0_2
 clear hr0_2 hc0_2
 have HR0_3:=Aside0.mk hr0_3
 have HC0_3:=Aside0.mk hc0_3
 clear hr0_3 hc0_3
 have HR0_6:=Aside0.mk hr0_6
 have HC0_6:=Aside0.mk hc0_6
 clear hr0_6 hc0_6
 have HR0_7:=Aside0.mk hr0_7
 have HC0_7:=Aside0.mk hc0_7
 clear hr0_7 hc0_7
 have HB:=Aside0.mk (Below.refl w.heap.size w)
 have H:=h
 unfold spec_BatchOk.f at H
 clear h
 replace H:=bnd H
 obtain ⟨t422,A2,H⟩:=H
 by_cases c3:t422=true
 ·subst c3
  rw [if_pos rfl] at H
  replace H:=bnd H
  obtain ⟨t423,A4,H⟩:=H
  by_cases c5:t423=true
  ·subst c5
   rw [if_pos rfl] at H
   by_cases c6:a0_0=1
   ·rw [if_pos c6] at H
    have c6b0:(a0_0 == 1)=true:=beq_iff_eq.mpr c6
    have c6b1:(a0_0 != 1)=false:=bne_eq_false_iff_eq.mpr c6
    clear c6
    by_cases c7:a0_4=2
    ·rw [if_pos c7] at H
     have c7b0:(a0_4 == 2)=true:=beq_iff_eq.mpr c7
     have c7b1:(a0_4 != 2)=false:=bne_eq_false_iff_eq.mpr c7
     clear c7
     by_cases c8:a0_1=a0_5
     ·rw [if_pos c8] at H
      have c8b0:(a0_1 == a0_5)=true:=beq_iff_eq.mpr c8
      have c8b1:(a0_1 != a0_5)=false:=bne_eq_false_iff_eq.mpr c8
      clear c8
      replace H:=bnd H
      obtain ⟨t424,A9,H⟩:=H
      by_cases c10:t424=true
      ·subst c10
       rw [if_pos rfl] at H
       replace H:=bnd H
       obtain ⟨t425,A11,H⟩:=H
       obtain rfl:=Option.some.inj H
       go_enter Tru.func56,Try.ntmps56
       go_wp2_with (first | ((with_reducible refine zam (N:=1) rfl ?_);refine boxZ (N:=1) (cs:=#[.int .i64 a0_0,.int .i64 a0_1,.slice A0_2 l0_2.length c0_2,.slice A0_3 l0_3.length c0_3,.int .i64 a0_4,.int .i64 a0_5,.slice A0_6 l0_6.length c0_6,.slice A0_7 l0_7.length c0_7,.int .i64 a0_8]) (t:=38) ?_;intro gb421 hg w12 hbox hb;replace BK421:=Aside0.mk (hbox);replace GW421:=gwZ hg;replace GE421:=gwZ hg;replace HB:=bnZ hb;clear hb hbox hg;have hcz13_0:w12.cell? ⟨gb421,0,none⟩=some (.int .i64 a0_0):=(zab BK421.out 0).trans rfl;have hcz13_1:w12.cell? ⟨gb421,1,none⟩=some (.int .i64 a0_1):=(zab BK421.out 1).trans rfl;have hcz13_2:w12.cell? ⟨gb421,2,none⟩=some (.slice A0_2 l0_2.length c0_2):=(zab BK421.out 2).trans rfl;have hcz13_3:w12.cell? ⟨gb421,3,none⟩=some (.slice A0_3 l0_3.length c0_3):=(zab BK421.out 3).trans rfl;have hcz13_4:w12.cell? ⟨gb421,4,none⟩=some (.int .i64 a0_4):=(zab BK421.out 4).trans rfl;have hcz13_5:w12.cell? ⟨gb421,5,none⟩=some (.int .i64 a0_5):=(zab BK421.out 5).trans rfl;have hcz13_6:w12.cell? ⟨gb421,6,none⟩=some (.slice A0_6 l0_6.length c0_6):=(zab BK421.out 6).trans rfl;have hcz13_7:w12.cell? ⟨gb421,7,none⟩=some (.slice A0_7 l0_7.length c0_7):=(zab BK421.out 7).trans rfl;have hcz13_8:w12.cell? ⟨gb421,8,none⟩=some (.int .i64 a0_8):=(zab BK421.out 8).trans rfl;have hfz13_0:=zaa BK421.out 0;have hfz13_1:=zaa BK421.out 1;have hfz13_2:=zaa BK421.out 2;have hfz13_3:=zaa BK421.out 3;have hfz13_4:=zaa BK421.out 4;have hfz13_5:=zaa BK421.out 5;have hfz13_6:=zaa BK421.out 6;have hfz13_7:=zaa BK421.out 7;have hfz13_8:=zaa BK421.out 8) | ((with_reducible refine zah (f:=81) rfl ?_);refine goesZ (some 5) Tru.func81 #[.agg #[.int .i64 a0_0,.int .i64 a0_1,.slice A0_2 l0_2.length c0_2,.slice A0_3 l0_3.length c0_3]] ?_;(with_reducible refine (spec_ColOk.calls k a0_0 a0_1 _ _ l0_2 _ _ l0_3 true _ ?side1 ?side2 ?side3 ?side4 A2.out).mono ?_);(case side1=>exact (Kd.C_below HR0_2.out HB.out));(case side2=>exact HC0_2.out);(case side3=>exact (Kd.C_below HR0_3.out HB.out));(case side4=>exact HC0_3.out);rintro e w14 ⟨rfl,hb⟩;refine ⟨_,rfl,?_⟩;replace BK421:=bkZ hb BK421.out;replace HB:=bnZ hb;(try clear hb);(try clear hb2);(try clear hk);(try clear hi);have hcz15_0:w14.cell? ⟨gb421,0,none⟩=some (.int .i64 a0_0):=(zab BK421.out 0).trans rfl;have hcz15_1:w14.cell? ⟨gb421,1,none⟩=some (.int .i64 a0_1):=(zab BK421.out 1).trans rfl;have hcz15_2:w14.cell? ⟨gb421,2,none⟩=some (.slice A0_2 l0_2.length c0_2):=(zab BK421.out 2).trans rfl;have hcz15_3:w14.cell? ⟨gb421,3,none⟩=some (.slice A0_3 l0_3.length c0_3):=(zab BK421.out 3).trans rfl;have hcz15_4:w14.cell? ⟨gb421,4,none⟩=some (.int .i64 a0_4):=(zab BK421.out 4).trans rfl;have hcz15_5:w14.cell? ⟨gb421,5,none⟩=some (.int .i64 a0_5):=(zab BK421.out 5).trans rfl;have hcz15_6:w14.cell? ⟨gb421,6,none⟩=some (.slice A0_6 l0_6.length c0_6):=(zab BK421.out 6).trans rfl;have hcz15_7:w14.cell? ⟨gb421,7,none⟩=some (.slice A0_7 l0_7.length c0_7):=(zab BK421.out 7).trans rfl;have hcz15_8:w14.cell? ⟨gb421,8,none⟩=some (.int .i64 a0_8):=(zab BK421.out 8).trans rfl;have hfz15_0:=zaa BK421.out 0;have hfz15_1:=zaa BK421.out 1;have hfz15_2:=zaa BK421.out 2;have hfz15_3:=zaa BK421.out 3;have hfz15_4:=zaa BK421.out 4;have hfz15_5:=zaa BK421.out 5;have hfz15_6:=zaa BK421.out 6;have hfz15_7:=zaa BK421.out 7;have hfz15_8:=zaa BK421.out 8) | (go_at_call 81;(with_reducible refine (spec_ColOk.calls k a0_4 a0_5 _ _ l0_6 _ _ l0_7 true _ ?side1 ?side2 ?side3 ?side4 A4.out).mono ?_);(case side1=>exact (Kd.C_below HR0_6.out HB.out));(case side2=>exact HC0_6.out);(case side3=>exact (Kd.C_below HR0_7.out HB.out));(case side4=>exact HC0_7.out);rintro e w16 ⟨rfl,hb⟩;replace BK421:=bkZ hb BK421.out;replace HB:=bnZ hb;(try clear hb);(try clear hb2);(try clear hk);(try clear hi);have hcz17_0:w16.cell? ⟨gb421,0,none⟩=some (.int .i64 a0_0):=(zab BK421.out 0).trans rfl;have hcz17_1:w16.cell? ⟨gb421,1,none⟩=some (.int .i64 a0_1):=(zab BK421.out 1).trans rfl;have hcz17_2:w16.cell? ⟨gb421,2,none⟩=some (.slice A0_2 l0_2.length c0_2):=(zab BK421.out 2).trans rfl;have hcz17_3:w16.cell? ⟨gb421,3,none⟩=some (.slice A0_3 l0_3.length c0_3):=(zab BK421.out 3).trans rfl;have hcz17_4:w16.cell? ⟨gb421,4,none⟩=some (.int .i64 a0_4):=(zab BK421.out 4).trans rfl;have hcz17_5:w16.cell? ⟨gb421,5,none⟩=some (.int .i64 a0_5):=(zab BK421.out 5).trans rfl;have hcz17_6:w16.cell? ⟨gb421,6,none⟩=some (.slice A0_6 l0_6.length c0_6):=(zab BK421.out 6).trans rfl;have hcz17_7:w16.cell? ⟨gb421,7,none⟩=some (.slice A0_7 l0_7.length c0_7):=(zab BK421.out 7).trans rfl;have hcz17_8:w16.cell? ⟨gb421,8,none⟩=some (.int .i64 a0_8):=(zab BK421.out 8).trans rfl;have hfz17_0:=zaa BK421.out 0;have hfz17_1:=zaa BK421.out 1;have hfz17_2:=zaa BK421.out 2;have hfz17_3:=zaa BK421.out 3;have hfz17_4:=zaa BK421.out 4;have hfz17_5:=zaa BK421.out 5;have hfz17_6:=zaa BK421.out 6;have hfz17_7:=zaa BK421.out 7;have hfz17_8:=zaa BK421.out 8) | (go_at_call 82;(with_reducible refine (spec_l12Same.calls k _ _ l0_3 _ _ l0_7 true _ ?side1 ?side2 ?side3 ?side4 A9.out).mono ?_);(case side1=>exact (Kd.C_below HR0_3.out HB.out));(case side2=>exact HC0_3.out);(case side3=>exact (Kd.C_below HR0_7.out HB.out));(case side4=>exact HC0_7.out);rintro e w' ⟨rfl,⟨nd,rfl⟩⟩) | (go_at_call 47;(with_reducible refine (spec_l6In.calls a0_8 1 9 t425 _ A11.out).mono ?_);rintro e w' ⟨rfl,⟨nd,rfl⟩⟩))
       go_ret
       exact ⟨rfl,by repeat (with_reducible first | exact HB.out | apply zae | apply zac | apply zaf | refine zag ?_ GE421.out)⟩
      ·replace c10:=Bool.eq_false_iff.mpr c10
       subst c10
       rw [if_neg (show ¬ (false=true) by decide)] at H
       obtain rfl:=Option.some.inj H
       go_enter Tru.func56,Try.ntmps56
       go_wp2_with (first | ((with_reducible refine zam (N:=1) rfl ?_);refine boxZ (N:=1) (cs:=#[.int .i64 a0_0,.int .i64 a0_1,.slice A0_2 l0_2.length c0_2,.slice A0_3 l0_3.length c0_3,.int .i64 a0_4,.int .i64 a0_5,.slice A0_6 l0_6.length c0_6,.slice A0_7 l0_7.length c0_7,.int .i64 a0_8]) (t:=38) ?_;intro gb421 hg w18 hbox hb;replace BK421:=Aside0.mk (hbox);replace GW421:=gwZ hg;replace GE421:=gwZ hg;replace HB:=bnZ hb;clear hb hbox hg;have hcz19_0:w18.cell? ⟨gb421,0,none⟩=some (.int .i64 a0_0):=(zab BK421.out 0).trans rfl;have hcz19_1:w18.cell? ⟨gb421,1,none⟩=some (.int .i64 a0_1):=(zab BK421.out 1).trans rfl;have hcz19_2:w18.cell? ⟨gb421,2,none⟩=some (.slice A0_2 l0_2.length c0_2):=(zab BK421.out 2).trans rfl;have hcz19_3:w18.cell? ⟨gb421,3,none⟩=some (.slice A0_3 l0_3.length c0_3):=(zab BK421.out 3).trans rfl;have hcz19_4:w18.cell? ⟨gb421,4,none⟩=some (.int .i64 a0_4):=(zab BK421.out 4).trans rfl;have hcz19_5:w18.cell? ⟨gb421,5,none⟩=some (.int .i64 a0_5):=(zab BK421.out 5).trans rfl;have hcz19_6:w18.cell? ⟨gb421,6,none⟩=some (.slice A0_6 l0_6.length c0_6):=(zab BK421.out 6).trans rfl;have hcz19_7:w18.cell? ⟨gb421,7,none⟩=some (.slice A0_7 l0_7.length c0_7):=(zab BK421.out 7).trans rfl;have hcz19_8:w18.cell? ⟨gb421,8,none⟩=some (.int .i64 a0_8):=(zab BK421.out 8).trans rfl;have hfz19_0:=zaa BK421.out 0;have hfz19_1:=zaa BK421.out 1;have hfz19_2:=zaa BK421.out 2;have hfz19_3:=zaa BK421.out 3;have hfz19_4:=zaa BK421.out 4;have hfz19_5:=zaa BK421.out 5;have hfz19_6:=zaa BK421.out 6;have hfz19_7:=zaa BK421.out 7;have hfz19_8:=zaa BK421.out 8) | ((with_reducible refine zah (f:=81) rfl ?_);refine goesZ (some 5) Tru.func81 #[.agg #[.int .i64 a0_0,.int .i64 a0_1,.slice A0_2 l0_2.length c0_2,.slice A0_3 l0_3.length c0_3]] ?_;(with_reducible refine (spec_ColOk.calls k a0_0 a0_1 _ _ l0_2 _ _ l0_3 true _ ?side1 ?side2 ?side3 ?side4 A2.out).mono ?_);(case side1=>exact (Kd.C_below HR0_2.out HB.out));(case side2=>exact HC0_2.out);(case side3=>exact (Kd.C_below HR0_3.out HB.out));(case side4=>exact HC0_3.out);rintro e w20 ⟨rfl,hb⟩;refine ⟨_,rfl,?_⟩;replace BK421:=bkZ hb BK421.out;replace HB:=bnZ hb;(try clear hb);(try clear hb2);(try clear hk);(try clear hi);have hcz21_0:w20.cell? ⟨gb421,0,none⟩=some (.int .i64 a0_0):=(zab BK421.out 0).trans rfl;have hcz21_1:w20.cell? ⟨gb421,1,none⟩=some (.int .i64 a0_1):=(zab BK421.out 1).trans rfl;have hcz21_2:w20.cell? ⟨gb421,2,none⟩=some (.slice A0_2 l0_2.length c0_2):=(zab BK421.out 2).trans rfl;have hcz21_3:w20.cell? ⟨gb421,3,none⟩=some (.slice A0_3 l0_3.length c0_3):=(zab BK421.out 3).trans rfl;have hcz21_4:w20.cell? ⟨gb421,4,none⟩=some (.int .i64 a0_4):=(zab BK421.out 4).trans rfl;have hcz21_5:w20.cell? ⟨gb421,5,none⟩=some (.int .i64 a0_5):=(zab BK421.out 5).trans rfl;have hcz21_6:w20.cell? ⟨gb421,6,none⟩=some (.slice A0_6 l0_6.length c0_6):=(zab BK421.out 6).trans rfl;have hcz21_7:w20.cell? ⟨gb421,7,none⟩=some (.slice A0_7 l0_7.length c0_7):=(zab BK421.out 7).trans rfl;have hcz21_8:w20.cell? ⟨gb421,8,none⟩=some (.int .i64 a0_8):=(zab BK421.out 8).trans rfl;have hfz21_0:=zaa BK421.out 0;have hfz21_1:=zaa BK421.out 1;have hfz21_2:=zaa BK421.out 2;have hfz21_3:=zaa BK421.out 3;have hfz21_4:=zaa BK421.out 4;have hfz21_5:=zaa BK421.out 5;have hfz21_6:=zaa BK421.out 6;have hfz21_7:=zaa BK421.out 7;have hfz21_8:=zaa BK421.out 8) | (go_at_call 81;(with_reducible refine (spec_ColOk.calls k a0_4 a0_5 _ _ l0_6 _ _ l0_7 true _ ?side1 ?side2 ?side3 ?side4 A4.out).mono ?_);(case side1=>exact (Kd.C_below HR0_6.out HB.out));(case side2=>exact HC0_6.out);(case side3=>exact (Kd.C_below HR0_7.out HB.out));(case side4=>exact HC0_7.out);rintro e w22 ⟨rfl,hb⟩;replace BK421:=bkZ hb BK421.out;replace HB:=bnZ hb;(try clear hb);(try clear hb2);(try clear hk);(try clear hi);have hcz23_0:w22.cell? ⟨gb421,0,none⟩=some (.int .i64 a0_0):=(zab BK421.out 0).trans rfl;have hcz23_1:w22.cell? ⟨gb421,1,none⟩=some (.int .i64 a0_1):=(zab BK421.out 1).trans rfl;have hcz23_2:w22.cell? ⟨gb421,2,none⟩=some (.slice A0_2 l0_2.length c0_2):=(zab BK421.out 2).trans rfl;have hcz23_3:w22.cell? ⟨gb421,3,none⟩=some (.slice A0_3 l0_3.length c0_3):=(zab BK421.out 3).trans rfl;have hcz23_4:w22.cell? ⟨gb421,4,none⟩=some (.int .i64 a0_4):=(zab BK421.out 4).trans rfl;have hcz23_5:w22.cell? ⟨gb421,5,none⟩=some (.int .i64 a0_5):=(zab BK421.out 5).trans rfl;have hcz23_6:w22.cell? ⟨gb421,6,none⟩=some (.slice A0_6 l0_6.length c0_6):=(zab BK421.out 6).trans rfl;have hcz23_7:w22.cell? ⟨gb421,7,none⟩=some (.slice A0_7 l0_7.length c0_7):=(zab BK421.out 7).trans rfl;have hcz23_8:w22.cell? ⟨gb421,8,none⟩=some (.int .i64 a0_8):=(zab BK421.out 8).trans rfl;have hfz23_0:=zaa BK421.out 0;have hfz23_1:=zaa BK421.out 1;have hfz23_2:=zaa BK421.out 2;have hfz23_3:=zaa BK421.out 3;have hfz23_4:=zaa BK421.out 4;have hfz23_5:=zaa BK421.out 5;have hfz23_6:=zaa BK421.out 6;have hfz23_7:=zaa BK421.out 7;have hfz23_8:=zaa BK421.out 8) | (go_at_call 82;(with_reducible refine (spec_l12Same.calls k _ _ l0_3 _ _ l0_7 false _ ?side1 ?side2 ?side3 ?side4 A9.out).mono ?_);(case side1=>exact (Kd.C_below HR0_3.out HB.out));(case side2=>exact HC0_3.out);(case side3=>exact (Kd.C_below HR0_7.out HB.out));(case side4=>exact HC0_7.out);rintro e w' ⟨rfl,⟨nd,rfl⟩⟩))
       go_ret
       exact ⟨rfl,by repeat (with_reducible first | exact HB.out | apply zae | apply zac | apply zaf | refine zag ?_ GE421.out)⟩
     ·rw [if_neg c8] at H
      have c8b0:(a0_1 == a0_5)=false:=beq_eq_false_iff_ne.mpr c8
      have c8b1:(a0_1 != a0_5)=true:=bne_iff_ne.mpr c8
      obtain rfl:=Option.some.inj H
      go_enter Tru.func56,Try.ntmps56
      go_wp2_with (first | ((with_reducible refine zam (N:=1) rfl ?_);refine boxZ (N:=1) (cs:=#[.int .i64 a0_0,.int .i64 a0_1,.slice A0_2 l0_2.length c0_2,.slice A0_3 l0_3.length c0_3,.int .i64 a0_4,.int .i64 a0_5,.slice A0_6 l0_6.length c0_6,.slice A0_7 l0_7.length c0_7,.int .i64 a0_8]) (t:=38) ?_;intro gb421 hg w24 hbox hb;replace BK421:=Aside0.mk (hbox);replace GW421:=gwZ hg;replace GE421:=gwZ hg;replace HB:=bnZ hb;clear hb hbox hg;have hcz25_0:w24.cell? ⟨gb421,0,none⟩=some (.int .i64 a0_0):=(zab BK421.out 0).trans rfl;have hcz25_1:w24.cell? ⟨gb421,1,none⟩=some (.int .i64 a0_1):=(zab BK421.out 1).trans rfl;have hcz25_2:w24.cell? ⟨gb421,2,none⟩=some (.slice A0_2 l0_2.length c0_2):=(zab BK421.out 2).trans rfl;have hcz25_3:w24.cell? ⟨gb421,3,none⟩=some (.slice A0_3 l0_3.length c0_3):=(zab BK421.out 3).trans rfl;have hcz25_4:w24.cell? ⟨gb421,4,none⟩=some (.int .i64 a0_4):=(zab BK421.out 4).trans rfl;have hcz25_5:w24.cell? ⟨gb421,5,none⟩=some (.int .i64 a0_5):=(zab BK421.out 5).trans rfl;have hcz25_6:w24.cell? ⟨gb421,6,none⟩=some (.slice A0_6 l0_6.length c0_6):=(zab BK421.out 6).trans rfl;have hcz25_7:w24.cell? ⟨gb421,7,none⟩=some (.slice A0_7 l0_7.length c0_7):=(zab BK421.out 7).trans rfl;have hcz25_8:w24.cell? ⟨gb421,8,none⟩=some (.int .i64 a0_8):=(zab BK421.out 8).trans rfl;have hfz25_0:=zaa BK421.out 0;have hfz25_1:=zaa BK421.out 1;have hfz25_2:=zaa BK421.out 2;have hfz25_3:=zaa BK421.out 3;have hfz25_4:=zaa BK421.out 4;have hfz25_5:=zaa BK421.out 5;have hfz25_6:=zaa BK421.out 6;have hfz25_7:=zaa BK421.out 7;have hfz25_8:=zaa BK421.out 8) | ((with_reducible refine zah (f:=81) rfl ?_);refine goesZ (some 5) Tru.func81 #[.agg #[.int .i64 a0_0,.int .i64 a0_1,.slice A0_2 l0_2.length c0_2,.slice A0_3 l0_3.length c0_3]] ?_;(with_reducible refine (spec_ColOk.calls k a0_0 a0_1 _ _ l0_2 _ _ l0_3 true _ ?side1 ?side2 ?side3 ?side4 A2.out).mono ?_);(case side1=>exact (Kd.C_below HR0_2.out HB.out));(case side2=>exact HC0_2.out);(case side3=>exact (Kd.C_below HR0_3.out HB.out));(case side4=>exact HC0_3.out);rintro e w26 ⟨rfl,hb⟩;refine ⟨_,rfl,?_⟩;replace BK421:=bkZ hb BK421.out;replace HB:=bnZ hb;(try clear hb);(try clear hb2);(try clear hk);(try clear hi);have hcz27_0:w26.cell? ⟨gb421,0,none⟩=some (.int .i64 a0_0):=(zab BK421.out 0).trans rfl;have hcz27_1:w26.cell? ⟨gb421,1,none⟩=some (.int .i64 a0_1):=(zab BK421.out 1).trans rfl;have hcz27_2:w26.cell? ⟨gb421,2,none⟩=some (.slice A0_2 l0_2.length c0_2):=(zab BK421.out 2).trans rfl;have hcz27_3:w26.cell? ⟨gb421,3,none⟩=some (.slice A0_3 l0_3.length c0_3):=(zab BK421.out 3).trans rfl;have hcz27_4:w26.cell? ⟨gb421,4,none⟩=some (.int .i64 a0_4):=(zab BK421.out 4).trans rfl;have hcz27_5:w26.cell? ⟨gb421,5,none⟩=some (.int .i64 a0_5):=(zab BK421.out 5).trans rfl;have hcz27_6:w26.cell? ⟨gb421,6,none⟩=some (.slice A0_6 l0_6.length c0_6):=(zab BK421.out 6).trans rfl;have hcz27_7:w26.cell? ⟨gb421,7,none⟩=some (.slice A0_7 l0_7.length c0_7):=(zab BK421.out 7).trans rfl;have hcz27_8:w26.cell? ⟨gb421,8,none⟩=some (.int .i64 a0_8):=(zab BK421.out 8).trans rfl;have hfz27_0:=zaa BK421.out 0;have hfz27_1:=zaa BK421.out 1;have hfz27_2:=zaa BK421.out 2;have hfz27_3:=zaa BK421.out 3;have hfz27_4:=zaa BK421.out 4;have hfz27_5:=zaa BK421.out 5;have hfz27_6:=zaa BK421.out 6;have hfz27_7:=zaa BK421.out 7;have hfz27_8:=zaa BK421.out 8) | (go_at_call 81;(with_reducible refine (spec_ColOk.calls k a0_4 a0_5 _ _ l0_6 _ _ l0_7 true _ ?side1 ?side2 ?side3 ?side4 A4.out).mono ?_);(case side1=>exact (Kd.C_below HR0_6.out HB.out));(case side2=>exact HC0_6.out);(case side3=>exact (Kd.C_below HR0_7.out HB.out));(case side4=>exact HC0_7.out);rintro e w28 ⟨rfl,hb⟩;replace BK421:=bkZ hb BK421.out;replace HB:=bnZ hb;(try clear hb);(try clear hb2);(try clear hk);(try clear hi);have hcz29_0:w28.cell? ⟨gb421,0,none⟩=some (.int .i64 a0_0):=(zab BK421.out 0).trans rfl;have hcz29_1:w28.cell? ⟨gb421,1,none⟩=some (.int .i64 a0_1):=(zab BK421.out 1).trans rfl;have hcz29_2:w28.cell? ⟨gb421,2,none⟩=some (.slice A0_2 l0_2.length c0_2):=(zab BK421.out 2).trans rfl;have hcz29_3:w28.cell? ⟨gb421,3,none⟩=some (.slice A0_3 l0_3.length c0_3):=(zab BK421.out 3).trans rfl;have hcz29_4:w28.cell? ⟨gb421,4,none⟩=some (.int .i64 a0_4):=(zab BK421.out 4).trans rfl;have hcz29_5:w28.cell? ⟨gb421,5,none⟩=some (.int .i64 a0_5):=(zab BK421.out 5).trans rfl;have hcz29_6:w28.cell? ⟨gb421,6,none⟩=some (.slice A0_6 l0_6.length c0_6):=(zab BK421.out 6).trans rfl;have hcz29_7:w28.cell? ⟨gb421,7,none⟩=some (.slice A0_7 l0_7.length c0_7):=(zab BK421.out 7).trans rfl;have hcz29_8:w28.cell? ⟨gb421,8,none⟩=some (.int .i64 a0_8):=(zab BK421.out 8).trans rfl;have hfz29_0:=zaa BK421.out 0;have hfz29_1:=zaa BK421.out 1;have hfz29_2:=zaa BK421.out 2;have hfz29_3:=zaa BK421.out 3;have hfz29_4:=zaa BK421.out 4;have hfz29_5:=zaa BK421.out 5;have hfz29_6:=zaa BK421.out 6;have hfz29_7:=zaa BK421.out 7;have hfz29_8:=zaa BK421.out 8))
      go_ret
      exact ⟨rfl,by repeat (with_reducible first | exact HB.out | apply zae | apply zac | apply zaf | refine zag ?_ GE421.out)⟩
    ·rw [if_neg c7] at H
     have c7b0:(a0_4 == 2)=false:=beq_eq_false_iff_ne.mpr c7
     have c7b1:(a0_4 != 2)=true:=bne_iff_ne.mpr c7
     obtain rfl:=Option.some.inj H
     go_enter Tru.func56,Try.ntmps56
     go_wp2_with (first | ((with_reducible refine zam (N:=1) rfl ?_);refine boxZ (N:=1) (cs:=#[.int .i64 a0_0,.int .i64 a0_1,.slice A0_2 l0_2.length c0_2,.slice A0_3 l0_3.length c0_3,.int .i64 a0_4,.int .i64 a0_5,.slice A0_6 l0_6.length c0_6,.slice A0_7 l0_7.length c0_7,.int .i64 a0_8]) (t:=38) ?_;intro gb421 hg w30 hbox hb;replace BK421:=Aside0.mk (hbox);replace GW421:=gwZ hg;replace GE421:=gwZ hg;replace HB:=bnZ hb;clear hb hbox hg;have hcz31_0:w30.cell? ⟨gb421,0,none⟩=some (.int .i64 a0_0):=(zab BK421.out 0).trans rfl;have hcz31_1:w30.cell? ⟨gb421,1,none⟩=some (.int .i64 a0_1):=(zab BK421.out 1).trans rfl;have hcz31_2:w30.cell? ⟨gb421,2,none⟩=some (.slice A0_2 l0_2.length c0_2):=(zab BK421.out 2).trans rfl;have hcz31_3:w30.cell? ⟨gb421,3,none⟩=some (.slice A0_3 l0_3.length c0_3):=(zab BK421.out 3).trans rfl;have hcz31_4:w30.cell? ⟨gb421,4,none⟩=some (.int .i64 a0_4):=(zab BK421.out 4).trans rfl;have hcz31_5:w30.cell? ⟨gb421,5,none⟩=some (.int .i64 a0_5):=(zab BK421.out 5).trans rfl;have hcz31_6:w30.cell? ⟨gb421,6,none⟩=some (.slice A0_6 l0_6.length c0_6):=(zab BK421.out 6).trans rfl;have hcz31_7:w30.cell? ⟨gb421,7,none⟩=some (.slice A0_7 l0_7.length c0_7):=(zab BK421.out 7).trans rfl;have hcz31_8:w30.cell? ⟨gb421,8,none⟩=some (.int .i64 a0_8):=(zab BK421.out 8).trans rfl;have hfz31_0:=zaa BK421.out 0;have hfz31_1:=zaa BK421.out 1;have hfz31_2:=zaa BK421.out 2;have hfz31_3:=zaa BK421.out 3;have hfz31_4:=zaa BK421.out 4;have hfz31_5:=zaa BK421.out 5;have hfz31_6:=zaa BK421.out 6;have hfz31_7:=zaa BK421.out 7;have hfz31_8:=zaa BK421.out 8) | ((with_reducible refine zah (f:=81) rfl ?_);refine goesZ (some 5) Tru.func81 #[.agg #[.int .i64 a0_0,.int .i64 a0_1,.slice A0_2 l0_2.length c0_2,.slice A0_3 l0_3.length c0_3]] ?_;(with_reducible refine (spec_ColOk.calls k a0_0 a0_1 _ _ l0_2 _ _ l0_3 true _ ?side1 ?side2 ?side3 ?side4 A2.out).mono ?_);(case side1=>exact (Kd.C_below HR0_2.out HB.out));(case side2=>exact HC0_2.out);(case side3=>exact (Kd.C_below HR0_3.out HB.out));(case side4=>exact HC0_3.out);rintro e w32 ⟨rfl,hb⟩;refine ⟨_,rfl,?_⟩;replace BK421:=bkZ hb BK421.out;replace HB:=bnZ hb;(try clear hb);(try clear hb2);(try clear hk);(try clear hi);have hcz33_0:w32.cell? ⟨gb421,0,none⟩=some (.int .i64 a0_0):=(zab BK421.out 0).trans rfl;have hcz33_1:w32.cell? ⟨gb421,1,none⟩=some (.int .i64 a0_1):=(zab BK421.out 1).trans rfl;have hcz33_2:w32.cell? ⟨gb421,2,none⟩=some (.slice A0_2 l0_2.length c0_2):=(zab BK421.out 2).trans rfl;have hcz33_3:w32.cell? ⟨gb421,3,none⟩=some (.slice A0_3 l0_3.length c0_3):=(zab BK421.out 3).trans rfl;have hcz33_4:w32.cell? ⟨gb421,4,none⟩=some (.int .i64 a0_4):=(zab BK421.out 4).trans rfl;have hcz33_5:w32.cell? ⟨gb421,5,none⟩=some (.int .i64 a0_5):=(zab BK421.out 5).trans rfl;have hcz33_6:w32.cell? ⟨gb421,6,none⟩=some (.slice A0_6 l0_6.length c0_6):=(zab BK421.out 6).trans rfl;have hcz33_7:w32.cell? ⟨gb421,7,none⟩=some (.slice A0_7 l0_7.length c0_7):=(zab BK421.out 7).trans rfl;have hcz33_8:w32.cell? ⟨gb421,8,none⟩=some (.int .i64 a0_8):=(zab BK421.out 8).trans rfl;have hfz33_0:=zaa BK421.out 0;have hfz33_1:=zaa BK421.out 1;have hfz33_2:=zaa BK421.out 2;have hfz33_3:=zaa BK421.out 3;have hfz33_4:=zaa BK421.out 4;have hfz33_5:=zaa BK421.out 5;have hfz33_6:=zaa BK421.out 6;have hfz33_7:=zaa BK421.out 7;have hfz33_8:=zaa BK421.out 8) | (go_at_call 81;(with_reducible refine (spec_ColOk.calls k a0_4 a0_5 _ _ l0_6 _ _ l0_7 true _ ?side1 ?side2 ?side3 ?side4 A4.out).mono ?_);(case side1=>exact (Kd.C_below HR0_6.out HB.out));(case side2=>exact HC0_6.out);(case side3=>exact (Kd.C_below HR0_7.out HB.out));(case side4=>exact HC0_7.out);rintro e w34 ⟨rfl,hb⟩;replace BK421:=bkZ hb BK421.out;replace HB:=bnZ hb;(try clear hb);(try clear hb2);(try clear hk);(try clear hi);have hcz35_0:w34.cell? ⟨gb421,0,none⟩=some (.int .i64 a0_0):=(zab BK421.out 0).trans rfl;have hcz35_1:w34.cell? ⟨gb421,1,none⟩=some (.int .i64 a0_1):=(zab BK421.out 1).trans rfl;have hcz35_2:w34.cell? ⟨gb421,2,none⟩=some (.slice A0_2 l0_2.length c0_2):=(zab BK421.out 2).trans rfl;have hcz35_3:w34.cell? ⟨gb421,3,none⟩=some (.slice A0_3 l0_3.length c0_3):=(zab BK421.out 3).trans rfl;have hcz35_4:w34.cell? ⟨gb421,4,none⟩=some (.int .i64 a0_4):=(zab BK421.out 4).trans rfl;have hcz35_5:w34.cell? ⟨gb421,5,none⟩=some (.int .i64 a0_5):=(zab BK421.out 5).trans rfl;have hcz35_6:w34.cell? ⟨gb421,6,none⟩=some (.slice A0_6 l0_6.length c0_6):=(zab BK421.out 6).trans rfl;have hcz35_7:w34.cell? ⟨gb421,7,none⟩=some (.slice A0_7 l0_7.length c0_7):=(zab BK421.out 7).trans rfl;have hcz35_8:w34.cell? ⟨gb421,8,none⟩=some (.int .i64 a0_8):=(zab BK421.out 8).trans rfl;have hfz35_0:=zaa BK421.out 0;have hfz35_1:=zaa BK421.out 1;have hfz35_2:=zaa BK421.out 2;have hfz35_3:=zaa BK421.out 3;have hfz35_4:=zaa BK421.out 4;have hfz35_5:=zaa BK421.out 5;have hfz35_6:=zaa BK421.out 6;have hfz35_7:=zaa BK421.out 7;have hfz35_8:=zaa BK421.out 8))
     go_ret
     exact ⟨rfl,by repeat (with_reducible first | exact HB.out | apply zae | apply zac | apply zaf | refine zag ?_ GE421.out)⟩
   ·rw [if_neg c6] at H
    have c6b0:(a0_0 == 1)=false:=beq_eq_false_iff_ne.mpr c6
    have c6b1:(a0_0 != 1)=true:=bne_iff_ne.mpr c6
    obtain rfl:=Option.some.inj H
    go_enter Tru.func56,Try.ntmps56
    go_wp2_with (first | ((with_reducible refine zam (N:=1) rfl ?_);refine boxZ (N:=1) (cs:=#[.int .i64 a0_0,.int .i64 a0_1,.slice A0_2 l0_2.length c0_2,.slice A0_3 l0_3.length c0_3,.int .i64 a0_4,.int .i64 a0_5,.slice A0_6 l0_6.length c0_6,.slice A0_7 l0_7.length c0_7,.int .i64 a0_8]) (t:=38) ?_;intro gb421 hg w36 hbox hb;replace BK421:=Aside0.mk (hbox);replace GW421:=gwZ hg;replace GE421:=gwZ hg;replace HB:=bnZ hb;clear hb hbox hg;have hcz37_0:w36.cell? ⟨gb421,0,none⟩=some (.int .i64 a0_0):=(zab BK421.out 0).trans rfl;have hcz37_1:w36.cell? ⟨gb421,1,none⟩=some (.int .i64 a0_1):=(zab BK421.out 1).trans rfl;have hcz37_2:w36.cell? ⟨gb421,2,none⟩=some (.slice A0_2 l0_2.length c0_2):=(zab BK421.out 2).trans rfl;have hcz37_3:w36.cell? ⟨gb421,3,none⟩=some (.slice A0_3 l0_3.length c0_3):=(zab BK421.out 3).trans rfl;have hcz37_4:w36.cell? ⟨gb421,4,none⟩=some (.int .i64 a0_4):=(zab BK421.out 4).trans rfl;have hcz37_5:w36.cell? ⟨gb421,5,none⟩=some (.int .i64 a0_5):=(zab BK421.out 5).trans rfl;have hcz37_6:w36.cell? ⟨gb421,6,none⟩=some (.slice A0_6 l0_6.length c0_6):=(zab BK421.out 6).trans rfl;have hcz37_7:w36.cell? ⟨gb421,7,none⟩=some (.slice A0_7 l0_7.length c0_7):=(zab BK421.out 7).trans rfl;have hcz37_8:w36.cell? ⟨gb421,8,none⟩=some (.int .i64 a0_8):=(zab BK421.out 8).trans rfl;have hfz37_0:=zaa BK421.out 0;have hfz37_1:=zaa BK421.out 1;have hfz37_2:=zaa BK421.out 2;have hfz37_3:=zaa BK421.out 3;have hfz37_4:=zaa BK421.out 4;have hfz37_5:=zaa BK421.out 5;have hfz37_6:=zaa BK421.out 6;have hfz37_7:=zaa BK421.out 7;have hfz37_8:=zaa BK421.out 8) | ((with_reducible refine zah (f:=81) rfl ?_);refine goesZ (some 5) Tru.func81 #[.agg #[.int .i64 a0_0,.int .i64 a0_1,.slice A0_2 l0_2.length c0_2,.slice A0_3 l0_3.length c0_3]] ?_;(with_reducible refine (spec_ColOk.calls k a0_0 a0_1 _ _ l0_2 _ _ l0_3 true _ ?side1 ?side2 ?side3 ?side4 A2.out).mono ?_);(case side1=>exact (Kd.C_below HR0_2.out HB.out));(case side2=>exact HC0_2.out);(case side3=>exact (Kd.C_below HR0_3.out HB.out));(case side4=>exact HC0_3.out);rintro e w38 ⟨rfl,hb⟩;refine ⟨_,rfl,?_⟩;replace BK421:=bkZ hb BK421.out;replace HB:=bnZ hb;(try clear hb);(try clear hb2);(try clear hk);(try clear hi);have hcz39_0:w38.cell? ⟨gb421,0,none⟩=some (.int .i64 a0_0):=(zab BK421.out 0).trans rfl;have hcz39_1:w38.cell? ⟨gb421,1,none⟩=some (.int .i64 a0_1):=(zab BK421.out 1).trans rfl;have hcz39_2:w38.cell? ⟨gb421,2,none⟩=some (.slice A0_2 l0_2.length c0_2):=(zab BK421.out 2).trans rfl;have hcz39_3:w38.cell? ⟨gb421,3,none⟩=some (.slice A0_3 l0_3.length c0_3):=(zab BK421.out 3).trans rfl;have hcz39_4:w38.cell? ⟨gb421,4,none⟩=some (.int .i64 a0_4):=(zab BK421.out 4).trans rfl;have hcz39_5:w38.cell? ⟨gb421,5,none⟩=some (.int .i64 a0_5):=(zab BK421.out 5).trans rfl;have hcz39_6:w38.cell? ⟨gb421,6,none⟩=some (.slice A0_6 l0_6.length c0_6):=(zab BK421.out 6).trans rfl;have hcz39_7:w38.cell? ⟨gb421,7,none⟩=some (.slice A0_7 l0_7.length c0_7):=(zab BK421.out 7).trans rfl;have hcz39_8:w38.cell? ⟨gb421,8,none⟩=some (.int .i64 a0_8):=(zab BK421.out 8).trans rfl;have hfz39_0:=zaa BK421.out 0;have hfz39_1:=zaa BK421.out 1;have hfz39_2:=zaa BK421.out 2;have hfz39_3:=zaa BK421.out 3;have hfz39_4:=zaa BK421.out 4;have hfz39_5:=zaa BK421.out 5;have hfz39_6:=zaa BK421.out 6;have hfz39_7:=zaa BK421.out 7;have hfz39_8:=zaa BK421.out 8) | (go_at_call 81;(with_reducible refine (spec_ColOk.calls k a0_4 a0_5 _ _ l0_6 _ _ l0_7 true _ ?side1 ?side2 ?side3 ?side4 A4.out).mono ?_);(case side1=>exact (Kd.C_below HR0_6.out HB.out));(case side2=>exact HC0_6.out);(case side3=>exact (Kd.C_below HR0_7.out HB.out));(case side4=>exact HC0_7.out);rintro e w40 ⟨rfl,hb⟩;replace BK421:=bkZ hb BK421.out;replace HB:=bnZ hb;(try clear hb);(try clear hb2);(try clear hk);(try clear hi);have hcz41_0:w40.cell? ⟨gb421,0,none⟩=some (.int .i64 a0_0):=(zab BK421.out 0).trans rfl;have hcz41_1:w40.cell? ⟨gb421,1,none⟩=some (.int .i64 a0_1):=(zab BK421.out 1).trans rfl;have hcz41_2:w40.cell? ⟨gb421,2,none⟩=some (.slice A0_2 l0_2.length c0_2):=(zab BK421.out 2).trans rfl;have hcz41_3:w40.cell? ⟨gb421,3,none⟩=some (.slice A0_3 l0_3.length c0_3):=(zab BK421.out 3).trans rfl;have hcz41_4:w40.cell? ⟨gb421,4,none⟩=some (.int .i64 a0_4):=(zab BK421.out 4).trans rfl;have hcz41_5:w40.cell? ⟨gb421,5,none⟩=some (.int .i64 a0_5):=(zab BK421.out 5).trans rfl;have hcz41_6:w40.cell? ⟨gb421,6,none⟩=some (.slice A0_6 l0_6.length c0_6):=(zab BK421.out 6).trans rfl;have hcz41_7:w40.cell? ⟨gb421,7,none⟩=some (.slice A0_7 l0_7.length c0_7):=(zab BK421.out 7).trans rfl;have hcz41_8:w40.cell? ⟨gb421,8,none⟩=some (.int .i64 a0_8):=(zab BK421.out 8).trans rfl;have hfz41_0:=zaa BK421.out 0;have hfz41_1:=zaa BK421.out 1;have hfz41_2:=zaa BK421.out 2;have hfz41_3:=zaa BK421.out 3;have hfz41_4:=zaa BK421.out 4;have hfz41_5:=zaa BK421.out 5;have hfz41_6:=zaa BK421.out 6;have hfz41_7:=zaa BK421.out 7;have hfz41_8:=zaa BK421.out 8))
    go_ret
    exact ⟨rfl,by repeat (with_reducible first | exact HB.out | apply zae | apply zac | apply zaf | refine zag ?_ GE421.out)⟩
  ·replace c5:=Bool.eq_false_iff.mpr c5
   subst c5
   rw [if_neg (show ¬ (false=true) by decide)] at H
   obtain rfl:=Option.some.inj H
   go_enter Tru.func56,Try.ntmps56
   go_wp2_with (first | ((with_reducible refine zam (N:=1) rfl ?_);refine boxZ (N:=1) (cs:=#[.int .i64 a0_0,.int .i64 a0_1,.slice A0_2 l0_2.length c0_2,.slice A0_3 l0_3.length c0_3,.int .i64 a0_4,.int .i64 a0_5,.slice A0_6 l0_6.length c0_6,.slice A0_7 l0_7.length c0_7,.int .i64 a0_8]) (t:=38) ?_;intro gb421 hg w42 hbox hb;replace BK421:=Aside0.mk (hbox);replace GW421:=gwZ hg;replace GE421:=gwZ hg;replace HB:=bnZ hb;clear hb hbox hg;have hcz43_0:w42.cell? ⟨gb421,0,none⟩=some (.int .i64 a0_0):=(zab BK421.out 0).trans rfl;have hcz43_1:w42.cell? ⟨gb421,1,none⟩=some (.int .i64 a0_1):=(zab BK421.out 1).trans rfl;have hcz43_2:w42.cell? ⟨gb421,2,none⟩=some (.slice A0_2 l0_2.length c0_2):=(zab BK421.out 2).trans rfl;have hcz43_3:w42.cell? ⟨gb421,3,none⟩=some (.slice A0_3 l0_3.length c0_3):=(zab BK421.out 3).trans rfl;have hcz43_4:w42.cell? ⟨gb421,4,none⟩=some (.int .i64 a0_4):=(zab BK421.out 4).trans rfl;have hcz43_5:w42.cell? ⟨gb421,5,none⟩=some (.int .i64 a0_5):=(zab BK421.out 5).trans rfl;have hcz43_6:w42.cell? ⟨gb421,6,none⟩=some (.slice A0_6 l0_6.length c0_6):=(zab BK421.out 6).trans rfl;have hcz43_7:w42.cell? ⟨gb421,7,none⟩=some (.slice A0_7 l0_7.length c0_7):=(zab BK421.out 7).trans rfl;have hcz43_8:w42.cell? ⟨gb421,8,none⟩=some (.int .i64 a0_8):=(zab BK421.out 8).trans rfl;have hfz43_0:=zaa BK421.out 0;have hfz43_1:=zaa BK421.out 1;have hfz43_2:=zaa BK421.out 2;have hfz43_3:=zaa BK421.out 3;have hfz43_4:=zaa BK421.out 4;have hfz43_5:=zaa BK421.out 5;have hfz43_6:=zaa BK421.out 6;have hfz43_7:=zaa BK421.out 7;have hfz43_8:=zaa BK421.out 8) | ((with_reducible refine zah (f:=81) rfl ?_);refine goesZ (some 5) Tru.func81 #[.agg #[.int .i64 a0_0,.int .i64 a0_1,.slice A0_2 l0_2.length c0_2,.slice A0_3 l0_3.length c0_3]] ?_;(with_reducible refine (spec_ColOk.calls k a0_0 a0_1 _ _ l0_2 _ _ l0_3 true _ ?side1 ?side2 ?side3 ?side4 A2.out).mono ?_);(case side1=>exact (Kd.C_below HR0_2.out HB.out));(case side2=>exact HC0_2.out);(case side3=>exact (Kd.C_below HR0_3.out HB.out));(case side4=>exact HC0_3.out);rintro e w44 ⟨rfl,hb⟩;refine ⟨_,rfl,?_⟩;replace BK421:=bkZ hb BK421.out;replace HB:=bnZ hb;(try clear hb);(try clear hb2);(try clear hk);(try clear hi);have hcz45_0:w44.cell? ⟨gb421,0,none⟩=some (.int .i64 a0_0):=(zab BK421.out 0).trans rfl;have hcz45_1:w44.cell? ⟨gb421,1,none⟩=some (.int .i64 a0_1):=(zab BK421.out 1).trans rfl;have hcz45_2:w44.cell? ⟨gb421,2,none⟩=some (.slice A0_2 l0_2.length c0_2):=(zab BK421.out 2).trans rfl;have hcz45_3:w44.cell? ⟨gb421,3,none⟩=some (.slice A0_3 l0_3.length c0_3):=(zab BK421.out 3).trans rfl;have hcz45_4:w44.cell? ⟨gb421,4,none⟩=some (.int .i64 a0_4):=(zab BK421.out 4).trans rfl;have hcz45_5:w44.cell? ⟨gb421,5,none⟩=some (.int .i64 a0_5):=(zab BK421.out 5).trans rfl;have hcz45_6:w44.cell? ⟨gb421,6,none⟩=some (.slice A0_6 l0_6.length c0_6):=(zab BK421.out 6).trans rfl;have hcz45_7:w44.cell? ⟨gb421,7,none⟩=some (.slice A0_7 l0_7.length c0_7):=(zab BK421.out 7).trans rfl;have hcz45_8:w44.cell? ⟨gb421,8,none⟩=some (.int .i64 a0_8):=(zab BK421.out 8).trans rfl;have hfz45_0:=zaa BK421.out 0;have hfz45_1:=zaa BK421.out 1;have hfz45_2:=zaa BK421.out 2;have hfz45_3:=zaa BK421.out 3;have hfz45_4:=zaa BK421.out 4;have hfz45_5:=zaa BK421.out 5;have hfz45_6:=zaa BK421.out 6;have hfz45_7:=zaa BK421.out 7;have hfz45_8:=zaa BK421.out 8) | (go_at_call 81;(with_reducible refine (spec_ColOk.calls k a0_4 a0_5 _ _ l0_6 _ _ l0_7 false _ ?side1 ?side2 ?side3 ?side4 A4.out).mono ?_);(case side1=>exact (Kd.C_below HR0_6.out HB.out));(case side2=>exact HC0_6.out);(case side3=>exact (Kd.C_below HR0_7.out HB.out));(case side4=>exact HC0_7.out);rintro e w46 ⟨rfl,hb⟩;replace BK421:=bkZ hb BK421.out;replace HB:=bnZ hb;clear hb))
   go_ret
   exact ⟨rfl,by repeat (with_reducible first | exact HB.out | apply zae | apply zac | apply zaf | refine zag ?_ GE421.out)⟩
 ·replace c3:=Bool.eq_false_iff.mpr c3
  subst c3
  rw [if_neg (show ¬ (false=true) by decide)] at H
  obtain rfl:=Option.some.inj H
  go_enter Tru.func56,Try.ntmps56
  go_wp2_with (first | ((with_reducible refine zam (N:=1) rfl ?_);refine boxZ (N:=1) (cs:=#[.int .i64 a0_0,.int .i64 a0_1,.slice A0_2 l0_2.length c0_2,.slice A0_3 l0_3.length c0_3,.int .i64 a0_4,.int .i64 a0_5,.slice A0_6 l0_6.length c0_6,.slice A0_7 l0_7.length c0_7,.int .i64 a0_8]) (t:=38) ?_;intro gb421 hg w47 hbox hb;replace BK421:=Aside0.mk (hbox);replace GW421:=gwZ hg;replace GE421:=gwZ hg;replace HB:=bnZ hb;clear hb hbox hg;have hcz48_0:w47.cell? ⟨gb421,0,none⟩=some (.int .i64 a0_0):=(zab BK421.out 0).trans rfl;have hcz48_1:w47.cell? ⟨gb421,1,none⟩=some (.int .i64 a0_1):=(zab BK421.out 1).trans rfl;have hcz48_2:w47.cell? ⟨gb421,2,none⟩=some (.slice A0_2 l0_2.length c0_2):=(zab BK421.out 2).trans rfl;have hcz48_3:w47.cell? ⟨gb421,3,none⟩=some (.slice A0_3 l0_3.length c0_3):=(zab BK421.out 3).trans rfl;have hcz48_4:w47.cell? ⟨gb421,4,none⟩=some (.int .i64 a0_4):=(zab BK421.out 4).trans rfl;have hcz48_5:w47.cell? ⟨gb421,5,none⟩=some (.int .i64 a0_5):=(zab BK421.out 5).trans rfl;have hcz48_6:w47.cell? ⟨gb421,6,none⟩=some (.slice A0_6 l0_6.length c0_6):=(zab BK421.out 6).trans rfl;have hcz48_7:w47.cell? ⟨gb421,7,none⟩=some (.slice A0_7 l0_7.length c0_7):=(zab BK421.out 7).trans rfl;have hcz48_8:w47.cell? ⟨gb421,8,none⟩=some (.int .i64 a0_8):=(zab BK421.out 8).trans rfl;have hfz48_0:=zaa BK421.out 0;have hfz48_1:=zaa BK421.out 1;have hfz48_2:=zaa BK421.out 2;have hfz48_3:=zaa BK421.out 3;have hfz48_4:=zaa BK421.out 4;have hfz48_5:=zaa BK421.out 5;have hfz48_6:=zaa BK421.out 6;have hfz48_7:=zaa BK421.out 7;have hfz48_8:=zaa BK421.out 8) | ((with_reducible refine zah (f:=81) rfl ?_);refine goesZ (some 5) Tru.func81 #[.agg #[.int .i64 a0_0,.int .i64 a0_1,.slice A0_2 l0_2.length c0_2,.slice A0_3 l0_3.length c0_3]] ?_;(with_reducible refine (spec_ColOk.calls k a0_0 a0_1 _ _ l0_2 _ _ l0_3 false _ ?side1 ?side2 ?side3 ?side4 A2.out).mono ?_);(case side1=>exact (Kd.C_below HR0_2.out HB.out));(case side2=>exact HC0_2.out);(case side3=>exact (Kd.C_below HR0_3.out HB.out));(case side4=>exact HC0_3.out);rintro e w49 ⟨rfl,hb⟩;refine ⟨_,rfl,?_⟩;replace BK421:=bkZ hb BK421.out;replace HB:=bnZ hb;clear hb))
  go_ret
  exact ⟨rfl,by repeat (with_reducible first | exact HB.out | apply zae | apply zac | apply zaf | refine zag ?_ GE421.out)⟩
def spec_l23Sums.f (k:Nat) (a0_0:Int) (a0_1:Int) (l0_2:List Int) (l0_3:List Int) (a0_4:Int) (a0_5:Int) (l0_6:List Int) (l0_7:List Int) (a0_8:Int):Option (List Int):=(spec_l3Sum.f k l0_2 l0_6).bind fun t427=>(some t427)
set_option maxHeartbeats 8000000 in
set_option maxRecDepth 100000 in
theorem spec_l23Sums.calls (k:Nat) (a0_0:Int) (a0_1:Int) (A0_2:Option Addr) (c0_2:Nat) (l0_2:List Int) (A0_3:Option Addr) (c0_3:Nat) (l0_3:List Int) (a0_4:Int) (a0_5:Int) (A0_6:Option Addr) (c0_6:Nat) (l0_6:List Int) (A0_7:Option Addr) (c0_7:Nat) (l0_7:List Int) (a0_8:Int) (r:List Int) (w:World) (hr0_2:Kd.C (Kd.int .i64) w A0_2 l0_2.length l0_2) (hc0_2:l0_2.length≤c0_2) (hr0_3:Kd.C (Kd.int .i64) w A0_3 l0_3.length l0_3) (hc0_3:l0_3.length≤c0_3) (hr0_6:Kd.C (Kd.int .i64) w A0_6 l0_6.length l0_6) (hc0_6:l0_6.length≤c0_6) (hr0_7:Kd.C (Kd.int .i64) w A0_7 l0_7.length l0_7) (hc0_7:l0_7.length≤c0_7) (h:spec_l23Sums.f k a0_0 a0_1 l0_2 l0_3 a0_4 a0_5 l0_6 l0_7 a0_8=some r) :
  Calls Tru.prog 57 #[.agg #[.int .i64 a0_0,.int .i64 a0_1,.slice A0_2 l0_2.length c0_2,.slice A0_3 l0_3.length c0_3,.int .i64 a0_4,.int .i64 a0_5,.slice A0_6 l0_6.length c0_6,.slice A0_7 l0_7.length c0_7,.int .i64 a0_8]] w fun e w'=>∃ v0_:Value,e = .returned (v0_)∧Kd.R (Kd.int .i64) 3 w' w.heap.size (fun _=>True) v0_ r∧Below w.heap.size w w':=by
 have hu38:=((Tru.und _).trans ((Tru.und _).trans Try.underlying38))
 have HR0_2:=Aside0.mk hr0_2
 have HC0_2:=Aside0.mk hc0_2
 clear hr0_2 hc0_2
 have HR0_3:=Aside0.mk hr0_3
 have HC0_3:=Aside0.mk hc0_3
 clear hr0_3 hc0_3
 have HR0_6:=Aside0.mk hr0_6
 have HC0_6:=Aside0.mk hc0_6
 clear hr0_6 hc0_6
 have HR0_7:=Aside0.mk hr0_7
 have HC0_7:=Aside0.mk hc0_7
 clear hr0_7 hc0_7
 have HB:=Aside0.mk (Below.refl w.heap.size w)
 have H:((spec_l3Sum.f k l0_2 l0_6).bind fun t427=>(some t427))=some r:=h
 clear h
 replace H:=bnd H
 obtain ⟨t427,A2,H⟩:=H
 obtain rfl:=Option.some.inj H
 go_enter Tru.func57,Try.ntmps57
 go_wp2_with (first | ((with_reducible refine zam (N:=1) rfl ?_);refine boxZ (N:=1) (cs:=#[.int .i64 a0_0,.int .i64 a0_1,.slice A0_2 l0_2.length c0_2,.slice A0_3 l0_3.length c0_3,.int .i64 a0_4,.int .i64 a0_5,.slice A0_6 l0_6.length c0_6,.slice A0_7 l0_7.length c0_7,.int .i64 a0_8]) (t:=38) ?_;intro gb426 hg w3 hbox hb;replace BK426:=Aside0.mk (hbox);replace GW426:=gwZ hg;replace GE426:=gwZ hg;replace HB:=bnZ hb;clear hb hbox hg;have hcz4_0:w3.cell? ⟨gb426,0,none⟩=some (.int .i64 a0_0):=(zab BK426.out 0).trans rfl;have hcz4_1:w3.cell? ⟨gb426,1,none⟩=some (.int .i64 a0_1):=(zab BK426.out 1).trans rfl;have hcz4_2:w3.cell? ⟨gb426,2,none⟩=some (.slice A0_2 l0_2.length c0_2):=(zab BK426.out 2).trans rfl;have hcz4_3:w3.cell? ⟨gb426,3,none⟩=some (.slice A0_3 l0_3.length c0_3):=(zab BK426.out 3).trans rfl;have hcz4_4:w3.cell? ⟨gb426,4,none⟩=some (.int .i64 a0_4):=(zab BK426.out 4).trans rfl;have hcz4_5:w3.cell? ⟨gb426,5,none⟩=some (.int .i64 a0_5):=(zab BK426.out 5).trans rfl;have hcz4_6:w3.cell? ⟨gb426,6,none⟩=some (.slice A0_6 l0_6.length c0_6):=(zab BK426.out 6).trans rfl;have hcz4_7:w3.cell? ⟨gb426,7,none⟩=some (.slice A0_7 l0_7.length c0_7):=(zab BK426.out 7).trans rfl;have hcz4_8:w3.cell? ⟨gb426,8,none⟩=some (.int .i64 a0_8):=(zab BK426.out 8).trans rfl;have hfz4_0:=zaa BK426.out 0;have hfz4_1:=zaa BK426.out 1;have hfz4_2:=zaa BK426.out 2;have hfz4_3:=zaa BK426.out 3;have hfz4_4:=zaa BK426.out 4;have hfz4_5:=zaa BK426.out 5;have hfz4_6:=zaa BK426.out 6;have hfz4_7:=zaa BK426.out 7;have hfz4_8:=zaa BK426.out 8) | ((with_reducible refine zah (f:=67) rfl ?_);refine goesZ (some 9) Tru.func67 #[.slice A0_2 l0_2.length c0_2,.slice A0_6 l0_6.length c0_6] ?_;(with_reducible refine (spec_l3Sum.calls k _ _ l0_2 _ _ l0_6 t427 _ ?side1 ?side2 ?side3 ?side4 A2.out).mono ?_);(case side1=>exact (Kd.C_below HR0_2.out HB.out));(case side2=>exact HC0_2.out);(case side3=>exact (Kd.C_below HR0_6.out HB.out));(case side4=>exact HC0_6.out);rintro e w5 ⟨v428,rfl,ho0,hb⟩;refine ⟨_,rfl,?_⟩;replace HO429:=Aside0.mk (Kd.R_lower ho0 bsZ);replace BK426:=bkZ hb BK426.out;replace HB:=bnZ hb;clear hb ho0))
 go_ret
 exact ⟨_,rfl,HO429.out,by repeat (with_reducible first | exact HB.out | apply zae | apply zac | apply zaf | refine zag ?_ GE426.out)⟩
def spec_BatchTell.f (k:Nat) (a0_0:Int) (a0_1:Int) (l0_2:List Int) (l0_3:List Int) (a0_4:Int) (a0_5:Int) (l0_6:List Int) (l0_7:List Int) (a0_8:Int):Option (List Int×Int×Bool):=(spec_BatchOk.f k a0_0 a0_1 l0_2 l0_3 a0_4 a0_5 l0_6 l0_7 a0_8).bind fun t431=>(if t431=true then (if (l0_3.length:Int)<a0_8 then (some ((([]:List Int)),0,false)) else ((spec_l23Sums.f k a0_0 a0_1 l0_2 l0_3 a0_4 a0_5 l0_6 l0_7 a0_8).bind fun t435=>(some (t435,(l0_3.length:Int),true)))) else (some ((([]:List Int)),0,false)))
def spec_BatchTell.T3:Bool×List (List Nat×List Nat):=(true,[([],[]),([0],[0]),([],[]),([2],[2]),([3],[3]),([4],[4]),([1,1,0,1],[1]),([5,6,0,1,2,3,4,5,6],[5]),([7,0,1,2,3,4,5,6,7],[])])
def spec_BatchTell.B3:List Nat:=[0,1,0,4,12,28,3,127,255]
set_option maxRecDepth 100000 in
theorem spec_BatchTell.tab3:rtab .any (opsOf Try.f23 3)=spec_BatchTell.T3:=by kernel_rfl
set_option maxRecDepth 100000 in
theorem spec_BatchTell.bits3:waitsOk spec_BatchTell.T3.2 spec_BatchTell.B3=true:=by kernel_rfl
set_option maxHeartbeats 8000000 in
set_option maxRecDepth 100000 in
theorem spec_BatchTell.calls (k:Nat) (a0_0:Int) (a0_1:Int) (A0_2:Option Addr) (c0_2:Nat) (l0_2:List Int) (A0_3:Option Addr) (c0_3:Nat) (l0_3:List Int) (a0_4:Int) (a0_5:Int) (A0_6:Option Addr) (c0_6:Nat) (l0_6:List Int) (A0_7:Option Addr) (c0_7:Nat) (l0_7:List Int) (a0_8:Int) (r1:List Int) (r2:Int) (r3:Bool) (w:World) (hr0_2:Kd.C (Kd.int .i64) w A0_2 l0_2.length l0_2) (hc0_2:l0_2.length≤c0_2) (hr0_3:Kd.C (Kd.int .i64) w A0_3 l0_3.length l0_3) (hc0_3:l0_3.length≤c0_3) (hr0_6:Kd.C (Kd.int .i64) w A0_6 l0_6.length l0_6) (hc0_6:l0_6.length≤c0_6) (hr0_7:Kd.C (Kd.int .i64) w A0_7 l0_7.length l0_7) (hc0_7:l0_7.length≤c0_7) (h:spec_BatchTell.f k a0_0 a0_1 l0_2 l0_3 a0_4 a0_5 l0_6 l0_7 a0_8=some (r1,r2,r3)) :
  Calls Tru.prog 23 #[.agg #[.int .i64 a0_0,.int .i64 a0_1,.slice A0_2 l0_2.length c0_2,.slice A0_3 l0_3.length c0_3,.int .i64 a0_4,.int .i64 a0_5,.slice A0_6 l0_6.length c0_6,.slice A0_7 l0_7.length c0_7,.int .i64 a0_8]] w fun e w'=>∃ v0_:Value,e = .returned (.tuple #[v0_,.int .i64 r2,.bool r3])∧Kd.R (Kd.int .i64) 3 w' w.heap.size (fun _=>True) v0_ r1∧Below w.heap.size w w':=by
 have hu38:=((Tru.und _).trans ((Tru.und _).trans Try.underlying38))
 have HR0_2:=Aside0.mk hr0_2
 have HC0_2:=Aside0.mk hc0_2
 clear hr0_2 hc0_2
 have HR0_3:=Aside0.mk hr0_3
 have HC0_3:=Aside0.mk hc0_3
 clear hr0_3 hc0_3
 have HR0_6:=Aside0.mk hr0_6
 have HC0_6:=Aside0.mk hc0_6
 clear hr0_6 hc0_6
 have HR0_7:=Aside0.mk hr0_7
 have HC0_7:=Aside0.mk hc0_7
 clear hr0_7 hc0_7
 have HB:=Aside0.mk (Below.refl w.heap.size w)
 have H:=h
 unfold spec_BatchTell.f at H
 clear h
 replace H:=bnd H
 obtain ⟨t431,A2,H⟩:=H
 by_cases c3:t431=true
 ·subst c3
  rw [if_pos rfl] at H
  by_cases c4:(l0_3.length:Int)<a0_8
  ·rw [if_pos c4] at H
   have c4b0:decide ((l0_3.length:Int)<a0_8)=true:=decide_eq_true c4
   clear c4
   obtain ⟨y432,hy432⟩:∃ y_:List Int,y_=(([]:List Int)):=⟨_,rfl⟩
   rw [← hy432] at H
   have Ny432:=Aside0.mk hy432
   clear hy432
   simp only [Option.some.injEq,Prod.mk.injEq] at H
   obtain ⟨rfl,rfl,rfl⟩:=H
   go_enter Tru.func23,Try.ntmps23
   go_wp2_with (first | ((with_reducible refine zam (N:=1) rfl ?_);(try (refine gate_guard (by rfl) ?_;dsimp only));refine boxZ (N:=1) (cs:=#[.int .i64 a0_0,.int .i64 a0_1,.slice A0_2 l0_2.length c0_2,.slice A0_3 l0_3.length c0_3,.int .i64 a0_4,.int .i64 a0_5,.slice A0_6 l0_6.length c0_6,.slice A0_7 l0_7.length c0_7,.int .i64 a0_8]) (t:=38) ?_;intro gb430 hg w5 hbox hb;replace BK430:=Aside0.mk (hbox);replace GW430:=gwZ hg;replace GE430:=gwZ hg;replace HB:=bnZ hb;clear hb hbox hg;have hcz6_0:w5.cell? ⟨gb430,0,none⟩=some (.int .i64 a0_0):=(zab BK430.out 0).trans rfl;have hcz6_1:w5.cell? ⟨gb430,1,none⟩=some (.int .i64 a0_1):=(zab BK430.out 1).trans rfl;have hcz6_2:w5.cell? ⟨gb430,2,none⟩=some (.slice A0_2 l0_2.length c0_2):=(zab BK430.out 2).trans rfl;have hcz6_3:w5.cell? ⟨gb430,3,none⟩=some (.slice A0_3 l0_3.length c0_3):=(zab BK430.out 3).trans rfl;have hcz6_4:w5.cell? ⟨gb430,4,none⟩=some (.int .i64 a0_4):=(zab BK430.out 4).trans rfl;have hcz6_5:w5.cell? ⟨gb430,5,none⟩=some (.int .i64 a0_5):=(zab BK430.out 5).trans rfl;have hcz6_6:w5.cell? ⟨gb430,6,none⟩=some (.slice A0_6 l0_6.length c0_6):=(zab BK430.out 6).trans rfl;have hcz6_7:w5.cell? ⟨gb430,7,none⟩=some (.slice A0_7 l0_7.length c0_7):=(zab BK430.out 7).trans rfl;have hcz6_8:w5.cell? ⟨gb430,8,none⟩=some (.int .i64 a0_8):=(zab BK430.out 8).trans rfl;have hfz6_0:=zaa BK430.out 0;have hfz6_1:=zaa BK430.out 1;have hfz6_2:=zaa BK430.out 2;have hfz6_3:=zaa BK430.out 3;have hfz6_4:=zaa BK430.out 4;have hfz6_5:=zaa BK430.out 5;have hfz6_6:=zaa BK430.out 6;have hfz6_7:=zaa BK430.out 7;have hfz6_8:=zaa BK430.out 8) | ((with_reducible refine zah (f:=56) rfl ?_);refine goesZ (some 6) Tru.func56 #[.agg #[.int .i64 a0_0,.int .i64 a0_1,.slice A0_2 l0_2.length c0_2,.slice A0_3 l0_3.length c0_3,.int .i64 a0_4,.int .i64 a0_5,.slice A0_6 l0_6.length c0_6,.slice A0_7 l0_7.length c0_7,.int .i64 a0_8]] ?_;(with_reducible refine (spec_BatchOk.calls k a0_0 a0_1 _ _ l0_2 _ _ l0_3 a0_4 a0_5 _ _ l0_6 _ _ l0_7 a0_8 true _ ?side1 ?side2 ?side3 ?side4 ?side5 ?side6 ?side7 ?side8 A2.out).mono ?_);(case side1=>exact (Kd.C_below HR0_2.out HB.out));(case side2=>exact HC0_2.out);(case side3=>exact (Kd.C_below HR0_3.out HB.out));(case side4=>exact HC0_3.out);(case side5=>exact (Kd.C_below HR0_6.out HB.out));(case side6=>exact HC0_6.out);(case side7=>exact (Kd.C_below HR0_7.out HB.out));(case side8=>exact HC0_7.out);rintro e w7 ⟨rfl,hb⟩;refine ⟨_,rfl,?_⟩;replace BK430:=bkZ hb BK430.out;replace HB:=bnZ hb;(try clear hb);(try clear hb2);(try clear hk);(try clear hi);have hcz8_0:w7.cell? ⟨gb430,0,none⟩=some (.int .i64 a0_0):=(zab BK430.out 0).trans rfl;have hcz8_1:w7.cell? ⟨gb430,1,none⟩=some (.int .i64 a0_1):=(zab BK430.out 1).trans rfl;have hcz8_2:w7.cell? ⟨gb430,2,none⟩=some (.slice A0_2 l0_2.length c0_2):=(zab BK430.out 2).trans rfl;have hcz8_3:w7.cell? ⟨gb430,3,none⟩=some (.slice A0_3 l0_3.length c0_3):=(zab BK430.out 3).trans rfl;have hcz8_4:w7.cell? ⟨gb430,4,none⟩=some (.int .i64 a0_4):=(zab BK430.out 4).trans rfl;have hcz8_5:w7.cell? ⟨gb430,5,none⟩=some (.int .i64 a0_5):=(zab BK430.out 5).trans rfl;have hcz8_6:w7.cell? ⟨gb430,6,none⟩=some (.slice A0_6 l0_6.length c0_6):=(zab BK430.out 6).trans rfl;have hcz8_7:w7.cell? ⟨gb430,7,none⟩=some (.slice A0_7 l0_7.length c0_7):=(zab BK430.out 7).trans rfl;have hcz8_8:w7.cell? ⟨gb430,8,none⟩=some (.int .i64 a0_8):=(zab BK430.out 8).trans rfl;have hfz8_0:=zaa BK430.out 0;have hfz8_1:=zaa BK430.out 1;have hfz8_2:=zaa BK430.out 2;have hfz8_3:=zaa BK430.out 3;have hfz8_4:=zaa BK430.out 4;have hfz8_5:=zaa BK430.out 5;have hfz8_6:=zaa BK430.out 6;have hfz8_7:=zaa BK430.out 7;have hfz8_8:=zaa BK430.out 8) | ((with_reducible refine zam (N:=17) rfl ?_);(try (refine gate_guard (by rfl) ?_;dsimp only));refine Kd.R_lit (Kd.int .i64) _ 3 ?hg (N:=17) ?hd (xs:=([]:List Int)) (inner:=[]) (ok:=fun _=>True) (okp:=fun _=>True) ?hr ?hp (fun _ hk=>hk) trivial (Below.refl _ _) (Nat.le_refl _) (by simp) ?_;(case hd=>rfl);(case hg=>rfl);(case hr=>first | (go_simp;done) | (go_simp;rfl));(case hp=>exact (Reps.none _ _));intro v433 w9 ho10 hb hg_ hnew_;clear hg_ hnew_;(first | rw [← Ny432.out] at ho10 | (simp only [Int.reduceToNat] at ho10;rw [← Ny432.out] at ho10));replace HO434:=Aside0.mk (Kd.R_lower ho10 bsZ);replace BK430:=bkZ hb BK430.out;replace HB:=bnZ hb;clear hb ho10))
   go_ret3
   exact ⟨_,rfl,HO434.out,by repeat (with_reducible first | exact HB.out | apply zae | apply zac | apply zaf | refine zag ?_ GE430.out)⟩
  ·rw [if_neg c4] at H
   have c4b0:decide ((l0_3.length:Int)<a0_8)=false:=decide_eq_false c4
   clear c4
   replace H:=bnd H
   obtain ⟨t435,A11,H⟩:=H
   simp only [Option.some.injEq,Prod.mk.injEq] at H
   obtain ⟨rfl,rfl,rfl⟩:=H
   go_enter Tru.func23,Try.ntmps23
   try go_wp2_with (first | ((with_reducible refine zam (N:=1) rfl ?_);(try (refine gate_guard (by rfl) ?_;dsimp only));refine boxZ (N:=1) (cs:=#[.int .i64 a0_0,.int .i64 a0_1,.slice A0_2 l0_2.length c0_2,.slice A0_3 l0_3.length c0_3,.int .i64 a0_4,.int .i64 a0_5,.slice A0_6 l0_6.length c0_6,.slice A0_7 l0_7.length c0_7,.int .i64 a0_8]) (t:=38) ?_;intro gb430 hg w12 hbox hb;replace BK430:=Aside0.mk (hbox);replace GW430:=gwZ hg;replace GE430:=gwZ hg;replace HB:=bnZ hb;clear hb hbox hg;have hcz13_0:w12.cell? ⟨gb430,0,none⟩=some (.int .i64 a0_0):=(zab BK430.out 0).trans rfl;have hcz13_1:w12.cell? ⟨gb430,1,none⟩=some (.int .i64 a0_1):=(zab BK430.out 1).trans rfl;have hcz13_2:w12.cell? ⟨gb430,2,none⟩=some (.slice A0_2 l0_2.length c0_2):=(zab BK430.out 2).trans rfl;have hcz13_3:w12.cell? ⟨gb430,3,none⟩=some (.slice A0_3 l0_3.length c0_3):=(zab BK430.out 3).trans rfl;have hcz13_4:w12.cell? ⟨gb430,4,none⟩=some (.int .i64 a0_4):=(zab BK430.out 4).trans rfl;have hcz13_5:w12.cell? ⟨gb430,5,none⟩=some (.int .i64 a0_5):=(zab BK430.out 5).trans rfl;have hcz13_6:w12.cell? ⟨gb430,6,none⟩=some (.slice A0_6 l0_6.length c0_6):=(zab BK430.out 6).trans rfl;have hcz13_7:w12.cell? ⟨gb430,7,none⟩=some (.slice A0_7 l0_7.length c0_7):=(zab BK430.out 7).trans rfl;have hcz13_8:w12.cell? ⟨gb430,8,none⟩=some (.int .i64 a0_8):=(zab BK430.out 8).trans rfl;have hfz13_0:=zaa BK430.out 0;have hfz13_1:=zaa BK430.out 1;have hfz13_2:=zaa BK430.out 2;have hfz13_3:=zaa BK430.out 3;have hfz13_4:=zaa BK430.out 4;have hfz13_5:=zaa BK430.out 5;have hfz13_6:=zaa BK430.out 6;have hfz13_7:=zaa BK430.out 7;have hfz13_8:=zaa BK430.out 8) | ((with_reducible refine zah (f:=56) rfl ?_);refine goesZ (some 6) Tru.func56 #[.agg #[.int .i64 a0_0,.int .i64 a0_1,.slice A0_2 l0_2.length c0_2,.slice A0_3 l0_3.length c0_3,.int .i64 a0_4,.int .i64 a0_5,.slice A0_6 l0_6.length c0_6,.slice A0_7 l0_7.length c0_7,.int .i64 a0_8]] ?_;(with_reducible refine (spec_BatchOk.calls k a0_0 a0_1 _ _ l0_2 _ _ l0_3 a0_4 a0_5 _ _ l0_6 _ _ l0_7 a0_8 true _ ?side1 ?side2 ?side3 ?side4 ?side5 ?side6 ?side7 ?side8 A2.out).mono ?_);(case side1=>exact (Kd.C_below HR0_2.out HB.out));(case side2=>exact HC0_2.out);(case side3=>exact (Kd.C_below HR0_3.out HB.out));(case side4=>exact HC0_3.out);(case side5=>exact (Kd.C_below HR0_6.out HB.out));(case side6=>exact HC0_6.out);(case side7=>exact (Kd.C_below HR0_7.out HB.out));(case side8=>exact HC0_7.out);rintro e w14 ⟨rfl,hb⟩;refine ⟨_,rfl,?_⟩;replace BK430:=bkZ hb BK430.out;replace HB:=bnZ hb;(try clear hb);(try clear hb2);(try clear hk);(try clear hi);have hcz15_0:w14.cell? ⟨gb430,0,none⟩=some (.int .i64 a0_0):=(zab BK430.out 0).trans rfl;have hcz15_1:w14.cell? ⟨gb430,1,none⟩=some (.int .i64 a0_1):=(zab BK430.out 1).trans rfl;have hcz15_2:w14.cell? ⟨gb430,2,none⟩=some (.slice A0_2 l0_2.length c0_2):=(zab BK430.out 2).trans rfl;have hcz15_3:w14.cell? ⟨gb430,3,none⟩=some (.slice A0_3 l0_3.length c0_3):=(zab BK430.out 3).trans rfl;have hcz15_4:w14.cell? ⟨gb430,4,none⟩=some (.int .i64 a0_4):=(zab BK430.out 4).trans rfl;have hcz15_5:w14.cell? ⟨gb430,5,none⟩=some (.int .i64 a0_5):=(zab BK430.out 5).trans rfl;have hcz15_6:w14.cell? ⟨gb430,6,none⟩=some (.slice A0_6 l0_6.length c0_6):=(zab BK430.out 6).trans rfl;have hcz15_7:w14.cell? ⟨gb430,7,none⟩=some (.slice A0_7 l0_7.length c0_7):=(zab BK430.out 7).trans rfl;have hcz15_8:w14.cell? ⟨gb430,8,none⟩=some (.int .i64 a0_8):=(zab BK430.out 8).trans rfl;have hfz15_0:=zaa BK430.out 0;have hfz15_1:=zaa BK430.out 1;have hfz15_2:=zaa BK430.out 2;have hfz15_3:=zaa BK430.out 3;have hfz15_4:=zaa BK430.out 4;have hfz15_5:=zaa BK430.out 5;have hfz15_6:=zaa BK430.out 6;have hfz15_7:=zaa BK430.out 7;have hfz15_8:=zaa BK430.out 8))
   replace BK430:=Aside0.mk (zak BK430.out)
   replace HB:=Aside0.mk (zaf HB.out)
   refine start_ (n:=9) (S:=fun w'=>w'.cell? ⟨gb430,0,none⟩=some (.int .i64 a0_0)∧w'.cell? ⟨gb430,1,none⟩=some (.int .i64 a0_1)∧w'.cell? ⟨gb430,2,none⟩=some (.slice A0_2 l0_2.length c0_2)∧w'.cell? ⟨gb430,3,none⟩=some (.slice A0_3 l0_3.length c0_3)∧w'.cell? ⟨gb430,4,none⟩=some (.int .i64 a0_4)∧w'.cell? ⟨gb430,5,none⟩=some (.int .i64 a0_5)∧w'.cell? ⟨gb430,6,none⟩=some (.slice A0_6 l0_6.length c0_6)∧w'.cell? ⟨gb430,7,none⟩=some (.slice A0_7 l0_7.length c0_7)∧w'.cell? ⟨gb430,8,none⟩=some (.int .i64 a0_8)) (ds:=[]) (bs 9 0) (by kernel_rfl) rfl rfl ⟨(zab BK430.out 0).trans rfl,(zab BK430.out 1).trans rfl,(zab BK430.out 2).trans rfl,(zab BK430.out 3).trans rfl,(zab BK430.out 4).trans rfl,(zab BK430.out 5).trans rfl,(zab BK430.out 6).trans rfl,(zab BK430.out 7).trans rfl,(zab BK430.out 8).trans rfl⟩ (fun hHeld=>?_);refine with_tabW spec_BatchTell.tab3 spec_BatchTell.bits3 (fun HT_ HW_=>?_)
   generalize w14.drew=w16 at BK430 HB hHeld ⊢
   refine pZ 2 (some 20) (bs 9 4) rfl rfl (zav HT_.out (by kernel_rfl)) ?_
   refine pZ 3 (some 21) (bs 9 12) rfl rfl (zav HT_.out (by kernel_rfl)) ?_
   refine tZ 0 (some 18) (bs 9 13) rfl rfl (take_ofW HT_.out HW_.out (by kernel_rfl)) hHeld (by rintro w' ⟨s0,s1,s2,s3,s4,s5,s6,s7,s8⟩;go_simp;with_reducible rfl) ?_
   refine tZ 4 (some 22) (bs 9 29) rfl rfl (take_ofW HT_.out HW_.out (by kernel_rfl)) hHeld (by rintro w' ⟨s0,s1,s2,s3,s4,s5,s6,s7,s8⟩;go_simp;with_reducible rfl) ?_
   refine pZ 5 (some 23) (bs 9 61) rfl rfl (zav HT_.out (by kernel_rfl)) ?_
   refine one_ (i:=1) (N:=some 19) (bs 9 63) rfl rfl (one_of HT_.out (by kernel_rfl)) (by decide) (fun K hK=>?_)
   refine goes_ Tru.func57 (by kernel_rfl) rfl #[.agg #[.int .i64 a0_0,.int .i64 a0_1,.slice A0_2 l0_2.length c0_2,.slice A0_3 l0_3.length c0_3,.int .i64 a0_4,.int .i64 a0_5,.slice A0_6 l0_6.length c0_6,.slice A0_7 l0_7.length c0_7,.int .i64 a0_8]] (by rfl) rfl rfl (by (try simp only [List.map_toArray,List.map_cons,List.map_nil]);first | done | rfl | (simp only [List.length_drop,List.length_take];rfl)) ?_
   with_reducible refine (spec_l23Sums.calls k a0_0 a0_1 _ _ l0_2 _ _ l0_3 a0_4 a0_5 _ _ l0_6 _ _ l0_7 a0_8 t435 _ ?side1 ?side2 ?side3 ?side4 ?side5 ?side6 ?side7 ?side8 A11.out).mono ?_
   (case side1=>exact (Kd.C_below HR0_2.out HB.out))
   (case side2=>exact HC0_2.out)
   (case side3=>exact (Kd.C_below HR0_3.out HB.out))
   (case side4=>exact HC0_3.out)
   (case side5=>exact (Kd.C_below HR0_6.out HB.out))
   (case side6=>exact HC0_6.out)
   (case side7=>exact (Kd.C_below HR0_7.out HB.out))
   (case side8=>exact HC0_7.out)
   rintro e w17 ⟨v436,rfl,ho0,hb⟩
   refine ⟨_,rfl,?_⟩
   replace HO437:=Aside0.mk (Kd.R_lower ho0 bsZ)
   replace BK430:=bkZ hb BK430.out
   replace HB:=bnZ hb
   (try clear hb)
   (try clear hb2)
   (try clear hk)
   (try clear hi)
   (try clear ho0)
   refine hK.out _ _ ⟨(zab BK430.out 0).trans rfl,(zab BK430.out 1).trans rfl,(zab BK430.out 2).trans rfl,(zab BK430.out 3).trans rfl,(zab BK430.out 4).trans rfl,(zab BK430.out 5).trans rfl,(zab BK430.out 6).trans rfl,(zab BK430.out 7).trans rfl,(zab BK430.out 8).trans rfl⟩ (fun hHeld=>?_)
   clear hK K
   refine norm_ (a':=?_) ?_ ?_
   rotate_left
   ·show Act.put _ (some 19) _=_
    simp only [Act.put,List.setIfInBounds_toArray,List.set_cons_zero,List.set_cons_succ,i64_w,i32_w]
    rfl
   refine pZ 6 (some 2) (bs 9 127) rfl rfl (zav HT_.out (by kernel_rfl)) ?_
   refine pZ 7 (some 3) (bs 9 255) rfl rfl (zav HT_.out (by kernel_rfl)) ?_
   refine pZ 8 (some 4) (bs 9 511) rfl rfl (zav HT_.out (by kernel_rfl)) ?_
   refine done_ (done_of HT_.out (by kernel_rfl)) ?_
   try go_wp2
   go_ret3
   exact ⟨_,rfl,HO437.out,by repeat (with_reducible first | exact HB.out | apply zae | apply zac | apply zaf | refine zag ?_ GE430.out)⟩
 ·replace c3:=Bool.eq_false_iff.mpr c3
  subst c3
  rw [if_neg (show ¬ (false=true) by decide)] at H
  obtain ⟨y438,hy438⟩:∃ y_:List Int,y_=(([]:List Int)):=⟨_,rfl⟩
  rw [← hy438] at H
  have Ny438:=Aside0.mk hy438
  clear hy438
  simp only [Option.some.injEq,Prod.mk.injEq] at H
  obtain ⟨rfl,rfl,rfl⟩:=H
  go_enter Tru.func23,Try.ntmps23
  go_wp2_with (first | ((with_reducible refine zam (N:=1) rfl ?_);(try (refine gate_guard (by rfl) ?_;dsimp only));refine boxZ (N:=1) (cs:=#[.int .i64 a0_0,.int .i64 a0_1,.slice A0_2 l0_2.length c0_2,.slice A0_3 l0_3.length c0_3,.int .i64 a0_4,.int .i64 a0_5,.slice A0_6 l0_6.length c0_6,.slice A0_7 l0_7.length c0_7,.int .i64 a0_8]) (t:=38) ?_;intro gb430 hg w18 hbox hb;replace BK430:=Aside0.mk (hbox);replace GW430:=gwZ hg;replace GE430:=gwZ hg;replace HB:=bnZ hb;clear hb hbox hg;have hcz19_0:w18.cell? ⟨gb430,0,none⟩=some (.int .i64 a0_0):=(zab BK430.out 0).trans rfl;have hcz19_1:w18.cell? ⟨gb430,1,none⟩=some (.int .i64 a0_1):=(zab BK430.out 1).trans rfl;have hcz19_2:w18.cell? ⟨gb430,2,none⟩=some (.slice A0_2 l0_2.length c0_2):=(zab BK430.out 2).trans rfl;have hcz19_3:w18.cell? ⟨gb430,3,none⟩=some (.slice A0_3 l0_3.length c0_3):=(zab BK430.out 3).trans rfl;have hcz19_4:w18.cell? ⟨gb430,4,none⟩=some (.int .i64 a0_4):=(zab BK430.out 4).trans rfl;have hcz19_5:w18.cell? ⟨gb430,5,none⟩=some (.int .i64 a0_5):=(zab BK430.out 5).trans rfl;have hcz19_6:w18.cell? ⟨gb430,6,none⟩=some (.slice A0_6 l0_6.length c0_6):=(zab BK430.out 6).trans rfl;have hcz19_7:w18.cell? ⟨gb430,7,none⟩=some (.slice A0_7 l0_7.length c0_7):=(zab BK430.out 7).trans rfl;have hcz19_8:w18.cell? ⟨gb430,8,none⟩=some (.int .i64 a0_8):=(zab BK430.out 8).trans rfl;have hfz19_0:=zaa BK430.out 0;have hfz19_1:=zaa BK430.out 1;have hfz19_2:=zaa BK430.out 2;have hfz19_3:=zaa BK430.out 3;have hfz19_4:=zaa BK430.out 4;have hfz19_5:=zaa BK430.out 5;have hfz19_6:=zaa BK430.out 6;have hfz19_7:=zaa BK430.out 7;have hfz19_8:=zaa BK430.out 8) | ((with_reducible refine zah (f:=56) rfl ?_);refine goesZ (some 6) Tru.func56 #[.agg #[.int .i64 a0_0,.int .i64 a0_1,.slice A0_2 l0_2.length c0_2,.slice A0_3 l0_3.length c0_3,.int .i64 a0_4,.int .i64 a0_5,.slice A0_6 l0_6.length c0_6,.slice A0_7 l0_7.length c0_7,.int .i64 a0_8]] ?_;(with_reducible refine (spec_BatchOk.calls k a0_0 a0_1 _ _ l0_2 _ _ l0_3 a0_4 a0_5 _ _ l0_6 _ _ l0_7 a0_8 false _ ?side1 ?side2 ?side3 ?side4 ?side5 ?side6 ?side7 ?side8 A2.out).mono ?_);(case side1=>exact (Kd.C_below HR0_2.out HB.out));(case side2=>exact HC0_2.out);(case side3=>exact (Kd.C_below HR0_3.out HB.out));(case side4=>exact HC0_3.out);(case side5=>exact (Kd.C_below HR0_6.out HB.out));(case side6=>exact HC0_6.out);(case side7=>exact (Kd.C_below HR0_7.out HB.out));(case side8=>exact HC0_7.out);rintro e w20 ⟨rfl,hb⟩;refine ⟨_,rfl,?_⟩;replace BK430:=bkZ hb BK430.out;replace HB:=bnZ hb;clear hb) | ((with_reducible refine zam (N:=17) rfl ?_);(try (refine gate_guard (by rfl) ?_;dsimp only));refine Kd.R_lit (Kd.int .i64) _ 3 ?hg (N:=17) ?hd (xs:=([]:List Int)) (inner:=[]) (ok:=fun _=>True) (okp:=fun _=>True) ?hr ?hp (fun _ hk=>hk) trivial (Below.refl _ _) (Nat.le_refl _) (by simp) ?_;(case hd=>rfl);(case hg=>rfl);(case hr=>first | (go_simp;done) | (go_simp;rfl));(case hp=>exact (Reps.none _ _));intro v439 w21 ho22 hb hg_ hnew_;clear hg_ hnew_;(first | rw [← Ny438.out] at ho22 | (simp only [Int.reduceToNat] at ho22;rw [← Ny438.out] at ho22));replace HO440:=Aside0.mk (Kd.R_lower ho22 bsZ);replace BK430:=bkZ hb BK430.out;replace HB:=bnZ hb;clear hb ho22))
  go_ret3
  exact ⟨_,rfl,HO440.out,by repeat (with_reducible first | exact HB.out | apply zae | apply zac | apply zaf | refine zag ?_ GE430.out)⟩
def laws_toIntS.l0:Nat→List Int→List Int→Int→Option (List Int)
 | 0,_,_,_=>none
 | k+1,x0,x3,x4=>if x4<(x0.length:Int) then (if 0≤x4 then (if x4<(x3.length:Int) then (laws_toIntS.l0 k x0 (x3.set (x4:Int).toNat (rd x0 x4)) (wrap64 (x4+1))) else (none)) else (none)) else (some x3)
def laws_toIntS.f (k:Nat) (l0:List Int):Option (List Int):=if 0≤(l0.length:Int) then (if ((l0.length:Int):Int).toNat≤35184372088832 then (laws_toIntS.l0 k l0 (List.replicate ((l0.length:Int):Int).toNat 0) 0) else (none)) else (none)
set_option maxHeartbeats 8000000 in
set_option maxRecDepth 100000 in
theorem laws_toIntS.calls (k:Nat) (A0:Option Addr) (c0:Nat) (l0:List Int) (r:List Int) (w:World) (hr0:Kd.C (Kd.int .i64) w A0 l0.length l0) (hc0:l0.length≤c0) (h:laws_toIntS.f k l0=some r) :
  Calls Tru.prog 83 #[.slice A0 l0.length c0] w fun e w'=>∃ v0_:Value,e = .returned (v0_)∧Kd.R (Kd.int .i64) 3 w' w.heap.size (fun _=>True) v0_ r∧Below w.heap.size w w':=by
 have HR0:=Aside0.mk hr0
 have HC0:=Aside0.mk hc0
 clear hr0 hc0
 have HB:=Aside0.mk (Below.refl w.heap.size w)
 have H:=h
 unfold laws_toIntS.f at H
 clear h
 by_cases c2:0≤(l0.length:Int)
 ·rw [if_pos c2] at H
  have c2b0:=eq_true c2
  have c2b1:decide (0≤(l0.length:Int))=true:=decide_eq_true c2
  clear c2
  by_cases c3:((l0.length:Int):Int).toNat≤35184372088832
  ·rw [if_pos c3] at H
   have c3b0:=eq_true c3
   have c3b1:decide (((l0.length:Int):Int).toNat≤35184372088832)=true:=decide_eq_true c3
   clear c3
   obtain ⟨y441,hy441⟩:∃ y_:List Int,y_=(List.replicate ((l0.length:Int):Int).toNat 0):=⟨_,rfl⟩
   rw [← hy441] at H
   have Ny441:=Aside0.mk hy441
   clear hy441
   have H':=Aside0.mk H
   clear H
   go_enter Tru.func83,Try.ntmps83
   go_wp2_with (first | ((with_reducible refine zam (N:=7) rfl ?_);refine Kd.R_make (Kd.int .i64) _ 3 rfl (N:=7) rfl 23 _ _ rfl (l0.length:Int) rfl rfl ((Tru.und _).trans ((Tru.und _).trans Try.underlying23)) (.int .i64 0) 8 info3 rfl (by decide) (by omega) 0 (ok:=fun _=>True) (okp:=fun _=>True) rfl (fun _ hk=>hk) trivial (of_decide_eq_true ‹_›) (Nat.le_trans (Nat.mul_le_mul_right _ (of_decide_eq_true ‹_› : (l0.length:Int).toNat≤35184372088832)) (by omega)) (Below.refl _ _) (Nat.le_refl _) ?_;intro v442 w4 ho5 hb hg_ hnew_;clear hg_ hnew_;(first | rw [← Ny441.out] at ho5 | (simp only [Int.reduceToNat] at ho5;rw [← Ny441.out] at ho5));replace HO443:=Aside0.mk (Kd.R_lower ho5 bsZ);replace HB:=bnZ hb;clear hb ho5))
   go_loopg [4] k (fun kq v4 w'=>∃ (x3_1:List Int) (x4_1:Int),v4 = .int .i64 x4_1∧Aside0 (laws_toIntS.l0 kq l0 x3_1 x4_1=some r)∧Aside0 (kq≤k)∧Aside0 (Kd.R (Kd.int .i64) 3 w' w.heap.size (fun _=>True) v442 x3_1)∧Aside0 (Below w.heap.size w w'))
   case atStart=>exact ⟨(y441),(0),rfl,H',⟨Nat.le_refl _⟩,⟨HO443.out⟩,⟨by repeat (with_reducible first | exact HB.out | apply zae | apply zac | apply zaf)⟩⟩
   case round=>
    clear H'
    try clear c2
    try clear c2b0
    try clear c2b1
    try clear p2
    try clear c3
    try clear c3b0
    try clear c3b1
    obtain ⟨x3_1,x4_1,rfl,HA,HK1,HO_3,HB⟩:=hrel
    cases gk with
    | zero=>exact absurd HA.out (by simp [laws_toIntS.l0])
    | succ k1=>
     have H:=HA.out
     clear HA
     simp only [laws_toIntS.l0] at H
     by_cases c6:x4_1<(l0.length:Int)
     ·rw [if_pos c6] at H
      have c6b0:decide (x4_1<(l0.length:Int))=true:=decide_eq_true c6
      clear c6
      by_cases c7:0≤x4_1
      ·rw [if_pos c7] at H
       have c7b0:decide (0≤x4_1)=true:=decide_eq_true c7
       clear c7
       by_cases c8:x4_1<(x3_1.length:Int)
       ·rw [if_pos c8] at H
        have c8b0:decide (x4_1<(x3_1.length:Int))=true:=decide_eq_true c8
        clear c8
        obtain ⟨y445,hy445⟩:∃ y_:List Int,y_=(x3_1.set (x4_1:Int).toNat (rd l0 x4_1)):=⟨_,rfl⟩
        rw [← hy445] at H
        have Ny445:=Aside0.mk hy445
        clear hy445
        have H':=Aside0.mk H
        clear H
        have p444:0≤(x4_1:Int):=of_decide_eq_true ‹_›
        have q444:x4_1<(l0.length:Int):=of_decide_eq_true ‹_›
        obtain ⟨ad444,e444,hx444_0⟩:=Kd.at_int HR0.out x4_1 p444 q444
        cases e444
        replace hx444_0:=(HB.out.cell (World.block_lt_of_cell? w _ hx444_0)).trans hx444_0
        replace p444:=eq_true p444
        replace q444:=eq_true q444
        have p9:0≤(x4_1:Int):=of_decide_eq_true ‹_›
        have q9:(x4_1:Int)<((x3_1.length:Int):Int):=of_decide_eq_true ‹_›
        obtain ⟨go9,co9,eo9,gb9,gl9,cl9,HG9⟩:=Kd.R_form HO_3.out (by omega)
        (first | cases eo9 | (injection eo9 with ea_ en_ ec_;(first | subst ea_ | (injection ea_ with ea_;subst ea_));subst ec_;clear en_))
        have GB9:=Aside0.mk gb9
        have GG9:=Aside0.mk HG9
        clear gb9 gl9 HG9
        obtain ⟨hx9_0,hf9_0⟩:=Kd.R_celln 0 HO_3.out (x4_1:Int) p9 q9
        replace p9:=eq_true p9
        replace q9:=eq_true q9
        have HP10:=Kd.R_putg HO_3.out (x4_1:Int) (rd l0 x4_1)
        go_wp2_with (first | ((with_reducible refine gate_store (t:=3) (p:=20) rfl ?_);refine store_event (t:=3) (p:=20) (v:=?vo_w11) (w1:=(wr.setCell ⟨go9,(x4_1:Int).toNat,none⟩ (.int .i64 (rd l0 x4_1)))) ?hg ?ho ?hn ?hr ?_;(case ho=>rfl);(case hg=>rfl);(case hn=>rfl);(case hr=>first | (go_simp;done) | (go_simp;rfl));intro w11 hw;have hg:wr.grownBy w11 (some go9):=(by rw [hw];exact HP10.2);have hp_:Kd.R (Kd.int .i64) 3 w11 w.heap.size (fun _=>True) (.slice (some ⟨go9,0,none⟩) x3_1.length co9) y445:=(by rw [hw,Ny445.out];exact HP10.1);clear HP10;replace HO_3:=Aside0.mk (hp_);replace HB:=Aside0.mk ((by rw [hw];exact zag (HB.out) GB9.out:Below w.heap.size w w11));clear hg hw hp_))
        go_roundg k1
        case measure=>have:=HK1.out;omega
        case rel=>exact ⟨(y445),(wrap64 (x4_1+1)),rfl,H',⟨by have:=HK1.out;omega⟩,⟨HO_3.out⟩,⟨by repeat (with_reducible first | exact HB.out | apply zae | apply zac | apply zaf)⟩⟩
       ·rw [if_neg c8] at H
        exact absurd H (by simp)
      ·rw [if_neg c7] at H
       exact absurd H (by simp)
     ·rw [if_neg c6] at H
      have c6b0:decide (x4_1<(l0.length:Int))=false:=decide_eq_false c6
      clear c6
      obtain rfl:=Option.some.inj H
      go_wp2
      go_ret
      exact ⟨_,rfl,HO_3.out,by repeat (with_reducible first | exact HB.out | apply zae | apply zac | apply zaf)⟩
  ·rw [if_neg c3] at H
   exact absurd H (by simp)
 ·rw [if_neg c2] at H
  exact absurd H (by simp)
def laws_toCol.f (k:Nat) (a0_0:Int) (a0_1:Int) (l0_2:List Int) (l0_3:List Int):Option (Int×Int×List Int×List Int):=(laws_toIntS.f k l0_2).bind fun t449=>((laws_toIntS.f k l0_3).bind fun t452=>(some (a0_0,a0_1,t449,t452)))
set_option maxHeartbeats 8000000 in
set_option maxRecDepth 100000 in
theorem laws_toCol.calls (k:Nat) (a0_0:Int) (a0_1:Int) (A0_2:Option Addr) (c0_2:Nat) (l0_2:List Int) (A0_3:Option Addr) (c0_3:Nat) (l0_3:List Int) (r1:Int) (r2:Int) (r3:List Int) (r4:List Int) (w:World) (hr0_2:Kd.C (Kd.int .i64) w A0_2 l0_2.length l0_2) (hc0_2:l0_2.length≤c0_2) (hr0_3:Kd.C (Kd.int .i64) w A0_3 l0_3.length l0_3) (hc0_3:l0_3.length≤c0_3) (h:laws_toCol.f k a0_0 a0_1 l0_2 l0_3=some (r1,r2,r3,r4)) :
  Calls Tru.prog 58 #[.agg #[.int .i64 a0_0,.int .i64 a0_1,.slice A0_2 l0_2.length c0_2,.slice A0_3 l0_3.length c0_3]] w fun e w'=>∃ v2_ v3_:Value,e = .returned (.agg #[.int .i64 r1,.int .i64 r2,v2_,v3_])∧Kd.R (Kd.int .i64) 3 w' w.heap.size (fun k_=>some k_≠(v3_:Value).ownBlock) v2_ r3∧Kd.R (Kd.int .i64) 3 w' w.heap.size (fun k_=>some k_≠(v2_:Value).ownBlock) v3_ r4∧Below w.heap.size w w':=by
 have hu46:=((Tru.und _).trans ((Tru.und _).trans Try.underlying46))
 have hu36:=((Tru.und _).trans ((Tru.und _).trans Try.underlying36))
 have HR0_2:=Aside0.mk hr0_2
 have HC0_2:=Aside0.mk hc0_2
 clear hr0_2 hc0_2
 have HR0_3:=Aside0.mk hr0_3
 have HC0_3:=Aside0.mk hc0_3
 clear hr0_3 hc0_3
 have HB:=Aside0.mk (Below.refl w.heap.size w)
 have H:=h
 unfold laws_toCol.f at H
 clear h
 replace H:=bnd H
 obtain ⟨t449,A2,H⟩:=H
 replace H:=bnd H
 obtain ⟨t452,A3,H⟩:=H
 simp only [Option.some.injEq,Prod.mk.injEq] at H
 obtain ⟨rfl,rfl,rfl,rfl⟩:=H
 go_enter Tru.func58,Try.ntmps58
 go_wp2_with (first | ((with_reducible refine zam (N:=1) rfl ?_);refine boxZ (N:=1) (cs:=#[.int .i64 a0_0,.int .i64 a0_1,.slice A0_2 l0_2.length c0_2,.slice A0_3 l0_3.length c0_3]) (t:=46) ?_;intro gb446 hg w4 hbox hb;replace BK446:=Aside0.mk (hbox);replace GW446:=gwZ hg;replace GE446:=gwZ hg;replace HB:=bnZ hb;clear hb hbox hg) | ((with_reducible refine zam (N:=2) rfl ?_);refine boxZ (N:=2) (cs:=#[.int .i64 0,.int .i64 0,.slice none 0 0,.slice none 0 0]) (t:=36) ?_;intro gb447 hg w5 hbox hb;replace BK447:=Aside0.mk (hbox);replace GW447:=gwZ hg;replace GE447:=gwZ hg;replace HB:=bnZ hb;replace NB446_447:=nbZ BK446.out hg;replace NB447_446:=nbY BK446.out hg;replace BK446:=bkZ hb BK446.out;clear hb hbox hg) | ((with_reducible refine zam (N:=3) rfl ?_);refine boxZ (N:=3) (cs:=#[.int .i64 0,.int .i64 0,.slice none 0 0,.slice none 0 0]) (t:=36) ?_;intro gb448 hg w6 hbox hb;replace BK448:=Aside0.mk (hbox);replace GW448:=gwZ hg;replace GE448:=gwZ hg;replace HB:=bnZ hb;replace NB446_448:=nbZ BK446.out hg;replace NB448_446:=nbY BK446.out hg;replace BK446:=bkZ hb BK446.out;replace NB447_448:=nbZ BK447.out hg;replace NB448_447:=nbY BK447.out hg;replace BK447:=bkZ hb BK447.out;clear hb hbox hg;have hnb7:=NB446_447.out;have hnc7:=NB447_446.out;have hnb8:=NB446_448.out;have hnc8:=NB448_446.out;have hcz9_0:w6.cell? ⟨gb446,0,none⟩=some (.int .i64 a0_0):=(zab BK446.out 0).trans rfl;have hcz9_1:w6.cell? ⟨gb446,1,none⟩=some (.int .i64 a0_1):=(zab BK446.out 1).trans rfl;have hcz9_2:w6.cell? ⟨gb446,2,none⟩=some (.slice A0_2 l0_2.length c0_2):=(zab BK446.out 2).trans rfl;have hcz9_3:w6.cell? ⟨gb446,3,none⟩=some (.slice A0_3 l0_3.length c0_3):=(zab BK446.out 3).trans rfl;have hfz9_0:=zaa BK446.out 0;have hfz9_1:=zaa BK446.out 1;have hfz9_2:=zaa BK446.out 2;have hfz9_3:=zaa BK446.out 3;have hnb10:=NB448_447.out;have hnc10:=NB447_448.out;have hcz11_0:w6.cell? ⟨gb448,0,none⟩=some (.int .i64 0):=(zab BK448.out 0).trans rfl;have hcz11_1:w6.cell? ⟨gb448,1,none⟩=some (.int .i64 0):=(zab BK448.out 1).trans rfl;have hcz11_2:w6.cell? ⟨gb448,2,none⟩=some (.slice none 0 0):=(zab BK448.out 2).trans rfl;have hcz11_3:w6.cell? ⟨gb448,3,none⟩=some (.slice none 0 0):=(zab BK448.out 3).trans rfl;have hfz11_0:=zaa BK448.out 0;have hfz11_1:=zaa BK448.out 1;have hfz11_2:=zaa BK448.out 2;have hfz11_3:=zaa BK448.out 3) | (refine gsC c83x21 (laws_toIntS.calls k _ _ l0_2 t449 _ (Kd.C_below HR0_2.out bZ) HC0_2.out A2.out) ?_;rintro e w12 ⟨v450,rfl,ho0,hb⟩;refine ⟨_,rfl,?_⟩;replace HO451:=Aside0.mk (Kd.R_lower ho0 bsZ);replace BK446:=Aside0.mk (zaq (g:=gb446) (o:=.cells #[.int .i64 a0_0,.int .i64 a0_1,.slice A0_2 l0_2.length c0_2,.slice A0_3 l0_3.length c0_3] 46 (0,0)) (by refine zaG ?_ NB446_448.out _;refine zaG ?_ NB446_448.out _;exact BK446.out) hb);replace BK447:=Aside0.mk (zaq (g:=gb447) (o:=.cells #[.int .i64 0,.int .i64 0,.slice none 0 0,.slice none 0 0] 36 (0,0)) (by refine zaG ?_ NB447_448.out _;refine zaG ?_ NB447_448.out _;exact BK447.out) hb);replace BK448:=Aside0.mk (zaq (g:=gb448) (o:=.cells #[.int .i64 a0_0,.int .i64 a0_1,.slice none 0 0,.slice none 0 0] 36 (0,0)) (by refine zaH (cs:=#[.int .i64 a0_0,.int .i64 0,.slice none 0 0,.slice none 0 0]) ?_ 1 _ rfl;refine zaH (cs:=#[.int .i64 0,.int .i64 0,.slice none 0 0,.slice none 0 0]) ?_ 0 _ rfl;exact BK448.out) hb);replace HB:=bnZ hb;(try clear hb);(try clear hb2);(try clear hk);(try clear hi);(try clear ho0);obtain ⟨Ao13,co13,eo13⟩:=Kd.R_slice HO451.out;subst eo13;have hcz14_0:w12.cell? ⟨gb448,0,none⟩=some (.int .i64 a0_0):=(zab BK448.out 0).trans rfl;have hcz14_1:w12.cell? ⟨gb448,1,none⟩=some (.int .i64 a0_1):=(zab BK448.out 1).trans rfl;have hcz14_2:w12.cell? ⟨gb448,2,none⟩=some (.slice none 0 0):=(zab BK448.out 2).trans rfl;have hcz14_3:w12.cell? ⟨gb448,3,none⟩=some (.slice none 0 0):=(zab BK448.out 3).trans rfl;have hfz14_0:=zaa BK448.out 0;have hfz14_1:=zaa BK448.out 1;have hfz14_2:=zaa BK448.out 2;have hfz14_3:=zaa BK448.out 3;have hcz15_0:w12.cell? ⟨gb446,0,none⟩=some (.int .i64 a0_0):=(zab BK446.out 0).trans rfl;have hcz15_1:w12.cell? ⟨gb446,1,none⟩=some (.int .i64 a0_1):=(zab BK446.out 1).trans rfl;have hcz15_2:w12.cell? ⟨gb446,2,none⟩=some (.slice A0_2 l0_2.length c0_2):=(zab BK446.out 2).trans rfl;have hcz15_3:w12.cell? ⟨gb446,3,none⟩=some (.slice A0_3 l0_3.length c0_3):=(zab BK446.out 3).trans rfl;have hfz15_0:=zaa BK446.out 0;have hfz15_1:=zaa BK446.out 1;have hfz15_2:=zaa BK446.out 2;have hfz15_3:=zaa BK446.out 3) | (refine gsC c83x21 (laws_toIntS.calls k _ _ l0_3 t452 _ (Kd.C_below HR0_3.out bZ) HC0_3.out A3.out) ?_;rintro e w16 ⟨v453,rfl,ho0,hb⟩;refine ⟨_,rfl,?_⟩;replace HO454:=Aside0.mk (Kd.R_lower (Kd.R_new' ho0 (Kd.R_lt ((Kd.R_mono (Kd.R_far (p:=⟨gb448,2,none⟩) (Kd.R_types HO451.out BK448.out (by decide)) (fun _ hk=>hk.2) (.slice Ao13 t449.length co13)) (fun _ h_=>h_.1))))) bsZ);replace HO451:=Aside0.mk (Kd.R_elder' ((Kd.R_mono (Kd.R_far (p:=⟨gb448,2,none⟩) (Kd.R_types HO451.out BK448.out (by decide)) (fun _ hk=>hk.2) (.slice Ao13 t449.length co13)) (fun _ h_=>h_.1))) (Kd.R_base ho0) hb);replace BK446:=Aside0.mk (zaq (g:=gb446) (o:=.cells #[.int .i64 a0_0,.int .i64 a0_1,.slice A0_2 l0_2.length c0_2,.slice A0_3 l0_3.length c0_3] 46 (0,0)) (by refine zaG ?_ NB446_448.out _;exact BK446.out) hb);replace BK447:=Aside0.mk (zaq (g:=gb447) (o:=.cells #[.int .i64 0,.int .i64 0,.slice none 0 0,.slice none 0 0] 36 (0,0)) (by refine zaG ?_ NB447_448.out _;exact BK447.out) hb);replace BK448:=Aside0.mk (zaq (g:=gb448) (o:=.cells #[.int .i64 a0_0,.int .i64 a0_1,.slice Ao13 t449.length co13,.slice none 0 0] 36 (0,0)) (by refine zaH (cs:=#[.int .i64 a0_0,.int .i64 a0_1,.slice none 0 0,.slice none 0 0]) ?_ 2 _ rfl;exact BK448.out) hb);replace HB:=bnZ hb;(try clear hb);(try clear hb2);(try clear hk);(try clear hi);(try clear ho0);obtain ⟨Ao17,co17,eo17⟩:=Kd.R_slice HO454.out;subst eo17;have hcz18_0:w16.cell? ⟨gb448,0,none⟩=some (.int .i64 a0_0):=(zab BK448.out 0).trans rfl;have hcz18_1:w16.cell? ⟨gb448,1,none⟩=some (.int .i64 a0_1):=(zab BK448.out 1).trans rfl;have hcz18_2:w16.cell? ⟨gb448,2,none⟩=some (.slice Ao13 t449.length co13):=(zab BK448.out 2).trans rfl;have hcz18_3:w16.cell? ⟨gb448,3,none⟩=some (.slice none 0 0):=(zab BK448.out 3).trans rfl;have hfz18_0:=zaa BK448.out 0;have hfz18_1:=zaa BK448.out 1;have hfz18_2:=zaa BK448.out 2;have hfz18_3:=zaa BK448.out 3;have hcz19_0:w16.cell? ⟨gb447,0,none⟩=some (.int .i64 0):=(zab BK447.out 0).trans rfl;have hcz19_1:w16.cell? ⟨gb447,1,none⟩=some (.int .i64 0):=(zab BK447.out 1).trans rfl;have hcz19_2:w16.cell? ⟨gb447,2,none⟩=some (.slice none 0 0):=(zab BK447.out 2).trans rfl;have hcz19_3:w16.cell? ⟨gb447,3,none⟩=some (.slice none 0 0):=(zab BK447.out 3).trans rfl;have hfz19_0:=zaa BK447.out 0;have hfz19_1:=zaa BK447.out 1;have hfz19_2:=zaa BK447.out 2;have hfz19_3:=zaa BK447.out 3))
 refine bodyPost_ret (results_cell_row rfl _ _ gb447 36 #[.int .i64 a0_0,.int .i64 a0_1,.slice Ao13 t449.length co13,.slice Ao17 t452.length co17] (0,0) _ rfl (by refine zaH (cs:=#[.int .i64 a0_0,.int .i64 a0_1,.slice Ao13 t449.length co13,.slice none 0 0]) ?_ 3 _ rfl;refine zaH (cs:=#[.int .i64 a0_0,.int .i64 a0_1,.slice none 0 0,.slice none 0 0]) ?_ 2 _ rfl;refine zaH (cs:=#[.int .i64 a0_0,.int .i64 0,.slice none 0 0,.slice none 0 0]) ?_ 1 _ rfl;refine zaH (cs:=#[.int .i64 0,.int .i64 0,.slice none 0 0,.slice none 0 0]) ?_ 0 _ rfl;refine zaG ?_ NB447_448.out _;exact BK447.out) ((Tru.und _).trans ((Tru.und _).trans Try.underlying36)) rfl (by kernel_rfl)) rfl ?_
 exact ⟨_,_,rfl,Kd.R_mono (Kd.R_far (p:=⟨gb447,3,none⟩) (Kd.R_far (p:=⟨gb447,2,none⟩) (Kd.R_far (p:=⟨gb447,1,none⟩) (Kd.R_far (p:=⟨gb447,0,none⟩) (Kd.R_far (p:=⟨gb448,3,none⟩) (Kd.R_types (Kd.R_types HO451.out BK448.out (by decide)) BK447.out (by decide)) (fun _ hk=>hk.1.2) (.slice Ao17 t452.length co17)) (fun _ hk=>hk.2) (.int .i64 a0_0)) (fun _ hk=>hk.2) (.int .i64 a0_1)) (fun _ hk=>hk.2) (.slice Ao13 t449.length co13)) (fun _ hk=>hk.2) (.slice Ao17 t452.length co17)) (fun _ hk=>hk.1.1.2),Kd.R_mono (Kd.R_far (p:=⟨gb447,3,none⟩) (Kd.R_far (p:=⟨gb447,2,none⟩) (Kd.R_far (p:=⟨gb447,1,none⟩) (Kd.R_far (p:=⟨gb447,0,none⟩) (Kd.R_far (p:=⟨gb448,3,none⟩) (Kd.R_types (Kd.R_types HO454.out BK448.out (by decide)) BK447.out (by decide)) (fun _ hk=>hk.1.2) (.slice Ao17 t452.length co17)) (fun _ hk=>hk.2) (.int .i64 a0_0)) (fun _ hk=>hk.2) (.int .i64 a0_1)) (fun _ hk=>hk.2) (.slice Ao13 t449.length co13)) (fun _ hk=>hk.2) (.slice Ao17 t452.length co17)) (fun _ hk=>hk.1.1.2),by repeat (with_reducible first | exact HB.out | apply zae | apply zac | apply zaf | refine zag ?_ GE446.out | refine zag ?_ GE447.out | refine zag ?_ GE448.out)⟩
def laws_toBatch.f (k:Nat) (a0_0:Int) (a0_1:Int) (l0_2:List Int) (l0_3:List Int) (a0_4:Int) (a0_5:Int) (l0_6:List Int) (l0_7:List Int) (a0_8:Int):Option (Int×Int×List Int×List Int×Int×Int×List Int×List Int×Int):=(laws_toCol.f k a0_0 a0_1 l0_2 l0_3).bind fun bt458=>((laws_toCol.f k a0_4 a0_5 l0_6 l0_7).bind fun bt466=>(some (bt458.1,bt458.2.1,bt458.2.2.1,bt458.2.2.2,bt466.1,bt466.2.1,bt466.2.2.1,bt466.2.2.2,a0_8)))
set_option maxHeartbeats 8000000 in
set_option maxRecDepth 100000 in
theorem laws_toBatch.calls (k:Nat) (a0_0:Int) (a0_1:Int) (A0_2:Option Addr) (c0_2:Nat) (l0_2:List Int) (A0_3:Option Addr) (c0_3:Nat) (l0_3:List Int) (a0_4:Int) (a0_5:Int) (A0_6:Option Addr) (c0_6:Nat) (l0_6:List Int) (A0_7:Option Addr) (c0_7:Nat) (l0_7:List Int) (a0_8:Int) (r1:Int) (r2:Int) (r3:List Int) (r4:List Int) (r5:Int) (r6:Int) (r7:List Int) (r8:List Int) (r9:Int) (w:World) (hr0_2:Kd.C (Kd.int .i64) w A0_2 l0_2.length l0_2) (hc0_2:l0_2.length≤c0_2) (hr0_3:Kd.C (Kd.int .i64) w A0_3 l0_3.length l0_3) (hc0_3:l0_3.length≤c0_3) (hr0_6:Kd.C (Kd.int .i64) w A0_6 l0_6.length l0_6) (hc0_6:l0_6.length≤c0_6) (hr0_7:Kd.C (Kd.int .i64) w A0_7 l0_7.length l0_7) (hc0_7:l0_7.length≤c0_7) (h:laws_toBatch.f k a0_0 a0_1 l0_2 l0_3 a0_4 a0_5 l0_6 l0_7 a0_8=some (r1,r2,r3,r4,r5,r6,r7,r8,r9)) :
  Calls Tru.prog 24 #[.agg #[.int .i64 a0_0,.int .i64 a0_1,.slice A0_2 l0_2.length c0_2,.slice A0_3 l0_3.length c0_3,.int .i64 a0_4,.int .i64 a0_5,.slice A0_6 l0_6.length c0_6,.slice A0_7 l0_7.length c0_7,.int .i64 a0_8]] w fun e w'=>∃ v2_ v3_ v6_ v7_:Value,e = .returned (.agg #[.int .i64 r1,.int .i64 r2,v2_,v3_,.int .i64 r5,.int .i64 r6,v6_,v7_,.int .i64 r9])∧Kd.R (Kd.int .i64) 3 w' w.heap.size (fun k_=>some k_≠(v3_:Value).ownBlock∧some k_≠(v6_:Value).ownBlock∧some k_≠(v7_:Value).ownBlock) v2_ r3∧Kd.R (Kd.int .i64) 3 w' w.heap.size (fun k_=>some k_≠(v2_:Value).ownBlock∧some k_≠(v6_:Value).ownBlock∧some k_≠(v7_:Value).ownBlock) v3_ r4∧Kd.R (Kd.int .i64) 3 w' w.heap.size (fun k_=>some k_≠(v2_:Value).ownBlock∧some k_≠(v3_:Value).ownBlock∧some k_≠(v7_:Value).ownBlock) v6_ r7∧Kd.R (Kd.int .i64) 3 w' w.heap.size (fun k_=>some k_≠(v2_:Value).ownBlock∧some k_≠(v3_:Value).ownBlock∧some k_≠(v6_:Value).ownBlock) v7_ r8∧Below w.heap.size w w':=by
 have hu48:=((Tru.und _).trans ((Tru.und _).trans Try.underlying48))
 have hu38:=((Tru.und _).trans ((Tru.und _).trans Try.underlying38))
 have hu46:=((Tru.und _).trans ((Tru.und _).trans Try.underlying46))
 have hu36:=((Tru.und _).trans ((Tru.und _).trans Try.underlying36))
 have HR0_2:=Aside0.mk hr0_2
 have HC0_2:=Aside0.mk hc0_2
 clear hr0_2 hc0_2
 have HR0_3:=Aside0.mk hr0_3
 have HC0_3:=Aside0.mk hc0_3
 clear hr0_3 hc0_3
 have HR0_6:=Aside0.mk hr0_6
 have HC0_6:=Aside0.mk hc0_6
 clear hr0_6 hc0_6
 have HR0_7:=Aside0.mk hr0_7
 have HC0_7:=Aside0.mk hc0_7
 clear hr0_7 hc0_7
 have HB:=Aside0.mk (Below.refl w.heap.size w)
 have H:=h
 unfold laws_toBatch.f at H
 clear h
 replace H:=bnd H
 obtain ⟨⟨t458,t459,t460,t463⟩,A2,H⟩:=H
 dsimp only at H
 replace H:=bnd H
 obtain ⟨⟨t466,t467,t468,t471⟩,A3,H⟩:=H
 dsimp only at H
 simp only [Option.some.injEq,Prod.mk.injEq] at H
 obtain ⟨rfl,rfl,rfl,rfl,rfl,rfl,rfl,rfl,rfl⟩:=H
 go_enter Tru.func24,Try.ntmps24
 go_wp2_with (first | ((with_reducible refine zam (N:=1) rfl ?_);refine boxZ (N:=1) (cs:=#[.int .i64 a0_0,.int .i64 a0_1,.slice A0_2 l0_2.length c0_2,.slice A0_3 l0_3.length c0_3,.int .i64 a0_4,.int .i64 a0_5,.slice A0_6 l0_6.length c0_6,.slice A0_7 l0_7.length c0_7,.int .i64 a0_8]) (t:=48) ?_;intro gb455 hg w4 hbox hb;replace BK455:=Aside0.mk (hbox);replace GW455:=gwZ hg;replace GE455:=gwZ hg;replace HB:=bnZ hb;clear hb hbox hg) | ((with_reducible refine zam (N:=2) rfl ?_);refine boxZ (N:=2) (cs:=#[.int .i64 0,.int .i64 0,.slice none 0 0,.slice none 0 0,.int .i64 0,.int .i64 0,.slice none 0 0,.slice none 0 0,.int .i64 0]) (t:=38) ?_;intro gb456 hg w5 hbox hb;replace BK456:=Aside0.mk (hbox);replace GW456:=gwZ hg;replace GE456:=gwZ hg;replace HB:=bnZ hb;replace NB455_456:=nbZ BK455.out hg;replace NB456_455:=nbY BK455.out hg;replace BK455:=bkZ hb BK455.out;clear hb hbox hg) | ((with_reducible refine zam (N:=3) rfl ?_);refine boxZ (N:=3) (cs:=#[.int .i64 0,.int .i64 0,.slice none 0 0,.slice none 0 0,.int .i64 0,.int .i64 0,.slice none 0 0,.slice none 0 0,.int .i64 0]) (t:=38) ?_;intro gb457 hg w6 hbox hb;replace BK457:=Aside0.mk (hbox);replace GW457:=gwZ hg;replace GE457:=gwZ hg;replace HB:=bnZ hb;replace NB455_457:=nbZ BK455.out hg;replace NB457_455:=nbY BK455.out hg;replace BK455:=bkZ hb BK455.out;replace NB456_457:=nbZ BK456.out hg;replace NB457_456:=nbY BK456.out hg;replace BK456:=bkZ hb BK456.out;clear hb hbox hg;have hnb7:=NB455_456.out;have hnc7:=NB456_455.out;have hnb8:=NB455_457.out;have hnc8:=NB457_455.out;have hcz9_0:w6.cell? ⟨gb455,0,none⟩=some (.int .i64 a0_0):=(zab BK455.out 0).trans rfl;have hcz9_1:w6.cell? ⟨gb455,1,none⟩=some (.int .i64 a0_1):=(zab BK455.out 1).trans rfl;have hcz9_2:w6.cell? ⟨gb455,2,none⟩=some (.slice A0_2 l0_2.length c0_2):=(zab BK455.out 2).trans rfl;have hcz9_3:w6.cell? ⟨gb455,3,none⟩=some (.slice A0_3 l0_3.length c0_3):=(zab BK455.out 3).trans rfl;have hcz9_4:w6.cell? ⟨gb455,4,none⟩=some (.int .i64 a0_4):=(zab BK455.out 4).trans rfl;have hcz9_5:w6.cell? ⟨gb455,5,none⟩=some (.int .i64 a0_5):=(zab BK455.out 5).trans rfl;have hcz9_6:w6.cell? ⟨gb455,6,none⟩=some (.slice A0_6 l0_6.length c0_6):=(zab BK455.out 6).trans rfl;have hcz9_7:w6.cell? ⟨gb455,7,none⟩=some (.slice A0_7 l0_7.length c0_7):=(zab BK455.out 7).trans rfl;have hcz9_8:w6.cell? ⟨gb455,8,none⟩=some (.int .i64 a0_8):=(zab BK455.out 8).trans rfl;have hfz9_0:=zaa BK455.out 0;have hfz9_1:=zaa BK455.out 1;have hfz9_2:=zaa BK455.out 2;have hfz9_3:=zaa BK455.out 3;have hfz9_4:=zaa BK455.out 4;have hfz9_5:=zaa BK455.out 5;have hfz9_6:=zaa BK455.out 6;have hfz9_7:=zaa BK455.out 7;have hfz9_8:=zaa BK455.out 8) | ((with_reducible refine zah (f:=58) rfl ?_);refine goesZ (some 6) Tru.func58 #[.agg #[.int .i64 a0_0,.int .i64 a0_1,.slice A0_2 l0_2.length c0_2,.slice A0_3 l0_3.length c0_3]] ?_;(with_reducible refine (laws_toCol.calls k a0_0 a0_1 _ _ l0_2 _ _ l0_3 t458 t459 t460 t463 _ ?side1 ?side2 ?side3 ?side4 A2.out).mono ?_);(case side1=>exact (Kd.C_below HR0_2.out HB.out));(case side2=>exact HC0_2.out);(case side3=>exact (Kd.C_below HR0_3.out HB.out));(case side4=>exact HC0_3.out);rintro e w10 ⟨v461,v464,rfl,ho0,ho1,hb⟩;refine ⟨_,rfl,?_⟩;replace HO462:=Aside0.mk (Kd.R_lower ho0 bsZ);replace HO465:=Aside0.mk (Kd.R_lower ho1 bsZ);replace BK455:=bkZ hb BK455.out;replace BK456:=bkZ hb BK456.out;replace BK457:=bkZ hb BK457.out;replace HB:=bnZ hb;(try clear hb);(try clear hb2);(try clear hk);(try clear hi);(try clear ho0);(try clear ho1);have hnb11:=NB457_456.out;have hnc11:=NB456_457.out;have hcz12_0:w10.cell? ⟨gb457,0,none⟩=some (.int .i64 0):=(zab BK457.out 0).trans rfl;have hcz12_1:w10.cell? ⟨gb457,1,none⟩=some (.int .i64 0):=(zab BK457.out 1).trans rfl;have hcz12_2:w10.cell? ⟨gb457,2,none⟩=some (.slice none 0 0):=(zab BK457.out 2).trans rfl;have hcz12_3:w10.cell? ⟨gb457,3,none⟩=some (.slice none 0 0):=(zab BK457.out 3).trans rfl;have hcz12_4:w10.cell? ⟨gb457,4,none⟩=some (.int .i64 0):=(zab BK457.out 4).trans rfl;have hcz12_5:w10.cell? ⟨gb457,5,none⟩=some (.int .i64 0):=(zab BK457.out 5).trans rfl;have hcz12_6:w10.cell? ⟨gb457,6,none⟩=some (.slice none 0 0):=(zab BK457.out 6).trans rfl;have hcz12_7:w10.cell? ⟨gb457,7,none⟩=some (.slice none 0 0):=(zab BK457.out 7).trans rfl;have hcz12_8:w10.cell? ⟨gb457,8,none⟩=some (.int .i64 0):=(zab BK457.out 8).trans rfl;have hfz12_0:=zaa BK457.out 0;have hfz12_1:=zaa BK457.out 1;have hfz12_2:=zaa BK457.out 2;have hfz12_3:=zaa BK457.out 3;have hfz12_4:=zaa BK457.out 4;have hfz12_5:=zaa BK457.out 5;have hfz12_6:=zaa BK457.out 6;have hfz12_7:=zaa BK457.out 7;have hfz12_8:=zaa BK457.out 8;obtain ⟨Ao13,co13,eo13⟩:=Kd.R_slice HO462.out;subst eo13;obtain ⟨Ao14,co14,eo14⟩:=Kd.R_slice HO465.out;subst eo14;have hcz15_0:w10.cell? ⟨gb455,0,none⟩=some (.int .i64 a0_0):=(zab BK455.out 0).trans rfl;have hcz15_1:w10.cell? ⟨gb455,1,none⟩=some (.int .i64 a0_1):=(zab BK455.out 1).trans rfl;have hcz15_2:w10.cell? ⟨gb455,2,none⟩=some (.slice A0_2 l0_2.length c0_2):=(zab BK455.out 2).trans rfl;have hcz15_3:w10.cell? ⟨gb455,3,none⟩=some (.slice A0_3 l0_3.length c0_3):=(zab BK455.out 3).trans rfl;have hcz15_4:w10.cell? ⟨gb455,4,none⟩=some (.int .i64 a0_4):=(zab BK455.out 4).trans rfl;have hcz15_5:w10.cell? ⟨gb455,5,none⟩=some (.int .i64 a0_5):=(zab BK455.out 5).trans rfl;have hcz15_6:w10.cell? ⟨gb455,6,none⟩=some (.slice A0_6 l0_6.length c0_6):=(zab BK455.out 6).trans rfl;have hcz15_7:w10.cell? ⟨gb455,7,none⟩=some (.slice A0_7 l0_7.length c0_7):=(zab BK455.out 7).trans rfl;have hcz15_8:w10.cell? ⟨gb455,8,none⟩=some (.int .i64 a0_8):=(zab BK455.out 8).trans rfl;have hfz15_0:=zaa BK455.out 0;have hfz15_1:=zaa BK455.out 1;have hfz15_2:=zaa BK455.out 2;have hfz15_3:=zaa BK455.out 3;have hfz15_4:=zaa BK455.out 4;have hfz15_5:=zaa BK455.out 5;have hfz15_6:=zaa BK455.out 6;have hfz15_7:=zaa BK455.out 7;have hfz15_8:=zaa BK455.out 8) | (refine gsC c58x21 (laws_toCol.calls k a0_4 a0_5 _ _ l0_6 _ _ l0_7 t466 t467 t468 t471 _ (Kd.C_below HR0_6.out bZ) HC0_6.out (Kd.C_below HR0_7.out bZ) HC0_7.out A3.out) ?_;rintro e w16 ⟨v469,v472,rfl,ho0,ho1,hb⟩;refine ⟨_,rfl,?_⟩;replace HO470:=Aside0.mk (Kd.R_lower (Kd.R_new' (Kd.R_new' ho0 (Kd.R_lt ((Kd.R_mono (Kd.R_far (p:=⟨gb457,3,none⟩) (Kd.R_far (p:=⟨gb457,2,none⟩) (Kd.R_far (p:=⟨gb457,1,none⟩) (Kd.R_far (p:=⟨gb457,0,none⟩) (Kd.R_types HO462.out BK457.out (by decide)) (fun _ hk=>hk.2) (.int .i64 t458)) (fun _ hk=>hk.2) (.int .i64 t459)) (fun _ hk=>hk.2) (.slice Ao13 t460.length co13)) (fun _ hk=>hk.2) (.slice Ao14 t463.length co14)) (fun _ h_=>h_.1))))) (Kd.R_lt ((Kd.R_mono (Kd.R_far (p:=⟨gb457,3,none⟩) (Kd.R_far (p:=⟨gb457,2,none⟩) (Kd.R_far (p:=⟨gb457,1,none⟩) (Kd.R_far (p:=⟨gb457,0,none⟩) (Kd.R_types HO465.out BK457.out (by decide)) (fun _ hk=>hk.2) (.int .i64 t458)) (fun _ hk=>hk.2) (.int .i64 t459)) (fun _ hk=>hk.2) (.slice Ao13 t460.length co13)) (fun _ hk=>hk.2) (.slice Ao14 t463.length co14)) (fun _ h_=>h_.1))))) bsZ);replace HO473:=Aside0.mk (Kd.R_lower (Kd.R_new' (Kd.R_new' ho1 (Kd.R_lt ((Kd.R_mono (Kd.R_far (p:=⟨gb457,3,none⟩) (Kd.R_far (p:=⟨gb457,2,none⟩) (Kd.R_far (p:=⟨gb457,1,none⟩) (Kd.R_far (p:=⟨gb457,0,none⟩) (Kd.R_types HO462.out BK457.out (by decide)) (fun _ hk=>hk.2) (.int .i64 t458)) (fun _ hk=>hk.2) (.int .i64 t459)) (fun _ hk=>hk.2) (.slice Ao13 t460.length co13)) (fun _ hk=>hk.2) (.slice Ao14 t463.length co14)) (fun _ h_=>h_.1))))) (Kd.R_lt ((Kd.R_mono (Kd.R_far (p:=⟨gb457,3,none⟩) (Kd.R_far (p:=⟨gb457,2,none⟩) (Kd.R_far (p:=⟨gb457,1,none⟩) (Kd.R_far (p:=⟨gb457,0,none⟩) (Kd.R_types HO465.out BK457.out (by decide)) (fun _ hk=>hk.2) (.int .i64 t458)) (fun _ hk=>hk.2) (.int .i64 t459)) (fun _ hk=>hk.2) (.slice Ao13 t460.length co13)) (fun _ hk=>hk.2) (.slice Ao14 t463.length co14)) (fun _ h_=>h_.1))))) bsZ);replace HO462:=Aside0.mk (Kd.R_mono (Kd.R_told (Kd.R_told (Kd.R_old ((Kd.R_mono (Kd.R_far (p:=⟨gb457,3,none⟩) (Kd.R_far (p:=⟨gb457,2,none⟩) (Kd.R_far (p:=⟨gb457,1,none⟩) (Kd.R_far (p:=⟨gb457,0,none⟩) (Kd.R_types HO462.out BK457.out (by decide)) (fun _ hk=>hk.2) (.int .i64 t458)) (fun _ hk=>hk.2) (.int .i64 t459)) (fun _ hk=>hk.2) (.slice Ao13 t460.length co13)) (fun _ hk=>hk.2) (.slice Ao14 t463.length co14)) (fun _ h_=>h_.1))) hb) (Kd.R_base ho0)) (Kd.R_base ho1)) (fun _ h_=>h_.1));replace HO465:=Aside0.mk (Kd.R_mono (Kd.R_told (Kd.R_told (Kd.R_old ((Kd.R_mono (Kd.R_far (p:=⟨gb457,3,none⟩) (Kd.R_far (p:=⟨gb457,2,none⟩) (Kd.R_far (p:=⟨gb457,1,none⟩) (Kd.R_far (p:=⟨gb457,0,none⟩) (Kd.R_types HO465.out BK457.out (by decide)) (fun _ hk=>hk.2) (.int .i64 t458)) (fun _ hk=>hk.2) (.int .i64 t459)) (fun _ hk=>hk.2) (.slice Ao13 t460.length co13)) (fun _ hk=>hk.2) (.slice Ao14 t463.length co14)) (fun _ h_=>h_.1))) hb) (Kd.R_base ho0)) (Kd.R_base ho1)) (fun _ h_=>h_.1));replace BK455:=Aside0.mk (zaq (g:=gb455) (o:=.cells #[.int .i64 a0_0,.int .i64 a0_1,.slice A0_2 l0_2.length c0_2,.slice A0_3 l0_3.length c0_3,.int .i64 a0_4,.int .i64 a0_5,.slice A0_6 l0_6.length c0_6,.slice A0_7 l0_7.length c0_7,.int .i64 a0_8] 48 (0,0)) (by refine zaG ?_ NB455_457.out _;refine zaG ?_ NB455_457.out _;refine zaG ?_ NB455_457.out _;refine zaG ?_ NB455_457.out _;exact BK455.out) hb);replace BK456:=Aside0.mk (zaq (g:=gb456) (o:=.cells #[.int .i64 0,.int .i64 0,.slice none 0 0,.slice none 0 0,.int .i64 0,.int .i64 0,.slice none 0 0,.slice none 0 0,.int .i64 0] 38 (0,0)) (by refine zaG ?_ NB456_457.out _;refine zaG ?_ NB456_457.out _;refine zaG ?_ NB456_457.out _;refine zaG ?_ NB456_457.out _;exact BK456.out) hb);replace BK457:=Aside0.mk (zaq (g:=gb457) (o:=.cells #[.int .i64 t458,.int .i64 t459,.slice Ao13 t460.length co13,.slice Ao14 t463.length co14,.int .i64 0,.int .i64 0,.slice none 0 0,.slice none 0 0,.int .i64 0] 38 (0,0)) (by refine zaH (cs:=#[.int .i64 t458,.int .i64 t459,.slice Ao13 t460.length co13,.slice none 0 0,.int .i64 0,.int .i64 0,.slice none 0 0,.slice none 0 0,.int .i64 0]) ?_ 3 _ rfl;refine zaH (cs:=#[.int .i64 t458,.int .i64 t459,.slice none 0 0,.slice none 0 0,.int .i64 0,.int .i64 0,.slice none 0 0,.slice none 0 0,.int .i64 0]) ?_ 2 _ rfl;refine zaH (cs:=#[.int .i64 t458,.int .i64 0,.slice none 0 0,.slice none 0 0,.int .i64 0,.int .i64 0,.slice none 0 0,.slice none 0 0,.int .i64 0]) ?_ 1 _ rfl;refine zaH (cs:=#[.int .i64 0,.int .i64 0,.slice none 0 0,.slice none 0 0,.int .i64 0,.int .i64 0,.slice none 0 0,.slice none 0 0,.int .i64 0]) ?_ 0 _ rfl;exact BK457.out) hb);replace HB:=bnZ hb;(try clear hb);(try clear hb2);(try clear hk);(try clear hi);(try clear ho0);(try clear ho1);have hcz17_0:w16.cell? ⟨gb457,0,none⟩=some (.int .i64 t458):=(zab BK457.out 0).trans rfl;have hcz17_1:w16.cell? ⟨gb457,1,none⟩=some (.int .i64 t459):=(zab BK457.out 1).trans rfl;have hcz17_2:w16.cell? ⟨gb457,2,none⟩=some (.slice Ao13 t460.length co13):=(zab BK457.out 2).trans rfl;have hcz17_3:w16.cell? ⟨gb457,3,none⟩=some (.slice Ao14 t463.length co14):=(zab BK457.out 3).trans rfl;have hcz17_4:w16.cell? ⟨gb457,4,none⟩=some (.int .i64 0):=(zab BK457.out 4).trans rfl;have hcz17_5:w16.cell? ⟨gb457,5,none⟩=some (.int .i64 0):=(zab BK457.out 5).trans rfl;have hcz17_6:w16.cell? ⟨gb457,6,none⟩=some (.slice none 0 0):=(zab BK457.out 6).trans rfl;have hcz17_7:w16.cell? ⟨gb457,7,none⟩=some (.slice none 0 0):=(zab BK457.out 7).trans rfl;have hcz17_8:w16.cell? ⟨gb457,8,none⟩=some (.int .i64 0):=(zab BK457.out 8).trans rfl;have hfz17_0:=zaa BK457.out 0;have hfz17_1:=zaa BK457.out 1;have hfz17_2:=zaa BK457.out 2;have hfz17_3:=zaa BK457.out 3;have hfz17_4:=zaa BK457.out 4;have hfz17_5:=zaa BK457.out 5;have hfz17_6:=zaa BK457.out 6;have hfz17_7:=zaa BK457.out 7;have hfz17_8:=zaa BK457.out 8;obtain ⟨Ao18,co18,eo18⟩:=Kd.R_slice HO470.out;subst eo18;obtain ⟨Ao19,co19,eo19⟩:=Kd.R_slice HO473.out;subst eo19;have hcz20_0:w16.cell? ⟨gb455,0,none⟩=some (.int .i64 a0_0):=(zab BK455.out 0).trans rfl;have hcz20_1:w16.cell? ⟨gb455,1,none⟩=some (.int .i64 a0_1):=(zab BK455.out 1).trans rfl;have hcz20_2:w16.cell? ⟨gb455,2,none⟩=some (.slice A0_2 l0_2.length c0_2):=(zab BK455.out 2).trans rfl;have hcz20_3:w16.cell? ⟨gb455,3,none⟩=some (.slice A0_3 l0_3.length c0_3):=(zab BK455.out 3).trans rfl;have hcz20_4:w16.cell? ⟨gb455,4,none⟩=some (.int .i64 a0_4):=(zab BK455.out 4).trans rfl;have hcz20_5:w16.cell? ⟨gb455,5,none⟩=some (.int .i64 a0_5):=(zab BK455.out 5).trans rfl;have hcz20_6:w16.cell? ⟨gb455,6,none⟩=some (.slice A0_6 l0_6.length c0_6):=(zab BK455.out 6).trans rfl;have hcz20_7:w16.cell? ⟨gb455,7,none⟩=some (.slice A0_7 l0_7.length c0_7):=(zab BK455.out 7).trans rfl;have hcz20_8:w16.cell? ⟨gb455,8,none⟩=some (.int .i64 a0_8):=(zab BK455.out 8).trans rfl;have hfz20_0:=zaa BK455.out 0;have hfz20_1:=zaa BK455.out 1;have hfz20_2:=zaa BK455.out 2;have hfz20_3:=zaa BK455.out 3;have hfz20_4:=zaa BK455.out 4;have hfz20_5:=zaa BK455.out 5;have hfz20_6:=zaa BK455.out 6;have hfz20_7:=zaa BK455.out 7;have hfz20_8:=zaa BK455.out 8;have hcz21_0:w16.cell? ⟨gb456,0,none⟩=some (.int .i64 0):=(zab BK456.out 0).trans rfl;have hcz21_1:w16.cell? ⟨gb456,1,none⟩=some (.int .i64 0):=(zab BK456.out 1).trans rfl;have hcz21_2:w16.cell? ⟨gb456,2,none⟩=some (.slice none 0 0):=(zab BK456.out 2).trans rfl;have hcz21_3:w16.cell? ⟨gb456,3,none⟩=some (.slice none 0 0):=(zab BK456.out 3).trans rfl;have hcz21_4:w16.cell? ⟨gb456,4,none⟩=some (.int .i64 0):=(zab BK456.out 4).trans rfl;have hcz21_5:w16.cell? ⟨gb456,5,none⟩=some (.int .i64 0):=(zab BK456.out 5).trans rfl;have hcz21_6:w16.cell? ⟨gb456,6,none⟩=some (.slice none 0 0):=(zab BK456.out 6).trans rfl;have hcz21_7:w16.cell? ⟨gb456,7,none⟩=some (.slice none 0 0):=(zab BK456.out 7).trans rfl;have hcz21_8:w16.cell? ⟨gb456,8,none⟩=some (.int .i64 0):=(zab BK456.out 8).trans rfl;have hfz21_0:=zaa BK456.out 0;have hfz21_1:=zaa BK456.out 1;have hfz21_2:=zaa BK456.out 2;have hfz21_3:=zaa BK456.out 3;have hfz21_4:=zaa BK456.out 4;have hfz21_5:=zaa BK456.out 5;have hfz21_6:=zaa BK456.out 6;have hfz21_7:=zaa BK456.out 7;have hfz21_8:=zaa BK456.out 8))
 refine bodyPost_ret (results_cell_row rfl _ _ gb456 38 #[.int .i64 t458,.int .i64 t459,.slice Ao13 t460.length co13,.slice Ao14 t463.length co14,.int .i64 t466,.int .i64 t467,.slice Ao18 t468.length co18,.slice Ao19 t471.length co19,.int .i64 a0_8] (0,0) _ rfl (by refine zaH (cs:=#[.int .i64 t458,.int .i64 t459,.slice Ao13 t460.length co13,.slice Ao14 t463.length co14,.int .i64 t466,.int .i64 t467,.slice Ao18 t468.length co18,.slice Ao19 t471.length co19,.int .i64 0]) ?_ 8 _ rfl;refine zaH (cs:=#[.int .i64 t458,.int .i64 t459,.slice Ao13 t460.length co13,.slice Ao14 t463.length co14,.int .i64 t466,.int .i64 t467,.slice Ao18 t468.length co18,.slice none 0 0,.int .i64 0]) ?_ 7 _ rfl;refine zaH (cs:=#[.int .i64 t458,.int .i64 t459,.slice Ao13 t460.length co13,.slice Ao14 t463.length co14,.int .i64 t466,.int .i64 t467,.slice none 0 0,.slice none 0 0,.int .i64 0]) ?_ 6 _ rfl;refine zaH (cs:=#[.int .i64 t458,.int .i64 t459,.slice Ao13 t460.length co13,.slice Ao14 t463.length co14,.int .i64 t466,.int .i64 0,.slice none 0 0,.slice none 0 0,.int .i64 0]) ?_ 5 _ rfl;refine zaH (cs:=#[.int .i64 t458,.int .i64 t459,.slice Ao13 t460.length co13,.slice Ao14 t463.length co14,.int .i64 0,.int .i64 0,.slice none 0 0,.slice none 0 0,.int .i64 0]) ?_ 4 _ rfl;refine zaH (cs:=#[.int .i64 t458,.int .i64 t459,.slice Ao13 t460.length co13,.slice none 0 0,.int .i64 0,.int .i64 0,.slice none 0 0,.slice none 0 0,.int .i64 0]) ?_ 3 _ rfl;refine zaH (cs:=#[.int .i64 t458,.int .i64 t459,.slice none 0 0,.slice none 0 0,.int .i64 0,.int .i64 0,.slice none 0 0,.slice none 0 0,.int .i64 0]) ?_ 2 _ rfl;refine zaH (cs:=#[.int .i64 t458,.int .i64 0,.slice none 0 0,.slice none 0 0,.int .i64 0,.int .i64 0,.slice none 0 0,.slice none 0 0,.int .i64 0]) ?_ 1 _ rfl;refine zaH (cs:=#[.int .i64 0,.int .i64 0,.slice none 0 0,.slice none 0 0,.int .i64 0,.int .i64 0,.slice none 0 0,.slice none 0 0,.int .i64 0]) ?_ 0 _ rfl;refine zaG ?_ NB456_457.out _;refine zaG ?_ NB456_457.out _;refine zaG ?_ NB456_457.out _;refine zaG ?_ NB456_457.out _;refine zaG ?_ NB456_457.out _;exact BK456.out) ((Tru.und _).trans ((Tru.und _).trans Try.underlying38)) rfl (by kernel_rfl)) rfl ?_
 exact ⟨_,_,_,_,rfl,Kd.R_mono (Kd.R_far (p:=⟨gb456,8,none⟩) (Kd.R_far (p:=⟨gb456,7,none⟩) (Kd.R_far (p:=⟨gb456,6,none⟩) (Kd.R_far (p:=⟨gb456,5,none⟩) (Kd.R_far (p:=⟨gb456,4,none⟩) (Kd.R_far (p:=⟨gb456,3,none⟩) (Kd.R_far (p:=⟨gb456,2,none⟩) (Kd.R_far (p:=⟨gb456,1,none⟩) (Kd.R_far (p:=⟨gb456,0,none⟩) (Kd.R_far (p:=⟨gb457,8,none⟩) (Kd.R_far (p:=⟨gb457,7,none⟩) (Kd.R_far (p:=⟨gb457,6,none⟩) (Kd.R_far (p:=⟨gb457,5,none⟩) (Kd.R_far (p:=⟨gb457,4,none⟩) (Kd.R_types (Kd.R_types HO462.out BK457.out (by decide)) BK456.out (by decide)) (fun _ hk=>hk.1.2) (.int .i64 t466)) (fun _ hk=>hk.1.2) (.int .i64 t467)) (fun _ hk=>hk.1.2) (.slice Ao18 t468.length co18)) (fun _ hk=>hk.1.2) (.slice Ao19 t471.length co19)) (fun _ hk=>hk.1.2) (.int .i64 a0_8)) (fun _ hk=>hk.2) (.int .i64 t458)) (fun _ hk=>hk.2) (.int .i64 t459)) (fun _ hk=>hk.2) (.slice Ao13 t460.length co13)) (fun _ hk=>hk.2) (.slice Ao14 t463.length co14)) (fun _ hk=>hk.2) (.int .i64 t466)) (fun _ hk=>hk.2) (.int .i64 t467)) (fun _ hk=>hk.2) (.slice Ao18 t468.length co18)) (fun _ hk=>hk.2) (.slice Ao19 t471.length co19)) (fun _ hk=>hk.2) (.int .i64 a0_8)) (fun _ hk=>⟨hk.1.1.1.1,⟨hk.1.1.1.2,hk.1.1.2⟩⟩),Kd.R_mono (Kd.R_far (p:=⟨gb456,8,none⟩) (Kd.R_far (p:=⟨gb456,7,none⟩) (Kd.R_far (p:=⟨gb456,6,none⟩) (Kd.R_far (p:=⟨gb456,5,none⟩) (Kd.R_far (p:=⟨gb456,4,none⟩) (Kd.R_far (p:=⟨gb456,3,none⟩) (Kd.R_far (p:=⟨gb456,2,none⟩) (Kd.R_far (p:=⟨gb456,1,none⟩) (Kd.R_far (p:=⟨gb456,0,none⟩) (Kd.R_far (p:=⟨gb457,8,none⟩) (Kd.R_far (p:=⟨gb457,7,none⟩) (Kd.R_far (p:=⟨gb457,6,none⟩) (Kd.R_far (p:=⟨gb457,5,none⟩) (Kd.R_far (p:=⟨gb457,4,none⟩) (Kd.R_types (Kd.R_types HO465.out BK457.out (by decide)) BK456.out (by decide)) (fun _ hk=>hk.1.2) (.int .i64 t466)) (fun _ hk=>hk.1.2) (.int .i64 t467)) (fun _ hk=>hk.1.2) (.slice Ao18 t468.length co18)) (fun _ hk=>hk.1.2) (.slice Ao19 t471.length co19)) (fun _ hk=>hk.1.2) (.int .i64 a0_8)) (fun _ hk=>hk.2) (.int .i64 t458)) (fun _ hk=>hk.2) (.int .i64 t459)) (fun _ hk=>hk.2) (.slice Ao13 t460.length co13)) (fun _ hk=>hk.2) (.slice Ao14 t463.length co14)) (fun _ hk=>hk.2) (.int .i64 t466)) (fun _ hk=>hk.2) (.int .i64 t467)) (fun _ hk=>hk.2) (.slice Ao18 t468.length co18)) (fun _ hk=>hk.2) (.slice Ao19 t471.length co19)) (fun _ hk=>hk.2) (.int .i64 a0_8)) (fun _ hk=>⟨hk.1.1.1.1,⟨hk.1.1.1.2,hk.1.1.2⟩⟩),Kd.R_mono (Kd.R_far (p:=⟨gb456,8,none⟩) (Kd.R_far (p:=⟨gb456,7,none⟩) (Kd.R_far (p:=⟨gb456,6,none⟩) (Kd.R_far (p:=⟨gb456,5,none⟩) (Kd.R_far (p:=⟨gb456,4,none⟩) (Kd.R_far (p:=⟨gb456,3,none⟩) (Kd.R_far (p:=⟨gb456,2,none⟩) (Kd.R_far (p:=⟨gb456,1,none⟩) (Kd.R_far (p:=⟨gb456,0,none⟩) (Kd.R_far (p:=⟨gb457,8,none⟩) (Kd.R_far (p:=⟨gb457,7,none⟩) (Kd.R_far (p:=⟨gb457,6,none⟩) (Kd.R_far (p:=⟨gb457,5,none⟩) (Kd.R_far (p:=⟨gb457,4,none⟩) (Kd.R_types (Kd.R_types HO470.out BK457.out (by decide)) BK456.out (by decide)) (fun _ hk=>hk.1.2) (.int .i64 t466)) (fun _ hk=>hk.1.2) (.int .i64 t467)) (fun _ hk=>hk.1.2) (.slice Ao18 t468.length co18)) (fun _ hk=>hk.1.2) (.slice Ao19 t471.length co19)) (fun _ hk=>hk.1.2) (.int .i64 a0_8)) (fun _ hk=>hk.2) (.int .i64 t458)) (fun _ hk=>hk.2) (.int .i64 t459)) (fun _ hk=>hk.2) (.slice Ao13 t460.length co13)) (fun _ hk=>hk.2) (.slice Ao14 t463.length co14)) (fun _ hk=>hk.2) (.int .i64 t466)) (fun _ hk=>hk.2) (.int .i64 t467)) (fun _ hk=>hk.2) (.slice Ao18 t468.length co18)) (fun _ hk=>hk.2) (.slice Ao19 t471.length co19)) (fun _ hk=>hk.2) (.int .i64 a0_8)) (fun _ hk=>⟨hk.1.1.1.2,⟨hk.1.1.2,hk.1.1.1.1⟩⟩),Kd.R_mono (Kd.R_far (p:=⟨gb456,8,none⟩) (Kd.R_far (p:=⟨gb456,7,none⟩) (Kd.R_far (p:=⟨gb456,6,none⟩) (Kd.R_far (p:=⟨gb456,5,none⟩) (Kd.R_far (p:=⟨gb456,4,none⟩) (Kd.R_far (p:=⟨gb456,3,none⟩) (Kd.R_far (p:=⟨gb456,2,none⟩) (Kd.R_far (p:=⟨gb456,1,none⟩) (Kd.R_far (p:=⟨gb456,0,none⟩) (Kd.R_far (p:=⟨gb457,8,none⟩) (Kd.R_far (p:=⟨gb457,7,none⟩) (Kd.R_far (p:=⟨gb457,6,none⟩) (Kd.R_far (p:=⟨gb457,5,none⟩) (Kd.R_far (p:=⟨gb457,4,none⟩) (Kd.R_types (Kd.R_types HO473.out BK457.out (by decide)) BK456.out (by decide)) (fun _ hk=>hk.1.2) (.int .i64 t466)) (fun _ hk=>hk.1.2) (.int .i64 t467)) (fun _ hk=>hk.1.2) (.slice Ao18 t468.length co18)) (fun _ hk=>hk.1.2) (.slice Ao19 t471.length co19)) (fun _ hk=>hk.1.2) (.int .i64 a0_8)) (fun _ hk=>hk.2) (.int .i64 t458)) (fun _ hk=>hk.2) (.int .i64 t459)) (fun _ hk=>hk.2) (.slice Ao13 t460.length co13)) (fun _ hk=>hk.2) (.slice Ao14 t463.length co14)) (fun _ hk=>hk.2) (.int .i64 t466)) (fun _ hk=>hk.2) (.int .i64 t467)) (fun _ hk=>hk.2) (.slice Ao18 t468.length co18)) (fun _ hk=>hk.2) (.slice Ao19 t471.length co19)) (fun _ hk=>hk.2) (.int .i64 a0_8)) (fun _ hk=>⟨hk.1.1.1.2,⟨hk.1.1.2,hk.1.1.1.1⟩⟩),by repeat (with_reducible first | exact HB.out | apply zae | apply zac | apply zaf | refine zag ?_ GE455.out | refine zag ?_ GE456.out | refine zag ?_ GE457.out)⟩
def laws_eqIntS.l0:Nat→List Int→List Int→Int→Option (Bool)
 | 0,_,_,_=>none
 | k+1,x0,x1,x5=>if x5<(x0.length:Int) then (if 0≤x5 then (if x5<(x1.length:Int) then (if (rd x0 x5)=(rd x1 x5) then (laws_eqIntS.l0 k x0 x1 (wrap64 (x5+1))) else (some false)) else (none)) else (none)) else (some true)
def laws_eqIntS.f (k:Nat) (l0:List Int) (l1:List Int):Option (Bool):=if (l0.length:Int)=(l1.length:Int) then (laws_eqIntS.l0 k l0 l1 0) else (some false)
set_option maxHeartbeats 8000000 in
set_option maxRecDepth 100000 in
theorem laws_eqIntS.calls (k:Nat) (A0:Option Addr) (c0:Nat) (l0:List Int) (A1:Option Addr) (c1:Nat) (l1:List Int) (r:Bool) (w:World) (hr0:Kd.C (Kd.int .i64) w A0 l0.length l0) (hc0:l0.length≤c0) (hr1:Kd.C (Kd.int .i64) w A1 l1.length l1) (hc1:l1.length≤c1) (h:laws_eqIntS.f k l0 l1=some r) :
  Calls Tru.prog 25 #[.slice A0 l0.length c0,.slice A1 l1.length c1] w fun e w'=>e = .returned (.bool r)∧Drawn0 w w':=by
 have HR0:=Aside0.mk hr0
 have HC0:=Aside0.mk hc0
 clear hr0 hc0
 have HR1:=Aside0.mk hr1
 have HC1:=Aside0.mk hc1
 clear hr1 hc1
 have H:(if (l0.length:Int)=(l1.length:Int) then (laws_eqIntS.l0 k l0 l1 0) else (some false))=some r:=h
 clear h
 by_cases c3:(l0.length:Int)=(l1.length:Int)
 ·rw [if_pos c3] at H
  have c3b0:((l0.length:Int) == (l1.length:Int))=true:=beq_iff_eq.mpr c3
  have c3b1:((l0.length:Int) != (l1.length:Int))=false:=bne_eq_false_iff_eq.mpr c3
  have c3b2:(l0.length == l1.length)=true:=by first | simpa using c3 | (simp at c3 ⊢;omega)
  clear c3
  have H':=Aside0.mk H
  clear H
  go_enter Tru.func25,Try.ntmps25
  go_wp2
  repeat (go_quiet (fail);try go_wp2)
  go_loopg [5] k (fun kq v5 w'=>∃ (x5_1:Int),v5 = .int .i64 x5_1∧Aside0 (laws_eqIntS.l0 kq l0 l1 x5_1=some r)∧Aside0 (kq≤k)∧Drawn0 w w')
  case atStart=>exact ⟨(0),rfl,H',⟨Nat.le_refl _⟩,by repeat (first | exact Drawn0.refl _ | apply Drawn0.step)⟩
  case round=>
   clear H'
   try clear c1
   try clear c2
   try clear p2
   try clear c3
   try clear c3b0
   try clear c3b1
   try clear c3b2
   obtain ⟨x5_1,rfl,HA,HK1,⟨m1,rfl⟩⟩:=hrel
   cases gk with
   | zero=>exact absurd HA.out (by simp [laws_eqIntS.l0])
   | succ k1=>
    have H:=HA.out
    clear HA
    simp only [laws_eqIntS.l0] at H
    by_cases c4:x5_1<(l0.length:Int)
    ·rw [if_pos c4] at H
     have c4b0:decide (x5_1<(l0.length:Int))=true:=decide_eq_true c4
     clear c4
     by_cases c5:0≤x5_1
     ·rw [if_pos c5] at H
      have c5b0:decide (0≤x5_1)=true:=decide_eq_true c5
      clear c5
      by_cases c6:x5_1<(l1.length:Int)
      ·rw [if_pos c6] at H
       have c6b0:decide (x5_1<(l1.length:Int))=true:=decide_eq_true c6
       clear c6
       by_cases c7:(rd l0 x5_1)=(rd l1 x5_1)
       ·rw [if_pos c7] at H
        have c7b0:((rd l0 x5_1) == (rd l1 x5_1))=true:=beq_iff_eq.mpr c7
        have c7b1:((rd l0 x5_1) != (rd l1 x5_1))=false:=bne_eq_false_iff_eq.mpr c7
        clear c7
        have H':=Aside0.mk H
        clear H
        have p474:0≤(x5_1:Int):=of_decide_eq_true ‹_›
        have q474:x5_1<(l0.length:Int):=of_decide_eq_true ‹_›
        obtain ⟨ad474,e474,hx474_0⟩:=Kd.at_int HR0.out x5_1 p474 q474
        cases e474
        replace p474:=eq_true p474
        replace q474:=eq_true q474
        have p475:0≤(x5_1:Int):=of_decide_eq_true ‹_›
        have q475:x5_1<(l1.length:Int):=of_decide_eq_true ‹_›
        obtain ⟨ad475,e475,hx475_0⟩:=Kd.at_int HR1.out x5_1 p475 q475
        cases e475
        replace p475:=eq_true p475
        replace q475:=eq_true q475
        go_wp2
        repeat (go_quiet (fail);try go_wp2)
        go_roundg k1
        case measure=>have:=HK1.out;omega
        case rel=>exact ⟨(wrap64 (x5_1+1)),rfl,H',⟨by have:=HK1.out;omega⟩,⟨_,rfl⟩⟩
       ·rw [if_neg c7] at H
        have c7b0:((rd l0 x5_1) == (rd l1 x5_1))=false:=beq_eq_false_iff_ne.mpr c7
        have c7b1:((rd l0 x5_1) != (rd l1 x5_1))=true:=bne_iff_ne.mpr c7
        obtain rfl:=Option.some.inj H
        have p474:0≤(x5_1:Int):=of_decide_eq_true ‹_›
        have q474:x5_1<(l0.length:Int):=of_decide_eq_true ‹_›
        obtain ⟨ad474,e474,hx474_0⟩:=Kd.at_int HR0.out x5_1 p474 q474
        cases e474
        replace p474:=eq_true p474
        replace q474:=eq_true q474
        have p475:0≤(x5_1:Int):=of_decide_eq_true ‹_›
        have q475:x5_1<(l1.length:Int):=of_decide_eq_true ‹_›
        obtain ⟨ad475,e475,hx475_0⟩:=Kd.at_int HR1.out x5_1 p475 q475
        cases e475
        replace p475:=eq_true p475
        replace q475:=eq_true q475
        go_wp2
        repeat (go_quiet (fail);try go_wp2)
        go_ret
        exact ⟨rfl,by repeat (first | exact Drawn0.refl _ | apply Drawn0.step)⟩
      ·rw [if_neg c6] at H
       exact absurd H (by simp)
     ·rw [if_neg c5] at H
      exact absurd H (by simp)
    ·rw [if_neg c4] at H
     have c4b0:decide (x5_1<(l0.length:Int))=false:=decide_eq_false c4
     clear c4
     obtain rfl:=Option.some.inj H
     go_wp2
     repeat (go_quiet (fail);try go_wp2)
     go_ret
     exact ⟨rfl,⟨_,rfl⟩⟩
 ·rw [if_neg c3] at H
  have c3b0:((l0.length:Int) == (l1.length:Int))=false:=beq_eq_false_iff_ne.mpr c3
  have c3b1:((l0.length:Int) != (l1.length:Int))=true:=bne_iff_ne.mpr c3
  have c3b2:(l0.length == l1.length)=false:=by first | simpa using c3 | (simp at c3 ⊢;omega)
  obtain rfl:=Option.some.inj H
  go_enter Tru.func25,Try.ntmps25
  go_wp2
  repeat (go_quiet (fail);try go_wp2)
  go_ret
  exact ⟨rfl,by repeat (first | exact Drawn0.refl _ | apply Drawn0.step)⟩
end Go.Proofs.Ytjkikkgpenhbgaa.Ba
