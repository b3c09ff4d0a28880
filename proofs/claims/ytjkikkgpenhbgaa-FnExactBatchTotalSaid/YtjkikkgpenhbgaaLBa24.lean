import Derived.Test.YtjkikkgpenhbgaaLBa0
import Derived.Test.YtjkikkgpenhbgaaLBa12
import Derived.Test.YtjkikkgpenhbgaaLBa18
import Derived.Test.YtjkikkgpenhbgaaLBa21
namespace Go.Proofs.Ytjkikkgpenhbgaa.Ba
open Go.RowKit Go.Proofs.YtjkikkgpenhbgaaW.PrintWords Go.Proofs.YtjkikkgpenhbgaaW.PrintLast Go.Proofs.YtjkikkgpenhbgaaW.PrintMore
attribute [local go_sem] max2_int min2_int max_two min_two max_three min_three max_four min_four
set_option linter.unusedVariables false
set_option linter.unusedSimpArgs false
def spec_BatchTotal.l0:Nat→List Int→Bool→Int→Int→Int→Int→Int→List Int→List Int→Int→Int→List Int→List Int→Int→Option (Int×Bool)
 | 0,_,_,_,_,_,_,_,_,_,_,_,_,_,_=>none
 | k+1,x4,x6,x7,x8,x9,x598000,x598001,x598002,x598003,x598004,x598005,x598006,x598007,x598008=>if x9<(x4.length:Int) then (if x598001=2 then (if 0≤x9 then (spec_BatchTotal.l0 k x4 x6 (wrap64 (x7+(wrap64 (x9*(rd x4 x9))))) x8 (wrap64 (x9+1)) x598000 x598001 x598002 x598003 x598004 x598005 x598006 x598007 x598008) else (none)) else (if 0≤x9 then (spec_BatchTotal.l0 k x4 x6 (wrap64 (x7+(wrap64 (x8*(rd x4 x9))))) (wrap64 (2*x8)) (wrap64 (x9+1)) x598000 x598001 x598002 x598003 x598004 x598005 x598006 x598007 x598008) else (none))) else (some (x7,x6))
def spec_BatchTotal.f (k:Nat) (a0_0:Int) (a0_1:Int) (l0_2:List Int) (l0_3:List Int) (a0_4:Int) (a0_5:Int) (l0_6:List Int) (l0_7:List Int) (a0_8:Int):Option (Int×Bool):=(spec_BatchTell.f k a0_0 a0_1 l0_2 l0_3 a0_4 a0_5 l0_6 l0_7 a0_8).bind fun bt598=>(spec_BatchTotal.l0 k bt598.1 bt598.2.2 0 1 0 a0_0 a0_1 l0_2 l0_3 a0_4 a0_5 l0_6 l0_7 a0_8)
set_option maxHeartbeats 8000000 in
set_option maxRecDepth 100000 in
theorem spec_BatchTotal.calls (k:Nat) (a0_0:Int) (a0_1:Int) (A0_2:Option Addr) (c0_2:Nat) (l0_2:List Int) (A0_3:Option Addr) (c0_3:Nat) (l0_3:List Int) (a0_4:Int) (a0_5:Int) (A0_6:Option Addr) (c0_6:Nat) (l0_6:List Int) (A0_7:Option Addr) (c0_7:Nat) (l0_7:List Int) (a0_8:Int) (r1:Int) (r2:Bool) (w:World) (hr0_2:Kd.C (Kd.int .i64) w A0_2 l0_2.length l0_2) (hc0_2:l0_2.length≤c0_2) (hr0_3:Kd.C (Kd.int .i64) w A0_3 l0_3.length l0_3) (hc0_3:l0_3.length≤c0_3) (hr0_6:Kd.C (Kd.int .i64) w A0_6 l0_6.length l0_6) (hc0_6:l0_6.length≤c0_6) (hr0_7:Kd.C (Kd.int .i64) w A0_7 l0_7.length l0_7) (hc0_7:l0_7.length≤c0_7) (h:spec_BatchTotal.f k a0_0 a0_1 l0_2 l0_3 a0_4 a0_5 l0_6 l0_7 a0_8=some (r1,r2)) :
  Calls Tru.prog 30 #[.agg #[.int .i64 a0_0,.int .i64 a0_1,.slice A0_2 l0_2.length c0_2,.slice A0_3 l0_3.length c0_3,.int .i64 a0_4,.int .i64 a0_5,.slice A0_6 l0_6.length c0_6,.slice A0_7 l0_7.length c0_7,.int .i64 a0_8]] w fun e w'=>e = .returned (.tuple #[.int .i64 r1,.bool r2])∧Below w.heap.size w w':=by
 have hu38:=((Tru.und _).trans Try.underlying38)
 have HR0_2:=Aside0.mk hr0_2
 have HC0_2:=Aside0.mk hc0_2
 clear hr0_2 hc0_2
 have HR0_3:=Aside0.mk hr0_3
 have HC0_3:=Aside0.mk hc0_3
 clear hr0_3 hc0_3
 have HR0_6:=Aside0.mk hr0_6
 have HC0_6:=Aside0.mk hc0_6
 clear hr0_6 hc0_6
 have HR0_7:=Aside0.mk hr0_7
 have HC0_7:=Aside0.mk hc0_7
 clear hr0_7 hc0_7
 have HB:=Aside0.mk (Below.refl w.heap.size w)
 have H:((spec_BatchTell.f k a0_0 a0_1 l0_2 l0_3 a0_4 a0_5 l0_6 l0_7 a0_8).bind fun bt598=>(spec_BatchTotal.l0 k bt598.1 bt598.2.2 0 1 0 a0_0 a0_1 l0_2 l0_3 a0_4 a0_5 l0_6 l0_7 a0_8))=some (r1,r2):=h
 clear h
 replace H:=Option.bind_eq_some_iff.mp H
 obtain ⟨⟨t598,t601,t602⟩,A20,H⟩:=H
 replace H:(spec_BatchTotal.l0 k t598 t602 0 1 0 a0_0 a0_1 l0_2 l0_3 a0_4 a0_5 l0_6 l0_7 a0_8)=some (r1,r2):=H
 have A2:=Aside0.mk A20
 clear A20
 have H':=Aside0.mk H
 clear H
 go_enter Tru.func30,Try.ntmps30
 go_wp2_with (first | ((with_reducible refine zam (N:=1) rfl ?_);refine box_event ?hg (N:=1) ?hd (cs:=#[.int .i64 a0_0,.int .i64 a0_1,.slice A0_2 l0_2.length c0_2,.slice A0_3 l0_3.length c0_3,.int .i64 a0_4,.int .i64 a0_5,.slice A0_6 l0_6.length c0_6,.slice A0_7 l0_7.length c0_7,.int .i64 a0_8]) (t:=38) ?hr ?_;(case hd=>rfl);(case hg=>rfl);(case hr=>first | (go_simp;done) | (go_simp;rfl));intro gb597 hg w3 hbox hb;have n0_:=Aside0.mk (zao (by repeat (first | (with_reducible first | exact HB.out | apply zae | apply zac | apply zaf) | exact HB.out)) hb);have n1_:=Aside0.mk (hbox);have n2_:=Aside0.mk ((by rw [hg];exact (zal (by repeat (first | (with_reducible first | exact HB.out | apply zae | apply zac | apply zaf) | exact HB.out))):w.heap.size≤gb597));have n3_:=Aside0.mk ((by rw [hg];exact (zal (by repeat (first | (with_reducible first | exact HB.out | apply zae | apply zac | apply zaf) | exact HB.out))):w.heap.size≤gb597));clear HB;have HB:=n0_;have BK597:=n1_;have GW597:=n2_;have GE597:=n3_;clear n0_ n1_ n2_ n3_;clear hb hbox hg;have hcz4_0:w3.cell? ⟨gb597,0,none⟩=some (.int .i64 a0_0):=(zab BK597.out 0).trans rfl;have hcz4_1:w3.cell? ⟨gb597,1,none⟩=some (.int .i64 a0_1):=(zab BK597.out 1).trans rfl;have hcz4_2:w3.cell? ⟨gb597,2,none⟩=some (.slice A0_2 l0_2.length c0_2):=(zab BK597.out 2).trans rfl;have hcz4_3:w3.cell? ⟨gb597,3,none⟩=some (.slice A0_3 l0_3.length c0_3):=(zab BK597.out 3).trans rfl;have hcz4_4:w3.cell? ⟨gb597,4,none⟩=some (.int .i64 a0_4):=(zab BK597.out 4).trans rfl;have hcz4_5:w3.cell? ⟨gb597,5,none⟩=some (.int .i64 a0_5):=(zab BK597.out 5).trans rfl;have hcz4_6:w3.cell? ⟨gb597,6,none⟩=some (.slice A0_6 l0_6.length c0_6):=(zab BK597.out 6).trans rfl;have hcz4_7:w3.cell? ⟨gb597,7,none⟩=some (.slice A0_7 l0_7.length c0_7):=(zab BK597.out 7).trans rfl;have hcz4_8:w3.cell? ⟨gb597,8,none⟩=some (.int .i64 a0_8):=(zab BK597.out 8).trans rfl;have hfz4_0:=zaa BK597.out 0;have hfz4_1:=zaa BK597.out 1;have hfz4_2:=zaa BK597.out 2;have hfz4_3:=zaa BK597.out 3;have hfz4_4:=zaa BK597.out 4;have hfz4_5:=zaa BK597.out 5;have hfz4_6:=zaa BK597.out 6;have hfz4_7:=zaa BK597.out 7;have hfz4_8:=zaa BK597.out 8) | ((with_reducible refine zah (f:=23) rfl ?_);refine goesL_ (some 12) rfl rfl Tru.func23 (by kernel_rfl) rfl #[.agg #[.int .i64 a0_0,.int .i64 a0_1,.slice A0_2 l0_2.length c0_2,.slice A0_3 l0_3.length c0_3,.int .i64 a0_4,.int .i64 a0_5,.slice A0_6 l0_6.length c0_6,.slice A0_7 l0_7.length c0_7,.int .i64 a0_8]] rfl (by (try simp only [List.map_toArray,List.map_cons,List.map_nil]);first | done | rfl | (simp only [List.length_drop,List.length_take];rfl)) ?_;(with_reducible refine (spec_BatchTell.calls k a0_0 a0_1 _ _ l0_2 _ _ l0_3 a0_4 a0_5 _ _ l0_6 _ _ l0_7 a0_8 t598 t601 t602 _ ?side1 ?side2 ?side3 ?side4 ?side5 ?side6 ?side7 ?side8 A2.out).mono ?_);(case side1=>repeat (first | exact (Kd.C_below HR0_2.out HB.out) | (with_reducible refine Kd.C_alloc ?_ _) | (with_reducible refine Kd.C_drewN ?_ _) | (with_reducible refine Kd.C_drew ?_)));(case side2=>exact HC0_2.out);(case side3=>repeat (first | exact (Kd.C_below HR0_3.out HB.out) | (with_reducible refine Kd.C_alloc ?_ _) | (with_reducible refine Kd.C_drewN ?_ _) | (with_reducible refine Kd.C_drew ?_)));(case side4=>exact HC0_3.out);(case side5=>repeat (first | exact (Kd.C_below HR0_6.out HB.out) | (with_reducible refine Kd.C_alloc ?_ _) | (with_reducible refine Kd.C_drewN ?_ _) | (with_reducible refine Kd.C_drew ?_)));(case side6=>exact HC0_6.out);(case side7=>repeat (first | exact (Kd.C_below HR0_7.out HB.out) | (with_reducible refine Kd.C_alloc ?_ _) | (with_reducible refine Kd.C_drewN ?_ _) | (with_reducible refine Kd.C_drew ?_)));(case side8=>exact HC0_7.out);rintro e w5 ⟨v599,rfl,ho0,hb⟩;refine ⟨_,rfl,?_⟩;have n0_:=Aside0.mk (Kd.R_lower ho0 (zal (by repeat (first | (with_reducible first | exact HB.out | apply zae | apply zac | apply zaf | refine zag ?_ GE597.out) | exact HB.out))));have n1_:=Aside0.mk (zaq (g:=gb597) (o:=.cells #[.int .i64 a0_0,.int .i64 a0_1,.slice A0_2 l0_2.length c0_2,.slice A0_3 l0_3.length c0_3,.int .i64 a0_4,.int .i64 a0_5,.slice A0_6 l0_6.length c0_6,.slice A0_7 l0_7.length c0_7,.int .i64 a0_8] 38 (0,0)) (by (with_reducible repeat (first | refine zaj ?_ _ | refine zak ?_ | refine zai ?_ _));exact BK597.out) hb);have n2_:=Aside0.mk (zao (by repeat (first | (with_reducible first | exact HB.out | apply zae | apply zac | apply zaf | refine zag ?_ GE597.out) | exact HB.out)) hb);clear BK597;clear HB;have HO600:=n0_;have BK597:=n1_;have HB:=n2_;clear n0_ n1_ n2_;(try clear hb);(try clear hb2);(try clear hk);(try clear hi);(try clear ho0)))
 go_loopg [7,8,9] k (fun kq v7 v8 v9 w'=>∃ (x7_1:Int) (x8_1:Int) (x9_1:Int),v7 = .int .i64 x7_1∧v8 = .int .i64 x8_1∧v9 = .int .i64 x9_1∧Aside0 (spec_BatchTotal.l0 kq t598 t602 x7_1 x8_1 x9_1 a0_0 a0_1 l0_2 l0_3 a0_4 a0_5 l0_6 l0_7 a0_8=some (r1,r2))∧Aside0 (kq≤k)∧Aside0 (Kd.R (Kd.int .i64) 3 w' w.heap.size (fun _=>True) v599 t598)∧Aside0 (w'.heap[gb597]? = some (.cells #[.int .i64 a0_0,.int .i64 a0_1,(.slice A0_2 l0_2.length c0_2),(.slice A0_3 l0_3.length c0_3),.int .i64 a0_4,.int .i64 a0_5,(.slice A0_6 l0_6.length c0_6),(.slice A0_7 l0_7.length c0_7),.int .i64 a0_8] 38 (0,0)))∧Aside0 (Below w.heap.size w w'))
 case atStart=>exact ⟨(0),(1),(0),(by first | rfl | (simp;done) | (simp [*];done)),(by first | rfl | (simp;done) | (simp [*];done)),(by first | rfl | (simp;done) | (simp [*];done)),H',⟨Nat.le_refl _⟩,⟨by (with_reducible repeat (first | apply Kd.R_alloc | apply Kd.R_drewN | apply Kd.R_drew));exact HO600.out⟩,⟨by (with_reducible repeat (first | refine zaj ?_ _ | refine zak ?_ | refine zai ?_ _));exact BK597.out⟩,⟨by repeat (first | (with_reducible first | exact HB.out | apply zae | apply zac | apply zaf | refine zag ?_ GE597.out) | exact HB.out)⟩⟩
 case round=>
  clear H'
  try clear c2
  try clear p2
  try clear c3
  try clear hcz4_0
  try clear hcz4_1
  try clear hcz4_2
  try clear hcz4_3
  try clear hcz4_4
  try clear hcz4_5
  try clear hcz4_6
  try clear hcz4_7
  try clear hcz4_8
  try clear hfz4_0
  try clear hfz4_1
  try clear hfz4_2
  try clear hfz4_3
  try clear hfz4_4
  try clear hfz4_5
  try clear hfz4_6
  try clear hfz4_7
  try clear hfz4_8
  obtain ⟨x7_1,x8_1,x9_1,rfl,rfl,rfl,HA,HK1,HO_4,BK597,HB⟩:=hrel
  cases gk with
  | zero=>exact absurd HA.out (by simp [spec_BatchTotal.l0])
  | succ k1=>
   have H:=HA.out
   clear HA
   simp only [spec_BatchTotal.l0] at H
   by_cases c6:x9_1<(t598.length:Int)
   ·rw [if_pos c6] at H
    have c6b0:decide (x9_1<(t598.length:Int))=true:=decide_eq_true c6
    clear c6
    by_cases c7:a0_1=2
    ·rw [if_pos c7] at H
     have c7b0:(a0_1 == 2)=true:=beq_iff_eq.mpr c7
     have c7b1:(a0_1 != 2)=false:=bne_eq_false_iff_eq.mpr c7
     clear c7
     by_cases c8:0≤x9_1
     ·rw [if_pos c8] at H
      have c8b0:decide (0≤x9_1)=true:=decide_eq_true c8
      clear c8
      have H':=Aside0.mk H
      clear H
      obtain ⟨Ao9,co9,eo9⟩:=Kd.R_slice HO_4.out
      subst eo9
      have hcz10_0:wr.cell? ⟨gb597,0,none⟩=some (.int .i64 a0_0):=(zab BK597.out 0).trans rfl
      have hcz10_1:wr.cell? ⟨gb597,1,none⟩=some (.int .i64 a0_1):=(zab BK597.out 1).trans rfl
      have hcz10_2:wr.cell? ⟨gb597,2,none⟩=some (.slice A0_2 l0_2.length c0_2):=(zab BK597.out 2).trans rfl
      have hcz10_3:wr.cell? ⟨gb597,3,none⟩=some (.slice A0_3 l0_3.length c0_3):=(zab BK597.out 3).trans rfl
      have hcz10_4:wr.cell? ⟨gb597,4,none⟩=some (.int .i64 a0_4):=(zab BK597.out 4).trans rfl
      have hcz10_5:wr.cell? ⟨gb597,5,none⟩=some (.int .i64 a0_5):=(zab BK597.out 5).trans rfl
      have hcz10_6:wr.cell? ⟨gb597,6,none⟩=some (.slice A0_6 l0_6.length c0_6):=(zab BK597.out 6).trans rfl
      have hcz10_7:wr.cell? ⟨gb597,7,none⟩=some (.slice A0_7 l0_7.length c0_7):=(zab BK597.out 7).trans rfl
      have hcz10_8:wr.cell? ⟨gb597,8,none⟩=some (.int .i64 a0_8):=(zab BK597.out 8).trans rfl
      have hfz10_0:=zaa BK597.out 0
      have hfz10_1:=zaa BK597.out 1
      have hfz10_2:=zaa BK597.out 2
      have hfz10_3:=zaa BK597.out 3
      have hfz10_4:=zaa BK597.out 4
      have hfz10_5:=zaa BK597.out 5
      have hfz10_6:=zaa BK597.out 6
      have hfz10_7:=zaa BK597.out 7
      have hfz10_8:=zaa BK597.out 8
      have p603:0≤(x9_1:Int):=of_decide_eq_true (by first | (with_reducible assumption) | assumption)
      have q603:x9_1<(t598.length:Int):=of_decide_eq_true (by first | (with_reducible assumption) | assumption)
      obtain ⟨ad603,e603,hx603_0⟩:=Kd.at_int (Kd.R_reads' HO_4.out).2.2 x9_1 p603 q603
      cases e603
      replace p603:=eq_true p603
      replace q603:=eq_true q603
      go_wp2
      go_roundg k1
      case measure=>have:=HK1.out;omega
      case rel=>exact ⟨(wrap64 (x7_1+(wrap64 (x9_1*(rd t598 x9_1))))),(x8_1),(wrap64 (x9_1+1)),(by first | rfl | (simp;done) | (simp [*];done)),(by first | rfl | (simp;done) | (simp [*];done)),(by first | rfl | (simp;done) | (simp [*];done)),H',⟨by have:=HK1.out;omega⟩,⟨by (with_reducible repeat (first | apply Kd.R_alloc | apply Kd.R_drewN | apply Kd.R_drew));exact HO_4.out⟩,⟨by (with_reducible repeat (first | refine zaj ?_ _ | refine zak ?_ | refine zai ?_ _));exact BK597.out⟩,⟨by repeat (first | (with_reducible first | exact HB.out | apply zae | apply zac | apply zaf | refine zag ?_ GE597.out) | exact HB.out)⟩⟩
     ·rw [if_neg c8] at H
      exact absurd H (by simp)
    ·rw [if_neg c7] at H
     have c7b0:(a0_1 == 2)=false:=beq_eq_false_iff_ne.mpr c7
     have c7b1:(a0_1 != 2)=true:=bne_iff_ne.mpr c7
     by_cases c11:0≤x9_1
     ·rw [if_pos c11] at H
      have c11b0:decide (0≤x9_1)=true:=decide_eq_true c11
      clear c11
      have H':=Aside0.mk H
      clear H
      obtain ⟨Ao12,co12,eo12⟩:=Kd.R_slice HO_4.out
      subst eo12
      have hcz13_0:wr.cell? ⟨gb597,0,none⟩=some (.int .i64 a0_0):=(zab BK597.out 0).trans rfl
      have hcz13_1:wr.cell? ⟨gb597,1,none⟩=some (.int .i64 a0_1):=(zab BK597.out 1).trans rfl
      have hcz13_2:wr.cell? ⟨gb597,2,none⟩=some (.slice A0_2 l0_2.length c0_2):=(zab BK597.out 2).trans rfl
      have hcz13_3:wr.cell? ⟨gb597,3,none⟩=some (.slice A0_3 l0_3.length c0_3):=(zab BK597.out 3).trans rfl
      have hcz13_4:wr.cell? ⟨gb597,4,none⟩=some (.int .i64 a0_4):=(zab BK597.out 4).trans rfl
      have hcz13_5:wr.cell? ⟨gb597,5,none⟩=some (.int .i64 a0_5):=(zab BK597.out 5).trans rfl
      have hcz13_6:wr.cell? ⟨gb597,6,none⟩=some (.slice A0_6 l0_6.length c0_6):=(zab BK597.out 6).trans rfl
      have hcz13_7:wr.cell? ⟨gb597,7,none⟩=some (.slice A0_7 l0_7.length c0_7):=(zab BK597.out 7).trans rfl
      have hcz13_8:wr.cell? ⟨gb597,8,none⟩=some (.int .i64 a0_8):=(zab BK597.out 8).trans rfl
      have hfz13_0:=zaa BK597.out 0
      have hfz13_1:=zaa BK597.out 1
      have hfz13_2:=zaa BK597.out 2
      have hfz13_3:=zaa BK597.out 3
      have hfz13_4:=zaa BK597.out 4
      have hfz13_5:=zaa BK597.out 5
      have hfz13_6:=zaa BK597.out 6
      have hfz13_7:=zaa BK597.out 7
      have hfz13_8:=zaa BK597.out 8
      have p604:0≤(x9_1:Int):=of_decide_eq_true (by first | (with_reducible assumption) | assumption)
      have q604:x9_1<(t598.length:Int):=of_decide_eq_true (by first | (with_reducible assumption) | assumption)
      obtain ⟨ad604,e604,hx604_0⟩:=Kd.at_int (Kd.R_reads' HO_4.out).2.2 x9_1 p604 q604
      cases e604
      replace p604:=eq_true p604
      replace q604:=eq_true q604
      go_wp2
      go_roundg k1
      case measure=>have:=HK1.out;omega
      case rel=>exact ⟨(wrap64 (x7_1+(wrap64 (x8_1*(rd t598 x9_1))))),(wrap64 (2*x8_1)),(wrap64 (x9_1+1)),(by first | rfl | (simp;done) | (simp [*];done)),(by first | rfl | (simp;done) | (simp [*];done)),(by first | rfl | (simp;done) | (simp [*];done)),H',⟨by have:=HK1.out;omega⟩,⟨by (with_reducible repeat (first | apply Kd.R_alloc | apply Kd.R_drewN | apply Kd.R_drew));exact HO_4.out⟩,⟨by (with_reducible repeat (first | refine zaj ?_ _ | refine zak ?_ | refine zai ?_ _));exact BK597.out⟩,⟨by repeat (first | (with_reducible first | exact HB.out | apply zae | apply zac | apply zaf | refine zag ?_ GE597.out) | exact HB.out)⟩⟩
     ·rw [if_neg c11] at H
      exact absurd H (by simp)
   ·rw [if_neg c6] at H
    have c6b0:decide (x9_1<(t598.length:Int))=false:=decide_eq_false c6
    clear c6
    simp only [Option.some.injEq,Prod.mk.injEq] at H
    obtain ⟨rfl,rfl⟩:=H
    obtain ⟨Ao14,co14,eo14⟩:=Kd.R_slice HO_4.out
    subst eo14
    go_wp2
    go_ret2
    exact ⟨by first | rfl | (simp [errW_none,errW_some] <;> rfl) | (simp [*,errW_none,errW_some] <;> rfl),by repeat (first | (with_reducible first | exact HB.out | apply zae | apply zac | apply zaf | refine zag ?_ GE597.out) | exact HB.out)⟩
def impl_oneHot.f (a0:Int):Option Bool:=some (decide (a0=2))
set_option maxRecDepth 100000 in
theorem oneHot_ta0 (w:World):(Instr.typeAssert .nilIface 73 98 true).run Tru.prog w = .ok (.tuple #[.agg #[],.bool false]) w:=by kernel_rfl
set_option maxRecDepth 100000 in
theorem oneHot_ta1 (w:World):(Instr.typeAssert (.iface 97 (.agg #[])) 73 98 true).run Tru.prog w = .ok (.tuple #[.agg #[],.bool false]) w:=by kernel_rfl
set_option maxRecDepth 100000 in
theorem oneHot_ta2 (w:World):(Instr.typeAssert (.iface 98 (.agg #[])) 73 98 true).run Tru.prog w = .ok (.tuple #[.agg #[],.bool true]) w:=by kernel_rfl
set_option maxRecDepth 100000 in
theorem oneHot_ta3 (w:World):(Instr.typeAssert (.iface 99 (.agg #[])) 73 98 true).run Tru.prog w = .ok (.tuple #[.agg #[],.bool false]) w:=by kernel_rfl
set_option maxRecDepth 100000 in
theorem impl_oneHot.calls (a0:Int) (r:Bool) (w:World) (h:impl_oneHot.f a0=some r) :
  Calls Tru.prog 61 #[.int .i64 a0] w fun e w'=>e = .returned (.bool r)∧Drawn0 w w':=by
 obtain rfl:=Option.some.inj h
 clear h
 have t0:=oneHot_ta0
 have t1:=oneHot_ta1
 have t2:=oneHot_ta2
 have t3:=oneHot_ta3
 by_cases h1:a0=1
 ·subst h1
  rw [show decide ((1:Int)=2)=false from rfl]
  go_enter Tru.func61,Try.ntmps61
  go_wp2_with (first | (go_at_call 51;refine (measureOf.c1 _).mono ?_;rintro e w' ⟨rfl,rfl⟩))
  go_ret
  exact ⟨rfl,Drawn0.refl _⟩
 by_cases h2:a0=2
 ·subst h2
  rw [show decide ((2:Int)=2)=true from rfl]
  go_enter Tru.func61,Try.ntmps61
  go_wp2_with (first | (go_at_call 51;refine (measureOf.c2 _).mono ?_;rintro e w' ⟨rfl,rfl⟩))
  go_ret
  exact ⟨rfl,Drawn0.refl _⟩
 by_cases h3:a0=3
 ·subst h3
  rw [show decide ((3:Int)=2)=false from rfl]
  go_enter Tru.func61,Try.ntmps61
  go_wp2_with (first | (go_at_call 51;refine (measureOf.c3 _).mono ?_;rintro e w' ⟨rfl,rfl⟩))
  go_ret
  exact ⟨rfl,Drawn0.refl _⟩
 ·rw [show decide (a0=2)=false by simp [h2]]
  go_enter Tru.func61,Try.ntmps61
  go_wp2_with (first | (go_at_call 51;refine (measureOf.c0 a0 _ h1 h2 h3).mono ?_;rintro e w' ⟨rfl,rfl⟩))
  go_ret
  exact ⟨rfl,Drawn0.refl _⟩
def impl_BatchTotal.l0:Nat→Bool→Int→List Int→Int→Int→Int→Int→List Int→List Int→Int→Int→List Int→List Int→Int→Option (Int×Bool)
 | 0,_,_,_,_,_,_,_,_,_,_,_,_,_,_=>none
 | k+1,x6,x7,x17,x18,x19,x606000,x606001,x606002,x606003,x606004,x606005,x606006,x606007,x606008=>if x19<x18 then (if 0≤x19 then (if x19<(x17.length:Int) then ((impl_oneHot.f x606001).bind fun t612=>(if t612=true then (impl_BatchTotal.l0 k x6 (wrap64 (x7+(wrap64 (x19*(rd x17 x19))))) x17 x18 (wrap64 (x19+1)) x606000 x606001 x606002 x606003 x606004 x606005 x606006 x606007 x606008) else (impl_BatchTotal.l0 k x6 (wrap64 (x7+(wrap64 ((shl .i64 1 x19)*(rd x17 x19))))) x17 x18 (wrap64 (x19+1)) x606000 x606001 x606002 x606003 x606004 x606005 x606006 x606007 x606008))) else (none)) else (none)) else (some (x7,x6))
def impl_BatchTotal.f (k:Nat) (a0_0:Int) (a0_1:Int) (l0_2:List Int) (l0_3:List Int) (a0_4:Int) (a0_5:Int) (l0_6:List Int) (l0_7:List Int) (a0_8:Int):Option (Int×Bool):=(impl_BatchTell.f k a0_0 a0_1 l0_2 l0_3 a0_4 a0_5 l0_6 l0_7 a0_8).bind fun bt606=>(impl_BatchTotal.l0 k bt606.2.2 0 bt606.1 (bt606.1.length:Int) 0 a0_0 a0_1 l0_2 l0_3 a0_4 a0_5 l0_6 l0_7 a0_8)
set_option maxHeartbeats 8000000 in
set_option maxRecDepth 100000 in
theorem impl_BatchTotal.calls (k:Nat) (a0_0:Int) (a0_1:Int) (A0_2:Option Addr) (c0_2:Nat) (l0_2:List Int) (A0_3:Option Addr) (c0_3:Nat) (l0_3:List Int) (a0_4:Int) (a0_5:Int) (A0_6:Option Addr) (c0_6:Nat) (l0_6:List Int) (A0_7:Option Addr) (c0_7:Nat) (l0_7:List Int) (a0_8:Int) (r1:Int) (r2:Bool) (w:World) (hr0_2:Kd.C (Kd.int .i64) w A0_2 l0_2.length l0_2) (hc0_2:l0_2.length≤c0_2) (hr0_3:Kd.C (Kd.int .i64) w A0_3 l0_3.length l0_3) (hc0_3:l0_3.length≤c0_3) (hr0_6:Kd.C (Kd.int .i64) w A0_6 l0_6.length l0_6) (hc0_6:l0_6.length≤c0_6) (hr0_7:Kd.C (Kd.int .i64) w A0_7 l0_7.length l0_7) (hc0_7:l0_7.length≤c0_7) (h:impl_BatchTotal.f k a0_0 a0_1 l0_2 l0_3 a0_4 a0_5 l0_6 l0_7 a0_8=some (r1,r2)) :
  Calls Tru.prog 31 #[.agg #[.int .i64 a0_0,.int .i64 a0_1,.slice A0_2 l0_2.length c0_2,.slice A0_3 l0_3.length c0_3,.int .i64 a0_4,.int .i64 a0_5,.slice A0_6 l0_6.length c0_6,.slice A0_7 l0_7.length c0_7,.int .i64 a0_8]] w fun e w'=>e = .returned (.tuple #[.int .i64 r1,.bool r2])∧Below w.heap.size w w':=by
 have hu38:=((Tru.und _).trans Try.underlying38)
 have HR0_2:=Aside0.mk hr0_2
 have HC0_2:=Aside0.mk hc0_2
 clear hr0_2 hc0_2
 have HR0_3:=Aside0.mk hr0_3
 have HC0_3:=Aside0.mk hc0_3
 clear hr0_3 hc0_3
 have HR0_6:=Aside0.mk hr0_6
 have HC0_6:=Aside0.mk hc0_6
 clear hr0_6 hc0_6
 have HR0_7:=Aside0.mk hr0_7
 have HC0_7:=Aside0.mk hc0_7
 clear hr0_7 hc0_7
 have HB:=Aside0.mk (Below.refl w.heap.size w)
 have H:((impl_BatchTell.f k a0_0 a0_1 l0_2 l0_3 a0_4 a0_5 l0_6 l0_7 a0_8).bind fun bt606=>(impl_BatchTotal.l0 k bt606.2.2 0 bt606.1 (bt606.1.length:Int) 0 a0_0 a0_1 l0_2 l0_3 a0_4 a0_5 l0_6 l0_7 a0_8))=some (r1,r2):=h
 clear h
 replace H:=Option.bind_eq_some_iff.mp H
 obtain ⟨⟨t606,t609,t610⟩,A20,H⟩:=H
 replace H:(impl_BatchTotal.l0 k t610 0 t606 (t606.length:Int) 0 a0_0 a0_1 l0_2 l0_3 a0_4 a0_5 l0_6 l0_7 a0_8)=some (r1,r2):=H
 have A2:=Aside0.mk A20
 clear A20
 have H':=Aside0.mk H
 clear H
 go_enter Tru.func31,Try.ntmps31
 go_wp2_with (first | ((with_reducible refine zam (N:=1) rfl ?_);refine box_event ?hg (N:=1) ?hd (cs:=#[.int .i64 a0_0,.int .i64 a0_1,.slice A0_2 l0_2.length c0_2,.slice A0_3 l0_3.length c0_3,.int .i64 a0_4,.int .i64 a0_5,.slice A0_6 l0_6.length c0_6,.slice A0_7 l0_7.length c0_7,.int .i64 a0_8]) (t:=38) ?hr ?_;(case hd=>rfl);(case hg=>rfl);(case hr=>first | (go_simp;done) | (go_simp;rfl));intro gb605 hg w3 hbox hb;have n0_:=Aside0.mk (zao (by repeat (first | (with_reducible first | exact HB.out | apply zae | apply zac | apply zaf) | exact HB.out)) hb);have n1_:=Aside0.mk (hbox);have n2_:=Aside0.mk ((by rw [hg];exact (zal (by repeat (first | (with_reducible first | exact HB.out | apply zae | apply zac | apply zaf) | exact HB.out))):w.heap.size≤gb605));have n3_:=Aside0.mk ((by rw [hg];exact (zal (by repeat (first | (with_reducible first | exact HB.out | apply zae | apply zac | apply zaf) | exact HB.out))):w.heap.size≤gb605));clear HB;have HB:=n0_;have BK605:=n1_;have GW605:=n2_;have GE605:=n3_;clear n0_ n1_ n2_ n3_;clear hb hbox hg;have hcz4_0:w3.cell? ⟨gb605,0,none⟩=some (.int .i64 a0_0):=(zab BK605.out 0).trans rfl;have hcz4_1:w3.cell? ⟨gb605,1,none⟩=some (.int .i64 a0_1):=(zab BK605.out 1).trans rfl;have hcz4_2:w3.cell? ⟨gb605,2,none⟩=some (.slice A0_2 l0_2.length c0_2):=(zab BK605.out 2).trans rfl;have hcz4_3:w3.cell? ⟨gb605,3,none⟩=some (.slice A0_3 l0_3.length c0_3):=(zab BK605.out 3).trans rfl;have hcz4_4:w3.cell? ⟨gb605,4,none⟩=some (.int .i64 a0_4):=(zab BK605.out 4).trans rfl;have hcz4_5:w3.cell? ⟨gb605,5,none⟩=some (.int .i64 a0_5):=(zab BK605.out 5).trans rfl;have hcz4_6:w3.cell? ⟨gb605,6,none⟩=some (.slice A0_6 l0_6.length c0_6):=(zab BK605.out 6).trans rfl;have hcz4_7:w3.cell? ⟨gb605,7,none⟩=some (.slice A0_7 l0_7.length c0_7):=(zab BK605.out 7).trans rfl;have hcz4_8:w3.cell? ⟨gb605,8,none⟩=some (.int .i64 a0_8):=(zab BK605.out 8).trans rfl;have hfz4_0:=zaa BK605.out 0;have hfz4_1:=zaa BK605.out 1;have hfz4_2:=zaa BK605.out 2;have hfz4_3:=zaa BK605.out 3;have hfz4_4:=zaa BK605.out 4;have hfz4_5:=zaa BK605.out 5;have hfz4_6:=zaa BK605.out 6;have hfz4_7:=zaa BK605.out 7;have hfz4_8:=zaa BK605.out 8) | ((with_reducible refine zah (f:=20) rfl ?_);refine goesL_ (some 13) rfl rfl Tru.func20 (by kernel_rfl) rfl #[.agg #[.int .i64 a0_0,.int .i64 a0_1,.slice A0_2 l0_2.length c0_2,.slice A0_3 l0_3.length c0_3,.int .i64 a0_4,.int .i64 a0_5,.slice A0_6 l0_6.length c0_6,.slice A0_7 l0_7.length c0_7,.int .i64 a0_8]] rfl (by (try simp only [List.map_toArray,List.map_cons,List.map_nil]);first | done | rfl | (simp only [List.length_drop,List.length_take];rfl)) ?_;(with_reducible refine (impl_BatchTell.calls k a0_0 a0_1 _ _ l0_2 _ _ l0_3 a0_4 a0_5 _ _ l0_6 _ _ l0_7 a0_8 t606 t609 t610 _ ?side1 ?side2 ?side3 ?side4 ?side5 ?side6 ?side7 ?side8 A2.out).mono ?_);(case side1=>repeat (first | exact (Kd.C_below HR0_2.out HB.out) | (with_reducible refine Kd.C_alloc ?_ _) | (with_reducible refine Kd.C_drewN ?_ _) | (with_reducible refine Kd.C_drew ?_)));(case side2=>exact HC0_2.out);(case side3=>repeat (first | exact (Kd.C_below HR0_3.out HB.out) | (with_reducible refine Kd.C_alloc ?_ _) | (with_reducible refine Kd.C_drewN ?_ _) | (with_reducible refine Kd.C_drew ?_)));(case side4=>exact HC0_3.out);(case side5=>repeat (first | exact (Kd.C_below HR0_6.out HB.out) | (with_reducible refine Kd.C_alloc ?_ _) | (with_reducible refine Kd.C_drewN ?_ _) | (with_reducible refine Kd.C_drew ?_)));(case side6=>exact HC0_6.out);(case side7=>repeat (first | exact (Kd.C_below HR0_7.out HB.out) | (with_reducible refine Kd.C_alloc ?_ _) | (with_reducible refine Kd.C_drewN ?_ _) | (with_reducible refine Kd.C_drew ?_)));(case side8=>exact HC0_7.out);rintro e w5 ⟨v607,rfl,ho0,hb⟩;refine ⟨_,rfl,?_⟩;have n0_:=Aside0.mk (Kd.R_lower ho0 (zal (by repeat (first | (with_reducible first | exact HB.out | apply zae | apply zac | apply zaf | refine zag ?_ GE605.out) | exact HB.out))));have n1_:=Aside0.mk (zaq (g:=gb605) (o:=.cells #[.int .i64 a0_0,.int .i64 a0_1,.slice A0_2 l0_2.length c0_2,.slice A0_3 l0_3.length c0_3,.int .i64 a0_4,.int .i64 a0_5,.slice A0_6 l0_6.length c0_6,.slice A0_7 l0_7.length c0_7,.int .i64 a0_8] 38 (0,0)) (by (with_reducible repeat (first | refine zaj ?_ _ | refine zak ?_ | refine zai ?_ _));exact BK605.out) hb);have n2_:=Aside0.mk (zao (by repeat (first | (with_reducible first | exact HB.out | apply zae | apply zac | apply zaf | refine zag ?_ GE605.out) | exact HB.out)) hb);clear BK605;clear HB;have HO608:=n0_;have BK605:=n1_;have HB:=n2_;clear n0_ n1_ n2_;(try clear hb);(try clear hb2);(try clear hk);(try clear hi);(try clear ho0);obtain ⟨Ao6,co6,eo6⟩:=Kd.R_slice HO608.out;subst eo6))
 go_loopg [7,19] k (fun kq v7 v19 w'=>∃ (x7_1:Int) (x19_1:Int),v7 = .int .i64 x7_1∧v19 = .int .i64 x19_1∧Aside0 (impl_BatchTotal.l0 kq t610 x7_1 t606 (t606.length:Int) x19_1 a0_0 a0_1 l0_2 l0_3 a0_4 a0_5 l0_6 l0_7 a0_8=some (r1,r2))∧Aside0 (kq≤k)∧Aside0 (Kd.R (Kd.int .i64) 3 w' w.heap.size (fun _=>True) (.slice Ao6 t606.length co6) t606)∧Aside0 (w'.heap[gb605]? = some (.cells #[.int .i64 a0_0,.int .i64 a0_1,(.slice A0_2 l0_2.length c0_2),(.slice A0_3 l0_3.length c0_3),.int .i64 a0_4,.int .i64 a0_5,(.slice A0_6 l0_6.length c0_6),(.slice A0_7 l0_7.length c0_7),.int .i64 a0_8] 38 (0,0)))∧Aside0 (Below w.heap.size w w'))
 case atStart=>exact ⟨(0),(0),(by first | rfl | (simp;done) | (simp [*];done)),(by first | rfl | (simp;done) | (simp [*];done)),H',⟨Nat.le_refl _⟩,⟨by (with_reducible repeat (first | apply Kd.R_alloc | apply Kd.R_drewN | apply Kd.R_drew));exact HO608.out⟩,⟨by (with_reducible repeat (first | refine zaj ?_ _ | refine zak ?_ | refine zai ?_ _));exact BK605.out⟩,⟨by repeat (first | (with_reducible first | exact HB.out | apply zae | apply zac | apply zaf | refine zag ?_ GE605.out) | exact HB.out)⟩⟩
 case round=>
  clear H'
  try clear c2
  try clear p2
  try clear c3
  try clear hcz4_0
  try clear hcz4_1
  try clear hcz4_2
  try clear hcz4_3
  try clear hcz4_4
  try clear hcz4_5
  try clear hcz4_6
  try clear hcz4_7
  try clear hcz4_8
  try clear hfz4_0
  try clear hfz4_1
  try clear hfz4_2
  try clear hfz4_3
  try clear hfz4_4
  try clear hfz4_5
  try clear hfz4_6
  try clear hfz4_7
  try clear hfz4_8
  obtain ⟨x7_1,x19_1,rfl,rfl,HA,HK1,HO_17,BK605,HB⟩:=hrel
  cases gk with
  | zero=>exact absurd HA.out (by simp [impl_BatchTotal.l0])
  | succ k1=>
   have H:=HA.out
   clear HA
   simp only [impl_BatchTotal.l0] at H
   by_cases c7:x19_1<(t606.length:Int)
   ·rw [if_pos c7] at H
    have c7b0:decide (x19_1<(t606.length:Int))=true:=decide_eq_true c7
    clear c7
    by_cases c8:0≤x19_1
    ·rw [if_pos c8] at H
     have c8b0:decide (0≤x19_1)=true:=decide_eq_true c8
     clear c8
     by_cases c9:x19_1<(t606.length:Int)
     ·rw [if_pos c9] at H
      have c9b0:decide (x19_1<(t606.length:Int))=true:=decide_eq_true c9
      clear c9
      have c10b0:=eq_true (of_decide_eq_true (by first | (with_reducible assumption) | assumption):0≤x19_1)
      obtain ⟨ji11,hji11⟩:∃ j_:Int,(shl .i64 1 x19_1)=j_:=⟨_,rfl⟩
      replace H:((impl_oneHot.f a0_1).bind fun t612=>(if t612=true then (impl_BatchTotal.l0 k1 t610 (wrap64 (x7_1+(wrap64 (x19_1*(rd t606 x19_1))))) t606 (t606.length:Int) (wrap64 (x19_1+1)) a0_0 a0_1 l0_2 l0_3 a0_4 a0_5 l0_6 l0_7 a0_8) else (impl_BatchTotal.l0 k1 t610 (wrap64 (x7_1+(wrap64 ((ji11)*(rd t606 x19_1))))) t606 (t606.length:Int) (wrap64 (x19_1+1)) a0_0 a0_1 l0_2 l0_3 a0_4 a0_5 l0_6 l0_7 a0_8)))=some (r1,r2):=by first | (rw [hji11] at H;exact H) | (simp only [hji11] at H ⊢;exact H)
      have hji11_:(IntKind.i64.wrap (1*2 ^ min x19_1.toNat 64))=ji11:=hji11
      have hji11z:x19_1≤64→(IntKind.i64.wrap (1*2 ^ x19_1.toNat))=ji11:=shl_small hji11
      have hji11u:(IntKind.i64.wrap (2 ^ min x19_1.toNat 64))=ji11:=by have h_:=hji11_;rw [Int.one_mul] at h_;exact h_
      have hji11v:x19_1≤64→(IntKind.i64.wrap (2 ^ x19_1.toNat))=ji11:=fun hle_=>by have h_:=hji11z hle_;rw [Int.one_mul] at h_;exact h_
      have hji11y:(wrap64 (1*2 ^ min x19_1.toNat 64))=ji11:=(i64_w _).symm.trans hji11_
      have hji11x:x19_1≤64→(wrap64 (1*2 ^ x19_1.toNat))=ji11:=fun h_=>(i64_w _).symm.trans (hji11z h_)
      replace H:=Option.bind_eq_some_iff.mp H
      obtain ⟨t612,A120,H⟩:=H
      replace H:(if t612=true then (impl_BatchTotal.l0 k1 t610 (wrap64 (x7_1+(wrap64 (x19_1*(rd t606 x19_1))))) t606 (t606.length:Int) (wrap64 (x19_1+1)) a0_0 a0_1 l0_2 l0_3 a0_4 a0_5 l0_6 l0_7 a0_8) else (impl_BatchTotal.l0 k1 t610 (wrap64 (x7_1+(wrap64 ((ji11)*(rd t606 x19_1))))) t606 (t606.length:Int) (wrap64 (x19_1+1)) a0_0 a0_1 l0_2 l0_3 a0_4 a0_5 l0_6 l0_7 a0_8))=some (r1,r2):=H
      have A12:=Aside0.mk A120
      clear A120
      by_cases c13:t612=true
      ·subst c13
       have H1:(impl_BatchTotal.l0 k1 t610 (wrap64 (x7_1+(wrap64 (x19_1*(rd t606 x19_1))))) t606 (t606.length:Int) (wrap64 (x19_1+1)) a0_0 a0_1 l0_2 l0_3 a0_4 a0_5 l0_6 l0_7 a0_8)=some (r1,r2):=by rw [if_pos rfl] at H;exact H
       clear H
       have H:=H1
       clear H1
       have H':=Aside0.mk H
       clear H
       have p611:0≤(x19_1:Int):=of_decide_eq_true (by first | (with_reducible assumption) | assumption)
       have q611:x19_1<(t606.length:Int):=of_decide_eq_true (by first | (with_reducible assumption) | assumption)
       obtain ⟨ad611,e611,hx611_0⟩:=Kd.at_int (Kd.R_reads' HO_17.out).2.2 x19_1 p611 q611
       cases e611
       replace p611:=eq_true p611
       replace q611:=eq_true q611
       have hcz14_0:wr.cell? ⟨gb605,0,none⟩=some (.int .i64 a0_0):=(zab BK605.out 0).trans rfl
       have hcz14_1:wr.cell? ⟨gb605,1,none⟩=some (.int .i64 a0_1):=(zab BK605.out 1).trans rfl
       have hcz14_2:wr.cell? ⟨gb605,2,none⟩=some (.slice A0_2 l0_2.length c0_2):=(zab BK605.out 2).trans rfl
       have hcz14_3:wr.cell? ⟨gb605,3,none⟩=some (.slice A0_3 l0_3.length c0_3):=(zab BK605.out 3).trans rfl
       have hcz14_4:wr.cell? ⟨gb605,4,none⟩=some (.int .i64 a0_4):=(zab BK605.out 4).trans rfl
       have hcz14_5:wr.cell? ⟨gb605,5,none⟩=some (.int .i64 a0_5):=(zab BK605.out 5).trans rfl
       have hcz14_6:wr.cell? ⟨gb605,6,none⟩=some (.slice A0_6 l0_6.length c0_6):=(zab BK605.out 6).trans rfl
       have hcz14_7:wr.cell? ⟨gb605,7,none⟩=some (.slice A0_7 l0_7.length c0_7):=(zab BK605.out 7).trans rfl
       have hcz14_8:wr.cell? ⟨gb605,8,none⟩=some (.int .i64 a0_8):=(zab BK605.out 8).trans rfl
       have hfz14_0:=zaa BK605.out 0
       have hfz14_1:=zaa BK605.out 1
       have hfz14_2:=zaa BK605.out 2
       have hfz14_3:=zaa BK605.out 3
       have hfz14_4:=zaa BK605.out 4
       have hfz14_5:=zaa BK605.out 5
       have hfz14_6:=zaa BK605.out 6
       have hfz14_7:=zaa BK605.out 7
       have hfz14_8:=zaa BK605.out 8
       go_wp2_with (first | ((with_reducible refine zah (f:=61) rfl ?_);refine goesL_ (some 29) rfl rfl Tru.func61 (by kernel_rfl) rfl #[.int .i64 a0_1] rfl (by (try simp only [List.map_toArray,List.map_cons,List.map_nil]);first | done | rfl | (simp only [List.length_drop,List.length_take];rfl)) ?_;(with_reducible refine (impl_oneHot.calls a0_1 true _ A12.out).mono ?_);rintro e w' ⟨rfl,⟨nd,rfl⟩⟩;refine ⟨_,rfl,?_⟩))
       go_roundg k1
       case measure=>have:=HK1.out;omega
       case rel=>exact ⟨(wrap64 (x7_1+(wrap64 (x19_1*(rd t606 x19_1))))),(wrap64 (x19_1+1)),(by first | rfl | (simp;done) | (simp [*];done)),(by first | rfl | (simp;done) | (simp [*];done)),H',⟨by have:=HK1.out;omega⟩,⟨by (with_reducible repeat (first | apply Kd.R_alloc | apply Kd.R_drewN | apply Kd.R_drew));exact HO_17.out⟩,⟨by (with_reducible repeat (first | refine zaj ?_ _ | refine zak ?_ | refine zai ?_ _));exact BK605.out⟩,⟨by repeat (first | (with_reducible first | exact HB.out | apply zae | apply zac | apply zaf | refine zag ?_ GE605.out) | exact HB.out)⟩⟩
      ·replace c13:=Bool.eq_false_iff.mpr c13
       subst c13
       have H1:(impl_BatchTotal.l0 k1 t610 (wrap64 (x7_1+(wrap64 ((ji11)*(rd t606 x19_1))))) t606 (t606.length:Int) (wrap64 (x19_1+1)) a0_0 a0_1 l0_2 l0_3 a0_4 a0_5 l0_6 l0_7 a0_8)=some (r1,r2):=by rw [if_neg (show ¬ (false=true) by decide)] at H;exact H
       clear H
       have H:=H1
       clear H1
       have H':=Aside0.mk H
       clear H
       have p611:0≤(x19_1:Int):=of_decide_eq_true (by first | (with_reducible assumption) | assumption)
       have q611:x19_1<(t606.length:Int):=of_decide_eq_true (by first | (with_reducible assumption) | assumption)
       obtain ⟨ad611,e611,hx611_0⟩:=Kd.at_int (Kd.R_reads' HO_17.out).2.2 x19_1 p611 q611
       cases e611
       replace p611:=eq_true p611
       replace q611:=eq_true q611
       have hcz15_0:wr.cell? ⟨gb605,0,none⟩=some (.int .i64 a0_0):=(zab BK605.out 0).trans rfl
       have hcz15_1:wr.cell? ⟨gb605,1,none⟩=some (.int .i64 a0_1):=(zab BK605.out 1).trans rfl
       have hcz15_2:wr.cell? ⟨gb605,2,none⟩=some (.slice A0_2 l0_2.length c0_2):=(zab BK605.out 2).trans rfl
       have hcz15_3:wr.cell? ⟨gb605,3,none⟩=some (.slice A0_3 l0_3.length c0_3):=(zab BK605.out 3).trans rfl
       have hcz15_4:wr.cell? ⟨gb605,4,none⟩=some (.int .i64 a0_4):=(zab BK605.out 4).trans rfl
       have hcz15_5:wr.cell? ⟨gb605,5,none⟩=some (.int .i64 a0_5):=(zab BK605.out 5).trans rfl
       have hcz15_6:wr.cell? ⟨gb605,6,none⟩=some (.slice A0_6 l0_6.length c0_6):=(zab BK605.out 6).trans rfl
       have hcz15_7:wr.cell? ⟨gb605,7,none⟩=some (.slice A0_7 l0_7.length c0_7):=(zab BK605.out 7).trans rfl
       have hcz15_8:wr.cell? ⟨gb605,8,none⟩=some (.int .i64 a0_8):=(zab BK605.out 8).trans rfl
       have hfz15_0:=zaa BK605.out 0
       have hfz15_1:=zaa BK605.out 1
       have hfz15_2:=zaa BK605.out 2
       have hfz15_3:=zaa BK605.out 3
       have hfz15_4:=zaa BK605.out 4
       have hfz15_5:=zaa BK605.out 5
       have hfz15_6:=zaa BK605.out 6
       have hfz15_7:=zaa BK605.out 7
       have hfz15_8:=zaa BK605.out 8
       go_wp2_with (first | ((with_reducible refine zah (f:=61) rfl ?_);refine goesL_ (some 29) rfl rfl Tru.func61 (by kernel_rfl) rfl #[.int .i64 a0_1] rfl (by (try simp only [List.map_toArray,List.map_cons,List.map_nil]);first | done | rfl | (simp only [List.length_drop,List.length_take];rfl)) ?_;(with_reducible refine (impl_oneHot.calls a0_1 false _ A12.out).mono ?_);rintro e w' ⟨rfl,⟨nd,rfl⟩⟩;refine ⟨_,rfl,?_⟩))
       go_roundg k1
       case measure=>have:=HK1.out;omega
       case rel=>exact ⟨(wrap64 (x7_1+(wrap64 ((ji11)*(rd t606 x19_1))))),(wrap64 (x19_1+1)),(by first | rfl | (simp;done) | (simp only [← hji11] <;> (first | rfl | simp)) | (simp [*];done)),(by first | rfl | (simp;done) | (simp [*];done)),H',⟨by have:=HK1.out;omega⟩,⟨by (with_reducible repeat (first | apply Kd.R_alloc | apply Kd.R_drewN | apply Kd.R_drew));exact HO_17.out⟩,⟨by (with_reducible repeat (first | refine zaj ?_ _ | refine zak ?_ | refine zai ?_ _));exact BK605.out⟩,⟨by repeat (first | (with_reducible first | exact HB.out | apply zae | apply zac | apply zaf | refine zag ?_ GE605.out) | exact HB.out)⟩⟩
     ·rw [if_neg c9] at H
      exact absurd H (by simp)
    ·rw [if_neg c8] at H
     exact absurd H (by simp)
   ·rw [if_neg c7] at H
    have c7b0:decide (x19_1<(t606.length:Int))=false:=decide_eq_false c7
    clear c7
    simp only [Option.some.injEq,Prod.mk.injEq] at H
    obtain ⟨rfl,rfl⟩:=H
    go_wp2
    go_ret2
    exact ⟨by first | rfl | (simp [errW_none,errW_some] <;> rfl) | (simp [*,errW_none,errW_some] <;> rfl),by repeat (first | (with_reducible first | exact HB.out | apply zae | apply zac | apply zaf | refine zag ?_ GE605.out) | exact HB.out)⟩
end Go.Proofs.Ytjkikkgpenhbgaa.Ba
