import Derived.Test.YtjkikkgpenhbgaaLZ
import Derived.Test.YtjkikkgpenhbgaaLBa0
import Derived.Test.YtjkikkgpenhbgaaLBa3
import Derived.Test.YtjkikkgpenhbgaaLBa12
import Derived.Test.YtjkikkgpenhbgaaLBa16
namespace Go.Proofs.Ytjkikkgpenhbgaa.Ba
open Go.RowKit Go.Proofs.YtjkikkgpenhbgaaW.PrintWords Go.Proofs.YtjkikkgpenhbgaaW.PrintLast Go.Proofs.YtjkikkgpenhbgaaW.PrintMore Go.Proofs.Ytjkikkgpenhbgaa.Z
attribute [local go_sem] max2_int min2_int max_two min_two max_three min_three max_four min_four
set_option linter.unusedVariables false
set_option linter.unusedSimpArgs false
def impl_ColOk.f (a0_0:Int) (a0_1:Int) (l0_2:List Int) (l0_3:List Int):Option (Bool):=(impl_within.f a0_0 1 2).bind fun t331=>(if t331=true then ((impl_TypeLen.f a0_1).bind fun t332=>((impl_sized.f a0_1 l0_2 t332).bind fun t333=>(if t333=true then ((impl_idsOk.f l0_3 9).bind fun t334=>(some t334)) else (some false)))) else (some false))
def impl_ColOk.T1:Bool×List (List Nat×List Nat):=(true,[([],[]),([0],[0]),([1],[1]),([2,2],[2]),([3],[3]),([4,3],[3,4]),([3],[3]),([6,3],[3,6]),([3],[3]),([8,3],[3,8]),([9,3,3],[3,9]),([5,7,10,10,3],[3,5,7,10]),([3,11],[3,11]),([12,11],[12]),([13],[13]),([14,13],[13,14]),([15,13,13],[13,15]),([13,16],[13,16]),([17,16,0,1,2,3,4,5,6,7,8,9,10,11,12,13,14,15,16,17],[17])])
def impl_ColOk.B1:List Nat:=[0,1,3,7,15,31,15,79,15,271,783,2047,4095,8191,16383,32767,65535,131071,262143]
set_option maxRecDepth 100000 in
theorem impl_ColOk.tab1:rtab .any (opsOf Try.f53 1)=impl_ColOk.T1:=by kernel_rfl
set_option maxRecDepth 100000 in
theorem impl_ColOk.bits1:waitsOk impl_ColOk.T1.2 impl_ColOk.B1=true:=by kernel_rfl
set_option maxHeartbeats 8000000 in
set_option maxRecDepth 100000 in
theorem impl_ColOk.calls (a0_0:Int) (a0_1:Int) (A0_2:Option Addr) (c0_2:Nat) (l0_2:List Int) (A0_3:Option Addr) (c0_3:Nat) (l0_3:List Int) (r:Bool) (w:World) (hr0_2:Kd.C (Kd.int .i64) w A0_2 l0_2.length l0_2) (hc0_2:l0_2.length≤c0_2) (hr0_3:Kd.C (Kd.int .i64) w A0_3 l0_3.length l0_3) (hc0_3:l0_3.length≤c0_3) (h:impl_ColOk.f a0_0 a0_1 l0_2 l0_3=some r) :
  Calls Tru.prog 53 #[.agg #[.int .i64 a0_0,.int .i64 a0_1,.slice A0_2 l0_2.length c0_2,.slice A0_3 l0_3.length c0_3]] w fun e w'=>e = .returned (.bool r)∧Below w.heap.size w w':=by
 have hu36:=((Tru.und _).trans ((Tru.und _).trans Try.underlying36))
 have HR0_2:=Aside0.mk hr0_2
 have HC0_2:=Aside0.mk hc0_2
 clear hr0_2 hc0_2
 have HR0_3:=Aside0.mk hr0_3
 have HC0_3:=Aside0.mk hc0_3
 clear hr0_3 hc0_3
 have HB:=Aside0.mk (Below.refl w.heap.size w)
 have H:=h
 unfold impl_ColOk.f at H
 clear h
 replace H:=bnd H
 obtain ⟨t331,A2,H⟩:=H
 by_cases c3:t331=true
 ·subst c3
  rw [if_pos rfl] at H
  replace H:=bnd H
  obtain ⟨t332,A4,H⟩:=H
  replace H:=bnd H
  obtain ⟨t333,A5,H⟩:=H
  by_cases c6:t333=true
  ·subst c6
   rw [if_pos rfl] at H
   replace H:=bnd H
   obtain ⟨t334,A7,H⟩:=H
   obtain rfl:=Option.some.inj H
   go_enter Tru.func53,Try.ntmps53
   try go_wp2_with (first | ((with_reducible refine zam (N:=1) rfl ?_);refine boxZ (N:=1) (cs:=#[.int .i64 a0_0,.int .i64 a0_1,.slice A0_2 l0_2.length c0_2,.slice A0_3 l0_3.length c0_3]) (t:=36) ?_;intro gb330 hg w8 hbox hb;replace BK330:=Aside0.mk (hbox);replace GW330:=gwZ hg;replace GE330:=gwZ hg;replace HB:=bnZ hb;clear hb hbox hg))
   replace BK330:=Aside0.mk (zak BK330.out)
   replace HB:=Aside0.mk (zaf HB.out)
   refine start_ (n:=19) (S:=fun w'=>w'.cell? ⟨gb330,0,none⟩=some (.int .i64 a0_0)∧w'.cell? ⟨gb330,1,none⟩=some (.int .i64 a0_1)∧w'.cell? ⟨gb330,2,none⟩=some (.slice A0_2 l0_2.length c0_2)∧w'.cell? ⟨gb330,3,none⟩=some (.slice A0_3 l0_3.length c0_3)) (ds:=[]) (bs 19 0) (by kernel_rfl) rfl rfl ⟨(zab BK330.out 0).trans rfl,(zab BK330.out 1).trans rfl,(zab BK330.out 2).trans rfl,(zab BK330.out 3).trans rfl⟩ (fun hHeld=>?_);refine with_tabW impl_ColOk.tab1 impl_ColOk.bits1 (fun HT_ HW_=>?_)
   generalize w8.drew=w9 at BK330 HB hHeld ⊢
   refine pZ 0 (some 3) (bs 19 1) rfl rfl (zav HT_.out (by kernel_rfl)) ?_
   refine tZ 1 (some 4) (bs 19 3) rfl rfl (take_ofW HT_.out HW_.out (by kernel_rfl)) hHeld (by rintro w' ⟨s0,s1,s2,s3⟩;go_simp;with_reducible rfl) ?_
   refine one_ (i:=2) (N:=some 5) (bs 19 7) rfl rfl (one_of HT_.out (by kernel_rfl)) (by decide) (fun K hK=>?_)
   refine goes_ Tru.func73 (by kernel_rfl) rfl #[.int .i64 a0_0,.int .i64 1,.int .i64 2] (by rfl) rfl rfl (by (try simp only [List.map_toArray,List.map_cons,List.map_nil]);first | done | rfl | (simp only [List.length_drop,List.length_take];rfl)) ?_
   with_reducible refine (impl_within.calls a0_0 1 2 true _ A2.out).mono ?_
   rintro e w' ⟨rfl,⟨nd,rfl⟩⟩
   refine ⟨_,rfl,?_⟩
   refine hK.out _ _ ⟨(zab BK330.out 0).trans rfl,(zab BK330.out 1).trans rfl,(zab BK330.out 2).trans rfl,(zab BK330.out 3).trans rfl⟩ (fun hHeld=>?_)
   clear hK K
   refine norm_ (a':=?_) ?_ ?_
   rotate_left
   ·show Act.put _ (some 5) _=_
    simp only [Act.put,List.setIfInBounds_toArray,List.set_cons_zero,List.set_cons_succ,i64_w,i32_w]
    rfl
   refine pZ 3 (some 6) (bs 19 15) rfl rfl (zav HT_.out (by kernel_rfl)) ?_
   refine pZ 4 (some 7) (bs 19 31) rfl rfl (zav HT_.out (by kernel_rfl)) ?_
   refine pZ 6 (some 9) (bs 19 95) rfl rfl (zav HT_.out (by kernel_rfl)) ?_
   refine pZ 8 (some 11) (bs 19 351) rfl rfl (zav HT_.out (by kernel_rfl)) ?_
   refine tZ 5 (some 8) (bs 19 383) rfl rfl (take_ofW HT_.out HW_.out (by kernel_rfl)) hHeld (by rintro w' ⟨s0,s1,s2,s3⟩;go_simp;with_reducible rfl) ?_
   refine tZ 7 (some 10) (bs 19 511) rfl rfl (take_ofW HT_.out HW_.out (by kernel_rfl)) hHeld (by rintro w' ⟨s0,s1,s2,s3⟩;go_simp;with_reducible rfl) ?_
   refine tZ 9 (some 12) (bs 19 1023) rfl rfl (take_ofW HT_.out HW_.out (by kernel_rfl)) hHeld (by rintro w' ⟨s0,s1,s2,s3⟩;go_simp;with_reducible rfl) ?_
   refine one_ (i:=10) (N:=some 13) (bs 19 2047) rfl rfl (one_of HT_.out (by kernel_rfl)) (by decide) (fun K hK=>?_)
   refine goes_ Tru.func19 (by kernel_rfl) rfl #[.int .i64 a0_1] (by rfl) rfl rfl (by (try simp only [List.map_toArray,List.map_cons,List.map_nil]);first | done | rfl | (simp only [List.length_drop,List.length_take];rfl)) ?_
   with_reducible refine (impl_TypeLen.calls a0_1 t332 _ A4.out).mono ?_
   rintro e w10 ⟨rfl,hb⟩
   refine ⟨_,rfl,?_⟩
   replace BK330:=bkZ hb BK330.out
   replace HB:=bnZ hb
   (try clear hb)
   (try clear hb2)
   (try clear hk)
   (try clear hi)
   refine hK.out _ _ ⟨(zab BK330.out 0).trans rfl,(zab BK330.out 1).trans rfl,(zab BK330.out 2).trans rfl,(zab BK330.out 3).trans rfl⟩ (fun hHeld=>?_)
   clear hK K
   refine norm_ (a':=?_) ?_ ?_
   rotate_left
   ·show Act.put _ (some 13) _=_
    simp only [Act.put,List.setIfInBounds_toArray,List.set_cons_zero,List.set_cons_succ,i64_w,i32_w]
    rfl
   refine one_ (i:=11) (N:=some 14) (bs 19 4095) rfl rfl (one_of HT_.out (by kernel_rfl)) (by decide) (fun K hK=>?_)
   refine goes_ Tru.func78 (by kernel_rfl) rfl #[.int .i64 a0_1,.slice A0_2 l0_2.length c0_2,.int .i64 t332] (by rfl) rfl rfl (by (try simp only [List.map_toArray,List.map_cons,List.map_nil]);first | done | rfl | (simp only [List.length_drop,List.length_take];rfl)) ?_
   with_reducible refine (impl_sized.calls a0_1 _ _ l0_2 t332 true _ ?side1 ?side2 A5.out).mono ?_
   (case side1=>exact (Kd.C_below HR0_2.out HB.out))
   (case side2=>exact HC0_2.out)
   rintro e w' ⟨rfl,⟨nd,rfl⟩⟩
   refine ⟨_,rfl,?_⟩
   refine hK.out _ _ ⟨(zab BK330.out 0).trans rfl,(zab BK330.out 1).trans rfl,(zab BK330.out 2).trans rfl,(zab BK330.out 3).trans rfl⟩ (fun hHeld=>?_)
   clear hK K
   refine norm_ (a':=?_) ?_ ?_
   rotate_left
   ·show Act.put _ (some 14) _=_
    simp only [Act.put,List.setIfInBounds_toArray,List.set_cons_zero,List.set_cons_succ,i64_w,i32_w]
    rfl
   refine pZ 12 (some 15) (bs 19 8191) rfl rfl (zav HT_.out (by kernel_rfl)) ?_
   refine pZ 13 (some 16) (bs 19 16383) rfl rfl (zav HT_.out (by kernel_rfl)) ?_
   refine pZ 14 (some 17) (bs 19 32767) rfl rfl (zav HT_.out (by kernel_rfl)) ?_
   refine tZ 15 (some 18) (bs 19 65535) rfl rfl (take_ofW HT_.out HW_.out (by kernel_rfl)) hHeld (by rintro w' ⟨s0,s1,s2,s3⟩;go_simp;with_reducible rfl) ?_
   refine one_ (i:=16) (N:=some 19) (bs 19 131071) rfl rfl (one_of HT_.out (by kernel_rfl)) (by decide) (fun K hK=>?_)
   refine goes_ Tru.func79 (by kernel_rfl) rfl #[.slice A0_3 l0_3.length c0_3,.int .i64 9] (by rfl) rfl rfl (by (try simp only [List.map_toArray,List.map_cons,List.map_nil]);first | done | rfl | (simp only [List.length_drop,List.length_take];rfl)) ?_
   with_reducible refine (impl_idsOk.calls _ _ l0_3 9 t334 _ ?side1 ?side2 A7.out).mono ?_
   (case side1=>repeat (first | exact (Kd.C_below HR0_3.out bZ) | (with_reducible refine Kd.C_alloc ?_ _) | (with_reducible refine Kd.C_drewN ?_ _) | (with_reducible refine Kd.C_drew ?_)))
   (case side2=>exact HC0_3.out)
   rintro e w11 ⟨rfl,hb⟩
   refine ⟨_,rfl,?_⟩
   replace BK330:=bkZ hb BK330.out
   replace HB:=bnZ hb
   (try clear hb)
   (try clear hb2)
   (try clear hk)
   (try clear hi)
   refine hK.out _ _ ⟨(zab BK330.out 0).trans rfl,(zab BK330.out 1).trans rfl,(zab BK330.out 2).trans rfl,(zab BK330.out 3).trans rfl⟩ (fun hHeld=>?_)
   clear hK K
   refine norm_ (a':=?_) ?_ ?_
   rotate_left
   ·show Act.put _ (some 19) _=_
    simp only [Act.put,List.setIfInBounds_toArray,List.set_cons_zero,List.set_cons_succ,i64_w,i32_w]
    rfl
   refine pZ 17 (some 20) (bs 19 262143) rfl rfl (zav HT_.out (by kernel_rfl)) ?_
   refine pZ 18 (some 2) (bs 19 524287) rfl rfl (zav HT_.out (by kernel_rfl)) ?_
   refine done_ (done_of HT_.out (by kernel_rfl)) ?_
   try go_wp2
   go_ret
   exact ⟨rfl,by repeat (with_reducible first | exact HB.out | apply zae | apply zac | apply zaf | refine zag ?_ GE330.out)⟩
  ·replace c6:=Bool.eq_false_iff.mpr c6
   subst c6
   rw [if_neg (show ¬ (false=true) by decide)] at H
   obtain rfl:=Option.some.inj H
   go_enter Tru.func53,Try.ntmps53
   try go_wp2_with (first | ((with_reducible refine zam (N:=1) rfl ?_);refine boxZ (N:=1) (cs:=#[.int .i64 a0_0,.int .i64 a0_1,.slice A0_2 l0_2.length c0_2,.slice A0_3 l0_3.length c0_3]) (t:=36) ?_;intro gb330 hg w12 hbox hb;replace BK330:=Aside0.mk (hbox);replace GW330:=gwZ hg;replace GE330:=gwZ hg;replace HB:=bnZ hb;clear hb hbox hg))
   replace BK330:=Aside0.mk (zak BK330.out)
   replace HB:=Aside0.mk (zaf HB.out)
   refine start_ (n:=19) (S:=fun w'=>w'.cell? ⟨gb330,0,none⟩=some (.int .i64 a0_0)∧w'.cell? ⟨gb330,1,none⟩=some (.int .i64 a0_1)∧w'.cell? ⟨gb330,2,none⟩=some (.slice A0_2 l0_2.length c0_2)∧w'.cell? ⟨gb330,3,none⟩=some (.slice A0_3 l0_3.length c0_3)) (ds:=[]) (bs 19 0) (by kernel_rfl) rfl rfl ⟨(zab BK330.out 0).trans rfl,(zab BK330.out 1).trans rfl,(zab BK330.out 2).trans rfl,(zab BK330.out 3).trans rfl⟩ (fun hHeld=>?_);refine with_tabW impl_ColOk.tab1 impl_ColOk.bits1 (fun HT_ HW_=>?_)
   generalize w12.drew=w13 at BK330 HB hHeld ⊢
   refine pZ 0 (some 3) (bs 19 1) rfl rfl (zav HT_.out (by kernel_rfl)) ?_
   refine tZ 1 (some 4) (bs 19 3) rfl rfl (take_ofW HT_.out HW_.out (by kernel_rfl)) hHeld (by rintro w' ⟨s0,s1,s2,s3⟩;go_simp;with_reducible rfl) ?_
   refine one_ (i:=2) (N:=some 5) (bs 19 7) rfl rfl (one_of HT_.out (by kernel_rfl)) (by decide) (fun K hK=>?_)
   refine goes_ Tru.func73 (by kernel_rfl) rfl #[.int .i64 a0_0,.int .i64 1,.int .i64 2] (by rfl) rfl rfl (by (try simp only [List.map_toArray,List.map_cons,List.map_nil]);first | done | rfl | (simp only [List.length_drop,List.length_take];rfl)) ?_
   with_reducible refine (impl_within.calls a0_0 1 2 true _ A2.out).mono ?_
   rintro e w' ⟨rfl,⟨nd,rfl⟩⟩
   refine ⟨_,rfl,?_⟩
   refine hK.out _ _ ⟨(zab BK330.out 0).trans rfl,(zab BK330.out 1).trans rfl,(zab BK330.out 2).trans rfl,(zab BK330.out 3).trans rfl⟩ (fun hHeld=>?_)
   clear hK K
   refine norm_ (a':=?_) ?_ ?_
   rotate_left
   ·show Act.put _ (some 5) _=_
    simp only [Act.put,List.setIfInBounds_toArray,List.set_cons_zero,List.set_cons_succ,i64_w,i32_w]
    rfl
   refine pZ 3 (some 6) (bs 19 15) rfl rfl (zav HT_.out (by kernel_rfl)) ?_
   refine pZ 4 (some 7) (bs 19 31) rfl rfl (zav HT_.out (by kernel_rfl)) ?_
   refine pZ 6 (some 9) (bs 19 95) rfl rfl (zav HT_.out (by kernel_rfl)) ?_
   refine pZ 8 (some 11) (bs 19 351) rfl rfl (zav HT_.out (by kernel_rfl)) ?_
   refine tZ 5 (some 8) (bs 19 383) rfl rfl (take_ofW HT_.out HW_.out (by kernel_rfl)) hHeld (by rintro w' ⟨s0,s1,s2,s3⟩;go_simp;with_reducible rfl) ?_
   refine tZ 7 (some 10) (bs 19 511) rfl rfl (take_ofW HT_.out HW_.out (by kernel_rfl)) hHeld (by rintro w' ⟨s0,s1,s2,s3⟩;go_simp;with_reducible rfl) ?_
   refine tZ 9 (some 12) (bs 19 1023) rfl rfl (take_ofW HT_.out HW_.out (by kernel_rfl)) hHeld (by rintro w' ⟨s0,s1,s2,s3⟩;go_simp;with_reducible rfl) ?_
   refine one_ (i:=10) (N:=some 13) (bs 19 2047) rfl rfl (one_of HT_.out (by kernel_rfl)) (by decide) (fun K hK=>?_)
   refine goes_ Tru.func19 (by kernel_rfl) rfl #[.int .i64 a0_1] (by rfl) rfl rfl (by (try simp only [List.map_toArray,List.map_cons,List.map_nil]);first | done | rfl | (simp only [List.length_drop,List.length_take];rfl)) ?_
   with_reducible refine (impl_TypeLen.calls a0_1 t332 _ A4.out).mono ?_
   rintro e w14 ⟨rfl,hb⟩
   refine ⟨_,rfl,?_⟩
   replace BK330:=bkZ hb BK330.out
   replace HB:=bnZ hb
   (try clear hb)
   (try clear hb2)
   (try clear hk)
   (try clear hi)
   refine hK.out _ _ ⟨(zab BK330.out 0).trans rfl,(zab BK330.out 1).trans rfl,(zab BK330.out 2).trans rfl,(zab BK330.out 3).trans rfl⟩ (fun hHeld=>?_)
   clear hK K
   refine norm_ (a':=?_) ?_ ?_
   rotate_left
   ·show Act.put _ (some 13) _=_
    simp only [Act.put,List.setIfInBounds_toArray,List.set_cons_zero,List.set_cons_succ,i64_w,i32_w]
    rfl
   refine one_ (i:=11) (N:=some 14) (bs 19 4095) rfl rfl (one_of HT_.out (by kernel_rfl)) (by decide) (fun K hK=>?_)
   refine goes_ Tru.func78 (by kernel_rfl) rfl #[.int .i64 a0_1,.slice A0_2 l0_2.length c0_2,.int .i64 t332] (by rfl) rfl rfl (by (try simp only [List.map_toArray,List.map_cons,List.map_nil]);first | done | rfl | (simp only [List.length_drop,List.length_take];rfl)) ?_
   with_reducible refine (impl_sized.calls a0_1 _ _ l0_2 t332 false _ ?side1 ?side2 A5.out).mono ?_
   (case side1=>exact (Kd.C_below HR0_2.out HB.out))
   (case side2=>exact HC0_2.out)
   rintro e w' ⟨rfl,⟨nd,rfl⟩⟩
   refine ⟨_,rfl,?_⟩
   refine hK.out _ _ ⟨(zab BK330.out 0).trans rfl,(zab BK330.out 1).trans rfl,(zab BK330.out 2).trans rfl,(zab BK330.out 3).trans rfl⟩ (fun hHeld=>?_)
   clear hK K
   refine norm_ (a':=?_) ?_ ?_
   rotate_left
   ·show Act.put _ (some 14) _=_
    simp only [Act.put,List.setIfInBounds_toArray,List.set_cons_zero,List.set_cons_succ,i64_w,i32_w]
    rfl
   refine pZ 12 (some 15) (bs 19 8191) rfl rfl (zav HT_.out (by kernel_rfl)) ?_
   refine pZ 13 (some 16) (bs 19 16383) rfl rfl (zav HT_.out (by kernel_rfl)) ?_
   refine pure_ (i:=14) (N:=some 17) (v:=undef) (a':=?_) (bs 19 32767) rfl rfl (zav HT_.out (by kernel_rfl)) (fun _ _ _ h=>h) (Or.inr ⟨by rfl,rfl⟩) ?_ ?_
   rotate_left
   ·simp only [Act.put,List.setIfInBounds_toArray,List.set_cons_zero,List.set_cons_succ,i64_w,i32_w]
    rfl
   refine pure_ (i:=15) (N:=some 18) (v:=undef) (a':=?_) (bs 19 65535) rfl rfl (zav HT_.out (by kernel_rfl)) (fun _ _ _ h=>h) (Or.inr ⟨by rfl,rfl⟩) ?_ ?_
   rotate_left
   ·simp only [Act.put,List.setIfInBounds_toArray,List.set_cons_zero,List.set_cons_succ,i64_w,i32_w]
    rfl
   refine pure_ (i:=16) (N:=some 19) (v:=undef) (a':=?_) (bs 19 131071) rfl rfl (zav HT_.out (by kernel_rfl)) (fun _ _ _ h=>h) (Or.inr ⟨by rfl,rfl⟩) ?_ ?_
   rotate_left
   ·simp only [Act.put,List.setIfInBounds_toArray,List.set_cons_zero,List.set_cons_succ,i64_w,i32_w]
    rfl
   refine pZ 17 (some 20) (bs 19 262143) rfl rfl (zav HT_.out (by kernel_rfl)) ?_
   refine pZ 18 (some 2) (bs 19 524287) rfl rfl (zav HT_.out (by kernel_rfl)) ?_
   refine done_ (done_of HT_.out (by kernel_rfl)) ?_
   try go_wp2
   go_ret
   exact ⟨rfl,by repeat (with_reducible first | exact HB.out | apply zae | apply zac | apply zaf | refine zag ?_ GE330.out)⟩
 ·replace c3:=Bool.eq_false_iff.mpr c3
  subst c3
  rw [if_neg (show ¬ (false=true) by decide)] at H
  obtain rfl:=Option.some.inj H
  go_enter Tru.func53,Try.ntmps53
  try go_wp2_with (first | ((with_reducible refine zam (N:=1) rfl ?_);refine boxZ (N:=1) (cs:=#[.int .i64 a0_0,.int .i64 a0_1,.slice A0_2 l0_2.length c0_2,.slice A0_3 l0_3.length c0_3]) (t:=36) ?_;intro gb330 hg w15 hbox hb;replace BK330:=Aside0.mk (hbox);replace GW330:=gwZ hg;replace GE330:=gwZ hg;replace HB:=bnZ hb;clear hb hbox hg))
  replace BK330:=Aside0.mk (zak BK330.out)
  replace HB:=Aside0.mk (zaf HB.out)
  refine start_ (n:=19) (S:=fun w'=>w'.cell? ⟨gb330,0,none⟩=some (.int .i64 a0_0)∧w'.cell? ⟨gb330,1,none⟩=some (.int .i64 a0_1)∧w'.cell? ⟨gb330,2,none⟩=some (.slice A0_2 l0_2.length c0_2)∧w'.cell? ⟨gb330,3,none⟩=some (.slice A0_3 l0_3.length c0_3)) (ds:=[]) (bs 19 0) (by kernel_rfl) rfl rfl ⟨(zab BK330.out 0).trans rfl,(zab BK330.out 1).trans rfl,(zab BK330.out 2).trans rfl,(zab BK330.out 3).trans rfl⟩ (fun hHeld=>?_);refine with_tabW impl_ColOk.tab1 impl_ColOk.bits1 (fun HT_ HW_=>?_)
  generalize w15.drew=w16 at BK330 HB hHeld ⊢
  refine pZ 0 (some 3) (bs 19 1) rfl rfl (zav HT_.out (by kernel_rfl)) ?_
  refine tZ 1 (some 4) (bs 19 3) rfl rfl (take_ofW HT_.out HW_.out (by kernel_rfl)) hHeld (by rintro w' ⟨s0,s1,s2,s3⟩;go_simp;with_reducible rfl) ?_
  refine one_ (i:=2) (N:=some 5) (bs 19 7) rfl rfl (one_of HT_.out (by kernel_rfl)) (by decide) (fun K hK=>?_)
  refine goes_ Tru.func73 (by kernel_rfl) rfl #[.int .i64 a0_0,.int .i64 1,.int .i64 2] (by rfl) rfl rfl (by (try simp only [List.map_toArray,List.map_cons,List.map_nil]);first | done | rfl | (simp only [List.length_drop,List.length_take];rfl)) ?_
  with_reducible refine (impl_within.calls a0_0 1 2 false _ A2.out).mono ?_
  rintro e w' ⟨rfl,⟨nd,rfl⟩⟩
  refine ⟨_,rfl,?_⟩
  refine hK.out _ _ ⟨(zab BK330.out 0).trans rfl,(zab BK330.out 1).trans rfl,(zab BK330.out 2).trans rfl,(zab BK330.out 3).trans rfl⟩ (fun hHeld=>?_)
  clear hK K
  refine norm_ (a':=?_) ?_ ?_
  rotate_left
  ·show Act.put _ (some 5) _=_
   simp only [Act.put,List.setIfInBounds_toArray,List.set_cons_zero,List.set_cons_succ,i64_w,i32_w]
   rfl
  refine pZ 3 (some 6) (bs 19 15) rfl rfl (zav HT_.out (by kernel_rfl)) ?_
  refine pure_ (i:=4) (N:=some 7) (v:=undef) (a':=?_) (bs 19 31) rfl rfl (zav HT_.out (by kernel_rfl)) (fun _ _ _ h=>h) (Or.inr ⟨by rfl,rfl⟩) ?_ ?_
  rotate_left
  ·simp only [Act.put,List.setIfInBounds_toArray,List.set_cons_zero,List.set_cons_succ,i64_w,i32_w]
   rfl
  refine pure_ (i:=5) (N:=some 8) (v:=undef) (a':=?_) (bs 19 63) rfl rfl (zav HT_.out (by kernel_rfl)) (fun _ _ _ h=>h) (Or.inr ⟨by rfl,rfl⟩) ?_ ?_
  rotate_left
  ·simp only [Act.put,List.setIfInBounds_toArray,List.set_cons_zero,List.set_cons_succ,i64_w,i32_w]
   rfl
  refine pure_ (i:=6) (N:=some 9) (v:=undef) (a':=?_) (bs 19 127) rfl rfl (zav HT_.out (by kernel_rfl)) (fun _ _ _ h=>h) (Or.inr ⟨by rfl,rfl⟩) ?_ ?_
  rotate_left
  ·simp only [Act.put,List.setIfInBounds_toArray,List.set_cons_zero,List.set_cons_succ,i64_w,i32_w]
   rfl
  refine pure_ (i:=7) (N:=some 10) (v:=undef) (a':=?_) (bs 19 255) rfl rfl (zav HT_.out (by kernel_rfl)) (fun _ _ _ h=>h) (Or.inr ⟨by rfl,rfl⟩) ?_ ?_
  rotate_left
  ·simp only [Act.put,List.setIfInBounds_toArray,List.set_cons_zero,List.set_cons_succ,i64_w,i32_w]
   rfl
  refine pure_ (i:=8) (N:=some 11) (v:=undef) (a':=?_) (bs 19 511) rfl rfl (zav HT_.out (by kernel_rfl)) (fun _ _ _ h=>h) (Or.inr ⟨by rfl,rfl⟩) ?_ ?_
  rotate_left
  ·simp only [Act.put,List.setIfInBounds_toArray,List.set_cons_zero,List.set_cons_succ,i64_w,i32_w]
   rfl
  refine pure_ (i:=9) (N:=some 12) (v:=undef) (a':=?_) (bs 19 1023) rfl rfl (zav HT_.out (by kernel_rfl)) (fun _ _ _ h=>h) (Or.inr ⟨by rfl,rfl⟩) ?_ ?_
  rotate_left
  ·simp only [Act.put,List.setIfInBounds_toArray,List.set_cons_zero,List.set_cons_succ,i64_w,i32_w]
   rfl
  refine pure_ (i:=10) (N:=some 13) (v:=undef) (a':=?_) (bs 19 2047) rfl rfl (zav HT_.out (by kernel_rfl)) (fun _ _ _ h=>h) (Or.inr ⟨by rfl,rfl⟩) ?_ ?_
  rotate_left
  ·simp only [Act.put,List.setIfInBounds_toArray,List.set_cons_zero,List.set_cons_succ,i64_w,i32_w]
   rfl
  refine pure_ (i:=11) (N:=some 14) (v:=undef) (a':=?_) (bs 19 4095) rfl rfl (zav HT_.out (by kernel_rfl)) (fun _ _ _ h=>h) (Or.inr ⟨by rfl,rfl⟩) ?_ ?_
  rotate_left
  ·simp only [Act.put,List.setIfInBounds_toArray,List.set_cons_zero,List.set_cons_succ,i64_w,i32_w]
   rfl
  refine pZ 12 (some 15) (bs 19 8191) rfl rfl (zav HT_.out (by kernel_rfl)) ?_
  refine pZ 13 (some 16) (bs 19 16383) rfl rfl (zav HT_.out (by kernel_rfl)) ?_
  refine pure_ (i:=14) (N:=some 17) (v:=undef) (a':=?_) (bs 19 32767) rfl rfl (zav HT_.out (by kernel_rfl)) (fun _ _ _ h=>h) (Or.inr ⟨by rfl,rfl⟩) ?_ ?_
  rotate_left
  ·simp only [Act.put,List.setIfInBounds_toArray,List.set_cons_zero,List.set_cons_succ,i64_w,i32_w]
   rfl
  refine pure_ (i:=15) (N:=some 18) (v:=undef) (a':=?_) (bs 19 65535) rfl rfl (zav HT_.out (by kernel_rfl)) (fun _ _ _ h=>h) (Or.inr ⟨by rfl,rfl⟩) ?_ ?_
  rotate_left
  ·simp only [Act.put,List.setIfInBounds_toArray,List.set_cons_zero,List.set_cons_succ,i64_w,i32_w]
   rfl
  refine pure_ (i:=16) (N:=some 19) (v:=undef) (a':=?_) (bs 19 131071) rfl rfl (zav HT_.out (by kernel_rfl)) (fun _ _ _ h=>h) (Or.inr ⟨by rfl,rfl⟩) ?_ ?_
  rotate_left
  ·simp only [Act.put,List.setIfInBounds_toArray,List.set_cons_zero,List.set_cons_succ,i64_w,i32_w]
   rfl
  refine pZ 17 (some 20) (bs 19 262143) rfl rfl (zav HT_.out (by kernel_rfl)) ?_
  refine pZ 18 (some 2) (bs 19 524287) rfl rfl (zav HT_.out (by kernel_rfl)) ?_
  refine done_ (done_of HT_.out (by kernel_rfl)) ?_
  try go_wp2
  go_ret
  exact ⟨rfl,by repeat (with_reducible first | exact HB.out | apply zae | apply zac | apply zaf | refine zag ?_ GE330.out)⟩
def slices_Equal_int_int.l0:Nat→List Int→List Int→Int→Int→Option (Bool)
 | 0,_,_,_,_=>none
 | k+1,x0,x1,x12,x13=>if x13<x12 then (if 0≤x13 then (if x13<(x0.length:Int) then (if x13<(x1.length:Int) then (if (rd x0 x13)=(rd x1 x13) then (slices_Equal_int_int.l0 k x0 x1 x12 (wrap64 (x13+1))) else (some false)) else (none)) else (none)) else (none)) else (some true)
def slices_Equal_int_int.f (k:Nat) (l0:List Int) (l1:List Int):Option (Bool):=if (l0.length:Int)=(l1.length:Int) then (slices_Equal_int_int.l0 k l0 l1 (l0.length:Int) 0) else (some false)
set_option maxHeartbeats 8000000 in
set_option maxRecDepth 100000 in
theorem slices_Equal_int_int.calls (k:Nat) (A0:Option Addr) (c0:Nat) (l0:List Int) (A1:Option Addr) (c1:Nat) (l1:List Int) (r:Bool) (w:World) (hr0:Kd.C (Kd.int .i64) w A0 l0.length l0) (hc0:l0.length≤c0) (hr1:Kd.C (Kd.int .i64) w A1 l1.length l1) (hc1:l1.length≤c1) (h:slices_Equal_int_int.f k l0 l1=some r) :
  Calls Tru.prog 54 #[.slice A0 l0.length c0,.slice A1 l1.length c1] w fun e w'=>e = .returned (.bool r)∧Drawn0 w w':=by
 have HR0:=Aside0.mk hr0
 have HC0:=Aside0.mk hc0
 clear hr0 hc0
 have HR1:=Aside0.mk hr1
 have HC1:=Aside0.mk hc1
 clear hr1 hc1
 have H:=h
 unfold slices_Equal_int_int.f at H
 clear h
 by_cases c3:(l0.length:Int)=(l1.length:Int)
 ·rw [if_pos c3] at H
  have c3b0:((l0.length:Int) == (l1.length:Int))=true:=beq_iff_eq.mpr c3
  have c3b1:((l0.length:Int) != (l1.length:Int))=false:=bne_eq_false_iff_eq.mpr c3
  have c3b2:(l0.length == l1.length)=true:=by first | simpa using c3 | (simp at c3 ⊢;omega)
  clear c3
  have H':=Aside0.mk H
  clear H
  go_enter Tru.func54,Try.ntmps54
  go_wp2
  repeat (go_quiet (fail);try go_wp2)
  go_loopg [13] k (fun kq v13 w'=>∃ (x13_1:Int),v13 = .int .i64 x13_1∧Aside0 (slices_Equal_int_int.l0 kq l0 l1 (l0.length:Int) x13_1=some r)∧Aside0 (kq≤k)∧Drawn0 w w')
  case atStart=>exact ⟨(0),rfl,H',⟨Nat.le_refl _⟩,by repeat (first | exact Drawn0.refl _ | apply Drawn0.step)⟩
  case round=>
   clear H'
   try clear c1
   try clear p2
   try clear c3
   try clear c3b0
   try clear c3b1
   try clear c3b2
   obtain ⟨x13_1,rfl,HA,HK1,⟨m1,rfl⟩⟩:=hrel
   cases gk with
   | zero=>exact absurd HA.out (by simp [slices_Equal_int_int.l0])
   | succ k1=>
    have H:=HA.out
    clear HA
    simp only [slices_Equal_int_int.l0] at H
    by_cases c4:x13_1<(l0.length:Int)
    ·rw [if_pos c4] at H
     have c4b0:decide (x13_1<(l0.length:Int))=true:=decide_eq_true c4
     clear c4
     by_cases c5:0≤x13_1
     ·rw [if_pos c5] at H
      have c5b0:decide (0≤x13_1)=true:=decide_eq_true c5
      clear c5
      by_cases c6:x13_1<(l0.length:Int)
      ·rw [if_pos c6] at H
       have c6b0:decide (x13_1<(l0.length:Int))=true:=decide_eq_true c6
       clear c6
       by_cases c7:x13_1<(l1.length:Int)
       ·rw [if_pos c7] at H
        have c7b0:decide (x13_1<(l1.length:Int))=true:=decide_eq_true c7
        clear c7
        by_cases c8:(rd l0 x13_1)=(rd l1 x13_1)
        ·rw [if_pos c8] at H
         have c8b0:((rd l0 x13_1) == (rd l1 x13_1))=true:=beq_iff_eq.mpr c8
         have c8b1:((rd l0 x13_1) != (rd l1 x13_1))=false:=bne_eq_false_iff_eq.mpr c8
         clear c8
         have H':=Aside0.mk H
         clear H
         have p335:0≤(x13_1:Int):=of_decide_eq_true ‹_›
         have q335:x13_1<(l0.length:Int):=of_decide_eq_true ‹_›
         obtain ⟨ad335,e335,hx335_0⟩:=Kd.at_int HR0.out x13_1 p335 q335
         cases e335
         replace p335:=eq_true p335
         replace q335:=eq_true q335
         have p336:0≤(x13_1:Int):=of_decide_eq_true ‹_›
         have q336:x13_1<(l1.length:Int):=of_decide_eq_true ‹_›
         obtain ⟨ad336,e336,hx336_0⟩:=Kd.at_int HR1.out x13_1 p336 q336
         cases e336
         replace p336:=eq_true p336
         replace q336:=eq_true q336
         go_wp2
         repeat (go_quiet (fail);try go_wp2)
         go_roundg k1
         case measure=>have:=HK1.out;omega
         case rel=>exact ⟨(wrap64 (x13_1+1)),rfl,H',⟨by have:=HK1.out;omega⟩,⟨_,rfl⟩⟩
        ·rw [if_neg c8] at H
         have c8b0:((rd l0 x13_1) == (rd l1 x13_1))=false:=beq_eq_false_iff_ne.mpr c8
         have c8b1:((rd l0 x13_1) != (rd l1 x13_1))=true:=bne_iff_ne.mpr c8
         obtain rfl:=Option.some.inj H
         have p335:0≤(x13_1:Int):=of_decide_eq_true ‹_›
         have q335:x13_1<(l0.length:Int):=of_decide_eq_true ‹_›
         obtain ⟨ad335,e335,hx335_0⟩:=Kd.at_int HR0.out x13_1 p335 q335
         cases e335
         replace p335:=eq_true p335
         replace q335:=eq_true q335
         have p336:0≤(x13_1:Int):=of_decide_eq_true ‹_›
         have q336:x13_1<(l1.length:Int):=of_decide_eq_true ‹_›
         obtain ⟨ad336,e336,hx336_0⟩:=Kd.at_int HR1.out x13_1 p336 q336
         cases e336
         replace p336:=eq_true p336
         replace q336:=eq_true q336
         go_wp2
         repeat (go_quiet (fail);try go_wp2)
         go_ret
         exact ⟨rfl,by repeat (first | exact Drawn0.refl _ | apply Drawn0.step)⟩
       ·rw [if_neg c7] at H
        exact absurd H (by simp)
      ·rw [if_neg c6] at H
       exact absurd H (by simp)
     ·rw [if_neg c5] at H
      exact absurd H (by simp)
    ·rw [if_neg c4] at H
     have c4b0:decide (x13_1<(l0.length:Int))=false:=decide_eq_false c4
     clear c4
     obtain rfl:=Option.some.inj H
     go_wp2
     repeat (go_quiet (fail);try go_wp2)
     go_ret
     exact ⟨rfl,⟨_,rfl⟩⟩
 ·rw [if_neg c3] at H
  have c3b0:((l0.length:Int) == (l1.length:Int))=false:=beq_eq_false_iff_ne.mpr c3
  have c3b1:((l0.length:Int) != (l1.length:Int))=true:=bne_iff_ne.mpr c3
  have c3b2:(l0.length == l1.length)=false:=by first | simpa using c3 | (simp at c3 ⊢;omega)
  obtain rfl:=Option.some.inj H
  go_enter Tru.func54,Try.ntmps54
  go_wp2
  repeat (go_quiet (fail);try go_wp2)
  go_ret
  exact ⟨rfl,by repeat (first | exact Drawn0.refl _ | apply Drawn0.step)⟩
def impl_BatchOk.f (k:Nat) (a0_0:Int) (a0_1:Int) (l0_2:List Int) (l0_3:List Int) (a0_4:Int) (a0_5:Int) (l0_6:List Int) (l0_7:List Int) (a0_8:Int):Option (Bool):=(impl_ColOk.f a0_0 a0_1 l0_2 l0_3).bind fun t338=>(if t338=true then ((impl_ColOk.f a0_4 a0_5 l0_6 l0_7).bind fun t339=>(if t339=true then (if a0_0=1 then (if a0_4=2 then (if a0_1=a0_5 then ((slices_Equal_int_int.f k l0_3 l0_7).bind fun t340=>(if t340=true then ((impl_needOk.f a0_8).bind fun t341=>(some t341)) else (some false))) else (some false)) else (some false)) else (some false)) else (some false))) else (some false))
set_option maxHeartbeats 8000000 in
set_option maxRecDepth 100000 in
theorem impl_BatchOk.calls (k:Nat) (a0_0:Int) (a0_1:Int) (A0_2:Option Addr) (c0_2:Nat) (l0_2:List Int) (A0_3:Option Addr) (c0_3:Nat) (l0_3:List Int) (a0_4:Int) (a0_5:Int) (A0_6:Option Addr) (c0_6:Nat) (l0_6:List Int) (A0_7:Option Addr) (c0_7:Nat) (l0_7:List Int) (a0_8:Int) (r:Bool) (w:World) (hr0_2:Kd.C (Kd.int .i64) w A0_2 l0_2.length l0_2) (hc0_2:l0_2.length≤c0_2) (hr0_3:Kd.C (Kd.int .i64) w A0_3 l0_3.length l0_3) (hc0_3:l0_3.length≤c0_3) (hr0_6:Kd.C (Kd.int .i64) w A0_6 l0_6.length l0_6) (hc0_6:l0_6.length≤c0_6) (hr0_7:Kd.C (Kd.int .i64) w A0_7 l0_7.length l0_7) (hc0_7:l0_7.length≤c0_7) (h:impl_BatchOk.f k a0_0 a0_1 l0_2 l0_3 a0_4 a0_5 l0_6 l0_7 a0_8=some r) :
  Calls Tru.prog 21 #[.agg #[.int .i64 a0_0,.int .i64 a0_1,.slice A0_2 l0_2.length c0_2,.slice A0_3 l0_3.length c0_3,.int .i64 a0_4,.int .i64 a0_5,.slice A0_6 l0_6.length c0_6,.slice A0_7 l0_7.length c0_7,.int .i64 a0_8]] w fun e w'=>e = .returned (.bool r)∧Below w.heap.size w w':=by
 have hu38:=((Tru.und _).trans ((Tru.und _).trans Try.underlying38))
 have hu36:=((Tru.und _).trans ((Tru.und _).trans Try.underlying36))
 have HR0_2:=Aside0.mk hr0_2
 have HC0_2:=Aside0.mk hc0_2
 clear hr0_2 hc0_2
 have HR0_3:=Aside0.mk hr0_3
 have HC0_3:=Aside0.mk hc0_3
 clear hr0_3 hc0_3
 have HR0_6:=Aside0.mk hr0_6
 have HC0_6:=Aside0.mk hc0_6
 clear hr0_6 hc0_6
 have HR0_7:=Aside0.mk hr0_7
 have HC0_7:=Aside0.mk hc0_7
 clear hr0_7 hc0_7
 have HB:=Aside0.mk (Below.refl w.heap.size w)
 have H:=h
 unfold impl_BatchOk.f at H
 clear h
 replace H:=bnd H
 obtain ⟨t338,A2,H⟩:=H
 by_cases c3:t338=true
 ·subst c3
  rw [if_pos rfl] at H
  replace H:=bnd H
  obtain ⟨t339,A4,H⟩:=H
  by_cases c5:t339=true
  ·subst c5
   rw [if_pos rfl] at H
   by_cases c6:a0_0=1
   ·rw [if_pos c6] at H
    have c6b0:(a0_0 == 1)=true:=beq_iff_eq.mpr c6
    have c6b1:(a0_0 != 1)=false:=bne_eq_false_iff_eq.mpr c6
    clear c6
    by_cases c7:a0_4=2
    ·rw [if_pos c7] at H
     have c7b0:(a0_4 == 2)=true:=beq_iff_eq.mpr c7
     have c7b1:(a0_4 != 2)=false:=bne_eq_false_iff_eq.mpr c7
     clear c7
     by_cases c8:a0_1=a0_5
     ·rw [if_pos c8] at H
      have c8b0:(a0_1 == a0_5)=true:=beq_iff_eq.mpr c8
      have c8b1:(a0_1 != a0_5)=false:=bne_eq_false_iff_eq.mpr c8
      clear c8
      replace H:=bnd H
      obtain ⟨t340,A9,H⟩:=H
      by_cases c10:t340=true
      ·subst c10
       rw [if_pos rfl] at H
       replace H:=bnd H
       obtain ⟨t341,A11,H⟩:=H
       obtain rfl:=Option.some.inj H
       go_enter Tru.func21,Try.ntmps21
       go_wp2_with (first | ((with_reducible refine zam (N:=1) rfl ?_);refine boxZ (N:=1) (cs:=#[.int .i64 a0_0,.int .i64 a0_1,.slice A0_2 l0_2.length c0_2,.slice A0_3 l0_3.length c0_3,.int .i64 a0_4,.int .i64 a0_5,.slice A0_6 l0_6.length c0_6,.slice A0_7 l0_7.length c0_7,.int .i64 a0_8]) (t:=38) ?_;intro gb337 hg w12 hbox hb;replace BK337:=Aside0.mk (hbox);replace GW337:=gwZ hg;replace GE337:=gwZ hg;replace HB:=bnZ hb;clear hb hbox hg;have hcz13_0:w12.cell? ⟨gb337,0,none⟩=some (.int .i64 a0_0):=(zab BK337.out 0).trans rfl;have hcz13_1:w12.cell? ⟨gb337,1,none⟩=some (.int .i64 a0_1):=(zab BK337.out 1).trans rfl;have hcz13_2:w12.cell? ⟨gb337,2,none⟩=some (.slice A0_2 l0_2.length c0_2):=(zab BK337.out 2).trans rfl;have hcz13_3:w12.cell? ⟨gb337,3,none⟩=some (.slice A0_3 l0_3.length c0_3):=(zab BK337.out 3).trans rfl;have hcz13_4:w12.cell? ⟨gb337,4,none⟩=some (.int .i64 a0_4):=(zab BK337.out 4).trans rfl;have hcz13_5:w12.cell? ⟨gb337,5,none⟩=some (.int .i64 a0_5):=(zab BK337.out 5).trans rfl;have hcz13_6:w12.cell? ⟨gb337,6,none⟩=some (.slice A0_6 l0_6.length c0_6):=(zab BK337.out 6).trans rfl;have hcz13_7:w12.cell? ⟨gb337,7,none⟩=some (.slice A0_7 l0_7.length c0_7):=(zab BK337.out 7).trans rfl;have hcz13_8:w12.cell? ⟨gb337,8,none⟩=some (.int .i64 a0_8):=(zab BK337.out 8).trans rfl;have hfz13_0:=zaa BK337.out 0;have hfz13_1:=zaa BK337.out 1;have hfz13_2:=zaa BK337.out 2;have hfz13_3:=zaa BK337.out 3;have hfz13_4:=zaa BK337.out 4;have hfz13_5:=zaa BK337.out 5;have hfz13_6:=zaa BK337.out 6;have hfz13_7:=zaa BK337.out 7;have hfz13_8:=zaa BK337.out 8) | ((with_reducible refine zah (f:=53) rfl ?_);refine goesZ (some 5) Tru.func53 #[.agg #[.int .i64 a0_0,.int .i64 a0_1,.slice A0_2 l0_2.length c0_2,.slice A0_3 l0_3.length c0_3]] ?_;(with_reducible refine (impl_ColOk.calls a0_0 a0_1 _ _ l0_2 _ _ l0_3 true _ ?side1 ?side2 ?side3 ?side4 A2.out).mono ?_);(case side1=>exact (Kd.C_below HR0_2.out HB.out));(case side2=>exact HC0_2.out);(case side3=>exact (Kd.C_below HR0_3.out HB.out));(case side4=>exact HC0_3.out);rintro e w14 ⟨rfl,hb⟩;refine ⟨_,rfl,?_⟩;replace BK337:=bkZ hb BK337.out;replace HB:=bnZ hb;(try clear hb);(try clear hb2);(try clear hk);(try clear hi);have hcz15_0:w14.cell? ⟨gb337,0,none⟩=some (.int .i64 a0_0):=(zab BK337.out 0).trans rfl;have hcz15_1:w14.cell? ⟨gb337,1,none⟩=some (.int .i64 a0_1):=(zab BK337.out 1).trans rfl;have hcz15_2:w14.cell? ⟨gb337,2,none⟩=some (.slice A0_2 l0_2.length c0_2):=(zab BK337.out 2).trans rfl;have hcz15_3:w14.cell? ⟨gb337,3,none⟩=some (.slice A0_3 l0_3.length c0_3):=(zab BK337.out 3).trans rfl;have hcz15_4:w14.cell? ⟨gb337,4,none⟩=some (.int .i64 a0_4):=(zab BK337.out 4).trans rfl;have hcz15_5:w14.cell? ⟨gb337,5,none⟩=some (.int .i64 a0_5):=(zab BK337.out 5).trans rfl;have hcz15_6:w14.cell? ⟨gb337,6,none⟩=some (.slice A0_6 l0_6.length c0_6):=(zab BK337.out 6).trans rfl;have hcz15_7:w14.cell? ⟨gb337,7,none⟩=some (.slice A0_7 l0_7.length c0_7):=(zab BK337.out 7).trans rfl;have hcz15_8:w14.cell? ⟨gb337,8,none⟩=some (.int .i64 a0_8):=(zab BK337.out 8).trans rfl;have hfz15_0:=zaa BK337.out 0;have hfz15_1:=zaa BK337.out 1;have hfz15_2:=zaa BK337.out 2;have hfz15_3:=zaa BK337.out 3;have hfz15_4:=zaa BK337.out 4;have hfz15_5:=zaa BK337.out 5;have hfz15_6:=zaa BK337.out 6;have hfz15_7:=zaa BK337.out 7;have hfz15_8:=zaa BK337.out 8) | (go_at_call 53;(with_reducible refine (impl_ColOk.calls a0_4 a0_5 _ _ l0_6 _ _ l0_7 true _ ?side1 ?side2 ?side3 ?side4 A4.out).mono ?_);(case side1=>exact (Kd.C_below HR0_6.out HB.out));(case side2=>exact HC0_6.out);(case side3=>exact (Kd.C_below HR0_7.out HB.out));(case side4=>exact HC0_7.out);rintro e w16 ⟨rfl,hb⟩;replace BK337:=bkZ hb BK337.out;replace HB:=bnZ hb;(try clear hb);(try clear hb2);(try clear hk);(try clear hi);have hcz17_0:w16.cell? ⟨gb337,0,none⟩=some (.int .i64 a0_0):=(zab BK337.out 0).trans rfl;have hcz17_1:w16.cell? ⟨gb337,1,none⟩=some (.int .i64 a0_1):=(zab BK337.out 1).trans rfl;have hcz17_2:w16.cell? ⟨gb337,2,none⟩=some (.slice A0_2 l0_2.length c0_2):=(zab BK337.out 2).trans rfl;have hcz17_3:w16.cell? ⟨gb337,3,none⟩=some (.slice A0_3 l0_3.length c0_3):=(zab BK337.out 3).trans rfl;have hcz17_4:w16.cell? ⟨gb337,4,none⟩=some (.int .i64 a0_4):=(zab BK337.out 4).trans rfl;have hcz17_5:w16.cell? ⟨gb337,5,none⟩=some (.int .i64 a0_5):=(zab BK337.out 5).trans rfl;have hcz17_6:w16.cell? ⟨gb337,6,none⟩=some (.slice A0_6 l0_6.length c0_6):=(zab BK337.out 6).trans rfl;have hcz17_7:w16.cell? ⟨gb337,7,none⟩=some (.slice A0_7 l0_7.length c0_7):=(zab BK337.out 7).trans rfl;have hcz17_8:w16.cell? ⟨gb337,8,none⟩=some (.int .i64 a0_8):=(zab BK337.out 8).trans rfl;have hfz17_0:=zaa BK337.out 0;have hfz17_1:=zaa BK337.out 1;have hfz17_2:=zaa BK337.out 2;have hfz17_3:=zaa BK337.out 3;have hfz17_4:=zaa BK337.out 4;have hfz17_5:=zaa BK337.out 5;have hfz17_6:=zaa BK337.out 6;have hfz17_7:=zaa BK337.out 7;have hfz17_8:=zaa BK337.out 8) | (go_at_call 54;(with_reducible refine (slices_Equal_int_int.calls k _ _ l0_3 _ _ l0_7 true _ ?side1 ?side2 ?side3 ?side4 A9.out).mono ?_);(case side1=>exact (Kd.C_below HR0_3.out HB.out));(case side2=>exact HC0_3.out);(case side3=>exact (Kd.C_below HR0_7.out HB.out));(case side4=>exact HC0_7.out);rintro e w' ⟨rfl,⟨nd,rfl⟩⟩) | (go_at_call 49;(with_reducible refine (impl_needOk.calls a0_8 t341 _ A11.out).mono ?_);rintro e w' ⟨rfl,⟨nd,rfl⟩⟩))
       go_ret
       exact ⟨rfl,by repeat (with_reducible first | exact HB.out | apply zae | apply zac | apply zaf | refine zag ?_ GE337.out)⟩
      ·replace c10:=Bool.eq_false_iff.mpr c10
       subst c10
       rw [if_neg (show ¬ (false=true) by decide)] at H
       obtain rfl:=Option.some.inj H
       go_enter Tru.func21,Try.ntmps21
       go_wp2_with (first | ((with_reducible refine zam (N:=1) rfl ?_);refine boxZ (N:=1) (cs:=#[.int .i64 a0_0,.int .i64 a0_1,.slice A0_2 l0_2.length c0_2,.slice A0_3 l0_3.length c0_3,.int .i64 a0_4,.int .i64 a0_5,.slice A0_6 l0_6.length c0_6,.slice A0_7 l0_7.length c0_7,.int .i64 a0_8]) (t:=38) ?_;intro gb337 hg w18 hbox hb;replace BK337:=Aside0.mk (hbox);replace GW337:=gwZ hg;replace GE337:=gwZ hg;replace HB:=bnZ hb;clear hb hbox hg;have hcz19_0:w18.cell? ⟨gb337,0,none⟩=some (.int .i64 a0_0):=(zab BK337.out 0).trans rfl;have hcz19_1:w18.cell? ⟨gb337,1,none⟩=some (.int .i64 a0_1):=(zab BK337.out 1).trans rfl;have hcz19_2:w18.cell? ⟨gb337,2,none⟩=some (.slice A0_2 l0_2.length c0_2):=(zab BK337.out 2).trans rfl;have hcz19_3:w18.cell? ⟨gb337,3,none⟩=some (.slice A0_3 l0_3.length c0_3):=(zab BK337.out 3).trans rfl;have hcz19_4:w18.cell? ⟨gb337,4,none⟩=some (.int .i64 a0_4):=(zab BK337.out 4).trans rfl;have hcz19_5:w18.cell? ⟨gb337,5,none⟩=some (.int .i64 a0_5):=(zab BK337.out 5).trans rfl;have hcz19_6:w18.cell? ⟨gb337,6,none⟩=some (.slice A0_6 l0_6.length c0_6):=(zab BK337.out 6).trans rfl;have hcz19_7:w18.cell? ⟨gb337,7,none⟩=some (.slice A0_7 l0_7.length c0_7):=(zab BK337.out 7).trans rfl;have hcz19_8:w18.cell? ⟨gb337,8,none⟩=some (.int .i64 a0_8):=(zab BK337.out 8).trans rfl;have hfz19_0:=zaa BK337.out 0;have hfz19_1:=zaa BK337.out 1;have hfz19_2:=zaa BK337.out 2;have hfz19_3:=zaa BK337.out 3;have hfz19_4:=zaa BK337.out 4;have hfz19_5:=zaa BK337.out 5;have hfz19_6:=zaa BK337.out 6;have hfz19_7:=zaa BK337.out 7;have hfz19_8:=zaa BK337.out 8) | ((with_reducible refine zah (f:=53) rfl ?_);refine goesZ (some 5) Tru.func53 #[.agg #[.int .i64 a0_0,.int .i64 a0_1,.slice A0_2 l0_2.length c0_2,.slice A0_3 l0_3.length c0_3]] ?_;(with_reducible refine (impl_ColOk.calls a0_0 a0_1 _ _ l0_2 _ _ l0_3 true _ ?side1 ?side2 ?side3 ?side4 A2.out).mono ?_);(case side1=>exact (Kd.C_below HR0_2.out HB.out));(case side2=>exact HC0_2.out);(case side3=>exact (Kd.C_below HR0_3.out HB.out));(case side4=>exact HC0_3.out);rintro e w20 ⟨rfl,hb⟩;refine ⟨_,rfl,?_⟩;replace BK337:=bkZ hb BK337.out;replace HB:=bnZ hb;(try clear hb);(try clear hb2);(try clear hk);(try clear hi);have hcz21_0:w20.cell? ⟨gb337,0,none⟩=some (.int .i64 a0_0):=(zab BK337.out 0).trans rfl;have hcz21_1:w20.cell? ⟨gb337,1,none⟩=some (.int .i64 a0_1):=(zab BK337.out 1).trans rfl;have hcz21_2:w20.cell? ⟨gb337,2,none⟩=some (.slice A0_2 l0_2.length c0_2):=(zab BK337.out 2).trans rfl;have hcz21_3:w20.cell? ⟨gb337,3,none⟩=some (.slice A0_3 l0_3.length c0_3):=(zab BK337.out 3).trans rfl;have hcz21_4:w20.cell? ⟨gb337,4,none⟩=some (.int .i64 a0_4):=(zab BK337.out 4).trans rfl;have hcz21_5:w20.cell? ⟨gb337,5,none⟩=some (.int .i64 a0_5):=(zab BK337.out 5).trans rfl;have hcz21_6:w20.cell? ⟨gb337,6,none⟩=some (.slice A0_6 l0_6.length c0_6):=(zab BK337.out 6).trans rfl;have hcz21_7:w20.cell? ⟨gb337,7,none⟩=some (.slice A0_7 l0_7.length c0_7):=(zab BK337.out 7).trans rfl;have hcz21_8:w20.cell? ⟨gb337,8,none⟩=some (.int .i64 a0_8):=(zab BK337.out 8).trans rfl;have hfz21_0:=zaa BK337.out 0;have hfz21_1:=zaa BK337.out 1;have hfz21_2:=zaa BK337.out 2;have hfz21_3:=zaa BK337.out 3;have hfz21_4:=zaa BK337.out 4;have hfz21_5:=zaa BK337.out 5;have hfz21_6:=zaa BK337.out 6;have hfz21_7:=zaa BK337.out 7;have hfz21_8:=zaa BK337.out 8) | (go_at_call 53;(with_reducible refine (impl_ColOk.calls a0_4 a0_5 _ _ l0_6 _ _ l0_7 true _ ?side1 ?side2 ?side3 ?side4 A4.out).mono ?_);(case side1=>exact (Kd.C_below HR0_6.out HB.out));(case side2=>exact HC0_6.out);(case side3=>exact (Kd.C_below HR0_7.out HB.out));(case side4=>exact HC0_7.out);rintro e w22 ⟨rfl,hb⟩;replace BK337:=bkZ hb BK337.out;replace HB:=bnZ hb;(try clear hb);(try clear hb2);(try clear hk);(try clear hi);have hcz23_0:w22.cell? ⟨gb337,0,none⟩=some (.int .i64 a0_0):=(zab BK337.out 0).trans rfl;have hcz23_1:w22.cell? ⟨gb337,1,none⟩=some (.int .i64 a0_1):=(zab BK337.out 1).trans rfl;have hcz23_2:w22.cell? ⟨gb337,2,none⟩=some (.slice A0_2 l0_2.length c0_2):=(zab BK337.out 2).trans rfl;have hcz23_3:w22.cell? ⟨gb337,3,none⟩=some (.slice A0_3 l0_3.length c0_3):=(zab BK337.out 3).trans rfl;have hcz23_4:w22.cell? ⟨gb337,4,none⟩=some (.int .i64 a0_4):=(zab BK337.out 4).trans rfl;have hcz23_5:w22.cell? ⟨gb337,5,none⟩=some (.int .i64 a0_5):=(zab BK337.out 5).trans rfl;have hcz23_6:w22.cell? ⟨gb337,6,none⟩=some (.slice A0_6 l0_6.length c0_6):=(zab BK337.out 6).trans rfl;have hcz23_7:w22.cell? ⟨gb337,7,none⟩=some (.slice A0_7 l0_7.length c0_7):=(zab BK337.out 7).trans rfl;have hcz23_8:w22.cell? ⟨gb337,8,none⟩=some (.int .i64 a0_8):=(zab BK337.out 8).trans rfl;have hfz23_0:=zaa BK337.out 0;have hfz23_1:=zaa BK337.out 1;have hfz23_2:=zaa BK337.out 2;have hfz23_3:=zaa BK337.out 3;have hfz23_4:=zaa BK337.out 4;have hfz23_5:=zaa BK337.out 5;have hfz23_6:=zaa BK337.out 6;have hfz23_7:=zaa BK337.out 7;have hfz23_8:=zaa BK337.out 8) | (go_at_call 54;(with_reducible refine (slices_Equal_int_int.calls k _ _ l0_3 _ _ l0_7 false _ ?side1 ?side2 ?side3 ?side4 A9.out).mono ?_);(case side1=>exact (Kd.C_below HR0_3.out HB.out));(case side2=>exact HC0_3.out);(case side3=>exact (Kd.C_below HR0_7.out HB.out));(case side4=>exact HC0_7.out);rintro e w' ⟨rfl,⟨nd,rfl⟩⟩))
       go_ret
       exact ⟨rfl,by repeat (with_reducible first | exact HB.out | apply zae | apply zac | apply zaf | refine zag ?_ GE337.out)⟩
     ·rw [if_neg c8] at H
      have c8b0:(a0_1 == a0_5)=false:=beq_eq_false_iff_ne.mpr c8
      have c8b1:(a0_1 != a0_5)=true:=bne_iff_ne.mpr c8
      obtain rfl:=Option.some.inj H
      go_enter Tru.func21,Try.ntmps21
      go_wp2_with (first | ((with_reducible refine zam (N:=1) rfl ?_);refine boxZ (N:=1) (cs:=#[.int .i64 a0_0,.int .i64 a0_1,.slice A0_2 l0_2.length c0_2,.slice A0_3 l0_3.length c0_3,.int .i64 a0_4,.int .i64 a0_5,.slice A0_6 l0_6.length c0_6,.slice A0_7 l0_7.length c0_7,.int .i64 a0_8]) (t:=38) ?_;intro gb337 hg w24 hbox hb;replace BK337:=Aside0.mk (hbox);replace GW337:=gwZ hg;replace GE337:=gwZ hg;replace HB:=bnZ hb;clear hb hbox hg;have hcz25_0:w24.cell? ⟨gb337,0,none⟩=some (.int .i64 a0_0):=(zab BK337.out 0).trans rfl;have hcz25_1:w24.cell? ⟨gb337,1,none⟩=some (.int .i64 a0_1):=(zab BK337.out 1).trans rfl;have hcz25_2:w24.cell? ⟨gb337,2,none⟩=some (.slice A0_2 l0_2.length c0_2):=(zab BK337.out 2).trans rfl;have hcz25_3:w24.cell? ⟨gb337,3,none⟩=some (.slice A0_3 l0_3.length c0_3):=(zab BK337.out 3).trans rfl;have hcz25_4:w24.cell? ⟨gb337,4,none⟩=some (.int .i64 a0_4):=(zab BK337.out 4).trans rfl;have hcz25_5:w24.cell? ⟨gb337,5,none⟩=some (.int .i64 a0_5):=(zab BK337.out 5).trans rfl;have hcz25_6:w24.cell? ⟨gb337,6,none⟩=some (.slice A0_6 l0_6.length c0_6):=(zab BK337.out 6).trans rfl;have hcz25_7:w24.cell? ⟨gb337,7,none⟩=some (.slice A0_7 l0_7.length c0_7):=(zab BK337.out 7).trans rfl;have hcz25_8:w24.cell? ⟨gb337,8,none⟩=some (.int .i64 a0_8):=(zab BK337.out 8).trans rfl;have hfz25_0:=zaa BK337.out 0;have hfz25_1:=zaa BK337.out 1;have hfz25_2:=zaa BK337.out 2;have hfz25_3:=zaa BK337.out 3;have hfz25_4:=zaa BK337.out 4;have hfz25_5:=zaa BK337.out 5;have hfz25_6:=zaa BK337.out 6;have hfz25_7:=zaa BK337.out 7;have hfz25_8:=zaa BK337.out 8) | ((with_reducible refine zah (f:=53) rfl ?_);refine goesZ (some 5) Tru.func53 #[.agg #[.int .i64 a0_0,.int .i64 a0_1,.slice A0_2 l0_2.length c0_2,.slice A0_3 l0_3.length c0_3]] ?_;(with_reducible refine (impl_ColOk.calls a0_0 a0_1 _ _ l0_2 _ _ l0_3 true _ ?side1 ?side2 ?side3 ?side4 A2.out).mono ?_);(case side1=>exact (Kd.C_below HR0_2.out HB.out));(case side2=>exact HC0_2.out);(case side3=>exact (Kd.C_below HR0_3.out HB.out));(case side4=>exact HC0_3.out);rintro e w26 ⟨rfl,hb⟩;refine ⟨_,rfl,?_⟩;replace BK337:=bkZ hb BK337.out;replace HB:=bnZ hb;(try clear hb);(try clear hb2);(try clear hk);(try clear hi);have hcz27_0:w26.cell? ⟨gb337,0,none⟩=some (.int .i64 a0_0):=(zab BK337.out 0).trans rfl;have hcz27_1:w26.cell? ⟨gb337,1,none⟩=some (.int .i64 a0_1):=(zab BK337.out 1).trans rfl;have hcz27_2:w26.cell? ⟨gb337,2,none⟩=some (.slice A0_2 l0_2.length c0_2):=(zab BK337.out 2).trans rfl;have hcz27_3:w26.cell? ⟨gb337,3,none⟩=some (.slice A0_3 l0_3.length c0_3):=(zab BK337.out 3).trans rfl;have hcz27_4:w26.cell? ⟨gb337,4,none⟩=some (.int .i64 a0_4):=(zab BK337.out 4).trans rfl;have hcz27_5:w26.cell? ⟨gb337,5,none⟩=some (.int .i64 a0_5):=(zab BK337.out 5).trans rfl;have hcz27_6:w26.cell? ⟨gb337,6,none⟩=some (.slice A0_6 l0_6.length c0_6):=(zab BK337.out 6).trans rfl;have hcz27_7:w26.cell? ⟨gb337,7,none⟩=some (.slice A0_7 l0_7.length c0_7):=(zab BK337.out 7).trans rfl;have hcz27_8:w26.cell? ⟨gb337,8,none⟩=some (.int .i64 a0_8):=(zab BK337.out 8).trans rfl;have hfz27_0:=zaa BK337.out 0;have hfz27_1:=zaa BK337.out 1;have hfz27_2:=zaa BK337.out 2;have hfz27_3:=zaa BK337.out 3;have hfz27_4:=zaa BK337.out 4;have hfz27_5:=zaa BK337.out 5;have hfz27_6:=zaa BK337.out 6;have hfz27_7:=zaa BK337.out 7;have hfz27_8:=zaa BK337.out 8) | (go_at_call 53;(with_reducible refine (impl_ColOk.calls a0_4 a0_5 _ _ l0_6 _ _ l0_7 true _ ?side1 ?side2 ?side3 ?side4 A4.out).mono ?_);(case side1=>exact (Kd.C_below HR0_6.out HB.out));(case side2=>exact HC0_6.out);(case side3=>exact (Kd.C_below HR0_7.out HB.out));(case side4=>exact HC0_7.out);rintro e w28 ⟨rfl,hb⟩;replace BK337:=bkZ hb BK337.out;replace HB:=bnZ hb;(try clear hb);(try clear hb2);(try clear hk);(try clear hi);have hcz29_0:w28.cell? ⟨gb337,0,none⟩=some (.int .i64 a0_0):=(zab BK337.out 0).trans rfl;have hcz29_1:w28.cell? ⟨gb337,1,none⟩=some (.int .i64 a0_1):=(zab BK337.out 1).trans rfl;have hcz29_2:w28.cell? ⟨gb337,2,none⟩=some (.slice A0_2 l0_2.length c0_2):=(zab BK337.out 2).trans rfl;have hcz29_3:w28.cell? ⟨gb337,3,none⟩=some (.slice A0_3 l0_3.length c0_3):=(zab BK337.out 3).trans rfl;have hcz29_4:w28.cell? ⟨gb337,4,none⟩=some (.int .i64 a0_4):=(zab BK337.out 4).trans rfl;have hcz29_5:w28.cell? ⟨gb337,5,none⟩=some (.int .i64 a0_5):=(zab BK337.out 5).trans rfl;have hcz29_6:w28.cell? ⟨gb337,6,none⟩=some (.slice A0_6 l0_6.length c0_6):=(zab BK337.out 6).trans rfl;have hcz29_7:w28.cell? ⟨gb337,7,none⟩=some (.slice A0_7 l0_7.length c0_7):=(zab BK337.out 7).trans rfl;have hcz29_8:w28.cell? ⟨gb337,8,none⟩=some (.int .i64 a0_8):=(zab BK337.out 8).trans rfl;have hfz29_0:=zaa BK337.out 0;have hfz29_1:=zaa BK337.out 1;have hfz29_2:=zaa BK337.out 2;have hfz29_3:=zaa BK337.out 3;have hfz29_4:=zaa BK337.out 4;have hfz29_5:=zaa BK337.out 5;have hfz29_6:=zaa BK337.out 6;have hfz29_7:=zaa BK337.out 7;have hfz29_8:=zaa BK337.out 8))
      go_ret
      exact ⟨rfl,by repeat (with_reducible first | exact HB.out | apply zae | apply zac | apply zaf | refine zag ?_ GE337.out)⟩
    ·rw [if_neg c7] at H
     have c7b0:(a0_4 == 2)=false:=beq_eq_false_iff_ne.mpr c7
     have c7b1:(a0_4 != 2)=true:=bne_iff_ne.mpr c7
     obtain rfl:=Option.some.inj H
     go_enter Tru.func21,Try.ntmps21
     go_wp2_with (first | ((with_reducible refine zam (N:=1) rfl ?_);refine boxZ (N:=1) (cs:=#[.int .i64 a0_0,.int .i64 a0_1,.slice A0_2 l0_2.length c0_2,.slice A0_3 l0_3.length c0_3,.int .i64 a0_4,.int .i64 a0_5,.slice A0_6 l0_6.length c0_6,.slice A0_7 l0_7.length c0_7,.int .i64 a0_8]) (t:=38) ?_;intro gb337 hg w30 hbox hb;replace BK337:=Aside0.mk (hbox);replace GW337:=gwZ hg;replace GE337:=gwZ hg;replace HB:=bnZ hb;clear hb hbox hg;have hcz31_0:w30.cell? ⟨gb337,0,none⟩=some (.int .i64 a0_0):=(zab BK337.out 0).trans rfl;have hcz31_1:w30.cell? ⟨gb337,1,none⟩=some (.int .i64 a0_1):=(zab BK337.out 1).trans rfl;have hcz31_2:w30.cell? ⟨gb337,2,none⟩=some (.slice A0_2 l0_2.length c0_2):=(zab BK337.out 2).trans rfl;have hcz31_3:w30.cell? ⟨gb337,3,none⟩=some (.slice A0_3 l0_3.length c0_3):=(zab BK337.out 3).trans rfl;have hcz31_4:w30.cell? ⟨gb337,4,none⟩=some (.int .i64 a0_4):=(zab BK337.out 4).trans rfl;have hcz31_5:w30.cell? ⟨gb337,5,none⟩=some (.int .i64 a0_5):=(zab BK337.out 5).trans rfl;have hcz31_6:w30.cell? ⟨gb337,6,none⟩=some (.slice A0_6 l0_6.length c0_6):=(zab BK337.out 6).trans rfl;have hcz31_7:w30.cell? ⟨gb337,7,none⟩=some (.slice A0_7 l0_7.length c0_7):=(zab BK337.out 7).trans rfl;have hcz31_8:w30.cell? ⟨gb337,8,none⟩=some (.int .i64 a0_8):=(zab BK337.out 8).trans rfl;have hfz31_0:=zaa BK337.out 0;have hfz31_1:=zaa BK337.out 1;have hfz31_2:=zaa BK337.out 2;have hfz31_3:=zaa BK337.out 3;have hfz31_4:=zaa BK337.out 4;have hfz31_5:=zaa BK337.out 5;have hfz31_6:=zaa BK337.out 6;have hfz31_7:=zaa BK337.out 7;have hfz31_8:=zaa BK337.out 8) | ((with_reducible refine zah (f:=53) rfl ?_);refine goesZ (some 5) Tru.func53 #[.agg #[.int .i64 a0_0,.int .i64 a0_1,.slice A0_2 l0_2.length c0_2,.slice A0_3 l0_3.length c0_3]] ?_;(with_reducible refine (impl_ColOk.calls a0_0 a0_1 _ _ l0_2 _ _ l0_3 true _ ?side1 ?side2 ?side3 ?side4 A2.out).mono ?_);(case side1=>exact (Kd.C_below HR0_2.out HB.out));(case side2=>exact HC0_2.out);(case side3=>exact (Kd.C_below HR0_3.out HB.out));(case side4=>exact HC0_3.out);rintro e w32 ⟨rfl,hb⟩;refine ⟨_,rfl,?_⟩;replace BK337:=bkZ hb BK337.out;replace HB:=bnZ hb;(try clear hb);(try clear hb2);(try clear hk);(try clear hi);have hcz33_0:w32.cell? ⟨gb337,0,none⟩=some (.int .i64 a0_0):=(zab BK337.out 0).trans rfl;have hcz33_1:w32.cell? ⟨gb337,1,none⟩=some (.int .i64 a0_1):=(zab BK337.out 1).trans rfl;have hcz33_2:w32.cell? ⟨gb337,2,none⟩=some (.slice A0_2 l0_2.length c0_2):=(zab BK337.out 2).trans rfl;have hcz33_3:w32.cell? ⟨gb337,3,none⟩=some (.slice A0_3 l0_3.length c0_3):=(zab BK337.out 3).trans rfl;have hcz33_4:w32.cell? ⟨gb337,4,none⟩=some (.int .i64 a0_4):=(zab BK337.out 4).trans rfl;have hcz33_5:w32.cell? ⟨gb337,5,none⟩=some (.int .i64 a0_5):=(zab BK337.out 5).trans rfl;have hcz33_6:w32.cell? ⟨gb337,6,none⟩=some (.slice A0_6 l0_6.length c0_6):=(zab BK337.out 6).trans rfl;have hcz33_7:w32.cell? ⟨gb337,7,none⟩=some (.slice A0_7 l0_7.length c0_7):=(zab BK337.out 7).trans rfl;have hcz33_8:w32.cell? ⟨gb337,8,none⟩=some (.int .i64 a0_8):=(zab BK337.out 8).trans rfl;have hfz33_0:=zaa BK337.out 0;have hfz33_1:=zaa BK337.out 1;have hfz33_2:=zaa BK337.out 2;have hfz33_3:=zaa BK337.out 3;have hfz33_4:=zaa BK337.out 4;have hfz33_5:=zaa BK337.out 5;have hfz33_6:=zaa BK337.out 6;have hfz33_7:=zaa BK337.out 7;have hfz33_8:=zaa BK337.out 8) | (go_at_call 53;(with_reducible refine (impl_ColOk.calls a0_4 a0_5 _ _ l0_6 _ _ l0_7 true _ ?side1 ?side2 ?side3 ?side4 A4.out).mono ?_);(case side1=>exact (Kd.C_below HR0_6.out HB.out));(case side2=>exact HC0_6.out);(case side3=>exact (Kd.C_below HR0_7.out HB.out));(case side4=>exact HC0_7.out);rintro e w34 ⟨rfl,hb⟩;replace BK337:=bkZ hb BK337.out;replace HB:=bnZ hb;(try clear hb);(try clear hb2);(try clear hk);(try clear hi);have hcz35_0:w34.cell? ⟨gb337,0,none⟩=some (.int .i64 a0_0):=(zab BK337.out 0).trans rfl;have hcz35_1:w34.cell? ⟨gb337,1,none⟩=some (.int .i64 a0_1):=(zab BK337.out 1).trans rfl;have hcz35_2:w34.cell? ⟨gb337,2,none⟩=some (.slice A0_2 l0_2.length c0_2):=(zab BK337.out 2).trans rfl;have hcz35_3:w34.cell? ⟨gb337,3,none⟩=some (.slice A0_3 l0_3.length c0_3):=(zab BK337.out 3).trans rfl;have hcz35_4:w34.cell? ⟨gb337,4,none⟩=some (.int .i64 a0_4):=(zab BK337.out 4).trans rfl;have hcz35_5:w34.cell? ⟨gb337,5,none⟩=some (.int .i64 a0_5):=(zab BK337.out 5).trans rfl;have hcz35_6:w34.cell? ⟨gb337,6,none⟩=some (.slice A0_6 l0_6.length c0_6):=(zab BK337.out 6).trans rfl;have hcz35_7:w34.cell? ⟨gb337,7,none⟩=some (.slice A0_7 l0_7.length c0_7):=(zab BK337.out 7).trans rfl;have hcz35_8:w34.cell? ⟨gb337,8,none⟩=some (.int .i64 a0_8):=(zab BK337.out 8).trans rfl;have hfz35_0:=zaa BK337.out 0;have hfz35_1:=zaa BK337.out 1;have hfz35_2:=zaa BK337.out 2;have hfz35_3:=zaa BK337.out 3;have hfz35_4:=zaa BK337.out 4;have hfz35_5:=zaa BK337.out 5;have hfz35_6:=zaa BK337.out 6;have hfz35_7:=zaa BK337.out 7;have hfz35_8:=zaa BK337.out 8))
     go_ret
     exact ⟨rfl,by repeat (with_reducible first | exact HB.out | apply zae | apply zac | apply zaf | refine zag ?_ GE337.out)⟩
   ·rw [if_neg c6] at H
    have c6b0:(a0_0 == 1)=false:=beq_eq_false_iff_ne.mpr c6
    have c6b1:(a0_0 != 1)=true:=bne_iff_ne.mpr c6
    obtain rfl:=Option.some.inj H
    go_enter Tru.func21,Try.ntmps21
    go_wp2_with (first | ((with_reducible refine zam (N:=1) rfl ?_);refine boxZ (N:=1) (cs:=#[.int .i64 a0_0,.int .i64 a0_1,.slice A0_2 l0_2.length c0_2,.slice A0_3 l0_3.length c0_3,.int .i64 a0_4,.int .i64 a0_5,.slice A0_6 l0_6.length c0_6,.slice A0_7 l0_7.length c0_7,.int .i64 a0_8]) (t:=38) ?_;intro gb337 hg w36 hbox hb;replace BK337:=Aside0.mk (hbox);replace GW337:=gwZ hg;replace GE337:=gwZ hg;replace HB:=bnZ hb;clear hb hbox hg;have hcz37_0:w36.cell? ⟨gb337,0,none⟩=some (.int .i64 a0_0):=(zab BK337.out 0).trans rfl;have hcz37_1:w36.cell? ⟨gb337,1,none⟩=some (.int .i64 a0_1):=(zab BK337.out 1).trans rfl;have hcz37_2:w36.cell? ⟨gb337,2,none⟩=some (.slice A0_2 l0_2.length c0_2):=(zab BK337.out 2).trans rfl;have hcz37_3:w36.cell? ⟨gb337,3,none⟩=some (.slice A0_3 l0_3.length c0_3):=(zab BK337.out 3).trans rfl;have hcz37_4:w36.cell? ⟨gb337,4,none⟩=some (.int .i64 a0_4):=(zab BK337.out 4).trans rfl;have hcz37_5:w36.cell? ⟨gb337,5,none⟩=some (.int .i64 a0_5):=(zab BK337.out 5).trans rfl;have hcz37_6:w36.cell? ⟨gb337,6,none⟩=some (.slice A0_6 l0_6.length c0_6):=(zab BK337.out 6).trans rfl;have hcz37_7:w36.cell? ⟨gb337,7,none⟩=some (.slice A0_7 l0_7.length c0_7):=(zab BK337.out 7).trans rfl;have hcz37_8:w36.cell? ⟨gb337,8,none⟩=some (.int .i64 a0_8):=(zab BK337.out 8).trans rfl;have hfz37_0:=zaa BK337.out 0;have hfz37_1:=zaa BK337.out 1;have hfz37_2:=zaa BK337.out 2;have hfz37_3:=zaa BK337.out 3;have hfz37_4:=zaa BK337.out 4;have hfz37_5:=zaa BK337.out 5;have hfz37_6:=zaa BK337.out 6;have hfz37_7:=zaa BK337.out 7;have hfz37_8:=zaa BK337.out 8) | ((with_reducible refine zah (f:=53) rfl ?_);refine goesZ (some 5) Tru.func53 #[.agg #[.int .i64 a0_0,.int .i64 a0_1,.slice A0_2 l0_2.length c0_2,.slice A0_3 l0_3.length c0_3]] ?_;(with_reducible refine (impl_ColOk.calls a0_0 a0_1 _ _ l0_2 _ _ l0_3 true _ ?side1 ?side2 ?side3 ?side4 A2.out).mono ?_);(case side1=>exact (Kd.C_below HR0_2.out HB.out));(case side2=>exact HC0_2.out);(case side3=>exact (Kd.C_below HR0_3.out HB.out));(case side4=>exact HC0_3.out);rintro e w38 ⟨rfl,hb⟩;refine ⟨_,rfl,?_⟩;replace BK337:=bkZ hb BK337.out;replace HB:=bnZ hb;(try clear hb);(try clear hb2);(try clear hk);(try clear hi);have hcz39_0:w38.cell? ⟨gb337,0,none⟩=some (.int .i64 a0_0):=(zab BK337.out 0).trans rfl;have hcz39_1:w38.cell? ⟨gb337,1,none⟩=some (.int .i64 a0_1):=(zab BK337.out 1).trans rfl;have hcz39_2:w38.cell? ⟨gb337,2,none⟩=some (.slice A0_2 l0_2.length c0_2):=(zab BK337.out 2).trans rfl;have hcz39_3:w38.cell? ⟨gb337,3,none⟩=some (.slice A0_3 l0_3.length c0_3):=(zab BK337.out 3).trans rfl;have hcz39_4:w38.cell? ⟨gb337,4,none⟩=some (.int .i64 a0_4):=(zab BK337.out 4).trans rfl;have hcz39_5:w38.cell? ⟨gb337,5,none⟩=some (.int .i64 a0_5):=(zab BK337.out 5).trans rfl;have hcz39_6:w38.cell? ⟨gb337,6,none⟩=some (.slice A0_6 l0_6.length c0_6):=(zab BK337.out 6).trans rfl;have hcz39_7:w38.cell? ⟨gb337,7,none⟩=some (.slice A0_7 l0_7.length c0_7):=(zab BK337.out 7).trans rfl;have hcz39_8:w38.cell? ⟨gb337,8,none⟩=some (.int .i64 a0_8):=(zab BK337.out 8).trans rfl;have hfz39_0:=zaa BK337.out 0;have hfz39_1:=zaa BK337.out 1;have hfz39_2:=zaa BK337.out 2;have hfz39_3:=zaa BK337.out 3;have hfz39_4:=zaa BK337.out 4;have hfz39_5:=zaa BK337.out 5;have hfz39_6:=zaa BK337.out 6;have hfz39_7:=zaa BK337.out 7;have hfz39_8:=zaa BK337.out 8) | (go_at_call 53;(with_reducible refine (impl_ColOk.calls a0_4 a0_5 _ _ l0_6 _ _ l0_7 true _ ?side1 ?side2 ?side3 ?side4 A4.out).mono ?_);(case side1=>exact (Kd.C_below HR0_6.out HB.out));(case side2=>exact HC0_6.out);(case side3=>exact (Kd.C_below HR0_7.out HB.out));(case side4=>exact HC0_7.out);rintro e w40 ⟨rfl,hb⟩;replace BK337:=bkZ hb BK337.out;replace HB:=bnZ hb;(try clear hb);(try clear hb2);(try clear hk);(try clear hi);have hcz41_0:w40.cell? ⟨gb337,0,none⟩=some (.int .i64 a0_0):=(zab BK337.out 0).trans rfl;have hcz41_1:w40.cell? ⟨gb337,1,none⟩=some (.int .i64 a0_1):=(zab BK337.out 1).trans rfl;have hcz41_2:w40.cell? ⟨gb337,2,none⟩=some (.slice A0_2 l0_2.length c0_2):=(zab BK337.out 2).trans rfl;have hcz41_3:w40.cell? ⟨gb337,3,none⟩=some (.slice A0_3 l0_3.length c0_3):=(zab BK337.out 3).trans rfl;have hcz41_4:w40.cell? ⟨gb337,4,none⟩=some (.int .i64 a0_4):=(zab BK337.out 4).trans rfl;have hcz41_5:w40.cell? ⟨gb337,5,none⟩=some (.int .i64 a0_5):=(zab BK337.out 5).trans rfl;have hcz41_6:w40.cell? ⟨gb337,6,none⟩=some (.slice A0_6 l0_6.length c0_6):=(zab BK337.out 6).trans rfl;have hcz41_7:w40.cell? ⟨gb337,7,none⟩=some (.slice A0_7 l0_7.length c0_7):=(zab BK337.out 7).trans rfl;have hcz41_8:w40.cell? ⟨gb337,8,none⟩=some (.int .i64 a0_8):=(zab BK337.out 8).trans rfl;have hfz41_0:=zaa BK337.out 0;have hfz41_1:=zaa BK337.out 1;have hfz41_2:=zaa BK337.out 2;have hfz41_3:=zaa BK337.out 3;have hfz41_4:=zaa BK337.out 4;have hfz41_5:=zaa BK337.out 5;have hfz41_6:=zaa BK337.out 6;have hfz41_7:=zaa BK337.out 7;have hfz41_8:=zaa BK337.out 8))
    go_ret
    exact ⟨rfl,by repeat (with_reducible first | exact HB.out | apply zae | apply zac | apply zaf | refine zag ?_ GE337.out)⟩
  ·replace c5:=Bool.eq_false_iff.mpr c5
   subst c5
   rw [if_neg (show ¬ (false=true) by decide)] at H
   obtain rfl:=Option.some.inj H
   go_enter Tru.func21,Try.ntmps21
   go_wp2_with (first | ((with_reducible refine zam (N:=1) rfl ?_);refine boxZ (N:=1) (cs:=#[.int .i64 a0_0,.int .i64 a0_1,.slice A0_2 l0_2.length c0_2,.slice A0_3 l0_3.length c0_3,.int .i64 a0_4,.int .i64 a0_5,.slice A0_6 l0_6.length c0_6,.slice A0_7 l0_7.length c0_7,.int .i64 a0_8]) (t:=38) ?_;intro gb337 hg w42 hbox hb;replace BK337:=Aside0.mk (hbox);replace GW337:=gwZ hg;replace GE337:=gwZ hg;replace HB:=bnZ hb;clear hb hbox hg;have hcz43_0:w42.cell? ⟨gb337,0,none⟩=some (.int .i64 a0_0):=(zab BK337.out 0).trans rfl;have hcz43_1:w42.cell? ⟨gb337,1,none⟩=some (.int .i64 a0_1):=(zab BK337.out 1).trans rfl;have hcz43_2:w42.cell? ⟨gb337,2,none⟩=some (.slice A0_2 l0_2.length c0_2):=(zab BK337.out 2).trans rfl;have hcz43_3:w42.cell? ⟨gb337,3,none⟩=some (.slice A0_3 l0_3.length c0_3):=(zab BK337.out 3).trans rfl;have hcz43_4:w42.cell? ⟨gb337,4,none⟩=some (.int .i64 a0_4):=(zab BK337.out 4).trans rfl;have hcz43_5:w42.cell? ⟨gb337,5,none⟩=some (.int .i64 a0_5):=(zab BK337.out 5).trans rfl;have hcz43_6:w42.cell? ⟨gb337,6,none⟩=some (.slice A0_6 l0_6.length c0_6):=(zab BK337.out 6).trans rfl;have hcz43_7:w42.cell? ⟨gb337,7,none⟩=some (.slice A0_7 l0_7.length c0_7):=(zab BK337.out 7).trans rfl;have hcz43_8:w42.cell? ⟨gb337,8,none⟩=some (.int .i64 a0_8):=(zab BK337.out 8).trans rfl;have hfz43_0:=zaa BK337.out 0;have hfz43_1:=zaa BK337.out 1;have hfz43_2:=zaa BK337.out 2;have hfz43_3:=zaa BK337.out 3;have hfz43_4:=zaa BK337.out 4;have hfz43_5:=zaa BK337.out 5;have hfz43_6:=zaa BK337.out 6;have hfz43_7:=zaa BK337.out 7;have hfz43_8:=zaa BK337.out 8) | ((with_reducible refine zah (f:=53) rfl ?_);refine goesZ (some 5) Tru.func53 #[.agg #[.int .i64 a0_0,.int .i64 a0_1,.slice A0_2 l0_2.length c0_2,.slice A0_3 l0_3.length c0_3]] ?_;(with_reducible refine (impl_ColOk.calls a0_0 a0_1 _ _ l0_2 _ _ l0_3 true _ ?side1 ?side2 ?side3 ?side4 A2.out).mono ?_);(case side1=>exact (Kd.C_below HR0_2.out HB.out));(case side2=>exact HC0_2.out);(case side3=>exact (Kd.C_below HR0_3.out HB.out));(case side4=>exact HC0_3.out);rintro e w44 ⟨rfl,hb⟩;refine ⟨_,rfl,?_⟩;replace BK337:=bkZ hb BK337.out;replace HB:=bnZ hb;(try clear hb);(try clear hb2);(try clear hk);(try clear hi);have hcz45_0:w44.cell? ⟨gb337,0,none⟩=some (.int .i64 a0_0):=(zab BK337.out 0).trans rfl;have hcz45_1:w44.cell? ⟨gb337,1,none⟩=some (.int .i64 a0_1):=(zab BK337.out 1).trans rfl;have hcz45_2:w44.cell? ⟨gb337,2,none⟩=some (.slice A0_2 l0_2.length c0_2):=(zab BK337.out 2).trans rfl;have hcz45_3:w44.cell? ⟨gb337,3,none⟩=some (.slice A0_3 l0_3.length c0_3):=(zab BK337.out 3).trans rfl;have hcz45_4:w44.cell? ⟨gb337,4,none⟩=some (.int .i64 a0_4):=(zab BK337.out 4).trans rfl;have hcz45_5:w44.cell? ⟨gb337,5,none⟩=some (.int .i64 a0_5):=(zab BK337.out 5).trans rfl;have hcz45_6:w44.cell? ⟨gb337,6,none⟩=some (.slice A0_6 l0_6.length c0_6):=(zab BK337.out 6).trans rfl;have hcz45_7:w44.cell? ⟨gb337,7,none⟩=some (.slice A0_7 l0_7.length c0_7):=(zab BK337.out 7).trans rfl;have hcz45_8:w44.cell? ⟨gb337,8,none⟩=some (.int .i64 a0_8):=(zab BK337.out 8).trans rfl;have hfz45_0:=zaa BK337.out 0;have hfz45_1:=zaa BK337.out 1;have hfz45_2:=zaa BK337.out 2;have hfz45_3:=zaa BK337.out 3;have hfz45_4:=zaa BK337.out 4;have hfz45_5:=zaa BK337.out 5;have hfz45_6:=zaa BK337.out 6;have hfz45_7:=zaa BK337.out 7;have hfz45_8:=zaa BK337.out 8) | (go_at_call 53;(with_reducible refine (impl_ColOk.calls a0_4 a0_5 _ _ l0_6 _ _ l0_7 false _ ?side1 ?side2 ?side3 ?side4 A4.out).mono ?_);(case side1=>exact (Kd.C_below HR0_6.out HB.out));(case side2=>exact HC0_6.out);(case side3=>exact (Kd.C_below HR0_7.out HB.out));(case side4=>exact HC0_7.out);rintro e w46 ⟨rfl,hb⟩;replace BK337:=bkZ hb BK337.out;replace HB:=bnZ hb;clear hb))
   go_ret
   exact ⟨rfl,by repeat (with_reducible first | exact HB.out | apply zae | apply zac | apply zaf | refine zag ?_ GE337.out)⟩
 ·replace c3:=Bool.eq_false_iff.mpr c3
  subst c3
  rw [if_neg (show ¬ (false=true) by decide)] at H
  obtain rfl:=Option.some.inj H
  go_enter Tru.func21,Try.ntmps21
  go_wp2_with (first | ((with_reducible refine zam (N:=1) rfl ?_);refine boxZ (N:=1) (cs:=#[.int .i64 a0_0,.int .i64 a0_1,.slice A0_2 l0_2.length c0_2,.slice A0_3 l0_3.length c0_3,.int .i64 a0_4,.int .i64 a0_5,.slice A0_6 l0_6.length c0_6,.slice A0_7 l0_7.length c0_7,.int .i64 a0_8]) (t:=38) ?_;intro gb337 hg w47 hbox hb;replace BK337:=Aside0.mk (hbox);replace GW337:=gwZ hg;replace GE337:=gwZ hg;replace HB:=bnZ hb;clear hb hbox hg;have hcz48_0:w47.cell? ⟨gb337,0,none⟩=some (.int .i64 a0_0):=(zab BK337.out 0).trans rfl;have hcz48_1:w47.cell? ⟨gb337,1,none⟩=some (.int .i64 a0_1):=(zab BK337.out 1).trans rfl;have hcz48_2:w47.cell? ⟨gb337,2,none⟩=some (.slice A0_2 l0_2.length c0_2):=(zab BK337.out 2).trans rfl;have hcz48_3:w47.cell? ⟨gb337,3,none⟩=some (.slice A0_3 l0_3.length c0_3):=(zab BK337.out 3).trans rfl;have hcz48_4:w47.cell? ⟨gb337,4,none⟩=some (.int .i64 a0_4):=(zab BK337.out 4).trans rfl;have hcz48_5:w47.cell? ⟨gb337,5,none⟩=some (.int .i64 a0_5):=(zab BK337.out 5).trans rfl;have hcz48_6:w47.cell? ⟨gb337,6,none⟩=some (.slice A0_6 l0_6.length c0_6):=(zab BK337.out 6).trans rfl;have hcz48_7:w47.cell? ⟨gb337,7,none⟩=some (.slice A0_7 l0_7.length c0_7):=(zab BK337.out 7).trans rfl;have hcz48_8:w47.cell? ⟨gb337,8,none⟩=some (.int .i64 a0_8):=(zab BK337.out 8).trans rfl;have hfz48_0:=zaa BK337.out 0;have hfz48_1:=zaa BK337.out 1;have hfz48_2:=zaa BK337.out 2;have hfz48_3:=zaa BK337.out 3;have hfz48_4:=zaa BK337.out 4;have hfz48_5:=zaa BK337.out 5;have hfz48_6:=zaa BK337.out 6;have hfz48_7:=zaa BK337.out 7;have hfz48_8:=zaa BK337.out 8) | ((with_reducible refine zah (f:=53) rfl ?_);refine goesZ (some 5) Tru.func53 #[.agg #[.int .i64 a0_0,.int .i64 a0_1,.slice A0_2 l0_2.length c0_2,.slice A0_3 l0_3.length c0_3]] ?_;(with_reducible refine (impl_ColOk.calls a0_0 a0_1 _ _ l0_2 _ _ l0_3 false _ ?side1 ?side2 ?side3 ?side4 A2.out).mono ?_);(case side1=>exact (Kd.C_below HR0_2.out HB.out));(case side2=>exact HC0_2.out);(case side3=>exact (Kd.C_below HR0_3.out HB.out));(case side4=>exact HC0_3.out);rintro e w49 ⟨rfl,hb⟩;refine ⟨_,rfl,?_⟩;replace BK337:=bkZ hb BK337.out;replace HB:=bnZ hb;clear hb))
  go_ret
  exact ⟨rfl,by repeat (with_reducible first | exact HB.out | apply zae | apply zac | apply zaf | refine zag ?_ GE337.out)⟩
end Go.Proofs.Ytjkikkgpenhbgaa.Ba
