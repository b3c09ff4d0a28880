import Derived.Test.YtjkikkgpenhbgaaLBa0
import Derived.Test.YtjkikkgpenhbgaaLBa1
namespace Go.Proofs.Ytjkikkgpenhbgaa.Ba
open Go.RowKit Go.Proofs.YtjkikkgpenhbgaaW.PrintWords Go.Proofs.YtjkikkgpenhbgaaW.PrintLast Go.Proofs.YtjkikkgpenhbgaaW.PrintMore
attribute [local go_sem] max2_int min2_int max_two min_two max_three min_three max_four min_four
set_option linter.unusedVariables false
set_option linter.unusedSimpArgs false
def impl_within.f (a0:Int) (a1:Int) (a2:Int):Option (Bool):=if a0≥a1 then (some (decide (a0≤a2))) else (some false)
set_option maxHeartbeats 8000000 in
set_option maxRecDepth 100000 in
theorem impl_within.calls (a0:Int) (a1:Int) (a2:Int) (r:Bool) (w:World) (h:impl_within.f a0 a1 a2=some r) :
  Calls Tru.prog 73 #[.int .i64 a0,.int .i64 a1,.int .i64 a2] w fun e w'=>e = .returned (.bool r)∧Drawn0 w w':=by
 have H:(if a0≥a1 then (some (decide (a0≤a2))) else (some false))=some r:=h
 clear h
 by_cases c4:a0≥a1
 ·rw [if_pos c4] at H
  have c4b0:decide (a1≤a0)=true:=decide_eq_true c4
  clear c4
  obtain rfl:=Option.some.inj H
  go_enter Tru.func73,Try.ntmps73
  go_wp2
  go_ret
  exact ⟨by first | rfl | (simp;done) | (simp [*];done),by repeat (first | exact Drawn0.refl _ | apply Drawn0.step)⟩
 ·rw [if_neg c4] at H
  have c4b0:decide (a1≤a0)=false:=decide_eq_false c4
  clear c4
  obtain rfl:=Option.some.inj H
  go_enter Tru.func73,Try.ntmps73
  go_wp2
  go_ret
  exact ⟨by first | rfl | (simp;done) | (simp [*];done),by repeat (first | exact Drawn0.refl _ | apply Drawn0.step)⟩
def fOk (n:Int):Bool:=decide (0≤n) && decide (n≤30)
set_option maxHeartbeats 400000 in
set_option maxRecDepth 100000 in
theorem elementsOk1.yes (n:Int) (w:World) (h:fOk n=true):Calls Tru.prog 65 #[.int .i64 n] w fun e w'=>e = .returned (.bool false)∧Drawn0 w w':=by
 simp only [fOk,Bool.and_eq_true,decide_eq_true_eq] at h
 obtain ⟨h1,h2⟩:=h
 go_enter Tru.func65,Try.ntmps65
 go_wp2
 go_ret
 exact ⟨rfl,Drawn0.refl _⟩
set_option maxHeartbeats 400000 in
set_option maxRecDepth 100000 in
theorem elementsOk1.no (n:Int) (w:World) (h:fOk n=false):Calls Tru.prog 65 #[.int .i64 n] w fun e w'=>e = .returned (.bool true)∧Drawn0 w w':=by
 have h':n<0∨30<n:=by simp only [fOk,Bool.and_eq_false_iff,decide_eq_false_iff_not] at h;omega
 clear h
 rcases h' with h1 | h1
 ·go_enter Tru.func65,Try.ntmps65
  go_wp2
  go_ret
  exact ⟨rfl,Drawn0.refl _⟩
 ·have h0:decide (0≤n)=true:=by simp;omega
  have h2:decide (n≤30)=false:=by simp;omega
  go_enter Tru.func65,Try.ntmps65
  go_wp2
  go_ret
  exact ⟨rfl,Drawn0.refl _⟩
set_option maxHeartbeats 1000000 in
set_option maxRecDepth 100000 in
theorem IndexFunc.ok (A0:Option Addr) (c0:Nat) (l0:List Int) (w:World) (hr0:Kd.C (Kd.int .i64) w A0 l0.length l0) (hm:l0.length≤9223372036854775807) (h:l0.all fOk=true) :
  Calls Tru.prog 84 #[.slice A0 l0.length c0,.func (.func 65) #[] #[]] w fun e w'=>e = .returned (.int .i64 (-1))∧Drawn0 w w':=by
 have HR0:=Aside0.mk hr0
 clear hr0
 have H:=Aside0.mk h
 clear h
 go_enter Tru.func84,Try.ntmps84
 go_wp2
 go_loopw [8] (fun i wr=>∃ k:Nat,k≤l0.length∧i = .int .i64 k∧Drawn0 w wr) (fun i _=>l0.length - (intOf i).toNat)
 case atStart=>exact ⟨0,Nat.zero_le _,rfl,Drawn0.refl _⟩
 case round=>
  obtain ⟨k,hk,rfl,⟨m1,rfl⟩⟩:=hrel
  by_cases hlt:k<l0.length
  ·have hok:fOk (rd l0 k)=true:=by
    have:=List.all_eq_true.1 H.out (l0[k]) (List.getElem_mem hlt)
    simpa [rd,hlt] using this
   have HOK:=Aside0.mk hok
   clear hok
   obtain ⟨ad,e,hx⟩:=Kd.at_int HR0.out (k:Int) (by omega) (by omega)
   cases e
   simp only [Int.toNat_natCast] at hx
   go_wp2_with (first | (go_at_call 65;refine (elementsOk1.yes _ _ HOK.out).mono ?_;rintro e w' ⟨rfl,⟨nd,rfl⟩⟩))
   go_roundw
   case rel=>exact ⟨k+1,by omega,by go_num,by repeat (first | exact Drawn0.refl _ | apply Drawn0.step)⟩
   case measure=>simp [intOf];omega
  ·go_wp2
   go_ret
   exact ⟨rfl,by repeat (first | exact Drawn0.refl _ | apply Drawn0.step)⟩
set_option maxRecDepth 100000 in
theorem all_rd (l:List Int) (h:∀ i,i<l.length→fOk (rd l i)=true):l.all fOk=true:=by
 rw [List.all_eq_true]
 intro x hx
 obtain ⟨i,hi,rfl⟩:=List.getElem_of_mem hx
 have:=h i hi
 simpa [rd,hi] using this
def SomeNat (w:World) (e:Ending) (w':World):Prop:=∃ j:Nat,e = .returned (.int .i64 j)∧Drawn0 w w'
set_option maxHeartbeats 1000000 in
set_option maxRecDepth 100000 in
theorem IndexFunc.bad (A0:Option Addr) (c0:Nat) (l0:List Int) (w:World) (hr0:Kd.C (Kd.int .i64) w A0 l0.length l0) (hm:l0.length≤9223372036854775807) (h:l0.all fOk=false) :
  Calls Tru.prog 84 #[.slice A0 l0.length c0,.func (.func 65) #[] #[]] w (SomeNat w):=by
 have HR0:=Aside0.mk hr0
 clear hr0
 have H:=Aside0.mk h
 clear h
 go_enter Tru.func84,Try.ntmps84
 go_wp2
 go_loopw [8] (fun i wr=>∃ k:Nat,k≤l0.length∧i = .int .i64 k∧Drawn0 w wr∧Aside0 (∀ i,i<k→fOk (rd l0 i)=true)) (fun i _=>l0.length - (intOf i).toNat)
 case atStart=>exact ⟨0,Nat.zero_le _,rfl,Drawn0.refl _,⟨by omega⟩⟩
 case round=>
  obtain ⟨k,hk,rfl,⟨m1,rfl⟩,hall⟩:=hrel
  by_cases hlt:k<l0.length
  ·obtain ⟨ad,e,hx⟩:=Kd.at_int HR0.out (k:Int) (by omega) (by omega)
   cases e
   simp only [Int.toNat_natCast] at hx
   cases hok:fOk (rd l0 k)
   ·have HOK:=Aside0.mk hok
    clear hok
    go_wp2_with (first | (go_at_call 65;refine (elementsOk1.no _ _ HOK.out).mono ?_;rintro e w' ⟨rfl,⟨nd,rfl⟩⟩))
    go_ret
    exact ⟨k,rfl,by repeat (first | exact Drawn0.refl _ | apply Drawn0.step)⟩
   ·have HOK:=Aside0.mk hok
    clear hok
    go_wp2_with (first | (go_at_call 65;refine (elementsOk1.yes _ _ HOK.out).mono ?_;rintro e w' ⟨rfl,⟨nd,rfl⟩⟩))
    go_roundw
    case rel=>exact ⟨k+1,by omega,by go_num,by repeat (first | exact Drawn0.refl _ | apply Drawn0.step),⟨fun i hi=>by
     rcases Nat.lt_or_ge i k with h1 | h1
     ·exact hall.out i h1
     ·obtain rfl:i=k:=by omega
      exact HOK.out⟩⟩
    case measure=>simp [intOf];omega
  ·exfalso
   have:=all_rd l0 (fun i hi=>hall.out i (by omega))
   rw [H.out] at this
   cases this
set_option maxRecDepth 100000 in
theorem ContainsFunc.ok (A0:Option Addr) (c0:Nat) (l0:List Int) (w:World) (hr0:Kd.C (Kd.int .i64) w A0 l0.length l0) (hm:l0.length≤9223372036854775807) (h:l0.all fOk=true) :
  Calls Tru.prog 64 #[.slice A0 l0.length c0,.func (.func 65) #[] #[]] w fun e w'=>e = .returned (.bool false)∧Drawn0 w w':=by
 have HR0:=Aside0.mk hr0
 clear hr0
 have H:=Aside0.mk h
 clear h
 go_enter Tru.func64,Try.ntmps64
 go_wp2_with (first | (go_at_call 84;refine (IndexFunc.ok A0 c0 l0 _ HR0.out hm H.out).mono ?_;rintro e w' ⟨rfl,⟨nd,rfl⟩⟩))
 go_ret
 exact ⟨rfl,by repeat (first | exact Drawn0.refl _ | apply Drawn0.step)⟩
set_option maxRecDepth 100000 in
theorem ContainsFunc.bad (A0:Option Addr) (c0:Nat) (l0:List Int) (w:World) (hr0:Kd.C (Kd.int .i64) w A0 l0.length l0) (hm:l0.length≤9223372036854775807) (h:l0.all fOk=false) :
  Calls Tru.prog 64 #[.slice A0 l0.length c0,.func (.func 65) #[] #[]] w fun e w'=>e = .returned (.bool true)∧Drawn0 w w':=by
 have HR0:=Aside0.mk hr0
 clear hr0
 have H:=Aside0.mk h
 clear h
 go_enter Tru.func64,Try.ntmps64
 go_wp2_with (first | (go_at_call 84;refine (IndexFunc.bad A0 c0 l0 _ HR0.out hm H.out).mono ?_;rintro e w' ⟨j,rfl,⟨nd,rfl⟩⟩))
 go_ret
 exact ⟨by simp,by repeat (first | exact Drawn0.refl _ | apply Drawn0.step)⟩
def impl_elementsOk.f (l0:List Int) (a1:Int):Option Bool:=some (decide ((l0.length:Int)≤a1) && l0.all fOk)
set_option maxHeartbeats 1000000 in
set_option maxRecDepth 100000 in
theorem impl_elementsOk.calls (A0:Option Addr) (c0:Nat) (l0:List Int) (a1:Int) (r:Bool) (w:World) (hr0:Kd.C (Kd.int .i64) w A0 l0.length l0) (hc0:l0.length≤c0) (h:impl_elementsOk.f l0 a1=some r) :
  Calls Tru.prog 36 #[.slice A0 l0.length c0,.int .i64 a1] w fun e w'=>e = .returned (.bool r)∧Drawn0 w w':=by
 obtain rfl:=Option.some.inj h
 clear h
 have hm:l0.length≤9223372036854775807:=hr0.2.1
 have HR0:=Aside0.mk hr0
 clear hr0
 by_cases c2:(l0.length:Int)≤a1
 ·have c2b0:decide ((l0.length:Int)≤a1)=true:=decide_eq_true c2
  cases hall:l0.all fOk
  ·have H:=Aside0.mk hall
   rw [c2b0]
   clear hall c2
   go_enter Tru.func36,Try.ntmps36
   go_wp2_with (first | (go_at_call 64;refine (ContainsFunc.bad A0 c0 l0 _ HR0.out hm H.out).mono ?_;rintro e w' ⟨rfl,⟨nd,rfl⟩⟩))
   go_ret
   exact ⟨by first | rfl | (simp;done) | (simp [*];done),by repeat (first | exact Drawn0.refl _ | apply Drawn0.step)⟩
  ·have H:=Aside0.mk hall
   rw [c2b0]
   clear hall c2
   go_enter Tru.func36,Try.ntmps36
   go_wp2_with (first | (go_at_call 64;refine (ContainsFunc.ok A0 c0 l0 _ HR0.out hm H.out).mono ?_;rintro e w' ⟨rfl,⟨nd,rfl⟩⟩))
   go_ret
   exact ⟨by first | rfl | (simp;done) | (simp [*];done),by repeat (first | exact Drawn0.refl _ | apply Drawn0.step)⟩
 ·have c2b0:decide ((l0.length:Int)≤a1)=false:=decide_eq_false c2
  rw [c2b0]
  clear c2
  go_enter Tru.func36,Try.ntmps36
  go_wp2
  go_ret
  exact ⟨by first | rfl | (simp;done) | (simp [*];done),by repeat (first | exact Drawn0.refl _ | apply Drawn0.step)⟩
def spec_ShareOk.l0:Nat→List Int→Int→Option (Bool)
 | 0,_,_=>none
 | k+1,x0,x3=>if x3<(x0.length:Int) then (if 0≤x3 then ((spec_FieldOk.f (rd x0 x3)).bind fun t162=>(if t162=true then (spec_ShareOk.l0 k x0 (wrap64 (x3+1))) else (some false))) else (none)) else (some (decide ((x0.length:Int)≤20)))
def spec_ShareOk.f (k:Nat) (l0:List Int):Option (Bool):=spec_ShareOk.l0 k l0 0
set_option maxHeartbeats 8000000 in
set_option maxRecDepth 100000 in
theorem spec_ShareOk.calls (k:Nat) (A0:Option Addr) (c0:Nat) (l0:List Int) (r:Bool) (w:World) (hr0:Kd.C (Kd.int .i64) w A0 l0.length l0) (hc0:l0.length≤c0) (h:spec_ShareOk.f k l0=some r) :
  Calls Tru.prog 39 #[.slice A0 l0.length c0] w fun e w'=>e = .returned (.bool r)∧Drawn0 w w':=by
 have HR0:=Aside0.mk hr0
 have HC0:=Aside0.mk hc0
 clear hr0 hc0
 have H:(spec_ShareOk.l0 k l0 0)=some r:=h
 clear h
 have H':=Aside0.mk H
 clear H
 go_enter Tru.func39,Try.ntmps39
 go_wp2
 go_loopg [3] k (fun kq v3 w'=>∃ (x3_1:Int),v3 = .int .i64 x3_1∧Aside0 (spec_ShareOk.l0 kq l0 x3_1=some r)∧Aside0 (kq≤k)∧Drawn0 w w')
 case atStart=>exact ⟨(0),(by first | rfl | (simp;done) | (simp [*];done)),H',⟨Nat.le_refl _⟩,by repeat (first | exact Drawn0.refl _ | apply Drawn0.step)⟩
 case round=>
  clear H'
  obtain ⟨x3_1,rfl,HA,HK1,⟨m1,rfl⟩⟩:=hrel
  cases gk with
  | zero=>exact absurd HA.out (by simp [spec_ShareOk.l0])
  | succ k1=>
   have H:=HA.out
   clear HA
   simp only [spec_ShareOk.l0] at H
   by_cases c2:x3_1<(l0.length:Int)
   ·rw [if_pos c2] at H
    have c2b0:decide (x3_1<(l0.length:Int))=true:=decide_eq_true c2
    clear c2
    by_cases c3:0≤x3_1
    ·rw [if_pos c3] at H
     have c3b0:decide (0≤x3_1)=true:=decide_eq_true c3
     clear c3
     replace H:=Option.bind_eq_some_iff.mp H
     obtain ⟨t162,A40,H⟩:=H
     replace H:(if t162=true then (spec_ShareOk.l0 k1 l0 (wrap64 (x3_1+1))) else (some false))=some r:=H
     have A4:=Aside0.mk A40
     clear A40
     by_cases c5:t162=true
     ·subst c5
      have H1:(spec_ShareOk.l0 k1 l0 (wrap64 (x3_1+1)))=some r:=by rw [if_pos rfl] at H;exact H
      clear H
      have H:=H1
      clear H1
      have H':=Aside0.mk H
      clear H
      have p161:0≤(x3_1:Int):=of_decide_eq_true (by first | (with_reducible assumption) | assumption)
      have q161:x3_1<(l0.length:Int):=of_decide_eq_true (by first | (with_reducible assumption) | assumption)
      obtain ⟨ad161,e161,hx161_0⟩:=Kd.at_int HR0.out x3_1 p161 q161
      cases e161
      replace p161:=eq_true p161
      replace q161:=eq_true q161
      go_wp2_with (first | ((with_reducible refine zah (f:=63) rfl ?_);refine goesL_ (some 14) rfl rfl Tru.func63 (by kernel_rfl) rfl #[.int .i64 (rd l0 x3_1)] rfl (by (try simp only [List.map_toArray,List.map_cons,List.map_nil]);first | done | rfl | (simp only [List.length_drop,List.length_take];rfl)) ?_;(with_reducible refine (spec_FieldOk.calls (rd l0 x3_1) true _ A4.out).mono ?_);rintro e w' ⟨rfl,⟨nd,rfl⟩⟩;refine ⟨_,rfl,?_⟩))
      go_roundg k1
      case measure=>have:=HK1.out;omega
      case rel=>exact ⟨(wrap64 (x3_1+1)),(by first | rfl | (simp;done) | (simp [*];done)),H',⟨by have:=HK1.out;omega⟩,by repeat (first | exact Drawn0.refl _ | apply Drawn0.step)⟩
     ·replace c5:=Bool.eq_false_iff.mpr c5
      subst c5
      have H1:(some false)=some r:=by rw [if_neg (show ¬ (false=true) by decide)] at H;exact H
      clear H
      have H:=H1
      clear H1
      obtain rfl:=Option.some.inj H
      have p161:0≤(x3_1:Int):=of_decide_eq_true (by first | (with_reducible assumption) | assumption)
      have q161:x3_1<(l0.length:Int):=of_decide_eq_true (by first | (with_reducible assumption) | assumption)
      obtain ⟨ad161,e161,hx161_0⟩:=Kd.at_int HR0.out x3_1 p161 q161
      cases e161
      replace p161:=eq_true p161
      replace q161:=eq_true q161
      go_wp2_with (first | ((with_reducible refine zah (f:=63) rfl ?_);refine goesL_ (some 14) rfl rfl Tru.func63 (by kernel_rfl) rfl #[.int .i64 (rd l0 x3_1)] rfl (by (try simp only [List.map_toArray,List.map_cons,List.map_nil]);first | done | rfl | (simp only [List.length_drop,List.length_take];rfl)) ?_;(with_reducible refine (spec_FieldOk.calls (rd l0 x3_1) false _ A4.out).mono ?_);rintro e w' ⟨rfl,⟨nd,rfl⟩⟩;refine ⟨_,rfl,?_⟩))
      go_ret
      exact ⟨by first | rfl | (simp;done) | (simp [*];done),by repeat (first | exact Drawn0.refl _ | apply Drawn0.step)⟩
    ·rw [if_neg c3] at H
     exact absurd H (by simp)
   ·rw [if_neg c2] at H
    have c2b0:decide (x3_1<(l0.length:Int))=false:=decide_eq_false c2
    clear c2
    obtain rfl:=Option.some.inj H
    go_wp2
    go_ret
    exact ⟨by first | rfl | (simp;done) | (simp [*];done),by repeat (first | exact Drawn0.refl _ | apply Drawn0.step)⟩
def spec_FieldSum.f (a0:Int) (a1:Int):Option (Int):=(spec_FieldOk.f a0).bind fun t163=>(if t163=true then ((spec_FieldOk.f a1).bind fun t164=>(if t164=true then (some (Int.tmod (wrap64 (a0+a1)) 31)) else (some 0))) else (some 0))
set_option maxHeartbeats 8000000 in
set_option maxRecDepth 100000 in
theorem spec_FieldSum.calls (a0:Int) (a1:Int) (r:Int) (w:World) (h:spec_FieldSum.f a0 a1=some r) :
  Calls Tru.prog 85 #[.int .i64 a0,.int .i64 a1] w fun e w'=>e = .returned (.int .i64 r)∧Drawn0 w w':=by
 have H:((spec_FieldOk.f a0).bind fun t163=>(if t163=true then ((spec_FieldOk.f a1).bind fun t164=>(if t164=true then (some (Int.tmod (wrap64 (a0+a1)) 31)) else (some 0))) else (some 0)))=some r:=h
 clear h
 replace H:=Option.bind_eq_some_iff.mp H
 obtain ⟨t163,A30,H⟩:=H
 replace H:(if t163=true then ((spec_FieldOk.f a1).bind fun t164=>(if t164=true then (some (Int.tmod (wrap64 (a0+a1)) 31)) else (some 0))) else (some 0))=some r:=H
 have A3:=Aside0.mk A30
 clear A30
 by_cases c4:t163=true
 ·subst c4
  have H1:((spec_FieldOk.f a1).bind fun t164=>(if t164=true then (some (Int.tmod (wrap64 (a0+a1)) 31)) else (some 0)))=some r:=by rw [if_pos rfl] at H;exact H
  clear H
  have H:=H1
  clear H1
  replace H:=Option.bind_eq_some_iff.mp H
  obtain ⟨t164,A50,H⟩:=H
  replace H:(if t164=true then (some (Int.tmod (wrap64 (a0+a1)) 31)) else (some 0))=some r:=H
  have A5:=Aside0.mk A50
  clear A50
  by_cases c6:t164=true
  ·subst c6
   have H1:(some (Int.tmod (wrap64 (a0+a1)) 31))=some r:=by rw [if_pos rfl] at H;exact H
   clear H
   have H:=H1
   clear H1
   obtain rfl:=Option.some.inj H
   go_enter Tru.func85,Try.ntmps85
   go_wp2_with (first | ((with_reducible refine zah (f:=63) rfl ?_);refine goesL_ (some 6) rfl rfl Tru.func63 (by kernel_rfl) rfl #[.int .i64 a0] rfl (by (try simp only [List.map_toArray,List.map_cons,List.map_nil]);first | done | rfl | (simp only [List.length_drop,List.length_take];rfl)) ?_;(with_reducible refine (spec_FieldOk.calls a0 true _ A3.out).mono ?_);rintro e w' ⟨rfl,⟨nd,rfl⟩⟩;refine ⟨_,rfl,?_⟩) | (go_at_call 63;(with_reducible refine (spec_FieldOk.calls a1 true _ A5.out).mono ?_);rintro e w' ⟨rfl,⟨nd,rfl⟩⟩))
   go_ret
   exact ⟨by first | rfl | (simp;done) | (simp [*];done),by repeat (first | exact Drawn0.refl _ | apply Drawn0.step)⟩
  ·replace c6:=Bool.eq_false_iff.mpr c6
   subst c6
   have H1:(some 0)=some r:=by rw [if_neg (show ¬ (false=true) by decide)] at H;exact H
   clear H
   have H:=H1
   clear H1
   obtain rfl:=Option.some.inj H
   go_enter Tru.func85,Try.ntmps85
   go_wp2_with (first | ((with_reducible refine zah (f:=63) rfl ?_);refine goesL_ (some 6) rfl rfl Tru.func63 (by kernel_rfl) rfl #[.int .i64 a0] rfl (by (try simp only [List.map_toArray,List.map_cons,List.map_nil]);first | done | rfl | (simp only [List.length_drop,List.length_take];rfl)) ?_;(with_reducible refine (spec_FieldOk.calls a0 true _ A3.out).mono ?_);rintro e w' ⟨rfl,⟨nd,rfl⟩⟩;refine ⟨_,rfl,?_⟩) | (go_at_call 63;(with_reducible refine (spec_FieldOk.calls a1 false _ A5.out).mono ?_);rintro e w' ⟨rfl,⟨nd,rfl⟩⟩))
   go_ret
   exact ⟨by first | rfl | (simp;done) | (simp [*];done),by repeat (first | exact Drawn0.refl _ | apply Drawn0.step)⟩
 ·replace c4:=Bool.eq_false_iff.mpr c4
  subst c4
  have H1:(some 0)=some r:=by rw [if_neg (show ¬ (false=true) by decide)] at H;exact H
  clear H
  have H:=H1
  clear H1
  obtain rfl:=Option.some.inj H
  go_enter Tru.func85,Try.ntmps85
  go_wp2_with (first | ((with_reducible refine zah (f:=63) rfl ?_);refine goesL_ (some 6) rfl rfl Tru.func63 (by kernel_rfl) rfl #[.int .i64 a0] rfl (by (try simp only [List.map_toArray,List.map_cons,List.map_nil]);first | done | rfl | (simp only [List.length_drop,List.length_take];rfl)) ?_;(with_reducible refine (spec_FieldOk.calls a0 false _ A3.out).mono ?_);rintro e w' ⟨rfl,⟨nd,rfl⟩⟩;refine ⟨_,rfl,?_⟩))
  go_ret
  exact ⟨by first | rfl | (simp;done) | (simp [*];done),by repeat (first | exact Drawn0.refl _ | apply Drawn0.step)⟩
end Go.Proofs.Ytjkikkgpenhbgaa.Ba
