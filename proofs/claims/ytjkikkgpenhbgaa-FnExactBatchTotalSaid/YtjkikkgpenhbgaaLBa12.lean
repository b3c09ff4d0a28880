import Derived.Test.YtjkikkgpenhbgaaLZ
import Derived.Test.YtjkikkgpenhbgaaLBa0
import Derived.Test.YtjkikkgpenhbgaaLBa1
import Derived.Test.YtjkikkgpenhbgaaLBa3
namespace Go.Proofs.Ytjkikkgpenhbgaa.Ba
open Go.RowKit Go.Proofs.YtjkikkgpenhbgaaW.PrintWords Go.Proofs.YtjkikkgpenhbgaaW.PrintLast Go.Proofs.YtjkikkgpenhbgaaW.PrintMore Go.Proofs.Ytjkikkgpenhbgaa.Z
attribute [local go_sem] max2_int min2_int max_two min_two max_three min_three max_four min_four
set_option linter.unusedVariables false
set_option linter.unusedSimpArgs false
theorem c47x12:Ent Tru.prog 47:=ent Tru.func47 (by kernel_rfl) rfl
theorem c73x12:Ent Tru.prog 73:=ent Tru.func73 (by kernel_rfl) rfl
def spec_l11Kind.f (a0:Int):Option (Bool):=(spec_l6In.f a0 1 3).bind fun t254=>(some t254)
set_option maxHeartbeats 8000000 in
set_option maxRecDepth 100000 in
theorem spec_l11Kind.calls (a0:Int) (r:Bool) (w:World) (h:spec_l11Kind.f a0=some r) :
  Calls Tru.prog 74 #[.int .i64 a0] w fun e w'=>e = .returned (.bool r)∧Drawn0 w w':=by
 have H:((spec_l6In.f a0 1 3).bind fun t254=>(some t254))=some r:=h
 clear h
 replace H:=bnd H
 obtain ⟨t254,A2,H⟩:=H
 obtain rfl:=Option.some.inj H
 go_enter Tru.func74,Try.ntmps74
 go_wp2_with (first | (refine gsD c47x12 (spec_l6In.calls a0 1 3 t254 _ A2.out) ?_;intro nd))
 go_ret
 exact ⟨rfl,⟨_,rfl⟩⟩
def spec_TypeLen.f (a0:Int):Option (Int):=if a0=1 then (some 1) else (if a0=2 then (some 4) else (if a0=3 then (some 3) else (some 0)))
set_option maxHeartbeats 8000000 in
set_option maxRecDepth 100000 in
theorem spec_TypeLen.calls (a0:Int) (r:Int) (w:World) (h:spec_TypeLen.f a0=some r) :
  Calls Tru.prog 75 #[.int .i64 a0] w fun e w'=>e = .returned (.int .i64 r)∧Drawn0 w w':=by
 have H:=h
 unfold spec_TypeLen.f at H
 clear h
 by_cases c2:a0=1
 ·rw [if_pos c2] at H
  have c2b0:(a0 == 1)=true:=beq_iff_eq.mpr c2
  have c2b1:(a0 != 1)=false:=bne_eq_false_iff_eq.mpr c2
  clear c2
  obtain rfl:=Option.some.inj H
  go_enter Tru.func75,Try.ntmps75
  go_wp2
  go_ret
  exact ⟨rfl,by repeat (first | exact Drawn0.refl _ | apply Drawn0.step)⟩
 ·rw [if_neg c2] at H
  have c2b0:(a0 == 1)=false:=beq_eq_false_iff_ne.mpr c2
  have c2b1:(a0 != 1)=true:=bne_iff_ne.mpr c2
  by_cases c3:a0=2
  ·rw [if_pos c3] at H
   have c3b0:(a0 == 2)=true:=beq_iff_eq.mpr c3
   have c3b1:(a0 != 2)=false:=bne_eq_false_iff_eq.mpr c3
   clear c3
   obtain rfl:=Option.some.inj H
   go_enter Tru.func75,Try.ntmps75
   go_wp2
   go_ret
   exact ⟨rfl,by repeat (first | exact Drawn0.refl _ | apply Drawn0.step)⟩
  ·rw [if_neg c3] at H
   have c3b0:(a0 == 2)=false:=beq_eq_false_iff_ne.mpr c3
   have c3b1:(a0 != 2)=true:=bne_iff_ne.mpr c3
   by_cases c4:a0=3
   ·rw [if_pos c4] at H
    have c4b0:(a0 == 3)=true:=beq_iff_eq.mpr c4
    have c4b1:(a0 != 3)=false:=bne_eq_false_iff_eq.mpr c4
    clear c4
    obtain rfl:=Option.some.inj H
    go_enter Tru.func75,Try.ntmps75
    go_wp2
    go_ret
    exact ⟨rfl,by repeat (first | exact Drawn0.refl _ | apply Drawn0.step)⟩
   ·rw [if_neg c4] at H
    have c4b0:(a0 == 3)=false:=beq_eq_false_iff_ne.mpr c4
    have c4b1:(a0 != 3)=true:=bne_iff_ne.mpr c4
    obtain rfl:=Option.some.inj H
    go_enter Tru.func75,Try.ntmps75
    go_wp2
    go_ret
    exact ⟨rfl,by repeat (first | exact Drawn0.refl _ | apply Drawn0.step)⟩
set_option maxRecDepth 100000 in
theorem measureOf.c1 (w:World):Calls Tru.prog 51 #[.int .i64 1] w fun e w'=>e = .returned (.iface 97 (.agg #[]))∧w=w':=by
 go_enter Tru.func51,Try.ntmps51
 go_wp2
 go_ret
 exact ⟨rfl,rfl⟩
set_option maxRecDepth 100000 in
theorem measureOf.c2 (w:World):Calls Tru.prog 51 #[.int .i64 2] w fun e w'=>e = .returned (.iface 98 (.agg #[]))∧w=w':=by
 go_enter Tru.func51,Try.ntmps51
 go_wp2
 go_ret
 exact ⟨rfl,rfl⟩
set_option maxRecDepth 100000 in
theorem measureOf.c3 (w:World):Calls Tru.prog 51 #[.int .i64 3] w fun e w'=>e = .returned (.iface 99 (.agg #[]))∧w=w':=by
 go_enter Tru.func51,Try.ntmps51
 go_wp2
 go_ret
 exact ⟨rfl,rfl⟩
set_option maxRecDepth 100000 in
theorem measureOf.c0 (n:Int) (w:World) (h1:n≠1) (h2:n≠2) (h3:n≠3):Calls Tru.prog 51 #[.int .i64 n] w fun e w'=>e = .returned .nilIface∧w=w':=by
 have e1:(n == 1)=false:=beq_eq_false_iff_ne.2 h1
 have e2:(n == 2)=false:=beq_eq_false_iff_ne.2 h2
 have e3:(n == 3)=false:=beq_eq_false_iff_ne.2 h3
 go_enter Tru.func51,Try.ntmps51
 go_wp2
 go_ret
 exact ⟨rfl,rfl⟩
set_option maxRecDepth 100000 in
theorem bitMeasure_size.calls (w:World):Calls Tru.prog 133 #[.agg #[]] w fun e w'=>e = .returned (.int .i64 1)∧w.alloc (.cells #[] 97)=w':=by
 go_enter Tru.func133,Try.ntmps133
 go_wp2
 go_ret
 exact ⟨rfl,rfl⟩
set_option maxRecDepth 100000 in
theorem bitMeasure_size.meth (w:World):(method 249 97 (.agg #[]) "loop.example/scrutineer/impl.size").run Tru.prog w = .ok (133,.agg #[]) w:=by kernel_rfl
set_option maxRecDepth 100000 in
theorem pickMeasure_size.calls (w:World):Calls Tru.prog 136 #[.agg #[]] w fun e w'=>e = .returned (.int .i64 4)∧w.alloc (.cells #[] 98)=w':=by
 go_enter Tru.func136,Try.ntmps136
 go_wp2
 go_ret
 exact ⟨rfl,rfl⟩
set_option maxRecDepth 100000 in
theorem pickMeasure_size.meth (w:World):(method 249 98 (.agg #[]) "loop.example/scrutineer/impl.size").run Tru.prog w = .ok (136,.agg #[]) w:=by kernel_rfl
set_option maxRecDepth 100000 in
theorem numMeasure_size.calls (w:World):Calls Tru.prog 139 #[.agg #[]] w fun e w'=>e = .returned (.int .i64 3)∧w.alloc (.cells #[] 99)=w':=by
 go_enter Tru.func139,Try.ntmps139
 go_wp2
 go_ret
 exact ⟨rfl,rfl⟩
set_option maxRecDepth 100000 in
theorem numMeasure_size.meth (w:World):(method 249 99 (.agg #[]) "loop.example/scrutineer/impl.size").run Tru.prog w = .ok (139,.agg #[]) w:=by kernel_rfl
def tLen (n:Int):Int:=if n=1 then 1 else if n=2 then 4 else if n=3 then 3 else 0
def impl_TypeLen.f (a0:Int):Option Int:=some (tLen a0)
set_option maxRecDepth 100000 in
theorem impl_TypeLen.calls (a0:Int) (r:Int) (w:World) (h:impl_TypeLen.f a0=some r) :
  Calls Tru.prog 19 #[.int .i64 a0] w fun e w'=>e = .returned (.int .i64 r)∧Below w.heap.size w w':=by
 obtain rfl:=Option.some.inj h
 clear h
 by_cases h1:a0=1
 ·subst h1
  rw [show tLen 1=1 from rfl]
  have hm:=bitMeasure_size.meth
  go_enter Tru.func19,Try.ntmps19
  go_wp2_with (first | (go_at_call 51;refine (measureOf.c1 _).mono ?_;rintro e w' ⟨rfl,rfl⟩) | (go_at_call 133;refine (bitMeasure_size.calls _).mono ?_;rintro e w' ⟨rfl,rfl⟩))
  go_ret
  exact ⟨rfl,zae (Below.refl _ _) _⟩
 by_cases h2:a0=2
 ·subst h2
  rw [show tLen 2=4 from rfl]
  have hm:=pickMeasure_size.meth
  go_enter Tru.func19,Try.ntmps19
  go_wp2_with (first | (go_at_call 51;refine (measureOf.c2 _).mono ?_;rintro e w' ⟨rfl,rfl⟩) | (go_at_call 136;refine (pickMeasure_size.calls _).mono ?_;rintro e w' ⟨rfl,rfl⟩))
  go_ret
  exact ⟨rfl,zae (Below.refl _ _) _⟩
 by_cases h3:a0=3
 ·subst h3
  rw [show tLen 3=3 from rfl]
  have hm:=numMeasure_size.meth
  go_enter Tru.func19,Try.ntmps19
  go_wp2_with (first | (go_at_call 51;refine (measureOf.c3 _).mono ?_;rintro e w' ⟨rfl,rfl⟩) | (go_at_call 139;refine (numMeasure_size.calls _).mono ?_;rintro e w' ⟨rfl,rfl⟩))
  go_ret
  exact ⟨rfl,zae (Below.refl _ _) _⟩
 ·rw [show tLen a0=0 by simp [tLen,h1,h2,h3]]
  go_enter Tru.func19,Try.ntmps19
  go_wp2_with (first | (go_at_call 51;refine (measureOf.c0 a0 _ h1 h2 h3).mono ?_;rintro e w' ⟨rfl,rfl⟩))
  go_ret
  exact ⟨rfl,Below.refl _ _⟩
def kOk (n:Int):Bool:=decide (n=1∨n=2∨n=3)
def impl_kindOk.f (a0:Int):Option Bool:=some (kOk a0)
set_option maxRecDepth 100000 in
theorem impl_kindOk.calls (a0:Int) (r:Bool) (w:World) (h:impl_kindOk.f a0=some r) :
  Calls Tru.prog 76 #[.int .i64 a0] w fun e w'=>e = .returned (.bool r)∧Drawn0 w w':=by
 obtain rfl:=Option.some.inj h
 clear h
 by_cases h1:a0=1
 ·subst h1
  rw [show kOk 1=true from rfl]
  go_enter Tru.func76,Try.ntmps76
  go_wp2_with (first | (go_at_call 51;refine (measureOf.c1 _).mono ?_;rintro e w' ⟨rfl,rfl⟩))
  go_ret
  exact ⟨rfl,Drawn0.refl _⟩
 by_cases h2:a0=2
 ·subst h2
  rw [show kOk 2=true from rfl]
  go_enter Tru.func76,Try.ntmps76
  go_wp2_with (first | (go_at_call 51;refine (measureOf.c2 _).mono ?_;rintro e w' ⟨rfl,rfl⟩))
  go_ret
  exact ⟨rfl,Drawn0.refl _⟩
 by_cases h3:a0=3
 ·subst h3
  rw [show kOk 3=true from rfl]
  go_enter Tru.func76,Try.ntmps76
  go_wp2_with (first | (go_at_call 51;refine (measureOf.c3 _).mono ?_;rintro e w' ⟨rfl,rfl⟩))
  go_ret
  exact ⟨rfl,Drawn0.refl _⟩
 ·rw [show kOk a0=false by simp [kOk,h1,h2,h3]]
  go_enter Tru.func76,Try.ntmps76
  go_wp2_with (first | (go_at_call 51;refine (measureOf.c0 a0 _ h1 h2 h3).mono ?_;rintro e w' ⟨rfl,rfl⟩))
  go_ret
  exact ⟨rfl,Drawn0.refl _⟩
def impl_needOk.f (a0:Int):Option (Bool):=(impl_within.f a0 1 9).bind fun t294=>(some t294)
set_option maxHeartbeats 8000000 in
set_option maxRecDepth 100000 in
theorem impl_needOk.calls (a0:Int) (r:Bool) (w:World) (h:impl_needOk.f a0=some r) :
  Calls Tru.prog 49 #[.int .i64 a0] w fun e w'=>e = .returned (.bool r)∧Drawn0 w w':=by
 have H:((impl_within.f a0 1 9).bind fun t294=>(some t294))=some r:=h
 clear h
 replace H:=bnd H
 obtain ⟨t294,A2,H⟩:=H
 obtain rfl:=Option.some.inj H
 go_enter Tru.func49,Try.ntmps49
 go_wp2_with (first | (refine gsD c73x12 (impl_within.calls a0 1 9 t294 _ A2.out) ?_;intro nd))
 go_ret
 exact ⟨rfl,⟨_,rfl⟩⟩
end Go.Proofs.Ytjkikkgpenhbgaa.Ba
