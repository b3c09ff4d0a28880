import Derived.Test.YtjkikkgpenhbgaaRows
import Derived.Test.YtjkikkgpenhbgaaLHead
import Derived.Test.YtjkikkgpenhbgaaLBa25
import Derived.Test.YtjkikkgpenhbgaaLPureFnExactBatchTotal
import Derived.Test.YtjkikkgpenhbgaaLEB
import Derived.Test.YtjkikkgpenhbgaaLSG
import Derived.Conc.Holds
import Derived.WalkKit
import Derived.ProofKit
import Derived.OpenShut
import Derived.ShutString
import Derived.ChangeOld
import Derived.Below
import Derived.SizedLaws
import Derived.ChangeSlices
import Derived.Lib.SmallJoins
namespace Go.Proofs.Ytjkikkgpenhbgaa.fnExactBatchTotal
open Go.ChangeShapes Go.WideShapes Go.ChangeAt Go.RowKit
open Go.Joins Go.Deep
open Go.ChangeMaps (open_string shut_string)
open Go.Proofs.YtjkikkgpenhbgaaW.PrintWords Go.Proofs.YtjkikkgpenhbgaaW.PrintLast Go.Proofs.YtjkikkgpenhbgaaW.PrintMore
open Go.Conc
set_option linter.unusedVariables false
set_option linter.unusedSimpArgs false
theorem own:ownKnob Try.prog.godebug=none:=by kernel_rfl
theorem laidOut:laidOutB Try.prog=true:=by kernel_rfl
theorem cells48:Try.prog.cellsOf 48=9:=by kernel_rfl
theorem cells46:Try.prog.cellsOf 46=4:=by kernel_rfl
theorem cellsI:Try.prog.cellsOf 3=1:=by kernel_rfl
theorem cellsL:Try.prog.cellsOf 23=1:=by kernel_rfl
theorem array9 {α:Type} {cs:Array α} (h:cs.size=9):∃ c0 c1 c2 c3 c4 c5 c6 c7 c8,cs=#[c0,c1,c2,c3,c4,c5,c6,c7,c8]:=by
 obtain ⟨l⟩:=cs
 match l,h with
 | [c0,c1,c2,c3,c4,c5,c6,c7,c8],_=>exact ⟨c0,c1,c2,c3,c4,c5,c6,c7,c8,rfl⟩
def IsRow (k:IntKind) (w:World) (a:Option Addr) (len cap:Nat) (zs:List Int):Prop:=
 (a=none∧len=0∧cap=0∧zs=[])∨
 ∃ x,a=some x∧len≤cap∧cap≤maxLen∧zs.length=cap∧(∀ i,i<zs.length→w.cell? (x.add i)=some (.int k (zs.getD i 0)))∧∀ n ∈ zs,(Lit.int k n).wf=true
theorem cleanRow {T:Tables} {k:IntKind} {W:World} {a:Option Addr} {len cap:Nat} {zs:List Int} (τ:Tape) (d:Nat) (h:IsRow k W a len cap zs):IsRow k (Go.Proofs.Ytjkikkgpenhbgaa.Sim.tp (Go.Proofs.Ytjkikkgpenhbgaa.Sim.clean T W) τ d) a len cap zs:=
 h.imp id fun ⟨x,h1,h2,h3,h4,h5,h6⟩=>⟨x,h1,h2,h3,h4,fun i hi=>by rw [Go.Proofs.Ytjkikkgpenhbgaa.Sim.clean_cell];exact h5 i hi,h6⟩
set_option maxRecDepth 100000 in
theorem lifted (os:Os) (started:os.Started) (H:Type) (enc:TypeId×Value→H) :
  ReturnsInLeavingWide {} Try.checked os 7 .any (Rows.fnExactBatchTotalSpec.pre6 enc Try.prog Try.f7 Rows.fnExactBatchTotalRow.domain false) (Rows.fnExactBatchTotalSpec.post enc Try.prog Try.f7 false true false false):=by
 refine Go.Proofs.Ytjkikkgpenhbgaa.Sim.leaving_shaped (C:=Try.checked) own started Try.func7
  (ChangeSpec.witness6 (enc:=enc) (C:=Try.checked) false ⟨#[],#[.agg #[.int .i64 0,.int .i64 0,.slice none 0 0,.slice none 0 0,.int .i64 0,.int .i64 0,.slice none 0 0,.slice none 0 0,.int .i64 0]],[]⟩ 8 (by kernel_rfl) (by kernel_rfl) (by kernel_rfl) (by kernel_rfl)) ?_
 intro W base args ds gs before hsh hval0 hW _
 have hval:∀ (j:Nat) t v,Try.f7.params[j]? = some t→args[j]? = some v→Value.okWide Try.prog W .any base t v:=hval0
 have hW':=hW
 obtain ⟨p,q,hA0,hV,rfl,hfz,hnd⟩:=hW
 have hA:DataW.TrodAll enc Try.prog W 0 (fun _=>true) true Try.f7.params.toList args.toList ds p:=hA0
 rw [Try.params7] at hA hval
 obtain ⟨v0,vs0,d0,ds0,p0,q0,hargs,rfl,rfl,h0,r0⟩:=trodAll_cons hA
 obtain ⟨rfl,rfl,rfl⟩:=trodAll_nil r0
 obtain rfl:args=#[v0]:=by cases args;simp_all
 obtain ⟨rfl,rfl⟩:=trodVars_none hV
 have k0:=h0
 have lt0:∀ x ∈ p0,x.block<W.heap.size:=by obtain ⟨m,hm⟩:=k0;exact DataW.trod_lt m _ _ _ hm
 obtain ⟨cs0,rfl,hz0⟩:=okWide_struct Try.underlying48 (hval 0 48 v0 rfl rfl)
 obtain ⟨c0_0,c0_1,c0_2,c0_3,c0_4,c0_5,c0_6,c0_7,c0_8,rfl⟩:=array9 (hz0.trans cells48)
 obtain ⟨fu0,hf0⟩:=h0
 obtain ⟨yA,yB,yC,nn0,hx0,_,hA0,hB0,hC0⟩:=trod_struct3 Try.underlying48 hf0
 replace hA0:DataW.trod enc Try.prog W 0 (fun _=>true) true nn0 46 [c0_0,c0_1,c0_2,c0_3]=some yA:=by simpa [Value.cells,cells46] using hA0
 replace hB0:DataW.trod enc Try.prog W 0 (fun _=>true) true nn0 46 [c0_4,c0_5,c0_6,c0_7]=some yB:=by simpa [Value.cells,cells46] using hB0
 have hy0_8:DataW.trod enc Try.prog W 0 (fun _=>true) true nn0 3 [c0_8]=some yC:=by simpa [Value.cells,cellsI] using hC0
 obtain ⟨yA0,yA1,yA2,yA3,nA0,_,_,gA0,gA1,gA2,gA3⟩:=trod_struct4 Try.underlying46 hA0
 have hy0_0:DataW.trod enc Try.prog W 0 (fun _=>true) true nA0 3 [c0_0]=some yA0:=by simpa [cellsI] using gA0
 have hy0_1:DataW.trod enc Try.prog W 0 (fun _=>true) true nA0 3 [c0_1]=some yA1:=by simpa [cellsI] using gA1
 have hy0_2:DataW.trod enc Try.prog W 0 (fun _=>true) true nA0 23 [c0_2]=some yA2:=by simpa [cellsL] using gA2
 have hy0_3:DataW.trod enc Try.prog W 0 (fun _=>true) true nA0 23 [c0_3]=some yA3:=by simpa [cellsL] using gA3
 obtain ⟨yB0,yB1,yB2,yB3,nB0,_,_,gB0,gB1,gB2,gB3⟩:=trod_struct4 Try.underlying46 hB0
 have hy0_4:DataW.trod enc Try.prog W 0 (fun _=>true) true nB0 3 [c0_4]=some yB0:=by simpa [cellsI] using gB0
 have hy0_5:DataW.trod enc Try.prog W 0 (fun _=>true) true nB0 3 [c0_5]=some yB1:=by simpa [cellsI] using gB1
 have hy0_6:DataW.trod enc Try.prog W 0 (fun _=>true) true nB0 23 [c0_6]=some yB2:=by simpa [cellsL] using gB2
 have hy0_7:DataW.trod enc Try.prog W 0 (fun _=>true) true nB0 23 [c0_7]=some yB3:=by simpa [cellsL] using gB3
 obtain ⟨a0_0,e0_0,hd0_0,wf0_0⟩:=DataW.trod_int Try.underlying3 hy0_0
 obtain rfl:c0_0 = .int .i64 a0_0:=by simpa using e0_0
 obtain ⟨a0_1,e0_1,hd0_1,wf0_1⟩:=DataW.trod_int Try.underlying3 hy0_1
 obtain rfl:c0_1 = .int .i64 a0_1:=by simpa using e0_1
 obtain ⟨b0_2,len0_2,cap0_2,rfl,z0_2,w0_2⟩:∃ a l c,c0_2 = .slice a l c∧∃ zs,IsRow .i64 W a l c zs:=by
  rcases open_ints Try.underlying23 Try.underlying3 (by kernel_rfl) hy0_2 with ⟨hcs,_⟩ | ⟨x,l,c,zs,hcs,_,hl,hm,hz,_,hcell,hwz⟩
  ·exact ⟨none,0,0,by simpa using hcs,[],.inl ⟨rfl,rfl,rfl,rfl⟩⟩
  ·exact ⟨some x,l,c,by simpa using hcs,zs,.inr ⟨_,rfl,hl,hm,by simpa using hz,hcell,hwz⟩⟩
 obtain ⟨b0_3,len0_3,cap0_3,rfl,z0_3,w0_3⟩:∃ a l c,c0_3 = .slice a l c∧∃ zs,IsRow .i64 W a l c zs:=by
  rcases open_ints Try.underlying23 Try.underlying3 (by kernel_rfl) hy0_3 with ⟨hcs,_⟩ | ⟨x,l,c,zs,hcs,_,hl,hm,hz,_,hcell,hwz⟩
  ·exact ⟨none,0,0,by simpa using hcs,[],.inl ⟨rfl,rfl,rfl,rfl⟩⟩
  ·exact ⟨some x,l,c,by simpa using hcs,zs,.inr ⟨_,rfl,hl,hm,by simpa using hz,hcell,hwz⟩⟩
 obtain ⟨a0_4,e0_4,hd0_4,wf0_4⟩:=DataW.trod_int Try.underlying3 hy0_4
 obtain rfl:c0_4 = .int .i64 a0_4:=by simpa using e0_4
 obtain ⟨a0_5,e0_5,hd0_5,wf0_5⟩:=DataW.trod_int Try.underlying3 hy0_5
 obtain rfl:c0_5 = .int .i64 a0_5:=by simpa using e0_5
 obtain ⟨b0_6,len0_6,cap0_6,rfl,z0_6,w0_6⟩:∃ a l c,c0_6 = .slice a l c∧∃ zs,IsRow .i64 W a l c zs:=by
  rcases open_ints Try.underlying23 Try.underlying3 (by kernel_rfl) hy0_6 with ⟨hcs,_⟩ | ⟨x,l,c,zs,hcs,_,hl,hm,hz,_,hcell,hwz⟩
  ·exact ⟨none,0,0,by simpa using hcs,[],.inl ⟨rfl,rfl,rfl,rfl⟩⟩
  ·exact ⟨some x,l,c,by simpa using hcs,zs,.inr ⟨_,rfl,hl,hm,by simpa using hz,hcell,hwz⟩⟩
 obtain ⟨b0_7,len0_7,cap0_7,rfl,z0_7,w0_7⟩:∃ a l c,c0_7 = .slice a l c∧∃ zs,IsRow .i64 W a l c zs:=by
  rcases open_ints Try.underlying23 Try.underlying3 (by kernel_rfl) hy0_7 with ⟨hcs,_⟩ | ⟨x,l,c,zs,hcs,_,hl,hm,hz,_,hcell,hwz⟩
  ·exact ⟨none,0,0,by simpa using hcs,[],.inl ⟨rfl,rfl,rfl,rfl⟩⟩
  ·exact ⟨some x,l,c,by simpa using hcs,zs,.inr ⟨_,rfl,hl,hm,by simpa using hz,hcell,hwz⟩⟩
 obtain ⟨a0_8,e0_8,hd0_8,wf0_8⟩:=DataW.trod_int Try.underlying3 hy0_8
 obtain rfl:c0_8 = .int .i64 a0_8:=by simpa using e0_8
 clear hA0 hval0
 have hgl:Try.progTables.globals.size≤W.heap.size:=Go.Proofs.Ytjkikkgpenhbgaa.Sim.globals_le (P:=Try.prog) (of_decide_eq_true (by kernel_rfl)) hsh
 refine Go.Proofs.Ytjkikkgpenhbgaa.Sim.leave_post duoTT duoTru (n0:=142) (v0:=.bool true) nU hgl (by kernel_rfl) (by kernel_rfl) (@Ea.phases (Go.Proofs.Ytjkikkgpenhbgaa.Sim.selfStart W) OkU.okS OkV.okS _ _ _ hgl) (fun τ d=>by
  obtain ⟨l0_2,rfl,hr0_2,hm0_2,hw0_2,hc0_2⟩:=ReadsInt.ofRowC (cleanRow (T:=Try.progTables) τ d w0_2)
  obtain ⟨l0_3,rfl,hr0_3,hm0_3,hw0_3,hc0_3⟩:=ReadsInt.ofRowC (cleanRow (T:=Try.progTables) τ d w0_3)
  obtain ⟨l0_6,rfl,hr0_6,hm0_6,hw0_6,hc0_6⟩:=ReadsInt.ofRowC (cleanRow (T:=Try.progTables) τ d w0_6)
  obtain ⟨l0_7,rfl,hr0_7,hm0_7,hw0_7,hc0_7⟩:=ReadsInt.ofRowC (cleanRow (T:=Try.progTables) τ d w0_7)
  obtain ⟨k,h⟩:=Pure.FnExactBatchTotal a0_0 a0_1 l0_2 l0_3 a0_4 a0_5 l0_6 l0_7 a0_8 wf0_0 wf0_1 hm0_2 hw0_2 hm0_3 hw0_3 wf0_4 wf0_5 hm0_6 hw0_6 hm0_7 hw0_7 wf0_8
  exact (Ba.laws_FnExactBatchTotal.calls k a0_0 a0_1 _ _ l0_2 _ _ l0_3 a0_4 a0_5 _ _ l0_6 _ _ l0_7 a0_8 true (Go.Proofs.Ytjkikkgpenhbgaa.Sim.tp (Go.Proofs.Ytjkikkgpenhbgaa.Sim.clean Try.progTables W) τ d) (Kd.C_of_reads (d:=(0:Int)) (h1:=fun _=>rfl) hr0_2) hc0_2 (Kd.C_of_reads (d:=(0:Int)) (h1:=fun _=>rfl) hr0_3) hc0_3 (Kd.C_of_reads (d:=(0:Int)) (h1:=fun _=>rfl) hr0_6) hc0_6 (Kd.C_of_reads (d:=(0:Int)) (h1:=fun _=>rfl) hr0_7) hc0_7 h rfl).mono fun e W' ⟨he,bel⟩=>⟨he,by rwa [Go.Proofs.Ytjkikkgpenhbgaa.Sim.clean_size] at bel⟩) fun v W' hv=>?_
 obtain ⟨rfl,hkeep⟩:=hv
 exact ⟨_,_,_,[],_,[],hW',trodAll_mk1 (shut_bool Try.underlying4 _),(trodAll_cons_mk (Go.Proofs.Ytjkikkgpenhbgaa.Sim.Keeps.trod laidOut (by kernel_rfl) (of_decide_eq_true (by kernel_rfl)) k0 hkeep lt0) trodAll_mk0),rfl,hkeep.frame _,fun h=>by cases h⟩
set_option maxRecDepth 100000 in
theorem closed:joinedFacts Try.prog 7 Try.f7 Rows.fnExactBatchTotalSpec Rows.fnExactBatchTotalRow=true:=by
 unfold joinedFacts
 rw [Head.head_make,Head.head_enter,Head.head_lifts]
 kernel_rfl
theorem over:Rows.fnExactBatchTotalRow.holds Try.pinned (OpenSpec.ofChange Rows.fnExactBatchTotalSpec):=
 OpenClaim.holds_of_wide_leaving 7 Try.f7 rfl rfl rfl rfl rfl rfl rfl ⟨rfl,rfl,rfl,rfl,rfl⟩ rfl rfl rfl rfl rfl (by kernel_rfl) Try.func7 closed
  (of_decide_eq_true (by kernel_rfl)) (by unfold Func.isWrapper;first | (rw [if_pos (by decide +kernel)];kernel_rfl) | (rw [if_neg (by decide +kernel)];exact ⟨rfl,rfl⟩))
  (fun os started H enc _=>lifted os started H enc)
theorem proved:Rows.FnExactBatchTotalSaid:=over
end Go.Proofs.Ytjkikkgpenhbgaa.fnExactBatchTotal
namespace Go.Proofs.Ytjkikkgpenhbgaa
theorem fnExactBatchTotal_holds:Rows.FnExactBatchTotalSaid:=fnExactBatchTotal.proved
end Go.Proofs.Ytjkikkgpenhbgaa
