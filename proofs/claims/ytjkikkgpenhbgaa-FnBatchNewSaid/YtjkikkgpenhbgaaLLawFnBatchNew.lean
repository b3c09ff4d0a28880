import Derived.Test.YtjkikkgpenhbgaaRows
import Derived.Test.YtjkikkgpenhbgaaLHead
import Derived.Test.YtjkikkgpenhbgaaLBa19
import Derived.Test.YtjkikkgpenhbgaaLPureFnBatchNew
import Derived.Test.YtjkikkgpenhbgaaLEB
import Derived.Test.YtjkikkgpenhbgaaLSG
import Derived.Conc.Holds
import Derived.WalkKit
import Derived.ProofKit
import Derived.OpenShut
import Derived.ShutString
import Derived.ChangeOld
import Derived.Below
import Derived.SizedLaws
import Derived.Test.YtjkikkgpenhbgaaLWSized
namespace Go.Proofs.Ytjkikkgpenhbgaa.fnBatchNew
open Go.ChangeShapes Go.WideShapes Go.ChangeAt Go.RowKit
open Go.ChangeMaps (open_string shut_string)
open Go.Conc
set_option linter.unusedVariables false
theorem own : ownKnob Try.prog.godebug = none := by kernel_rfl
theorem laidOut : laidOutB Try.prog = true := by kernel_rfl
def IsRow (k : IntKind) (w : World) (a : Option Addr) (len cap : Nat) (zs : List Int) : Prop :=
 (a = none ∧ len = 0 ∧ cap = 0 ∧ zs = []) ∨
 ∃ x, a = some x ∧ len ≤ cap ∧ cap ≤ maxLen ∧ zs.length = cap ∧ (∀ i, i < zs.length → w.cell? (x.add i) = some (.int k (zs.getD i 0))) ∧ ∀ n ∈ zs, (Lit.int k n).wf = true
theorem cleanRow {T : Tables} {k : IntKind} {W : World} {a : Option Addr} {len cap : Nat} {zs : List Int} (τ : Tape) (d : Nat) (h : IsRow k W a len cap zs) : IsRow k (Go.Proofs.Ytjkikkgpenhbgaa.Sim.tp (Go.Proofs.Ytjkikkgpenhbgaa.Sim.clean T W) τ d) a len cap zs :=
 h.imp id fun ⟨x, h1, h2, h3, h4, h5, h6⟩ => ⟨x, h1, h2, h3, h4, fun i hi => by rw [Go.Proofs.Ytjkikkgpenhbgaa.Sim.clean_cell]; exact h5 i hi, h6⟩
set_option maxRecDepth 100000 in
theorem lifted (os : Os) (started : os.Started) (H : Type) (enc : TypeId × Value → H) :
  ReturnsInLeavingWide {} Try.checked os 5 .any (Rows.fnBatchNewSpec.pre6 enc Try.prog Try.f5 Rows.fnBatchNewRow.domain false) (Rows.fnBatchNewSpec.post enc Try.prog Try.f5 false true false false) := by
 refine Go.Proofs.Ytjkikkgpenhbgaa.Sim.leaving_shaped (C := Try.checked) own started Try.func5
  (ChangeSpec.witness6 (enc := enc) (C := Try.checked) false ⟨#[], #[.slice none 0 0], []⟩ 8 (by kernel_rfl) (by kernel_rfl) (by kernel_rfl) (by kernel_rfl)) ?_
 intro W base args ds gs before hsh hval0 hW hsz0
 have hsz : (DataW.weightsEach Try.prog (Try.f5.params.toList ++ Rows.fnBatchNewSpec.plain.varTypes Try.prog) (ds ++ gs)).all (· ≤ reachBytes) = true := hsz0
 have hval : ∀ (j : Nat) t v, Try.f5.params[j]? = some t → args[j]? = some v → Value.okWide Try.prog W .any base t v := hval0
 have hW' := hW
 obtain ⟨p, q, hA0, hV, rfl, hfz, hnd⟩ := hW
 have hA : DataW.TrodAll enc Try.prog W 0 (fun _ => true) true Try.f5.params.toList args.toList ds p := hA0
 rw [Try.params5] at hA hval hsz
 obtain ⟨v0, vs0, d0, ds0, p0, q0, hargs, rfl, rfl, h0, r0⟩ := trodAll_cons hA
 obtain ⟨rfl, rfl, rfl⟩ := trodAll_nil r0
 obtain rfl : args = #[v0] := by cases args; simp_all
 obtain ⟨rfl, rfl⟩ := trodVars_none hV
 obtain ⟨a0, len0, cap0, rfl⟩ := okWide_slice Try.underlying22 (hval 0 22 v0 rfl rfl)
 have k0 := h0
 have lt0 : ∀ x ∈ p0, x.block < W.heap.size := by obtain ⟨m, hm⟩ := k0; exact DataW.trod_lt m _ _ _ hm
 obtain ⟨z0, w0⟩ : ∃ zs, IsRow .u8 W a0 len0 cap0 zs := by
  obtain ⟨fuel, hf⟩ := h0
  rcases open_ints Try.underlying22 Try.underlying5 (by kernel_rfl) hf with ⟨hcs, _⟩ | ⟨x, l, c, zs, hcs, _, hl, hm, hz, _, hcell, hwz⟩
  ·simp [Value.cells] at hcs
   obtain ⟨rfl, rfl, rfl⟩ := hcs
   exact ⟨[], .inl ⟨rfl, rfl, rfl, rfl⟩⟩
  ·simp [Value.cells] at hcs
   obtain ⟨rfl, rfl, rfl⟩ := hcs
   exact ⟨zs, .inr ⟨_, rfl, hl, hm, by simpa using hz, hcell, hwz⟩⟩
 have y0 : len0 * 1 ≤ 140737488351232 := Go.Proofs.YtjkikkgpenhbgaaW.PrintWords.sized_ints hsz (j := 0) (t := 22) rfl rfl Try.underlying22 Try.underlying5 (by kernel_rfl) (by kernel_rfl) h0
 clear hA0 hval0 hsz0 hsz
 have hgl : Try.progTables.globals.size ≤ W.heap.size := Go.Proofs.Ytjkikkgpenhbgaa.Sim.globals_le (P := Try.prog) (of_decide_eq_true (by kernel_rfl)) hsh
 refine Go.Proofs.Ytjkikkgpenhbgaa.Sim.leave_post duoTT duoTru (n0 := 142) (v0 := .bool true) nU hgl (by kernel_rfl) (by kernel_rfl) (@Ea.phases (Go.Proofs.Ytjkikkgpenhbgaa.Sim.selfStart W) OkU.okS OkV.okS _ _ _ hgl) (fun τ d => (Ba.laws_FnBatchNew.walk Pure.FnBatchNew a0 len0 cap0 z0 (Go.Proofs.Ytjkikkgpenhbgaa.Sim.tp (Go.Proofs.Ytjkikkgpenhbgaa.Sim.clean Try.progTables W) τ d) (cleanRow τ d w0) y0).mono fun e W' ⟨he, bel⟩ => ⟨he, by rwa [Go.Proofs.Ytjkikkgpenhbgaa.Sim.clean_size] at bel⟩) fun v W' hv => ?_
 obtain ⟨rfl, hkeep⟩ := hv
 exact ⟨_, _, _, [], _, [], hW', trodAll_mk1 (shut_bool Try.underlying4 _), (trodAll_cons_mk (Go.Proofs.Ytjkikkgpenhbgaa.Sim.Keeps.trod laidOut (by kernel_rfl) (of_decide_eq_true (by kernel_rfl)) k0 hkeep lt0) trodAll_mk0), rfl, hkeep.frame _, fun h => by cases h⟩
set_option maxRecDepth 100000 in
theorem closed : joinedFacts Try.prog 5 Try.f5 Rows.fnBatchNewSpec Rows.fnBatchNewRow = true := by
 unfold joinedFacts
 rw [Head.head_make, Head.head_enter, Head.head_lifts]
 kernel_rfl
theorem over : Rows.fnBatchNewRow.holds Try.pinned (OpenSpec.ofChange Rows.fnBatchNewSpec) :=
 OpenClaim.holds_of_wide_leaving 5 Try.f5 rfl rfl rfl rfl rfl rfl rfl ⟨rfl, rfl, rfl, rfl, rfl⟩ rfl rfl rfl rfl rfl (by kernel_rfl) Try.func5 closed
  (of_decide_eq_true (by kernel_rfl)) (by unfold Func.isWrapper; first | (rw [if_pos (by decide +kernel)]; kernel_rfl) | (rw [if_neg (by decide +kernel)]; exact ⟨rfl, rfl⟩))
  (fun os started H enc _ => lifted os started H enc)
theorem proved : Rows.FnBatchNewSaid := over
end Go.Proofs.Ytjkikkgpenhbgaa.fnBatchNew
namespace Go.Proofs.Ytjkikkgpenhbgaa
theorem fnBatchNew_holds : Rows.FnBatchNewSaid := fnBatchNew.proved
end Go.Proofs.Ytjkikkgpenhbgaa
