/-
  DERIVED. GIVEN WITH THE SEED: THE CARDS: each row of YtahbooeioigbgaaDoorRows.lean that lists a variable, with what it lists TIED to the program's text (the seventh form; the later family's looks); each row that meets fmt, with fmt's text TOLD by the authors' own Lean function (tested against real Go, not proved from fmt's source: count such statements apart). THE CARD IS WHAT COUNTS. Prove the row's statement (the work); the ties are given (YtahbooeioigbgaaDoorTie.lean); close each card by the builder's one call (the guide's Derived/Test/ToyasCard.lean, 'card_holds'). Laid BY PROGRAM, IN A SANDBOX (cutbox-door.mjs). By AI agents, Wed Nov 11 2026. No macro, syntax, notation, axiom, sorry.
-/
import Derived.Test.YtahbooeioigbgaaDoorRows
import GoSem.ClaimSeven
namespace Go.Proofs.YtahbooeioigbgaaDoor
namespace Rows

/-- THE TIED CARD OF 'laws.FnExactProofAll'. -/
def fnExactProofAllCard : Claim7 := { stood := { row := fnExactProofAllRow, standIns := [], harness := (true, "591b5b015aea111b96a5a8ee35a485432e9de4f85b39b2c8a94cc6e47e09bd06"), looks := true }, kinds := [], alts := [], laidByText := true, laidKinds := [.sentinel], laidTests := true, laidLooks := .later }
def FnExactProofAllCardSaid : Prop := Claim7.holds Tryd.pinned (.plain (OpenSpec.ofChange fnExactProofAllSpec)) fnExactProofAllCard

/-- THE TIED CARD OF 'laws.FnExactPartOk'. -/
def fnExactPartOkCard : Claim7 := { stood := { row := fnExactPartOkRow, standIns := [], harness := (true, "591b5b015aea111b96a5a8ee35a485432e9de4f85b39b2c8a94cc6e47e09bd06"), looks := true }, kinds := [], alts := [], laidByText := true, laidKinds := [.handle], laidTests := true, laidLooks := .later }
def FnExactPartOkCardSaid : Prop := Claim7.holds Tryd.pinned (.plain (OpenSpec.ofChange fnExactPartOkSpec)) fnExactPartOkCard

/-- THE TIED CARD OF 'laws.FnExactPartsFit'. -/
def fnExactPartsFitCard : Claim7 := { stood := { row := fnExactPartsFitRow, standIns := [], harness := (true, "591b5b015aea111b96a5a8ee35a485432e9de4f85b39b2c8a94cc6e47e09bd06"), looks := true }, kinds := [], alts := [], laidByText := true, laidKinds := [.handle], laidTests := true, laidLooks := .later }
def FnExactPartsFitCardSaid : Prop := Claim7.holds Tryd.pinned (.plain (OpenSpec.ofChange fnExactPartsFitSpec)) fnExactPartsFitCard

/-- THE TIED CARD OF 'laws.FnProofAll'. -/
def fnProofAllCard : Claim7 := { stood := { row := fnProofAllRow, standIns := [], harness := (true, "591b5b015aea111b96a5a8ee35a485432e9de4f85b39b2c8a94cc6e47e09bd06"), looks := true }, kinds := [], alts := [], laidByText := true, laidKinds := [.sentinel], laidTests := true, laidLooks := .later }
def FnProofAllCardSaid : Prop := Claim7.holds Tryd.pinned (.plain (OpenSpec.ofChange fnProofAllSpec)) fnProofAllCard

/-- THE TIED CARD OF 'laws.FnExactProofOk'. -/
def fnExactProofOkCard : Claim7 := { stood := { row := fnExactProofOkRow, standIns := [], harness := (true, "591b5b015aea111b96a5a8ee35a485432e9de4f85b39b2c8a94cc6e47e09bd06"), looks := true }, kinds := [], alts := [], laidByText := true, laidKinds := [.sentinel], laidTests := true, laidLooks := .later }
def FnExactProofOkCardSaid : Prop := Claim7.holds Tryd.pinned (.plain (OpenSpec.ofChange fnExactProofOkSpec)) fnExactProofOkCard

/-- THE TIED CARD OF 'laws.FnProofCut'. -/
def fnProofCutCard : Claim7 := { stood := { row := fnProofCutRow, standIns := [], harness := (true, "591b5b015aea111b96a5a8ee35a485432e9de4f85b39b2c8a94cc6e47e09bd06"), looks := true }, kinds := [], alts := [], laidByText := true, laidKinds := [.sentinel], laidTests := true, laidLooks := .later }
def FnProofCutCardSaid : Prop := Claim7.holds Tryd.pinned (.plain (OpenSpec.ofChange fnProofCutSpec)) fnProofCutCard

/-- THE TIED CARD OF 'laws.FnPartForm'. -/
def fnPartFormCard : Claim7 := { stood := { row := fnPartFormRow, standIns := [], harness := (true, "591b5b015aea111b96a5a8ee35a485432e9de4f85b39b2c8a94cc6e47e09bd06"), looks := true }, kinds := [], alts := [], laidByText := true, laidKinds := [.handle], laidTests := true, laidLooks := .later }
def FnPartFormCardSaid : Prop := Claim7.holds Tryd.pinned (.plain (OpenSpec.ofChange fnPartFormSpec)) fnPartFormCard

/-- THE TIED CARD OF 'laws.FnFit'. -/
def fnFitCard : Claim7 := { stood := { row := fnFitRow, standIns := [], harness := (true, "591b5b015aea111b96a5a8ee35a485432e9de4f85b39b2c8a94cc6e47e09bd06"), looks := true }, kinds := [], alts := [], laidByText := true, laidKinds := [.handle], laidTests := true, laidLooks := .later }
def FnFitCardSaid : Prop := Claim7.holds Tryd.pinned (.plain (OpenSpec.ofChange fnFitSpec)) fnFitCard

/-- THE TIED CARD OF 'laws.FnProofMake'. -/
def fnProofMakeCard : Claim7 := { stood := { row := fnProofMakeRow, standIns := [], harness := (true, "591b5b015aea111b96a5a8ee35a485432e9de4f85b39b2c8a94cc6e47e09bd06"), looks := true }, kinds := [], alts := [], laidByText := true, laidKinds := [.sentinel], laidTests := true, laidLooks := .later }
def FnProofMakeCardSaid : Prop := Claim7.holds Tryd.pinned (.plain (OpenSpec.ofChange fnProofMakeSpec)) fnProofMakeCard

/-- THE TIED CARD OF 'laws.FnProofOk'. -/
def fnProofOkCard : Claim7 := { stood := { row := fnProofOkRow, standIns := [], harness := (true, "591b5b015aea111b96a5a8ee35a485432e9de4f85b39b2c8a94cc6e47e09bd06"), looks := true }, kinds := [], alts := [], laidByText := true, laidKinds := [.sentinel], laidTests := true, laidLooks := .later }
def FnProofOkCardSaid : Prop := Claim7.holds Tryd.pinned (.plain (OpenSpec.ofChange fnProofOkSpec)) fnProofOkCard

/-- THE TIED CARD OF 'laws.FnProofOne'. -/
def fnProofOneCard : Claim7 := { stood := { row := fnProofOneRow, standIns := [], harness := (true, "591b5b015aea111b96a5a8ee35a485432e9de4f85b39b2c8a94cc6e47e09bd06"), looks := true }, kinds := [], alts := [], laidByText := true, laidKinds := [.sentinel], laidTests := true, laidLooks := .later }
def FnProofOneCardSaid : Prop := Claim7.holds Tryd.pinned (.plain (OpenSpec.ofChange fnProofOneSpec)) fnProofOneCard

/-- THE SECOND FORM's CARD OF 'laws.FnExactProofAll'. -/
def fnExactProofAllUptoCard : Claim7 := { stood := { row := fnExactProofAllUptoRow, standIns := [], harness := (true, "591b5b015aea111b96a5a8ee35a485432e9de4f85b39b2c8a94cc6e47e09bd06"), looks := true }, kinds := [], alts := [], laidByText := true, laidKinds := [.sentinel], laidTests := true, laidLooks := .later }
def FnExactProofAllUptoCardSaid : Prop := Claim7.holds Tryd.pinned (.plain (OpenSpec.upto fnExactProofAllSpec)) fnExactProofAllUptoCard

/-- THE SECOND FORM's CARD OF 'laws.FnExactPartOk'. -/
def fnExactPartOkUptoCard : Claim7 := { stood := { row := fnExactPartOkUptoRow, standIns := [], harness := (true, "591b5b015aea111b96a5a8ee35a485432e9de4f85b39b2c8a94cc6e47e09bd06"), looks := true }, kinds := [], alts := [], laidByText := true, laidKinds := [.handle], laidTests := true, laidLooks := .later }
def FnExactPartOkUptoCardSaid : Prop := Claim7.holds Tryd.pinned (.plain (OpenSpec.upto fnExactPartOkSpec)) fnExactPartOkUptoCard

/-- THE SECOND FORM's CARD OF 'laws.FnExactPartsFit'. -/
def fnExactPartsFitUptoCard : Claim7 := { stood := { row := fnExactPartsFitUptoRow, standIns := [], harness := (true, "591b5b015aea111b96a5a8ee35a485432e9de4f85b39b2c8a94cc6e47e09bd06"), looks := true }, kinds := [], alts := [], laidByText := true, laidKinds := [.handle], laidTests := true, laidLooks := .later }
def FnExactPartsFitUptoCardSaid : Prop := Claim7.holds Tryd.pinned (.plain (OpenSpec.upto fnExactPartsFitSpec)) fnExactPartsFitUptoCard

/-- THE SECOND FORM's CARD OF 'laws.FnProofAll'. -/
def fnProofAllUptoCard : Claim7 := { stood := { row := fnProofAllUptoRow, standIns := [], harness := (true, "591b5b015aea111b96a5a8ee35a485432e9de4f85b39b2c8a94cc6e47e09bd06"), looks := true }, kinds := [], alts := [], laidByText := true, laidKinds := [.sentinel], laidTests := true, laidLooks := .later }
def FnProofAllUptoCardSaid : Prop := Claim7.holds Tryd.pinned (.plain (OpenSpec.upto fnProofAllSpec)) fnProofAllUptoCard

/-- THE SECOND FORM's CARD OF 'laws.FnExactProofOk'. -/
def fnExactProofOkUptoCard : Claim7 := { stood := { row := fnExactProofOkUptoRow, standIns := [], harness := (true, "591b5b015aea111b96a5a8ee35a485432e9de4f85b39b2c8a94cc6e47e09bd06"), looks := true }, kinds := [], alts := [], laidByText := true, laidKinds := [.sentinel], laidTests := true, laidLooks := .later }
def FnExactProofOkUptoCardSaid : Prop := Claim7.holds Tryd.pinned (.plain (OpenSpec.upto fnExactProofOkSpec)) fnExactProofOkUptoCard

/-- THE SECOND FORM's CARD OF 'laws.FnProofCut'. -/
def fnProofCutUptoCard : Claim7 := { stood := { row := fnProofCutUptoRow, standIns := [], harness := (true, "591b5b015aea111b96a5a8ee35a485432e9de4f85b39b2c8a94cc6e47e09bd06"), looks := true }, kinds := [], alts := [], laidByText := true, laidKinds := [.sentinel], laidTests := true, laidLooks := .later }
def FnProofCutUptoCardSaid : Prop := Claim7.holds Tryd.pinned (.plain (OpenSpec.upto fnProofCutSpec)) fnProofCutUptoCard

/-- THE SECOND FORM's CARD OF 'laws.FnPartForm'. -/
def fnPartFormUptoCard : Claim7 := { stood := { row := fnPartFormUptoRow, standIns := [], harness := (true, "591b5b015aea111b96a5a8ee35a485432e9de4f85b39b2c8a94cc6e47e09bd06"), looks := true }, kinds := [], alts := [], laidByText := true, laidKinds := [.handle], laidTests := true, laidLooks := .later }
def FnPartFormUptoCardSaid : Prop := Claim7.holds Tryd.pinned (.plain (OpenSpec.upto fnPartFormSpec)) fnPartFormUptoCard

/-- THE SECOND FORM's CARD OF 'laws.FnFit'. -/
def fnFitUptoCard : Claim7 := { stood := { row := fnFitUptoRow, standIns := [], harness := (true, "591b5b015aea111b96a5a8ee35a485432e9de4f85b39b2c8a94cc6e47e09bd06"), looks := true }, kinds := [], alts := [], laidByText := true, laidKinds := [.handle], laidTests := true, laidLooks := .later }
def FnFitUptoCardSaid : Prop := Claim7.holds Tryd.pinned (.plain (OpenSpec.upto fnFitSpec)) fnFitUptoCard

/-- THE SECOND FORM's CARD OF 'laws.FnProofMake'. -/
def fnProofMakeUptoCard : Claim7 := { stood := { row := fnProofMakeUptoRow, standIns := [], harness := (true, "591b5b015aea111b96a5a8ee35a485432e9de4f85b39b2c8a94cc6e47e09bd06"), looks := true }, kinds := [], alts := [], laidByText := true, laidKinds := [.sentinel], laidTests := true, laidLooks := .later }
def FnProofMakeUptoCardSaid : Prop := Claim7.holds Tryd.pinned (.plain (OpenSpec.upto fnProofMakeSpec)) fnProofMakeUptoCard

/-- THE SECOND FORM's CARD OF 'laws.FnProofOk'. -/
def fnProofOkUptoCard : Claim7 := { stood := { row := fnProofOkUptoRow, standIns := [], harness := (true, "591b5b015aea111b96a5a8ee35a485432e9de4f85b39b2c8a94cc6e47e09bd06"), looks := true }, kinds := [], alts := [], laidByText := true, laidKinds := [.sentinel], laidTests := true, laidLooks := .later }
def FnProofOkUptoCardSaid : Prop := Claim7.holds Tryd.pinned (.plain (OpenSpec.upto fnProofOkSpec)) fnProofOkUptoCard

/-- THE SECOND FORM's CARD OF 'laws.FnProofOne'. -/
def fnProofOneUptoCard : Claim7 := { stood := { row := fnProofOneUptoRow, standIns := [], harness := (true, "591b5b015aea111b96a5a8ee35a485432e9de4f85b39b2c8a94cc6e47e09bd06"), looks := true }, kinds := [], alts := [], laidByText := true, laidKinds := [.sentinel], laidTests := true, laidLooks := .later }
def FnProofOneUptoCardSaid : Prop := Claim7.holds Tryd.pinned (.plain (OpenSpec.upto fnProofOneSpec)) fnProofOneUptoCard
end Rows
end Go.Proofs.YtahbooeioigbgaaDoor
