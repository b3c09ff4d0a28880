/-
  DERIVED. GIVEN WITH THE SEED: THE CARDS: each row of YtlgbblaidohljaaGreatDoorRows.lean that lists a variable, with what it lists TIED to the program's text (the seventh form; the later family's looks); each row that meets fmt, with fmt's text TOLD by the authors' own Lean function (tested against real Go, not proved from fmt's source: count such statements apart). THE CARD IS WHAT COUNTS. Prove the row's statement (the work); the ties are given (YtlgbblaidohljaaGreatDoorTie.lean); close each card by the builder's one call (the guide's Derived/Test/ToyasCard.lean, 'card_holds'). Laid BY PROGRAM, IN A SANDBOX (cutbox-door.mjs). By AI agents, Wed Nov 11 2026. No macro, syntax, notation, axiom, sorry.
-/
import Derived.Test.YtlgbblaidohljaaGreatDoorRows
import GoSem.ClaimSeven
namespace Go.Proofs.YtlgbblaidohljaaGreatDoor
namespace Rows

/-- THE TIED CARD OF 'laws.FnExactPartsTake'. -/
def fnExactPartsTakeCard : Claim7 := { stood := { row := fnExactPartsTakeRow, standIns := [], harness := (true, "c8887c928205df61cde91625c9be41b953a3528d5e9fcdcdd1b710ce2fd7e973"), looks := true }, kinds := [], alts := [], laidByText := true, laidKinds := [.handle], laidTests := true, laidLooks := .later }
def FnExactPartsTakeCardSaid : Prop := Claim7.holds Tryz.pinned (.plain (OpenSpec.ofChange fnExactPartsTakeSpec)) fnExactPartsTakeCard

/-- THE TIED CARD OF 'laws.FnAskHide'. -/
def fnAskHideCard : Claim7 := { stood := { row := fnAskHideRow, standIns := [], harness := (true, "c8887c928205df61cde91625c9be41b953a3528d5e9fcdcdd1b710ce2fd7e973"), looks := true }, kinds := [], alts := [], laidByText := true, laidKinds := [.sentinel], laidTests := true, laidLooks := .later }
def FnAskHideCardSaid : Prop := Claim7.holds Tryz.pinned (.plain (OpenSpec.ofChange fnAskHideSpec)) fnAskHideCard

/-- THE TIED CARD OF 'laws.FnAskTold'. -/
def fnAskToldCard : Claim7 := { stood := { row := fnAskToldRow, standIns := [], harness := (true, "c8887c928205df61cde91625c9be41b953a3528d5e9fcdcdd1b710ce2fd7e973"), looks := true }, kinds := [], alts := [], laidByText := true, laidKinds := [.sentinel], laidTests := true, laidLooks := .later }
def FnAskToldCardSaid : Prop := Claim7.holds Tryz.pinned (.plain (OpenSpec.ofChange fnAskToldSpec)) fnAskToldCard

/-- THE TIED CARD OF 'laws.FnChanceAll'. -/
def fnChanceAllCard : Claim7 := { stood := { row := fnChanceAllRow, standIns := [], harness := (true, "c8887c928205df61cde91625c9be41b953a3528d5e9fcdcdd1b710ce2fd7e973"), looks := true }, kinds := [], alts := [], laidByText := true, laidKinds := [.sentinel], laidTests := true, laidLooks := .later }
def FnChanceAllCardSaid : Prop := Claim7.holds Tryz.pinned (.plain (OpenSpec.ofChange fnChanceAllSpec)) fnChanceAllCard

/-- THE TIED CARD OF 'laws.FnChanceBound'. -/
def fnChanceBoundCard : Claim7 := { stood := { row := fnChanceBoundRow, standIns := [], harness := (true, "c8887c928205df61cde91625c9be41b953a3528d5e9fcdcdd1b710ce2fd7e973"), looks := true }, kinds := [], alts := [], laidByText := true, laidKinds := [.sentinel], laidTests := true, laidLooks := .later }
def FnChanceBoundCardSaid : Prop := Claim7.holds Tryz.pinned (.plain (OpenSpec.ofChange fnChanceBoundSpec)) fnChanceBoundCard

/-- THE TIED CARD OF 'laws.FnChanceSplit'. -/
def fnChanceSplitCard : Claim7 := { stood := { row := fnChanceSplitRow, standIns := [], harness := (true, "c8887c928205df61cde91625c9be41b953a3528d5e9fcdcdd1b710ce2fd7e973"), looks := true }, kinds := [], alts := [], laidByText := true, laidKinds := [.sentinel], laidTests := true, laidLooks := .later }
def FnChanceSplitCardSaid : Prop := Claim7.holds Tryz.pinned (.plain (OpenSpec.ofChange fnChanceSplitSpec)) fnChanceSplitCard

/-- THE TIED CARD OF 'laws.FnTake'. -/
def fnTakeCard : Claim7 := { stood := { row := fnTakeRow, standIns := [], harness := (true, "c8887c928205df61cde91625c9be41b953a3528d5e9fcdcdd1b710ce2fd7e973"), looks := true }, kinds := [], alts := [], laidByText := true, laidKinds := [.handle], laidTests := true, laidLooks := .later }
def FnTakeCardSaid : Prop := Claim7.holds Tryz.pinned (.plain (OpenSpec.ofChange fnTakeSpec)) fnTakeCard

/-- THE SECOND FORM's CARD OF 'laws.FnExactPartsTake'. -/
def fnExactPartsTakeUptoCard : Claim7 := { stood := { row := fnExactPartsTakeUptoRow, standIns := [], harness := (true, "c8887c928205df61cde91625c9be41b953a3528d5e9fcdcdd1b710ce2fd7e973"), looks := true }, kinds := [], alts := [], laidByText := true, laidKinds := [.handle], laidTests := true, laidLooks := .later }
def FnExactPartsTakeUptoCardSaid : Prop := Claim7.holds Tryz.pinned (.plain (OpenSpec.upto fnExactPartsTakeSpec)) fnExactPartsTakeUptoCard

/-- THE SECOND FORM's CARD OF 'laws.FnAskHide'. -/
def fnAskHideUptoCard : Claim7 := { stood := { row := fnAskHideUptoRow, standIns := [], harness := (true, "c8887c928205df61cde91625c9be41b953a3528d5e9fcdcdd1b710ce2fd7e973"), looks := true }, kinds := [], alts := [], laidByText := true, laidKinds := [.sentinel], laidTests := true, laidLooks := .later }
def FnAskHideUptoCardSaid : Prop := Claim7.holds Tryz.pinned (.plain (OpenSpec.upto fnAskHideSpec)) fnAskHideUptoCard

/-- THE SECOND FORM's CARD OF 'laws.FnAskTold'. -/
def fnAskToldUptoCard : Claim7 := { stood := { row := fnAskToldUptoRow, standIns := [], harness := (true, "c8887c928205df61cde91625c9be41b953a3528d5e9fcdcdd1b710ce2fd7e973"), looks := true }, kinds := [], alts := [], laidByText := true, laidKinds := [.sentinel], laidTests := true, laidLooks := .later }
def FnAskToldUptoCardSaid : Prop := Claim7.holds Tryz.pinned (.plain (OpenSpec.upto fnAskToldSpec)) fnAskToldUptoCard

/-- THE SECOND FORM's CARD OF 'laws.FnChanceAll'. -/
def fnChanceAllUptoCard : Claim7 := { stood := { row := fnChanceAllUptoRow, standIns := [], harness := (true, "c8887c928205df61cde91625c9be41b953a3528d5e9fcdcdd1b710ce2fd7e973"), looks := true }, kinds := [], alts := [], laidByText := true, laidKinds := [.sentinel], laidTests := true, laidLooks := .later }
def FnChanceAllUptoCardSaid : Prop := Claim7.holds Tryz.pinned (.plain (OpenSpec.upto fnChanceAllSpec)) fnChanceAllUptoCard

/-- THE SECOND FORM's CARD OF 'laws.FnChanceBound'. -/
def fnChanceBoundUptoCard : Claim7 := { stood := { row := fnChanceBoundUptoRow, standIns := [], harness := (true, "c8887c928205df61cde91625c9be41b953a3528d5e9fcdcdd1b710ce2fd7e973"), looks := true }, kinds := [], alts := [], laidByText := true, laidKinds := [.sentinel], laidTests := true, laidLooks := .later }
def FnChanceBoundUptoCardSaid : Prop := Claim7.holds Tryz.pinned (.plain (OpenSpec.upto fnChanceBoundSpec)) fnChanceBoundUptoCard

/-- THE SECOND FORM's CARD OF 'laws.FnChanceSplit'. -/
def fnChanceSplitUptoCard : Claim7 := { stood := { row := fnChanceSplitUptoRow, standIns := [], harness := (true, "c8887c928205df61cde91625c9be41b953a3528d5e9fcdcdd1b710ce2fd7e973"), looks := true }, kinds := [], alts := [], laidByText := true, laidKinds := [.sentinel], laidTests := true, laidLooks := .later }
def FnChanceSplitUptoCardSaid : Prop := Claim7.holds Tryz.pinned (.plain (OpenSpec.upto fnChanceSplitSpec)) fnChanceSplitUptoCard

/-- THE SECOND FORM's CARD OF 'laws.FnTake'. -/
def fnTakeUptoCard : Claim7 := { stood := { row := fnTakeUptoRow, standIns := [], harness := (true, "c8887c928205df61cde91625c9be41b953a3528d5e9fcdcdd1b710ce2fd7e973"), looks := true }, kinds := [], alts := [], laidByText := true, laidKinds := [.handle], laidTests := true, laidLooks := .later }
def FnTakeUptoCardSaid : Prop := Claim7.holds Tryz.pinned (.plain (OpenSpec.upto fnTakeSpec)) fnTakeUptoCard
end Rows
end Go.Proofs.YtlgbblaidohljaaGreatDoor
