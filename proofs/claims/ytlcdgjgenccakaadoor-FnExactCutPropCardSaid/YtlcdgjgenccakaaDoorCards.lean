/-
  DERIVED. GIVEN WITH THE SEED: THE CARDS: each row of YtlcdgjgenccakaaDoorRows.lean that lists a variable, with what it lists TIED to the program's text (the seventh form; the later family's looks); each row that meets fmt, with fmt's text TOLD by the authors' own Lean function (tested against real Go, not proved from fmt's source: count such statements apart). THE CARD IS WHAT COUNTS. Prove the row's statement (the work); the ties are given (YtlcdgjgenccakaaDoorTie.lean); close each card by the builder's one call (the guide's Derived/Test/ToyasCard.lean, 'card_holds'). Laid BY PROGRAM, IN A SANDBOX (cutbox-door.mjs). By AI agents, Wed Nov 11 2026. No macro, syntax, notation, axiom, sorry.
-/
import Derived.Test.YtlcdgjgenccakaaDoorRows
import GoSem.ClaimSeven
namespace Go.Proofs.YtlcdgjgenccakaaDoor
namespace Rows

/-- THE TIED CARD OF 'laws.FnExactGoodEdited'. -/
def fnExactGoodEditedCard : Claim7 := { stood := { row := fnExactGoodEditedRow, standIns := [], harness := (true, "c0e336858025e7799fede6006507e43509e6e4238b415207917282d20b30f50f"), looks := false }, kinds := [], alts := [], laidByText := true, laidKinds := [.data, .pinned], laidTests := true, laidLooks := .later }
def FnExactGoodEditedCardSaid : Prop := Claim7.holds Tryd.pinned (.plain (OpenSpec.ofChange fnExactGoodEditedSpec)) fnExactGoodEditedCard

/-- THE TIED CARD OF 'laws.FnExactRedoStep'. -/
def fnExactRedoStepCard : Claim7 := { stood := { row := fnExactRedoStepRow, standIns := [], harness := (true, "c0e336858025e7799fede6006507e43509e6e4238b415207917282d20b30f50f"), looks := false }, kinds := [], alts := [], laidByText := true, laidKinds := [.data, .pinned], laidTests := true, laidLooks := .later }
def FnExactRedoStepCardSaid : Prop := Claim7.holds Tryd.pinned (.plain (OpenSpec.ofChange fnExactRedoStepSpec)) fnExactRedoStepCard

/-- THE TIED CARD OF 'laws.FnExactUndoStep'. -/
def fnExactUndoStepCard : Claim7 := { stood := { row := fnExactUndoStepRow, standIns := [], harness := (true, "c0e336858025e7799fede6006507e43509e6e4238b415207917282d20b30f50f"), looks := false }, kinds := [], alts := [], laidByText := true, laidKinds := [.data, .pinned], laidTests := true, laidLooks := .later }
def FnExactUndoStepCardSaid : Prop := Claim7.holds Tryd.pinned (.plain (OpenSpec.ofChange fnExactUndoStepSpec)) fnExactUndoStepCard

/-- THE TIED CARD OF 'laws.FnExactCutProp'. -/
def fnExactCutPropCard : Claim7 := { stood := { row := fnExactCutPropRow, standIns := [], harness := (true, "c0e336858025e7799fede6006507e43509e6e4238b415207917282d20b30f50f"), looks := false }, kinds := [], alts := [], laidByText := true, laidKinds := [.data, .pinned], laidTests := true, laidLooks := .later }
def FnExactCutPropCardSaid : Prop := Claim7.holds Tryd.pinned (.plain (OpenSpec.ofChange fnExactCutPropSpec)) fnExactCutPropCard

/-- THE TIED CARD OF 'laws.FnExactSetProp'. -/
def fnExactSetPropCard : Claim7 := { stood := { row := fnExactSetPropRow, standIns := [], harness := (true, "c0e336858025e7799fede6006507e43509e6e4238b415207917282d20b30f50f"), looks := false }, kinds := [], alts := [], laidByText := true, laidKinds := [.data, .pinned], laidTests := true, laidLooks := .later }
def FnExactSetPropCardSaid : Prop := Claim7.holds Tryd.pinned (.plain (OpenSpec.ofChange fnExactSetPropSpec)) fnExactSetPropCard

/-- THE SECOND FORM's CARD OF 'laws.FnExactGoodEdited'. -/
def fnExactGoodEditedUptoCard : Claim7 := { stood := { row := fnExactGoodEditedUptoRow, standIns := [], harness := (true, "c0e336858025e7799fede6006507e43509e6e4238b415207917282d20b30f50f"), looks := false }, kinds := [], alts := [], laidByText := true, laidKinds := [.data, .pinned], laidTests := true, laidLooks := .later }
def FnExactGoodEditedUptoCardSaid : Prop := Claim7.holds Tryd.pinned (.plain (OpenSpec.upto fnExactGoodEditedSpec)) fnExactGoodEditedUptoCard

/-- THE SECOND FORM's CARD OF 'laws.FnExactRedoStep'. -/
def fnExactRedoStepUptoCard : Claim7 := { stood := { row := fnExactRedoStepUptoRow, standIns := [], harness := (true, "c0e336858025e7799fede6006507e43509e6e4238b415207917282d20b30f50f"), looks := false }, kinds := [], alts := [], laidByText := true, laidKinds := [.data, .pinned], laidTests := true, laidLooks := .later }
def FnExactRedoStepUptoCardSaid : Prop := Claim7.holds Tryd.pinned (.plain (OpenSpec.upto fnExactRedoStepSpec)) fnExactRedoStepUptoCard

/-- THE SECOND FORM's CARD OF 'laws.FnExactUndoStep'. -/
def fnExactUndoStepUptoCard : Claim7 := { stood := { row := fnExactUndoStepUptoRow, standIns := [], harness := (true, "c0e336858025e7799fede6006507e43509e6e4238b415207917282d20b30f50f"), looks := false }, kinds := [], alts := [], laidByText := true, laidKinds := [.data, .pinned], laidTests := true, laidLooks := .later }
def FnExactUndoStepUptoCardSaid : Prop := Claim7.holds Tryd.pinned (.plain (OpenSpec.upto fnExactUndoStepSpec)) fnExactUndoStepUptoCard

/-- THE SECOND FORM's CARD OF 'laws.FnExactCutProp'. -/
def fnExactCutPropUptoCard : Claim7 := { stood := { row := fnExactCutPropUptoRow, standIns := [], harness := (true, "c0e336858025e7799fede6006507e43509e6e4238b415207917282d20b30f50f"), looks := false }, kinds := [], alts := [], laidByText := true, laidKinds := [.data, .pinned], laidTests := true, laidLooks := .later }
def FnExactCutPropUptoCardSaid : Prop := Claim7.holds Tryd.pinned (.plain (OpenSpec.upto fnExactCutPropSpec)) fnExactCutPropUptoCard

/-- THE SECOND FORM's CARD OF 'laws.FnExactSetProp'. -/
def fnExactSetPropUptoCard : Claim7 := { stood := { row := fnExactSetPropUptoRow, standIns := [], harness := (true, "c0e336858025e7799fede6006507e43509e6e4238b415207917282d20b30f50f"), looks := false }, kinds := [], alts := [], laidByText := true, laidKinds := [.data, .pinned], laidTests := true, laidLooks := .later }
def FnExactSetPropUptoCardSaid : Prop := Claim7.holds Tryd.pinned (.plain (OpenSpec.upto fnExactSetPropSpec)) fnExactSetPropUptoCard
end Rows
end Go.Proofs.YtlcdgjgenccakaaDoor
