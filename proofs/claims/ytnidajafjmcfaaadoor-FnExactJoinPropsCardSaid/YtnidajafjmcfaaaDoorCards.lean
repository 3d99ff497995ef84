/-
  DERIVED. GIVEN WITH THE SEED: THE CARDS: each row of YtnidajafjmcfaaaDoorRows.lean that lists a variable, with what it lists TIED to the program's text (the seventh form; the later family's looks); each row that meets fmt, with fmt's text TOLD by the authors' own Lean function (tested against real Go, not proved from fmt's source: count such statements apart). THE CARD IS WHAT COUNTS. Prove the row's statement (the work); the ties are given (YtnidajafjmcfaaaDoorTie.lean); close each card by the builder's one call (the guide's Derived/Test/ToyasCard.lean, 'card_holds'). Laid BY PROGRAM, IN A SANDBOX (cutbox-door.mjs). By AI agents, Wed Nov 11 2026. No macro, syntax, notation, axiom, sorry.
-/
import Derived.Test.YtnidajafjmcfaaaDoorRows
import GoSem.ClaimSeven
namespace Go.Proofs.YtnidajafjmcfaaaDoor
namespace Rows

/-- THE TIED CARD OF 'laws.FnExactPropsOf'. -/
def fnExactPropsOfCard : Claim7 := { stood := { row := fnExactPropsOfRow, standIns := [], harness := (true, "47b0562f4fe592139ecdf74f50e06e9c3c840aa166fb2ca6071ffa32584f0942"), looks := false }, kinds := [], alts := [], laidByText := true, laidKinds := [.data, .pinned], laidTests := true, laidLooks := .later }
def FnExactPropsOfCardSaid : Prop := Claim7.holds Tryd.pinned (.plain (OpenSpec.ofChange fnExactPropsOfSpec)) fnExactPropsOfCard

/-- THE TIED CARD OF 'laws.FnExactOverridesOf'. -/
def fnExactOverridesOfCard : Claim7 := { stood := { row := fnExactOverridesOfRow, standIns := [], harness := (true, "47b0562f4fe592139ecdf74f50e06e9c3c840aa166fb2ca6071ffa32584f0942"), looks := false }, kinds := [], alts := [], laidByText := true, laidKinds := [.data, .pinned], laidTests := true, laidLooks := .later }
def FnExactOverridesOfCardSaid : Prop := Claim7.holds Tryd.pinned (.plain (OpenSpec.ofChange fnExactOverridesOfSpec)) fnExactOverridesOfCard

/-- THE TIED CARD OF 'laws.FnExactJoinProps'. -/
def fnExactJoinPropsCard : Claim7 := { stood := { row := fnExactJoinPropsRow, standIns := [], harness := (true, "47b0562f4fe592139ecdf74f50e06e9c3c840aa166fb2ca6071ffa32584f0942"), looks := false }, kinds := [], alts := [], laidByText := true, laidKinds := [.data, .pinned], laidTests := true, laidLooks := .later }
def FnExactJoinPropsCardSaid : Prop := Claim7.holds Tryd.pinned (.plain (OpenSpec.ofChange fnExactJoinPropsSpec)) fnExactJoinPropsCard

/-- THE SECOND FORM's CARD OF 'laws.FnExactPropsOf'. -/
def fnExactPropsOfUptoCard : Claim7 := { stood := { row := fnExactPropsOfUptoRow, standIns := [], harness := (true, "47b0562f4fe592139ecdf74f50e06e9c3c840aa166fb2ca6071ffa32584f0942"), looks := false }, kinds := [], alts := [], laidByText := true, laidKinds := [.data, .pinned], laidTests := true, laidLooks := .later }
def FnExactPropsOfUptoCardSaid : Prop := Claim7.holds Tryd.pinned (.plain (OpenSpec.upto fnExactPropsOfSpec)) fnExactPropsOfUptoCard

/-- THE SECOND FORM's CARD OF 'laws.FnExactOverridesOf'. -/
def fnExactOverridesOfUptoCard : Claim7 := { stood := { row := fnExactOverridesOfUptoRow, standIns := [], harness := (true, "47b0562f4fe592139ecdf74f50e06e9c3c840aa166fb2ca6071ffa32584f0942"), looks := false }, kinds := [], alts := [], laidByText := true, laidKinds := [.data, .pinned], laidTests := true, laidLooks := .later }
def FnExactOverridesOfUptoCardSaid : Prop := Claim7.holds Tryd.pinned (.plain (OpenSpec.upto fnExactOverridesOfSpec)) fnExactOverridesOfUptoCard

/-- THE SECOND FORM's CARD OF 'laws.FnExactJoinProps'. -/
def fnExactJoinPropsUptoCard : Claim7 := { stood := { row := fnExactJoinPropsUptoRow, standIns := [], harness := (true, "47b0562f4fe592139ecdf74f50e06e9c3c840aa166fb2ca6071ffa32584f0942"), looks := false }, kinds := [], alts := [], laidByText := true, laidKinds := [.data, .pinned], laidTests := true, laidLooks := .later }
def FnExactJoinPropsUptoCardSaid : Prop := Claim7.holds Tryd.pinned (.plain (OpenSpec.upto fnExactJoinPropsSpec)) fnExactJoinPropsUptoCard
end Rows
end Go.Proofs.YtnidajafjmcfaaaDoor
