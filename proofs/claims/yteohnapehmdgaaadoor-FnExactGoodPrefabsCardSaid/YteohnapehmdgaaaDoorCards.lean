/-
  DERIVED. GIVEN WITH THE SEED: THE CARDS: each row of YteohnapehmdgaaaDoorRows.lean that lists a variable, with what it lists TIED to the program's text (the seventh form; the later family's looks); each row that meets fmt, with fmt's text TOLD by the authors' own Lean function (tested against real Go, not proved from fmt's source: count such statements apart). THE CARD IS WHAT COUNTS. Prove the row's statement (the work); the ties are given (YteohnapehmdgaaaDoorTie.lean); close each card by the builder's one call (the guide's Derived/Test/ToyasCard.lean, 'card_holds'). Laid BY PROGRAM, IN A SANDBOX (cutbox-door.mjs). By AI agents, Wed Nov 11 2026. No macro, syntax, notation, axiom, sorry.
-/
import Derived.Test.YteohnapehmdgaaaDoorRows
import GoSem.ClaimSeven
namespace Go.Proofs.YteohnapehmdgaaaDoor
namespace Rows

/-- THE TIED CARD OF 'laws.FnExactGoodProps'. -/
def fnExactGoodPropsCard : Claim7 := { stood := { row := fnExactGoodPropsRow, standIns := [], harness := (true, "27c2dd69274129ee6850e02b330cef2b62f2ca91e1cff3757d51ea45f6d693f3"), looks := false }, kinds := [], alts := [], laidByText := true, laidKinds := [.data, .pinned], laidTests := true, laidLooks := .later }
def FnExactGoodPropsCardSaid : Prop := Claim7.holds Tryd.pinned (.plain (OpenSpec.ofChange fnExactGoodPropsSpec)) fnExactGoodPropsCard

/-- THE TIED CARD OF 'laws.FnExactGoodPrefabs'. -/
def fnExactGoodPrefabsCard : Claim7 := { stood := { row := fnExactGoodPrefabsRow, standIns := [], harness := (true, "27c2dd69274129ee6850e02b330cef2b62f2ca91e1cff3757d51ea45f6d693f3"), looks := false }, kinds := [], alts := [], laidByText := true, laidKinds := [.data, .pinned], laidTests := true, laidLooks := .later }
def FnExactGoodPrefabsCardSaid : Prop := Claim7.holds Tryd.pinned (.plain (OpenSpec.ofChange fnExactGoodPrefabsSpec)) fnExactGoodPrefabsCard

/-- THE SECOND FORM's CARD OF 'laws.FnExactGoodProps'. -/
def fnExactGoodPropsUptoCard : Claim7 := { stood := { row := fnExactGoodPropsUptoRow, standIns := [], harness := (true, "27c2dd69274129ee6850e02b330cef2b62f2ca91e1cff3757d51ea45f6d693f3"), looks := false }, kinds := [], alts := [], laidByText := true, laidKinds := [.data, .pinned], laidTests := true, laidLooks := .later }
def FnExactGoodPropsUptoCardSaid : Prop := Claim7.holds Tryd.pinned (.plain (OpenSpec.upto fnExactGoodPropsSpec)) fnExactGoodPropsUptoCard

/-- THE SECOND FORM's CARD OF 'laws.FnExactGoodPrefabs'. -/
def fnExactGoodPrefabsUptoCard : Claim7 := { stood := { row := fnExactGoodPrefabsUptoRow, standIns := [], harness := (true, "27c2dd69274129ee6850e02b330cef2b62f2ca91e1cff3757d51ea45f6d693f3"), looks := false }, kinds := [], alts := [], laidByText := true, laidKinds := [.data, .pinned], laidTests := true, laidLooks := .later }
def FnExactGoodPrefabsUptoCardSaid : Prop := Claim7.holds Tryd.pinned (.plain (OpenSpec.upto fnExactGoodPrefabsSpec)) fnExactGoodPrefabsUptoCard
end Rows
end Go.Proofs.YteohnapehmdgaaaDoor
