/- Calls of functions for which the model stands in. -/
import Derived.Test.YteohnapehmdgaaaDoorAYe
import Derived.Lib.Bytealg
set_option linter.unusedSimpArgs false
set_option linter.unusedVariables false
/-! Calls of functions for which the model stands in. -/
namespace Go.Av
def ExtV (P : Program) (f : FuncId) (vs : List Value) (v : Value) : Prop := ∀ w, (callFunc f vs.toArray).run P w = .ok (.value v) w
/-- How two texts stand to each other: -1, 0, 1. -/
def cmpB (a b : ByteArray) : Int := Lib.compareBytes a.data.toList b.data.toList
end Go.Av
