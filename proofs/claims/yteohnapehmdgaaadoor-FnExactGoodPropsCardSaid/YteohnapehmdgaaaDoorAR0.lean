/- What every row of this seat leans on. -/
import Derived.Test.YteohnapehmdgaaaDoorAZzN
import Derived.Test.YteohnapehmdgaaaDoorRows
set_option linter.unusedSimpArgs false
set_option linter.unusedVariables false
set_option maxRecDepth 100000
namespace Go.Proofs.YteohnapehmdgaaaDoor
open Go.ChangeShapes Go.WideShapes Go.RowKit Go.Av
/-! What every row of this seat leans on. -/
theorem Tryd.own : ownKnob Tryd.prog.godebug = none := by kernel_rfl
theorem Tryd.laidOut : laidOutB Tryd.prog = true := by kernel_rfl
end Go.Proofs.YteohnapehmdgaaaDoor
