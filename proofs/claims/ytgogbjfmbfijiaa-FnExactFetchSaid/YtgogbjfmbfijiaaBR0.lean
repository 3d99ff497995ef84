/- What every row of this seat leans on. -/
import Derived.Test.YtgogbjfmbfijiaaBZzN
import Derived.Test.YtgogbjfmbfijiaaRows
set_option linter.unusedSimpArgs false
set_option linter.unusedVariables false
set_option maxRecDepth 100000
namespace Go.Proofs.Ytgogbjfmbfijiaa
open Go.ChangeShapes Go.WideShapes Go.RowKit Go.Av
/-! What every row of this seat leans on. -/
theorem Try.own : ownKnob Try.prog.godebug = none := by kernel_rfl
theorem Try.laidOut : laidOutB Try.prog = true := by kernel_rfl
end Go.Proofs.Ytgogbjfmbfijiaa
