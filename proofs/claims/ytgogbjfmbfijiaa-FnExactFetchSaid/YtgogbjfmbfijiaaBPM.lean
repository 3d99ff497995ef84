/- Marks on rows: how large they are, where they come from. -/
import Derived.Test.YtgogbjfmbfijiaaBL0
set_option linter.unusedSimpArgs false
set_option linter.unusedVariables false
/-! Marks on rows: how large they are, where they come from. -/
namespace Go.Av
end Go.Av
