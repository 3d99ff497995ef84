/- Contracts of functions of this seat, each for every argument within its bounds. -/
import Derived.Test.YtheheedekbhonaaAP1
set_option linter.unusedSimpArgs false
set_option linter.unusedVariables false
set_option maxRecDepth 100000
namespace Go.Av
open Go.Proofs

def lett (c : Int) : Bool := (decide (c ≥ 97) && decide (c ≤ 122)) || (decide (c ≥ 65) && decide (c ≤ 90))
def digt (c : Int) : Bool := decide (c ≥ 48) && decide (c ≤ 57)

end Go.Av
