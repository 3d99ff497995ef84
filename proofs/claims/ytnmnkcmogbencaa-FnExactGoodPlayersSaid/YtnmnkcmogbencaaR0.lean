/- Contracts of functions of this seat, each for every argument within its bounds. -/
import Derived.Test.YtnmnkcmogbencaaP2
import Derived.Test.YtnmnkcmogbencaaZzN
import Derived.Test.YtnmnkcmogbencaaRows
set_option linter.unusedSimpArgs false
set_option linter.unusedVariables false
set_option maxRecDepth 100000
namespace Go.Proofs.Ytnmnkcmogbencaa
open Go.ChangeShapes Go.WideShapes Go.RowKit Go.Av

theorem Try.own : ownKnob Try.prog.godebug = none := by kernel_rfl
theorem Try.laidOut : laidOutB Try.prog = true := by kernel_rfl

theorem opensRowI {P : Program} {t e : TypeId} (ht : P.underlying t = some (.slice e)) (he : P.underlying e = some (.int .i64)) (hc : P.cellsOf e = 1) :
    OpensA P t rowI (fun l => l.length ≤ 9223372036854775807 ∧ ∀ n ∈ l, (Lit.int .i64 n).wf = true) :=
  (opensA_slice ht hc (by decide) (opens_int he)).map id (fun l => by simp [rowI, encI, List.map_eq_flatMap]) (fun l h => ⟨h.1, h.2.2⟩)

end Go.Proofs.Ytnmnkcmogbencaa
