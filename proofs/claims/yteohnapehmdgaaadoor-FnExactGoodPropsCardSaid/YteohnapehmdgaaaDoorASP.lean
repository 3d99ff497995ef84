/- strings.Split at '/' in this program. -/
import Derived.Test.YteohnapehmdgaaaDoorASPL
import Derived.Test.YteohnapehmdgaaaDoorAYk
import Derived.Test.YteohnapehmdgaaaDoorAYA
set_option linter.unusedSimpArgs false
set_option linter.unusedVariables false
/-! strings.Split at '/' in this program. -/
namespace Go.Av
open Go.Proofs
theorem split_does (s sep : ByteArray) (r : List ByteArray) (h : splitP s sep = some r) : Does Tryd.prog 31 [S s, S sep] (.row true 1 r.length (esStr r)) := by
  unfold splitP at h
  split at h
  · rename_i c
    obtain ⟨rfl, h1⟩ := c
    cases h
    exact split1_does Tryd.laysSplit (by kernel_rfl) rfl 47 s h1
  · cases h
end Go.Av
