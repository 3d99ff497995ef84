/- Own memory lent to a callee, in a region whose order is drawn. -/
import Derived.Test.YteohnapehmdgaaaDoorAZzV
set_option linter.unusedSimpArgs false
set_option linter.unusedVariables false
/-! Own memory lent to a callee, in a region whose order is drawn. -/
namespace Go.Av
section
variable {E : Env} {s : ASt} {d : Nat} {t : TypeId} {pos : String} {after : Array Edge} {g : Option (Nat × Bool)}
end
section
variable {P : Program} {G0 X : Nat → Prop} {w0 : World} {nt : Nat} {pv : Nat → Option Value} {s : ASt} {d : Nat} {t : TypeId} {pos : String} {after : Array Edge} {g : Option (Nat × Bool)} {fo : Operand} {f : FuncId} {xs : List Operand} {ts : Array TypeId} {as : List AV} {res : AV}
end
end Go.Av
