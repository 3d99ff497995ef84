/- Within the room of a row of one's own: an append over its own cells, a slice beyond the length, 'clear'. -/
import Derived.Test.YteohnapehmdgaaaDoorAPg
set_option linter.unusedSimpArgs false
set_option linter.unusedVariables false
/-! Within the room of a row of one's own: an append over its own cells, a slice beyond the length, 'clear'. -/
namespace Go.Av
section
variable {E : Env} {s s1 : ASt} {d : Nat} {x y : Operand} {t ty xt : TypeId} {pos : String} {after : Array Edge} {g : Option (Nat × Bool)} {R : ASt → Prop}
end
/-- slices.Delete, in plain words. -/
def delL {α : Type} (l : List α) (i j : Int) : Option (List α) := if 0 ≤ i ∧ i ≤ j ∧ j ≤ l.length then some (l.take i.toNat ++ l.drop j.toNat) else none
end Go.Av
