/- slices.Insert: the room of a row that came in ('cap'), a row made longer within its room, copies of cells, an append that needs a new row. -/
import Derived.Test.YteohnapehmdgaaaDoorAYh
import Derived.Lib.Overlaps
set_option linter.unusedSimpArgs false
set_option linter.unusedVariables false
/-! slices.Insert: the room of a row that came in ('cap'), a row made longer within its room, copies of cells, an append that needs a new row. -/
namespace Go.Av
section
variable {E : Env} {s s1 : ASt} {d : Nat} {x y : Operand} {t ty xt : TypeId} {pos : String} {after : Array Edge} {g : Option (Nat × Bool)} {R : ASt → Prop}
/-- The first 'k' of the 'm' elements of a slice, read alone. -/
def YK (E : Env) (s : ASt) (y : AV) (sz m k : Nat) (es : List AV) : Prop :=
  ∀ M G a w, RelX E M G s a w → ∀ u, VR w G M y u → ∃ (Vs : List HT) (A : Option Addr) (c : Nat), u = .slice A m c ∧ HT.erases Vs = es ∧ Vs.length = k * sz ∧ (∀ V ∈ Vs, Sat w G V ∧ V.value.oneCell' = true) ∧ Vs.flatMap HT.blocks = [] ∧
    ∀ (j : Nat) (V : HT), Vs[j]? = some V → ∃ ad, A = some ad ∧ w.cell? (ad.add j) = some V.value
end
/-- slices.Insert of one element, in plain words. -/
def insL {α : Type} (l : List α) (i : Int) (v : List α) : Option (List α) := if (0 ≤ i ∧ i ≤ l.length) ∧ l.length < 4294967296 ∧ v.length = 1 then some (l.take i.toNat ++ (v ++ l.drop i.toNat)) else none
end Go.Av
namespace Go.Av
end Go.Av
/-! What a function as an argument has caught: no places. -/
namespace Go.Av
end Go.Av
