/- Nil slices within what is given back: each is an own row of no element. -/
import Derived.Test.YteohnapehmdgaaaDoorAZzM
set_option linter.unusedSimpArgs false
set_option linter.unusedVariables false
/-! Nil slices within what is given back: each is an own row of no element. -/
namespace Go.Av
variable {w : World} {G : Nat → Prop}
theorem RetJ.nilUp {E : Env} {fn : Func} {A res : AV} {s : ASt} (h : RetJ E fn A s) (hA : NilLe A res) : RetJ E fn res s := fun M G a w hX => by
  obtain ⟨T, h1, rfl, h3, h4, h5⟩ := h M G a w hX
  obtain ⟨T', g1, g2, g3, g4⟩ := Av.nilUp T res h3 hA
  exact ⟨T', by rw [h1, g2], g1, g4, by rw [g3]; exact h4, by rw [g3]; exact h5⟩
def retNs (res : List AV) : Option (List AV × ASt) → Prop
  | some (A, _) => NilLes A res
  | none => False
def retN2 (s : ASt) (res : List AV) : Option AV → Option AV → Prop
  | some v, some v' => retNs res (closeVs s [v, v'])
  | _, _ => False
end Go.Av
