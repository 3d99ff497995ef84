/- Nil slices within what is given back: each is an own row of no element. -/
import Derived.Test.YtbldpkglmjajlaaBZzM
set_option linter.unusedSimpArgs false
set_option linter.unusedVariables false
/-! Nil slices within what is given back: each is an own row of no element. -/
namespace Go.Av
variable {w : World} {G : Nat → Prop}
theorem RetJ.nilUp {E : Env} {fn : Func} {A res : AV} {s : ASt} (h : RetJ E fn A s) (hA : NilLe A res) : RetJ E fn res s := fun M G a w hX => by
  obtain ⟨T, h1, rfl, h3, h4, h5⟩ := h M G a w hX
  obtain ⟨T', g1, g2, g3, g4⟩ := Av.nilUp T res h3 hA
  exact ⟨T', by rw [h1, g2], g1, g4, by rw [g3]; exact h4, by rw [g3]; exact h5⟩
def retNs (res : List AV) : Option (List AV × ASt) → Prop
  | some (A, _) => NilLes A res
  | none => False
def retN2 (s : ASt) (res : List AV) : Option AV → Option AV → Prop
  | some v, some v' => retNs res (closeVs s [v, v'])
  | _, _ => False
/-- As ret_q2; nil slices within may be rows of no element. -/
theorem ret_n2 {E : Env} {fn : Func} {A B : AV} {s : ASt} {x y : ResultVar} (hr : fn.results = #[x, y]) (h : retN2 s [A, B] (rview E.P s x) (rview E.P s y)) : RetJ E fn (.tup [A, B]) s := by
  unfold retN2 at h
  split at h
  · rename_i v v' hv hv'
    unfold retNs at h
    split at h
    · rename_i As s' hc
      cases h with
      | cons h1 t => cases t with
        | cons h2 t2 => cases t2; exact (ret_v2 hr hv hv' hc).nilUp (.tup (.cons h1 (.cons h2 .nil)))
    · exact h.elim
  · exact h.elim
end Go.Av
