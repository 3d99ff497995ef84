/- Memory that a call makes. -/
import Derived.Test.YteohnapehmdgaaaDoorAZzK
set_option linter.unusedSimpArgs false
set_option linter.unusedVariables false
/-! Memory that a call makes. -/
namespace Go.Av

theorem leaves {w : World} {G : Nat → Prop} : ∀ (vs : List AV) (us : List Value), us.length = vs.length → (∀ (i : Nat) (v : AV) (u : Value), vs[i]? = some v → us[i]? = some u → Sat w G (.leaf v u)) →
    ∃ Ks : List HT, HT.values Ks = us ∧ HT.erases Ks = vs ∧ HT.blockss Ks = [] ∧ Ks.length = vs.length ∧ (∀ (i : Nat) (K : HT), Ks[i]? = some K → Sat w G K ∧ us[i]? = some K.value)
  | [], us, hl, _ => by
    have : us = [] := by simpa using hl
    subst this
    exact ⟨[], by simp [HT.values], by simp [HT.erases], by simp [HT.blockss], rfl, fun i K h => by simp at h⟩
  | v :: vs, us, hl, h => by
    cases us with
    | nil => simp at hl
    | cons u us =>
      obtain ⟨Ks, h1, h2, h3, h4, h5⟩ := leaves (w := w) (G := G) vs us (by simpa using hl) (fun i v' u' a b => h (i + 1) v' u' (by simpa using a) (by simpa using b))
      refine ⟨.leaf v u :: Ks, by simp [HT.values, HT.value, h1], by simp [HT.erases, HT.erase, h2], by simp [HT.blockss, HT.blocks, h3], by simp [h4], fun i K hK => ?_⟩
      cases i with
      | zero => simp only [List.getElem?_cons_zero, Option.some.injEq] at hK; subst hK; exact ⟨h 0 v u rfl rfl, rfl⟩
      | succ i => exact h5 i K (by simpa using hK)

theorem alloc_old (w : World) (o : Obj) (k : Nat) (h : k < w.heap.size) : (w.alloc o).heap[k]? = w.heap[k]? := by
  show (w.heap.push o)[k]? = _
  rw [Array.getElem?_push, if_neg (by omega)]
theorem alloc_ext (w : World) (o : Obj) : Ext (fun _ => False) w (w.alloc o) := ⟨rfl, rfl, rfl, by simp, fun k hk _ => alloc_old w o k hk⟩
theorem alloc_new (w : World) (o : Obj) : (w.alloc o).heap[w.heap.size]? = some o := by
  show (w.heap.push o)[w.heap.size]? = _
  rw [Array.getElem?_push, if_pos rfl]

section
variable {E : Env} {s : ASt} {d : Nat} {x y : Operand} {t xt : TypeId} {pos : String} {after : Array Edge} {g : Option (Nat × Bool)}

/-- A slice type's element: its empty cells, its bytes. -/
def zcT (P : Program) (t : TypeId) : Option (List Value × Nat) := match P.underlying t with
  | some (.slice e) => match P.info? e with
    | some i => match i.zero with
      | some z => if z.cells.size = i.size then some (z.cells.toList, i.bytes) else none
      | none => none
    | none => none
  | _ => none
theorem zcT_spec {P : Program} {t : TypeId} {zs : List Value} {by_ : Nat} (h : zcT P t = some (zs, by_)) : ∃ e i z, P.underlying t = some (.slice e) ∧ P.info? e = some i ∧ i.zero = some z ∧ z.cells.toList = zs ∧ i.bytes = by_ ∧ i.size = zs.length ∧ slT P t = some zs.length := by
  unfold zcT at h
  split at h
  · rename_i e he
    split at h
    · rename_i i hi
      split at h
      · rename_i z hz
        split at h
        · rename_i hs
          simp only [Option.some.injEq, Prod.mk.injEq] at h
          obtain ⟨rfl, rfl⟩ := h
          exact ⟨e, i, z, he, hi, hz, rfl, rfl, by simp [hs], by simp [slT, he, hi, hs]⟩
        · cases h
      · cases h
    · cases h
  · cases h
/-- So many cells, empty. -/
def zCells (zs : List Value) (n : Nat) : List Value := (List.range (n * zs.length)).map fun i => zs.getD (i % zs.length) undef

end

end Go.Av
