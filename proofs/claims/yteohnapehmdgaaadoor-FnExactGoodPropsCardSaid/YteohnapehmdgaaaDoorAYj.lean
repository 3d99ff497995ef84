/- A call that makes one new row of strings: from a contract over the world to one over what values read as. -/
import Derived.Test.YteohnapehmdgaaaDoorAYi
set_option linter.unusedSimpArgs false
set_option linter.unusedVariables false
/-! A call that makes one new row of strings: from a contract over the world to one over what values read as. -/
namespace Go.Av
theorem does_strs {P : Program} {f : FuncId} {args : List AV} {l : List ByteArray} {ty : TypeId} (hl : l.length ≤ 9223372036854775807)
    (h : ∀ (w : World) (G : Nat → Prop) (vs : List Value), vs.length = args.length → (∀ (i : Nat) (a : AV) (v : Value), args[i]? = some a → vs[i]? = some v → VR w G none_ a v) →
      Calls P f vs.toArray w fun e w' => e = .returned (.slice (some ⟨w.heap.size, 0, none⟩) l.length l.length) ∧ w' = w.alloc (.cells (l.map Value.string).toArray ty)) :
    Does P f args (.row true 1 l.length (l.flatMap fun x => [S x])) := by
  intro w G vs hG hlen hrd
  refine (h w G vs hlen hrd).mono fun e w' ⟨he, hw⟩ => ?_
  subst hw
  have hb := alloc_new w (.cells (l.map Value.string).toArray ty)
  have hks : HT.blocks (.row w.heap.size 1 l.length l.length (l.map fun x => .leaf (S x) (.string x))) = [w.heap.size] := by
    have : ∀ k : List ByteArray, HT.blockss (k.map fun x => HT.leaf (S x) (.string x)) = [] := fun k => by
      induction k with
      | nil => rfl
      | cons x k ih => rw [List.map_cons, HT.blockss, ih]; rfl
    rw [HT.blocks, this]
  have hes : ∀ k : List ByteArray, HT.erases (k.map fun x => HT.leaf (S x) (.string x)) = k.flatMap fun x => [S x] := fun k => by
    induction k with
    | nil => rfl
    | cons x k ih => rw [List.map_cons, HT.erases, ih]; rfl
  refine ⟨.row w.heap.size 1 l.length l.length (l.map fun x => .leaf (S x) (.string x)), he, ?_, alloc_ext w _, ?_, ?_, G, fun _ h => h, fun _ h => .inl h, ?_, ?_⟩
  · rw [HT.erase, hes]
  · rw [hks]; simp
  · intro x hx
    rw [hks, List.mem_singleton] at hx
    subst hx
    exact ⟨Nat.le_refl _, by simp⟩
  · intro x hx
    rw [hks, List.mem_singleton] at hx
    subst hx
    exact fun hg => absurd (hG _ hg) (by omega)
  · refine .row _ 1 _ _ _ _ ty hb (by simp) (Nat.le_refl _) (by simp) (by decide) hl ?_ ?_
    · intro i T hi
      rw [List.getElem?_map] at hi
      obtain ⟨x, hx, rfl⟩ := Option.map_eq_some_iff.1 hi
      simp [hx, HT.value]
    · intro i T hi
      rw [List.getElem?_map] at hi
      obtain ⟨x, hx, rfl⟩ := Option.map_eq_some_iff.1 hi
      exact .leaf _ _ rfl (.lit _)
end Go.Av
