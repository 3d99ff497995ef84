/- Despawn: the program's and the reference's answers alike. -/
import Derived.Test.YtohjaenckkppaaaBFW
import Derived.Test.YtohjaenckkppaaaBFB
import Derived.Test.YtohjaenckkppaaaBPL
set_option linter.unusedSimpArgs false
set_option linter.unusedVariables false
set_option maxRecDepth 100000
namespace Go.Av
/-! Despawn: the program's and the reference's answers alike. -/
theorem gParts_low {t : Int} : ∀ {l : List GPart} {p : ByteArray}, gParts t (some p) l = true → ∀ y ∈ l, blt p y.Name = true
  | [], p, _, y, hy => by simp at hy
  | x :: l, p, h, y, hy => by
    simp only [gParts, Bool.and_eq_true, gpPrev] at h
    rcases List.mem_cons.1 hy with rfl | hy
    · exact h.1.1.2
    · exact blt_trans h.1.1.2 (gParts_low h.2 y hy)
theorem gParts_rise {t : Int} : ∀ {l : List GPart} {p : Option ByteArray}, gParts t p l = true → Rise GPart.Name l
  | [], p, _ => trivial
  | x :: l, p, h => by
    simp only [gParts, Bool.and_eq_true] at h
    exact ⟨gParts_low h.2, gParts_rise h.2⟩
theorem gEnts_mem {n t : Int} : ∀ {l : List GEntity} {p : Option Int}, gEnts n t p l = true → ∀ e ∈ l, Rise GPart.Name e.Parts ∧ e.Parts.length ≤ 12
  | [], p, _, y, hy => by simp at hy
  | x :: l, p, h, y, hy => by
    simp only [gEnts, Bool.and_eq_true, decide_eq_true_eq] at h
    rcases List.mem_cons.1 hy with rfl | hy
    · exact ⟨gParts_rise h.1.2.1, by have := h.1.2.2; omega⟩
    · exact gEnts_mem h.2 y hy
/-- Where the entity of a number lies. -/
def entAt (l : List GEntity) (id : Int) : Option Nat := l.findIdx? fun e => e.Id == id
theorem at_l0 (id : Int) : ∀ (l : List GEntity) (i : Nat), p_spec_l3At_l0 id l i = some (match entAt l id with | some k => .ret ((k + i : Nat) : Int) | none => .out ())
  | [], i => rfl
  | x :: l, i => by
    unfold p_spec_l3At_l0
    by_cases c : x.Id = id
    · rw [if_pos c]; simp [entAt, List.findIdx?_cons, c]
    · rw [if_neg c, at_l0 id l (i + 1)]
      have : entAt (x :: l) id = (entAt l id).map (· + 1) := by simp [entAt, List.findIdx?_cons, c]
      rw [this]
      cases entAt l id with
      | none => rfl
      | some k => simp only [Option.map_some]; rw [show k + (i + 1) = k + 1 + i by omega]
theorem place_l0 (id : Int) (f : GEntity → Option Bool) (hf : ∀ e, f e = some (e.Id == id)) : ∀ (l : List GEntity) (i : Nat), p_slices_IndexFunc_impl_Entity_impl_Entity_l0 f l i = some (match entAt l id with | some k => .ret ((k + i : Nat) : Int) | none => .out ())
  | [], i => rfl
  | x :: l, i => by
    unfold p_slices_IndexFunc_impl_Entity_impl_Entity_l0
    rw [hf, Option.bind_some]
    by_cases c : x.Id = id
    · rw [if_pos (by simp [c])]; simp [entAt, List.findIdx?_cons, c]
    · rw [if_neg (by simp [c]), place_l0 id f hf l (i + 1)]
      have : entAt (x :: l) id = (entAt l id).map (· + 1) := by simp [entAt, List.findIdx?_cons, c]
      rw [this]
      cases entAt l id with
      | none => rfl
      | some k => simp only [Option.map_some]; rw [show k + (i + 1) = k + 1 + i by omega]
theorem despawn_eq (w : GWorld) (hw : wOk w) (id : Int) : ∃ r c, p_impl_Despawn w id = some (r, c) ∧ p_spec_Despawn w id = some (r, c) ∧
    (r.Entities = w.Entities ∨ r.Entities = [] ∨ ∃ k, k < w.Entities.length ∧ r.Entities = w.Entities.take k ++ w.Entities.drop (k + 1)) := by
  obtain ⟨b, e1, e2, e3⟩ := goodWorld_eq w hw
  obtain ⟨o1, o2⟩ := own_eq w hw
  have hpl : p_impl_World_place w id = some (match entAt w.Entities id with | some k => ((k : Nat) : Int) | none => -1) := by
    unfold p_impl_World_place p_slices_IndexFunc_impl_Entity_impl_Entity
    rw [place_l0 id (fun x0_ => p_impl_World_place_1 x0_ id) (fun e => rfl)]
    cases entAt w.Entities id <;> rfl
  have hat : p_spec_l3At ⟨w.Next, w.Tick, w.Entities⟩ id = some (match entAt w.Entities id with | some k => ((k : Nat) : Int) | none => -1) := by
    unfold p_spec_l3At
    rw [at_l0]
    cases entAt w.Entities id <;> rfl
  unfold p_impl_Despawn p_spec_Despawn
  rw [e1, e2, Option.bind_some, Option.bind_some]
  by_cases hb : b = true
  · rw [if_pos hb, if_pos hb, o1, o2, Option.bind_some, Option.bind_some, hpl, hat, Option.bind_some, Option.bind_some]
    cases hk : entAt w.Entities id with
    | none =>
      simp only []
      rw [if_pos (by decide), if_pos (by decide)]
      exact ⟨_, _, rfl, rfl, .inl rfl⟩
    | some k =>
      simp only []
      obtain ⟨hkl, _⟩ := List.findIdx?_eq_some_iff_getElem.1 hk
      have hl := hw.1
      have wm : IntKind.i64.wrap ((k : Int) + 1) = ((k + 1 : Nat) : Int) := by rw [wI _ (by omega) (by omega)]; omega
      have hd : delL w.Entities (k : Int) ((k + 1 : Nat) : Int) = some (w.Entities.take k ++ w.Entities.drop (k + 1)) := by unfold delL; rw [if_pos (by omega)]; simp
      have s1 : slc w.Entities 0 (k : Int) = some (w.Entities.take k) := by unfold slc; rw [if_pos (by omega)]; simp
      have s2 : slc w.Entities ((k + 1 : Nat) : Int) (w.Entities.length : Int) = some (w.Entities.drop (k + 1)) := by
        unfold slc; rw [if_pos (by omega)]
        simp only [Int.toNat_natCast]
        rw [List.take_of_length_le (by simp)]
      rw [if_neg (by omega), if_neg (by omega)]
      simp only [wm, hd, s1, s2, Option.bind_some, Int.toNat_natCast]
      rw [if_pos (by omega), if_pos (by omega)]
      exact ⟨_, _, rfl, rfl, .inr (.inr ⟨k, hkl, rfl⟩)⟩
  · rw [if_neg hb, if_neg hb]
    exact ⟨_, _, rfl, rfl, .inr (.inl rfl)⟩
end Go.Av
