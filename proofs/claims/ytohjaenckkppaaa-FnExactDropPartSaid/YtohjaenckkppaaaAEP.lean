/- DropPart: the program's and the reference's answers alike. -/
import Derived.Test.YtohjaenckkppaaaAEW
import Derived.Test.YtohjaenckkppaaaAEB
import Derived.Test.YtohjaenckkppaaaAPL
set_option linter.unusedSimpArgs false
set_option linter.unusedVariables false
set_option maxRecDepth 100000
namespace Go.Av
/-! DropPart: the program's and the reference's answers alike. -/
theorem gParts_low {t : Int} : ∀ {l : List GPart} {p : ByteArray}, gParts t (some p) l = true → ∀ y ∈ l, blt p y.Name = true
  | [], p, _, y, hy => by simp at hy
  | x :: l, p, h, y, hy => by
    simp only [gParts, Bool.and_eq_true, gpPrev] at h
    rcases List.mem_cons.1 hy with rfl | hy
    · exact h.1.1.2
    · exact blt_trans h.1.1.2 (gParts_low h.2 y hy)
theorem gParts_rise {t : Int} : ∀ {l : List GPart} {p : Option ByteArray}, gParts t p l = true → Rise GPart.Name l
  | [], p, _ => trivial
  | x :: l, p, h => by
    simp only [gParts, Bool.and_eq_true] at h
    exact ⟨gParts_low h.2, gParts_rise h.2⟩
theorem gEnts_mem {n t : Int} : ∀ {l : List GEntity} {p : Option Int}, gEnts n t p l = true → ∀ e ∈ l, Rise GPart.Name e.Parts ∧ e.Parts.length ≤ 12
  | [], p, _, y, hy => by simp at hy
  | x :: l, p, h, y, hy => by
    simp only [gEnts, Bool.and_eq_true, decide_eq_true_eq] at h
    rcases List.mem_cons.1 hy with rfl | hy
    · exact ⟨gParts_rise h.1.2.1, by have := h.1.2.2; omega⟩
    · exact gEnts_mem h.2 y hy
/-- Where the entity of a number lies. -/
def entAt (l : List GEntity) (id : Int) : Option Nat := l.findIdx? fun e => e.Id == id
theorem at_l0 (id : Int) : ∀ (l : List GEntity) (i : Nat), p_spec_l3At_l0 id l i = some (match entAt l id with | some k => .ret ((k + i : Nat) : Int) | none => .out ())
  | [], i => rfl
  | x :: l, i => by
    unfold p_spec_l3At_l0
    by_cases c : x.Id = id
    · rw [if_pos c]; simp [entAt, List.findIdx?_cons, c]
    · rw [if_neg c, at_l0 id l (i + 1)]
      have : entAt (x :: l) id = (entAt l id).map (· + 1) := by simp [entAt, List.findIdx?_cons, c]
      rw [this]
      cases entAt l id with
      | none => rfl
      | some k => simp only [Option.map_some]; rw [show k + (i + 1) = k + 1 + i by omega]
theorem place_l0 (id : Int) (f : GEntity → Option Bool) (hf : ∀ e, f e = some (e.Id == id)) : ∀ (l : List GEntity) (i : Nat), p_slices_IndexFunc_impl_Entity_impl_Entity_l0 f l i = some (match entAt l id with | some k => .ret ((k + i : Nat) : Int) | none => .out ())
  | [], i => rfl
  | x :: l, i => by
    unfold p_slices_IndexFunc_impl_Entity_impl_Entity_l0
    rw [hf, Option.bind_some]
    by_cases c : x.Id = id
    · rw [if_pos (by simp [c])]; simp [entAt, List.findIdx?_cons, c]
    · rw [if_neg (by simp [c]), place_l0 id f hf l (i + 1)]
      have : entAt (x :: l) id = (entAt l id).map (· + 1) := by simp [entAt, List.findIdx?_cons, c]
      rw [this]
      cases entAt l id with
      | none => rfl
      | some k => simp only [Option.map_some]; rw [show k + (i + 1) = k + 1 + i by omega]
theorem part_l0 (t : ByteArray) : ∀ (l : List GPart) (i : Nat), p_spec_l3Part_l0 t l i = some (match l.findIdx? (fun p => decide (p.Name = t)) with | some k => .ret ((k + i : Nat) : Int) | none => .out ())
  | [], i => rfl
  | x :: l, i => by
    unfold p_spec_l3Part_l0
    by_cases c : x.Name = t
    · rw [if_pos c]; simp [List.findIdx?_cons, c]
    · rw [if_neg c, part_l0 t l (i + 1)]
      have hc : decide (x.Name = t) = false := decide_eq_false c
      rw [List.findIdx?_cons, hc]
      cases l.findIdx? (fun p => decide (p.Name = t)) with
      | none => simp
      | some k => simp only [Bool.false_eq_true, if_false, Option.map_some]; rw [show k + (i + 1) = k + 1 + i by omega]
theorem bs_gen (x : List GPart) (t : ByteArray) (f : GPart → ByteArray → Option Int) : ∀ (n : Nat) (i j : Int), p_slices_BinarySearchFunc_impl_Part_impl_Part_string_l0 x t f n i j = bsG x t f n i j
  | 0, i, j => rfl
  | n + 1, i, j => by
    unfold p_slices_BinarySearchFunc_impl_Part_impl_Part_string_l0 bsG
    simp only [bs_gen x t f n]
    rfl
theorem idx_spot {l : List GPart} {t : ByteArray} (hr : Rise GPart.Name l) : l.findIdx? (fun p => decide (p.Name = t)) = if ((l[spot GPart.Name l t]?).elim false fun a => decide (a.Name = t)) = true then some (spot GPart.Name l t) else none := by
  cases h : l.findIdx? (fun p => decide (p.Name = t)) with
  | some k =>
    obtain ⟨hk, h1, _⟩ := List.findIdx?_eq_some_iff_getElem.1 h
    have h1 : l[k].Name = t := by simpa using h1
    have hs := spot_at hr (List.getElem?_eq_getElem hk)
    rw [h1] at hs
    rw [hs, List.getElem?_eq_getElem hk, if_pos (by simp [h1])]
  | none =>
    rw [List.findIdx?_eq_none_iff] at h
    rw [if_neg]
    intro hc
    cases hg : l[spot GPart.Name l t]? with
    | none => rw [hg] at hc; simp at hc
    | some a =>
      rw [hg] at hc
      have := h a (List.mem_of_getElem? hg)
      simp at hc this
      exact this hc
theorem place_eq (e : GEntity) (t : ByteArray) (hr : Rise GPart.Name e.Parts) (hl : e.Parts.length ≤ 12) : p_impl_Entity_place 13 e t = some (((spot GPart.Name e.Parts t : Nat) : Int), ((e.Parts[spot GPart.Name e.Parts t]?).elim false fun a => decide (a.Name = t))) := by
  have h : p_slices_BinarySearchFunc_impl_Part_impl_Part_string 13 e.Parts t (fun x0_ x1_ => p_impl_Entity_place_1 x0_ x1_) = bsW 13 e.Parts t (fun x0_ x1_ => p_impl_Entity_place_1 x0_ x1_) := by
    unfold p_slices_BinarySearchFunc_impl_Part_impl_Part_string bsW
    rw [bs_gen]
  unfold p_impl_Entity_place
  rw [h, bsW_spec (key := GPart.Name) (by omega) (fun a => rfl) hr (by omega), Option.bind_some]
theorem dropPart_eq (w : GWorld) (hw : wOk w) (id : Int) (t : ByteArray) (ht : t.size ≤ 9223372036854775807) : ∃ r c, p_impl_DropPart 13 w id t = some (r, c) ∧ p_spec_DropPart w id t = some (r, c) ∧
    (r.Entities = w.Entities ∨ r.Entities = [] ∨ ∃ k e p, w.Entities[k]? = some e ∧ r.Entities = w.Entities.set k ⟨e.Id, e.Parts.take p ++ e.Parts.drop (p + 1)⟩) := by
  obtain ⟨b, e1, e2, e3⟩ := goodWorld_eq w hw
  obtain ⟨o1, o2⟩ := own_eq w hw
  have hpl : p_impl_World_place w id = some (match entAt w.Entities id with | some k => ((k : Nat) : Int) | none => -1) := by
    unfold p_impl_World_place p_slices_IndexFunc_impl_Entity_impl_Entity
    rw [place_l0 id (fun x0_ => p_impl_World_place_1 x0_ id) (fun e => rfl)]
    cases entAt w.Entities id <;> rfl
  have hat : p_spec_l3At ⟨w.Next, w.Tick, w.Entities⟩ id = some (match entAt w.Entities id with | some k => ((k : Nat) : Int) | none => -1) := by
    unfold p_spec_l3At
    rw [at_l0]
    cases entAt w.Entities id <;> rfl
  unfold p_impl_DropPart p_spec_DropPart p_impl_find
  rw [e1, e2, Option.bind_some, Option.bind_some]
  by_cases hb : b = true
  · obtain ⟨_, _, _, _, hn, hg⟩ := e3 hb
    rw [if_pos hb, if_pos hb, o1, hpl, Option.bind_some, Option.bind_some, if_pos ht, if_pos ht]
    by_cases hgn : goodName t = true
    · rw [if_pos hgn, if_pos hgn, hat, Option.bind_some, o2]
      cases hk : entAt w.Entities id with
      | none =>
        simp only []
        rw [if_pos (by decide), if_pos (by decide)]
        exact ⟨_, _, rfl, rfl, .inl rfl⟩
      | some k =>
        simp only []
        obtain ⟨hkl, _⟩ := List.findIdx?_eq_some_iff_getElem.1 hk
        have hke : w.Entities[k]? = some w.Entities[k] := List.getElem?_eq_getElem hkl
        have hix : idx w.Entities (k : Int) = some w.Entities[k] := by simp [idx, hke]
        obtain ⟨hr, hl⟩ := gEnts_mem hg w.Entities[k] (List.getElem_mem hkl)
        rw [if_neg (by omega), if_neg (by omega)]
        simp only [Option.bind_some, if_true]
        rw [hix, Option.bind_some, Option.bind_some]
        generalize w.Entities[k] = e at *
        rw [place_eq ⟨e.Id, e.Parts⟩ t hr hl]
        unfold p_spec_l3Part
        rw [part_l0, idx_spot hr]
        generalize hm : spot GPart.Name e.Parts t = m
        by_cases hf : ((e.Parts[m]?).elim false fun a => decide (a.Name = t)) = true
        · have hml : m < e.Parts.length := by
            cases hg : e.Parts[m]? with
            | none => rw [hg] at hf; simp at hf
            | some a => exact (List.getElem?_eq_some_iff.1 hg).1
          have hl' : e.Parts.length ≤ 12 := hl
          have wm : IntKind.i64.wrap ((m : Int) + 1) = ((m + 1 : Nat) : Int) := by rw [wI _ (by omega) (by omega)]; omega
          have hd : delL e.Parts (m : Int) ((m + 1 : Nat) : Int) = some (e.Parts.take m ++ e.Parts.drop (m + 1)) := by unfold delL; rw [if_pos (by omega)]; simp
          have s1 : slc e.Parts 0 (m : Int) = some (e.Parts.take m) := by unfold slc; rw [if_pos (by omega)]; simp
          have s2 : slc e.Parts ((m + 1 : Nat) : Int) (e.Parts.length : Int) = some (e.Parts.drop (m + 1)) := by
            unfold slc; rw [if_pos (by omega)]
            simp only [Int.toNat_natCast]
            rw [List.take_of_length_le (by simp)]
          simp only [hm, hf, if_true, Option.bind_some, Nat.add_zero, wm, hd, s1, s2, Int.toNat_natCast]
          rw [if_neg (by omega), if_pos (by omega)]
          exact ⟨_, _, rfl, rfl, .inr (.inr ⟨k, e, m, hke, rfl⟩)⟩
        · simp only [hm, hf, if_false, Option.bind_some]
          exact ⟨_, _, rfl, rfl, .inl rfl⟩
    · rw [if_neg hgn, if_neg hgn, o2]
      exact ⟨_, _, rfl, rfl, .inl rfl⟩
  · rw [if_neg hb, if_neg hb]
    exact ⟨_, _, rfl, rfl, .inr (.inl rfl)⟩
end Go.Av
