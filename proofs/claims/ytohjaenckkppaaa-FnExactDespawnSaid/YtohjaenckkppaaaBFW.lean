/- NextTick: the program's and the reference's answers alike. -/
import Derived.Test.YtohjaenckkppaaaBFB
import Derived.Test.YtohjaenckkppaaaBPL
set_option linter.unusedSimpArgs false
set_option linter.unusedVariables false
set_option maxRecDepth 100000
namespace Go.Av
/-! NextTick: the program's and the reference's answers alike. -/
def gpPrev (prev : Option ByteArray) (x : ByteArray) : Bool := match prev with
  | none => true
  | some p => Op.bytesLess p.toList x.toList
def gParts (tick : Int) : Option ByteArray → List GPart → Bool
  | _, [] => true
  | prev, x :: r => goodName x.Name && gpPrev prev x.Name && rng x.Tick 0 tick && gParts tick (some x.Name) r
def prevN (l : List GPart) (i : Nat) : Option ByteArray := if i = 0 then none else (l[i - 1]?).map GPart.Name
theorem idxP {α : Type} {l : List α} {i : Nat} (h0 : 0 < i) (h : i < l.length) : ∃ x, idx l (IntKind.i64.wrap ((i : Int) - 1)) = some x ∧ l[i - 1]? = some x ∨ ¬ i ≤ 9223372036854775807 := by
  by_cases hi : i ≤ 9223372036854775807
  · refine ⟨l[i - 1]'(by omega), .inl ⟨?_, List.getElem?_eq_getElem _⟩⟩
    rw [wI _ (by omega) (by omega), show (i : Int) - 1 = ((i - 1 : Nat) : Int) by omega]
    exact idx_of (by omega)
  · exact ⟨l[i - 1]'(by omega), .inr hi⟩
theorem spec_l1 (w : GWorld) (e : GEntity) (hl : e.Parts.length ≤ 1048576) (hn : ∀ p ∈ e.Parts, p.Name.size ≤ 9223372036854775807) : ∀ (r : List GPart) (i : Nat), e.Parts.drop i = r → p_spec_GoodWorld_l1 w e r i = some (if gParts w.Tick (prevN e.Parts i) r = true then .out () else .ret false)
  | [], i, h => by simp [p_spec_GoodWorld_l1, gParts]
  | x :: r, i, h => by
    obtain ⟨h1, h2, h3⟩ := drop_cons h
    have hx : x ∈ e.Parts := List.mem_of_getElem? h2
    have ih := spec_l1 w e hl hn r (i + 1) h3
    have hp : prevN e.Parts (i + 1) = some x.Name := by unfold prevN; rw [if_neg (by omega), show i + 1 - 1 = i by omega, h2]; rfl
    rw [hp] at ih
    rw [p_spec_GoodWorld_l1, if_pos (hn x hx)]
    by_cases c1 : goodName x.Name = true
    · rw [if_pos c1]
      by_cases c2 : rng x.Tick 0 w.Tick = true
      · rw [if_pos c2]
        by_cases c3 : (i : Int) > 0
        · rw [if_pos c3]
          obtain ⟨y, hy⟩ := idxP (l := e.Parts) (i := i) (by omega) h1
          rcases hy with ⟨k1, k2⟩ | hy
          · rw [k1, Option.bind_some]
            have hq : prevN e.Parts i = some y.Name := by unfold prevN; rw [if_neg (by omega), k2]; rfl
            by_cases c4 : Op.bytesLess y.Name.toList x.Name.toList = true
            · rw [if_pos c4, ih]; simp [gParts, hq, gpPrev, c1, c2, c4]
            · rw [if_neg c4]; simp [gParts, hq, gpPrev, c4]
          · omega
        · rw [if_neg c3, ih]
          have hq : prevN e.Parts i = none := by unfold prevN; rw [if_pos (by omega)]
          simp [gParts, hq, gpPrev, c1, c2]
      · rw [if_neg c2]; simp [gParts, c2]
    · rw [if_neg c1]; simp [gParts, c1]
theorem impl_l0 (l : List GPart) (t : Int) (hl : l.length ≤ 1048576) (hn : ∀ p ∈ l, p.Name.size ≤ 9223372036854775807) : ∀ (r : List GPart) (i : Nat), l.drop i = r → p_impl_areParts_l0 l t r i = some (if gParts t (prevN l i) r = true then .out () else .ret false)
  | [], i, h => by simp [p_impl_areParts_l0, gParts]
  | x :: r, i, h => by
    obtain ⟨h1, h2, h3⟩ := drop_cons h
    have hx : x ∈ l := List.mem_of_getElem? h2
    have ih := impl_l0 l t hl hn r (i + 1) h3
    have hp : prevN l (i + 1) = some x.Name := by unfold prevN; rw [if_neg (by omega), show i + 1 - 1 = i by omega, h2]; rfl
    rw [hp] at ih
    rw [p_impl_areParts_l0, if_pos (hn x hx)]
    by_cases c1 : goodName x.Name = true
    · rw [if_pos c1]
      by_cases c3 : (i : Int) > 0
      · rw [if_pos c3]
        obtain ⟨y, hy⟩ := idxP (l := l) (i := i) (by omega) h1
        rcases hy with ⟨k1, k2⟩ | hy
        · rw [k1, Option.bind_some]
          have hq : prevN l i = some y.Name := by unfold prevN; rw [if_neg (by omega), k2]; rfl
          by_cases c4 : Op.bytesLess y.Name.toList x.Name.toList = true
          · rw [if_pos c4]
            by_cases c2 : rng x.Tick 0 t = true
            · rw [if_pos c2, ih]; simp [gParts, hq, gpPrev, c1, c2, c4]
            · rw [if_neg c2]; simp [gParts, c2]
          · rw [if_neg c4]; simp [gParts, hq, gpPrev, c4]
        · omega
      · rw [if_neg c3]
        have hq : prevN l i = none := by unfold prevN; rw [if_pos (by omega)]
        by_cases c2 : rng x.Tick 0 t = true
        · rw [if_pos c2, ih]; simp [gParts, hq, gpPrev, c1, c2]
        · rw [if_neg c2]; simp [gParts, c2]
    · rw [if_neg c1]; simp [gParts, c1]
theorem areParts_eq (l : List GPart) (t : Int) (hl : l.length ≤ 1048576) (hn : ∀ p ∈ l, p.Name.size ≤ 9223372036854775807) : p_impl_areParts l t = some (gParts t none l && decide ((l.length : Int) ≤ 12)) := by
  unfold p_impl_areParts
  rw [impl_l0 l t hl hn l 0 rfl, Option.bind_some]
  have : prevN l 0 = none := rfl
  rw [this]
  by_cases c : gParts t none l = true
  · rw [if_pos c, c]; simp
  · rw [if_neg c]; simp [c]
def geP (prev : Option Int) (x : Int) : Bool := match prev with
  | none => true
  | some p => decide (p < x)
def gEnts (next tick : Int) : Option Int → List GEntity → Bool
  | _, [] => true
  | prev, x :: r => rng x.Id 1 (IntKind.i64.wrap (next - 1)) && geP prev x.Id && (gParts tick none x.Parts && decide ((x.Parts.length : Int) ≤ 12)) && gEnts next tick (some x.Id) r
def prevE (l : List GEntity) (i : Nat) : Option Int := if i = 0 then none else (l[i - 1]?).map GEntity.Id
/-- What the texts and rows are bounded by. -/
def wOk (w : GWorld) : Prop := w.Entities.length ≤ 1048576 ∧ ∀ e ∈ w.Entities, e.Parts.length ≤ 1048576 ∧ ∀ p ∈ e.Parts, p.Name.size ≤ 9223372036854775807
theorem spec_j1 {w : GWorld} {x : GEntity} (hx : x.Parts.length ≤ 1048576 ∧ ∀ p ∈ x.Parts, p.Name.size ≤ 9223372036854775807) (i : Nat) (rec_ : Nat → Option (LR Bool Unit)) : p_spec_GoodWorld_j1 w x i rec_ (decide ((x.Parts.length : Int) > 12)) = if (gParts w.Tick none x.Parts && decide ((x.Parts.length : Int) ≤ 12)) = true then rec_ (i + 1) else some (.ret false) := by
  unfold p_spec_GoodWorld_j1
  by_cases c : (x.Parts.length : Int) > 12
  · rw [if_pos (by simp only [c, decide_true]), if_neg (by simp; intro _; omega)]
  · rw [if_neg (by simp [c]), if_pos (show x.Parts.length ≤ 9223372036854775807 by have := hx.1; omega), spec_l1 w x hx.1 hx.2 x.Parts 0 rfl, Option.bind_some]
    have : prevN x.Parts 0 = none := rfl
    rw [this]
    have c' : (x.Parts.length : Int) ≤ 12 := by omega
    by_cases d : gParts w.Tick none x.Parts = true
    · rw [if_pos d, if_pos (by simp [d, c'])]
    · rw [if_neg d, if_neg (by simp [d])]
theorem spec_l0 (w : GWorld) (hw : wOk w) : ∀ (r : List GEntity) (i : Nat), w.Entities.drop i = r → p_spec_GoodWorld_l0 w r i = some (if gEnts w.Next w.Tick (prevE w.Entities i) r = true then .out () else .ret false)
  | [], i, h => by simp [p_spec_GoodWorld_l0, gEnts]
  | x :: r, i, h => by
    obtain ⟨h1, h2, h3⟩ := drop_cons h
    have hx : x ∈ w.Entities := List.mem_of_getElem? h2
    have ih := spec_l0 w hw r (i + 1) h3
    have hp : prevE w.Entities (i + 1) = some x.Id := by unfold prevE; rw [if_neg (by omega), show i + 1 - 1 = i by omega, h2]; rfl
    rw [hp] at ih
    have hj := spec_j1 (w := w) (hw.2 x hx) i (p_spec_GoodWorld_l0 w r)
    have jt : p_spec_GoodWorld_j1 w x i (p_spec_GoodWorld_l0 w r) true = some (.ret false) := rfl
    rw [p_spec_GoodWorld_l0]
    by_cases c1 : rng x.Id 1 (IntKind.i64.wrap (w.Next - 1)) = true
    · rw [if_pos c1]
      by_cases c3 : (i : Int) > 0
      · rw [if_pos c3]
        obtain ⟨y, hy⟩ := idxP (l := w.Entities) (i := i) (by omega) h1
        rcases hy with ⟨k1, k2⟩ | hy
        · rw [k1, Option.bind_some]
          have hq : prevE w.Entities i = some y.Id := by unfold prevE; rw [if_neg (by omega), k2]; rfl
          by_cases c4 : y.Id ≥ x.Id
          · rw [if_pos c4, jt]; simp [gEnts, hq, geP, show ¬ y.Id < x.Id by omega]
          · rw [if_neg c4, hj, ih]
            by_cases c5 : (gParts w.Tick none x.Parts && decide ((x.Parts.length : Int) ≤ 12)) = true
            · rw [if_pos c5]; simp only [gEnts, hq, geP, c1, c5, show y.Id < x.Id by omega, decide_true, Bool.true_and]
            · rw [if_neg c5]; simp only [gEnts, Bool.not_eq_true] at c5 ⊢; simp [c5]
        · have := hw.1; omega
      · rw [if_neg c3, hj, ih]
        have hq : prevE w.Entities i = none := by unfold prevE; rw [if_pos (by omega)]
        by_cases c5 : (gParts w.Tick none x.Parts && decide ((x.Parts.length : Int) ≤ 12)) = true
        · rw [if_pos c5]; simp only [gEnts, hq, geP, c1, c5, Bool.true_and]
        · rw [if_neg c5]; simp only [gEnts, Bool.not_eq_true] at c5 ⊢; simp [c5]
    · rw [if_neg c1, jt]; simp [gEnts, c1]
theorem impl_E (w : GWorld) (hw : wOk w) : ∀ (r : List GEntity) (i : Nat), w.Entities.drop i = r → p_impl_GoodWorld_l0 w r i = some (if gEnts w.Next w.Tick (prevE w.Entities i) r = true then .out () else .ret false)
  | [], i, h => by simp [p_impl_GoodWorld_l0, gEnts]
  | x :: r, i, h => by
    obtain ⟨h1, h2, h3⟩ := drop_cons h
    have hx : x ∈ w.Entities := List.mem_of_getElem? h2
    have ih := impl_E w hw r (i + 1) h3
    have hp : prevE w.Entities (i + 1) = some x.Id := by unfold prevE; rw [if_neg (by omega), show i + 1 - 1 = i by omega, h2]; rfl
    rw [hp] at ih
    have ha := areParts_eq x.Parts w.Tick (hw.2 x hx).1 (hw.2 x hx).2
    rw [p_impl_GoodWorld_l0]
    by_cases c1 : rng x.Id 1 (IntKind.i64.wrap (w.Next - 1)) = true
    · rw [if_pos c1]
      by_cases c3 : (i : Int) > 0
      · rw [if_pos c3]
        obtain ⟨y, hy⟩ := idxP (l := w.Entities) (i := i) (by omega) h1
        rcases hy with ⟨k1, k2⟩ | hy
        · rw [k1, Option.bind_some]
          have hq : prevE w.Entities i = some y.Id := by unfold prevE; rw [if_neg (by omega), k2]; rfl
          by_cases c4 : y.Id ≥ x.Id
          · rw [if_pos c4]; simp [gEnts, hq, geP, show ¬ y.Id < x.Id by omega]
          · rw [if_neg c4, ha, Option.bind_some, ih]
            by_cases c5 : (gParts w.Tick none x.Parts && decide ((x.Parts.length : Int) ≤ 12)) = true
            · rw [if_pos c5]; simp only [gEnts, hq, geP, c1, c5, show y.Id < x.Id by omega, decide_true, Bool.true_and]
            · rw [if_neg c5]; simp only [gEnts, Bool.not_eq_true] at c5 ⊢; simp [c5]
        · have := hw.1; omega
      · rw [if_neg c3, ha, Option.bind_some, ih]
        have hq : prevE w.Entities i = none := by unfold prevE; rw [if_pos (by omega)]
        by_cases c5 : (gParts w.Tick none x.Parts && decide ((x.Parts.length : Int) ≤ 12)) = true
        · rw [if_pos c5]; simp only [gEnts, hq, geP, c1, c5, Bool.true_and]
        · rw [if_neg c5]; simp only [gEnts, Bool.not_eq_true] at c5 ⊢; simp [c5]
    · rw [if_neg c1]; simp [gEnts, c1]
theorem goodWorld_eq (w : GWorld) (hw : wOk w) : ∃ b, p_spec_GoodWorld w = some b ∧ p_impl_GoodWorld w = some b ∧ (b = true → 1 ≤ w.Next ∧ w.Next ≤ 1000000 ∧ 0 ≤ w.Tick ∧ w.Tick ≤ 1000000 ∧ w.Entities.length ≤ 60 ∧ gEnts w.Next w.Tick none w.Entities = true) := by
  unfold p_spec_GoodWorld p_impl_GoodWorld p_spec_GoodWorld_j0
  rw [impl_E w hw w.Entities 0 rfl, spec_l0 w hw w.Entities 0 rfl, Option.bind_some]
  have : prevE w.Entities 0 = none := rfl
  rw [this]
  have rt : ∀ {n a b : Int}, rng n a b = true → a ≤ n ∧ n ≤ b := fun {n a b} h => by simpa [rng] using h
  by_cases c1 : rng w.Next 1 1000000 = true
  · rw [if_pos c1, if_pos c1]
    by_cases c2 : rng w.Tick 0 1000000 = true
    · rw [if_pos c2, if_pos c2]
      have k1 := rt c1
      have k2 := rt c2
      by_cases c3 : (w.Entities.length : Int) > 60
      · rw [if_pos (by simp only [c3, decide_true])]
        by_cases c4 : gEnts w.Next w.Tick none w.Entities = true
        · rw [if_pos c4]; exact ⟨false, rfl, by simp; omega, by simp⟩
        · rw [if_neg c4]; exact ⟨false, rfl, rfl, by simp⟩
      · rw [if_neg (by simp [c3]), Option.bind_some]
        by_cases c4 : gEnts w.Next w.Tick none w.Entities = true
        · rw [if_pos c4]; exact ⟨true, rfl, by simp; omega, fun _ => ⟨k1.1, k1.2, k2.1, k2.2, by omega, c4⟩⟩
        · rw [if_neg c4]; exact ⟨false, rfl, rfl, by simp⟩
    · rw [if_neg c2, if_neg c2, if_pos rfl]
      by_cases c4 : gEnts w.Next w.Tick none w.Entities = true
      · rw [if_pos c4]; exact ⟨false, rfl, rfl, by simp⟩
      · rw [if_neg c4]; exact ⟨false, rfl, rfl, by simp⟩
  · rw [if_neg c1, if_neg c1, if_pos rfl]
    by_cases c4 : gEnts w.Next w.Tick none w.Entities = true
    · rw [if_pos c4]; exact ⟨false, rfl, rfl, by simp⟩
    · rw [if_neg c4]; exact ⟨false, rfl, rfl, by simp⟩
theorem own_l0 : ∀ (r : List GEntity) (i : Nat) (a : List GEntity), a.length + r.length < 4294967296 → (∀ e ∈ r, e.Parts.length ≤ 1048576) → p_spec_l3Own_l0 r i a = some (a ++ r) ∧ p_impl_World_clone_l0 r i a = some (a ++ r)
  | [], i, a, _, _ => by simp [p_spec_l3Own_l0, p_impl_World_clone_l0]
  | x :: r, i, a, h, hp => by
    simp only [List.length_cons] at h
    have hx := hp x (by simp)
    have ih := own_l0 r (i + 1) (a ++ [x]) (by simp; omega) (fun e he => hp e (by simp [he]))
    rw [p_spec_l3Own_l0, p_impl_World_clone_l0, if_pos (by omega), if_pos (by omega)]
    unfold p_slices_Clone_impl_Part_impl_Part
    rw [if_pos (by omega), Option.bind_some, if_pos (by omega)]
    have e : (⟨x.Id, x.Parts⟩ : GEntity) = x := rfl
    rw [e, ih.1, ih.2]; simp
theorem own_eq (w : GWorld) (hw : wOk w) : p_spec_l3Own w = some w ∧ p_impl_World_clone w = some w := by
  have h := own_l0 w.Entities 0 [] (by have := hw.1; simp; omega) (fun e he => (hw.2 e he).1)
  unfold p_spec_l3Own p_impl_World_clone
  rw [h.1, h.2]
  exact ⟨rfl, rfl⟩
def w0 : GWorld := ⟨0, 0, []⟩
end Go.Av
