/- Counting and marking, for lists of records. -/
import Derived.Test.YteohnapehmdgaaaDoorAYb
set_option linter.unusedSimpArgs false
set_option linter.unusedVariables false
/-! Counting and marking, for lists of records. -/
namespace Go.Av
def cntL {α : Type} (c : α → Nat) : List α → Nat
  | [] => 0
  | x :: r => c x + cntL c r
def markL {α : Type} (f : α → Int → α) (c : α → Nat) : List α → Int → List α
  | [], _ => []
  | x :: r, k => f x k :: markL f c r (k + c x)
section
variable {α : Type} {f : α → Int → α} {c : α → Nat}
/-- The list while it is being marked. -/
def midL (f : α → Int → α) (c : α → Nat) (l : List α) (k : Int) (i : Nat) : List α := markL f c (l.take i) k ++ l.drop i
end
theorem barr_eq {x y : ByteArray} : x.toList = y.toList ↔ x = y := by
  constructor
  · intro h
    have key : ∀ (b : ByteArray), b.toList = b.data.toList := fun b => by
      have loop : ∀ (n i : Nat) (r : List UInt8), b.size - i = n → ByteArray.toList.loop b i r = r.reverse ++ b.data.toList.drop i := by
        intro n
        induction n with
        | zero =>
          intro i r h
          rw [ByteArray.toList.loop]
          have : ¬ i < b.size := by omega
          simp only [this, if_false]
          have hs : b.data.size = b.size := rfl
          rw [List.drop_of_length_le (by rw [Array.length_toList]; omega)]; simp
        | succ n ih =>
          intro i r h
          rw [ByteArray.toList.loop]
          have hlt : i < b.size := by omega
          simp only [hlt, if_true]
          rw [ih (i + 1) _ (by omega)]
          have hlt' : i < b.data.toList.length := by simpa using hlt
          rw [List.drop_eq_getElem_cons hlt']
          have : b.get! i = b.data.toList[i] := by
            show b.data.get!Internal i = _
            simp [Array.get!Internal, getElem!_pos, hlt]
          simp [this]
      have := loop b.size 0 [] (by omega)
      simpa [ByteArray.toList] using this
    rw [key, key] at h
    cases x; cases y
    simp only at h
    congr
    exact Array.toList_inj.1 h
  · intro h; rw [h]
theorem str_beq {x y : ByteArray} : (x.toList == y.toList) = decide (x = y) := by
  rw [Bool.eq_iff_iff]; simp [barr_eq]

/-! ### What is left of a size -/
def szStep (v : Int) (f : Int → Int) : Int := if v < 0 then -1 else f v
theorem szStep_neg {v : Int} {f : Int → Int} (h : v < 0) : szStep v f = -1 := by simp [szStep, h]
theorem szStep_pos {v : Int} {f : Int → Int} (h : ¬ v < 0) : szStep v f = f v := by simp [szStep, h]
theorem szStep_of {v : Int} {f : Int → Int} (h : 0 ≤ szStep v f) : 0 ≤ v ∧ szStep v f = f v := by
  unfold szStep at h ⊢
  split at h
  · omega
  · exact ⟨by omega, by simp [*]⟩
def szL {α : Type} (f : α → Int → Int) : List α → Int → Int
  | [], a => a
  | x :: r, a => szStep (f x a) (szL f r)
def szRow {α : Type} (f : α → Int → Int) (l : List α) (a : Int) : Int := szStep (a - l.length) (szL f l)
/-- It never grows, and is never below -1. -/
def szOk {α : Type} (f : α → Int → Int) : Prop := ∀ x a, 0 ≤ a → f x a ≤ a
theorem szStep_le {v a : Int} {f : Int → Int} (h0 : 0 ≤ a) (hv : v ≤ a) (hf : ∀ b, 0 ≤ b → f b ≤ b) : szStep v f ≤ a := by
  unfold szStep
  split
  · omega
  · have := hf v (by omega); omega
theorem szRow_len {α : Type} {f : α → Int → Int} (hf : szOk f) {l : List α} {a : Int} (h0 : 0 ≤ a) (h : 0 ≤ szRow f l a) : (l.length : Int) ≤ a := by
  have := (szStep_of h).1; omega
theorem szL_mem {α : Type} {f : α → Int → Int} (hf : szOk f) : ∀ {l : List α} {a : Int}, 0 ≤ a → 0 ≤ szL f l a → ∀ x ∈ l, ∃ b, 0 ≤ b ∧ b ≤ a ∧ 0 ≤ f x b
  | [], a, _, _, x, hx => by simp at hx
  | y :: r, a, h0, h, x, hx => by
    simp only [szL] at h
    obtain ⟨h1, h2⟩ := szStep_of h
    rcases List.mem_cons.1 hx with rfl | hx
    · exact ⟨a, h0, Int.le_refl _, h1⟩
    · rw [h2] at h
      obtain ⟨b, k1, k2, k3⟩ := szL_mem hf h1 h x hx
      have := hf y a h0
      exact ⟨b, k1, by omega, k3⟩
theorem szRow_mem {α : Type} {f : α → Int → Int} (hf : szOk f) {l : List α} {a : Int} (h0 : 0 ≤ a) (h : 0 ≤ szRow f l a) : ∀ x ∈ l, ∃ b, 0 ≤ b ∧ b ≤ a ∧ 0 ≤ f x b := by
  obtain ⟨h1, h2⟩ := szStep_of h
  rw [szRow, h2] at h
  intro x hx
  obtain ⟨b, k1, k2, k3⟩ := szL_mem hf h1 h x hx
  exact ⟨b, k1, by omega, k3⟩
def szOne {α : Type} (x : α) (a : Int) : Int := a
def szStr (x : ByteArray) (a : Int) : Int := szStep (a - x.size) fun b => b
/-- The rest of a row, from 'i' on. -/
theorem szL_drop {α : Type} {f : α → Int → Int} (l : List α) (i : Nat) (h : i < l.length) (a : Int) : szL f (l.drop i) a = szStep (f l[i] a) (szL f (l.drop (i + 1))) := by
  rw [List.drop_eq_getElem_cons h]; rfl
def cOne {α : Type} (x : α) : Nat := 1
def mInt (x : Int) (k : Int) : Int := k
def mbool (k : Int) : Bool := k.tmod 3 == 0
def mBool (x : Bool) (k : Int) : Bool := mbool k
end Go.Av
