/- FairTeams: teams of a mask, and the loops. -/
import Derived.Test.YtbldpkglmjajlaaBFQ
set_option linter.unusedSimpArgs false
set_option linter.unusedVariables false
set_option maxRecDepth 100000
namespace Go.Av
/-! FairTeams: teams of a mask, and the loops. -/
def tmN (f : Nat → Bool) : List GPlayer → Nat → List ByteArray
  | [], _ => []
  | x :: r, i => if f i then x.Name :: tmN f r (i + 1) else tmN f r (i + 1)
def tmS (f : Nat → Bool) : List GPlayer → Nat → Int
  | [], _ => 0
  | x :: r, i => if f i then x.Rating + tmS f r (i + 1) else tmS f r (i + 1)
def tmO (f : Nat → Bool) (l : List GPlayer) : GTeam := ⟨tmN f l 0, tmS f l 0⟩
theorem tmS_bd {f : Nat → Bool} : ∀ {r : List GPlayer} {i : Nat}, (∀ p ∈ r, okP p) → 0 ≤ tmS f r i ∧ tmS f r i ≤ 4000 * r.length
  | [], i, _ => by simp [tmS]
  | x :: r, i, h => by
    have ih := tmS_bd (f := f) (r := r) (i := i + 1) (fun p hp => h p (by simp [hp]))
    obtain ⟨h1, h2, _⟩ := h x (by simp)
    simp only [tmS, List.length_cons]
    split <;> omega
theorem tmN_len {f : Nat → Bool} : ∀ (r : List GPlayer) (i : Nat), (tmN f r i).length ≤ r.length
  | [], i => by simp [tmN]
  | x :: r, i => by
    have := tmN_len (f := f) r (i + 1)
    simp only [tmN]
    split <;> simp <;> omega
theorem tm_congr {f g : Nat → Bool} {n : Nat} (h : ∀ i, i < n → f i = g i) : ∀ (r : List GPlayer) (i : Nat), i + r.length = n → tmN f r i = tmN g r i ∧ tmS f r i = tmS g r i
  | [], i, _ => ⟨rfl, rfl⟩
  | x :: r, i, hi => by
    simp only [List.length_cons] at hi
    obtain ⟨h1, h2⟩ := tm_congr h r (i + 1) (by omega)
    simp only [tmN, tmS]
    rw [h i (by omega), h1, h2]
    exact ⟨rfl, rfl⟩
theorem tm_all {f : Nat → Bool} : ∀ (r : List GPlayer) (i : Nat), tmS f r i + tmS (fun j => !(f j)) r i = tmS (fun _ => true) r i
  | [], i => rfl
  | x :: r, i => by
    have := tm_all (f := f) r (i + 1)
    simp only [tmS]
    by_cases h : f i = true
    · simp [h]; omega
    · simp [h]; omega
end Go.Av
