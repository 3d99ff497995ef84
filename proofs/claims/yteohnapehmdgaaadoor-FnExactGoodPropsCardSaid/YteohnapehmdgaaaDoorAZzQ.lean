/- Rows of records: what is written, what is empty. -/
import Derived.Test.YteohnapehmdgaaaDoorAZzN
set_option linter.unusedSimpArgs false
set_option linter.unusedVariables false
/-! Rows of records: what is written, what is empty. -/
namespace Go.Av
theorem zCells_succ (zs : List Value) (n : Nat) (h : 0 < zs.length) : zCells zs (n + 1) = zCells zs n ++ zs := by
  apply List.ext_getElem?
  intro i
  have hl : (zCells zs n).length = n * zs.length := by simp [zCells]
  by_cases h1 : i < n * zs.length
  · rw [List.getElem?_append_left (by omega)]
    have h2 : i < (n + 1) * zs.length := by rw [Nat.succ_mul]; omega
    simp [zCells, h1, h2]
  · rw [List.getElem?_append_right (by omega), hl]
    by_cases h2 : i < (n + 1) * zs.length
    · have h3 : i - n * zs.length < zs.length := by rw [Nat.succ_mul] at h2; omega
      have h4 : i % zs.length = i - n * zs.length := by
        have : i = (i - n * zs.length) + zs.length * n := by rw [Nat.mul_comm zs.length n]; omega
        conv => lhs; rw [this]
        rw [Nat.add_mul_mod_self_left, Nat.mod_eq_of_lt h3]
      simp [zCells, h2, h4, List.getD, h3]
    · have h3 : ¬ i - n * zs.length < zs.length := by rw [Nat.succ_mul] at h2; omega
      simp only [zCells, List.getElem?_map]
      rw [List.getElem?_eq_none (by simpa using h2), List.getElem?_eq_none (by omega)]
      rfl
/-- Empty rows. -/
theorem zRows {α : Type} {enc : α → List AV} {z : α} {zs : List Value} (h : 0 < zs.length) (hz : enc z = zs.map .lit) (n : Nat) : (zCells zs n).map AV.lit = (List.replicate n z).flatMap enc := by
  induction n with
  | zero => simp [zCells]
  | succ n ih => rw [zCells_succ zs n h, List.map_append, ih, ← hz, List.replicate_succ', List.flatMap_append]; simp
theorem setL_flat {α : Type} {enc : α → List AV} {sz : Nat} {l : List α} {k : Nat} (x : α) (h : ∀ y ∈ l, (enc y).length = sz) (hx : (enc x).length = sz) (hk : k < l.length) : setL (l.flatMap enc) (k * sz) (enc x) = (l.set k x).flatMap enc := by
  have h1 : (l.flatMap enc).take (k * sz) = (l.take k).flatMap enc := by
    have e : l.flatMap enc = (l.take k).flatMap enc ++ (l.drop k).flatMap enc := by rw [← List.flatMap_append, List.take_append_drop]
    have hlen : ((l.take k).flatMap enc).length = k * sz := by
      rw [flat_len (sz := sz) (fun y hy => h y (List.mem_of_mem_take hy)), List.length_take, Nat.min_eq_left (by omega)]
    rw [e, List.take_left' hlen]
  have h2 : (l.flatMap enc).drop (k * sz + (enc x).length) = (l.drop (k + 1)).flatMap enc := by
    rw [hx, ← Nat.succ_mul]; exact flat_drop _ h
  unfold setL
  rw [h1, h2, List.set_eq_take_append_cons_drop, if_pos hk, List.flatMap_append, List.flatMap_cons]
theorem take_rep_set {α : Type} (l : List α) (z : α) (k : Nat) (h : k < l.length) : (l.take k ++ List.replicate (l.length - k) z).set k l[k] = l.take (k + 1) ++ List.replicate (l.length - (k + 1)) z := by
  have hk : (l.take k).length = k := by simp; omega
  rw [List.set_append_right _ _ (by omega), hk, Nat.sub_self]
  have : l.length - k = (l.length - (k + 1)) + 1 := by omega
  rw [this, List.replicate_succ, List.set_cons_zero, List.take_succ_eq_append_getElem h, List.append_assoc]
  rfl
end Go.Av
