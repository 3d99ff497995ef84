/- SpansOf: the program's and the reference's answer alike. -/
import Derived.Test.YtnmnkcmogbencaaSSA
set_option linter.unusedSimpArgs false
set_option linter.unusedVariables false
set_option maxRecDepth 100000
namespace Go.Av
/-! SpansOf: the program's and the reference's answer alike. -/
theorem idx_some' {α : Type} {l : List α} {j : Int} (h0 : 0 ≤ j) (h : j < l.length) : ∃ x, idx l j = some x ∧ x ∈ l := by
  unfold idx; rw [if_pos h0]; exact ⟨_, List.getElem?_eq_getElem (by omega), List.getElem_mem _⟩
structure VSo (i : Nat) (out : List GSpan) (op : List Int) : Prop where
  ol : op.length ≤ 12
  om : ∀ o ∈ op, 0 ≤ o ∧ o < out.length
  le : out.length ≤ i
def RSo : LR (List GSpan × Bool) (List GSpan × List Int) → Prop
  | .ret r => r.1.length ≤ 200
  | .out s => s.1.length ≤ 200
theorem so_j0 {i : Nat} {out : List GSpan} {op : List Int} {x : GTick27} (recI recS : Nat → List GSpan → List Int → Option (LR (List GSpan × Bool) (List GSpan × List Int))) (hi : i + 1 ≤ 200)
    (hrec : ∀ o' p', VSo (i + 1) o' p' → ∃ q, recI (i + 1) o' p' = some q ∧ recS (i + 1) o' p' = some q ∧ RSo q) (hv : VSo i out op) (b : Bool) :
    ∃ q, p_impl_SpansOf_j0 out op x i recI b = some q ∧ p_spec_SpansOf_j0 out op x i recS b = some q ∧ RSo q := by
  have h1 := hv.ol
  have h2 := hv.le
  have w : IntKind.i64.wrap ((op.length : Int) - 1) = (op.length : Int) - 1 := wI _ (by omega) (by omega)
  unfold p_impl_SpansOf_j0 p_spec_SpansOf_j0
  rw [w]
  by_cases c0 : b = true
  · rw [if_pos c0, if_pos c0]; exact ⟨_, rfl, rfl, by simp [RSo]⟩
  rw [if_neg c0, if_neg c0]
  by_cases c1 : x.Open = true
  · rw [if_pos c1, if_pos c1]
    have main : ∀ up : Int, ∃ q, p_impl_SpansOf_j1 out op x i recI up = some q ∧ (if (op.length : Int) = 12 then some (LR.ret (([] : List GSpan), false)) else p_spec_SpansOf_j1 out op x i recS up) = some q ∧ RSo q := fun up => by
      unfold p_impl_SpansOf_j1 p_spec_SpansOf_j1
      have k1 : op.length < 4294967296 := by omega
      have k2 : out.length < 4294967296 := by omega
      rw [if_pos k1, if_pos k2]
      by_cases c2 : (op.length : Int) = 12
      · rw [if_pos c2, if_pos (show ((op ++ [(out.length : Int)]).length : Int) > 12 by simp; omega)]; exact ⟨_, rfl, rfl, by simp [RSo]⟩
      · rw [if_neg c2, if_neg (show ¬ ((op ++ [(out.length : Int)]).length : Int) > 12 by simp; omega)]
        try rw [if_pos k1, if_pos k2]
        refine hrec _ _ ⟨by simp; omega, fun o ho => ?_, by simp; omega⟩
        rw [List.mem_append, List.mem_singleton] at ho
        rcases ho with ho | rfl
        · have := hv.om o ho; simp; omega
        · simp; omega
    by_cases c3 : (op.length : Int) > 0
    · rw [if_pos c3, if_pos c3]
      obtain ⟨y, hy, _⟩ := idx_some' (l := op) (j := (op.length : Int) - 1) (by omega) (by omega)
      rw [hy]; exact main y
    · rw [if_neg c3, if_neg c3]; exact main (-1)
  · rw [if_neg c1, if_neg c1]
    have jI : p_impl_SpansOf_j2 out op x i recI true = some (.ret ([], false)) := by simp [p_impl_SpansOf_j2]
    have jS : p_spec_SpansOf_j2 out op x i recS true = some (.ret ([], false)) := by simp [p_spec_SpansOf_j2]
    by_cases c2 : (op.length : Int) = 0
    · rw [if_pos c2, if_pos c2, jI, jS]; exact ⟨_, rfl, rfl, by simp [RSo]⟩
    · rw [if_neg c2, if_neg c2]
      obtain ⟨y, hy, hm⟩ := idx_some' (l := op) (j := (op.length : Int) - 1) (by omega) (by omega)
      have hyo := hv.om y hm
      obtain ⟨z, hz, _⟩ := idx_some' (l := out) hyo.1 hyo.2
      rw [hy, Option.bind_some, Option.bind_some, hz, Option.bind_some, Option.bind_some]
      by_cases c3 : z.Name = x.Name
      · rw [show (!decide (z.Name = x.Name)) = false by simp [c3]]
        unfold p_impl_SpansOf_j2 p_spec_SpansOf_j2
        have hs : slc op 0 ((op.length : Int) - 1) = some (op.take (op.length - 1)) := by
          unfold slc; rw [if_pos (by omega)]
          congr 1
          rw [Int.toNat_zero, List.drop_zero, Nat.sub_zero]
          congr 1; omega
        rw [w, if_neg (by simp), if_neg (by simp), hy, Option.bind_some, Option.bind_some, hz, Option.bind_some, Option.bind_some, hs, Option.bind_some, Option.bind_some]
        refine hrec _ _ ⟨by simp; omega, fun o ho => ?_, by simp; omega⟩
        have := hv.om o (List.mem_of_mem_take ho)
        simp; omega
      · rw [show (!decide (z.Name = x.Name)) = true by simp [c3], jI, jS]; exact ⟨_, rfl, rfl, by simp [RSo]⟩
theorem so_l0 {l : List GTick27} (hl : l.length ≤ 200) (hn : ∀ x ∈ l, x.Name.size ≤ 9223372036854775807) : ∀ (r : List GTick27) (i : Nat) (out : List GSpan) (op : List Int), l.drop i = r → VSo i out op →
    i ≤ 200 → ∃ q, p_impl_SpansOf_l0 l r i out op = some q ∧ p_spec_SpansOf_l0 l r i out op = some q ∧ RSo q
  | [], i, out, op, h, hv, hi => ⟨_, rfl, rfl, by have := hv.le; simp only [RSo]; omega⟩
  | x :: r, i, out, op, h, hv, _ => by
    obtain ⟨h1, h2, h3⟩ := drop_cons h
    have hx : x ∈ l := List.mem_of_getElem? h2
    have hrec : ∀ o' p', VSo (i + 1) o' p' → ∃ q, p_impl_SpansOf_l0 l r (i + 1) o' p' = some q ∧ p_spec_SpansOf_l0 l r (i + 1) o' p' = some q ∧ RSo q := fun o' p' hv' => so_l0 hl hn r (i + 1) o' p' h3 hv' (by omega)
    have J := so_j0 (x := x) (p_impl_SpansOf_l0 l r) (p_spec_SpansOf_l0 l r) (by omega) hrec hv
    simp only [p_impl_SpansOf_l0, p_spec_SpansOf_l0]
    rw [if_pos (hn x hx), if_pos (hn x hx)]
    by_cases c1 : rng x.Time 0 100000 = true
    · rw [if_pos c1, if_pos c1]
      by_cases c2 : goodName x.Name = true
      · rw [if_pos c2, if_pos c2]
        by_cases c3 : (i : Int) > 0
        · rw [if_pos c3, if_pos c3, wI _ (by omega) (by omega)]
          obtain ⟨y, hy, _⟩ := idx_some' (l := l) (j := (i : Int) - 1) (by omega) (by omega)
          rw [hy]; exact J _
        · rw [if_neg c3, if_neg c3]; exact J _
      · rw [if_neg c2, if_neg c2]; exact J _
    · rw [if_neg c1, if_neg c1]
      by_cases c2 : goodName x.Name = true
      · rw [if_pos c2]; exact J _
      · rw [if_neg c2]; exact J _
theorem spansOf_eq {l : List GTick27} (hn : ∀ x ∈ l, x.Name.size ≤ 9223372036854775807) : ∃ (o : List GSpan) (b : Bool), o.length ≤ 200 ∧ p_spec_SpansOf l = some (o, b) ∧ p_impl_SpansOf l = some (o, b) := by
  unfold p_spec_SpansOf p_impl_SpansOf
  by_cases c : (l.length : Int) > 200
  · rw [if_pos c, if_pos c]; exact ⟨[], false, by simp, rfl, rfl⟩
  · rw [if_neg c, if_neg c]
    obtain ⟨q, h1, h2, h3⟩ := so_l0 (l := l) (by omega) hn l 0 [] [] rfl ⟨by simp, by simp, by simp⟩ (by omega)
    rw [h1, h2, Option.bind_some]
    cases q with
    | ret r => exact ⟨r.1, r.2, h3, rfl, rfl⟩
    | out s =>
      obtain ⟨o, p⟩ := s
      simp only [RSo] at h3
      show ∃ (o' : List GSpan) (b : Bool), o'.length ≤ 200 ∧ (if (p.length : Int) > 0 then some (([] : List GSpan), false) else some (o, true)) = some (o', b) ∧ (if (p.length : Int) > 0 then some (([] : List GSpan), false) else some (o, true)) = some (o', b)
      by_cases c2 : (p.length : Int) > 0
      · rw [if_pos c2]; exact ⟨[], false, by simp, rfl, rfl⟩
      · rw [if_neg c2]; exact ⟨o, true, h3, rfl, rfl⟩
end Go.Av
