/- HottestWay: the program's and the reference's answer alike. -/
import Derived.Test.YtnmnkcmogbencaaQQB
set_option linter.unusedSimpArgs false
set_option linter.unusedVariables false
set_option maxRecDepth 100000
namespace Go.Av
/-! HottestWay: the program's and the reference's answer alike. -/
theorem hw_l1 (l : List GSpan) (up : Int) : ∀ (r : List GSpan) (i : Nat) (b : Int), p_impl_HottestWay_l1 l up r i b = p_spec_HottestWay_l1 l up r i b
  | [], i, b => rfl
  | x :: r, i, b => by
    simp only [p_impl_HottestWay_l1, p_spec_HottestWay_l1, p_impl_Span_long, Option.bind_some, hw_l1 l up r]
theorem hw_l0 (l : List GSpan) : ∀ (n : Nat) (up : Int) (out : List ByteArray), p_impl_HottestWay_l0 l n up out = p_spec_HottestWay_l0 l n up out
  | 0, _, _ => rfl
  | n + 1, up, out => by
    simp only [p_impl_HottestWay_l0, p_spec_HottestWay_l0, hw_l1, hw_l0 l n]
theorem hw_best {l : List GSpan} {up : Int} : ∀ (r : List GSpan) (i : Nat) (b : Int), l.drop i = r → (b < 0 ∨ ∃ y, idx l b = some y ∧ y.Up = up) →
    ∃ b', p_spec_HottestWay_l1 l up r i b = some b' ∧ (b' < 0 ∨ ∃ y, idx l b' = some y ∧ y.Up = up)
  | [], i, b, _, h => ⟨b, rfl, h⟩
  | x :: r, i, b, hd, h => by
    obtain ⟨h1, h2, h3⟩ := drop_idx hd
    simp only [p_spec_HottestWay_l1]
    by_cases c : x.Up = up
    · rw [if_pos c]
      have hi : (i : Int) < 0 ∨ ∃ y, idx l (i : Int) = some y ∧ y.Up = up := .inr ⟨x, h1, c⟩
      by_cases c2 : b < 0
      · rw [if_pos c2]; exact hw_best r (i + 1) _ h2 hi
      · rw [if_neg c2]
        obtain ⟨y, hy, hu⟩ := h.resolve_left c2
        rw [hy, Option.bind_some]
        split
        · exact hw_best r (i + 1) _ h2 hi
        · exact hw_best r (i + 1) _ h2 h
    · rw [if_neg c]; exact hw_best r (i + 1) _ h2 h
theorem hw_all {l : List GSpan} (hg : AllS l 0) (hl : l.length ≤ 1048576) : ∀ (n : Nat) (up : Int) (out : List ByteArray), -1 ≤ up → (l.length : Int) - up < n + 1 → up < l.length → (out.length : Int) ≤ up + 1 →
    ∃ o, p_spec_HottestWay_l0 l n up out = some (o, true) ∧ o.length ≤ l.length
  | 0, up, out, _, h, h2, _ => by omega
  | n + 1, up, out, h0, h1, h2, h3 => by
    simp only [p_spec_HottestWay_l0]
    obtain ⟨b, hb, hv⟩ := hw_best (l := l) (up := up) l 0 (-1) rfl (.inl (by omega))
    rw [hb, Option.bind_some]
    by_cases c : b < 0
    · rw [if_pos c]; exact ⟨out, rfl, by omega⟩
    · rw [if_neg c]
      obtain ⟨y, hy, hu⟩ := hv.resolve_left c
      have hlo := idx_lo hy
      have hhi := idx_hi hy
      have hok := hg b.toNat (Nat.zero_le _) y (by rw [Int.toNat_of_nonneg hlo]; exact hy)
      have := hok.up
      rw [hy, Option.bind_some, if_pos (by omega)]
      exact hw_all hg hl n b _ (by omega) (by omega) hhi (by simp; omega)
theorem hottest_eq {l : List GSpan} (hl : l.length ≤ 1048576) (hn : ∀ x ∈ l, x.Name.size ≤ 9223372036854775807) :
    ∃ (o : List ByteArray) (b : Bool), o.length ≤ 1048576 ∧ p_spec_HottestWay (l.length + 2) l = some (o, b) ∧ p_impl_HottestWay (l.length + 2) l = some (o, b) := by
  unfold p_spec_HottestWay p_impl_HottestWay
  rw [specGood_eq hl (Nat.le_refl _) hn, implGood_eq hl (Nat.le_refl _) hn]
  simp only [Option.bind_some, hw_l0]
  by_cases c : goodSpans l = true
  · rw [if_pos c]
    obtain ⟨o, e, h⟩ := hw_all (goodSpans_iff.1 c).1 hl (l.length + 2) (-1) [] (by omega) (by omega) (by omega) (by simp)
    rw [e]
    exact ⟨o, true, by omega, rfl, rfl⟩
  · rw [if_neg c]
    exact ⟨[], false, by simp, rfl, rfl⟩
end Go.Av
