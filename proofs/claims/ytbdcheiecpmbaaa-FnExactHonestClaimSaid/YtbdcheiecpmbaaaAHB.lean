/- HonestClaim: the program's and the reference's answers alike. -/
import Derived.Test.YtbdcheiecpmbaaaASBc
set_option linter.unusedSimpArgs false
set_option linter.unusedVariables false
set_option maxRecDepth 100000
namespace Go.Av
/-! HonestClaim: the program's and the reference's answers alike. -/
theorem hc_l (c : GClaim) (v : List Int × Bool) (ha : v.1.length ≤ 1048576) (hb : c.Sums.length ≤ 1048576) : ∀ (k i f1 f2 : Nat), v.1.length ≤ k + i → c.Sums.length ≤ k + i → i ≤ 1048576 → k < f1 → k < f2 → ∃ q, p_impl_HonestClaim_l0 c v f1 i = some q ∧ p_spec_HonestClaim_l0 c v f2 i = some q
  | k, i, f1, f2, h1, h2, hi, hf1, hf2 => by
    obtain ⟨f1, rfl⟩ := Nat.exists_eq_succ_of_ne_zero (show f1 ≠ 0 by omega)
    obtain ⟨f2, rfl⟩ := Nat.exists_eq_succ_of_ne_zero (show f2 ≠ 0 by omega)
    rw [Nat.succ_eq_add_one, Nat.succ_eq_add_one, p_impl_HonestClaim_l0, p_spec_HonestClaim_l0, p_spec_HonestClaim_j0, p_spec_HonestClaim_j0]
    by_cases a : i < v.1.length
    · rw [if_pos (show (i : Int) < (v.1.length : Int) by omega), if_pos rfl]
      have hc : (i : Int) < (if (c.Sums.length : Int) > (v.1.length : Int) then (c.Sums.length : Int) else (v.1.length : Int)) := by split <;> omega
      rw [if_pos hc, if_neg (show ¬ (i : Int) ≥ (v.1.length : Int) by omega), if_neg (show ¬ (i : Int) ≥ (v.1.length : Int) by omega)]
      by_cases b : i < c.Sums.length
      · rw [if_neg (show ¬ (i : Int) ≥ (c.Sums.length : Int) by omega), if_neg (show ¬ (i : Int) ≥ (c.Sums.length : Int) by omega), idxN a, idxN b]
        simp only [Option.bind_some]
        by_cases e : v.1[i] = c.Sums[i]
        · rw [if_pos e, if_pos e, wN (by omega)]
          match k, h1, h2, hf1, hf2 with
          | 0, h1, h2, hf1, hf2 => omega
          | k + 1, h1, h2, hf1, hf2 => exact hc_l c v ha hb k (i + 1) f1 f2 (by omega) (by omega) (by omega) (by omega) (by omega)
        · rw [if_neg e, if_neg e]; exact ⟨_, rfl, rfl⟩
      · rw [if_pos (show (i : Int) ≥ (c.Sums.length : Int) by omega), if_pos (show (i : Int) ≥ (c.Sums.length : Int) by omega)]; exact ⟨_, rfl, rfl⟩
    · rw [if_neg (show ¬ (i : Int) < (v.1.length : Int) by omega)]
      by_cases b : i < c.Sums.length
      · have hc : (i : Int) < (if (c.Sums.length : Int) > (v.1.length : Int) then (c.Sums.length : Int) else (v.1.length : Int)) := by split <;> omega
        rw [if_pos hc, if_pos (show (i : Int) ≥ (v.1.length : Int) by omega), if_pos (show decide ((i : Int) < (c.Sums.length : Int)) = true by simp [b]), if_pos (show (i : Int) ≥ (v.1.length : Int) by omega)]
        exact ⟨_, rfl, rfl⟩
      · have hc : ¬ (i : Int) < (if (c.Sums.length : Int) > (v.1.length : Int) then (c.Sums.length : Int) else (v.1.length : Int)) := by split <;> omega
        rw [if_neg hc, if_neg (show ¬ decide ((i : Int) < (c.Sums.length : Int)) = true by simp [b])]
        exact ⟨_, rfl, rfl⟩
theorem honest_eq (c : GClaim) (hi : c.Inputs.length ≤ 1048576) (hs : c.Sums.length ≤ 1048576) : ∃ n b, p_impl_HonestClaim 2097152 c = some (n, b) ∧ p_spec_HonestClaim 2097152 c = some (n, b) := by
  unfold p_impl_HonestClaim p_spec_HonestClaim
  obtain ⟨r, b, e1, e2, e3⟩ := sumsOf_eq 2097152 (by decide) c.Seats c.Seed c.Inputs hi
  rw [e1, e2, Option.bind_some, Option.bind_some]
  by_cases hb : b = true
  · rw [if_pos hb, if_pos hb]
    obtain ⟨q, k1, k2⟩ := hc_l c (r, b) e3 hs 1048576 0 2097152 2097152 (by simp only; omega) (by omega) (by omega) (by decide) (by decide)
    rw [show ((0 : Nat) : Int) = 0 from rfl] at k1 k2
    rw [k1, k2]
    cases q with
    | ret r => exact ⟨r.1, r.2, rfl, rfl⟩
    | out i => exact ⟨-1, true, rfl, rfl⟩
  · rw [if_neg hb, if_neg hb]; exact ⟨0, false, rfl, rfl⟩
end Go.Av
