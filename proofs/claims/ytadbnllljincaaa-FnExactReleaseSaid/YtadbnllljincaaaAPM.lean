/- Marks on rows: how large they are, where they come from. -/
import Derived.Test.YtadbnllljincaaaAL0
set_option linter.unusedSimpArgs false
set_option linter.unusedVariables false
/-! Marks on rows: how large they are, where they come from. -/
namespace Go.Av
theorem mdig_size : ∀ (n : Nat) (k : Int) (out : ByteArray), k.toNat ≤ n → (mdig k out).size ≤ out.size + k.toNat
  | 0, k, out, h => by rw [mdig_neg (by omega)]; omega
  | n + 1, k, out, h => by
    by_cases hk : 0 < k
    · rw [mdig_pos hk]
      have e1 : k.tdiv 10 = k / 10 := Int.tdiv_eq_ediv_of_nonneg (by omega)
      have := mdig_size n (k.tdiv 10) (strOf [IntKind.u8.wrap (IntKind.i64.wrap (48 + k.tmod 10))] ++ out) (by omega)
      rw [ByteArray.size_append, strOf_size] at this
      simp only [List.length_cons, List.length_nil] at this
      omega
    · rw [mdig_neg hk]; omega
theorem mtext_size {k : Int} (h : k ≤ 4611686018427387904) : (mtext k).size ≤ 9223372036854775807 := by
  unfold mtext
  split
  · show 2 ≤ 9223372036854775807; omega
  · have := mdig_size k.toNat k ⟨#[]⟩ (Nat.le_refl _)
    rw [ByteArray.size_append]
    have e : (ByteArray.mk #[109]).size = 1 := rfl
    have e2 : (ByteArray.mk #[]).size = 0 := rfl
    omega
theorem markL_mem {α : Type} {f : α → Int → α} {c : α → Nat} : ∀ (l : List α) (k : Int) (y : α), y ∈ markL f c l k → ∃ x ∈ l, ∃ k' : Int, k ≤ k' ∧ k' + (c x : Int) ≤ k + (cntL c l : Int) ∧ y = f x k'
  | [], k, y, h => by simp [markL] at h
  | x :: r, k, y, h => by
    simp only [markL, List.mem_cons] at h
    rcases h with rfl | h
    · exact ⟨x, by simp, k, Int.le_refl _, by simp only [cntL]; omega, rfl⟩
    · obtain ⟨x', h1, k', h2, h3, h4⟩ := markL_mem r _ y h
      exact ⟨x', by simp [h1], k', by omega, by simp only [cntL]; omega, h4⟩
end Go.Av
