/- FairTeams: what the loops compute. -/
import Derived.Test.YtbldpkglmjajlaaBFU
set_option linter.unusedSimpArgs false
set_option linter.unusedVariables false
set_option maxRecDepth 100000
namespace Go.Av
/-! FairTeams: what the loops compute. -/
theorem shI {n i : Nat} (hn : n ≤ 12) (hi : i < n) : IntKind.i64.wrap (IntKind.i64.wrap ((n : Int) - 1) - (i : Int)) = ((n - 1 - i : Nat) : Int) := by
  rw [wI ((n : Int) - 1) (by omega) (by omega), wI _ (by omega) (by omega)]; omega
theorem shU {n i : Nat} (hn : n ≤ 12) (hi : i < n) : IntKind.u64.wrap (IntKind.i64.wrap (IntKind.i64.wrap ((n : Int) - 1) - (i : Int))) = ((n - 1 - i : Nat) : Int) := by
  rw [shI hn hi]; exact IntWalk.u64_in _ ⟨by omega, by omega⟩
theorem pwI {k : Nat} (hk : k ≤ 12) : IntKind.i64.wrap ((1 : Int) * 2 ^ (min k IntKind.i64.bits)) = ((2 ^ k : Nat) : Int) := by
  have h : 2 ^ k ≤ 2 ^ 12 := Nat.pow_le_pow_right (by decide) hk
  rw [show IntKind.i64.bits = 64 from rfl, Nat.min_eq_left (by omega), Int.one_mul]
  have e : (2 : Int) ^ k = ((2 ^ k : Nat) : Int) := by norm_cast
  rw [e]
  generalize 2 ^ k = q at h
  exact wI _ (by omega) (by omega)
theorem bt_iff {n m i : Nat} : (((m / 2 ^ (n - 1 - i) % 2 : Nat) : Int) = 1) ↔ bt n m i = true := by
  unfold bt bitAt
  rw [decide_eq_true_iff]; omega
theorem all_l0 : ∀ (r : List GPlayer) (i : Nat) (a : Int), (∀ p ∈ r, okP p) → 0 ≤ a → a + 4000 * r.length ≤ 1000000 → p_spec_FairTeams_l0 r i a = some (a + tmS (fun _ => true) r i)
  | [], i, a, _, _, _ => by simp [p_spec_FairTeams_l0, tmS]
  | x :: r, i, a, h, h0, h1 => by
    obtain ⟨a1, a2, _⟩ := h x (by simp)
    simp only [List.length_cons] at h1
    unfold p_spec_FairTeams_l0
    rw [wI _ (by omega) (by omega), all_l0 r (i + 1) _ (fun p hp => h p (by simp [hp])) (by omega) (by omega)]
    simp only [tmS, if_true]
    congr 1; omega
theorem team_l0 {l : List GPlayer} {n m : Nat} (hn : n ≤ 12) (hl : l.length = n) (hm : m < 4096) : ∀ (r : List GPlayer) (i : Nat) (out : List ByteArray) (s : Int), i + r.length = n → (∀ p ∈ r, okP p) → out.length + r.length ≤ 100 → 0 ≤ s → s + 4000 * r.length ≤ 1000000 →
    p_impl_team_l0 l m r i out s = some (out ++ tmN (bt n m) r i, s + tmS (bt n m) r i)
  | [], i, out, s, _, _, _, _, _ => by simp [p_impl_team_l0, tmN, tmS]
  | x :: r, i, out, s, hi, h, ho, h0, h1 => by
    obtain ⟨a1, a2, _⟩ := h x (by simp)
    simp only [List.length_cons] at h1 ho hi
    unfold p_impl_team_l0
    rw [hl, shI hn (by omega), if_pos (by omega), Int.toNat_natCast, bit_eq hm (by omega)]
    simp only [tmN, tmS]
    by_cases c : bt n m i = true
    · rw [if_pos (bt_iff.2 c), if_pos (by omega), wI _ (by omega) (by omega), team_l0 hn hl hm r (i + 1) _ _ (by omega) (fun p hp => h p (by simp [hp])) (by simp; omega) (by omega) (by omega), if_pos c, if_pos c]
      simp; omega
    · rw [if_neg (fun e => c (bt_iff.1 e)), team_l0 hn hl hm r (i + 1) _ _ (by omega) (fun p hp => h p (by simp [hp])) (by omega) (by omega) (by omega), if_neg c, if_neg c]
theorem team_eq {l : List GPlayer} {m : Nat} (hn : l.length ≤ 12) (hm : m < 4096) (h : ∀ p ∈ l, okP p) : p_impl_team l m = some (tmO (bt l.length m) l) := by
  unfold p_impl_team
  rw [team_l0 hn rfl hm l 0 [] 0 (by omega) h (by simp; omega) (by omega) (by omega), Option.bind_some]
  simp [tmO]
theorem many_l2 {l : List GPlayer} {n m : Nat} (hn : n ≤ 12) (hl : l.length = n) (hm : m < 4096) : ∀ (r : List GPlayer) (i c : Nat) (s : Int), i + r.length = n → (∀ p ∈ r, okP p) → c + r.length ≤ 100 → 0 ≤ s → s + 4000 * r.length ≤ 1000000 →
    p_spec_FairTeams_l2 l m r i (c : Int) s = some (((c + cnB (bt n m) r.length i : Nat) : Int), s + tmS (bt n m) r i)
  | [], i, c, s, _, _, _, _, _ => by simp [p_spec_FairTeams_l2, cnB, tmS]
  | x :: r, i, c, s, hi, h, ho, h0, h1 => by
    obtain ⟨a1, a2, _⟩ := h x (by simp)
    simp only [List.length_cons] at h1 ho hi
    unfold p_spec_FairTeams_l2
    rw [hl, shU hn (by omega), if_pos (by omega), Int.toNat_natCast, bit_eq hm (by omega)]
    simp only [cnB, tmS, List.length_cons]
    by_cases b : bt n m i = true
    · rw [if_pos (bt_iff.2 b), wI _ (by omega) (by omega), wI _ (by omega) (by omega), show (c : Int) + 1 = ((c + 1 : Nat) : Int) by omega, many_l2 hn hl hm r (i + 1) _ _ (by omega) (fun p hp => h p (by simp [hp])) (by omega) (by omega) (by omega), if_pos b, if_pos b]
      congr 2 <;> omega
    · rw [if_neg (fun e => b (bt_iff.1 e)), many_l2 hn hl hm r (i + 1) _ _ (by omega) (fun p hp => h p (by simp [hp])) (by omega) (by omega) (by omega), if_neg b, if_neg b]
      congr 2; omega
theorem part_l3 {l : List GPlayer} {n m : Nat} (hn : n ≤ 12) (hl : l.length = n) (hm : m < 4096) : ∀ (r : List GPlayer) (i : Nat) (a b : List ByteArray) (s t : Int), i + r.length = n → (∀ p ∈ r, okP p) → a.length + r.length ≤ 100 → b.length + r.length ≤ 100 → 0 ≤ s → s + 4000 * r.length ≤ 1000000 → 0 ≤ t → t + 4000 * r.length ≤ 1000000 →
    p_spec_FairTeams_l3 l m r i [⟨a, s⟩, ⟨b, t⟩] = some [⟨a ++ tmN (bt n m) r i, s + tmS (bt n m) r i⟩, ⟨b ++ tmN (fun j => !(bt n m j)) r i, t + tmS (fun j => !(bt n m j)) r i⟩]
  | [], i, a, b, s, t, _, _, _, _, _, _, _, _ => by simp [p_spec_FairTeams_l3, tmN, tmS]
  | x :: r, i, a, b, s, t, hi, h, ha, hb, h0, h1, h2, h3 => by
    obtain ⟨a1, a2, _⟩ := h x (by simp)
    simp only [List.length_cons] at h1 ha hb h3 hi
    unfold p_spec_FairTeams_l3
    rw [hl, shU hn (by omega), if_pos (by omega), Int.toNat_natCast, bit_eq hm (by omega)]
    simp only [tmN, tmS]
    by_cases c : bt n m i = true
    · have e : ((m / 2 ^ (n - 1 - i) % 2 : Nat) : Int) = 1 := bt_iff.2 c
      rw [e, show IntKind.i64.wrap (1 - 1) = 0 from rfl]
      simp only [idx, show (0 : Int) ≤ 0 from by decide, if_true, Int.toNat_zero, List.getElem?_cons_zero, Option.bind_some, List.set_cons_zero]
      rw [if_pos (by omega), wI _ (by omega) (by omega), part_l3 hn hl hm r (i + 1) _ _ _ _ (by omega) (fun p hp => h p (by simp [hp])) (by simp; omega) (by omega) (by omega) (by omega) (by omega) (by omega)]
      simp [c]; omega
    · have e : ((m / 2 ^ (n - 1 - i) % 2 : Nat) : Int) = 0 := by
        have : ¬ ((m / 2 ^ (n - 1 - i) % 2 : Nat) : Int) = 1 := fun e => c (bt_iff.1 e)
        omega
      rw [e, show IntKind.i64.wrap (1 - 0) = 1 from rfl]
      simp only [idx, show (0 : Int) ≤ 1 from by decide, if_true, Int.toNat_one, List.getElem?_cons_succ, List.getElem?_cons_zero, Option.bind_some, List.set_cons_succ, List.set_cons_zero]
      rw [if_pos (by omega), wI _ (by omega) (by omega), part_l3 hn hl hm r (i + 1) _ _ _ _ (by omega) (fun p hp => h p (by simp [hp])) (by omega) (by simp; omega) (by omega) (by omega) (by omega) (by omega)]
      simp [c]; omega
end Go.Av
