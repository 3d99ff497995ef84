/- FairTeams: the two ways meet. -/
import Derived.Test.YtbldpkglmjajlaaBFW2
set_option linter.unusedSimpArgs false
set_option linter.unusedVariables false
set_option maxRecDepth 100000
namespace Go.Av
/-! FairTeams: the two ways meet. -/
theorem tmN_mem {f : Nat → Bool} : ∀ {r : List GPlayer} {i : Nat} {s : ByteArray}, s ∈ tmN f r i → ∃ p ∈ r, p.Name = s
  | [], i, s, h => by simp [tmN] at h
  | x :: r, i, s, h => by
    simp only [tmN] at h
    split at h
    · rcases List.mem_cons.1 h with rfl | h
      · exact ⟨x, by simp, rfl⟩
      · obtain ⟨p, h1, h2⟩ := tmN_mem h; exact ⟨p, by simp [h1], h2⟩
    · obtain ⟨p, h1, h2⟩ := tmN_mem h; exact ⟨p, by simp [h1], h2⟩
/-- What comes out: two teams at the most, of players' names. -/
def okTs (l : List GPlayer) (o : List GTeam) : Prop := o.length ≤ 2 ∧ ∀ t ∈ o, t.Names.length ≤ 12 ∧ ∀ s ∈ t.Names, ∃ p ∈ l, p.Name = s
theorem fairTeams_eq (l : List GPlayer) (hl : l.length ≤ 1048576) (hn : ∀ p ∈ l, p.Name.size ≤ 9223372036854775807) : ∃ o b, p_spec_FairTeams 5000 l = some (o, b) ∧ p_impl_FairTeams 5000 l = some (o, b) ∧ okTs l o := by
  have h0 : okTs l [] := ⟨by simp, fun t ht => by simp at ht⟩
  have jt : p_spec_FairTeams_j0 5000 l true = some ([], false) := by unfold p_spec_FairTeams_j0; rw [if_pos rfl]
  have jt' : p_impl_FairTeams_j0 5000 l true = some ([], false) := by unfold p_impl_FairTeams_j0; rw [if_pos rfl]
  obtain ⟨g, e1, e2, hg⟩ := good_eq l hl hn
  unfold p_spec_FairTeams p_impl_FairTeams
  rw [e1, e2, Option.bind_some, Option.bind_some]
  by_cases c1 : g = true
  · rw [if_pos c1, if_pos c1]
    obtain ⟨h12, ho⟩ := hg c1
    by_cases c2 : (l.length : Int) = 0
    · rw [if_pos (show (l.length : Int) < 2 by omega), if_pos c2, jt, jt']; exact ⟨_, _, rfl, rfl, h0⟩
    rw [if_neg c2]
    by_cases c3 : (l.length : Int) < 2
    · rw [if_pos c3, jt]
      have : (Int.tmod (l.length : Int) 2 == 1) = true := by rw [show (l.length : Int) = 1 by omega]; rfl
      rw [this, jt']; exact ⟨_, _, rfl, rfl, h0⟩
    rw [if_neg c3]
    have hmod : Int.tmod (l.length : Int) 2 = ((l.length % 2 : Nat) : Int) := by rw [Int.tmod_eq_emod_of_nonneg (by omega)]; omega
    rw [hmod]
    by_cases c4 : l.length % 2 = 1
    · rw [c4, show ((((1 : Nat) : Int)) == 1) = true from rfl, jt, jt']; exact ⟨_, _, rfl, rfl, h0⟩
    rw [show l.length % 2 = 0 by omega, show ((((0 : Nat) : Int)) == 1) = false from rfl]
    have hp := pow_le h12
    have hpos : 2 ^ (l.length - 1) < 2 ^ l.length := Nat.pow_lt_pow_right (by decide) (by omega)
    obtain ⟨q, q1, q2, q3⟩ := half_eq h12 (by omega) (show l.length % 2 = 0 by omega)
    obtain ⟨b', l', m', g1, g2, g3, g4⟩ := loops h12 (by omega) ho 5000 (2 ^ l.length - 1) none 0 (by omega) (by omega) (Nat.lt_of_le_of_lt (Nat.sub_le _ _) (by omega)) (fun b e => by cases e)
    have hne := g4 (.inr ⟨q, q1, by omega, q3⟩)
    obtain ⟨b, rfl⟩ : ∃ b, b' = some b := by
      cases b' with
      | none => exact absurd rfl hne
      | some b => exact ⟨b, rfl⟩
    have hb := g3 b rfl
    have u1 : IntKind.u64.wrap (l.length : Int) = (l.length : Int) := IntWalk.u64_in _ ⟨by omega, by omega⟩
    have wp : IntKind.i64.wrap (IntKind.i64.wrap ((1 : Int) * 2 ^ (min (l.length : Int).toNat IntKind.i64.bits)) - 1) = ((2 ^ l.length - 1 : Nat) : Int) := by
      rw [Int.toNat_natCast, pwI h12, wI _ (by omega) (by omega)]; omega
    have hA := all_l0 l 0 0 ho (by omega) (by omega)
    rw [Int.zero_add] at hA
    have hM : mkl 2 ((⟨([] : List ByteArray), 0⟩ : GTeam)) = some [⟨[], 0⟩, ⟨[], 0⟩] := by unfold mkl; rw [if_pos (by decide)]; rfl
    have hP := part_l3 (l := l) h12 rfl (m := b) (by omega) l 0 [] [] 0 0 (by omega) ho (by simp; omega) (by simp; omega) (by omega) (by omega) (by omega) (by omega)
    obtain ⟨n1, n2⟩ := tmO_comp h12 hb
    have hT : bestT l (some b) = [⟨tmN (bt l.length b) l 0, tmS (bt l.length b) l 0⟩, ⟨tmN (fun j => !(bt l.length b j)) l 0, tmS (fun j => !(bt l.length b j)) l 0⟩] := by
      show [tmO (bt l.length b) l, tmO (bt l.length (2 ^ l.length - 1 - b)) l] = _
      unfold tmO; rw [n1, n2]
    have c0 : (0 : Int) ≤ (l.length : Int) := by omega
    have f1 : ¬ (false = true) := by decide
    unfold p_spec_FairTeams_j0 p_impl_FairTeams_j0
    rw [if_neg f1, if_neg f1, hA, Option.bind_some, u1, wp, if_pos c0, if_pos c0]
    show ∃ o b_1, ((p_spec_FairTeams_l1 l (tmS (fun _ => true) l 0) 5000 (bestI none) 0 ((2 ^ l.length - 1 : Nat) : Int)).bind fun q_1 => _) = some (o, b_1) ∧ ((p_impl_FairTeams_l0 l 5000 0 ((2 ^ l.length - 1 : Nat) : Int) (bestT l none)).bind fun q_0 => _) = some (o, b_1) ∧ _
    rw [g1, g2, Option.bind_some, Option.bind_some]
    show ∃ o b_1, ((mkl 2 ((⟨([] : List ByteArray), 0⟩ : GTeam))).bind fun m79 => (p_spec_FairTeams_l3 l ((b : Nat) : Int) l 0 m79).bind fun q_3 => some (q_3, true)) = some (o, b_1) ∧ some (bestT l (some b), true) = some (o, b_1) ∧ _
    rw [hM, Option.bind_some, hP, Option.bind_some, hT]
    simp only [List.nil_append, Int.zero_add]
    refine ⟨_, _, rfl, rfl, by simp, fun t ht => ?_⟩
    simp only [List.mem_cons, List.not_mem_nil, or_false] at ht
    rcases ht with rfl | rfl
    · exact ⟨by have := tmN_len (f := bt l.length b) l 0; show (tmN (bt l.length b) l 0).length ≤ 12; omega, fun s hs => tmN_mem hs⟩
    · exact ⟨by have := tmN_len (f := fun j => !(bt l.length b j)) l 0; show (tmN (fun j => !(bt l.length b j)) l 0).length ≤ 12; omega, fun s hs => tmN_mem hs⟩
  · rw [if_neg c1, if_neg c1, jt, jt']; exact ⟨_, _, rfl, rfl, h0⟩
end Go.Av
