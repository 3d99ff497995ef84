/- FairTeams: the program's and the reference's answers alike. -/
import Derived.Test.YtbldpkglmjajlaaBFV
set_option linter.unusedSimpArgs false
set_option linter.unusedVariables false
set_option maxRecDepth 100000
namespace Go.Av
/-! FairTeams: the program's and the reference's answers alike. -/
def bestI : Option Nat → Int
  | none => -1
  | some b => (b : Int)
def bestT (l : List GPlayer) : Option Nat → List GTeam
  | none => []
  | some b => [tmO (bt l.length b) l, tmO (bt l.length (2 ^ l.length - 1 - b)) l]
theorem abs2 {x : Int} (h1 : -1000000 ≤ x) (h2 : x ≤ 1000000) : ∃ d, p_spec_l1Abs (0 - x) = some d ∧ p_impl_size x = some d := by
  unfold p_spec_l1Abs p_impl_size
  rw [wI _ (by omega) (by omega), wI _ (by omega) (by omega)]
  by_cases c : 0 - x < 0
  · rw [if_pos c, if_neg (by omega)]; exact ⟨_, rfl, by congr 1; omega⟩
  · rw [if_neg c]
    by_cases c2 : 0 - x > x
    · rw [if_pos c2]; exact ⟨_, rfl, rfl⟩
    · rw [if_neg c2]; exact ⟨_, rfl, by congr 1; omega⟩
theorem tmO_comp {l : List GPlayer} {m : Nat} (hn : l.length ≤ 12) (hm : m < 2 ^ l.length) : tmN (bt l.length (2 ^ l.length - 1 - m)) l 0 = tmN (fun j => !(bt l.length m j)) l 0 ∧ tmS (bt l.length (2 ^ l.length - 1 - m)) l 0 = tmS (fun j => !(bt l.length m j)) l 0 :=
  tm_congr (n := l.length) (fun i hi => comp_eq hn hm hi) l 0 (by omega)
theorem pow_le {n : Nat} (hn : n ≤ 12) : 2 ^ n ≤ 4096 := Nat.pow_le_pow_right (n := 2) (by decide) hn
theorem loops {l : List GPlayer} (hn : l.length ≤ 12) (h2 : 2 ≤ l.length) (ho : ∀ p ∈ l, okP p) : ∀ (f m : Nat) (best : Option Nat) (least : Int), m < 2 ^ l.length → 2 ^ (l.length - 1) ≤ m + 1 → m + 1 - 2 ^ (l.length - 1) < f → (∀ b, best = some b → b < 2 ^ l.length) →
    ∃ best' least' m', p_spec_FairTeams_l1 l (tmS (fun _ => true) l 0) f (bestI best) least (m : Int) = some (bestI best', least', m') ∧ p_impl_FairTeams_l0 l f least (m : Int) (bestT l best) = some (least', m', bestT l best') ∧ (∀ b, best' = some b → b < 2 ^ l.length) ∧
      ((best ≠ none ∨ ∃ q, 2 ^ (l.length - 1) ≤ q ∧ q ≤ m ∧ pc q = l.length / 2) → best' ≠ none)
  | 0, m, best, least, _, _, h, _ => by omega
  | f + 1, m, best, least, hm, hm2, hf, hb => by
    have hp := pow_le hn
    have hp1 : 2 ≤ 2 ^ (l.length - 1) := by
      have : 2 ^ 1 ≤ 2 ^ (l.length - 1) := Nat.pow_le_pow_right (by decide) (by omega)
      exact this
    have i1 : IntKind.i64.wrap ((l.length : Int) - 1) = ((l.length - 1 : Nat) : Int) := by rw [wI _ (by omega) (by omega)]; omega
    have i2 : IntKind.u64.wrap ((l.length - 1 : Nat) : Int) = ((l.length - 1 : Nat) : Int) := IntWalk.u64_in _ ⟨by omega, by omega⟩
    have hd : IntKind.i64.wrap (Int.tdiv (l.length : Int) 2) = ((l.length / 2 : Nat) : Int) := by
      rw [Int.tdiv_eq_ediv_of_nonneg (by omega), wI _ (by omega) (by omega)]; omega
    unfold p_spec_FairTeams_l1 p_impl_FairTeams_l0
    have c0 : (0 : Int) ≤ ((l.length - 1 : Nat) : Int) := by omega
    rw [i1, i2, if_pos c0, if_pos c0, Int.toNat_natCast, pwI (by omega)]
    by_cases c : 2 ^ (l.length - 1) ≤ m
    · have cm : (m : Int) ≥ ((2 ^ (l.length - 1) : Nat) : Int) := by omega
      rw [if_pos cm, if_pos cm]
      have hm' : m < 4096 := by omega
      have hq : 2 ^ l.length - 1 - m < 4096 := by omega
      have e1 := many_l2 (l := l) hn rfl hm' l 0 0 0 (by omega) ho (by omega) (by omega) (by omega)
      rw [show ((0 : Nat) : Int) = 0 from rfl, cnt_eq hn hm, Nat.zero_add, Int.zero_add] at e1
      have s1 := tmS_bd (f := bt l.length m) (r := l) (i := 0) ho
      have s2 := tmS_bd (f := fun j => !(bt l.length m j)) (r := l) (i := 0) ho
      have s3 := tm_all (f := bt l.length m) l 0
      obtain ⟨n1, n2⟩ := tmO_comp hn hm
      obtain ⟨d, d1, d2⟩ := abs2 (x := tmS (bt l.length m) l 0 - tmS (fun j => !(bt l.length m j)) l 0) (by omega) (by omega)
      have wa : IntKind.i64.wrap (tmS (fun _ => true) l 0 - IntKind.i64.wrap (2 * tmS (bt l.length m) l 0)) = 0 - (tmS (bt l.length m) l 0 - tmS (fun j => !(bt l.length m j)) l 0) := by
        rw [wI (2 * tmS (bt l.length m) l 0) (by omega) (by omega), wI _ (by omega) (by omega)]; omega
      have wm : IntKind.i64.wrap ((m : Int) - 1) = ((m - 1 : Nat) : Int) := by rw [wI _ (by omega) (by omega)]; omega
      have wc : IntKind.i64.wrap (IntKind.i64.wrap (IntKind.i64.wrap ((1 : Int) * 2 ^ (min (l.length : Int).toNat IntKind.i64.bits)) - 1) - (m : Int)) = ((2 ^ l.length - 1 - m : Nat) : Int) := by
        rw [Int.toNat_natCast, pwI hn, wI (((2 ^ l.length : Nat) : Int) - 1) (by omega) (by omega), wI _ (by omega) (by omega)]; omega
      rw [e1, Option.bind_some, ones_eq hm', Option.bind_some, wc, wm, hd]
      show ∃ best' least' m', ((p_spec_l1Abs (IntKind.i64.wrap (tmS (fun _ => true) l 0 - IntKind.i64.wrap (2 * tmS (bt l.length m) l 0)))).bind fun v75 => _) = some (bestI best', least', m') ∧ _
      rw [wa, d1, Option.bind_some]
      by_cases k : pc m = l.length / 2
      · have kI : ((pc m : Nat) : Int) = ((l.length / 2 : Nat) : Int) := by omega
        rw [if_pos kI, if_pos kI, team_eq hn hm' ho, team_eq hn hq ho, Option.bind_some, Option.bind_some]
        have wz : IntKind.i64.wrap ((tmO (bt l.length m) l).Sum - (tmO (bt l.length (2 ^ l.length - 1 - m)) l).Sum) = tmS (bt l.length m) l 0 - tmS (fun j => !(bt l.length m j)) l 0 := by
          show IntKind.i64.wrap (tmS (bt l.length m) l 0 - tmS (bt l.length (2 ^ l.length - 1 - m)) l 0) = _
          rw [n2, wI _ (by omega) (by omega)]
        have upd := loops hn h2 ho f (m - 1) (some m) d (by omega) (by omega) (by omega) (fun b e => by cases e; exact hm)
        have keep := loops hn h2 ho f (m - 1) best least (by omega) (by omega) (by omega) hb
        simp only []
        rw [wz, d2, Option.bind_some]
        have fin : (∃ best' least' m', p_spec_FairTeams_l1 l (tmS (fun _ => true) l 0) f (bestI (some m)) d ((m - 1 : Nat) : Int) = some (bestI best', least', m') ∧ p_impl_FairTeams_l0 l f d ((m - 1 : Nat) : Int) (bestT l (some m)) = some (least', m', bestT l best') ∧ (∀ b, best' = some b → b < 2 ^ l.length) ∧
            ((best ≠ none ∨ ∃ q, 2 ^ (l.length - 1) ≤ q ∧ q ≤ m ∧ pc q = l.length / 2) → best' ≠ none)) := by
          obtain ⟨b', l', m', g1, g2, g3, g4⟩ := upd
          exact ⟨b', l', m', g1, g2, g3, fun _ => g4 (.inl (by simp))⟩
        cases best with
        | none =>
          rw [if_pos (show bestI none < 0 from by decide), if_pos (show (bestT l none).length = 0 from rfl)]
          exact fin
        | some b =>
          rw [if_neg (show ¬ bestI (some b) < 0 from by simp [bestI]), if_neg (show ¬ (bestT l (some b)).length = 0 from by simp [bestT])]
          by_cases z : d < least
          · rw [if_pos z, if_pos z]; exact fin
          · rw [if_neg z, if_neg z]
            obtain ⟨b', l', m', g1, g2, g3, g4⟩ := keep
            exact ⟨b', l', m', g1, g2, g3, fun _ => g4 (.inl (by simp))⟩
      · have kI : ¬ ((pc m : Nat) : Int) = ((l.length / 2 : Nat) : Int) := by omega
        rw [if_neg kI, if_neg kI]
        obtain ⟨b', l', m', g1, g2, g3, g4⟩ := loops hn h2 ho f (m - 1) best least (by omega) (by omega) (by omega) hb
        refine ⟨b', l', m', g1, g2, g3, fun h => g4 ?_⟩
        rcases h with h | ⟨q, q1, q2, q3⟩
        · exact .inl h
        · refine .inr ⟨q, q1, ?_, q3⟩
          by_cases e : q = m
          · subst e; exact absurd q3 k
          · omega
    · have cm : ¬ (m : Int) ≥ ((2 ^ (l.length - 1) : Nat) : Int) := by omega
      rw [if_neg cm, if_neg cm]
      refine ⟨best, least, m, rfl, rfl, hb, fun h => ?_⟩
      rcases h with h | ⟨q, q1, q2, q3⟩
      · exact h
      · omega
end Go.Av
