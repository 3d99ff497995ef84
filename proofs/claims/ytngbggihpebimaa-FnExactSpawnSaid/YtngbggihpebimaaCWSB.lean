/- Spawn: the program's and the reference's answers alike. -/
import Derived.Test.YtngbggihpebimaaCWB
set_option linter.unusedSimpArgs false
set_option linter.unusedVariables false
set_option maxRecDepth 100000
set_option maxHeartbeats 1000000
namespace Go.Av
open Go.Proofs
/-! Spawn: the program's and the reference's answers alike. -/
theorem spawn_eq (w : GWorld) (hw : wOk w) : ∃ r c d, p_impl_Spawn w = some (r, c, d) ∧ p_spec_Spawn w = some (r, c, d) ∧ (r.Entities = w.Entities ∨ r.Entities = [] ∨ r.Entities = w.Entities ++ [⟨w.Next, []⟩]) := by
  unfold p_impl_Spawn p_spec_Spawn
  obtain ⟨b, e1, e2, e3⟩ := goodWorld_eq w hw
  obtain ⟨o1, o2⟩ := own_eq w hw
  rw [e1, e2, Option.bind_some, Option.bind_some]
  by_cases hb : b = true
  · rw [if_pos hb, if_pos hb, o1, Option.bind_some]
    have hg := e3 hb
    have full : ∃ r c d, p_impl_Spawn_j0 w true = some (r, c, d) ∧ p_spec_Spawn_j0 w true = some (r, c, d) ∧ (r.Entities = w.Entities ∨ r.Entities = [] ∨ r.Entities = w.Entities ++ [⟨w.Next, []⟩]) := by
      unfold p_impl_Spawn_j0 p_spec_Spawn_j0
      rw [if_pos rfl, if_pos rfl, o2]; exact ⟨_, _, _, rfl, rfl, .inl rfl⟩
    by_cases c : (w.Entities.length : Int) = 60
    · rw [if_pos c, if_pos c]; exact full
    · rw [if_neg c, if_neg c]
      by_cases d : w.Next = 1000000
      · rw [show (w.Next == 1000000) = true by simp [d]]; exact full
      · rw [show (w.Next == 1000000) = false by simp [d]]
        unfold p_impl_Spawn_j0 p_spec_Spawn_j0
        rw [if_neg (by simp), if_neg (by simp), o2, Option.bind_some, if_pos (by omega), if_pos (by omega), wI (w.Next + 1) (by omega) (by omega), wI (w.Next + 1 - 1) (by omega) (by omega)]
        exact ⟨⟨w.Next + 1, w.Tick, w.Entities ++ [⟨w.Next, []⟩]⟩, w.Next, 0, rfl, by rw [show w.Next + 1 - 1 = w.Next by omega], .inr (.inr rfl)⟩
  · rw [if_neg hb, if_neg hb]; exact ⟨_, _, _, rfl, rfl, .inr (.inl rfl)⟩
end Go.Av
