/- An append within a row of one's own whose cells own memory: what is moved is no longer where it was. -/
import Derived.Test.YteohnapehmdgaaaDoorAYg
set_option linter.unusedSimpArgs false
set_option linter.unusedVariables false
/-! An append within a row of one's own whose cells own memory: what is moved is no longer where it was. -/
namespace Go.Av
/-- Cells moved down: 'm' cells from 'o' to 'k'; behind them, up to where they ended, 'z'. -/
def mvL {α : Type} (cs : List α) (k o m : Nat) (zs : List α) : List α := cs.take k ++ ((cs.drop o).take m ++ (zs ++ cs.drop (o + m)))
section
variable {E : Env} {s s1 : ASt} {d : Nat} {x y : Operand} {t ty xt : TypeId} {pos : String} {after : Array Edge} {g : Option (Nat × Bool)} {R : ASt → Prop}
end
end Go.Av
namespace Go.Av
end Go.Av
/-! A row of no element that is known to be nil (nsz). -/
namespace Go.Av
end Go.Av
/-! A region's new name, where nothing is turned. -/
namespace Go.Av
def ASt.renm (s : ASt) (r d : Nat) : ASt := ⟨fun i => (s.t i).mapRef (renF r d), fun q => if q = d then s.m r else if q = r then none else s.m q⟩
theorem Weak.renm {s : ASt} {r d : Nat} (hr : r < 1000) (hd : d < 1000) (hrd : r ≠ d) : Weak s (s.renm r d) := by
  rintro E a w ⟨M, G, hX⟩
  refine ⟨fun q => if q = d then M r else if q = r then none else M q, G, ?_⟩
  have key : ∀ q T, (if q = d then M r else if q = r then none else M q) = some T → ∃ q', M q' = some T ∧ (q = d ∧ q' = r ∨ q ≠ d ∧ q ≠ r ∧ q' = q) := fun q T h => by
    split at h
    · exact ⟨r, h, .inl ⟨by assumption, rfl⟩⟩
    · split at h
      · cases h
      · exact ⟨q, h, .inr ⟨by assumption, by assumption, rfl⟩⟩
  have hmap : ∀ {v : AV} {u : Value}, VR w G M v u → VR w G (fun q => if q = d then M r else if q = r then none else M q) (v.mapRef (renF r d)) u := fun h => h.mapRef (fun r0 p0 r' p' hf T' N' hT' hN' hm => by
    simp only [renF] at hf
    split at hf
    · simp only [Option.some.injEq, Prod.mk.injEq] at hf
      obtain ⟨rfl, rfl⟩ := hf
      simp only [if_true] at hT'
      rename_i e; subst e
      exact ⟨T', N', hT', hN', rfl⟩
    · split at hf
      · cases hf
      · simp only [Option.some.injEq, Prod.mk.injEq] at hf
        obtain ⟨rfl, rfl⟩ := hf
        rename_i e1 e2
        simp only [e1, e2, if_false] at hT'
        exact ⟨T', N', hT', hN', rfl⟩)
  refine ⟨fun q => ?_, fun q T h => ?_, fun q T h => ?_, fun q q' T T' hq h h' x hx hx' => ?_, fun q T h x hx => ?_, hX.gd, hX.g0, fun i => hmap (hX.sl i), hX.ext, hX.df, hX.nt, hX.n1, fun q v hv => ?_⟩
  · simp only [ASt.renm]
    split
    · exact hX.er r
    · split
      · rfl
      · exact hX.er q
  · obtain ⟨q', h1, _⟩ := key q T h; exact hX.sat q' T h1
  · obtain ⟨q', h1, _⟩ := key q T h; exact hX.nd q' T h1
  · obtain ⟨q1, h1, e1⟩ := key q T h
    obtain ⟨q2, h2, e2⟩ := key q' T' h'
    exact hX.dj q1 q2 T T' (by omega) h1 h2 x hx hx'
  · obtain ⟨q', h1, _⟩ := key q T h; exact hX.own q' T h1 x hx
  · obtain ⟨h1, T, h2, h3⟩ := hX.pv q v hv
    exact ⟨h1, T, by rw [if_neg (by omega), if_neg (by omega)]; exact h2, h3⟩
end Go.Av
/-! A row that was taken, and is not what comes back: it is let go. -/
namespace Go.Av
end Go.Av
/-! Rows that are made: of structs that hold rows. -/
namespace Go.Av
end Go.Av
namespace Go.Av
end Go.Av
