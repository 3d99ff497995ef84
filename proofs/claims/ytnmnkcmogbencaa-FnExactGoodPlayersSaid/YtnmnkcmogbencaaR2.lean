/- The law FnExactGoodPlayers returns true for every input; no conditions. -/
import Derived.Test.YtnmnkcmogbencaaR0
import Derived.Test.YtnmnkcmogbencaaG7
set_option linter.unusedSimpArgs false
set_option linter.unusedVariables false
set_option maxRecDepth 100000
namespace Go.Proofs.Ytnmnkcmogbencaa
open Go.ChangeShapes Go.WideShapes Go.RowKit Go.Av

theorem gpArgs : OpensAll Try.prog [28] (fun p : List Pl × Unit => [rowP p.1]) (fun p => p.1.length ≤ 9223372036854775807 ∧ ∀ x ∈ p.1, x.name.size ≤ 9223372036854775807) := fun H en w base vs ds ps hv hx => by
  have hp : Opens Try.prog 102 encP (fun p => p.name.size ≤ 9223372036854775807) :=
    (opens_struct (tot := 1 + (1 + (1 + 0))) Try.underlying102 (by kernel_rfl) (OpensF.cons (by kernel_rfl) (by kernel_rfl) (opens_string (by kernel_rfl)) (.cons (by kernel_rfl) (by kernel_rfl) (opens_int (by kernel_rfl)) (.cons (by kernel_rfl) (by kernel_rfl) (opens_int (by kernel_rfl)) .nil)))).map
      (fun x => (⟨x.1, x.2.1, x.2.2.1⟩ : Pl)) (fun _ => rfl) (fun x h => h.1)
  obtain ⟨y, h1, h2⟩ := (OpensAll.cons (opensA_slice (t := 28) (e := 102) (sz := 3) (by kernel_rfl) (by kernel_rfl) (by decide) hp) .nil) H en w base vs ds ps hv hx
  exact ⟨y, ⟨h1.1.1, h1.1.2.2⟩, h2⟩

theorem liftedGP (os : Os) (started : os.Started) (H : Type) (enc : TypeId × Value → H) :
    ReturnsInHanded {} Try.checked os 4 .any (Rows.fnExactGoodPlayersSpec.pre6 enc Try.prog Try.f4 Rows.fnExactGoodPlayersRow.domain false) (Rows.fnExactGoodPlayersSpec.post enc Try.prog Try.f4 false true false false) := by
  refine returnsInHanded_of_change (C := Try.checked) Try.own started (by kernel_rfl) Try.func4
    (ChangeSpec.witness6 (enc := enc) (C := Try.checked) false ⟨#[], #[.slice none 0 0], []⟩ 8 (by kernel_rfl) (by kernel_rfl) (by kernel_rfl) (by kernel_rfl)) ?_
  intro W base args ds gs before hval hW _ _
  refine law_calls (P := Try.prog) (tb := 4) Try.laidOut (of_decide_eq_true (by kernel_rfl)) rfl (by kernel_rfl) (by kernel_rfl) gpArgs (fun y hy => lawGP_does y.1 hy.1 hy.2) W base args ds gs before (fun hl => ?_) hval hW
  match ds, hl with
  | [d1], _ => exact ⟨rfl, rfl, rfl⟩

theorem fnExactGoodPlayers : Rows.FnExactGoodPlayersSaid :=
  OpenClaim.holds_of_wide 4 Try.f4 rfl rfl rfl rfl rfl rfl rfl ⟨rfl, rfl, rfl, rfl, rfl⟩ rfl rfl rfl rfl rfl (by kernel_rfl) Try.func4 (by kernel_rfl)
    (of_decide_eq_true (by kernel_rfl)) (by unfold Func.isWrapper; first | (rw [if_pos (by decide +kernel)]; kernel_rfl) | (rw [if_neg (by decide +kernel)]; exact ⟨rfl, rfl⟩))
    (fun os started H enc _ => liftedGP os started H enc)
end Go.Proofs.Ytnmnkcmogbencaa
