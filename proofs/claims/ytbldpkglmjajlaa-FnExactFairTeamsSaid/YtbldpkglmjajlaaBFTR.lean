/- The law FnExactFairTeams: it holds whatever the input. -/
import Derived.Test.YtbldpkglmjajlaaBR0
import Derived.Test.YtbldpkglmjajlaaBFTC
set_option linter.unusedSimpArgs false
set_option linter.unusedVariables false
set_option maxRecDepth 100000
namespace Go.Proofs.Ytbldpkglmjajlaa
open Go.ChangeShapes Go.WideShapes Go.RowKit Go.Av
/-! The law FnExactFairTeams: it holds whatever the input. -/
theorem opFnExactFairTeams2 : Opens Try.prog 9 (fun x : ByteArray => [S x]) (fun x => x.size ≤ 9223372036854775807) := (opens_string (by kernel_rfl)).map id (fun _ => rfl) (fun _ h => h)
theorem opFnExactFairTeams3 : Opens Try.prog 3 (fun x : Int => [I x]) (fun x => True) := (opens_int (k := .i64) (by kernel_rfl)).map id (fun _ => rfl) (fun _ _ => trivial)
theorem opFnExactFairTeams4 : Opens Try.prog 3 (fun x : Int => [I x]) (fun x => True) := (opens_int (k := .i64) (by kernel_rfl)).map id (fun _ => rfl) (fun _ _ => trivial)
theorem opFnExactFairTeams1 : Opens Try.prog 42 ePlayer (fun x : GPlayer => wfPlayer 9223372036854775807 x) := (opens_struct (tot := 1 + (1 + (1 + 0))) Try.underlying42 (by kernel_rfl) (OpensF.cons (by kernel_rfl) (by kernel_rfl) opFnExactFairTeams2 (.cons (by kernel_rfl) (by kernel_rfl) opFnExactFairTeams3 (.cons (by kernel_rfl) (by kernel_rfl) opFnExactFairTeams4 .nil)))).map (fun x => (⟨x.1, x.2.1, x.2.2.1⟩ : GPlayer)) (fun _ => rfl) (fun x h => by obtain ⟨h0, _, _, _⟩ := h; exact h0)
theorem argFnExactFairTeams0 : OpensA Try.prog 22 (fun x : List GPlayer => .row false 3 x.length (x.flatMap ePlayer)) (fun x => x.length ≤ 9223372036854775807 ∧ (∀ y ∈ x, wfPlayer 9223372036854775807 y)) := (opensA_slice (t := 22) (e := 42) (sz := 3) (by kernel_rfl) (by kernel_rfl) (by decide) opFnExactFairTeams1).map id (fun _ => rfl) (fun _ h => ⟨h.1, h.2.2⟩)
theorem argsFnExactFairTeams : OpensAll Try.prog [22] (fun p : (List GPlayer) × Unit => [.row false 3 p.1.length (p.1.flatMap ePlayer)]) (fun p => (p.1.length ≤ 9223372036854775807 ∧ (∀ y ∈ p.1, wfPlayer 9223372036854775807 y)) ∧ True) := OpensAll.cons argFnExactFairTeams0 .nil
theorem liftedFnExactFairTeams (os : Os) (started : os.Started) (H : Type) (enc : TypeId × Value → H) :
    ReturnsInHanded {} Try.checked os 4 .any (Rows.fnExactFairTeamsSpec.pre6 enc Try.prog Try.f4 Rows.fnExactFairTeamsRow.domain false) (Rows.fnExactFairTeamsSpec.post enc Try.prog Try.f4 false true false false) := by
  refine returnsInHanded_of_change (C := Try.checked) Try.own started (by kernel_rfl) Try.func4
    (ChangeSpec.witness6 (enc := enc) (C := Try.checked) false ⟨#[], #[.slice none 0 0], []⟩ 8 (by kernel_rfl) (by kernel_rfl) (by kernel_rfl) (by kernel_rfl)) ?_
  intro W base args ds gs before hval hW _ _
  refine law_calls (P := Try.prog) (tb := 4) Try.laidOut (of_decide_eq_true (by kernel_rfl)) rfl (by kernel_rfl) (by kernel_rfl) argsFnExactFairTeams (fun y hy => lawFT_does y.1 hy.1.1 hy.1.2) W base args ds gs before (fun hl => ?_) hval hW
  match ds, hl with
  | [d0], _ => exact ⟨rfl, rfl, rfl⟩
theorem fnExactFairTeams : Rows.FnExactFairTeamsSaid :=
  OpenClaim.holds_of_wide 4 Try.f4 rfl rfl rfl rfl rfl rfl rfl ⟨rfl, rfl, rfl, rfl, rfl⟩ rfl rfl rfl rfl rfl (by kernel_rfl) Try.func4 (by kernel_rfl)
    (of_decide_eq_true (by kernel_rfl)) (by unfold Func.isWrapper; first | (rw [if_pos (by decide +kernel)]; kernel_rfl) | (rw [if_neg (by decide +kernel)]; exact ⟨rfl, rfl⟩))
    (fun os started H enc _ => liftedFnExactFairTeams os started H enc)
end Go.Proofs.Ytbldpkglmjajlaa
