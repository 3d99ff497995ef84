/- The law FnExactNextMatch: it holds whatever the input. -/
import Derived.Test.YtbldpkglmjajlaaAR0
import Derived.Test.YtbldpkglmjajlaaANC
set_option linter.unusedSimpArgs false
set_option linter.unusedVariables false
set_option maxRecDepth 100000
namespace Go.Proofs.Ytbldpkglmjajlaa
open Go.ChangeShapes Go.WideShapes Go.RowKit Go.Av
/-! The law FnExactNextMatch: it holds whatever the input. -/
theorem opFnExactNextMatch2 : Opens Try.prog 9 (fun x : ByteArray => [S x]) (fun x => x.size ≤ 9223372036854775807) := (opens_string (by kernel_rfl)).map id (fun _ => rfl) (fun _ h => h)
theorem opFnExactNextMatch3 : Opens Try.prog 3 (fun x : Int => [I x]) (fun x => True) := (opens_int (k := .i64) (by kernel_rfl)).map id (fun _ => rfl) (fun _ _ => trivial)
theorem opFnExactNextMatch4 : Opens Try.prog 3 (fun x : Int => [I x]) (fun x => True) := (opens_int (k := .i64) (by kernel_rfl)).map id (fun _ => rfl) (fun _ _ => trivial)
theorem opFnExactNextMatch1 : Opens Try.prog 42 ePlayer (fun x : GPlayer => wfPlayer 9223372036854775807 x) := (opens_struct (tot := 1 + (1 + (1 + 0))) Try.underlying42 (by kernel_rfl) (OpensF.cons (by kernel_rfl) (by kernel_rfl) opFnExactNextMatch2 (.cons (by kernel_rfl) (by kernel_rfl) opFnExactNextMatch3 (.cons (by kernel_rfl) (by kernel_rfl) opFnExactNextMatch4 .nil)))).map (fun x => (⟨x.1, x.2.1, x.2.2.1⟩ : GPlayer)) (fun _ => rfl) (fun x h => by obtain ⟨h0, _, _, _⟩ := h; exact h0)
theorem argFnExactNextMatch0 : OpensA Try.prog 22 (fun x : List GPlayer => .row false 3 x.length (x.flatMap ePlayer)) (fun x => x.length ≤ 9223372036854775807 ∧ (∀ y ∈ x, wfPlayer 9223372036854775807 y)) := (opensA_slice (t := 22) (e := 42) (sz := 3) (by kernel_rfl) (by kernel_rfl) (by decide) opFnExactNextMatch1).map id (fun _ => rfl) (fun _ h => ⟨h.1, h.2.2⟩)
theorem argFnExactNextMatch1 : OpensA Try.prog 3 (fun x : Int => I x) (fun x => True) := (opensA_int (k := .i64) (by kernel_rfl)).map id (fun _ => rfl) (fun _ _ => trivial)
theorem argsFnExactNextMatch : OpensAll Try.prog [22, 3] (fun p : (List GPlayer) × Int × Unit => [.row false 3 p.1.length (p.1.flatMap ePlayer), I p.2.1]) (fun p => (p.1.length ≤ 9223372036854775807 ∧ (∀ y ∈ p.1, wfPlayer 9223372036854775807 y)) ∧ (True) ∧ True) := OpensAll.cons argFnExactNextMatch0 (.cons argFnExactNextMatch1 .nil)
theorem liftedFnExactNextMatch (os : Os) (started : os.Started) (H : Type) (enc : TypeId × Value → H) :
    ReturnsInHanded {} Try.checked os 3 .any (Rows.fnExactNextMatchSpec.pre6 enc Try.prog Try.f3 Rows.fnExactNextMatchRow.domain false) (Rows.fnExactNextMatchSpec.post enc Try.prog Try.f3 false true false false) := by
  refine returnsInHanded_of_change (C := Try.checked) Try.own started (by kernel_rfl) Try.func3
    (ChangeSpec.witness6 (enc := enc) (C := Try.checked) false ⟨#[], #[.slice none 0 0, .int .i64 0], []⟩ 8 (by kernel_rfl) (by kernel_rfl) (by kernel_rfl) (by kernel_rfl)) ?_
  intro W base args ds gs before hval hW _ _
  refine law_calls (P := Try.prog) (tb := 4) Try.laidOut (of_decide_eq_true (by kernel_rfl)) rfl (by kernel_rfl) (by kernel_rfl) argsFnExactNextMatch (fun y hy => lawNM_does y.1 y.2.1 hy.1.1 hy.1.2) W base args ds gs before (fun hl => ?_) hval hW
  match ds, hl with
  | [d0, d1], _ => exact ⟨rfl, rfl, rfl⟩
theorem fnExactNextMatch : Rows.FnExactNextMatchSaid :=
  OpenClaim.holds_of_wide 3 Try.f3 rfl rfl rfl rfl rfl rfl rfl ⟨rfl, rfl, rfl, rfl, rfl⟩ rfl rfl rfl rfl rfl (by kernel_rfl) Try.func3 (by kernel_rfl)
    (of_decide_eq_true (by kernel_rfl)) (by unfold Func.isWrapper; first | (rw [if_pos (by decide +kernel)]; kernel_rfl) | (rw [if_neg (by decide +kernel)]; exact ⟨rfl, rfl⟩))
    (fun os started H enc _ => liftedFnExactNextMatch os started H enc)
end Go.Proofs.Ytbldpkglmjajlaa
