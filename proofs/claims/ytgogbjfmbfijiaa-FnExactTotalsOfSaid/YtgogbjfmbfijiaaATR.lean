/- The law FnExactTotalsOf: it holds whatever the input. -/
import Derived.Test.YtgogbjfmbfijiaaAR0
import Derived.Test.YtgogbjfmbfijiaaATC
set_option linter.unusedSimpArgs false
set_option linter.unusedVariables false
set_option maxRecDepth 100000
namespace Go.Proofs.Ytgogbjfmbfijiaa
open Go.ChangeShapes Go.WideShapes Go.RowKit Go.Av
/-! The law FnExactTotalsOf: it holds whatever the input. -/
theorem opFnExactTotalsOf2 : Opens Try.prog 9 (fun x : ByteArray => [S x]) (fun x => x.size ≤ 9223372036854775807) := (opens_string (by kernel_rfl)).map id (fun _ => rfl) (fun _ h => h)
theorem opFnExactTotalsOf3 : Opens Try.prog 3 (fun x : Int => [I x]) (fun x => True) := (opens_int (k := .i64) (by kernel_rfl)).map id (fun _ => rfl) (fun _ _ => trivial)
theorem opFnExactTotalsOf4 : Opens Try.prog 3 (fun x : Int => [I x]) (fun x => True) := (opens_int (k := .i64) (by kernel_rfl)).map id (fun _ => rfl) (fun _ _ => trivial)
theorem opFnExactTotalsOf5 : Opens Try.prog 3 (fun x : Int => [I x]) (fun x => True) := (opens_int (k := .i64) (by kernel_rfl)).map id (fun _ => rfl) (fun _ _ => trivial)
theorem opFnExactTotalsOf1 : Opens Try.prog 65 eSpan (fun x : GSpan => wfSpan 9223372036854775807 x) := (opens_struct (tot := 1 + (1 + (1 + (1 + 0)))) Try.underlying65 (by kernel_rfl) (OpensF.cons (by kernel_rfl) (by kernel_rfl) opFnExactTotalsOf2 (.cons (by kernel_rfl) (by kernel_rfl) opFnExactTotalsOf3 (.cons (by kernel_rfl) (by kernel_rfl) opFnExactTotalsOf4 (.cons (by kernel_rfl) (by kernel_rfl) opFnExactTotalsOf5 .nil))))).map (fun x => (⟨x.1, x.2.1, x.2.2.1, x.2.2.2.1⟩ : GSpan)) (fun _ => rfl) (fun x h => by obtain ⟨h0, _, _, _, _⟩ := h; exact h0)
theorem argFnExactTotalsOf0 : OpensA Try.prog 28 (fun x : List GSpan => .row false 4 x.length (x.flatMap eSpan)) (fun x => x.length ≤ 9223372036854775807 ∧ (∀ y ∈ x, wfSpan 9223372036854775807 y)) := (opensA_slice (t := 28) (e := 65) (sz := 4) (by kernel_rfl) (by kernel_rfl) (by decide) opFnExactTotalsOf1).map id (fun _ => rfl) (fun _ h => ⟨h.1, h.2.2⟩)
theorem argsFnExactTotalsOf : OpensAll Try.prog [28] (fun p : (List GSpan) × Unit => [.row false 4 p.1.length (p.1.flatMap eSpan)]) (fun p => (p.1.length ≤ 9223372036854775807 ∧ (∀ y ∈ p.1, wfSpan 9223372036854775807 y)) ∧ True) := OpensAll.cons argFnExactTotalsOf0 .nil
theorem liftedFnExactTotalsOf (os : Os) (started : os.Started) (H : Type) (enc : TypeId × Value → H) :
    ReturnsInHanded {} Try.checked os 4 .any (Rows.fnExactTotalsOfSpec.pre6 enc Try.prog Try.f4 Rows.fnExactTotalsOfRow.domain false) (Rows.fnExactTotalsOfSpec.post enc Try.prog Try.f4 false true false false) := by
  refine returnsInHanded_of_change (C := Try.checked) Try.own started (by kernel_rfl) Try.func4
    (ChangeSpec.witness6 (enc := enc) (C := Try.checked) false ⟨#[], #[.slice none 0 0], []⟩ 8 (by kernel_rfl) (by kernel_rfl) (by kernel_rfl) (by kernel_rfl)) ?_
  intro W base args ds gs before hval hW _ _
  refine law_calls (P := Try.prog) (tb := 4) Try.laidOut (of_decide_eq_true (by kernel_rfl)) rfl (by kernel_rfl) (by kernel_rfl) argsFnExactTotalsOf (fun y hy => lawTO_does y.1 hy.1.1 hy.1.2) W base args ds gs before (fun hl => ?_) hval hW
  match ds, hl with
  | [d0], _ => exact ⟨rfl, rfl, rfl⟩
theorem fnExactTotalsOf : Rows.FnExactTotalsOfSaid :=
  OpenClaim.holds_of_wide 4 Try.f4 rfl rfl rfl rfl rfl rfl rfl ⟨rfl, rfl, rfl, rfl, rfl⟩ rfl rfl rfl rfl rfl (by kernel_rfl) Try.func4 (by kernel_rfl)
    (of_decide_eq_true (by kernel_rfl)) (by unfold Func.isWrapper; first | (rw [if_pos (by decide +kernel)]; kernel_rfl) | (rw [if_neg (by decide +kernel)]; exact ⟨rfl, rfl⟩))
    (fun os started H enc _ => liftedFnExactTotalsOf os started H enc)
end Go.Proofs.Ytgogbjfmbfijiaa
