/- The law FnExactGoodSpans: it holds whatever the input. -/
import Derived.Test.YtnmnkcmogbencaaQR0
import Derived.Test.YtnmnkcmogbencaaQQC
set_option linter.unusedSimpArgs false
set_option linter.unusedVariables false
set_option maxRecDepth 100000
namespace Go.Proofs.Ytnmnkcmogbencaa
open Go.ChangeShapes Go.WideShapes Go.RowKit Go.Av
/-! The law FnExactGoodSpans: it holds whatever the input. -/
theorem opFnExactGoodSpans2 : Opens Try.prog 9 (fun x : ByteArray => [S x]) (fun x => x.size ≤ 9223372036854775807) := (opens_string (by kernel_rfl)).map id (fun _ => rfl) (fun _ h => h)
theorem opFnExactGoodSpans3 : Opens Try.prog 3 (fun x : Int => [I x]) (fun x => True) := (opens_int (k := .i64) (by kernel_rfl)).map id (fun _ => rfl) (fun _ _ => trivial)
theorem opFnExactGoodSpans4 : Opens Try.prog 3 (fun x : Int => [I x]) (fun x => True) := (opens_int (k := .i64) (by kernel_rfl)).map id (fun _ => rfl) (fun _ _ => trivial)
theorem opFnExactGoodSpans5 : Opens Try.prog 3 (fun x : Int => [I x]) (fun x => True) := (opens_int (k := .i64) (by kernel_rfl)).map id (fun _ => rfl) (fun _ _ => trivial)
theorem opFnExactGoodSpans1 : Opens Try.prog 108 eSpan (fun x : GSpan => wfSpan 9223372036854775807 x) := (opens_struct (tot := 1 + (1 + (1 + (1 + 0)))) Try.underlying108 (by kernel_rfl) (OpensF.cons (by kernel_rfl) (by kernel_rfl) opFnExactGoodSpans2 (.cons (by kernel_rfl) (by kernel_rfl) opFnExactGoodSpans3 (.cons (by kernel_rfl) (by kernel_rfl) opFnExactGoodSpans4 (.cons (by kernel_rfl) (by kernel_rfl) opFnExactGoodSpans5 .nil))))).map (fun x => (⟨x.1, x.2.1, x.2.2.1, x.2.2.2.1⟩ : GSpan)) (fun _ => rfl) (fun x h => by obtain ⟨h0, _, _, _, _⟩ := h; exact h0)
theorem argFnExactGoodSpans0 : OpensA Try.prog 35 (fun x : List GSpan => .row false 4 x.length (x.flatMap eSpan)) (fun x => x.length ≤ 9223372036854775807 ∧ (∀ y ∈ x, wfSpan 9223372036854775807 y)) := (opensA_slice (t := 35) (e := 108) (sz := 4) (by kernel_rfl) (by kernel_rfl) (by decide) opFnExactGoodSpans1).map id (fun _ => rfl) (fun _ h => ⟨h.1, h.2.2⟩)
theorem argsFnExactGoodSpans : OpensAll Try.prog [35] (fun p : (List GSpan) × Unit => [.row false 4 p.1.length (p.1.flatMap eSpan)]) (fun p => (p.1.length ≤ 9223372036854775807 ∧ (∀ y ∈ p.1, wfSpan 9223372036854775807 y)) ∧ True) := OpensAll.cons argFnExactGoodSpans0 .nil
theorem liftedFnExactGoodSpans (os : Os) (started : os.Started) (H : Type) (enc : TypeId × Value → H) :
    ReturnsInHanded {} Try.checked os 5 .any (Rows.fnExactGoodSpansSpec.pre6 enc Try.prog Try.f5 Rows.fnExactGoodSpansRow.domain false) (Rows.fnExactGoodSpansSpec.post enc Try.prog Try.f5 false true false false) := by
  refine returnsInHanded_of_change (C := Try.checked) Try.own started (by kernel_rfl) Try.func5
    (ChangeSpec.witness6 (enc := enc) (C := Try.checked) false ⟨#[], #[.slice none 0 0], []⟩ 8 (by kernel_rfl) (by kernel_rfl) (by kernel_rfl) (by kernel_rfl)) ?_
  intro W base args ds gs before hval hW _ _
  refine law_calls (P := Try.prog) (tb := 4) Try.laidOut (of_decide_eq_true (by kernel_rfl)) rfl (by kernel_rfl) (by kernel_rfl) argsFnExactGoodSpans (fun y hy => lawGS_does y.1 hy.1.1 hy.1.2) W base args ds gs before (fun hl => ?_) hval hW
  match ds, hl with
  | [d0], _ => exact ⟨rfl, rfl, rfl⟩
theorem fnExactGoodSpans : Rows.FnExactGoodSpansSaid :=
  OpenClaim.holds_of_wide 5 Try.f5 rfl rfl rfl rfl rfl rfl rfl ⟨rfl, rfl, rfl, rfl, rfl⟩ rfl rfl rfl rfl rfl (by kernel_rfl) Try.func5 (by kernel_rfl)
    (of_decide_eq_true (by kernel_rfl)) (by unfold Func.isWrapper; first | (rw [if_pos (by decide +kernel)]; kernel_rfl) | (rw [if_neg (by decide +kernel)]; exact ⟨rfl, rfl⟩))
    (fun os started H enc _ => liftedFnExactGoodSpans os started H enc)
end Go.Proofs.Ytnmnkcmogbencaa
