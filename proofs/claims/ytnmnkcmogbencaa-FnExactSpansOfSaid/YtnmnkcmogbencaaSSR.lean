/- The law FnExactSpansOf: it holds whatever the input. -/
import Derived.Test.YtnmnkcmogbencaaSR0
import Derived.Test.YtnmnkcmogbencaaSSC
set_option linter.unusedSimpArgs false
set_option linter.unusedVariables false
set_option maxRecDepth 100000
namespace Go.Proofs.Ytnmnkcmogbencaa
open Go.ChangeShapes Go.WideShapes Go.RowKit Go.Av
/-! The law FnExactSpansOf: it holds whatever the input. -/
theorem opFnExactSpansOf2 : Opens Try.prog 3 (fun x : Int => [I x]) (fun x => True) := (opens_int (k := .i64) (by kernel_rfl)).map id (fun _ => rfl) (fun _ _ => trivial)
theorem opFnExactSpansOf3 : Opens Try.prog 9 (fun x : ByteArray => [S x]) (fun x => x.size ≤ 9223372036854775807) := (opens_string (by kernel_rfl)).map id (fun _ => rfl) (fun _ h => h)
theorem opFnExactSpansOf4 : Opens Try.prog 4 (fun x : Bool => [B x]) (fun x => True) := (opens_bool (by kernel_rfl)).map id (fun _ => rfl) (fun _ _ => trivial)
theorem opFnExactSpansOf1 : Opens Try.prog 124 eTick27 (fun x : GTick27 => wfTick27 9223372036854775807 x) := (opens_struct (tot := 1 + (1 + (1 + 0))) Try.underlying124 (by kernel_rfl) (OpensF.cons (by kernel_rfl) (by kernel_rfl) opFnExactSpansOf2 (.cons (by kernel_rfl) (by kernel_rfl) opFnExactSpansOf3 (.cons (by kernel_rfl) (by kernel_rfl) opFnExactSpansOf4 .nil)))).map (fun x => (⟨x.1, x.2.1, x.2.2.1⟩ : GTick27)) (fun _ => rfl) (fun x h => by obtain ⟨_, h1, _, _⟩ := h; exact h1)
theorem argFnExactSpansOf0 : OpensA Try.prog 64 (fun x : List GTick27 => .row false 3 x.length (x.flatMap eTick27)) (fun x => x.length ≤ 9223372036854775807 ∧ (∀ y ∈ x, wfTick27 9223372036854775807 y)) := (opensA_slice (t := 64) (e := 124) (sz := 3) (by kernel_rfl) (by kernel_rfl) (by decide) opFnExactSpansOf1).map id (fun _ => rfl) (fun _ h => ⟨h.1, h.2.2⟩)
theorem argsFnExactSpansOf : OpensAll Try.prog [64] (fun p : (List GTick27) × Unit => [.row false 3 p.1.length (p.1.flatMap eTick27)]) (fun p => (p.1.length ≤ 9223372036854775807 ∧ (∀ y ∈ p.1, wfTick27 9223372036854775807 y)) ∧ True) := OpensAll.cons argFnExactSpansOf0 .nil
theorem liftedFnExactSpansOf (os : Os) (started : os.Started) (H : Type) (enc : TypeId × Value → H) :
    ReturnsInHanded {} Try.checked os 9 .any (Rows.fnExactSpansOfSpec.pre6 enc Try.prog Try.f9 Rows.fnExactSpansOfRow.domain false) (Rows.fnExactSpansOfSpec.post enc Try.prog Try.f9 false true false false) := by
  refine returnsInHanded_of_change (C := Try.checked) Try.own started (by kernel_rfl) Try.func9
    (ChangeSpec.witness6 (enc := enc) (C := Try.checked) false ⟨#[], #[.slice none 0 0], []⟩ 8 (by kernel_rfl) (by kernel_rfl) (by kernel_rfl) (by kernel_rfl)) ?_
  intro W base args ds gs before hval hW _ _
  refine law_calls (P := Try.prog) (tb := 4) Try.laidOut (of_decide_eq_true (by kernel_rfl)) rfl (by kernel_rfl) (by kernel_rfl) argsFnExactSpansOf (fun y hy => lawSO_does y.1 hy.1.1 hy.1.2) W base args ds gs before (fun hl => ?_) hval hW
  match ds, hl with
  | [d0], _ => exact ⟨rfl, rfl, rfl⟩
theorem fnExactSpansOf : Rows.FnExactSpansOfSaid :=
  OpenClaim.holds_of_wide 9 Try.f9 rfl rfl rfl rfl rfl rfl rfl ⟨rfl, rfl, rfl, rfl, rfl⟩ rfl rfl rfl rfl rfl (by kernel_rfl) Try.func9 (by kernel_rfl)
    (of_decide_eq_true (by kernel_rfl)) (by unfold Func.isWrapper; first | (rw [if_pos (by decide +kernel)]; kernel_rfl) | (rw [if_neg (by decide +kernel)]; exact ⟨rfl, rfl⟩))
    (fun os started H enc _ => liftedFnExactSpansOf os started H enc)
end Go.Proofs.Ytnmnkcmogbencaa
