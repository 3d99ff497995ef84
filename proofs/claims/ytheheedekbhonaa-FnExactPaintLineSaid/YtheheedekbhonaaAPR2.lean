/- The law FnExactPaintLine: it holds whatever the input. -/
import Derived.Test.YtheheedekbhonaaAR0
import Derived.Test.YtheheedekbhonaaAPD
set_option linter.unusedSimpArgs false
set_option linter.unusedVariables false
set_option maxRecDepth 100000
namespace Go.Proofs.Ytheheedekbhonaa
open Go.ChangeShapes Go.WideShapes Go.RowKit Go.Av
/-! The law FnExactPaintLine: it holds whatever the input. -/
theorem opFnExactPaintLine2 : Opens Try.prog 3 (fun x : Int => [I x]) (fun x => True) := (opens_int (k := .i64) (by kernel_rfl)).map id (fun _ => rfl) (fun _ _ => trivial)
theorem opFnExactPaintLine3 : Opens Try.prog 3 (fun x : Int => [I x]) (fun x => True) := (opens_int (k := .i64) (by kernel_rfl)).map id (fun _ => rfl) (fun _ _ => trivial)
theorem opFnExactPaintLine5 : Opens Try.prog 3 (fun x : Int => [I x]) (fun x => True) := (opens_int (k := .i64) (by kernel_rfl)).map id (fun _ => rfl) (fun _ _ => trivial)
theorem opFnExactPaintLine4 : Opens Try.prog 22 (fun x : List Int => [.row false 1 x.length (x.flatMap eInt)]) (fun x => x.length ≤ 9223372036854775807) := (opens_slice (e := 3) (sz := 1) (by kernel_rfl) (by kernel_rfl) (by decide) opFnExactPaintLine5).map id (fun _ => rfl) (fun _ h => h.1)
theorem opFnExactPaintLine1 : Opens Try.prog 24 eSheet (fun x : GSheet => wfSheet 9223372036854775807 x) := (opens_struct (tot := 1 + (1 + (1 + 0))) Try.underlying24 (by kernel_rfl) (OpensF.cons (by kernel_rfl) (by kernel_rfl) opFnExactPaintLine2 (.cons (by kernel_rfl) (by kernel_rfl) opFnExactPaintLine3 (.cons (by kernel_rfl) (by kernel_rfl) opFnExactPaintLine4 .nil)))).map (fun x => (⟨x.1, x.2.1, x.2.2.1⟩ : GSheet)) (fun _ => rfl) (fun x h => by obtain ⟨_, _, h2, _⟩ := h; exact h2)
theorem argFnExactPaintLine0 : OpensA Try.prog 24 (fun x : GSheet => .agg (eSheet x)) (fun x => wfSheet 9223372036854775807 x) := opensA_struct Try.underlying24 opFnExactPaintLine1
theorem argFnExactPaintLine1 : OpensA Try.prog 3 (fun x : Int => I x) (fun x => True) := (opensA_int (k := .i64) (by kernel_rfl)).map id (fun _ => rfl) (fun _ _ => trivial)
theorem argFnExactPaintLine2 : OpensA Try.prog 3 (fun x : Int => I x) (fun x => True) := (opensA_int (k := .i64) (by kernel_rfl)).map id (fun _ => rfl) (fun _ _ => trivial)
theorem argFnExactPaintLine3 : OpensA Try.prog 3 (fun x : Int => I x) (fun x => True) := (opensA_int (k := .i64) (by kernel_rfl)).map id (fun _ => rfl) (fun _ _ => trivial)
theorem argFnExactPaintLine4 : OpensA Try.prog 3 (fun x : Int => I x) (fun x => True) := (opensA_int (k := .i64) (by kernel_rfl)).map id (fun _ => rfl) (fun _ _ => trivial)
theorem argFnExactPaintLine5 : OpensA Try.prog 3 (fun x : Int => I x) (fun x => True) := (opensA_int (k := .i64) (by kernel_rfl)).map id (fun _ => rfl) (fun _ _ => trivial)
theorem argsFnExactPaintLine : OpensAll Try.prog [24, 3, 3, 3, 3, 3] (fun p : GSheet × Int × Int × Int × Int × Int × Unit => [.agg (eSheet p.1), I p.2.1, I p.2.2.1, I p.2.2.2.1, I p.2.2.2.2.1, I p.2.2.2.2.2.1]) (fun p => (wfSheet 9223372036854775807 p.1) ∧ (True) ∧ (True) ∧ (True) ∧ (True) ∧ (True) ∧ True) := OpensAll.cons argFnExactPaintLine0 (.cons argFnExactPaintLine1 (.cons argFnExactPaintLine2 (.cons argFnExactPaintLine3 (.cons argFnExactPaintLine4 (.cons argFnExactPaintLine5 .nil)))))
theorem liftedFnExactPaintLine (os : Os) (started : os.Started) (H : Type) (enc : TypeId × Value → H) :
    ReturnsInHanded {} Try.checked os 4 .any (Rows.fnExactPaintLineSpec.pre6 enc Try.prog Try.f4 Rows.fnExactPaintLineRow.domain false) (Rows.fnExactPaintLineSpec.post enc Try.prog Try.f4 false true false false) := by
  refine returnsInHanded_of_change (C := Try.checked) Try.own started (by kernel_rfl) Try.func4
    (ChangeSpec.witness6 (enc := enc) (C := Try.checked) false ⟨#[], #[.agg #[.int .i64 0, .int .i64 0, .slice none 0 0], .int .i64 0, .int .i64 0, .int .i64 0, .int .i64 0, .int .i64 0], []⟩ 8 (by kernel_rfl) (by kernel_rfl) (by kernel_rfl) (by kernel_rfl)) ?_
  intro W base args ds gs before hval hW _ _
  refine law_calls (P := Try.prog) (tb := 4) Try.laidOut (of_decide_eq_true (by kernel_rfl)) rfl (by kernel_rfl) (by kernel_rfl) argsFnExactPaintLine (fun y hy => lawPL_does y.1 y.2.1 y.2.2.1 y.2.2.2.1 y.2.2.2.2.1 y.2.2.2.2.2.1 hy.1) W base args ds gs before (fun hl => ?_) hval hW
  match ds, hl with
  | [d0, d1, d2, d3, d4, d5], _ => exact ⟨rfl, rfl, rfl⟩
theorem fnExactPaintLine : Rows.FnExactPaintLineSaid :=
  OpenClaim.holds_of_wide 4 Try.f4 rfl rfl rfl rfl rfl rfl rfl ⟨rfl, rfl, rfl, rfl, rfl⟩ rfl rfl rfl rfl rfl (by kernel_rfl) Try.func4 (by kernel_rfl)
    (of_decide_eq_true (by kernel_rfl)) (by unfold Func.isWrapper; first | (rw [if_pos (by decide +kernel)]; kernel_rfl) | (rw [if_neg (by decide +kernel)]; exact ⟨rfl, rfl⟩))
    (fun os started H enc _ => liftedFnExactPaintLine os started H enc)
end Go.Proofs.Ytheheedekbhonaa
