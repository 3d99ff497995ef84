/- The law FnExactDiffSheets: it holds whatever the input. -/
import Derived.Test.YtnmnkcmogbencaaNR0
import Derived.Test.YtnmnkcmogbencaaND3
set_option linter.unusedSimpArgs false
set_option linter.unusedVariables false
set_option maxRecDepth 100000
namespace Go.Proofs.Ytnmnkcmogbencaa
open Go.ChangeShapes Go.WideShapes Go.RowKit Go.Av
/-! The law FnExactDiffSheets: it holds whatever the input. -/
theorem opSheet : OpensA Try.prog 43 (fun x : GSheet => .agg (eSheet x)) (fun x => x.Pixels.length ≤ 9223372036854775807) :=
  (opensA_struct Try.underlying43 (opens_struct (tot := 1 + (1 + (1 + 0))) Try.underlying43 (by kernel_rfl) (OpensF.cons (by kernel_rfl) (by kernel_rfl) (opens_int (k := .i64) (by kernel_rfl)) (.cons (by kernel_rfl) (by kernel_rfl) (opens_int (k := .i64) (by kernel_rfl)) (.cons (by kernel_rfl) (by kernel_rfl) (opens_slice (e := 3) (sz := 1) (by kernel_rfl) (by kernel_rfl) (by decide) (opens_int (k := .i64) (by kernel_rfl))) .nil))))).map
    (fun x => (⟨x.1, x.2.1, x.2.2.1⟩ : GSheet)) (fun _ => rfl) (fun x h => h.2.2.1.1)

theorem dsArgs : OpensAll Try.prog [43, 43] (fun p : GSheet × GSheet × Unit => [.agg (eSheet p.1), .agg (eSheet p.2.1)]) (fun p => p.1.Pixels.length ≤ 9223372036854775807 ∧ p.2.1.Pixels.length ≤ 9223372036854775807 ∧ True) :=
  OpensAll.cons opSheet (.cons opSheet .nil)

theorem liftedDS (os : Os) (started : os.Started) (H : Type) (enc : TypeId × Value → H) :
    ReturnsInHanded {} Try.checked os 6 .any (Rows.fnExactDiffSheetsSpec.pre6 enc Try.prog Try.f6 Rows.fnExactDiffSheetsRow.domain false) (Rows.fnExactDiffSheetsSpec.post enc Try.prog Try.f6 false true false false) := by
  refine returnsInHanded_of_change (C := Try.checked) Try.own started (by kernel_rfl) Try.func6
    (ChangeSpec.witness6 (enc := enc) (C := Try.checked) false ⟨#[], #[.agg #[.int .i64 0, .int .i64 0, .slice none 0 0], .agg #[.int .i64 0, .int .i64 0, .slice none 0 0]], []⟩ 8 (by kernel_rfl) (by kernel_rfl) (by kernel_rfl) (by kernel_rfl)) ?_
  intro W base args ds gs before hval hW _ _
  refine law_calls (P := Try.prog) (tb := 4) Try.laidOut (of_decide_eq_true (by kernel_rfl)) rfl (by kernel_rfl) (by kernel_rfl) dsArgs (fun y hy => lawDS_does y.1 y.2.1 hy.1 hy.2.1) W base args ds gs before (fun hl => ?_) hval hW
  match ds, hl with
  | [d1, d2], _ => exact ⟨rfl, rfl, rfl⟩

theorem fnExactDiffSheets : Rows.FnExactDiffSheetsSaid :=
  OpenClaim.holds_of_wide 6 Try.f6 rfl rfl rfl rfl rfl rfl rfl ⟨rfl, rfl, rfl, rfl, rfl⟩ rfl rfl rfl rfl rfl (by kernel_rfl) Try.func6 (by kernel_rfl)
    (of_decide_eq_true (by kernel_rfl)) (by unfold Func.isWrapper; first | (rw [if_pos (by decide +kernel)]; kernel_rfl) | (rw [if_neg (by decide +kernel)]; exact ⟨rfl, rfl⟩))
    (fun os started H enc _ => liftedDS os started H enc)
end Go.Proofs.Ytnmnkcmogbencaa
