/- The law FnExactRelease: it holds whatever the input. -/
import Derived.Test.YtadbnllljincaaaAR0
import Derived.Test.YtadbnllljincaaaARC
set_option linter.unusedSimpArgs false
set_option linter.unusedVariables false
set_option maxRecDepth 100000
namespace Go.Proofs.Ytadbnllljincaaa
open Go.ChangeShapes Go.WideShapes Go.RowKit Go.Av
/-! The law FnExactRelease: it holds whatever the input. -/
theorem opFnExactRelease2 : Opens Try.prog 3 (fun x : Int => [I x]) (fun x => True) := (opens_int (k := .i64) (by kernel_rfl)).map id (fun _ => rfl) (fun _ _ => trivial)
theorem opFnExactRelease3 : Opens Try.prog 3 (fun x : Int => [I x]) (fun x => True) := (opens_int (k := .i64) (by kernel_rfl)).map id (fun _ => rfl) (fun _ _ => trivial)
theorem opFnExactRelease6 : Opens Try.prog 9 (fun x : ByteArray => [S x]) (fun x => x.size ≤ 9223372036854775807) := (opens_string (by kernel_rfl)).map id (fun _ => rfl) (fun _ h => h)
theorem opFnExactRelease7 : Opens Try.prog 3 (fun x : Int => [I x]) (fun x => True) := (opens_int (k := .i64) (by kernel_rfl)).map id (fun _ => rfl) (fun _ _ => trivial)
theorem opFnExactRelease8 : Opens Try.prog 3 (fun x : Int => [I x]) (fun x => True) := (opens_int (k := .i64) (by kernel_rfl)).map id (fun _ => rfl) (fun _ _ => trivial)
theorem opFnExactRelease9 : Opens Try.prog 3 (fun x : Int => [I x]) (fun x => True) := (opens_int (k := .i64) (by kernel_rfl)).map id (fun _ => rfl) (fun _ _ => trivial)
theorem opFnExactRelease5 : Opens Try.prog 60 eResident (fun x : GResident => wfResident 9223372036854775807 x) := (opens_struct (tot := 1 + (1 + (1 + (1 + 0)))) Try.underlying60 (by kernel_rfl) (OpensF.cons (by kernel_rfl) (by kernel_rfl) opFnExactRelease6 (.cons (by kernel_rfl) (by kernel_rfl) opFnExactRelease7 (.cons (by kernel_rfl) (by kernel_rfl) opFnExactRelease8 (.cons (by kernel_rfl) (by kernel_rfl) opFnExactRelease9 .nil))))).map (fun x => (⟨x.1, x.2.1, x.2.2.1, x.2.2.2.1⟩ : GResident)) (fun _ => rfl) (fun x h => by obtain ⟨h0, _, _, _, _⟩ := h; exact h0)
theorem opFnExactRelease4 : Opens Try.prog 22 (fun x : List GResident => [.row false 4 x.length (x.flatMap eResident)]) (fun x => x.length ≤ 9223372036854775807 ∧ (∀ y ∈ x, wfResident 9223372036854775807 y)) := (opens_slice (e := 60) (sz := 4) (by kernel_rfl) (by kernel_rfl) (by decide) opFnExactRelease5).map id (fun _ => rfl) (fun _ h => ⟨h.1, h.2.2⟩)
theorem opFnExactRelease1 : Opens Try.prog 24 eStore (fun x : GStore => wfStore 9223372036854775807 x) := (opens_struct (tot := 1 + (1 + (1 + 0))) Try.underlying24 (by kernel_rfl) (OpensF.cons (by kernel_rfl) (by kernel_rfl) opFnExactRelease2 (.cons (by kernel_rfl) (by kernel_rfl) opFnExactRelease3 (.cons (by kernel_rfl) (by kernel_rfl) opFnExactRelease4 .nil)))).map (fun x => (⟨x.1, x.2.1, x.2.2.1⟩ : GStore)) (fun _ => rfl) (fun x h => by obtain ⟨_, _, h2, _⟩ := h; exact ⟨h2.1, h2.2⟩)
theorem argFnExactRelease0 : OpensA Try.prog 24 (fun x : GStore => .agg (eStore x)) (fun x => wfStore 9223372036854775807 x) := opensA_struct Try.underlying24 opFnExactRelease1
theorem argFnExactRelease1 : OpensA Try.prog 9 (fun x : ByteArray => S x) (fun x => x.size ≤ 9223372036854775807) := opensA_string (by kernel_rfl)
theorem argsFnExactRelease : OpensAll Try.prog [24, 9] (fun p : GStore × ByteArray × Unit => [.agg (eStore p.1), S p.2.1]) (fun p => (wfStore 9223372036854775807 p.1) ∧ (p.2.1.size ≤ 9223372036854775807) ∧ True) := OpensAll.cons argFnExactRelease0 (.cons argFnExactRelease1 .nil)
theorem liftedFnExactRelease (os : Os) (started : os.Started) (H : Type) (enc : TypeId × Value → H) :
    ReturnsInHanded {} Try.checked os 3 .any (Rows.fnExactReleaseSpec.pre6 enc Try.prog Try.f3 Rows.fnExactReleaseRow.domain false) (Rows.fnExactReleaseSpec.post enc Try.prog Try.f3 false true false false) := by
  refine returnsInHanded_of_change (C := Try.checked) Try.own started (by kernel_rfl) Try.func3
    (ChangeSpec.witness6 (enc := enc) (C := Try.checked) false ⟨#[], #[.agg #[.int .i64 0, .int .i64 0, .slice none 0 0], .string ⟨#[]⟩], []⟩ 8 (by kernel_rfl) (by kernel_rfl) (by kernel_rfl) (by kernel_rfl)) ?_
  intro W base args ds gs before hval hW _ _
  refine law_calls (P := Try.prog) (tb := 4) Try.laidOut (of_decide_eq_true (by kernel_rfl)) rfl (by kernel_rfl) (by kernel_rfl) argsFnExactRelease (fun y hy => lawRL_does y.1 y.2.1 hy.1 hy.2.1) W base args ds gs before (fun hl => ?_) hval hW
  match ds, hl with
  | [d0, d1], _ => exact ⟨rfl, rfl, rfl⟩
theorem fnExactRelease : Rows.FnExactReleaseSaid :=
  OpenClaim.holds_of_wide 3 Try.f3 rfl rfl rfl rfl rfl rfl rfl ⟨rfl, rfl, rfl, rfl, rfl⟩ rfl rfl rfl rfl rfl (by kernel_rfl) Try.func3 (by kernel_rfl)
    (of_decide_eq_true (by kernel_rfl)) (by unfold Func.isWrapper; first | (rw [if_pos (by decide +kernel)]; kernel_rfl) | (rw [if_neg (by decide +kernel)]; exact ⟨rfl, rfl⟩))
    (fun os started H enc _ => liftedFnExactRelease os started H enc)
end Go.Proofs.Ytadbnllljincaaa
