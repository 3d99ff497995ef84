/- The law FnExactPaintBox: it holds whatever the input. -/
import Derived.Test.YtheheedekbhonaaAR0
import Derived.Test.YtheheedekbhonaaAPC
set_option linter.unusedSimpArgs false
set_option linter.unusedVariables false
set_option maxRecDepth 100000
namespace Go.Proofs.Ytheheedekbhonaa
open Go.ChangeShapes Go.WideShapes Go.RowKit Go.Av
/-! The law FnExactPaintBox: it holds whatever the input. -/
theorem opFnExactPaintBox2 : Opens Try.prog 3 (fun x : Int => [I x]) (fun x => True) := (opens_int (k := .i64) (by kernel_rfl)).map id (fun _ => rfl) (fun _ _ => trivial)
theorem opFnExactPaintBox3 : Opens Try.prog 3 (fun x : Int => [I x]) (fun x => True) := (opens_int (k := .i64) (by kernel_rfl)).map id (fun _ => rfl) (fun _ _ => trivial)
theorem opFnExactPaintBox5 : Opens Try.prog 3 (fun x : Int => [I x]) (fun x => True) := (opens_int (k := .i64) (by kernel_rfl)).map id (fun _ => rfl) (fun _ _ => trivial)
theorem opFnExactPaintBox4 : Opens Try.prog 22 (fun x : List Int => [.row false 1 x.length (x.flatMap eInt)]) (fun x => x.length ≤ 9223372036854775807) := (opens_slice (e := 3) (sz := 1) (by kernel_rfl) (by kernel_rfl) (by decide) opFnExactPaintBox5).map id (fun _ => rfl) (fun _ h => h.1)
theorem opFnExactPaintBox1 : Opens Try.prog 24 eSheet (fun x : GSheet => wfSheet 9223372036854775807 x) := (opens_struct (tot := 1 + (1 + (1 + 0))) Try.underlying24 (by kernel_rfl) (OpensF.cons (by kernel_rfl) (by kernel_rfl) opFnExactPaintBox2 (.cons (by kernel_rfl) (by kernel_rfl) opFnExactPaintBox3 (.cons (by kernel_rfl) (by kernel_rfl) opFnExactPaintBox4 .nil)))).map (fun x => (⟨x.1, x.2.1, x.2.2.1⟩ : GSheet)) (fun _ => rfl) (fun x h => by obtain ⟨_, _, h2, _⟩ := h; exact h2)
theorem argFnExactPaintBox0 : OpensA Try.prog 24 (fun x : GSheet => .agg (eSheet x)) (fun x => wfSheet 9223372036854775807 x) := opensA_struct Try.underlying24 opFnExactPaintBox1
theorem opFnExactPaintBox7 : Opens Try.prog 3 (fun x : Int => [I x]) (fun x => True) := (opens_int (k := .i64) (by kernel_rfl)).map id (fun _ => rfl) (fun _ _ => trivial)
theorem opFnExactPaintBox8 : Opens Try.prog 3 (fun x : Int => [I x]) (fun x => True) := (opens_int (k := .i64) (by kernel_rfl)).map id (fun _ => rfl) (fun _ _ => trivial)
theorem opFnExactPaintBox9 : Opens Try.prog 3 (fun x : Int => [I x]) (fun x => True) := (opens_int (k := .i64) (by kernel_rfl)).map id (fun _ => rfl) (fun _ _ => trivial)
theorem opFnExactPaintBox10 : Opens Try.prog 3 (fun x : Int => [I x]) (fun x => True) := (opens_int (k := .i64) (by kernel_rfl)).map id (fun _ => rfl) (fun _ _ => trivial)
theorem opFnExactPaintBox6 : Opens Try.prog 26 ePlaced (fun x : GPlaced => True) := (opens_struct (tot := 1 + (1 + (1 + (1 + 0)))) Try.underlying26 (by kernel_rfl) (OpensF.cons (by kernel_rfl) (by kernel_rfl) opFnExactPaintBox7 (.cons (by kernel_rfl) (by kernel_rfl) opFnExactPaintBox8 (.cons (by kernel_rfl) (by kernel_rfl) opFnExactPaintBox9 (.cons (by kernel_rfl) (by kernel_rfl) opFnExactPaintBox10 .nil))))).map (fun x => (⟨x.1, x.2.1, x.2.2.1, x.2.2.2.1⟩ : GPlaced)) (fun _ => rfl) (fun _ _ => trivial)
theorem argFnExactPaintBox1 : OpensA Try.prog 26 (fun x : GPlaced => .agg (ePlaced x)) (fun x => True) := opensA_struct Try.underlying26 opFnExactPaintBox6
theorem argFnExactPaintBox2 : OpensA Try.prog 3 (fun x : Int => I x) (fun x => True) := (opensA_int (k := .i64) (by kernel_rfl)).map id (fun _ => rfl) (fun _ _ => trivial)
theorem argsFnExactPaintBox : OpensAll Try.prog [24, 26, 3] (fun p : GSheet × GPlaced × Int × Unit => [.agg (eSheet p.1), .agg (ePlaced p.2.1), I p.2.2.1]) (fun p => (wfSheet 9223372036854775807 p.1) ∧ (True) ∧ (True) ∧ True) := OpensAll.cons argFnExactPaintBox0 (.cons argFnExactPaintBox1 (.cons argFnExactPaintBox2 .nil))
theorem liftedFnExactPaintBox (os : Os) (started : os.Started) (H : Type) (enc : TypeId × Value → H) :
    ReturnsInHanded {} Try.checked os 3 .any (Rows.fnExactPaintBoxSpec.pre6 enc Try.prog Try.f3 Rows.fnExactPaintBoxRow.domain false) (Rows.fnExactPaintBoxSpec.post enc Try.prog Try.f3 false true false false) := by
  refine returnsInHanded_of_change (C := Try.checked) Try.own started (by kernel_rfl) Try.func3
    (ChangeSpec.witness6 (enc := enc) (C := Try.checked) false ⟨#[], #[.agg #[.int .i64 0, .int .i64 0, .slice none 0 0], .agg #[.int .i64 0, .int .i64 0, .int .i64 0, .int .i64 0], .int .i64 0], []⟩ 8 (by kernel_rfl) (by kernel_rfl) (by kernel_rfl) (by kernel_rfl)) ?_
  intro W base args ds gs before hval hW _ _
  refine law_calls (P := Try.prog) (tb := 4) Try.laidOut (of_decide_eq_true (by kernel_rfl)) rfl (by kernel_rfl) (by kernel_rfl) argsFnExactPaintBox (fun y hy => lawPB_does y.1 y.2.1 y.2.2.1 hy.1) W base args ds gs before (fun hl => ?_) hval hW
  match ds, hl with
  | [d0, d1, d2], _ => exact ⟨rfl, rfl, rfl⟩
theorem fnExactPaintBox : Rows.FnExactPaintBoxSaid :=
  OpenClaim.holds_of_wide 3 Try.f3 rfl rfl rfl rfl rfl rfl rfl ⟨rfl, rfl, rfl, rfl, rfl⟩ rfl rfl rfl rfl rfl (by kernel_rfl) Try.func3 (by kernel_rfl)
    (of_decide_eq_true (by kernel_rfl)) (by unfold Func.isWrapper; first | (rw [if_pos (by decide +kernel)]; kernel_rfl) | (rw [if_neg (by decide +kernel)]; exact ⟨rfl, rfl⟩))
    (fun os started H enc _ => liftedFnExactPaintBox os started H enc)
end Go.Proofs.Ytheheedekbhonaa
