/- The law FnExactSumsOf: it holds whatever the input. -/
import Derived.Test.YtngbggihpebimaaAR0
import Derived.Test.YtngbggihpebimaaASD
set_option linter.unusedSimpArgs false
set_option linter.unusedVariables false
set_option maxRecDepth 100000
namespace Go.Proofs.Ytngbggihpebimaa
open Go.ChangeShapes Go.WideShapes Go.RowKit Go.Av
/-! The law FnExactSumsOf: it holds whatever the input. -/
theorem argFnExactSumsOf0 : OpensA Try.prog 3 (fun x : Int => I x) (fun x => True) := (opensA_int (k := .i64) (by kernel_rfl)).map id (fun _ => rfl) (fun _ _ => trivial)
theorem argFnExactSumsOf1 : OpensA Try.prog 3 (fun x : Int => I x) (fun x => True) := (opensA_int (k := .i64) (by kernel_rfl)).map id (fun _ => rfl) (fun _ _ => trivial)
theorem opFnExactSumsOf2 : Opens Try.prog 3 (fun x : Int => [I x]) (fun x => True) := (opens_int (k := .i64) (by kernel_rfl)).map id (fun _ => rfl) (fun _ _ => trivial)
theorem opFnExactSumsOf1 : Opens Try.prog 25 (fun x : List Int => [.row false 1 x.length (x.flatMap eInt)]) (fun x => x.length ≤ 9223372036854775807) := (opens_slice (e := 3) (sz := 1) (by kernel_rfl) (by kernel_rfl) (by decide) opFnExactSumsOf2).map id (fun _ => rfl) (fun _ h => h.1)
theorem argFnExactSumsOf2 : OpensA Try.prog 52 (fun x : List (List Int) => .row false 1 x.length (x.flatMap eLInt)) (fun x => x.length ≤ 9223372036854775807 ∧ (∀ y ∈ x, y.length ≤ 9223372036854775807)) := (opensA_slice (t := 52) (e := 25) (sz := 1) (by kernel_rfl) (by kernel_rfl) (by decide) opFnExactSumsOf1).map id (fun _ => rfl) (fun _ h => ⟨h.1, h.2.2⟩)
theorem argsFnExactSumsOf : OpensAll Try.prog [3, 3, 52] (fun p : Int × Int × (List (List Int)) × Unit => [I p.1, I p.2.1, .row false 1 p.2.2.1.length (p.2.2.1.flatMap eLInt)]) (fun p => (True) ∧ (True) ∧ (p.2.2.1.length ≤ 9223372036854775807 ∧ (∀ y ∈ p.2.2.1, y.length ≤ 9223372036854775807)) ∧ True) := OpensAll.cons argFnExactSumsOf0 (.cons argFnExactSumsOf1 (.cons argFnExactSumsOf2 .nil))
theorem liftedFnExactSumsOf (os : Os) (started : os.Started) (H : Type) (enc : TypeId × Value → H) :
    ReturnsInHanded {} Try.checked os 5 .any (Rows.fnExactSumsOfSpec.pre6 enc Try.prog Try.f5 Rows.fnExactSumsOfRow.domain false) (Rows.fnExactSumsOfSpec.post enc Try.prog Try.f5 false true false false) := by
  refine returnsInHanded_of_change (C := Try.checked) Try.own started (by kernel_rfl) Try.func5
    (ChangeSpec.witness6 (enc := enc) (C := Try.checked) false ⟨#[], #[.int .i64 0, .int .i64 0, .slice none 0 0], []⟩ 8 (by kernel_rfl) (by kernel_rfl) (by kernel_rfl) (by kernel_rfl)) ?_
  intro W base args ds gs before hval hW _ _
  refine law_calls (P := Try.prog) (tb := 4) Try.laidOut (of_decide_eq_true (by kernel_rfl)) rfl (by kernel_rfl) (by kernel_rfl) argsFnExactSumsOf (fun y hy => lawSO_does y.1 y.2.1 y.2.2.1 hy.2.2.1.1 hy.2.2.1.2) W base args ds gs before (fun hl => ?_) hval hW
  match ds, hl with
  | [d0, d1, d2], _ => exact ⟨rfl, rfl, rfl⟩
theorem fnExactSumsOf : Rows.FnExactSumsOfSaid :=
  OpenClaim.holds_of_wide 5 Try.f5 rfl rfl rfl rfl rfl rfl rfl ⟨rfl, rfl, rfl, rfl, rfl⟩ rfl rfl rfl rfl rfl (by kernel_rfl) Try.func5 (by kernel_rfl)
    (of_decide_eq_true (by kernel_rfl)) (by unfold Func.isWrapper; first | (rw [if_pos (by decide +kernel)]; kernel_rfl) | (rw [if_neg (by decide +kernel)]; exact ⟨rfl, rfl⟩))
    (fun os started H enc _ => liftedFnExactSumsOf os started H enc)
end Go.Proofs.Ytngbggihpebimaa
