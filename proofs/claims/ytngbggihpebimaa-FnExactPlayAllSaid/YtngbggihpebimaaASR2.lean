/- The law FnExactPlayAll: it holds whatever the input. -/
import Derived.Test.YtngbggihpebimaaAR0
import Derived.Test.YtngbggihpebimaaASD
set_option linter.unusedSimpArgs false
set_option linter.unusedVariables false
set_option maxRecDepth 100000
namespace Go.Proofs.Ytngbggihpebimaa
open Go.ChangeShapes Go.WideShapes Go.RowKit Go.Av
/-! The law FnExactPlayAll: it holds whatever the input. -/
theorem argFnExactPlayAll0 : OpensA Try.prog 3 (fun x : Int => I x) (fun x => True) := (opensA_int (k := .i64) (by kernel_rfl)).map id (fun _ => rfl) (fun _ _ => trivial)
theorem argFnExactPlayAll1 : OpensA Try.prog 3 (fun x : Int => I x) (fun x => True) := (opensA_int (k := .i64) (by kernel_rfl)).map id (fun _ => rfl) (fun _ _ => trivial)
theorem opFnExactPlayAll2 : Opens Try.prog 3 (fun x : Int => [I x]) (fun x => True) := (opens_int (k := .i64) (by kernel_rfl)).map id (fun _ => rfl) (fun _ _ => trivial)
theorem opFnExactPlayAll1 : Opens Try.prog 25 (fun x : List Int => [.row false 1 x.length (x.flatMap eInt)]) (fun x => x.length ≤ 9223372036854775807) := (opens_slice (e := 3) (sz := 1) (by kernel_rfl) (by kernel_rfl) (by decide) opFnExactPlayAll2).map id (fun _ => rfl) (fun _ h => h.1)
theorem argFnExactPlayAll2 : OpensA Try.prog 52 (fun x : List (List Int) => .row false 1 x.length (x.flatMap eLInt)) (fun x => x.length ≤ 9223372036854775807 ∧ (∀ y ∈ x, y.length ≤ 9223372036854775807)) := (opensA_slice (t := 52) (e := 25) (sz := 1) (by kernel_rfl) (by kernel_rfl) (by decide) opFnExactPlayAll1).map id (fun _ => rfl) (fun _ h => ⟨h.1, h.2.2⟩)
theorem argsFnExactPlayAll : OpensAll Try.prog [3, 3, 52] (fun p : Int × Int × (List (List Int)) × Unit => [I p.1, I p.2.1, .row false 1 p.2.2.1.length (p.2.2.1.flatMap eLInt)]) (fun p => (True) ∧ (True) ∧ (p.2.2.1.length ≤ 9223372036854775807 ∧ (∀ y ∈ p.2.2.1, y.length ≤ 9223372036854775807)) ∧ True) := OpensAll.cons argFnExactPlayAll0 (.cons argFnExactPlayAll1 (.cons argFnExactPlayAll2 .nil))
theorem liftedFnExactPlayAll (os : Os) (started : os.Started) (H : Type) (enc : TypeId × Value → H) :
    ReturnsInHanded {} Try.checked os 6 .any (Rows.fnExactPlayAllSpec.pre6 enc Try.prog Try.f6 Rows.fnExactPlayAllRow.domain false) (Rows.fnExactPlayAllSpec.post enc Try.prog Try.f6 false true false false) := by
  refine returnsInHanded_of_change (C := Try.checked) Try.own started (by kernel_rfl) Try.func6
    (ChangeSpec.witness6 (enc := enc) (C := Try.checked) false ⟨#[], #[.int .i64 0, .int .i64 0, .slice none 0 0], []⟩ 8 (by kernel_rfl) (by kernel_rfl) (by kernel_rfl) (by kernel_rfl)) ?_
  intro W base args ds gs before hval hW _ _
  refine law_calls (P := Try.prog) (tb := 4) Try.laidOut (of_decide_eq_true (by kernel_rfl)) rfl (by kernel_rfl) (by kernel_rfl) argsFnExactPlayAll (fun y hy => lawPA_does y.1 y.2.1 y.2.2.1 hy.2.2.1.1 hy.2.2.1.2) W base args ds gs before (fun hl => ?_) hval hW
  match ds, hl with
  | [d0, d1, d2], _ => exact ⟨rfl, rfl, rfl⟩
theorem fnExactPlayAll : Rows.FnExactPlayAllSaid :=
  OpenClaim.holds_of_wide 6 Try.f6 rfl rfl rfl rfl rfl rfl rfl ⟨rfl, rfl, rfl, rfl, rfl⟩ rfl rfl rfl rfl rfl (by kernel_rfl) Try.func6 (by kernel_rfl)
    (of_decide_eq_true (by kernel_rfl)) (by unfold Func.isWrapper; first | (rw [if_pos (by decide +kernel)]; kernel_rfl) | (rw [if_neg (by decide +kernel)]; exact ⟨rfl, rfl⟩))
    (fun os started H enc _ => liftedFnExactPlayAll os started H enc)
end Go.Proofs.Ytngbggihpebimaa
