/- The law FnExactStepGame: it holds whatever the input. -/
import Derived.Test.YtngbggihpebimaaAR0
import Derived.Test.YtngbggihpebimaaASC
set_option linter.unusedSimpArgs false
set_option linter.unusedVariables false
set_option maxRecDepth 100000
namespace Go.Proofs.Ytngbggihpebimaa
open Go.ChangeShapes Go.WideShapes Go.RowKit Go.Av
/-! The law FnExactStepGame: it holds whatever the input. -/
theorem opFnExactStepGame2 : Opens Try.prog 3 (fun x : Int => [I x]) (fun x => True) := (opens_int (k := .i64) (by kernel_rfl)).map id (fun _ => rfl) (fun _ _ => trivial)
theorem opFnExactStepGame3 : Opens Try.prog 3 (fun x : Int => [I x]) (fun x => True) := (opens_int (k := .i64) (by kernel_rfl)).map id (fun _ => rfl) (fun _ _ => trivial)
theorem opFnExactStepGame6 : Opens Try.prog 3 (fun x : Int => [I x]) (fun x => True) := (opens_int (k := .i64) (by kernel_rfl)).map id (fun _ => rfl) (fun _ _ => trivial)
theorem opFnExactStepGame7 : Opens Try.prog 3 (fun x : Int => [I x]) (fun x => True) := (opens_int (k := .i64) (by kernel_rfl)).map id (fun _ => rfl) (fun _ _ => trivial)
theorem opFnExactStepGame8 : Opens Try.prog 3 (fun x : Int => [I x]) (fun x => True) := (opens_int (k := .i64) (by kernel_rfl)).map id (fun _ => rfl) (fun _ _ => trivial)
theorem opFnExactStepGame5 : Opens Try.prog 168 eSeat (fun x : GSeat => True) := (opens_struct (tot := 1 + (1 + (1 + 0))) Try.underlying168 (by kernel_rfl) (OpensF.cons (by kernel_rfl) (by kernel_rfl) opFnExactStepGame6 (.cons (by kernel_rfl) (by kernel_rfl) opFnExactStepGame7 (.cons (by kernel_rfl) (by kernel_rfl) opFnExactStepGame8 .nil)))).map (fun x => (⟨x.1, x.2.1, x.2.2.1⟩ : GSeat)) (fun _ => rfl) (fun _ _ => trivial)
theorem opFnExactStepGame4 : Opens Try.prog 22 (fun x : List GSeat => [.row false 3 x.length (x.flatMap eSeat)]) (fun x => x.length ≤ 9223372036854775807) := (opens_slice (e := 168) (sz := 3) (by kernel_rfl) (by kernel_rfl) (by decide) opFnExactStepGame5).map id (fun _ => rfl) (fun _ h => h.1)
theorem opFnExactStepGame1 : Opens Try.prog 24 eGame (fun x : GGame => wfGame 9223372036854775807 x) := (opens_struct (tot := 1 + (1 + (1 + 0))) Try.underlying24 (by kernel_rfl) (OpensF.cons (by kernel_rfl) (by kernel_rfl) opFnExactStepGame2 (.cons (by kernel_rfl) (by kernel_rfl) opFnExactStepGame3 (.cons (by kernel_rfl) (by kernel_rfl) opFnExactStepGame4 .nil)))).map (fun x => (⟨x.1, x.2.1, x.2.2.1⟩ : GGame)) (fun _ => rfl) (fun x h => by obtain ⟨_, _, h2, _⟩ := h; exact h2)
theorem argFnExactStepGame0 : OpensA Try.prog 24 (fun x : GGame => .agg (eGame x)) (fun x => wfGame 9223372036854775807 x) := opensA_struct Try.underlying24 opFnExactStepGame1
theorem opFnExactStepGame9 : Opens Try.prog 3 (fun x : Int => [I x]) (fun x => True) := (opens_int (k := .i64) (by kernel_rfl)).map id (fun _ => rfl) (fun _ _ => trivial)
theorem argFnExactStepGame1 : OpensA Try.prog 25 (fun x : List Int => .row false 1 x.length (x.flatMap eInt)) (fun x => x.length ≤ 9223372036854775807) := (opensA_slice (t := 25) (e := 3) (sz := 1) (by kernel_rfl) (by kernel_rfl) (by decide) opFnExactStepGame9).map id (fun _ => rfl) (fun _ h => h.1)
theorem argsFnExactStepGame : OpensAll Try.prog [24, 25] (fun p : GGame × (List Int) × Unit => [.agg (eGame p.1), .row false 1 p.2.1.length (p.2.1.flatMap eInt)]) (fun p => (wfGame 9223372036854775807 p.1) ∧ (p.2.1.length ≤ 9223372036854775807) ∧ True) := OpensAll.cons argFnExactStepGame0 (.cons argFnExactStepGame1 .nil)
theorem liftedFnExactStepGame (os : Os) (started : os.Started) (H : Type) (enc : TypeId × Value → H) :
    ReturnsInHanded {} Try.checked os 3 .any (Rows.fnExactStepGameSpec.pre6 enc Try.prog Try.f3 Rows.fnExactStepGameRow.domain false) (Rows.fnExactStepGameSpec.post enc Try.prog Try.f3 false true false false) := by
  refine returnsInHanded_of_change (C := Try.checked) Try.own started (by kernel_rfl) Try.func3
    (ChangeSpec.witness6 (enc := enc) (C := Try.checked) false ⟨#[], #[.agg #[.int .i64 0, .int .i64 0, .slice none 0 0], .slice none 0 0], []⟩ 8 (by kernel_rfl) (by kernel_rfl) (by kernel_rfl) (by kernel_rfl)) ?_
  intro W base args ds gs before hval hW _ _
  refine law_calls (P := Try.prog) (tb := 4) Try.laidOut (of_decide_eq_true (by kernel_rfl)) rfl (by kernel_rfl) (by kernel_rfl) argsFnExactStepGame (fun y hy => lawSG_does y.1 y.2.1 hy.1 hy.2.1) W base args ds gs before (fun hl => ?_) hval hW
  match ds, hl with
  | [d0, d1], _ => exact ⟨rfl, rfl, rfl⟩
theorem fnExactStepGame : Rows.FnExactStepGameSaid :=
  OpenClaim.holds_of_wide 3 Try.f3 rfl rfl rfl rfl rfl rfl rfl ⟨rfl, rfl, rfl, rfl, rfl⟩ rfl rfl rfl rfl rfl (by kernel_rfl) Try.func3 (by kernel_rfl)
    (of_decide_eq_true (by kernel_rfl)) (by unfold Func.isWrapper; first | (rw [if_pos (by decide +kernel)]; kernel_rfl) | (rw [if_neg (by decide +kernel)]; exact ⟨rfl, rfl⟩))
    (fun os started H enc _ => liftedFnExactStepGame os started H enc)
end Go.Proofs.Ytngbggihpebimaa
