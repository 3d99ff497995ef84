/- The law FnExactHonestClaim: it holds whatever the input. -/
import Derived.Test.YtbdcheiecpmbaaaAR0
import Derived.Test.YtbdcheiecpmbaaaAHC
set_option linter.unusedSimpArgs false
set_option linter.unusedVariables false
set_option maxRecDepth 100000
namespace Go.Proofs.Ytbdcheiecpmbaaa
open Go.ChangeShapes Go.WideShapes Go.RowKit Go.Av
/-! The law FnExactHonestClaim: it holds whatever the input. -/
theorem opFnExactHonestClaim2 : Opens Try.prog 3 (fun x : Int => [I x]) (fun x => True) := (opens_int (k := .i64) (by kernel_rfl)).map id (fun _ => rfl) (fun _ _ => trivial)
theorem opFnExactHonestClaim3 : Opens Try.prog 3 (fun x : Int => [I x]) (fun x => True) := (opens_int (k := .i64) (by kernel_rfl)).map id (fun _ => rfl) (fun _ _ => trivial)
theorem opFnExactHonestClaim6 : Opens Try.prog 3 (fun x : Int => [I x]) (fun x => True) := (opens_int (k := .i64) (by kernel_rfl)).map id (fun _ => rfl) (fun _ _ => trivial)
theorem opFnExactHonestClaim5 : Opens Try.prog 35 (fun x : List Int => [.row false 1 x.length (x.flatMap eInt)]) (fun x => x.length ≤ 9223372036854775807) := (opens_slice (e := 3) (sz := 1) (by kernel_rfl) (by kernel_rfl) (by decide) opFnExactHonestClaim6).map id (fun _ => rfl) (fun _ h => h.1)
theorem opFnExactHonestClaim4 : Opens Try.prog 34 (fun x : List (List Int) => [.row false 1 x.length (x.flatMap eLInt)]) (fun x => x.length ≤ 9223372036854775807 ∧ (∀ y ∈ x, y.length ≤ 9223372036854775807)) := (opens_slice (e := 35) (sz := 1) (by kernel_rfl) (by kernel_rfl) (by decide) opFnExactHonestClaim5).map id (fun _ => rfl) (fun _ h => ⟨h.1, h.2.2⟩)
theorem opFnExactHonestClaim8 : Opens Try.prog 3 (fun x : Int => [I x]) (fun x => True) := (opens_int (k := .i64) (by kernel_rfl)).map id (fun _ => rfl) (fun _ _ => trivial)
theorem opFnExactHonestClaim7 : Opens Try.prog 35 (fun x : List Int => [.row false 1 x.length (x.flatMap eInt)]) (fun x => x.length ≤ 9223372036854775807) := (opens_slice (e := 3) (sz := 1) (by kernel_rfl) (by kernel_rfl) (by decide) opFnExactHonestClaim8).map id (fun _ => rfl) (fun _ h => h.1)
theorem opFnExactHonestClaim1 : Opens Try.prog 37 eClaim (fun x : GClaim => wfClaim 9223372036854775807 x) := (opens_struct (tot := 1 + (1 + (1 + (1 + 0)))) Try.underlying37 (by kernel_rfl) (OpensF.cons (by kernel_rfl) (by kernel_rfl) opFnExactHonestClaim2 (.cons (by kernel_rfl) (by kernel_rfl) opFnExactHonestClaim3 (.cons (by kernel_rfl) (by kernel_rfl) opFnExactHonestClaim4 (.cons (by kernel_rfl) (by kernel_rfl) opFnExactHonestClaim7 .nil))))).map (fun x => (⟨x.1, x.2.1, x.2.2.1, x.2.2.2.1⟩ : GClaim)) (fun _ => rfl) (fun x h => by obtain ⟨_, _, h2, h3, _⟩ := h; exact ⟨h2.1, h2.2, h3⟩)
theorem argFnExactHonestClaim0 : OpensA Try.prog 37 (fun x : GClaim => .agg (eClaim x)) (fun x => wfClaim 9223372036854775807 x) := opensA_struct Try.underlying37 opFnExactHonestClaim1
theorem argsFnExactHonestClaim : OpensAll Try.prog [37] (fun p : GClaim × Unit => [.agg (eClaim p.1)]) (fun p => (wfClaim 9223372036854775807 p.1) ∧ True) := OpensAll.cons argFnExactHonestClaim0 .nil
theorem liftedFnExactHonestClaim (os : Os) (started : os.Started) (H : Type) (enc : TypeId × Value → H) :
    ReturnsInHanded {} Try.checked os 4 .any (Rows.fnExactHonestClaimSpec.pre6 enc Try.prog Try.f4 Rows.fnExactHonestClaimRow.domain false) (Rows.fnExactHonestClaimSpec.post enc Try.prog Try.f4 false true false false) := by
  refine returnsInHanded_of_change (C := Try.checked) Try.own started (by kernel_rfl) Try.func4
    (ChangeSpec.witness6 (enc := enc) (C := Try.checked) false ⟨#[], #[.agg #[.int .i64 0, .int .i64 0, .slice none 0 0, .slice none 0 0]], []⟩ 8 (by kernel_rfl) (by kernel_rfl) (by kernel_rfl) (by kernel_rfl)) ?_
  intro W base args ds gs before hval hW _ _
  refine law_calls (P := Try.prog) (tb := 4) Try.laidOut (of_decide_eq_true (by kernel_rfl)) rfl (by kernel_rfl) (by kernel_rfl) argsFnExactHonestClaim (fun y hy => lawHC_does y.1 hy.1) W base args ds gs before (fun hl => ?_) hval hW
  match ds, hl with
  | [d0], _ => exact ⟨rfl, rfl, rfl⟩
theorem fnExactHonestClaim : Rows.FnExactHonestClaimSaid :=
  OpenClaim.holds_of_wide 4 Try.f4 rfl rfl rfl rfl rfl rfl rfl ⟨rfl, rfl, rfl, rfl, rfl⟩ rfl rfl rfl rfl rfl (by kernel_rfl) Try.func4 (by kernel_rfl)
    (of_decide_eq_true (by kernel_rfl)) (by unfold Func.isWrapper; first | (rw [if_pos (by decide +kernel)]; kernel_rfl) | (rw [if_neg (by decide +kernel)]; exact ⟨rfl, rfl⟩))
    (fun os started H enc _ => liftedFnExactHonestClaim os started H enc)
end Go.Proofs.Ytbdcheiecpmbaaa
