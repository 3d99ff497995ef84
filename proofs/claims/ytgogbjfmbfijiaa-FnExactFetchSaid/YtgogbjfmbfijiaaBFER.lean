/- The law FnExactFetch: it holds whatever the input. -/
import Derived.Test.YtgogbjfmbfijiaaBR0
import Derived.Test.YtgogbjfmbfijiaaBFLC
set_option linter.unusedSimpArgs false
set_option linter.unusedVariables false
set_option maxRecDepth 100000
namespace Go.Proofs.Ytgogbjfmbfijiaa
open Go.ChangeShapes Go.WideShapes Go.RowKit Go.Av
/-! The law FnExactFetch: it holds whatever the input. -/
theorem opFnExactFetch2 : Opens Try.prog 3 (fun x : Int => [I x]) (fun x => True) := (opens_int (k := .i64) (by kernel_rfl)).map id (fun _ => rfl) (fun _ _ => trivial)
theorem opFnExactFetch3 : Opens Try.prog 3 (fun x : Int => [I x]) (fun x => True) := (opens_int (k := .i64) (by kernel_rfl)).map id (fun _ => rfl) (fun _ _ => trivial)
theorem opFnExactFetch6 : Opens Try.prog 9 (fun x : ByteArray => [S x]) (fun x => x.size ≤ 9223372036854775807) := (opens_string (by kernel_rfl)).map id (fun _ => rfl) (fun _ h => h)
theorem opFnExactFetch7 : Opens Try.prog 3 (fun x : Int => [I x]) (fun x => True) := (opens_int (k := .i64) (by kernel_rfl)).map id (fun _ => rfl) (fun _ _ => trivial)
theorem opFnExactFetch8 : Opens Try.prog 3 (fun x : Int => [I x]) (fun x => True) := (opens_int (k := .i64) (by kernel_rfl)).map id (fun _ => rfl) (fun _ _ => trivial)
theorem opFnExactFetch9 : Opens Try.prog 3 (fun x : Int => [I x]) (fun x => True) := (opens_int (k := .i64) (by kernel_rfl)).map id (fun _ => rfl) (fun _ _ => trivial)
theorem opFnExactFetch5 : Opens Try.prog 102 eResident (fun x : GResident => wfResident 9223372036854775807 x) := (opens_struct (tot := 1 + (1 + (1 + (1 + 0)))) Try.underlying102 (by kernel_rfl) (OpensF.cons (by kernel_rfl) (by kernel_rfl) opFnExactFetch6 (.cons (by kernel_rfl) (by kernel_rfl) opFnExactFetch7 (.cons (by kernel_rfl) (by kernel_rfl) opFnExactFetch8 (.cons (by kernel_rfl) (by kernel_rfl) opFnExactFetch9 .nil))))).map (fun x => (⟨x.1, x.2.1, x.2.2.1, x.2.2.2.1⟩ : GResident)) (fun _ => rfl) (fun x h => by obtain ⟨h0, _, _, _, _⟩ := h; exact h0)
theorem opFnExactFetch4 : Opens Try.prog 40 (fun x : List GResident => [.row false 4 x.length (x.flatMap eResident)]) (fun x => x.length ≤ 9223372036854775807 ∧ (∀ y ∈ x, wfResident 9223372036854775807 y)) := (opens_slice (e := 102) (sz := 4) (by kernel_rfl) (by kernel_rfl) (by decide) opFnExactFetch5).map id (fun _ => rfl) (fun _ h => ⟨h.1, h.2.2⟩)
theorem opFnExactFetch1 : Opens Try.prog 42 eStore (fun x : GStore => wfStore 9223372036854775807 x) := (opens_struct (tot := 1 + (1 + (1 + 0))) Try.underlying42 (by kernel_rfl) (OpensF.cons (by kernel_rfl) (by kernel_rfl) opFnExactFetch2 (.cons (by kernel_rfl) (by kernel_rfl) opFnExactFetch3 (.cons (by kernel_rfl) (by kernel_rfl) opFnExactFetch4 .nil)))).map (fun x => (⟨x.1, x.2.1, x.2.2.1⟩ : GStore)) (fun _ => rfl) (fun x h => by obtain ⟨_, _, h2, _⟩ := h; exact ⟨h2.1, h2.2⟩)
theorem argFnExactFetch0 : OpensA Try.prog 42 (fun x : GStore => .agg (eStore x)) (fun x => wfStore 9223372036854775807 x) := opensA_struct Try.underlying42 opFnExactFetch1
theorem argFnExactFetch1 : OpensA Try.prog 9 (fun x : ByteArray => S x) (fun x => x.size ≤ 9223372036854775807) := opensA_string (by kernel_rfl)
theorem argFnExactFetch2 : OpensA Try.prog 3 (fun x : Int => I x) (fun x => True) := (opensA_int (k := .i64) (by kernel_rfl)).map id (fun _ => rfl) (fun _ _ => trivial)
theorem argsFnExactFetch : OpensAll Try.prog [42, 9, 3] (fun p : GStore × ByteArray × Int × Unit => [.agg (eStore p.1), S p.2.1, I p.2.2.1]) (fun p => (wfStore 9223372036854775807 p.1) ∧ (p.2.1.size ≤ 9223372036854775807) ∧ (True) ∧ True) := OpensAll.cons argFnExactFetch0 (.cons argFnExactFetch1 (.cons argFnExactFetch2 .nil))
theorem liftedFnExactFetch (os : Os) (started : os.Started) (H : Type) (enc : TypeId × Value → H) :
    ReturnsInHanded {} Try.checked os 5 .any (Rows.fnExactFetchSpec.pre6 enc Try.prog Try.f5 Rows.fnExactFetchRow.domain false) (Rows.fnExactFetchSpec.post enc Try.prog Try.f5 false true false false) := by
  refine returnsInHanded_of_change (C := Try.checked) Try.own started (by kernel_rfl) Try.func5
    (ChangeSpec.witness6 (enc := enc) (C := Try.checked) false ⟨#[], #[.agg #[.int .i64 0, .int .i64 0, .slice none 0 0], .string ⟨#[]⟩, .int .i64 0], []⟩ 8 (by kernel_rfl) (by kernel_rfl) (by kernel_rfl) (by kernel_rfl)) ?_
  intro W base args ds gs before hval hW _ _
  refine law_calls (P := Try.prog) (tb := 4) Try.laidOut (of_decide_eq_true (by kernel_rfl)) rfl (by kernel_rfl) (by kernel_rfl) argsFnExactFetch (fun y hy => lawFE_does y.1 y.2.1 y.2.2.1 hy.1 hy.2.1) W base args ds gs before (fun hl => ?_) hval hW
  match ds, hl with
  | [d0, d1, d2], _ => exact ⟨rfl, rfl, rfl⟩
theorem fnExactFetch : Rows.FnExactFetchSaid :=
  OpenClaim.holds_of_wide 5 Try.f5 rfl rfl rfl rfl rfl rfl rfl ⟨rfl, rfl, rfl, rfl, rfl⟩ rfl rfl rfl rfl rfl (by kernel_rfl) Try.func5 (by kernel_rfl)
    (of_decide_eq_true (by kernel_rfl)) (by unfold Func.isWrapper; first | (rw [if_pos (by decide +kernel)]; kernel_rfl) | (rw [if_neg (by decide +kernel)]; exact ⟨rfl, rfl⟩))
    (fun os started H enc _ => liftedFnExactFetch os started H enc)
end Go.Proofs.Ytgogbjfmbfijiaa
