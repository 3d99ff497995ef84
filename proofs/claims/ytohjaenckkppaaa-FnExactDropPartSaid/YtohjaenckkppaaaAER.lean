/- The law FnExactDropPart: it holds whatever the input. -/
import Derived.Test.YtohjaenckkppaaaAR0
import Derived.Test.YtohjaenckkppaaaAEC
set_option linter.unusedSimpArgs false
set_option linter.unusedVariables false
set_option maxRecDepth 100000
namespace Go.Proofs.Ytohjaenckkppaaa
open Go.ChangeShapes Go.WideShapes Go.RowKit Go.Av
/-! The law FnExactDropPart: it holds whatever the input. -/
theorem opFnExactDropPart2 : Opens Try.prog 3 (fun x : Int => [I x]) (fun x => True) := (opens_int (k := .i64) (by kernel_rfl)).map id (fun _ => rfl) (fun _ _ => trivial)
theorem opFnExactDropPart3 : Opens Try.prog 3 (fun x : Int => [I x]) (fun x => True) := (opens_int (k := .i64) (by kernel_rfl)).map id (fun _ => rfl) (fun _ _ => trivial)
theorem opFnExactDropPart6 : Opens Try.prog 3 (fun x : Int => [I x]) (fun x => True) := (opens_int (k := .i64) (by kernel_rfl)).map id (fun _ => rfl) (fun _ _ => trivial)
theorem opFnExactDropPart9 : Opens Try.prog 9 (fun x : ByteArray => [S x]) (fun x => x.size ≤ 9223372036854775807) := (opens_string (by kernel_rfl)).map id (fun _ => rfl) (fun _ h => h)
theorem opFnExactDropPart10 : Opens Try.prog 3 (fun x : Int => [I x]) (fun x => True) := (opens_int (k := .i64) (by kernel_rfl)).map id (fun _ => rfl) (fun _ _ => trivial)
theorem opFnExactDropPart11 : Opens Try.prog 3 (fun x : Int => [I x]) (fun x => True) := (opens_int (k := .i64) (by kernel_rfl)).map id (fun _ => rfl) (fun _ _ => trivial)
theorem opFnExactDropPart8 : Opens Try.prog 81 ePart (fun x : GPart => wfPart 9223372036854775807 x) := (opens_struct (tot := 1 + (1 + (1 + 0))) Try.underlying81 (by kernel_rfl) (OpensF.cons (by kernel_rfl) (by kernel_rfl) opFnExactDropPart9 (.cons (by kernel_rfl) (by kernel_rfl) opFnExactDropPart10 (.cons (by kernel_rfl) (by kernel_rfl) opFnExactDropPart11 .nil)))).map (fun x => (⟨x.1, x.2.1, x.2.2.1⟩ : GPart)) (fun _ => rfl) (fun x h => by obtain ⟨h0, _, _, _⟩ := h; exact h0)
theorem opFnExactDropPart7 : Opens Try.prog 60 (fun x : List GPart => [.row false 3 x.length (x.flatMap ePart)]) (fun x => x.length ≤ 9223372036854775807 ∧ (∀ y ∈ x, wfPart 9223372036854775807 y)) := (opens_slice (e := 81) (sz := 3) (by kernel_rfl) (by kernel_rfl) (by decide) opFnExactDropPart8).map id (fun _ => rfl) (fun _ h => ⟨h.1, h.2.2⟩)
theorem opFnExactDropPart5 : Opens Try.prog 62 eEntity (fun x : GEntity => wfEntity 9223372036854775807 x) := (opens_struct (tot := 1 + (1 + 0)) Try.underlying62 (by kernel_rfl) (OpensF.cons (by kernel_rfl) (by kernel_rfl) opFnExactDropPart6 (.cons (by kernel_rfl) (by kernel_rfl) opFnExactDropPart7 .nil))).map (fun x => (⟨x.1, x.2.1⟩ : GEntity)) (fun _ => rfl) (fun x h => by obtain ⟨_, h1, _⟩ := h; exact ⟨h1.1, h1.2⟩)
theorem opFnExactDropPart4 : Opens Try.prog 22 (fun x : List GEntity => [.row false 2 x.length (x.flatMap eEntity)]) (fun x => x.length ≤ 9223372036854775807 ∧ (∀ y ∈ x, wfEntity 9223372036854775807 y)) := (opens_slice (e := 62) (sz := 2) (by kernel_rfl) (by kernel_rfl) (by decide) opFnExactDropPart5).map id (fun _ => rfl) (fun _ h => ⟨h.1, h.2.2⟩)
theorem opFnExactDropPart1 : Opens Try.prog 24 eWorld (fun x : GWorld => wfWorld 9223372036854775807 x) := (opens_struct (tot := 1 + (1 + (1 + 0))) Try.underlying24 (by kernel_rfl) (OpensF.cons (by kernel_rfl) (by kernel_rfl) opFnExactDropPart2 (.cons (by kernel_rfl) (by kernel_rfl) opFnExactDropPart3 (.cons (by kernel_rfl) (by kernel_rfl) opFnExactDropPart4 .nil)))).map (fun x => (⟨x.1, x.2.1, x.2.2.1⟩ : GWorld)) (fun _ => rfl) (fun x h => by obtain ⟨_, _, h2, _⟩ := h; exact ⟨h2.1, h2.2⟩)
theorem argFnExactDropPart0 : OpensA Try.prog 24 (fun x : GWorld => .agg (eWorld x)) (fun x => wfWorld 9223372036854775807 x) := opensA_struct Try.underlying24 opFnExactDropPart1
theorem argFnExactDropPart1 : OpensA Try.prog 3 (fun x : Int => I x) (fun x => True) := (opensA_int (k := .i64) (by kernel_rfl)).map id (fun _ => rfl) (fun _ _ => trivial)
theorem argFnExactDropPart2 : OpensA Try.prog 9 (fun x : ByteArray => S x) (fun x => x.size ≤ 9223372036854775807) := opensA_string (by kernel_rfl)
theorem argsFnExactDropPart : OpensAll Try.prog [24, 3, 9] (fun p : GWorld × Int × ByteArray × Unit => [.agg (eWorld p.1), I p.2.1, S p.2.2.1]) (fun p => (wfWorld 9223372036854775807 p.1) ∧ (True) ∧ (p.2.2.1.size ≤ 9223372036854775807) ∧ True) := OpensAll.cons argFnExactDropPart0 (.cons argFnExactDropPart1 (.cons argFnExactDropPart2 .nil))
theorem liftedFnExactDropPart (os : Os) (started : os.Started) (H : Type) (enc : TypeId × Value → H) :
    ReturnsInHanded {} Try.checked os 4 .any (Rows.fnExactDropPartSpec.pre6 enc Try.prog Try.f4 Rows.fnExactDropPartRow.domain false) (Rows.fnExactDropPartSpec.post enc Try.prog Try.f4 false true false false) := by
  refine returnsInHanded_of_change (C := Try.checked) Try.own started (by kernel_rfl) Try.func4
    (ChangeSpec.witness6 (enc := enc) (C := Try.checked) false ⟨#[], #[.agg #[.int .i64 0, .int .i64 0, .slice none 0 0], .int .i64 0, .string ⟨#[]⟩], []⟩ 8 (by kernel_rfl) (by kernel_rfl) (by kernel_rfl) (by kernel_rfl)) ?_
  intro W base args ds gs before hval hW _ _
  refine law_calls (P := Try.prog) (tb := 4) Try.laidOut (of_decide_eq_true (by kernel_rfl)) rfl (by kernel_rfl) (by kernel_rfl) argsFnExactDropPart (fun y hy => lawDP_does y.1 y.2.1 y.2.2.1 hy.1 hy.2.2.1) W base args ds gs before (fun hl => ?_) hval hW
  match ds, hl with
  | [d0, d1, d2], _ => exact ⟨rfl, rfl, rfl⟩
theorem fnExactDropPart : Rows.FnExactDropPartSaid :=
  OpenClaim.holds_of_wide 4 Try.f4 rfl rfl rfl rfl rfl rfl rfl ⟨rfl, rfl, rfl, rfl, rfl⟩ rfl rfl rfl rfl rfl (by kernel_rfl) Try.func4 (by kernel_rfl)
    (of_decide_eq_true (by kernel_rfl)) (by unfold Func.isWrapper; first | (rw [if_pos (by decide +kernel)]; kernel_rfl) | (rw [if_neg (by decide +kernel)]; exact ⟨rfl, rfl⟩))
    (fun os started H enc _ => liftedFnExactDropPart os started H enc)
end Go.Proofs.Ytohjaenckkppaaa
