/- The law FnExactDespawn: it holds whatever the input. -/
import Derived.Test.YtohjaenckkppaaaBR0
import Derived.Test.YtohjaenckkppaaaBFC
set_option linter.unusedSimpArgs false
set_option linter.unusedVariables false
set_option maxRecDepth 100000
namespace Go.Proofs.Ytohjaenckkppaaa
open Go.ChangeShapes Go.WideShapes Go.RowKit Go.Av
/-! The law FnExactDespawn: it holds whatever the input. -/
theorem opFnExactDespawn2 : Opens Try.prog 3 (fun x : Int => [I x]) (fun x => True) := (opens_int (k := .i64) (by kernel_rfl)).map id (fun _ => rfl) (fun _ _ => trivial)
theorem opFnExactDespawn3 : Opens Try.prog 3 (fun x : Int => [I x]) (fun x => True) := (opens_int (k := .i64) (by kernel_rfl)).map id (fun _ => rfl) (fun _ _ => trivial)
theorem opFnExactDespawn6 : Opens Try.prog 3 (fun x : Int => [I x]) (fun x => True) := (opens_int (k := .i64) (by kernel_rfl)).map id (fun _ => rfl) (fun _ _ => trivial)
theorem opFnExactDespawn9 : Opens Try.prog 9 (fun x : ByteArray => [S x]) (fun x => x.size ≤ 9223372036854775807) := (opens_string (by kernel_rfl)).map id (fun _ => rfl) (fun _ h => h)
theorem opFnExactDespawn10 : Opens Try.prog 3 (fun x : Int => [I x]) (fun x => True) := (opens_int (k := .i64) (by kernel_rfl)).map id (fun _ => rfl) (fun _ _ => trivial)
theorem opFnExactDespawn11 : Opens Try.prog 3 (fun x : Int => [I x]) (fun x => True) := (opens_int (k := .i64) (by kernel_rfl)).map id (fun _ => rfl) (fun _ _ => trivial)
theorem opFnExactDespawn8 : Opens Try.prog 81 ePart (fun x : GPart => wfPart 9223372036854775807 x) := (opens_struct (tot := 1 + (1 + (1 + 0))) Try.underlying81 (by kernel_rfl) (OpensF.cons (by kernel_rfl) (by kernel_rfl) opFnExactDespawn9 (.cons (by kernel_rfl) (by kernel_rfl) opFnExactDespawn10 (.cons (by kernel_rfl) (by kernel_rfl) opFnExactDespawn11 .nil)))).map (fun x => (⟨x.1, x.2.1, x.2.2.1⟩ : GPart)) (fun _ => rfl) (fun x h => by obtain ⟨h0, _, _, _⟩ := h; exact h0)
theorem opFnExactDespawn7 : Opens Try.prog 60 (fun x : List GPart => [.row false 3 x.length (x.flatMap ePart)]) (fun x => x.length ≤ 9223372036854775807 ∧ (∀ y ∈ x, wfPart 9223372036854775807 y)) := (opens_slice (e := 81) (sz := 3) (by kernel_rfl) (by kernel_rfl) (by decide) opFnExactDespawn8).map id (fun _ => rfl) (fun _ h => ⟨h.1, h.2.2⟩)
theorem opFnExactDespawn5 : Opens Try.prog 62 eEntity (fun x : GEntity => wfEntity 9223372036854775807 x) := (opens_struct (tot := 1 + (1 + 0)) Try.underlying62 (by kernel_rfl) (OpensF.cons (by kernel_rfl) (by kernel_rfl) opFnExactDespawn6 (.cons (by kernel_rfl) (by kernel_rfl) opFnExactDespawn7 .nil))).map (fun x => (⟨x.1, x.2.1⟩ : GEntity)) (fun _ => rfl) (fun x h => by obtain ⟨_, h1, _⟩ := h; exact ⟨h1.1, h1.2⟩)
theorem opFnExactDespawn4 : Opens Try.prog 22 (fun x : List GEntity => [.row false 2 x.length (x.flatMap eEntity)]) (fun x => x.length ≤ 9223372036854775807 ∧ (∀ y ∈ x, wfEntity 9223372036854775807 y)) := (opens_slice (e := 62) (sz := 2) (by kernel_rfl) (by kernel_rfl) (by decide) opFnExactDespawn5).map id (fun _ => rfl) (fun _ h => ⟨h.1, h.2.2⟩)
theorem opFnExactDespawn1 : Opens Try.prog 24 eWorld (fun x : GWorld => wfWorld 9223372036854775807 x) := (opens_struct (tot := 1 + (1 + (1 + 0))) Try.underlying24 (by kernel_rfl) (OpensF.cons (by kernel_rfl) (by kernel_rfl) opFnExactDespawn2 (.cons (by kernel_rfl) (by kernel_rfl) opFnExactDespawn3 (.cons (by kernel_rfl) (by kernel_rfl) opFnExactDespawn4 .nil)))).map (fun x => (⟨x.1, x.2.1, x.2.2.1⟩ : GWorld)) (fun _ => rfl) (fun x h => by obtain ⟨_, _, h2, _⟩ := h; exact ⟨h2.1, h2.2⟩)
theorem argFnExactDespawn0 : OpensA Try.prog 24 (fun x : GWorld => .agg (eWorld x)) (fun x => wfWorld 9223372036854775807 x) := opensA_struct Try.underlying24 opFnExactDespawn1
theorem argFnExactDespawn1 : OpensA Try.prog 3 (fun x : Int => I x) (fun x => True) := (opensA_int (k := .i64) (by kernel_rfl)).map id (fun _ => rfl) (fun _ _ => trivial)
theorem argsFnExactDespawn : OpensAll Try.prog [24, 3] (fun p : GWorld × Int × Unit => [.agg (eWorld p.1), I p.2.1]) (fun p => (wfWorld 9223372036854775807 p.1) ∧ (True) ∧ True) := OpensAll.cons argFnExactDespawn0 (.cons argFnExactDespawn1 .nil)
theorem liftedFnExactDespawn (os : Os) (started : os.Started) (H : Type) (enc : TypeId × Value → H) :
    ReturnsInHanded {} Try.checked os 3 .any (Rows.fnExactDespawnSpec.pre6 enc Try.prog Try.f3 Rows.fnExactDespawnRow.domain false) (Rows.fnExactDespawnSpec.post enc Try.prog Try.f3 false true false false) := by
  refine returnsInHanded_of_change (C := Try.checked) Try.own started (by kernel_rfl) Try.func3
    (ChangeSpec.witness6 (enc := enc) (C := Try.checked) false ⟨#[], #[.agg #[.int .i64 0, .int .i64 0, .slice none 0 0], .int .i64 0], []⟩ 8 (by kernel_rfl) (by kernel_rfl) (by kernel_rfl) (by kernel_rfl)) ?_
  intro W base args ds gs before hval hW _ _
  refine law_calls (P := Try.prog) (tb := 4) Try.laidOut (of_decide_eq_true (by kernel_rfl)) rfl (by kernel_rfl) (by kernel_rfl) argsFnExactDespawn (fun y hy => lawDE_does y.1 y.2.1 hy.1) W base args ds gs before (fun hl => ?_) hval hW
  match ds, hl with
  | [d0, d1], _ => exact ⟨rfl, rfl, rfl⟩
theorem fnExactDespawn : Rows.FnExactDespawnSaid :=
  OpenClaim.holds_of_wide 3 Try.f3 rfl rfl rfl rfl rfl rfl rfl ⟨rfl, rfl, rfl, rfl, rfl⟩ rfl rfl rfl rfl rfl (by kernel_rfl) Try.func3 (by kernel_rfl)
    (of_decide_eq_true (by kernel_rfl)) (by unfold Func.isWrapper; first | (rw [if_pos (by decide +kernel)]; kernel_rfl) | (rw [if_neg (by decide +kernel)]; exact ⟨rfl, rfl⟩))
    (fun os started H enc _ => liftedFnExactDespawn os started H enc)
end Go.Proofs.Ytohjaenckkppaaa
