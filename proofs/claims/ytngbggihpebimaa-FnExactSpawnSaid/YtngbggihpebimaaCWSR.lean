/- The law FnExactSpawn: it holds whatever the input. -/
import Derived.Test.YtngbggihpebimaaCR0
import Derived.Test.YtngbggihpebimaaCWSC
set_option linter.unusedSimpArgs false
set_option linter.unusedVariables false
set_option maxRecDepth 100000
namespace Go.Proofs.Ytngbggihpebimaa
open Go.ChangeShapes Go.WideShapes Go.RowKit Go.Av
/-! The law FnExactSpawn: it holds whatever the input. -/
theorem opFnExactSpawn2 : Opens Try.prog 3 (fun x : Int => [I x]) (fun x => True) := (opens_int (k := .i64) (by kernel_rfl)).map id (fun _ => rfl) (fun _ _ => trivial)
theorem opFnExactSpawn3 : Opens Try.prog 3 (fun x : Int => [I x]) (fun x => True) := (opens_int (k := .i64) (by kernel_rfl)).map id (fun _ => rfl) (fun _ _ => trivial)
theorem opFnExactSpawn6 : Opens Try.prog 3 (fun x : Int => [I x]) (fun x => True) := (opens_int (k := .i64) (by kernel_rfl)).map id (fun _ => rfl) (fun _ _ => trivial)
theorem opFnExactSpawn9 : Opens Try.prog 9 (fun x : ByteArray => [S x]) (fun x => x.size ≤ 9223372036854775807) := (opens_string (by kernel_rfl)).map id (fun _ => rfl) (fun _ h => h)
theorem opFnExactSpawn10 : Opens Try.prog 3 (fun x : Int => [I x]) (fun x => True) := (opens_int (k := .i64) (by kernel_rfl)).map id (fun _ => rfl) (fun _ _ => trivial)
theorem opFnExactSpawn11 : Opens Try.prog 3 (fun x : Int => [I x]) (fun x => True) := (opens_int (k := .i64) (by kernel_rfl)).map id (fun _ => rfl) (fun _ _ => trivial)
theorem opFnExactSpawn8 : Opens Try.prog 204 ePart (fun x : GPart => wfPart 9223372036854775807 x) := (opens_struct (tot := 1 + (1 + (1 + 0))) Try.underlying204 (by kernel_rfl) (OpensF.cons (by kernel_rfl) (by kernel_rfl) opFnExactSpawn9 (.cons (by kernel_rfl) (by kernel_rfl) opFnExactSpawn10 (.cons (by kernel_rfl) (by kernel_rfl) opFnExactSpawn11 .nil)))).map (fun x => (⟨x.1, x.2.1, x.2.2.1⟩ : GPart)) (fun _ => rfl) (fun x h => by obtain ⟨h0, _, _, _⟩ := h; exact h0)
theorem opFnExactSpawn7 : Opens Try.prog 175 (fun x : List GPart => [.row false 3 x.length (x.flatMap ePart)]) (fun x => x.length ≤ 9223372036854775807 ∧ (∀ y ∈ x, wfPart 9223372036854775807 y)) := (opens_slice (e := 204) (sz := 3) (by kernel_rfl) (by kernel_rfl) (by decide) opFnExactSpawn8).map id (fun _ => rfl) (fun _ h => ⟨h.1, h.2.2⟩)
theorem opFnExactSpawn5 : Opens Try.prog 177 eEntity (fun x : GEntity => wfEntity 9223372036854775807 x) := (opens_struct (tot := 1 + (1 + 0)) Try.underlying177 (by kernel_rfl) (OpensF.cons (by kernel_rfl) (by kernel_rfl) opFnExactSpawn6 (.cons (by kernel_rfl) (by kernel_rfl) opFnExactSpawn7 .nil))).map (fun x => (⟨x.1, x.2.1⟩ : GEntity)) (fun _ => rfl) (fun x h => by obtain ⟨_, h1, _⟩ := h; exact ⟨h1.1, h1.2⟩)
theorem opFnExactSpawn4 : Opens Try.prog 39 (fun x : List GEntity => [.row false 2 x.length (x.flatMap eEntity)]) (fun x => x.length ≤ 9223372036854775807 ∧ (∀ y ∈ x, wfEntity 9223372036854775807 y)) := (opens_slice (e := 177) (sz := 2) (by kernel_rfl) (by kernel_rfl) (by decide) opFnExactSpawn5).map id (fun _ => rfl) (fun _ h => ⟨h.1, h.2.2⟩)
theorem opFnExactSpawn1 : Opens Try.prog 41 eWorld (fun x : GWorld => wfWorld 9223372036854775807 x) := (opens_struct (tot := 1 + (1 + (1 + 0))) Try.underlying41 (by kernel_rfl) (OpensF.cons (by kernel_rfl) (by kernel_rfl) opFnExactSpawn2 (.cons (by kernel_rfl) (by kernel_rfl) opFnExactSpawn3 (.cons (by kernel_rfl) (by kernel_rfl) opFnExactSpawn4 .nil)))).map (fun x => (⟨x.1, x.2.1, x.2.2.1⟩ : GWorld)) (fun _ => rfl) (fun x h => by obtain ⟨_, _, h2, _⟩ := h; exact ⟨h2.1, h2.2⟩)
theorem argFnExactSpawn0 : OpensA Try.prog 41 (fun x : GWorld => .agg (eWorld x)) (fun x => wfWorld 9223372036854775807 x) := opensA_struct Try.underlying41 opFnExactSpawn1
theorem argsFnExactSpawn : OpensAll Try.prog [41] (fun p : GWorld × Unit => [.agg (eWorld p.1)]) (fun p => (wfWorld 9223372036854775807 p.1) ∧ True) := OpensAll.cons argFnExactSpawn0 .nil
theorem liftedFnExactSpawn (os : Os) (started : os.Started) (H : Type) (enc : TypeId × Value → H) :
    ReturnsInHanded {} Try.checked os 11 .any (Rows.fnExactSpawnSpec.pre6 enc Try.prog Try.f11 Rows.fnExactSpawnRow.domain false) (Rows.fnExactSpawnSpec.post enc Try.prog Try.f11 false true false false) := by
  refine returnsInHanded_of_change (C := Try.checked) Try.own started (by kernel_rfl) Try.func11
    (ChangeSpec.witness6 (enc := enc) (C := Try.checked) false ⟨#[], #[.agg #[.int .i64 0, .int .i64 0, .slice none 0 0]], []⟩ 8 (by kernel_rfl) (by kernel_rfl) (by kernel_rfl) (by kernel_rfl)) ?_
  intro W base args ds gs before hval hW _ _
  refine law_calls (P := Try.prog) (tb := 4) Try.laidOut (of_decide_eq_true (by kernel_rfl)) rfl (by kernel_rfl) (by kernel_rfl) argsFnExactSpawn (fun y hy => lawSP_does y.1 hy.1) W base args ds gs before (fun hl => ?_) hval hW
  match ds, hl with
  | [d0], _ => exact ⟨rfl, rfl, rfl⟩
theorem fnExactSpawn : Rows.FnExactSpawnSaid :=
  OpenClaim.holds_of_wide 11 Try.f11 rfl rfl rfl rfl rfl rfl rfl ⟨rfl, rfl, rfl, rfl, rfl⟩ rfl rfl rfl rfl rfl (by kernel_rfl) Try.func11 (by kernel_rfl)
    (of_decide_eq_true (by kernel_rfl)) (by unfold Func.isWrapper; first | (rw [if_pos (by decide +kernel)]; kernel_rfl) | (rw [if_neg (by decide +kernel)]; exact ⟨rfl, rfl⟩))
    (fun os started H enc _ => liftedFnExactSpawn os started H enc)
end Go.Proofs.Ytngbggihpebimaa
