/- The law FnExactFrameBudget returns true for every input; no conditions. -/
import Derived.Test.YtnmnkcmogbencaaP6
import Derived.Test.YtnmnkcmogbencaaZzN
import Derived.Test.YtnmnkcmogbencaaRows
set_option linter.unusedSimpArgs false
set_option linter.unusedVariables false
set_option maxRecDepth 100000
namespace Go.Proofs.Ytnmnkcmogbencaa
open Go.ChangeShapes Go.WideShapes Go.RowKit Go.Av

theorem Try.own : ownKnob Try.prog.godebug = none := by kernel_rfl
theorem Try.laidOut : laidOutB Try.prog = true := by kernel_rfl

theorem opensRowI {P : Program} {t e : TypeId} (ht : P.underlying t = some (.slice e)) (he : P.underlying e = some (.int .i64)) (hc : P.cellsOf e = 1) :
    OpensA P t rowI (fun l => l.length ≤ 9223372036854775807 ∧ ∀ n ∈ l, (Lit.int .i64 n).wf = true) :=
  (opensA_slice ht hc (by decide) (opens_int he)).map id (fun l => by simp [rowI, encI, List.map_eq_flatMap]) (fun l h => ⟨h.1, h.2.2⟩)

theorem fbArgs : OpensAll Try.prog [22, 3] (fun p : List Int × Int × Unit => [rowI p.1, I p.2.1]) (fun p => p.1.length ≤ 9223372036854775807) := fun H en w base vs ds ps hv hx => by
  obtain ⟨y, h1, h2⟩ := (OpensAll.cons (opensRowI (t := 22) (e := 3) (by kernel_rfl) (by kernel_rfl) (by kernel_rfl)) (.cons (opensA_int (t := 3) (k := .i64) (by kernel_rfl)) .nil)) H en w base vs ds ps hv hx
  exact ⟨y, h1.1.1, h2⟩

theorem lifted (os : Os) (started : os.Started) (H : Type) (enc : TypeId × Value → H) :
    ReturnsInHanded {} Try.checked os 3 .any (Rows.fnExactFrameBudgetSpec.pre6 enc Try.prog Try.f3 Rows.fnExactFrameBudgetRow.domain false) (Rows.fnExactFrameBudgetSpec.post enc Try.prog Try.f3 false true false false) := by
  refine returnsInHanded_of_change (C := Try.checked) Try.own started (by kernel_rfl) Try.func3
    (ChangeSpec.witness6 (enc := enc) (C := Try.checked) false ⟨#[], #[.slice none 0 0, .int .i64 0], []⟩ 8 (by kernel_rfl) (by kernel_rfl) (by kernel_rfl) (by kernel_rfl)) ?_
  intro W base args ds gs before hval hW _ _
  refine law_calls (P := Try.prog) (tb := 4) Try.laidOut (of_decide_eq_true (by kernel_rfl)) rfl (by kernel_rfl) (by kernel_rfl) fbArgs (fun y hy => lawFB_does y.1 y.2.1 hy) W base args ds gs before (fun hl => ?_) hval hW
  match ds, hl with
  | [d1, d2], _ => exact ⟨rfl, rfl, rfl⟩

theorem fnExactFrameBudget : Rows.FnExactFrameBudgetSaid :=
  OpenClaim.holds_of_wide 3 Try.f3 rfl rfl rfl rfl rfl rfl rfl ⟨rfl, rfl, rfl, rfl, rfl⟩ rfl rfl rfl rfl rfl (by kernel_rfl) Try.func3 (by kernel_rfl)
    (of_decide_eq_true (by kernel_rfl)) (by unfold Func.isWrapper; first | (rw [if_pos (by decide +kernel)]; kernel_rfl) | (rw [if_neg (by decide +kernel)]; exact ⟨rfl, rfl⟩))
    (fun os started H enc _ => lifted os started H enc)
end Go.Proofs.Ytnmnkcmogbencaa
