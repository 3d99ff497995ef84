/- The law FnExactGoodEdited: it holds whatever the input. -/
import Derived.Test.YtlcdgjgenccakaaDoorAK4
import Derived.Test.YtlcdgjgenccakaaDoorAK6
import Derived.Test.YtlcdgjgenccakaaDoorTie
import Derived.Test.YtlcdgjgenccakaaDoorCards
import Derived.ProofKit
import Derived.OpenShut
import Derived.LaidMore
import Derived.Lay
import Derived.LaidOnce
import Derived.SevenTiedAt
import Derived.Stop.Joined
set_option linter.unusedSimpArgs false
set_option linter.unusedVariables false
set_option maxRecDepth 100000
namespace Go.Proofs.YtlcdgjgenccakaaDoor
open Go.ChangeShapes Go.WideShapes Go.RowKit Go.Av
/-! The law FnExactGoodEdited: it holds whatever the input. -/
theorem opFnExactGoodEdited4 : Opens Tryd.prog 9 (fun x : ByteArray => [S x]) (fun x => x.size ≤ 9223372036854775807) := (opens_string (by kernel_rfl)).map id (fun _ => rfl) (fun _ h => h)
theorem opFnExactGoodEdited5 : Opens Tryd.prog 9 (fun x : ByteArray => [S x]) (fun x => x.size ≤ 9223372036854775807) := (opens_string (by kernel_rfl)).map id (fun _ => rfl) (fun _ h => h)
theorem opFnExactGoodEdited3 : Opens Tryd.prog 68 eProp (fun x : GProp => wfProp 9223372036854775807 x) := (opens_struct (tot := 1 + (1 + 0)) Tryd.underlying68 (by kernel_rfl) (OpensF.cons (by kernel_rfl) (by kernel_rfl) opFnExactGoodEdited4 (.cons (by kernel_rfl) (by kernel_rfl) opFnExactGoodEdited5 .nil))).map (fun x => (⟨x.1, x.2.1⟩ : GProp)) (fun _ => rfl) (fun x h => by obtain ⟨h0, h1, _⟩ := h; exact ⟨h0, h1⟩)
theorem opFnExactGoodEdited2 : Opens Tryd.prog 22 (fun x : List GProp => [.row false 2 x.length (x.flatMap eProp)]) (fun x => x.length ≤ 9223372036854775807 ∧ (∀ y ∈ x, wfProp 9223372036854775807 y)) := (opens_slice (e := 68) (sz := 2) (by kernel_rfl) (by kernel_rfl) (by decide) opFnExactGoodEdited3).map id (fun _ => rfl) (fun _ h => ⟨h.1, h.2.2⟩)
theorem opFnExactGoodEdited8 : Opens Tryd.prog 9 (fun x : ByteArray => [S x]) (fun x => x.size ≤ 9223372036854775807) := (opens_string (by kernel_rfl)).map id (fun _ => rfl) (fun _ h => h)
theorem opFnExactGoodEdited9 : Opens Tryd.prog 9 (fun x : ByteArray => [S x]) (fun x => x.size ≤ 9223372036854775807) := (opens_string (by kernel_rfl)).map id (fun _ => rfl) (fun _ h => h)
theorem opFnExactGoodEdited10 : Opens Tryd.prog 4 (fun x : Bool => [B x]) (fun x => True) := (opens_bool (by kernel_rfl)).map id (fun _ => rfl) (fun _ _ => trivial)
theorem opFnExactGoodEdited11 : Opens Tryd.prog 9 (fun x : ByteArray => [S x]) (fun x => x.size ≤ 9223372036854775807) := (opens_string (by kernel_rfl)).map id (fun _ => rfl) (fun _ h => h)
theorem opFnExactGoodEdited12 : Opens Tryd.prog 4 (fun x : Bool => [B x]) (fun x => True) := (opens_bool (by kernel_rfl)).map id (fun _ => rfl) (fun _ _ => trivial)
theorem opFnExactGoodEdited7 : Opens Tryd.prog 70 eStep (fun x : Av.GStep => wfStep 9223372036854775807 x) := (opens_struct (tot := 1 + (1 + (1 + (1 + (1 + 0))))) Tryd.underlying70 (by kernel_rfl) (OpensF.cons (by kernel_rfl) (by kernel_rfl) opFnExactGoodEdited8 (.cons (by kernel_rfl) (by kernel_rfl) opFnExactGoodEdited9 (.cons (by kernel_rfl) (by kernel_rfl) opFnExactGoodEdited10 (.cons (by kernel_rfl) (by kernel_rfl) opFnExactGoodEdited11 (.cons (by kernel_rfl) (by kernel_rfl) opFnExactGoodEdited12 .nil)))))).map (fun x => (⟨x.1, x.2.1, x.2.2.1, x.2.2.2.1, x.2.2.2.2.1⟩ : Av.GStep)) (fun _ => rfl) (fun x h => by obtain ⟨h0, h1, _, h3, _, _⟩ := h; exact ⟨h0, h1, h3⟩)
theorem opFnExactGoodEdited6 : Opens Tryd.prog 23 (fun x : List Av.GStep => [.row false 5 x.length (x.flatMap eStep)]) (fun x => x.length ≤ 9223372036854775807 ∧ (∀ y ∈ x, wfStep 9223372036854775807 y)) := (opens_slice (e := 70) (sz := 5) (by kernel_rfl) (by kernel_rfl) (by decide) opFnExactGoodEdited7).map id (fun _ => rfl) (fun _ h => ⟨h.1, h.2.2⟩)
theorem opFnExactGoodEdited15 : Opens Tryd.prog 9 (fun x : ByteArray => [S x]) (fun x => x.size ≤ 9223372036854775807) := (opens_string (by kernel_rfl)).map id (fun _ => rfl) (fun _ h => h)
theorem opFnExactGoodEdited16 : Opens Tryd.prog 9 (fun x : ByteArray => [S x]) (fun x => x.size ≤ 9223372036854775807) := (opens_string (by kernel_rfl)).map id (fun _ => rfl) (fun _ h => h)
theorem opFnExactGoodEdited17 : Opens Tryd.prog 4 (fun x : Bool => [B x]) (fun x => True) := (opens_bool (by kernel_rfl)).map id (fun _ => rfl) (fun _ _ => trivial)
theorem opFnExactGoodEdited18 : Opens Tryd.prog 9 (fun x : ByteArray => [S x]) (fun x => x.size ≤ 9223372036854775807) := (opens_string (by kernel_rfl)).map id (fun _ => rfl) (fun _ h => h)
theorem opFnExactGoodEdited19 : Opens Tryd.prog 4 (fun x : Bool => [B x]) (fun x => True) := (opens_bool (by kernel_rfl)).map id (fun _ => rfl) (fun _ _ => trivial)
theorem opFnExactGoodEdited14 : Opens Tryd.prog 70 eStep (fun x : Av.GStep => wfStep 9223372036854775807 x) := (opens_struct (tot := 1 + (1 + (1 + (1 + (1 + 0))))) Tryd.underlying70 (by kernel_rfl) (OpensF.cons (by kernel_rfl) (by kernel_rfl) opFnExactGoodEdited15 (.cons (by kernel_rfl) (by kernel_rfl) opFnExactGoodEdited16 (.cons (by kernel_rfl) (by kernel_rfl) opFnExactGoodEdited17 (.cons (by kernel_rfl) (by kernel_rfl) opFnExactGoodEdited18 (.cons (by kernel_rfl) (by kernel_rfl) opFnExactGoodEdited19 .nil)))))).map (fun x => (⟨x.1, x.2.1, x.2.2.1, x.2.2.2.1, x.2.2.2.2.1⟩ : Av.GStep)) (fun _ => rfl) (fun x h => by obtain ⟨h0, h1, _, h3, _, _⟩ := h; exact ⟨h0, h1, h3⟩)
theorem opFnExactGoodEdited13 : Opens Tryd.prog 23 (fun x : List Av.GStep => [.row false 5 x.length (x.flatMap eStep)]) (fun x => x.length ≤ 9223372036854775807 ∧ (∀ y ∈ x, wfStep 9223372036854775807 y)) := (opens_slice (e := 70) (sz := 5) (by kernel_rfl) (by kernel_rfl) (by decide) opFnExactGoodEdited14).map id (fun _ => rfl) (fun _ h => ⟨h.1, h.2.2⟩)
theorem opFnExactGoodEdited1 : Opens Tryd.prog 25 eEdited (fun x : GEdited => wfEdited 9223372036854775807 x) := (opens_struct (tot := 1 + (1 + (1 + 0))) Tryd.underlying25 (by kernel_rfl) (OpensF.cons (by kernel_rfl) (by kernel_rfl) opFnExactGoodEdited2 (.cons (by kernel_rfl) (by kernel_rfl) opFnExactGoodEdited6 (.cons (by kernel_rfl) (by kernel_rfl) opFnExactGoodEdited13 .nil)))).map (fun x => (⟨x.1, x.2.1, x.2.2.1⟩ : GEdited)) (fun _ => rfl) (fun x h => by obtain ⟨h0, h1, h2, _⟩ := h; exact ⟨h0.1, h0.2, h1.1, h1.2, h2.1, h2.2⟩)
theorem argFnExactGoodEdited0 : OpensA Tryd.prog 25 (fun x : GEdited => .agg (eEdited x)) (fun x => wfEdited 9223372036854775807 x) := opensA_struct Tryd.underlying25 opFnExactGoodEdited1
theorem argsFnExactGoodEdited : OpensAll Tryd.prog [25] (fun p : GEdited × Unit => [.agg (eEdited p.1)]) (fun p => (wfEdited 9223372036854775807 p.1) ∧ True) := OpensAll.cons argFnExactGoodEdited0 .nil
theorem liftedFnExactGoodEdited (os : Os) (started : os.Started) (H : Type) (enc : TypeId × Value → H) :
    ReturnsInHanded {} Tryd.checked os 3 .any (fun w args => (Rows.fnExactGoodEditedSpec.pre enc Tryd.prog Tryd.f3 Rows.fnExactGoodEditedRow.domain false w args ∧ laidMetH Tryd.prog Rows.fnExactGoodEditedRow.laid w) ∧ sizedMet enc Tryd.prog Tryd.f3 (OpenSpec.ofChange Rows.fnExactGoodEditedSpec) false w args)
      (Rows.fnExactGoodEditedSpec.post enc Tryd.prog Tryd.f3 false true false false) := by
  refine returnsInHanded_of_change_and (C := Tryd.checked) (X := fun w _ => laidMetH Tryd.prog Rows.fnExactGoodEditedRow.laid w) (fun _ _ _ hh h => h.of_heap hh) Tryd.own started (by kernel_rfl) Tryd.func3
    (ChangeSpec.witness_shaped (enc := enc) (C := Tryd.checked) (os := os) (X := fun w _ => laidMetH Tryd.prog Rows.fnExactGoodEditedRow.laid w) false (World.laidAll Tryd.prog os Rows.fnExactGoodEditedRow.laid) #[.agg #[.slice none 0 0, .slice none 0 0, .slice none 0 0]] 8 (World.laidAll_os _ _ _)
      (World.shaped_of_ZipB (by kernel_rfl) (by kernel_rfl)) (by kernel_rfl) (by kernel_rfl) (by kernel_rfl)
      (by rw [MakeChecks.laidMetH_plain _ _ _ (by kernel_rfl)]; exact laidMet_laidAll _ (by kernel_rfl) (by kernel_rfl))) ?_
  intro W base args ds gs before hval hW _ _ _ _
  refine law_calls (P := Tryd.prog) (tb := 4) Tryd.laidOut (of_decide_eq_true (by kernel_rfl)) rfl (by kernel_rfl) (by kernel_rfl) argsFnExactGoodEdited (fun y hy => lawGE_does y.1 hy.1) W base args ds gs before (fun hl => ?_) hval hW
  match ds, hl with
  | [d0], _ => exact ⟨rfl, rfl, rfl⟩
theorem fnExactGoodEdited : Rows.FnExactGoodEditedSaid :=
  OpenClaim.holds_of_wide 3 Tryd.f3 rfl rfl rfl rfl rfl rfl rfl ⟨rfl, rfl, rfl, rfl, rfl⟩ rfl rfl rfl rfl rfl (by kernel_rfl) Tryd.func3 (by kernel_rfl)
    (of_decide_eq_true (by kernel_rfl)) (by unfold Func.isWrapper; first | (rw [if_pos (by decide +kernel)]; kernel_rfl) | (rw [if_neg (by decide +kernel)]; exact ⟨rfl, rfl⟩))
    (fun os started H enc _ => liftedFnExactGoodEdited os started H enc)
theorem fnExactGoodEditedCard : Rows.FnExactGoodEditedCardSaid :=
  Claim7.holds_tied_plain_at .later [] [.data, .pinned] true Rows.fnExactGoodEditedCard.stood.harness false fnExactGoodEdited (fun _ h => by cases h) (by kernel_rfl) (fun _ h => by cases h) fnExactGoodEdited_row_tie rfl ⟨rfl, rfl⟩ (by kernel_rfl) rfl
    (fun f fn hf hfn => by
      obtain rfl : f = 3 := Option.some.inj ((show Tryd.prog.funcNamed Rows.fnExactGoodEditedRow.func = some 3 by kernel_rfl).symm.trans hf) |>.symm
      obtain rfl : fn = Tryd.f3 := (Option.some.inj (Tryd.func3.symm.trans hfn)).symm
      exact ⟨by kernel_rfl, fun j t ht => by
        rw [Tryd.params3] at ht
        have hm : t ∈ [25] := by simpa using Array.mem_of_getElem? ht
        have hall : ([25].all fun u => !Tryd.prog.wantsStandIn u) = true := by kernel_rfl
        exact (show Tryd.prog.wantsStandIn t = false by simpa using List.all_eq_true.1 hall t hm)⟩)
    (by kernel_rfl)
end Go.Proofs.YtlcdgjgenccakaaDoor
