/- The law FnExactGoodProps: it holds whatever the input. -/
import Derived.Test.YteohnapehmdgaaaDoorAR0
import Derived.Test.YteohnapehmdgaaaDoorAGC
import Derived.Test.YteohnapehmdgaaaDoorTie
import Derived.Test.YteohnapehmdgaaaDoorCards
import Derived.ProofKit
import Derived.OpenShut
import Derived.LaidMore
import Derived.Lay
import Derived.LaidOnce
import Derived.SevenTiedAt
import Derived.Stop.Joined
set_option linter.unusedSimpArgs false
set_option linter.unusedVariables false
set_option maxRecDepth 100000
namespace Go.Proofs.YteohnapehmdgaaaDoor
open Go.ChangeShapes Go.WideShapes Go.RowKit Go.Av
/-! The law FnExactGoodProps: it holds whatever the input. -/
theorem opFnExactGoodProps2 : Opens Tryd.prog 9 (fun x : ByteArray => [S x]) (fun x => x.size ≤ 9223372036854775807) := (opens_string (by kernel_rfl)).map id (fun _ => rfl) (fun _ h => h)
theorem opFnExactGoodProps3 : Opens Tryd.prog 9 (fun x : ByteArray => [S x]) (fun x => x.size ≤ 9223372036854775807) := (opens_string (by kernel_rfl)).map id (fun _ => rfl) (fun _ h => h)
theorem opFnExactGoodProps1 : Opens Tryd.prog 38 eProp (fun x : GProp => wfProp 9223372036854775807 x) := (opens_struct (tot := 1 + (1 + 0)) Tryd.underlying38 (by kernel_rfl) (OpensF.cons (by kernel_rfl) (by kernel_rfl) opFnExactGoodProps2 (.cons (by kernel_rfl) (by kernel_rfl) opFnExactGoodProps3 .nil))).map (fun x => (⟨x.1, x.2.1⟩ : GProp)) (fun _ => rfl) (fun x h => by obtain ⟨h0, h1, _⟩ := h; exact ⟨h0, h1⟩)
theorem argFnExactGoodProps0 : OpensA Tryd.prog 22 (fun x : List GProp => .row false 2 x.length (x.flatMap eProp)) (fun x => x.length ≤ 9223372036854775807 ∧ (∀ y ∈ x, wfProp 9223372036854775807 y)) := (opensA_slice (t := 22) (e := 38) (sz := 2) (by kernel_rfl) (by kernel_rfl) (by decide) opFnExactGoodProps1).map id (fun _ => rfl) (fun _ h => ⟨h.1, h.2.2⟩)
theorem argsFnExactGoodProps : OpensAll Tryd.prog [22] (fun p : (List GProp) × Unit => [.row false 2 p.1.length (p.1.flatMap eProp)]) (fun p => (p.1.length ≤ 9223372036854775807 ∧ (∀ y ∈ p.1, wfProp 9223372036854775807 y)) ∧ True) := OpensAll.cons argFnExactGoodProps0 .nil
theorem liftedFnExactGoodProps (os : Os) (started : os.Started) (H : Type) (enc : TypeId × Value → H) :
    ReturnsInHanded {} Tryd.checked os 3 .any (fun w args => (Rows.fnExactGoodPropsSpec.pre enc Tryd.prog Tryd.f3 Rows.fnExactGoodPropsRow.domain false w args ∧ laidMetH Tryd.prog Rows.fnExactGoodPropsRow.laid w) ∧ sizedMet enc Tryd.prog Tryd.f3 (OpenSpec.ofChange Rows.fnExactGoodPropsSpec) false w args)
      (Rows.fnExactGoodPropsSpec.post enc Tryd.prog Tryd.f3 false true false false) := by
  refine returnsInHanded_of_change_and (C := Tryd.checked) (X := fun w _ => laidMetH Tryd.prog Rows.fnExactGoodPropsRow.laid w) (fun _ _ _ hh h => h.of_heap hh) Tryd.own started (by kernel_rfl) Tryd.func3
    (ChangeSpec.witness_shaped (enc := enc) (C := Tryd.checked) (os := os) (X := fun w _ => laidMetH Tryd.prog Rows.fnExactGoodPropsRow.laid w) false (World.laidAll Tryd.prog os Rows.fnExactGoodPropsRow.laid) #[.slice none 0 0] 8 (World.laidAll_os _ _ _)
      (World.shaped_of_ZipB (by kernel_rfl) (by kernel_rfl)) (by kernel_rfl) (by kernel_rfl) (by kernel_rfl)
      (by rw [MakeChecks.laidMetH_plain _ _ _ (by kernel_rfl)]; exact laidMet_laidAll _ (by kernel_rfl) (by kernel_rfl))) ?_
  intro W base args ds gs before hval hW _ _ _ _
  refine law_calls (P := Tryd.prog) (tb := 4) Tryd.laidOut (of_decide_eq_true (by kernel_rfl)) rfl (by kernel_rfl) (by kernel_rfl) argsFnExactGoodProps (fun y hy => lawGP_does y.1 hy.1.1 hy.1.2) W base args ds gs before (fun hl => ?_) hval hW
  match ds, hl with
  | [d0], _ => exact ⟨rfl, rfl, rfl⟩
theorem fnExactGoodProps : Rows.FnExactGoodPropsSaid :=
  OpenClaim.holds_of_wide 3 Tryd.f3 rfl rfl rfl rfl rfl rfl rfl ⟨rfl, rfl, rfl, rfl, rfl⟩ rfl rfl rfl rfl rfl (by kernel_rfl) Tryd.func3 (by kernel_rfl)
    (of_decide_eq_true (by kernel_rfl)) (by unfold Func.isWrapper; first | (rw [if_pos (by decide +kernel)]; kernel_rfl) | (rw [if_neg (by decide +kernel)]; exact ⟨rfl, rfl⟩))
    (fun os started H enc _ => liftedFnExactGoodProps os started H enc)
theorem fnExactGoodPropsCard : Rows.FnExactGoodPropsCardSaid :=
  Claim7.holds_tied_plain_at .later [] [.data, .pinned] true Rows.fnExactGoodPropsCard.stood.harness false fnExactGoodProps (fun _ h => by cases h) (by kernel_rfl) (fun _ h => by cases h) fnExactGoodProps_row_tie rfl ⟨rfl, rfl⟩ (by kernel_rfl) rfl
    (fun f fn hf hfn => by
      obtain rfl : f = 3 := Option.some.inj ((show Tryd.prog.funcNamed Rows.fnExactGoodPropsRow.func = some 3 by kernel_rfl).symm.trans hf) |>.symm
      obtain rfl : fn = Tryd.f3 := (Option.some.inj (Tryd.func3.symm.trans hfn)).symm
      exact ⟨by kernel_rfl, fun j t ht => by
        rw [Tryd.params3] at ht
        have hm : t ∈ [22] := by simpa using Array.mem_of_getElem? ht
        have hall : ([22].all fun u => !Tryd.prog.wantsStandIn u) = true := by kernel_rfl
        exact (show Tryd.prog.wantsStandIn t = false by simpa using List.all_eq_true.1 hall t hm)⟩)
    (by kernel_rfl)
end Go.Proofs.YteohnapehmdgaaaDoor
