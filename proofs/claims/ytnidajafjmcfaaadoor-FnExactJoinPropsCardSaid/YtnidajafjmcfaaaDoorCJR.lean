/- The law FnExactJoinProps: it holds whatever the input. -/
import Derived.Test.YtnidajafjmcfaaaDoorCK4
import Derived.Test.YtnidajafjmcfaaaDoorCK6
import Derived.Test.YtnidajafjmcfaaaDoorTie
import Derived.Test.YtnidajafjmcfaaaDoorCards
import Derived.ProofKit
import Derived.OpenShut
import Derived.LaidMore
import Derived.Lay
import Derived.LaidOnce
import Derived.SevenTiedAt
import Derived.Stop.Joined
set_option linter.unusedSimpArgs false
set_option linter.unusedVariables false
set_option maxRecDepth 100000
namespace Go.Proofs.YtnidajafjmcfaaaDoor
open Go.ChangeShapes Go.WideShapes Go.RowKit Go.Av
/-! The law FnExactJoinProps: it holds whatever the input. -/
theorem opFnExactJoinProps2 : Opens Tryd.prog 9 (fun x : ByteArray => [S x]) (fun x => x.size ≤ 9223372036854775807) := (opens_string (by kernel_rfl)).map id (fun _ => rfl) (fun _ h => h)
theorem opFnExactJoinProps3 : Opens Tryd.prog 9 (fun x : ByteArray => [S x]) (fun x => x.size ≤ 9223372036854775807) := (opens_string (by kernel_rfl)).map id (fun _ => rfl) (fun _ h => h)
theorem opFnExactJoinProps1 : Opens Tryd.prog 63 eProp (fun x : GProp => wfProp 9223372036854775807 x) := (opens_struct (tot := 1 + (1 + 0)) Tryd.underlying63 (by kernel_rfl) (OpensF.cons (by kernel_rfl) (by kernel_rfl) opFnExactJoinProps2 (.cons (by kernel_rfl) (by kernel_rfl) opFnExactJoinProps3 .nil))).map (fun x => (⟨x.1, x.2.1⟩ : GProp)) (fun _ => rfl) (fun x h => by obtain ⟨h0, h1, _⟩ := h; exact ⟨h0, h1⟩)
theorem argFnExactJoinProps0 : OpensA Tryd.prog 34 (fun x : List GProp => .row false 2 x.length (x.flatMap eProp)) (fun x => x.length ≤ 9223372036854775807 ∧ (∀ y ∈ x, wfProp 9223372036854775807 y)) := (opensA_slice (t := 34) (e := 63) (sz := 2) (by kernel_rfl) (by kernel_rfl) (by decide) opFnExactJoinProps1).map id (fun _ => rfl) (fun _ h => ⟨h.1, h.2.2⟩)
theorem opFnExactJoinProps5 : Opens Tryd.prog 9 (fun x : ByteArray => [S x]) (fun x => x.size ≤ 9223372036854775807) := (opens_string (by kernel_rfl)).map id (fun _ => rfl) (fun _ h => h)
theorem opFnExactJoinProps6 : Opens Tryd.prog 9 (fun x : ByteArray => [S x]) (fun x => x.size ≤ 9223372036854775807) := (opens_string (by kernel_rfl)).map id (fun _ => rfl) (fun _ h => h)
theorem opFnExactJoinProps4 : Opens Tryd.prog 63 eProp (fun x : GProp => wfProp 9223372036854775807 x) := (opens_struct (tot := 1 + (1 + 0)) Tryd.underlying63 (by kernel_rfl) (OpensF.cons (by kernel_rfl) (by kernel_rfl) opFnExactJoinProps5 (.cons (by kernel_rfl) (by kernel_rfl) opFnExactJoinProps6 .nil))).map (fun x => (⟨x.1, x.2.1⟩ : GProp)) (fun _ => rfl) (fun x h => by obtain ⟨h0, h1, _⟩ := h; exact ⟨h0, h1⟩)
theorem argFnExactJoinProps1 : OpensA Tryd.prog 34 (fun x : List GProp => .row false 2 x.length (x.flatMap eProp)) (fun x => x.length ≤ 9223372036854775807 ∧ (∀ y ∈ x, wfProp 9223372036854775807 y)) := (opensA_slice (t := 34) (e := 63) (sz := 2) (by kernel_rfl) (by kernel_rfl) (by decide) opFnExactJoinProps4).map id (fun _ => rfl) (fun _ h => ⟨h.1, h.2.2⟩)
theorem opFnExactJoinProps8 : Opens Tryd.prog 9 (fun x : ByteArray => [S x]) (fun x => x.size ≤ 9223372036854775807) := (opens_string (by kernel_rfl)).map id (fun _ => rfl) (fun _ h => h)
theorem opFnExactJoinProps9 : Opens Tryd.prog 9 (fun x : ByteArray => [S x]) (fun x => x.size ≤ 9223372036854775807) := (opens_string (by kernel_rfl)).map id (fun _ => rfl) (fun _ h => h)
theorem opFnExactJoinProps7 : Opens Tryd.prog 63 eProp (fun x : GProp => wfProp 9223372036854775807 x) := (opens_struct (tot := 1 + (1 + 0)) Tryd.underlying63 (by kernel_rfl) (OpensF.cons (by kernel_rfl) (by kernel_rfl) opFnExactJoinProps8 (.cons (by kernel_rfl) (by kernel_rfl) opFnExactJoinProps9 .nil))).map (fun x => (⟨x.1, x.2.1⟩ : GProp)) (fun _ => rfl) (fun x h => by obtain ⟨h0, h1, _⟩ := h; exact ⟨h0, h1⟩)
theorem argFnExactJoinProps2 : OpensA Tryd.prog 34 (fun x : List GProp => .row false 2 x.length (x.flatMap eProp)) (fun x => x.length ≤ 9223372036854775807 ∧ (∀ y ∈ x, wfProp 9223372036854775807 y)) := (opensA_slice (t := 34) (e := 63) (sz := 2) (by kernel_rfl) (by kernel_rfl) (by decide) opFnExactJoinProps7).map id (fun _ => rfl) (fun _ h => ⟨h.1, h.2.2⟩)
theorem argsFnExactJoinProps : OpensAll Tryd.prog [34, 34, 34] (fun p : (List GProp) × (List GProp) × (List GProp) × Unit => [.row false 2 p.1.length (p.1.flatMap eProp), .row false 2 p.2.1.length (p.2.1.flatMap eProp), .row false 2 p.2.2.1.length (p.2.2.1.flatMap eProp)]) (fun p => (p.1.length ≤ 9223372036854775807 ∧ (∀ y ∈ p.1, wfProp 9223372036854775807 y)) ∧ (p.2.1.length ≤ 9223372036854775807 ∧ (∀ y ∈ p.2.1, wfProp 9223372036854775807 y)) ∧ (p.2.2.1.length ≤ 9223372036854775807 ∧ (∀ y ∈ p.2.2.1, wfProp 9223372036854775807 y)) ∧ True) := OpensAll.cons argFnExactJoinProps0 (.cons argFnExactJoinProps1 (.cons argFnExactJoinProps2 .nil))
theorem liftedFnExactJoinProps (os : Os) (started : os.Started) (H : Type) (enc : TypeId × Value → H) :
    ReturnsInHanded {} Tryd.checked os 5 .any (fun w args => (Rows.fnExactJoinPropsSpec.pre enc Tryd.prog Tryd.f5 Rows.fnExactJoinPropsRow.domain false w args ∧ laidMetH Tryd.prog Rows.fnExactJoinPropsRow.laid w) ∧ sizedMet enc Tryd.prog Tryd.f5 (OpenSpec.ofChange Rows.fnExactJoinPropsSpec) false w args)
      (Rows.fnExactJoinPropsSpec.post enc Tryd.prog Tryd.f5 false true false false) := by
  refine returnsInHanded_of_change_and (C := Tryd.checked) (X := fun w _ => laidMetH Tryd.prog Rows.fnExactJoinPropsRow.laid w) (fun _ _ _ hh h => h.of_heap hh) Tryd.own started (by kernel_rfl) Tryd.func5
    (ChangeSpec.witness_shaped (enc := enc) (C := Tryd.checked) (os := os) (X := fun w _ => laidMetH Tryd.prog Rows.fnExactJoinPropsRow.laid w) false (World.laidAll Tryd.prog os Rows.fnExactJoinPropsRow.laid) #[.slice none 0 0, .slice none 0 0, .slice none 0 0] 8 (World.laidAll_os _ _ _)
      (World.shaped_of_ZipB (by kernel_rfl) (by kernel_rfl)) (by kernel_rfl) (by kernel_rfl) (by kernel_rfl)
      (by rw [MakeChecks.laidMetH_plain _ _ _ (by kernel_rfl)]; exact laidMet_laidAll _ (by kernel_rfl) (by kernel_rfl))) ?_
  intro W base args ds gs before hval hW _ _ _ _
  refine law_calls (P := Tryd.prog) (tb := 4) Tryd.laidOut (of_decide_eq_true (by kernel_rfl)) rfl (by kernel_rfl) (by kernel_rfl) argsFnExactJoinProps (fun y hy => lawJP_does y.1 y.2.1 y.2.2.1 hy.1.1 hy.1.2 hy.2.1.1 hy.2.1.2 hy.2.2.1.1 hy.2.2.1.2) W base args ds gs before (fun hl => ?_) hval hW
  match ds, hl with
  | [d0, d1, d2], _ => exact ⟨rfl, rfl, rfl⟩
theorem fnExactJoinProps : Rows.FnExactJoinPropsSaid :=
  OpenClaim.holds_of_wide 5 Tryd.f5 rfl rfl rfl rfl rfl rfl rfl ⟨rfl, rfl, rfl, rfl, rfl⟩ rfl rfl rfl rfl rfl (by kernel_rfl) Tryd.func5 (by kernel_rfl)
    (of_decide_eq_true (by kernel_rfl)) (by unfold Func.isWrapper; first | (rw [if_pos (by decide +kernel)]; kernel_rfl) | (rw [if_neg (by decide +kernel)]; exact ⟨rfl, rfl⟩))
    (fun os started H enc _ => liftedFnExactJoinProps os started H enc)
theorem fnExactJoinPropsCard : Rows.FnExactJoinPropsCardSaid :=
  Claim7.holds_tied_plain_at .later [] [.data, .pinned] true Rows.fnExactJoinPropsCard.stood.harness false fnExactJoinProps (fun _ h => by cases h) (by kernel_rfl) (fun _ h => by cases h) fnExactJoinProps_row_tie rfl ⟨rfl, rfl⟩ (by kernel_rfl) rfl
    (fun f fn hf hfn => by
      obtain rfl : f = 5 := Option.some.inj ((show Tryd.prog.funcNamed Rows.fnExactJoinPropsRow.func = some 5 by kernel_rfl).symm.trans hf) |>.symm
      obtain rfl : fn = Tryd.f5 := (Option.some.inj (Tryd.func5.symm.trans hfn)).symm
      exact ⟨by kernel_rfl, fun j t ht => by
        rw [Tryd.params5] at ht
        have hm : t ∈ [34, 34, 34] := by simpa using Array.mem_of_getElem? ht
        have hall : ([34, 34, 34].all fun u => !Tryd.prog.wantsStandIn u) = true := by kernel_rfl
        exact (show Tryd.prog.wantsStandIn t = false by simpa using List.all_eq_true.1 hall t hm)⟩)
    (by kernel_rfl)
end Go.Proofs.YtnidajafjmcfaaaDoor
