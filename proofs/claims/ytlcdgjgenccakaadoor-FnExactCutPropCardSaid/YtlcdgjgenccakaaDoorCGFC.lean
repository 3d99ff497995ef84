/- The law FnExactCutProp: it holds whatever the input. -/
import Derived.Test.YtlcdgjgenccakaaDoorCK4
import Derived.Test.YtlcdgjgenccakaaDoorCK6
import Derived.Test.YtlcdgjgenccakaaDoorTie
import Derived.Test.YtlcdgjgenccakaaDoorCards
import Derived.ProofKit
import Derived.OpenShut
import Derived.LaidMore
import Derived.Lay
import Derived.LaidOnce
import Derived.SevenTiedAt
import Derived.Stop.Joined
set_option linter.unusedSimpArgs false
set_option linter.unusedVariables false
set_option maxRecDepth 100000
namespace Go.Proofs.YtlcdgjgenccakaaDoor
open Go.ChangeShapes Go.WideShapes Go.RowKit Go.Av
/-! The law FnExactCutProp: it holds whatever the input. -/
theorem opFnExactCutProp4 : Opens Tryd.prog 9 (fun x : ByteArray => [S x]) (fun x => x.size ≤ 9223372036854775807) := (opens_string (by kernel_rfl)).map id (fun _ => rfl) (fun _ h => h)
theorem opFnExactCutProp5 : Opens Tryd.prog 9 (fun x : ByteArray => [S x]) (fun x => x.size ≤ 9223372036854775807) := (opens_string (by kernel_rfl)).map id (fun _ => rfl) (fun _ h => h)
theorem opFnExactCutProp3 : Opens Tryd.prog 68 eProp (fun x : GProp => wfProp 9223372036854775807 x) := (opens_struct (tot := 1 + (1 + 0)) Tryd.underlying68 (by kernel_rfl) (OpensF.cons (by kernel_rfl) (by kernel_rfl) opFnExactCutProp4 (.cons (by kernel_rfl) (by kernel_rfl) opFnExactCutProp5 .nil))).map (fun x => (⟨x.1, x.2.1⟩ : GProp)) (fun _ => rfl) (fun x h => by obtain ⟨h0, h1, _⟩ := h; exact ⟨h0, h1⟩)
theorem opFnExactCutProp2 : Opens Tryd.prog 22 (fun x : List GProp => [.row false 2 x.length (x.flatMap eProp)]) (fun x => x.length ≤ 9223372036854775807 ∧ (∀ y ∈ x, wfProp 9223372036854775807 y)) := (opens_slice (e := 68) (sz := 2) (by kernel_rfl) (by kernel_rfl) (by decide) opFnExactCutProp3).map id (fun _ => rfl) (fun _ h => ⟨h.1, h.2.2⟩)
theorem opFnExactCutProp8 : Opens Tryd.prog 9 (fun x : ByteArray => [S x]) (fun x => x.size ≤ 9223372036854775807) := (opens_string (by kernel_rfl)).map id (fun _ => rfl) (fun _ h => h)
theorem opFnExactCutProp9 : Opens Tryd.prog 9 (fun x : ByteArray => [S x]) (fun x => x.size ≤ 9223372036854775807) := (opens_string (by kernel_rfl)).map id (fun _ => rfl) (fun _ h => h)
theorem opFnExactCutProp10 : Opens Tryd.prog 4 (fun x : Bool => [B x]) (fun x => True) := (opens_bool (by kernel_rfl)).map id (fun _ => rfl) (fun _ _ => trivial)
theorem opFnExactCutProp11 : Opens Tryd.prog 9 (fun x : ByteArray => [S x]) (fun x => x.size ≤ 9223372036854775807) := (opens_string (by kernel_rfl)).map id (fun _ => rfl) (fun _ h => h)
theorem opFnExactCutProp12 : Opens Tryd.prog 4 (fun x : Bool => [B x]) (fun x => True) := (opens_bool (by kernel_rfl)).map id (fun _ => rfl) (fun _ _ => trivial)
theorem opFnExactCutProp7 : Opens Tryd.prog 70 eStep (fun x : Av.GStep => wfStep 9223372036854775807 x) := (opens_struct (tot := 1 + (1 + (1 + (1 + (1 + 0))))) Tryd.underlying70 (by kernel_rfl) (OpensF.cons (by kernel_rfl) (by kernel_rfl) opFnExactCutProp8 (.cons (by kernel_rfl) (by kernel_rfl) opFnExactCutProp9 (.cons (by kernel_rfl) (by kernel_rfl) opFnExactCutProp10 (.cons (by kernel_rfl) (by kernel_rfl) opFnExactCutProp11 (.cons (by kernel_rfl) (by kernel_rfl) opFnExactCutProp12 .nil)))))).map (fun x => (⟨x.1, x.2.1, x.2.2.1, x.2.2.2.1, x.2.2.2.2.1⟩ : Av.GStep)) (fun _ => rfl) (fun x h => by obtain ⟨h0, h1, _, h3, _, _⟩ := h; exact ⟨h0, h1, h3⟩)
theorem opFnExactCutProp6 : Opens Tryd.prog 23 (fun x : List Av.GStep => [.row false 5 x.length (x.flatMap eStep)]) (fun x => x.length ≤ 9223372036854775807 ∧ (∀ y ∈ x, wfStep 9223372036854775807 y)) := (opens_slice (e := 70) (sz := 5) (by kernel_rfl) (by kernel_rfl) (by decide) opFnExactCutProp7).map id (fun _ => rfl) (fun _ h => ⟨h.1, h.2.2⟩)
theorem opFnExactCutProp15 : Opens Tryd.prog 9 (fun x : ByteArray => [S x]) (fun x => x.size ≤ 9223372036854775807) := (opens_string (by kernel_rfl)).map id (fun _ => rfl) (fun _ h => h)
theorem opFnExactCutProp16 : Opens Tryd.prog 9 (fun x : ByteArray => [S x]) (fun x => x.size ≤ 9223372036854775807) := (opens_string (by kernel_rfl)).map id (fun _ => rfl) (fun _ h => h)
theorem opFnExactCutProp17 : Opens Tryd.prog 4 (fun x : Bool => [B x]) (fun x => True) := (opens_bool (by kernel_rfl)).map id (fun _ => rfl) (fun _ _ => trivial)
theorem opFnExactCutProp18 : Opens Tryd.prog 9 (fun x : ByteArray => [S x]) (fun x => x.size ≤ 9223372036854775807) := (opens_string (by kernel_rfl)).map id (fun _ => rfl) (fun _ h => h)
theorem opFnExactCutProp19 : Opens Tryd.prog 4 (fun x : Bool => [B x]) (fun x => True) := (opens_bool (by kernel_rfl)).map id (fun _ => rfl) (fun _ _ => trivial)
theorem opFnExactCutProp14 : Opens Tryd.prog 70 eStep (fun x : Av.GStep => wfStep 9223372036854775807 x) := (opens_struct (tot := 1 + (1 + (1 + (1 + (1 + 0))))) Tryd.underlying70 (by kernel_rfl) (OpensF.cons (by kernel_rfl) (by kernel_rfl) opFnExactCutProp15 (.cons (by kernel_rfl) (by kernel_rfl) opFnExactCutProp16 (.cons (by kernel_rfl) (by kernel_rfl) opFnExactCutProp17 (.cons (by kernel_rfl) (by kernel_rfl) opFnExactCutProp18 (.cons (by kernel_rfl) (by kernel_rfl) opFnExactCutProp19 .nil)))))).map (fun x => (⟨x.1, x.2.1, x.2.2.1, x.2.2.2.1, x.2.2.2.2.1⟩ : Av.GStep)) (fun _ => rfl) (fun x h => by obtain ⟨h0, h1, _, h3, _, _⟩ := h; exact ⟨h0, h1, h3⟩)
theorem opFnExactCutProp13 : Opens Tryd.prog 23 (fun x : List Av.GStep => [.row false 5 x.length (x.flatMap eStep)]) (fun x => x.length ≤ 9223372036854775807 ∧ (∀ y ∈ x, wfStep 9223372036854775807 y)) := (opens_slice (e := 70) (sz := 5) (by kernel_rfl) (by kernel_rfl) (by decide) opFnExactCutProp14).map id (fun _ => rfl) (fun _ h => ⟨h.1, h.2.2⟩)
theorem opFnExactCutProp1 : Opens Tryd.prog 25 eEdited (fun x : GEdited => wfEdited 9223372036854775807 x) := (opens_struct (tot := 1 + (1 + (1 + 0))) Tryd.underlying25 (by kernel_rfl) (OpensF.cons (by kernel_rfl) (by kernel_rfl) opFnExactCutProp2 (.cons (by kernel_rfl) (by kernel_rfl) opFnExactCutProp6 (.cons (by kernel_rfl) (by kernel_rfl) opFnExactCutProp13 .nil)))).map (fun x => (⟨x.1, x.2.1, x.2.2.1⟩ : GEdited)) (fun _ => rfl) (fun x h => by obtain ⟨h0, h1, h2, _⟩ := h; exact ⟨h0.1, h0.2, h1.1, h1.2, h2.1, h2.2⟩)
theorem argFnExactCutProp0 : OpensA Tryd.prog 25 (fun x : GEdited => .agg (eEdited x)) (fun x => wfEdited 9223372036854775807 x) := opensA_struct Tryd.underlying25 opFnExactCutProp1
theorem argFnExactCutProp1 : OpensA Tryd.prog 9 (fun x : ByteArray => S x) (fun x => x.size ≤ 9223372036854775807) := opensA_string (by kernel_rfl)
theorem argsFnExactCutProp : OpensAll Tryd.prog [25, 9] (fun p : GEdited × ByteArray × Unit => [.agg (eEdited p.1), S p.2.1]) (fun p => (wfEdited 9223372036854775807 p.1) ∧ (p.2.1.size ≤ 9223372036854775807) ∧ True) := OpensAll.cons argFnExactCutProp0 (.cons argFnExactCutProp1 .nil)
theorem liftedFnExactCutProp (os : Os) (started : os.Started) (H : Type) (enc : TypeId × Value → H) :
    ReturnsInHanded {} Tryd.checked os 6 .any (fun w args => (Rows.fnExactCutPropSpec.pre enc Tryd.prog Tryd.f6 Rows.fnExactCutPropRow.domain false w args ∧ laidMetH Tryd.prog Rows.fnExactCutPropRow.laid w) ∧ sizedMet enc Tryd.prog Tryd.f6 (OpenSpec.ofChange Rows.fnExactCutPropSpec) false w args)
      (Rows.fnExactCutPropSpec.post enc Tryd.prog Tryd.f6 false true false false) := by
  refine returnsInHanded_of_change_and (C := Tryd.checked) (X := fun w _ => laidMetH Tryd.prog Rows.fnExactCutPropRow.laid w) (fun _ _ _ hh h => h.of_heap hh) Tryd.own started (by kernel_rfl) Tryd.func6
    (ChangeSpec.witness_shaped (enc := enc) (C := Tryd.checked) (os := os) (X := fun w _ => laidMetH Tryd.prog Rows.fnExactCutPropRow.laid w) false (World.laidAll Tryd.prog os Rows.fnExactCutPropRow.laid) #[.agg #[.slice none 0 0, .slice none 0 0, .slice none 0 0], .string ⟨#[]⟩] 8 (World.laidAll_os _ _ _)
      (World.shaped_of_ZipB (by kernel_rfl) (by kernel_rfl)) (by kernel_rfl) (by kernel_rfl) (by kernel_rfl)
      (by rw [MakeChecks.laidMetH_plain _ _ _ (by kernel_rfl)]; exact laidMet_laidAll _ (by kernel_rfl) (by kernel_rfl))) ?_
  intro W base args ds gs before hval hW _ _ _ _
  refine law_calls (P := Tryd.prog) (tb := 4) Tryd.laidOut (of_decide_eq_true (by kernel_rfl)) rfl (by kernel_rfl) (by kernel_rfl) argsFnExactCutProp (fun y hy => lawCPr_does y.1 y.2.1 hy.1 hy.2.1) W base args ds gs before (fun hl => ?_) hval hW
  match ds, hl with
  | [d0, d1], _ => exact ⟨rfl, rfl, rfl⟩
theorem fnExactCutProp : Rows.FnExactCutPropSaid :=
  OpenClaim.holds_of_wide 6 Tryd.f6 rfl rfl rfl rfl rfl rfl rfl ⟨rfl, rfl, rfl, rfl, rfl⟩ rfl rfl rfl rfl rfl (by kernel_rfl) Tryd.func6 (by kernel_rfl)
    (of_decide_eq_true (by kernel_rfl)) (by unfold Func.isWrapper; first | (rw [if_pos (by decide +kernel)]; kernel_rfl) | (rw [if_neg (by decide +kernel)]; exact ⟨rfl, rfl⟩))
    (fun os started H enc _ => liftedFnExactCutProp os started H enc)
theorem fnExactCutPropCard : Rows.FnExactCutPropCardSaid :=
  Claim7.holds_tied_plain_at .later [] [.data, .pinned] true Rows.fnExactCutPropCard.stood.harness false fnExactCutProp (fun _ h => by cases h) (by kernel_rfl) (fun _ h => by cases h) fnExactCutProp_row_tie rfl ⟨rfl, rfl⟩ (by kernel_rfl) rfl
    (fun f fn hf hfn => by
      obtain rfl : f = 6 := Option.some.inj ((show Tryd.prog.funcNamed Rows.fnExactCutPropRow.func = some 6 by kernel_rfl).symm.trans hf) |>.symm
      obtain rfl : fn = Tryd.f6 := (Option.some.inj (Tryd.func6.symm.trans hfn)).symm
      exact ⟨by kernel_rfl, fun j t ht => by
        rw [Tryd.params6] at ht
        have hm : t ∈ [25, 9] := by simpa using Array.mem_of_getElem? ht
        have hall : ([25, 9].all fun u => !Tryd.prog.wantsStandIn u) = true := by kernel_rfl
        exact (show Tryd.prog.wantsStandIn t = false by simpa using List.all_eq_true.1 hall t hm)⟩)
    (by kernel_rfl)
end Go.Proofs.YtlcdgjgenccakaaDoor
