/- The law FnExactSetProp: it holds whatever the input. -/
import Derived.Test.YtlcdgjgenccakaaDoorBK4
import Derived.Test.YtlcdgjgenccakaaDoorBK7
import Derived.Test.YtlcdgjgenccakaaDoorTie
import Derived.Test.YtlcdgjgenccakaaDoorCards
import Derived.ProofKit
import Derived.OpenShut
import Derived.LaidMore
import Derived.Lay
import Derived.LaidOnce
import Derived.SevenTiedAt
import Derived.Stop.Joined
set_option linter.unusedSimpArgs false
set_option linter.unusedVariables false
set_option maxRecDepth 100000
namespace Go.Proofs.YtlcdgjgenccakaaDoor
open Go.ChangeShapes Go.WideShapes Go.RowKit Go.Av
/-! The law FnExactSetProp: it holds whatever the input. -/
theorem opFnExactSetProp4 : Opens Tryd.prog 9 (fun x : ByteArray => [S x]) (fun x => x.size ≤ 9223372036854775807) := (opens_string (by kernel_rfl)).map id (fun _ => rfl) (fun _ h => h)
theorem opFnExactSetProp5 : Opens Tryd.prog 9 (fun x : ByteArray => [S x]) (fun x => x.size ≤ 9223372036854775807) := (opens_string (by kernel_rfl)).map id (fun _ => rfl) (fun _ h => h)
theorem opFnExactSetProp3 : Opens Tryd.prog 68 eProp (fun x : GProp => wfProp 9223372036854775807 x) := (opens_struct (tot := 1 + (1 + 0)) Tryd.underlying68 (by kernel_rfl) (OpensF.cons (by kernel_rfl) (by kernel_rfl) opFnExactSetProp4 (.cons (by kernel_rfl) (by kernel_rfl) opFnExactSetProp5 .nil))).map (fun x => (⟨x.1, x.2.1⟩ : GProp)) (fun _ => rfl) (fun x h => by obtain ⟨h0, h1, _⟩ := h; exact ⟨h0, h1⟩)
theorem opFnExactSetProp2 : Opens Tryd.prog 22 (fun x : List GProp => [.row false 2 x.length (x.flatMap eProp)]) (fun x => x.length ≤ 9223372036854775807 ∧ (∀ y ∈ x, wfProp 9223372036854775807 y)) := (opens_slice (e := 68) (sz := 2) (by kernel_rfl) (by kernel_rfl) (by decide) opFnExactSetProp3).map id (fun _ => rfl) (fun _ h => ⟨h.1, h.2.2⟩)
theorem opFnExactSetProp8 : Opens Tryd.prog 9 (fun x : ByteArray => [S x]) (fun x => x.size ≤ 9223372036854775807) := (opens_string (by kernel_rfl)).map id (fun _ => rfl) (fun _ h => h)
theorem opFnExactSetProp9 : Opens Tryd.prog 9 (fun x : ByteArray => [S x]) (fun x => x.size ≤ 9223372036854775807) := (opens_string (by kernel_rfl)).map id (fun _ => rfl) (fun _ h => h)
theorem opFnExactSetProp10 : Opens Tryd.prog 4 (fun x : Bool => [B x]) (fun x => True) := (opens_bool (by kernel_rfl)).map id (fun _ => rfl) (fun _ _ => trivial)
theorem opFnExactSetProp11 : Opens Tryd.prog 9 (fun x : ByteArray => [S x]) (fun x => x.size ≤ 9223372036854775807) := (opens_string (by kernel_rfl)).map id (fun _ => rfl) (fun _ h => h)
theorem opFnExactSetProp12 : Opens Tryd.prog 4 (fun x : Bool => [B x]) (fun x => True) := (opens_bool (by kernel_rfl)).map id (fun _ => rfl) (fun _ _ => trivial)
theorem opFnExactSetProp7 : Opens Tryd.prog 70 eStep (fun x : Av.GStep => wfStep 9223372036854775807 x) := (opens_struct (tot := 1 + (1 + (1 + (1 + (1 + 0))))) Tryd.underlying70 (by kernel_rfl) (OpensF.cons (by kernel_rfl) (by kernel_rfl) opFnExactSetProp8 (.cons (by kernel_rfl) (by kernel_rfl) opFnExactSetProp9 (.cons (by kernel_rfl) (by kernel_rfl) opFnExactSetProp10 (.cons (by kernel_rfl) (by kernel_rfl) opFnExactSetProp11 (.cons (by kernel_rfl) (by kernel_rfl) opFnExactSetProp12 .nil)))))).map (fun x => (⟨x.1, x.2.1, x.2.2.1, x.2.2.2.1, x.2.2.2.2.1⟩ : Av.GStep)) (fun _ => rfl) (fun x h => by obtain ⟨h0, h1, _, h3, _, _⟩ := h; exact ⟨h0, h1, h3⟩)
theorem opFnExactSetProp6 : Opens Tryd.prog 23 (fun x : List Av.GStep => [.row false 5 x.length (x.flatMap eStep)]) (fun x => x.length ≤ 9223372036854775807 ∧ (∀ y ∈ x, wfStep 9223372036854775807 y)) := (opens_slice (e := 70) (sz := 5) (by kernel_rfl) (by kernel_rfl) (by decide) opFnExactSetProp7).map id (fun _ => rfl) (fun _ h => ⟨h.1, h.2.2⟩)
theorem opFnExactSetProp15 : Opens Tryd.prog 9 (fun x : ByteArray => [S x]) (fun x => x.size ≤ 9223372036854775807) := (opens_string (by kernel_rfl)).map id (fun _ => rfl) (fun _ h => h)
theorem opFnExactSetProp16 : Opens Tryd.prog 9 (fun x : ByteArray => [S x]) (fun x => x.size ≤ 9223372036854775807) := (opens_string (by kernel_rfl)).map id (fun _ => rfl) (fun _ h => h)
theorem opFnExactSetProp17 : Opens Tryd.prog 4 (fun x : Bool => [B x]) (fun x => True) := (opens_bool (by kernel_rfl)).map id (fun _ => rfl) (fun _ _ => trivial)
theorem opFnExactSetProp18 : Opens Tryd.prog 9 (fun x : ByteArray => [S x]) (fun x => x.size ≤ 9223372036854775807) := (opens_string (by kernel_rfl)).map id (fun _ => rfl) (fun _ h => h)
theorem opFnExactSetProp19 : Opens Tryd.prog 4 (fun x : Bool => [B x]) (fun x => True) := (opens_bool (by kernel_rfl)).map id (fun _ => rfl) (fun _ _ => trivial)
theorem opFnExactSetProp14 : Opens Tryd.prog 70 eStep (fun x : Av.GStep => wfStep 9223372036854775807 x) := (opens_struct (tot := 1 + (1 + (1 + (1 + (1 + 0))))) Tryd.underlying70 (by kernel_rfl) (OpensF.cons (by kernel_rfl) (by kernel_rfl) opFnExactSetProp15 (.cons (by kernel_rfl) (by kernel_rfl) opFnExactSetProp16 (.cons (by kernel_rfl) (by kernel_rfl) opFnExactSetProp17 (.cons (by kernel_rfl) (by kernel_rfl) opFnExactSetProp18 (.cons (by kernel_rfl) (by kernel_rfl) opFnExactSetProp19 .nil)))))).map (fun x => (⟨x.1, x.2.1, x.2.2.1, x.2.2.2.1, x.2.2.2.2.1⟩ : Av.GStep)) (fun _ => rfl) (fun x h => by obtain ⟨h0, h1, _, h3, _, _⟩ := h; exact ⟨h0, h1, h3⟩)
theorem opFnExactSetProp13 : Opens Tryd.prog 23 (fun x : List Av.GStep => [.row false 5 x.length (x.flatMap eStep)]) (fun x => x.length ≤ 9223372036854775807 ∧ (∀ y ∈ x, wfStep 9223372036854775807 y)) := (opens_slice (e := 70) (sz := 5) (by kernel_rfl) (by kernel_rfl) (by decide) opFnExactSetProp14).map id (fun _ => rfl) (fun _ h => ⟨h.1, h.2.2⟩)
theorem opFnExactSetProp1 : Opens Tryd.prog 25 eEdited (fun x : GEdited => wfEdited 9223372036854775807 x) := (opens_struct (tot := 1 + (1 + (1 + 0))) Tryd.underlying25 (by kernel_rfl) (OpensF.cons (by kernel_rfl) (by kernel_rfl) opFnExactSetProp2 (.cons (by kernel_rfl) (by kernel_rfl) opFnExactSetProp6 (.cons (by kernel_rfl) (by kernel_rfl) opFnExactSetProp13 .nil)))).map (fun x => (⟨x.1, x.2.1, x.2.2.1⟩ : GEdited)) (fun _ => rfl) (fun x h => by obtain ⟨h0, h1, h2, _⟩ := h; exact ⟨h0.1, h0.2, h1.1, h1.2, h2.1, h2.2⟩)
theorem argFnExactSetProp0 : OpensA Tryd.prog 25 (fun x : GEdited => .agg (eEdited x)) (fun x => wfEdited 9223372036854775807 x) := opensA_struct Tryd.underlying25 opFnExactSetProp1
theorem argFnExactSetProp1 : OpensA Tryd.prog 9 (fun x : ByteArray => S x) (fun x => x.size ≤ 9223372036854775807) := opensA_string (by kernel_rfl)
theorem argFnExactSetProp2 : OpensA Tryd.prog 9 (fun x : ByteArray => S x) (fun x => x.size ≤ 9223372036854775807) := opensA_string (by kernel_rfl)
theorem argsFnExactSetProp : OpensAll Tryd.prog [25, 9, 9] (fun p : GEdited × ByteArray × ByteArray × Unit => [.agg (eEdited p.1), S p.2.1, S p.2.2.1]) (fun p => (wfEdited 9223372036854775807 p.1) ∧ (p.2.1.size ≤ 9223372036854775807) ∧ (p.2.2.1.size ≤ 9223372036854775807) ∧ True) := OpensAll.cons argFnExactSetProp0 (.cons argFnExactSetProp1 (.cons argFnExactSetProp2 .nil))
theorem liftedFnExactSetProp (os : Os) (started : os.Started) (H : Type) (enc : TypeId × Value → H) :
    ReturnsInHanded {} Tryd.checked os 7 .any (fun w args => (Rows.fnExactSetPropSpec.pre enc Tryd.prog Tryd.f7 Rows.fnExactSetPropRow.domain false w args ∧ laidMetH Tryd.prog Rows.fnExactSetPropRow.laid w) ∧ sizedMet enc Tryd.prog Tryd.f7 (OpenSpec.ofChange Rows.fnExactSetPropSpec) false w args)
      (Rows.fnExactSetPropSpec.post enc Tryd.prog Tryd.f7 false true false false) := by
  refine returnsInHanded_of_change_and (C := Tryd.checked) (X := fun w _ => laidMetH Tryd.prog Rows.fnExactSetPropRow.laid w) (fun _ _ _ hh h => h.of_heap hh) Tryd.own started (by kernel_rfl) Tryd.func7
    (ChangeSpec.witness_shaped (enc := enc) (C := Tryd.checked) (os := os) (X := fun w _ => laidMetH Tryd.prog Rows.fnExactSetPropRow.laid w) false (World.laidAll Tryd.prog os Rows.fnExactSetPropRow.laid) #[.agg #[.slice none 0 0, .slice none 0 0, .slice none 0 0], .string ⟨#[]⟩, .string ⟨#[]⟩] 8 (World.laidAll_os _ _ _)
      (World.shaped_of_ZipB (by kernel_rfl) (by kernel_rfl)) (by kernel_rfl) (by kernel_rfl) (by kernel_rfl)
      (by rw [MakeChecks.laidMetH_plain _ _ _ (by kernel_rfl)]; exact laidMet_laidAll _ (by kernel_rfl) (by kernel_rfl))) ?_
  intro W base args ds gs before hval hW _ _ _ _
  refine law_calls (P := Tryd.prog) (tb := 4) Tryd.laidOut (of_decide_eq_true (by kernel_rfl)) rfl (by kernel_rfl) (by kernel_rfl) argsFnExactSetProp (fun y hy => lawSPr_does y.1 y.2.1 y.2.2.1 hy.1 hy.2.1 hy.2.2.1) W base args ds gs before (fun hl => ?_) hval hW
  match ds, hl with
  | [d0, d1, d2], _ => exact ⟨rfl, rfl, rfl⟩
theorem fnExactSetProp : Rows.FnExactSetPropSaid :=
  OpenClaim.holds_of_wide 7 Tryd.f7 rfl rfl rfl rfl rfl rfl rfl ⟨rfl, rfl, rfl, rfl, rfl⟩ rfl rfl rfl rfl rfl (by kernel_rfl) Tryd.func7 (by kernel_rfl)
    (of_decide_eq_true (by kernel_rfl)) (by unfold Func.isWrapper; first | (rw [if_pos (by decide +kernel)]; kernel_rfl) | (rw [if_neg (by decide +kernel)]; exact ⟨rfl, rfl⟩))
    (fun os started H enc _ => liftedFnExactSetProp os started H enc)
theorem fnExactSetPropCard : Rows.FnExactSetPropCardSaid :=
  Claim7.holds_tied_plain_at .later [] [.data, .pinned] true Rows.fnExactSetPropCard.stood.harness false fnExactSetProp (fun _ h => by cases h) (by kernel_rfl) (fun _ h => by cases h) fnExactSetProp_row_tie rfl ⟨rfl, rfl⟩ (by kernel_rfl) rfl
    (fun f fn hf hfn => by
      obtain rfl : f = 7 := Option.some.inj ((show Tryd.prog.funcNamed Rows.fnExactSetPropRow.func = some 7 by kernel_rfl).symm.trans hf) |>.symm
      obtain rfl : fn = Tryd.f7 := (Option.some.inj (Tryd.func7.symm.trans hfn)).symm
      exact ⟨by kernel_rfl, fun j t ht => by
        rw [Tryd.params7] at ht
        have hm : t ∈ [25, 9, 9] := by simpa using Array.mem_of_getElem? ht
        have hall : ([25, 9, 9].all fun u => !Tryd.prog.wantsStandIn u) = true := by kernel_rfl
        exact (show Tryd.prog.wantsStandIn t = false by simpa using List.all_eq_true.1 hall t hm)⟩)
    (by kernel_rfl)
end Go.Proofs.YtlcdgjgenccakaaDoor
