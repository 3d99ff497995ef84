/- The law FnExactOverridesOf: it holds whatever the input. -/
import Derived.Test.YtnidajafjmcfaaaDoorBK4
import Derived.Test.YtnidajafjmcfaaaDoorBK6
import Derived.Test.YtnidajafjmcfaaaDoorTie
import Derived.Test.YtnidajafjmcfaaaDoorCards
import Derived.ProofKit
import Derived.OpenShut
import Derived.LaidMore
import Derived.Lay
import Derived.LaidOnce
import Derived.SevenTiedAt
import Derived.Stop.Joined
set_option linter.unusedSimpArgs false
set_option linter.unusedVariables false
set_option maxRecDepth 100000
namespace Go.Proofs.YtnidajafjmcfaaaDoor
open Go.ChangeShapes Go.WideShapes Go.RowKit Go.Av
/-! The law FnExactOverridesOf: it holds whatever the input. -/
theorem opFnExactOverridesOf2 : Opens Tryd.prog 9 (fun x : ByteArray => [S x]) (fun x => x.size ≤ 9223372036854775807) := (opens_string (by kernel_rfl)).map id (fun _ => rfl) (fun _ h => h)
theorem opFnExactOverridesOf3 : Opens Tryd.prog 9 (fun x : ByteArray => [S x]) (fun x => x.size ≤ 9223372036854775807) := (opens_string (by kernel_rfl)).map id (fun _ => rfl) (fun _ h => h)
theorem opFnExactOverridesOf6 : Opens Tryd.prog 9 (fun x : ByteArray => [S x]) (fun x => x.size ≤ 9223372036854775807) := (opens_string (by kernel_rfl)).map id (fun _ => rfl) (fun _ h => h)
theorem opFnExactOverridesOf7 : Opens Tryd.prog 9 (fun x : ByteArray => [S x]) (fun x => x.size ≤ 9223372036854775807) := (opens_string (by kernel_rfl)).map id (fun _ => rfl) (fun _ h => h)
theorem opFnExactOverridesOf5 : Opens Tryd.prog 63 eProp (fun x : GProp => wfProp 9223372036854775807 x) := (opens_struct (tot := 1 + (1 + 0)) Tryd.underlying63 (by kernel_rfl) (OpensF.cons (by kernel_rfl) (by kernel_rfl) opFnExactOverridesOf6 (.cons (by kernel_rfl) (by kernel_rfl) opFnExactOverridesOf7 .nil))).map (fun x => (⟨x.1, x.2.1⟩ : GProp)) (fun _ => rfl) (fun x h => by obtain ⟨h0, h1, _⟩ := h; exact ⟨h0, h1⟩)
theorem opFnExactOverridesOf4 : Opens Tryd.prog 34 (fun x : List GProp => [.row false 2 x.length (x.flatMap eProp)]) (fun x => x.length ≤ 9223372036854775807 ∧ (∀ y ∈ x, wfProp 9223372036854775807 y)) := (opens_slice (e := 63) (sz := 2) (by kernel_rfl) (by kernel_rfl) (by decide) opFnExactOverridesOf5).map id (fun _ => rfl) (fun _ h => ⟨h.1, h.2.2⟩)
theorem opFnExactOverridesOf1 : Opens Tryd.prog 49 ePrefab (fun x : GPrefab => wfPrefab 9223372036854775807 x) := (opens_struct (tot := 1 + (1 + (1 + 0))) Tryd.underlying49 (by kernel_rfl) (OpensF.cons (by kernel_rfl) (by kernel_rfl) opFnExactOverridesOf2 (.cons (by kernel_rfl) (by kernel_rfl) opFnExactOverridesOf3 (.cons (by kernel_rfl) (by kernel_rfl) opFnExactOverridesOf4 .nil)))).map (fun x => (⟨x.1, x.2.1, x.2.2.1⟩ : GPrefab)) (fun _ => rfl) (fun x h => by obtain ⟨h0, h1, h2, _⟩ := h; exact ⟨h0, h1, h2.1, h2.2⟩)
theorem argFnExactOverridesOf0 : OpensA Tryd.prog 22 (fun x : List GPrefab => .row false 3 x.length (x.flatMap ePrefab)) (fun x => x.length ≤ 9223372036854775807 ∧ (∀ y ∈ x, wfPrefab 9223372036854775807 y)) := (opensA_slice (t := 22) (e := 49) (sz := 3) (by kernel_rfl) (by kernel_rfl) (by decide) opFnExactOverridesOf1).map id (fun _ => rfl) (fun _ h => ⟨h.1, h.2.2⟩)
theorem argFnExactOverridesOf1 : OpensA Tryd.prog 9 (fun x : ByteArray => S x) (fun x => x.size ≤ 9223372036854775807) := opensA_string (by kernel_rfl)
theorem opFnExactOverridesOf9 : Opens Tryd.prog 9 (fun x : ByteArray => [S x]) (fun x => x.size ≤ 9223372036854775807) := (opens_string (by kernel_rfl)).map id (fun _ => rfl) (fun _ h => h)
theorem opFnExactOverridesOf10 : Opens Tryd.prog 9 (fun x : ByteArray => [S x]) (fun x => x.size ≤ 9223372036854775807) := (opens_string (by kernel_rfl)).map id (fun _ => rfl) (fun _ h => h)
theorem opFnExactOverridesOf8 : Opens Tryd.prog 63 eProp (fun x : GProp => wfProp 9223372036854775807 x) := (opens_struct (tot := 1 + (1 + 0)) Tryd.underlying63 (by kernel_rfl) (OpensF.cons (by kernel_rfl) (by kernel_rfl) opFnExactOverridesOf9 (.cons (by kernel_rfl) (by kernel_rfl) opFnExactOverridesOf10 .nil))).map (fun x => (⟨x.1, x.2.1⟩ : GProp)) (fun _ => rfl) (fun x h => by obtain ⟨h0, h1, _⟩ := h; exact ⟨h0, h1⟩)
theorem argFnExactOverridesOf2 : OpensA Tryd.prog 34 (fun x : List GProp => .row false 2 x.length (x.flatMap eProp)) (fun x => x.length ≤ 9223372036854775807 ∧ (∀ y ∈ x, wfProp 9223372036854775807 y)) := (opensA_slice (t := 34) (e := 63) (sz := 2) (by kernel_rfl) (by kernel_rfl) (by decide) opFnExactOverridesOf8).map id (fun _ => rfl) (fun _ h => ⟨h.1, h.2.2⟩)
theorem argsFnExactOverridesOf : OpensAll Tryd.prog [22, 9, 34] (fun p : (List GPrefab) × ByteArray × (List GProp) × Unit => [.row false 3 p.1.length (p.1.flatMap ePrefab), S p.2.1, .row false 2 p.2.2.1.length (p.2.2.1.flatMap eProp)]) (fun p => (p.1.length ≤ 9223372036854775807 ∧ (∀ y ∈ p.1, wfPrefab 9223372036854775807 y)) ∧ (p.2.1.size ≤ 9223372036854775807) ∧ (p.2.2.1.length ≤ 9223372036854775807 ∧ (∀ y ∈ p.2.2.1, wfProp 9223372036854775807 y)) ∧ True) := OpensAll.cons argFnExactOverridesOf0 (.cons argFnExactOverridesOf1 (.cons argFnExactOverridesOf2 .nil))
theorem liftedFnExactOverridesOf (os : Os) (started : os.Started) (H : Type) (enc : TypeId × Value → H) :
    ReturnsInHanded {} Tryd.checked os 4 .any (fun w args => (Rows.fnExactOverridesOfSpec.pre enc Tryd.prog Tryd.f4 Rows.fnExactOverridesOfRow.domain false w args ∧ laidMetH Tryd.prog Rows.fnExactOverridesOfRow.laid w) ∧ sizedMet enc Tryd.prog Tryd.f4 (OpenSpec.ofChange Rows.fnExactOverridesOfSpec) false w args)
      (Rows.fnExactOverridesOfSpec.post enc Tryd.prog Tryd.f4 false true false false) := by
  refine returnsInHanded_of_change_and (C := Tryd.checked) (X := fun w _ => laidMetH Tryd.prog Rows.fnExactOverridesOfRow.laid w) (fun _ _ _ hh h => h.of_heap hh) Tryd.own started (by kernel_rfl) Tryd.func4
    (ChangeSpec.witness_shaped (enc := enc) (C := Tryd.checked) (os := os) (X := fun w _ => laidMetH Tryd.prog Rows.fnExactOverridesOfRow.laid w) false (World.laidAll Tryd.prog os Rows.fnExactOverridesOfRow.laid) #[.slice none 0 0, .string ⟨#[]⟩, .slice none 0 0] 8 (World.laidAll_os _ _ _)
      (World.shaped_of_ZipB (by kernel_rfl) (by kernel_rfl)) (by kernel_rfl) (by kernel_rfl) (by kernel_rfl)
      (by rw [MakeChecks.laidMetH_plain _ _ _ (by kernel_rfl)]; exact laidMet_laidAll _ (by kernel_rfl) (by kernel_rfl))) ?_
  intro W base args ds gs before hval hW _ _ _ _
  refine law_calls (P := Tryd.prog) (tb := 4) Tryd.laidOut (of_decide_eq_true (by kernel_rfl)) rfl (by kernel_rfl) (by kernel_rfl) argsFnExactOverridesOf (fun y hy => lawOV_does y.1 y.2.1 y.2.2.1 hy.1.1 hy.1.2 hy.2.1 hy.2.2.1.1 hy.2.2.1.2) W base args ds gs before (fun hl => ?_) hval hW
  match ds, hl with
  | [d0, d1, d2], _ => exact ⟨rfl, rfl, rfl⟩
theorem fnExactOverridesOf : Rows.FnExactOverridesOfSaid :=
  OpenClaim.holds_of_wide 4 Tryd.f4 rfl rfl rfl rfl rfl rfl rfl ⟨rfl, rfl, rfl, rfl, rfl⟩ rfl rfl rfl rfl rfl (by kernel_rfl) Tryd.func4 (by kernel_rfl)
    (of_decide_eq_true (by kernel_rfl)) (by unfold Func.isWrapper; first | (rw [if_pos (by decide +kernel)]; kernel_rfl) | (rw [if_neg (by decide +kernel)]; exact ⟨rfl, rfl⟩))
    (fun os started H enc _ => liftedFnExactOverridesOf os started H enc)
theorem fnExactOverridesOfCard : Rows.FnExactOverridesOfCardSaid :=
  Claim7.holds_tied_plain_at .later [] [.data, .pinned] true Rows.fnExactOverridesOfCard.stood.harness false fnExactOverridesOf (fun _ h => by cases h) (by kernel_rfl) (fun _ h => by cases h) fnExactOverridesOf_row_tie rfl ⟨rfl, rfl⟩ (by kernel_rfl) rfl
    (fun f fn hf hfn => by
      obtain rfl : f = 4 := Option.some.inj ((show Tryd.prog.funcNamed Rows.fnExactOverridesOfRow.func = some 4 by kernel_rfl).symm.trans hf) |>.symm
      obtain rfl : fn = Tryd.f4 := (Option.some.inj (Tryd.func4.symm.trans hfn)).symm
      exact ⟨by kernel_rfl, fun j t ht => by
        rw [Tryd.params4] at ht
        have hm : t ∈ [22, 9, 34] := by simpa using Array.mem_of_getElem? ht
        have hall : ([22, 9, 34].all fun u => !Tryd.prog.wantsStandIn u) = true := by kernel_rfl
        exact (show Tryd.prog.wantsStandIn t = false by simpa using List.all_eq_true.1 hall t hm)⟩)
    (by kernel_rfl)
end Go.Proofs.YtnidajafjmcfaaaDoor
