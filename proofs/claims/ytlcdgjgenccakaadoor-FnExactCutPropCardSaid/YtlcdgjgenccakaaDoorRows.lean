/-
  NARROWER THAN 'FOR EVERY INPUT', by the rows' own cells (each row's printed sentence says how): FnExactGoodEdited: laid · FnExactRedoStep: laid · FnExactUndoStep: laid · FnExactCutProp: laid · FnExactSetProp: laid.
  DERIVED. THE GIVEN ROWS OF THIS SEAT. 5 by the template 'for every input the law returns true; each argument reads behind the call as it read before'; 0 by the template 'total and deterministic' (their statements: YtlcdgjgenccakaaDoorTotals.lean).
  GIVEN WITH THE SEED: the statements are not yours to turn. If you find one false, say at which input.
  Laid BY PROGRAM, IN A SANDBOX (cutbox-rows.mjs): the forced cells as the released guide's own fill.sh prints them over the translation 6c0329611646542f… (all of the seat's roots in one cut). By AI agents, Wed Nov 11 2026. No macro, syntax, notation, axiom, sorry.
-/
import Derived.Test.YtlcdgjgenccakaaDoorChecked
import GoSem.PinnedTables
import GoSem.Claim
import GoSem.ClaimJoined
import GoSem.ClaimMapViews
import Derived.JoinedTies
import Derived.KernelRfl
namespace Go.Proofs.YtlcdgjgenccakaaDoor
/- THE CELL 'sum', in the pinned program and in every row, IS THE sha256 OF THE DUMP (.gsa) THAT YtlcdgjgenccakaaDoorProg.lean LOADS. Nothing in Lean hashes anything: it is a label: what it is worth is what the hold of that sum in a sandbox is worth. -/
noncomputable def Tryd.pinned : Pinned := { name := "ytlcdgjgenccakaadoor", sum := "6c0329611646542fbd763a7952d4d8c66c5307def6c8cc93399c1a823913fb81", checked := Tryd.checked }
namespace Rows
def none {H : Type} : Left H := { results := [], args := [] }

/- WHAT THE LISTED PACKAGE-LEVEL VARIABLES READ AS WHEN THE CALL BEGINS. Each datum BY PROGRAM (the guide's laid-datum.mjs) off the statement by which the dump's own 'gosem.cut.vars' lays the variable. In a bare row this is a premise. The card (YtlcdgjgenccakaaDoorCards.lean) ties it to the program's text. -/
def laid_unicode_utf8_acceptRanges {H : Type} : DataW H := .agg [.agg [.lit (.int .u8 128), .lit (.int .u8 191)], .agg [.lit (.int .u8 160), .lit (.int .u8 191)], .agg [.lit (.int .u8 128), .lit (.int .u8 159)], .agg [.lit (.int .u8 144), .lit (.int .u8 191)], .agg [.lit (.int .u8 128), .lit (.int .u8 143)], .agg [.lit (.int .u8 0), .lit (.int .u8 0)], .agg [.lit (.int .u8 0), .lit (.int .u8 0)], .agg [.lit (.int .u8 0), .lit (.int .u8 0)], .agg [.lit (.int .u8 0), .lit (.int .u8 0)], .agg [.lit (.int .u8 0), .lit (.int .u8 0)], .agg [.lit (.int .u8 0), .lit (.int .u8 0)], .agg [.lit (.int .u8 0), .lit (.int .u8 0)], .agg [.lit (.int .u8 0), .lit (.int .u8 0)], .agg [.lit (.int .u8 0), .lit (.int .u8 0)], .agg [.lit (.int .u8 0), .lit (.int .u8 0)], .agg [.lit (.int .u8 0), .lit (.int .u8 0)]]
/-- One of Go's own tables, pinned by name: the form's constant. -/
def laid_unicode_utf8_first : DataW Unit := Go.Pinned.utf8First

/-- 'laws.FnExactGoodEdited': WHATEVER THE INPUT: true; the input reads as it did. -/
def fnExactGoodEditedSpec : ChangeSpec := { name := "fnExactGoodEdited", fn := fun _ => fun
  | [d] => { results := [.lit (.bool true)], args := [d] }
  | _ => none }
def fnExactGoodEditedRow : OpenClaim := { program := "ytlcdgjgenccakaadoor", sum := "6c0329611646542fbd763a7952d4d8c66c5307def6c8cc93399c1a823913fb81", func := "loop.example/g00064/laws.FnExactGoodEdited", spec := "fnExactGoodEdited", inPlace := ["internal/bytealg.CountString", "internal/bytealg.IndexByteString", "internal/bytealg.IndexString", "internal/bytealg.abigen_runtime_cmpstring", "slices.overlaps[loop.example/g00064/impl.Prop]"], unfollowed := true, recurses := true, named := ["unicode/utf8.first", "unicode/utf8.acceptRanges", "internal/bytealg.MaxLen"], apart := false, laid := [("unicode/utf8.acceptRanges", laid_unicode_utf8_acceptRanges), ("unicode/utf8.first", laid_unicode_utf8_first)] }
def FnExactGoodEditedSaid : Prop := fnExactGoodEditedRow.holds Tryd.pinned (OpenSpec.ofChange fnExactGoodEditedSpec)

/-- ITS FALSE NEIGHBOUR: 'it returns false'. Refute it at one input. -/
def fnExactGoodEditedWrong : ChangeSpec := { name := "fnExactGoodEdited", fn := fun _ => fun
  | [d] => { results := [.lit (.bool false)], args := [d] }
  | _ => none }
def FnExactGoodEditedWrongFalsely : Prop := fnExactGoodEditedRow.holds Tryd.pinned (OpenSpec.ofChange fnExactGoodEditedWrong)

/-- 'laws.FnExactRedoStep': WHATEVER THE INPUT: true; the input reads as it did. -/
def fnExactRedoStepSpec : ChangeSpec := { name := "fnExactRedoStep", fn := fun _ => fun
  | [d] => { results := [.lit (.bool true)], args := [d] }
  | _ => none }
def fnExactRedoStepRow : OpenClaim := { program := "ytlcdgjgenccakaadoor", sum := "6c0329611646542fbd763a7952d4d8c66c5307def6c8cc93399c1a823913fb81", func := "loop.example/g00064/laws.FnExactRedoStep", spec := "fnExactRedoStep", inPlace := ["internal/bytealg.CountString", "internal/bytealg.IndexByteString", "internal/bytealg.IndexString", "internal/bytealg.abigen_runtime_cmpstring", "slices.overlaps[loop.example/g00064/impl.Prop]"], unfollowed := true, recurses := true, named := ["unicode/utf8.first", "unicode/utf8.acceptRanges", "internal/bytealg.MaxLen"], apart := false, laid := [("unicode/utf8.acceptRanges", laid_unicode_utf8_acceptRanges), ("unicode/utf8.first", laid_unicode_utf8_first)] }
def FnExactRedoStepSaid : Prop := fnExactRedoStepRow.holds Tryd.pinned (OpenSpec.ofChange fnExactRedoStepSpec)

/-- ITS FALSE NEIGHBOUR: 'it returns false'. Refute it at one input. -/
def fnExactRedoStepWrong : ChangeSpec := { name := "fnExactRedoStep", fn := fun _ => fun
  | [d] => { results := [.lit (.bool false)], args := [d] }
  | _ => none }
def FnExactRedoStepWrongFalsely : Prop := fnExactRedoStepRow.holds Tryd.pinned (OpenSpec.ofChange fnExactRedoStepWrong)

/-- 'laws.FnExactUndoStep': WHATEVER THE INPUT: true; the input reads as it did. -/
def fnExactUndoStepSpec : ChangeSpec := { name := "fnExactUndoStep", fn := fun _ => fun
  | [d] => { results := [.lit (.bool true)], args := [d] }
  | _ => none }
def fnExactUndoStepRow : OpenClaim := { program := "ytlcdgjgenccakaadoor", sum := "6c0329611646542fbd763a7952d4d8c66c5307def6c8cc93399c1a823913fb81", func := "loop.example/g00064/laws.FnExactUndoStep", spec := "fnExactUndoStep", inPlace := ["internal/bytealg.CountString", "internal/bytealg.IndexByteString", "internal/bytealg.IndexString", "internal/bytealg.abigen_runtime_cmpstring", "slices.overlaps[loop.example/g00064/impl.Prop]"], unfollowed := true, recurses := true, named := ["unicode/utf8.first", "unicode/utf8.acceptRanges", "internal/bytealg.MaxLen"], apart := false, laid := [("unicode/utf8.acceptRanges", laid_unicode_utf8_acceptRanges), ("unicode/utf8.first", laid_unicode_utf8_first)] }
def FnExactUndoStepSaid : Prop := fnExactUndoStepRow.holds Tryd.pinned (OpenSpec.ofChange fnExactUndoStepSpec)

/-- ITS FALSE NEIGHBOUR: 'it returns false'. Refute it at one input. -/
def fnExactUndoStepWrong : ChangeSpec := { name := "fnExactUndoStep", fn := fun _ => fun
  | [d] => { results := [.lit (.bool false)], args := [d] }
  | _ => none }
def FnExactUndoStepWrongFalsely : Prop := fnExactUndoStepRow.holds Tryd.pinned (OpenSpec.ofChange fnExactUndoStepWrong)

/-- 'laws.FnExactCutProp': WHATEVER THE INPUT: true; the input reads as it did. -/
def fnExactCutPropSpec : ChangeSpec := { name := "fnExactCutProp", fn := fun _ => fun
  | [d1, d2] => { results := [.lit (.bool true)], args := [d1, d2] }
  | _ => none }
def fnExactCutPropRow : OpenClaim := { program := "ytlcdgjgenccakaadoor", sum := "6c0329611646542fbd763a7952d4d8c66c5307def6c8cc93399c1a823913fb81", func := "loop.example/g00064/laws.FnExactCutProp", spec := "fnExactCutProp", inPlace := ["internal/bytealg.abigen_runtime_cmpstring", "internal/bytealg.CountString", "internal/bytealg.IndexByteString", "internal/bytealg.IndexString", "slices.overlaps[loop.example/g00064/impl.Prop]"], unfollowed := true, recurses := true, named := ["unicode/utf8.first", "unicode/utf8.acceptRanges", "internal/bytealg.MaxLen"], apart := false, laid := [("unicode/utf8.acceptRanges", laid_unicode_utf8_acceptRanges), ("unicode/utf8.first", laid_unicode_utf8_first)] }
def FnExactCutPropSaid : Prop := fnExactCutPropRow.holds Tryd.pinned (OpenSpec.ofChange fnExactCutPropSpec)

/-- ITS FALSE NEIGHBOUR: 'it returns false'. Refute it at one input. -/
def fnExactCutPropWrong : ChangeSpec := { name := "fnExactCutProp", fn := fun _ => fun
  | [d1, d2] => { results := [.lit (.bool false)], args := [d1, d2] }
  | _ => none }
def FnExactCutPropWrongFalsely : Prop := fnExactCutPropRow.holds Tryd.pinned (OpenSpec.ofChange fnExactCutPropWrong)

/-- 'laws.FnExactSetProp': WHATEVER THE INPUT: true; the input reads as it did. -/
def fnExactSetPropSpec : ChangeSpec := { name := "fnExactSetProp", fn := fun _ => fun
  | [d1, d2, d3] => { results := [.lit (.bool true)], args := [d1, d2, d3] }
  | _ => none }
def fnExactSetPropRow : OpenClaim := { program := "ytlcdgjgenccakaadoor", sum := "6c0329611646542fbd763a7952d4d8c66c5307def6c8cc93399c1a823913fb81", func := "loop.example/g00064/laws.FnExactSetProp", spec := "fnExactSetProp", inPlace := ["internal/bytealg.CountString", "internal/bytealg.IndexByteString", "internal/bytealg.IndexString", "internal/bytealg.abigen_runtime_cmpstring", "slices.overlaps[loop.example/g00064/impl.Prop]"], unfollowed := true, recurses := true, named := ["unicode/utf8.first", "unicode/utf8.acceptRanges", "internal/bytealg.MaxLen"], apart := false, laid := [("unicode/utf8.acceptRanges", laid_unicode_utf8_acceptRanges), ("unicode/utf8.first", laid_unicode_utf8_first)] }
def FnExactSetPropSaid : Prop := fnExactSetPropRow.holds Tryd.pinned (OpenSpec.ofChange fnExactSetPropSpec)

/-- ITS FALSE NEIGHBOUR: 'it returns false'. Refute it at one input. -/
def fnExactSetPropWrong : ChangeSpec := { name := "fnExactSetProp", fn := fun _ => fun
  | [d1, d2, d3] => { results := [.lit (.bool false)], args := [d1, d2, d3] }
  | _ => none }
def FnExactSetPropWrongFalsely : Prop := fnExactSetPropRow.holds Tryd.pinned (OpenSpec.ofChange fnExactSetPropWrong)

/- THE SECOND FORM. 'bulk': how many values and letters a reading holds, each counted each time it is reached (what is shared counts as often as it is met; a slice's spare places count too). A statement '..UptoSaid' is the law's where the arguments, and the package variables that the reading takes, are together of bulk at most 1048576: NARROWER than '..Said'. Prove '..Said' where nothing that the law and all that it calls make is longer than what came in: it says more and counts as full. Else prove '..UptoSaid'. A law counts once. -/
mutual
def uptoBulk {H : Type} : DataW H → Nat
  | .lit (.string bytes) => bytes.length + 1
  | .lit _ => 1
  | .nil => 1
  | .ptr d => uptoBulk d + 1
  | .slice elems spare => uptoBulkAll elems + uptoBulkAll spare + 1
  | .agg parts => uptoBulkAll parts + 1
  | .iface _ d => uptoBulk d + 1
  | .map entries => uptoBulkEntries entries + 1
  | .held _ => 1
def uptoBulkAll {H : Type} : List (DataW H) → Nat
  | [] => 0
  | d :: r => uptoBulk d + uptoBulkAll r
def uptoBulkEntries {H : Type} : List (Lit × DataW H) → Nat
  | [] => 0
  | x :: r => uptoBulkEntry x + uptoBulkEntries r
def uptoBulkEntry {H : Type} : Lit × DataW H → Nat
  | (.string bytes, d) => bytes.length + uptoBulk d + 1
  | (_, d) => uptoBulk d + 1
 end
def uptoSmall : (H : Type) → List (DataW H) → Bool := fun _ ds => decide (uptoBulkAll ds ≤ 1048576)
def OpenSpec.upto (s : _root_.Go.ChangeSpec) : _root_.Go.OpenSpec := { _root_.Go.OpenSpec.ofChange s with cond := some uptoSmall }

/-- 'laws.FnExactGoodEdited', WHERE WHAT IT READS IS OF BULK AT MOST 1048576: true; the input reads as it did. -/
def fnExactGoodEditedUptoRow : OpenClaim := { program := "ytlcdgjgenccakaadoor", sum := "6c0329611646542fbd763a7952d4d8c66c5307def6c8cc93399c1a823913fb81", func := "loop.example/g00064/laws.FnExactGoodEdited", spec := "fnExactGoodEdited", inPlace := ["internal/bytealg.CountString", "internal/bytealg.IndexByteString", "internal/bytealg.IndexString", "internal/bytealg.abigen_runtime_cmpstring", "slices.overlaps[loop.example/g00064/impl.Prop]"], unfollowed := true, recurses := true, named := ["unicode/utf8.first", "unicode/utf8.acceptRanges", "internal/bytealg.MaxLen"], apart := false, laid := [("unicode/utf8.acceptRanges", laid_unicode_utf8_acceptRanges), ("unicode/utf8.first", laid_unicode_utf8_first)], narrowed := true }
def FnExactGoodEditedUptoSaid : Prop := fnExactGoodEditedUptoRow.holds Tryd.pinned (OpenSpec.upto fnExactGoodEditedSpec)

/-- 'laws.FnExactRedoStep', WHERE WHAT IT READS IS OF BULK AT MOST 1048576: true; the input reads as it did. -/
def fnExactRedoStepUptoRow : OpenClaim := { program := "ytlcdgjgenccakaadoor", sum := "6c0329611646542fbd763a7952d4d8c66c5307def6c8cc93399c1a823913fb81", func := "loop.example/g00064/laws.FnExactRedoStep", spec := "fnExactRedoStep", inPlace := ["internal/bytealg.CountString", "internal/bytealg.IndexByteString", "internal/bytealg.IndexString", "internal/bytealg.abigen_runtime_cmpstring", "slices.overlaps[loop.example/g00064/impl.Prop]"], unfollowed := true, recurses := true, named := ["unicode/utf8.first", "unicode/utf8.acceptRanges", "internal/bytealg.MaxLen"], apart := false, laid := [("unicode/utf8.acceptRanges", laid_unicode_utf8_acceptRanges), ("unicode/utf8.first", laid_unicode_utf8_first)], narrowed := true }
def FnExactRedoStepUptoSaid : Prop := fnExactRedoStepUptoRow.holds Tryd.pinned (OpenSpec.upto fnExactRedoStepSpec)

/-- 'laws.FnExactUndoStep', WHERE WHAT IT READS IS OF BULK AT MOST 1048576: true; the input reads as it did. -/
def fnExactUndoStepUptoRow : OpenClaim := { program := "ytlcdgjgenccakaadoor", sum := "6c0329611646542fbd763a7952d4d8c66c5307def6c8cc93399c1a823913fb81", func := "loop.example/g00064/laws.FnExactUndoStep", spec := "fnExactUndoStep", inPlace := ["internal/bytealg.CountString", "internal/bytealg.IndexByteString", "internal/bytealg.IndexString", "internal/bytealg.abigen_runtime_cmpstring", "slices.overlaps[loop.example/g00064/impl.Prop]"], unfollowed := true, recurses := true, named := ["unicode/utf8.first", "unicode/utf8.acceptRanges", "internal/bytealg.MaxLen"], apart := false, laid := [("unicode/utf8.acceptRanges", laid_unicode_utf8_acceptRanges), ("unicode/utf8.first", laid_unicode_utf8_first)], narrowed := true }
def FnExactUndoStepUptoSaid : Prop := fnExactUndoStepUptoRow.holds Tryd.pinned (OpenSpec.upto fnExactUndoStepSpec)

/-- 'laws.FnExactCutProp', WHERE WHAT IT READS IS OF BULK AT MOST 1048576: true; the input reads as it did. -/
def fnExactCutPropUptoRow : OpenClaim := { program := "ytlcdgjgenccakaadoor", sum := "6c0329611646542fbd763a7952d4d8c66c5307def6c8cc93399c1a823913fb81", func := "loop.example/g00064/laws.FnExactCutProp", spec := "fnExactCutProp", inPlace := ["internal/bytealg.abigen_runtime_cmpstring", "internal/bytealg.CountString", "internal/bytealg.IndexByteString", "internal/bytealg.IndexString", "slices.overlaps[loop.example/g00064/impl.Prop]"], unfollowed := true, recurses := true, named := ["unicode/utf8.first", "unicode/utf8.acceptRanges", "internal/bytealg.MaxLen"], apart := false, laid := [("unicode/utf8.acceptRanges", laid_unicode_utf8_acceptRanges), ("unicode/utf8.first", laid_unicode_utf8_first)], narrowed := true }
def FnExactCutPropUptoSaid : Prop := fnExactCutPropUptoRow.holds Tryd.pinned (OpenSpec.upto fnExactCutPropSpec)

/-- 'laws.FnExactSetProp', WHERE WHAT IT READS IS OF BULK AT MOST 1048576: true; the input reads as it did. -/
def fnExactSetPropUptoRow : OpenClaim := { program := "ytlcdgjgenccakaadoor", sum := "6c0329611646542fbd763a7952d4d8c66c5307def6c8cc93399c1a823913fb81", func := "loop.example/g00064/laws.FnExactSetProp", spec := "fnExactSetProp", inPlace := ["internal/bytealg.CountString", "internal/bytealg.IndexByteString", "internal/bytealg.IndexString", "internal/bytealg.abigen_runtime_cmpstring", "slices.overlaps[loop.example/g00064/impl.Prop]"], unfollowed := true, recurses := true, named := ["unicode/utf8.first", "unicode/utf8.acceptRanges", "internal/bytealg.MaxLen"], apart := false, laid := [("unicode/utf8.acceptRanges", laid_unicode_utf8_acceptRanges), ("unicode/utf8.first", laid_unicode_utf8_first)], narrowed := true }
def FnExactSetPropUptoSaid : Prop := fnExactSetPropUptoRow.holds Tryd.pinned (OpenSpec.upto fnExactSetPropSpec)

end Rows
end Go.Proofs.YtlcdgjgenccakaaDoor
