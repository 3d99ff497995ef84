/-
  No cell of these rows narrows 'for every input' (looked for: loops, veiled, ifaces, maps, wideKeys, modest, calm, conditions, laid).
  DERIVED. THE GIVEN ROWS OF THIS SEAT. 11 by the template 'for every input the law returns true; each argument reads behind the call as it read before'; 0 by the template 'total and deterministic' (their statements: YtnmnkcmogbencaaTotals.lean).
  GIVEN WITH THE SEED: the statements are not yours to turn. If you find one false, say at which input.
  Laid BY PROGRAM, IN A SANDBOX (cutbox-rows.mjs): the forced cells as the released guide's own fill.sh prints them over the translation 1918c14cd69f0d65… (all of the seat's roots in one cut). By AI agents, Wed Nov 11 2026. No macro, syntax, notation, axiom, sorry.
-/
import Derived.Test.YtnmnkcmogbencaaChecked
import GoSem.Claim
import GoSem.ClaimJoined
import GoSem.ClaimMapViews
import Derived.JoinedTies
import Derived.KernelRfl
namespace Go.Proofs.Ytnmnkcmogbencaa
/- THE CELL 'sum', in the pinned program and in every row, IS THE sha256 OF THE DUMP (.gsa) THAT YtnmnkcmogbencaaProg.lean LOADS. Nothing in Lean hashes anything: it is a label: what it is worth is what the hold of that sum in a sandbox is worth. -/
noncomputable def Try.pinned : Pinned := { name := "ytnmnkcmogbencaa", sum := "1918c14cd69f0d65f55e12f3505a83b720191b75f3e389abfd25815d39c9fa26", checked := Try.checked }
namespace Rows
def none {H : Type} : Left H := { results := [], args := [] }

/-- 'laws.FnExactFrameBudget': WHATEVER THE INPUT: true; the input reads as it did. -/
def fnExactFrameBudgetSpec : ChangeSpec := { name := "fnExactFrameBudget", fn := fun _ => fun
  | [d1, d2] => { results := [.lit (.bool true)], args := [d1, d2] }
  | _ => none }
def fnExactFrameBudgetRow : OpenClaim := { program := "ytnmnkcmogbencaa", sum := "1918c14cd69f0d65f55e12f3505a83b720191b75f3e389abfd25815d39c9fa26", func := "loop.example/g00064/laws.FnExactFrameBudget", spec := "fnExactFrameBudget", unfollowed := true, recurses := true, apart := false }
def FnExactFrameBudgetSaid : Prop := fnExactFrameBudgetRow.holds Try.pinned (OpenSpec.ofChange fnExactFrameBudgetSpec)

/-- ITS FALSE NEIGHBOUR: 'it returns false'. Refute it at one input. -/
def fnExactFrameBudgetWrong : ChangeSpec := { name := "fnExactFrameBudget", fn := fun _ => fun
  | [d1, d2] => { results := [.lit (.bool false)], args := [d1, d2] }
  | _ => none }
def FnExactFrameBudgetWrongFalsely : Prop := fnExactFrameBudgetRow.holds Try.pinned (OpenSpec.ofChange fnExactFrameBudgetWrong)

/-- 'laws.FnExactGoodPlayers': WHATEVER THE INPUT: true; the input reads as it did. -/
def fnExactGoodPlayersSpec : ChangeSpec := { name := "fnExactGoodPlayers", fn := fun _ => fun
  | [d] => { results := [.lit (.bool true)], args := [d] }
  | _ => none }
def fnExactGoodPlayersRow : OpenClaim := { program := "ytnmnkcmogbencaa", sum := "1918c14cd69f0d65f55e12f3505a83b720191b75f3e389abfd25815d39c9fa26", func := "loop.example/g00064/laws.FnExactGoodPlayers", spec := "fnExactGoodPlayers", apart := false }
def FnExactGoodPlayersSaid : Prop := fnExactGoodPlayersRow.holds Try.pinned (OpenSpec.ofChange fnExactGoodPlayersSpec)

/-- ITS FALSE NEIGHBOUR: 'it returns false'. Refute it at one input. -/
def fnExactGoodPlayersWrong : ChangeSpec := { name := "fnExactGoodPlayers", fn := fun _ => fun
  | [d] => { results := [.lit (.bool false)], args := [d] }
  | _ => none }
def FnExactGoodPlayersWrongFalsely : Prop := fnExactGoodPlayersRow.holds Try.pinned (OpenSpec.ofChange fnExactGoodPlayersWrong)

/-- 'laws.FnExactGoodSpans': WHATEVER THE INPUT: true; the input reads as it did. -/
def fnExactGoodSpansSpec : ChangeSpec := { name := "fnExactGoodSpans", fn := fun _ => fun
  | [d] => { results := [.lit (.bool true)], args := [d] }
  | _ => none }
def fnExactGoodSpansRow : OpenClaim := { program := "ytnmnkcmogbencaa", sum := "1918c14cd69f0d65f55e12f3505a83b720191b75f3e389abfd25815d39c9fa26", func := "loop.example/g00064/laws.FnExactGoodSpans", spec := "fnExactGoodSpans", apart := false }
def FnExactGoodSpansSaid : Prop := fnExactGoodSpansRow.holds Try.pinned (OpenSpec.ofChange fnExactGoodSpansSpec)

/-- ITS FALSE NEIGHBOUR: 'it returns false'. Refute it at one input. -/
def fnExactGoodSpansWrong : ChangeSpec := { name := "fnExactGoodSpans", fn := fun _ => fun
  | [d] => { results := [.lit (.bool false)], args := [d] }
  | _ => none }
def FnExactGoodSpansWrongFalsely : Prop := fnExactGoodSpansRow.holds Try.pinned (OpenSpec.ofChange fnExactGoodSpansWrong)

/-- 'laws.FnExactDiffSheets': WHATEVER THE INPUT: true; the input reads as it did. -/
def fnExactDiffSheetsSpec : ChangeSpec := { name := "fnExactDiffSheets", fn := fun _ => fun
  | [d1, d2] => { results := [.lit (.bool true)], args := [d1, d2] }
  | _ => none }
def fnExactDiffSheetsRow : OpenClaim := { program := "ytnmnkcmogbencaa", sum := "1918c14cd69f0d65f55e12f3505a83b720191b75f3e389abfd25815d39c9fa26", func := "loop.example/g00064/laws.FnExactDiffSheets", spec := "fnExactDiffSheets", unfollowed := true, recurses := true, apart := false }
def FnExactDiffSheetsSaid : Prop := fnExactDiffSheetsRow.holds Try.pinned (OpenSpec.ofChange fnExactDiffSheetsSpec)

/-- ITS FALSE NEIGHBOUR: 'it returns false'. Refute it at one input. -/
def fnExactDiffSheetsWrong : ChangeSpec := { name := "fnExactDiffSheets", fn := fun _ => fun
  | [d1, d2] => { results := [.lit (.bool false)], args := [d1, d2] }
  | _ => none }
def FnExactDiffSheetsWrongFalsely : Prop := fnExactDiffSheetsRow.holds Try.pinned (OpenSpec.ofChange fnExactDiffSheetsWrong)

/-- 'laws.FnExactPaintBox': WHATEVER THE INPUT: true; the input reads as it did. -/
def fnExactPaintBoxSpec : ChangeSpec := { name := "fnExactPaintBox", fn := fun _ => fun
  | [d1, d2, d3] => { results := [.lit (.bool true)], args := [d1, d2, d3] }
  | _ => none }
def fnExactPaintBoxRow : OpenClaim := { program := "ytnmnkcmogbencaa", sum := "1918c14cd69f0d65f55e12f3505a83b720191b75f3e389abfd25815d39c9fa26", func := "loop.example/g00064/laws.FnExactPaintBox", spec := "fnExactPaintBox", unfollowed := true, recurses := true, apart := false }
def FnExactPaintBoxSaid : Prop := fnExactPaintBoxRow.holds Try.pinned (OpenSpec.ofChange fnExactPaintBoxSpec)

/-- ITS FALSE NEIGHBOUR: 'it returns false'. Refute it at one input. -/
def fnExactPaintBoxWrong : ChangeSpec := { name := "fnExactPaintBox", fn := fun _ => fun
  | [d1, d2, d3] => { results := [.lit (.bool false)], args := [d1, d2, d3] }
  | _ => none }
def FnExactPaintBoxWrongFalsely : Prop := fnExactPaintBoxRow.holds Try.pinned (OpenSpec.ofChange fnExactPaintBoxWrong)

/-- 'laws.FnExactPaintLine': WHATEVER THE INPUT: true; the input reads as it did. -/
def fnExactPaintLineSpec : ChangeSpec := { name := "fnExactPaintLine", fn := fun _ => fun
  | [d1, d2, d3, d4, d5, d6] => { results := [.lit (.bool true)], args := [d1, d2, d3, d4, d5, d6] }
  | _ => none }
def fnExactPaintLineRow : OpenClaim := { program := "ytnmnkcmogbencaa", sum := "1918c14cd69f0d65f55e12f3505a83b720191b75f3e389abfd25815d39c9fa26", func := "loop.example/g00064/laws.FnExactPaintLine", spec := "fnExactPaintLine", unfollowed := true, recurses := true, apart := false }
def FnExactPaintLineSaid : Prop := fnExactPaintLineRow.holds Try.pinned (OpenSpec.ofChange fnExactPaintLineSpec)

/-- ITS FALSE NEIGHBOUR: 'it returns false'. Refute it at one input. -/
def fnExactPaintLineWrong : ChangeSpec := { name := "fnExactPaintLine", fn := fun _ => fun
  | [d1, d2, d3, d4, d5, d6] => { results := [.lit (.bool false)], args := [d1, d2, d3, d4, d5, d6] }
  | _ => none }
def FnExactPaintLineWrongFalsely : Prop := fnExactPaintLineRow.holds Try.pinned (OpenSpec.ofChange fnExactPaintLineWrong)

/-- 'laws.FnExactSpansOf': WHATEVER THE INPUT: true; the input reads as it did. -/
def fnExactSpansOfSpec : ChangeSpec := { name := "fnExactSpansOf", fn := fun _ => fun
  | [d] => { results := [.lit (.bool true)], args := [d] }
  | _ => none }
def fnExactSpansOfRow : OpenClaim := { program := "ytnmnkcmogbencaa", sum := "1918c14cd69f0d65f55e12f3505a83b720191b75f3e389abfd25815d39c9fa26", func := "loop.example/g00064/laws.FnExactSpansOf", spec := "fnExactSpansOf", apart := false }
def FnExactSpansOfSaid : Prop := fnExactSpansOfRow.holds Try.pinned (OpenSpec.ofChange fnExactSpansOfSpec)

/-- ITS FALSE NEIGHBOUR: 'it returns false'. Refute it at one input. -/
def fnExactSpansOfWrong : ChangeSpec := { name := "fnExactSpansOf", fn := fun _ => fun
  | [d] => { results := [.lit (.bool false)], args := [d] }
  | _ => none }
def FnExactSpansOfWrongFalsely : Prop := fnExactSpansOfRow.holds Try.pinned (OpenSpec.ofChange fnExactSpansOfWrong)

/-- 'laws.FnExactHottestWay': WHATEVER THE INPUT: true; the input reads as it did. -/
def fnExactHottestWaySpec : ChangeSpec := { name := "fnExactHottestWay", fn := fun _ => fun
  | [d] => { results := [.lit (.bool true)], args := [d] }
  | _ => none }
def fnExactHottestWayRow : OpenClaim := { program := "ytnmnkcmogbencaa", sum := "1918c14cd69f0d65f55e12f3505a83b720191b75f3e389abfd25815d39c9fa26", func := "loop.example/g00064/laws.FnExactHottestWay", spec := "fnExactHottestWay", apart := false }
def FnExactHottestWaySaid : Prop := fnExactHottestWayRow.holds Try.pinned (OpenSpec.ofChange fnExactHottestWaySpec)

/-- ITS FALSE NEIGHBOUR: 'it returns false'. Refute it at one input. -/
def fnExactHottestWayWrong : ChangeSpec := { name := "fnExactHottestWay", fn := fun _ => fun
  | [d] => { results := [.lit (.bool false)], args := [d] }
  | _ => none }
def FnExactHottestWayWrongFalsely : Prop := fnExactHottestWayRow.holds Try.pinned (OpenSpec.ofChange fnExactHottestWayWrong)

/-- 'laws.FnExactTotalsOf': WHATEVER THE INPUT: true; the input reads as it did. -/
def fnExactTotalsOfSpec : ChangeSpec := { name := "fnExactTotalsOf", fn := fun _ => fun
  | [d] => { results := [.lit (.bool true)], args := [d] }
  | _ => none }
def fnExactTotalsOfRow : OpenClaim := { program := "ytnmnkcmogbencaa", sum := "1918c14cd69f0d65f55e12f3505a83b720191b75f3e389abfd25815d39c9fa26", func := "loop.example/g00064/laws.FnExactTotalsOf", spec := "fnExactTotalsOf", inPlace := ["internal/bytealg.abigen_runtime_cmpstring", "slices.overlaps[loop.example/g00064/impl.Total]"], unfollowed := true, recurses := true, apart := false }
def FnExactTotalsOfSaid : Prop := fnExactTotalsOfRow.holds Try.pinned (OpenSpec.ofChange fnExactTotalsOfSpec)

/-- ITS FALSE NEIGHBOUR: 'it returns false'. Refute it at one input. -/
def fnExactTotalsOfWrong : ChangeSpec := { name := "fnExactTotalsOf", fn := fun _ => fun
  | [d] => { results := [.lit (.bool false)], args := [d] }
  | _ => none }
def FnExactTotalsOfWrongFalsely : Prop := fnExactTotalsOfRow.holds Try.pinned (OpenSpec.ofChange fnExactTotalsOfWrong)

/-- 'laws.FnExactPercentile': WHATEVER THE INPUT: true; the input reads as it did. -/
def fnExactPercentileSpec : ChangeSpec := { name := "fnExactPercentile", fn := fun _ => fun
  | [d1, d2] => { results := [.lit (.bool true)], args := [d1, d2] }
  | _ => none }
def fnExactPercentileRow : OpenClaim := { program := "ytnmnkcmogbencaa", sum := "1918c14cd69f0d65f55e12f3505a83b720191b75f3e389abfd25815d39c9fa26", func := "loop.example/g00064/laws.FnExactPercentile", spec := "fnExactPercentile", unfollowed := true, recurses := true, apart := false }
def FnExactPercentileSaid : Prop := fnExactPercentileRow.holds Try.pinned (OpenSpec.ofChange fnExactPercentileSpec)

/-- ITS FALSE NEIGHBOUR: 'it returns false'. Refute it at one input. -/
def fnExactPercentileWrong : ChangeSpec := { name := "fnExactPercentile", fn := fun _ => fun
  | [d1, d2] => { results := [.lit (.bool false)], args := [d1, d2] }
  | _ => none }
def FnExactPercentileWrongFalsely : Prop := fnExactPercentileRow.holds Try.pinned (OpenSpec.ofChange fnExactPercentileWrong)

/-- 'laws.FnMeasured': WHATEVER THE INPUT: true; the input reads as it did. -/
def fnMeasuredSpec : ChangeSpec := { name := "fnMeasured", fn := fun _ => fun
  | [d1, d2] => { results := [.lit (.bool true)], args := [d1, d2] }
  | _ => none }
def fnMeasuredRow : OpenClaim := { program := "ytnmnkcmogbencaa", sum := "1918c14cd69f0d65f55e12f3505a83b720191b75f3e389abfd25815d39c9fa26", func := "loop.example/g00064/laws.FnMeasured", spec := "fnMeasured", inPlace := ["internal/bytealg.abigen_runtime_cmpstring", "slices.overlaps[loop.example/g00064/impl.Total]"], unfollowed := true, recurses := true, apart := false }
def FnMeasuredSaid : Prop := fnMeasuredRow.holds Try.pinned (OpenSpec.ofChange fnMeasuredSpec)

/-- ITS FALSE NEIGHBOUR: 'it returns false'. Refute it at one input. -/
def fnMeasuredWrong : ChangeSpec := { name := "fnMeasured", fn := fun _ => fun
  | [d1, d2] => { results := [.lit (.bool false)], args := [d1, d2] }
  | _ => none }
def FnMeasuredWrongFalsely : Prop := fnMeasuredRow.holds Try.pinned (OpenSpec.ofChange fnMeasuredWrong)

/- THE SECOND FORM. 'bulk': how many values and letters a reading holds, each counted each time it is reached (what is shared counts as often as it is met; a slice's spare places count too). A statement '..UptoSaid' is the law's where the arguments, and the package variables that the reading takes, are together of bulk at most 1048576: NARROWER than '..Said'. Prove '..Said' where nothing that the law and all that it calls make is longer than what came in: it says more and counts as full. Else prove '..UptoSaid'. A law counts once. -/
mutual
def uptoBulk {H : Type} : DataW H → Nat
  | .lit (.string bytes) => bytes.length + 1
  | .lit _ => 1
  | .nil => 1
  | .ptr d => uptoBulk d + 1
  | .slice elems spare => uptoBulkAll elems + uptoBulkAll spare + 1
  | .agg parts => uptoBulkAll parts + 1
  | .iface _ d => uptoBulk d + 1
  | .map entries => uptoBulkEntries entries + 1
  | .held _ => 1
def uptoBulkAll {H : Type} : List (DataW H) → Nat
  | [] => 0
  | d :: r => uptoBulk d + uptoBulkAll r
def uptoBulkEntries {H : Type} : List (Lit × DataW H) → Nat
  | [] => 0
  | x :: r => uptoBulkEntry x + uptoBulkEntries r
def uptoBulkEntry {H : Type} : Lit × DataW H → Nat
  | (.string bytes, d) => bytes.length + uptoBulk d + 1
  | (_, d) => uptoBulk d + 1
 end
def uptoSmall : (H : Type) → List (DataW H) → Bool := fun _ ds => decide (uptoBulkAll ds ≤ 1048576)
def OpenSpec.upto (s : _root_.Go.ChangeSpec) : _root_.Go.OpenSpec := { _root_.Go.OpenSpec.ofChange s with cond := some uptoSmall }

/-- 'laws.FnExactFrameBudget', WHERE WHAT IT READS IS OF BULK AT MOST 1048576: true; the input reads as it did. -/
def fnExactFrameBudgetUptoRow : OpenClaim := { program := "ytnmnkcmogbencaa", sum := "1918c14cd69f0d65f55e12f3505a83b720191b75f3e389abfd25815d39c9fa26", func := "loop.example/g00064/laws.FnExactFrameBudget", spec := "fnExactFrameBudget", unfollowed := true, recurses := true, apart := false, narrowed := true }
def FnExactFrameBudgetUptoSaid : Prop := fnExactFrameBudgetUptoRow.holds Try.pinned (OpenSpec.upto fnExactFrameBudgetSpec)

/-- 'laws.FnExactGoodPlayers', WHERE WHAT IT READS IS OF BULK AT MOST 1048576: true; the input reads as it did. -/
def fnExactGoodPlayersUptoRow : OpenClaim := { program := "ytnmnkcmogbencaa", sum := "1918c14cd69f0d65f55e12f3505a83b720191b75f3e389abfd25815d39c9fa26", func := "loop.example/g00064/laws.FnExactGoodPlayers", spec := "fnExactGoodPlayers", apart := false, narrowed := true }
def FnExactGoodPlayersUptoSaid : Prop := fnExactGoodPlayersUptoRow.holds Try.pinned (OpenSpec.upto fnExactGoodPlayersSpec)

/-- 'laws.FnExactGoodSpans', WHERE WHAT IT READS IS OF BULK AT MOST 1048576: true; the input reads as it did. -/
def fnExactGoodSpansUptoRow : OpenClaim := { program := "ytnmnkcmogbencaa", sum := "1918c14cd69f0d65f55e12f3505a83b720191b75f3e389abfd25815d39c9fa26", func := "loop.example/g00064/laws.FnExactGoodSpans", spec := "fnExactGoodSpans", apart := false, narrowed := true }
def FnExactGoodSpansUptoSaid : Prop := fnExactGoodSpansUptoRow.holds Try.pinned (OpenSpec.upto fnExactGoodSpansSpec)

/-- 'laws.FnExactDiffSheets', WHERE WHAT IT READS IS OF BULK AT MOST 1048576: true; the input reads as it did. -/
def fnExactDiffSheetsUptoRow : OpenClaim := { program := "ytnmnkcmogbencaa", sum := "1918c14cd69f0d65f55e12f3505a83b720191b75f3e389abfd25815d39c9fa26", func := "loop.example/g00064/laws.FnExactDiffSheets", spec := "fnExactDiffSheets", unfollowed := true, recurses := true, apart := false, narrowed := true }
def FnExactDiffSheetsUptoSaid : Prop := fnExactDiffSheetsUptoRow.holds Try.pinned (OpenSpec.upto fnExactDiffSheetsSpec)

/-- 'laws.FnExactPaintBox', WHERE WHAT IT READS IS OF BULK AT MOST 1048576: true; the input reads as it did. -/
def fnExactPaintBoxUptoRow : OpenClaim := { program := "ytnmnkcmogbencaa", sum := "1918c14cd69f0d65f55e12f3505a83b720191b75f3e389abfd25815d39c9fa26", func := "loop.example/g00064/laws.FnExactPaintBox", spec := "fnExactPaintBox", unfollowed := true, recurses := true, apart := false, narrowed := true }
def FnExactPaintBoxUptoSaid : Prop := fnExactPaintBoxUptoRow.holds Try.pinned (OpenSpec.upto fnExactPaintBoxSpec)

/-- 'laws.FnExactPaintLine', WHERE WHAT IT READS IS OF BULK AT MOST 1048576: true; the input reads as it did. -/
def fnExactPaintLineUptoRow : OpenClaim := { program := "ytnmnkcmogbencaa", sum := "1918c14cd69f0d65f55e12f3505a83b720191b75f3e389abfd25815d39c9fa26", func := "loop.example/g00064/laws.FnExactPaintLine", spec := "fnExactPaintLine", unfollowed := true, recurses := true, apart := false, narrowed := true }
def FnExactPaintLineUptoSaid : Prop := fnExactPaintLineUptoRow.holds Try.pinned (OpenSpec.upto fnExactPaintLineSpec)

/-- 'laws.FnExactSpansOf', WHERE WHAT IT READS IS OF BULK AT MOST 1048576: true; the input reads as it did. -/
def fnExactSpansOfUptoRow : OpenClaim := { program := "ytnmnkcmogbencaa", sum := "1918c14cd69f0d65f55e12f3505a83b720191b75f3e389abfd25815d39c9fa26", func := "loop.example/g00064/laws.FnExactSpansOf", spec := "fnExactSpansOf", apart := false, narrowed := true }
def FnExactSpansOfUptoSaid : Prop := fnExactSpansOfUptoRow.holds Try.pinned (OpenSpec.upto fnExactSpansOfSpec)

/-- 'laws.FnExactHottestWay', WHERE WHAT IT READS IS OF BULK AT MOST 1048576: true; the input reads as it did. -/
def fnExactHottestWayUptoRow : OpenClaim := { program := "ytnmnkcmogbencaa", sum := "1918c14cd69f0d65f55e12f3505a83b720191b75f3e389abfd25815d39c9fa26", func := "loop.example/g00064/laws.FnExactHottestWay", spec := "fnExactHottestWay", apart := false, narrowed := true }
def FnExactHottestWayUptoSaid : Prop := fnExactHottestWayUptoRow.holds Try.pinned (OpenSpec.upto fnExactHottestWaySpec)

/-- 'laws.FnExactTotalsOf', WHERE WHAT IT READS IS OF BULK AT MOST 1048576: true; the input reads as it did. -/
def fnExactTotalsOfUptoRow : OpenClaim := { program := "ytnmnkcmogbencaa", sum := "1918c14cd69f0d65f55e12f3505a83b720191b75f3e389abfd25815d39c9fa26", func := "loop.example/g00064/laws.FnExactTotalsOf", spec := "fnExactTotalsOf", inPlace := ["internal/bytealg.abigen_runtime_cmpstring", "slices.overlaps[loop.example/g00064/impl.Total]"], unfollowed := true, recurses := true, apart := false, narrowed := true }
def FnExactTotalsOfUptoSaid : Prop := fnExactTotalsOfUptoRow.holds Try.pinned (OpenSpec.upto fnExactTotalsOfSpec)

/-- 'laws.FnExactPercentile', WHERE WHAT IT READS IS OF BULK AT MOST 1048576: true; the input reads as it did. -/
def fnExactPercentileUptoRow : OpenClaim := { program := "ytnmnkcmogbencaa", sum := "1918c14cd69f0d65f55e12f3505a83b720191b75f3e389abfd25815d39c9fa26", func := "loop.example/g00064/laws.FnExactPercentile", spec := "fnExactPercentile", unfollowed := true, recurses := true, apart := false, narrowed := true }
def FnExactPercentileUptoSaid : Prop := fnExactPercentileUptoRow.holds Try.pinned (OpenSpec.upto fnExactPercentileSpec)

/-- 'laws.FnMeasured', WHERE WHAT IT READS IS OF BULK AT MOST 1048576: true; the input reads as it did. -/
def fnMeasuredUptoRow : OpenClaim := { program := "ytnmnkcmogbencaa", sum := "1918c14cd69f0d65f55e12f3505a83b720191b75f3e389abfd25815d39c9fa26", func := "loop.example/g00064/laws.FnMeasured", spec := "fnMeasured", inPlace := ["internal/bytealg.abigen_runtime_cmpstring", "slices.overlaps[loop.example/g00064/impl.Total]"], unfollowed := true, recurses := true, apart := false, narrowed := true }
def FnMeasuredUptoSaid : Prop := fnMeasuredUptoRow.holds Try.pinned (OpenSpec.upto fnMeasuredSpec)

end Rows
end Go.Proofs.Ytnmnkcmogbencaa
