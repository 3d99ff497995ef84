/-
  No cell of these rows narrows 'for every input' (looked for: loops, veiled, ifaces, maps, wideKeys, modest, calm, conditions, laid).
  DERIVED. THE GIVEN ROWS OF THIS SEAT. 2 by the template 'for every input the law returns true; each argument reads behind the call as it read before'; 0 by the template 'total and deterministic' (their statements: YtheheedekbhonaaTotals.lean).
  GIVEN WITH THE SEED: the statements are not yours to turn. If you find one false, say at which input.
  Laid BY PROGRAM, IN A SANDBOX (cutbox-rows.mjs): the forced cells as the released guide's own fill.sh prints them over the translation 40e7566ef7d051b2… (all of the seat's roots in one cut). By AI agents, Wed Nov 11 2026. No macro, syntax, notation, axiom, sorry.
-/
import Derived.Test.YtheheedekbhonaaChecked
import GoSem.Claim
import GoSem.ClaimJoined
import GoSem.ClaimMapViews
import Derived.JoinedTies
import Derived.KernelRfl
namespace Go.Proofs.Ytheheedekbhonaa
/- THE CELL 'sum', in the pinned program and in every row, IS THE sha256 OF THE DUMP (.gsa) THAT YtheheedekbhonaaProg.lean LOADS. Nothing in Lean hashes anything: it is a label: what it is worth is what the hold of that sum in a sandbox is worth. -/
noncomputable def Try.pinned : Pinned := { name := "ytheheedekbhonaa", sum := "40e7566ef7d051b256f509477e2efa88d2c7f9b8d6493ca976892356691afebf", checked := Try.checked }
namespace Rows
def none {H : Type} : Left H := { results := [], args := [] }

/-- 'laws.FnExactPaintBox': WHATEVER THE INPUT: true; the input reads as it did. -/
def fnExactPaintBoxSpec : ChangeSpec := { name := "fnExactPaintBox", fn := fun _ => fun
  | [d1, d2, d3] => { results := [.lit (.bool true)], args := [d1, d2, d3] }
  | _ => none }
def fnExactPaintBoxRow : OpenClaim := { program := "ytheheedekbhonaa", sum := "40e7566ef7d051b256f509477e2efa88d2c7f9b8d6493ca976892356691afebf", func := "loop.example/g00064/laws.FnExactPaintBox", spec := "fnExactPaintBox", unfollowed := true, recurses := true, apart := false }
def FnExactPaintBoxSaid : Prop := fnExactPaintBoxRow.holds Try.pinned (OpenSpec.ofChange fnExactPaintBoxSpec)

/-- ITS FALSE NEIGHBOUR: 'it returns false'. Refute it at one input. -/
def fnExactPaintBoxWrong : ChangeSpec := { name := "fnExactPaintBox", fn := fun _ => fun
  | [d1, d2, d3] => { results := [.lit (.bool false)], args := [d1, d2, d3] }
  | _ => none }
def FnExactPaintBoxWrongFalsely : Prop := fnExactPaintBoxRow.holds Try.pinned (OpenSpec.ofChange fnExactPaintBoxWrong)

/-- 'laws.FnExactPaintLine': WHATEVER THE INPUT: true; the input reads as it did. -/
def fnExactPaintLineSpec : ChangeSpec := { name := "fnExactPaintLine", fn := fun _ => fun
  | [d1, d2, d3, d4, d5, d6] => { results := [.lit (.bool true)], args := [d1, d2, d3, d4, d5, d6] }
  | _ => none }
def fnExactPaintLineRow : OpenClaim := { program := "ytheheedekbhonaa", sum := "40e7566ef7d051b256f509477e2efa88d2c7f9b8d6493ca976892356691afebf", func := "loop.example/g00064/laws.FnExactPaintLine", spec := "fnExactPaintLine", unfollowed := true, recurses := true, apart := false }
def FnExactPaintLineSaid : Prop := fnExactPaintLineRow.holds Try.pinned (OpenSpec.ofChange fnExactPaintLineSpec)

/-- ITS FALSE NEIGHBOUR: 'it returns false'. Refute it at one input. -/
def fnExactPaintLineWrong : ChangeSpec := { name := "fnExactPaintLine", fn := fun _ => fun
  | [d1, d2, d3, d4, d5, d6] => { results := [.lit (.bool false)], args := [d1, d2, d3, d4, d5, d6] }
  | _ => none }
def FnExactPaintLineWrongFalsely : Prop := fnExactPaintLineRow.holds Try.pinned (OpenSpec.ofChange fnExactPaintLineWrong)

/- THE SECOND FORM. 'bulk': how many values and letters a reading holds, each counted each time it is reached (what is shared counts as often as it is met; a slice's spare places count too). A statement '..UptoSaid' is the law's where the arguments, and the package variables that the reading takes, are together of bulk at most 1048576: NARROWER than '..Said'. Prove '..Said' where nothing that the law and all that it calls make is longer than what came in: it says more and counts as full. Else prove '..UptoSaid'. A law counts once. -/
mutual
def uptoBulk {H : Type} : DataW H → Nat
  | .lit (.string bytes) => bytes.length + 1
  | .lit _ => 1
  | .nil => 1
  | .ptr d => uptoBulk d + 1
  | .slice elems spare => uptoBulkAll elems + uptoBulkAll spare + 1
  | .agg parts => uptoBulkAll parts + 1
  | .iface _ d => uptoBulk d + 1
  | .map entries => uptoBulkEntries entries + 1
  | .held _ => 1
def uptoBulkAll {H : Type} : List (DataW H) → Nat
  | [] => 0
  | d :: r => uptoBulk d + uptoBulkAll r
def uptoBulkEntries {H : Type} : List (Lit × DataW H) → Nat
  | [] => 0
  | x :: r => uptoBulkEntry x + uptoBulkEntries r
def uptoBulkEntry {H : Type} : Lit × DataW H → Nat
  | (.string bytes, d) => bytes.length + uptoBulk d + 1
  | (_, d) => uptoBulk d + 1
 end
def uptoSmall : (H : Type) → List (DataW H) → Bool := fun _ ds => decide (uptoBulkAll ds ≤ 1048576)
def OpenSpec.upto (s : _root_.Go.ChangeSpec) : _root_.Go.OpenSpec := { _root_.Go.OpenSpec.ofChange s with cond := some uptoSmall }

/-- 'laws.FnExactPaintBox', WHERE WHAT IT READS IS OF BULK AT MOST 1048576: true; the input reads as it did. -/
def fnExactPaintBoxUptoRow : OpenClaim := { program := "ytheheedekbhonaa", sum := "40e7566ef7d051b256f509477e2efa88d2c7f9b8d6493ca976892356691afebf", func := "loop.example/g00064/laws.FnExactPaintBox", spec := "fnExactPaintBox", unfollowed := true, recurses := true, apart := false, narrowed := true }
def FnExactPaintBoxUptoSaid : Prop := fnExactPaintBoxUptoRow.holds Try.pinned (OpenSpec.upto fnExactPaintBoxSpec)

/-- 'laws.FnExactPaintLine', WHERE WHAT IT READS IS OF BULK AT MOST 1048576: true; the input reads as it did. -/
def fnExactPaintLineUptoRow : OpenClaim := { program := "ytheheedekbhonaa", sum := "40e7566ef7d051b256f509477e2efa88d2c7f9b8d6493ca976892356691afebf", func := "loop.example/g00064/laws.FnExactPaintLine", spec := "fnExactPaintLine", unfollowed := true, recurses := true, apart := false, narrowed := true }
def FnExactPaintLineUptoSaid : Prop := fnExactPaintLineUptoRow.holds Try.pinned (OpenSpec.upto fnExactPaintLineSpec)

end Rows
end Go.Proofs.Ytheheedekbhonaa
