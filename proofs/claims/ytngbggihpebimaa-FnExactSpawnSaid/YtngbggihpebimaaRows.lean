/-
  No cell of these rows narrows 'for every input' (looked for: loops, veiled, ifaces, maps, wideKeys, modest, calm, conditions, laid).
  DERIVED. THE GIVEN ROWS OF THIS SEAT. 12 by the template 'for every input the law returns true; each argument reads behind the call as it read before'; 0 by the template 'total and deterministic' (their statements: YtngbggihpebimaaTotals.lean).
  GIVEN WITH THE SEED: the statements are not yours to turn. If you find one false, say at which input.
  Laid BY PROGRAM, IN A SANDBOX (cutbox-rows.mjs): the forced cells as the released guide's own fill.sh prints them over the translation edc72e5cbb2223c6… (all of the seat's roots in one cut). By AI agents, Wed Nov 11 2026. No macro, syntax, notation, axiom, sorry.
-/
import Derived.Test.YtngbggihpebimaaChecked
import GoSem.Claim
import GoSem.ClaimJoined
import GoSem.ClaimMapViews
import Derived.JoinedTies
import Derived.KernelRfl
namespace Go.Proofs.Ytngbggihpebimaa
/- THE CELL 'sum', in the pinned program and in every row, IS THE sha256 OF THE DUMP (.gsa) THAT YtngbggihpebimaaProg.lean LOADS. Nothing in Lean hashes anything: it is a label: what it is worth is what the hold of that sum in a sandbox is worth. -/
noncomputable def Try.pinned : Pinned := { name := "ytngbggihpebimaa", sum := "edc72e5cbb2223c670292b44708bea3b1a1330bfa5e0a30f0cc0818733715497", checked := Try.checked }
namespace Rows
def none {H : Type} : Left H := { results := [], args := [] }

/-- 'laws.FnExactStepGame': WHATEVER THE INPUT: true; the input reads as it did. -/
def fnExactStepGameSpec : ChangeSpec := { name := "fnExactStepGame", fn := fun _ => fun
  | [d1, d2] => { results := [.lit (.bool true)], args := [d1, d2] }
  | _ => none }
def fnExactStepGameRow : OpenClaim := { program := "ytngbggihpebimaa", sum := "edc72e5cbb2223c670292b44708bea3b1a1330bfa5e0a30f0cc0818733715497", func := "loop.example/g00064/laws.FnExactStepGame", spec := "fnExactStepGame", unfollowed := true, recurses := true, apart := false }
def FnExactStepGameSaid : Prop := fnExactStepGameRow.holds Try.pinned (OpenSpec.ofChange fnExactStepGameSpec)

/-- ITS FALSE NEIGHBOUR: 'it returns false'. Refute it at one input. -/
def fnExactStepGameWrong : ChangeSpec := { name := "fnExactStepGame", fn := fun _ => fun
  | [d1, d2] => { results := [.lit (.bool false)], args := [d1, d2] }
  | _ => none }
def FnExactStepGameWrongFalsely : Prop := fnExactStepGameRow.holds Try.pinned (OpenSpec.ofChange fnExactStepGameWrong)

/-- 'laws.FnExactNextTick': WHATEVER THE INPUT: true; the input reads as it did. -/
def fnExactNextTickSpec : ChangeSpec := { name := "fnExactNextTick", fn := fun _ => fun
  | [d] => { results := [.lit (.bool true)], args := [d] }
  | _ => none }
def fnExactNextTickRow : OpenClaim := { program := "ytngbggihpebimaa", sum := "edc72e5cbb2223c670292b44708bea3b1a1330bfa5e0a30f0cc0818733715497", func := "loop.example/g00064/laws.FnExactNextTick", spec := "fnExactNextTick", apart := false }
def FnExactNextTickSaid : Prop := fnExactNextTickRow.holds Try.pinned (OpenSpec.ofChange fnExactNextTickSpec)

/-- ITS FALSE NEIGHBOUR: 'it returns false'. Refute it at one input. -/
def fnExactNextTickWrong : ChangeSpec := { name := "fnExactNextTick", fn := fun _ => fun
  | [d] => { results := [.lit (.bool false)], args := [d] }
  | _ => none }
def FnExactNextTickWrongFalsely : Prop := fnExactNextTickRow.holds Try.pinned (OpenSpec.ofChange fnExactNextTickWrong)

/-- 'laws.FnExactSumsOf': WHATEVER THE INPUT: true; the input reads as it did. -/
def fnExactSumsOfSpec : ChangeSpec := { name := "fnExactSumsOf", fn := fun _ => fun
  | [d1, d2, d3] => { results := [.lit (.bool true)], args := [d1, d2, d3] }
  | _ => none }
def fnExactSumsOfRow : OpenClaim := { program := "ytngbggihpebimaa", sum := "edc72e5cbb2223c670292b44708bea3b1a1330bfa5e0a30f0cc0818733715497", func := "loop.example/g00064/laws.FnExactSumsOf", spec := "fnExactSumsOf", unfollowed := true, recurses := true, apart := false }
def FnExactSumsOfSaid : Prop := fnExactSumsOfRow.holds Try.pinned (OpenSpec.ofChange fnExactSumsOfSpec)

/-- ITS FALSE NEIGHBOUR: 'it returns false'. Refute it at one input. -/
def fnExactSumsOfWrong : ChangeSpec := { name := "fnExactSumsOf", fn := fun _ => fun
  | [d1, d2, d3] => { results := [.lit (.bool false)], args := [d1, d2, d3] }
  | _ => none }
def FnExactSumsOfWrongFalsely : Prop := fnExactSumsOfRow.holds Try.pinned (OpenSpec.ofChange fnExactSumsOfWrong)

/-- 'laws.FnExactPlayAll': WHATEVER THE INPUT: true; the input reads as it did. -/
def fnExactPlayAllSpec : ChangeSpec := { name := "fnExactPlayAll", fn := fun _ => fun
  | [d1, d2, d3] => { results := [.lit (.bool true)], args := [d1, d2, d3] }
  | _ => none }
def fnExactPlayAllRow : OpenClaim := { program := "ytngbggihpebimaa", sum := "edc72e5cbb2223c670292b44708bea3b1a1330bfa5e0a30f0cc0818733715497", func := "loop.example/g00064/laws.FnExactPlayAll", spec := "fnExactPlayAll", unfollowed := true, recurses := true, apart := false }
def FnExactPlayAllSaid : Prop := fnExactPlayAllRow.holds Try.pinned (OpenSpec.ofChange fnExactPlayAllSpec)

/-- ITS FALSE NEIGHBOUR: 'it returns false'. Refute it at one input. -/
def fnExactPlayAllWrong : ChangeSpec := { name := "fnExactPlayAll", fn := fun _ => fun
  | [d1, d2, d3] => { results := [.lit (.bool false)], args := [d1, d2, d3] }
  | _ => none }
def FnExactPlayAllWrongFalsely : Prop := fnExactPlayAllRow.holds Try.pinned (OpenSpec.ofChange fnExactPlayAllWrong)

/-- 'laws.FnExactRunPeer': WHATEVER THE INPUT: true; the input reads as it did. -/
def fnExactRunPeerSpec : ChangeSpec := { name := "fnExactRunPeer", fn := fun _ => fun
  | [d1, d2, d3, d4] => { results := [.lit (.bool true)], args := [d1, d2, d3, d4] }
  | _ => none }
def fnExactRunPeerRow : OpenClaim := { program := "ytngbggihpebimaa", sum := "edc72e5cbb2223c670292b44708bea3b1a1330bfa5e0a30f0cc0818733715497", func := "loop.example/g00064/laws.FnExactRunPeer", spec := "fnExactRunPeer", apart := false }
def FnExactRunPeerSaid : Prop := fnExactRunPeerRow.holds Try.pinned (OpenSpec.ofChange fnExactRunPeerSpec)

/-- ITS FALSE NEIGHBOUR: 'it returns false'. Refute it at one input. -/
def fnExactRunPeerWrong : ChangeSpec := { name := "fnExactRunPeer", fn := fun _ => fun
  | [d1, d2, d3, d4] => { results := [.lit (.bool false)], args := [d1, d2, d3, d4] }
  | _ => none }
def FnExactRunPeerWrongFalsely : Prop := fnExactRunPeerRow.holds Try.pinned (OpenSpec.ofChange fnExactRunPeerWrong)

/-- 'laws.FnLate': WHATEVER THE INPUT: true; the input reads as it did. -/
def fnLateSpec : ChangeSpec := { name := "fnLate", fn := fun _ => fun
  | [d] => { results := [.lit (.bool true)], args := [d] }
  | _ => none }
def fnLateRow : OpenClaim := { program := "ytngbggihpebimaa", sum := "edc72e5cbb2223c670292b44708bea3b1a1330bfa5e0a30f0cc0818733715497", func := "loop.example/g00064/laws.FnLate", spec := "fnLate", unfollowed := true, recurses := true, apart := false }
def FnLateSaid : Prop := fnLateRow.holds Try.pinned (OpenSpec.ofChange fnLateSpec)

/-- ITS FALSE NEIGHBOUR: 'it returns false'. Refute it at one input. -/
def fnLateWrong : ChangeSpec := { name := "fnLate", fn := fun _ => fun
  | [d] => { results := [.lit (.bool false)], args := [d] }
  | _ => none }
def FnLateWrongFalsely : Prop := fnLateRow.holds Try.pinned (OpenSpec.ofChange fnLateWrong)

/-- 'laws.FnExactPeerStep': WHATEVER THE INPUT: true; the input reads as it did. -/
def fnExactPeerStepSpec : ChangeSpec := { name := "fnExactPeerStep", fn := fun _ => fun
  | [d] => { results := [.lit (.bool true)], args := [d] }
  | _ => none }
def fnExactPeerStepRow : OpenClaim := { program := "ytngbggihpebimaa", sum := "edc72e5cbb2223c670292b44708bea3b1a1330bfa5e0a30f0cc0818733715497", func := "loop.example/g00064/laws.FnExactPeerStep", spec := "fnExactPeerStep", unfollowed := true, recurses := true, apart := false }
def FnExactPeerStepSaid : Prop := fnExactPeerStepRow.holds Try.pinned (OpenSpec.ofChange fnExactPeerStepSpec)

/-- ITS FALSE NEIGHBOUR: 'it returns false'. Refute it at one input. -/
def fnExactPeerStepWrong : ChangeSpec := { name := "fnExactPeerStep", fn := fun _ => fun
  | [d] => { results := [.lit (.bool false)], args := [d] }
  | _ => none }
def FnExactPeerStepWrongFalsely : Prop := fnExactPeerStepRow.holds Try.pinned (OpenSpec.ofChange fnExactPeerStepWrong)

/-- 'laws.FnExactPeerHears': WHATEVER THE INPUT: true; the input reads as it did. -/
def fnExactPeerHearsSpec : ChangeSpec := { name := "fnExactPeerHears", fn := fun _ => fun
  | [d1, d2] => { results := [.lit (.bool true)], args := [d1, d2] }
  | _ => none }
def fnExactPeerHearsRow : OpenClaim := { program := "ytngbggihpebimaa", sum := "edc72e5cbb2223c670292b44708bea3b1a1330bfa5e0a30f0cc0818733715497", func := "loop.example/g00064/laws.FnExactPeerHears", spec := "fnExactPeerHears", unfollowed := true, recurses := true, apart := false }
def FnExactPeerHearsSaid : Prop := fnExactPeerHearsRow.holds Try.pinned (OpenSpec.ofChange fnExactPeerHearsSpec)

/-- ITS FALSE NEIGHBOUR: 'it returns false'. Refute it at one input. -/
def fnExactPeerHearsWrong : ChangeSpec := { name := "fnExactPeerHears", fn := fun _ => fun
  | [d1, d2] => { results := [.lit (.bool false)], args := [d1, d2] }
  | _ => none }
def FnExactPeerHearsWrongFalsely : Prop := fnExactPeerHearsRow.holds Try.pinned (OpenSpec.ofChange fnExactPeerHearsWrong)

/-- 'laws.FnExactSpawn': WHATEVER THE INPUT: true; the input reads as it did. -/
def fnExactSpawnSpec : ChangeSpec := { name := "fnExactSpawn", fn := fun _ => fun
  | [d] => { results := [.lit (.bool true)], args := [d] }
  | _ => none }
def fnExactSpawnRow : OpenClaim := { program := "ytngbggihpebimaa", sum := "edc72e5cbb2223c670292b44708bea3b1a1330bfa5e0a30f0cc0818733715497", func := "loop.example/g00064/laws.FnExactSpawn", spec := "fnExactSpawn", apart := false }
def FnExactSpawnSaid : Prop := fnExactSpawnRow.holds Try.pinned (OpenSpec.ofChange fnExactSpawnSpec)

/-- ITS FALSE NEIGHBOUR: 'it returns false'. Refute it at one input. -/
def fnExactSpawnWrong : ChangeSpec := { name := "fnExactSpawn", fn := fun _ => fun
  | [d] => { results := [.lit (.bool false)], args := [d] }
  | _ => none }
def FnExactSpawnWrongFalsely : Prop := fnExactSpawnRow.holds Try.pinned (OpenSpec.ofChange fnExactSpawnWrong)

/-- 'laws.FnExactDespawn': WHATEVER THE INPUT: true; the input reads as it did. -/
def fnExactDespawnSpec : ChangeSpec := { name := "fnExactDespawn", fn := fun _ => fun
  | [d1, d2] => { results := [.lit (.bool true)], args := [d1, d2] }
  | _ => none }
def fnExactDespawnRow : OpenClaim := { program := "ytngbggihpebimaa", sum := "edc72e5cbb2223c670292b44708bea3b1a1330bfa5e0a30f0cc0818733715497", func := "loop.example/g00064/laws.FnExactDespawn", spec := "fnExactDespawn", unfollowed := true, recurses := true, apart := false }
def FnExactDespawnSaid : Prop := fnExactDespawnRow.holds Try.pinned (OpenSpec.ofChange fnExactDespawnSpec)

/-- ITS FALSE NEIGHBOUR: 'it returns false'. Refute it at one input. -/
def fnExactDespawnWrong : ChangeSpec := { name := "fnExactDespawn", fn := fun _ => fun
  | [d1, d2] => { results := [.lit (.bool false)], args := [d1, d2] }
  | _ => none }
def FnExactDespawnWrongFalsely : Prop := fnExactDespawnRow.holds Try.pinned (OpenSpec.ofChange fnExactDespawnWrong)

/-- 'laws.FnExactDropPart': WHATEVER THE INPUT: true; the input reads as it did. -/
def fnExactDropPartSpec : ChangeSpec := { name := "fnExactDropPart", fn := fun _ => fun
  | [d1, d2, d3] => { results := [.lit (.bool true)], args := [d1, d2, d3] }
  | _ => none }
def fnExactDropPartRow : OpenClaim := { program := "ytngbggihpebimaa", sum := "edc72e5cbb2223c670292b44708bea3b1a1330bfa5e0a30f0cc0818733715497", func := "loop.example/g00064/laws.FnExactDropPart", spec := "fnExactDropPart", inPlace := ["internal/bytealg.abigen_runtime_cmpstring"], unfollowed := true, recurses := true, apart := false }
def FnExactDropPartSaid : Prop := fnExactDropPartRow.holds Try.pinned (OpenSpec.ofChange fnExactDropPartSpec)

/-- ITS FALSE NEIGHBOUR: 'it returns false'. Refute it at one input. -/
def fnExactDropPartWrong : ChangeSpec := { name := "fnExactDropPart", fn := fun _ => fun
  | [d1, d2, d3] => { results := [.lit (.bool false)], args := [d1, d2, d3] }
  | _ => none }
def FnExactDropPartWrongFalsely : Prop := fnExactDropPartRow.holds Try.pinned (OpenSpec.ofChange fnExactDropPartWrong)

/-- 'laws.FnExactSetPart': WHATEVER THE INPUT: true; the input reads as it did. -/
def fnExactSetPartSpec : ChangeSpec := { name := "fnExactSetPart", fn := fun _ => fun
  | [d1, d2, d3, d4] => { results := [.lit (.bool true)], args := [d1, d2, d3, d4] }
  | _ => none }
def fnExactSetPartRow : OpenClaim := { program := "ytngbggihpebimaa", sum := "edc72e5cbb2223c670292b44708bea3b1a1330bfa5e0a30f0cc0818733715497", func := "loop.example/g00064/laws.FnExactSetPart", spec := "fnExactSetPart", inPlace := ["internal/bytealg.abigen_runtime_cmpstring", "slices.overlaps[loop.example/g00064/impl.Part]"], unfollowed := true, recurses := true, apart := false }
def FnExactSetPartSaid : Prop := fnExactSetPartRow.holds Try.pinned (OpenSpec.ofChange fnExactSetPartSpec)

/-- ITS FALSE NEIGHBOUR: 'it returns false'. Refute it at one input. -/
def fnExactSetPartWrong : ChangeSpec := { name := "fnExactSetPart", fn := fun _ => fun
  | [d1, d2, d3, d4] => { results := [.lit (.bool false)], args := [d1, d2, d3, d4] }
  | _ => none }
def FnExactSetPartWrongFalsely : Prop := fnExactSetPartRow.holds Try.pinned (OpenSpec.ofChange fnExactSetPartWrong)

/- THE SECOND FORM. 'bulk': how many values and letters a reading holds, each counted each time it is reached (what is shared counts as often as it is met; a slice's spare places count too). A statement '..UptoSaid' is the law's where the arguments, and the package variables that the reading takes, are together of bulk at most 1048576: NARROWER than '..Said'. Prove '..Said' where nothing that the law and all that it calls make is longer than what came in: it says more and counts as full. Else prove '..UptoSaid'. A law counts once. -/
mutual
def uptoBulk {H : Type} : DataW H → Nat
  | .lit (.string bytes) => bytes.length + 1
  | .lit _ => 1
  | .nil => 1
  | .ptr d => uptoBulk d + 1
  | .slice elems spare => uptoBulkAll elems + uptoBulkAll spare + 1
  | .agg parts => uptoBulkAll parts + 1
  | .iface _ d => uptoBulk d + 1
  | .map entries => uptoBulkEntries entries + 1
  | .held _ => 1
def uptoBulkAll {H : Type} : List (DataW H) → Nat
  | [] => 0
  | d :: r => uptoBulk d + uptoBulkAll r
def uptoBulkEntries {H : Type} : List (Lit × DataW H) → Nat
  | [] => 0
  | x :: r => uptoBulkEntry x + uptoBulkEntries r
def uptoBulkEntry {H : Type} : Lit × DataW H → Nat
  | (.string bytes, d) => bytes.length + uptoBulk d + 1
  | (_, d) => uptoBulk d + 1
 end
def uptoSmall : (H : Type) → List (DataW H) → Bool := fun _ ds => decide (uptoBulkAll ds ≤ 1048576)
def OpenSpec.upto (s : _root_.Go.ChangeSpec) : _root_.Go.OpenSpec := { _root_.Go.OpenSpec.ofChange s with cond := some uptoSmall }

/-- 'laws.FnExactStepGame', WHERE WHAT IT READS IS OF BULK AT MOST 1048576: true; the input reads as it did. -/
def fnExactStepGameUptoRow : OpenClaim := { program := "ytngbggihpebimaa", sum := "edc72e5cbb2223c670292b44708bea3b1a1330bfa5e0a30f0cc0818733715497", func := "loop.example/g00064/laws.FnExactStepGame", spec := "fnExactStepGame", unfollowed := true, recurses := true, apart := false, narrowed := true }
def FnExactStepGameUptoSaid : Prop := fnExactStepGameUptoRow.holds Try.pinned (OpenSpec.upto fnExactStepGameSpec)

/-- 'laws.FnExactNextTick', WHERE WHAT IT READS IS OF BULK AT MOST 1048576: true; the input reads as it did. -/
def fnExactNextTickUptoRow : OpenClaim := { program := "ytngbggihpebimaa", sum := "edc72e5cbb2223c670292b44708bea3b1a1330bfa5e0a30f0cc0818733715497", func := "loop.example/g00064/laws.FnExactNextTick", spec := "fnExactNextTick", apart := false, narrowed := true }
def FnExactNextTickUptoSaid : Prop := fnExactNextTickUptoRow.holds Try.pinned (OpenSpec.upto fnExactNextTickSpec)

/-- 'laws.FnExactSumsOf', WHERE WHAT IT READS IS OF BULK AT MOST 1048576: true; the input reads as it did. -/
def fnExactSumsOfUptoRow : OpenClaim := { program := "ytngbggihpebimaa", sum := "edc72e5cbb2223c670292b44708bea3b1a1330bfa5e0a30f0cc0818733715497", func := "loop.example/g00064/laws.FnExactSumsOf", spec := "fnExactSumsOf", unfollowed := true, recurses := true, apart := false, narrowed := true }
def FnExactSumsOfUptoSaid : Prop := fnExactSumsOfUptoRow.holds Try.pinned (OpenSpec.upto fnExactSumsOfSpec)

/-- 'laws.FnExactPlayAll', WHERE WHAT IT READS IS OF BULK AT MOST 1048576: true; the input reads as it did. -/
def fnExactPlayAllUptoRow : OpenClaim := { program := "ytngbggihpebimaa", sum := "edc72e5cbb2223c670292b44708bea3b1a1330bfa5e0a30f0cc0818733715497", func := "loop.example/g00064/laws.FnExactPlayAll", spec := "fnExactPlayAll", unfollowed := true, recurses := true, apart := false, narrowed := true }
def FnExactPlayAllUptoSaid : Prop := fnExactPlayAllUptoRow.holds Try.pinned (OpenSpec.upto fnExactPlayAllSpec)

/-- 'laws.FnExactRunPeer', WHERE WHAT IT READS IS OF BULK AT MOST 1048576: true; the input reads as it did. -/
def fnExactRunPeerUptoRow : OpenClaim := { program := "ytngbggihpebimaa", sum := "edc72e5cbb2223c670292b44708bea3b1a1330bfa5e0a30f0cc0818733715497", func := "loop.example/g00064/laws.FnExactRunPeer", spec := "fnExactRunPeer", apart := false, narrowed := true }
def FnExactRunPeerUptoSaid : Prop := fnExactRunPeerUptoRow.holds Try.pinned (OpenSpec.upto fnExactRunPeerSpec)

/-- 'laws.FnLate', WHERE WHAT IT READS IS OF BULK AT MOST 1048576: true; the input reads as it did. -/
def fnLateUptoRow : OpenClaim := { program := "ytngbggihpebimaa", sum := "edc72e5cbb2223c670292b44708bea3b1a1330bfa5e0a30f0cc0818733715497", func := "loop.example/g00064/laws.FnLate", spec := "fnLate", unfollowed := true, recurses := true, apart := false, narrowed := true }
def FnLateUptoSaid : Prop := fnLateUptoRow.holds Try.pinned (OpenSpec.upto fnLateSpec)

/-- 'laws.FnExactPeerStep', WHERE WHAT IT READS IS OF BULK AT MOST 1048576: true; the input reads as it did. -/
def fnExactPeerStepUptoRow : OpenClaim := { program := "ytngbggihpebimaa", sum := "edc72e5cbb2223c670292b44708bea3b1a1330bfa5e0a30f0cc0818733715497", func := "loop.example/g00064/laws.FnExactPeerStep", spec := "fnExactPeerStep", unfollowed := true, recurses := true, apart := false, narrowed := true }
def FnExactPeerStepUptoSaid : Prop := fnExactPeerStepUptoRow.holds Try.pinned (OpenSpec.upto fnExactPeerStepSpec)

/-- 'laws.FnExactPeerHears', WHERE WHAT IT READS IS OF BULK AT MOST 1048576: true; the input reads as it did. -/
def fnExactPeerHearsUptoRow : OpenClaim := { program := "ytngbggihpebimaa", sum := "edc72e5cbb2223c670292b44708bea3b1a1330bfa5e0a30f0cc0818733715497", func := "loop.example/g00064/laws.FnExactPeerHears", spec := "fnExactPeerHears", unfollowed := true, recurses := true, apart := false, narrowed := true }
def FnExactPeerHearsUptoSaid : Prop := fnExactPeerHearsUptoRow.holds Try.pinned (OpenSpec.upto fnExactPeerHearsSpec)

/-- 'laws.FnExactSpawn', WHERE WHAT IT READS IS OF BULK AT MOST 1048576: true; the input reads as it did. -/
def fnExactSpawnUptoRow : OpenClaim := { program := "ytngbggihpebimaa", sum := "edc72e5cbb2223c670292b44708bea3b1a1330bfa5e0a30f0cc0818733715497", func := "loop.example/g00064/laws.FnExactSpawn", spec := "fnExactSpawn", apart := false, narrowed := true }
def FnExactSpawnUptoSaid : Prop := fnExactSpawnUptoRow.holds Try.pinned (OpenSpec.upto fnExactSpawnSpec)

/-- 'laws.FnExactDespawn', WHERE WHAT IT READS IS OF BULK AT MOST 1048576: true; the input reads as it did. -/
def fnExactDespawnUptoRow : OpenClaim := { program := "ytngbggihpebimaa", sum := "edc72e5cbb2223c670292b44708bea3b1a1330bfa5e0a30f0cc0818733715497", func := "loop.example/g00064/laws.FnExactDespawn", spec := "fnExactDespawn", unfollowed := true, recurses := true, apart := false, narrowed := true }
def FnExactDespawnUptoSaid : Prop := fnExactDespawnUptoRow.holds Try.pinned (OpenSpec.upto fnExactDespawnSpec)

/-- 'laws.FnExactDropPart', WHERE WHAT IT READS IS OF BULK AT MOST 1048576: true; the input reads as it did. -/
def fnExactDropPartUptoRow : OpenClaim := { program := "ytngbggihpebimaa", sum := "edc72e5cbb2223c670292b44708bea3b1a1330bfa5e0a30f0cc0818733715497", func := "loop.example/g00064/laws.FnExactDropPart", spec := "fnExactDropPart", inPlace := ["internal/bytealg.abigen_runtime_cmpstring"], unfollowed := true, recurses := true, apart := false, narrowed := true }
def FnExactDropPartUptoSaid : Prop := fnExactDropPartUptoRow.holds Try.pinned (OpenSpec.upto fnExactDropPartSpec)

/-- 'laws.FnExactSetPart', WHERE WHAT IT READS IS OF BULK AT MOST 1048576: true; the input reads as it did. -/
def fnExactSetPartUptoRow : OpenClaim := { program := "ytngbggihpebimaa", sum := "edc72e5cbb2223c670292b44708bea3b1a1330bfa5e0a30f0cc0818733715497", func := "loop.example/g00064/laws.FnExactSetPart", spec := "fnExactSetPart", inPlace := ["internal/bytealg.abigen_runtime_cmpstring", "slices.overlaps[loop.example/g00064/impl.Part]"], unfollowed := true, recurses := true, apart := false, narrowed := true }
def FnExactSetPartUptoSaid : Prop := fnExactSetPartUptoRow.holds Try.pinned (OpenSpec.upto fnExactSetPartSpec)

end Rows
end Go.Proofs.Ytngbggihpebimaa
