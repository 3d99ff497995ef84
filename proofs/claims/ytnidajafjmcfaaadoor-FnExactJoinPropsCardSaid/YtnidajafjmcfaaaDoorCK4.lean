/- What every row of this seat leans on. -/
import Derived.Test.YtnidajafjmcfaaaDoorCK2
import Derived.Test.YtnidajafjmcfaaaDoorRows
import Derived.Test.YtnidajafjmcfaaaDoorProg
import Derived.Room.Entries
import Derived.Test.YtnidajafjmcfaaaDoorCK3
import Derived.WalkKit
import Derived.Shelf.Strings.Split
import Derived.Shelf.Strings.Search3
import Derived.Shelf.Strings.Count
import Derived.Shelf.Sort.Plain
import Derived.Shelf.Slices.CompactS
import Derived.Shelf.Slices.In.SortNone
import Derived.Laws.StructEq
section
set_option linter.unusedSimpArgs false
set_option linter.unusedVariables false
set_option maxRecDepth 100000
namespace Go.Proofs.YtnidajafjmcfaaaDoor
open Go.ChangeShapes Go.WideShapes Go.RowKit Go.Av
/-! What every row of this seat leans on. -/
theorem Tryd.own : ownKnob Tryd.prog.godebug = none := by kernel_rfl
theorem Tryd.laidOut : laidOutB Tryd.prog = true := by kernel_rfl
end Go.Proofs.YtnidajafjmcfaaaDoor
end
section
/-! What the types of this translation are. -/
namespace Go.Av
open Go.Proofs
namespace Ty
theorem ldA3 : ldA Tryd.prog 3 = false := by kernel_rfl
theorem ldS3 : ldS Tryd.prog 3 = true := by kernel_rfl
theorem nz3 : nzT Tryd.prog 3 = [none] := by kernel_rfl
theorem sz3 : szT Tryd.prog 3 = some 1 := by kernel_rfl
theorem szn3 : szN Tryd.prog 3 = 1 := by kernel_rfl
theorem int3 : intKd Tryd.prog 3 = some .i64 := by kernel_rfl
theorem ldA4 : ldA Tryd.prog 4 = false := by kernel_rfl
theorem ldS4 : ldS Tryd.prog 4 = true := by kernel_rfl
theorem nz4 : nzT Tryd.prog 4 = [none] := by kernel_rfl
theorem sz4 : szT Tryd.prog 4 = some 1 := by kernel_rfl
theorem szn4 : szN Tryd.prog 4 = 1 := by kernel_rfl
theorem bl4 : isBl Tryd.prog 4 = true := by kernel_rfl
theorem int5 : intKd Tryd.prog 5 = some .u8 := by kernel_rfl
theorem ldA9 : ldA Tryd.prog 9 = false := by kernel_rfl
theorem ldS9 : ldS Tryd.prog 9 = true := by kernel_rfl
theorem nz9 : nzT Tryd.prog 9 = [none] := by kernel_rfl
theorem sz9 : szT Tryd.prog 9 = some 1 := by kernel_rfl
theorem szn9 : szN Tryd.prog 9 = 1 := by kernel_rfl
theorem str9 : isStr Tryd.prog 9 = true := by kernel_rfl
theorem sl24 : slT Tryd.prog 24 = some 2 := by kernel_rfl
theorem slz24 : slSz Tryd.prog 24 = 2 := by kernel_rfl
theorem zok24 : zOk Tryd.prog 24 = true := by kernel_rfl
theorem by24 : byN Tryd.prog 24 = 32 := by kernel_rfl
theorem zs24 : zsN Tryd.prog 24 = [.string ⟨#[]⟩, .string ⟨#[]⟩] := by kernel_rfl
theorem ldA24 : ldA Tryd.prog 24 = false := by kernel_rfl
theorem ldS24 : ldS Tryd.prog 24 = true := by kernel_rfl
theorem nz24 : nzT Tryd.prog 24 = [some 2] := by kernel_rfl
theorem nze24 : nzE Tryd.prog 24 = [none, none] := by kernel_rfl
theorem sz24 : szT Tryd.prog 24 = some 1 := by kernel_rfl
theorem szn24 : szN Tryd.prog 24 = 1 := by kernel_rfl
theorem sl27 : slT Tryd.prog 27 = some 3 := by kernel_rfl
theorem slz27 : slSz Tryd.prog 27 = 3 := by kernel_rfl
theorem zok27 : zOk Tryd.prog 27 = true := by kernel_rfl
theorem by27 : byN Tryd.prog 27 = 56 := by kernel_rfl
theorem zs27 : zsN Tryd.prog 27 = [.string ⟨#[]⟩, .string ⟨#[]⟩, .slice none 0 0] := by kernel_rfl
theorem nze27 : nzE Tryd.prog 27 = [none, none, some 2] := by kernel_rfl
theorem sl34 : slT Tryd.prog 34 = some 2 := by kernel_rfl
theorem slz34 : slSz Tryd.prog 34 = 2 := by kernel_rfl
theorem sl39 : slT Tryd.prog 39 = some 1 := by kernel_rfl
theorem slz39 : slSz Tryd.prog 39 = 1 := by kernel_rfl
theorem zok39 : zOk Tryd.prog 39 = true := by kernel_rfl
theorem by39 : byN Tryd.prog 39 = 16 := by kernel_rfl
theorem zs39 : zsN Tryd.prog 39 = [.string ⟨#[]⟩] := by kernel_rfl
theorem ldA39 : ldA Tryd.prog 39 = false := by kernel_rfl
theorem ldS39 : ldS Tryd.prog 39 = true := by kernel_rfl
theorem nz39 : nzT Tryd.prog 39 = [some 1] := by kernel_rfl
theorem nze39 : nzE Tryd.prog 39 = [none] := by kernel_rfl
theorem sz39 : szT Tryd.prog 39 = some 1 := by kernel_rfl
theorem szn39 : szN Tryd.prog 39 = 1 := by kernel_rfl
theorem ag41 : agT Tryd.prog 41 = some true := by kernel_rfl
theorem ldA41 : ldA Tryd.prog 41 = true := by kernel_rfl
theorem nz41 : nzT Tryd.prog 41 = [some 2, some 1] := by kernel_rfl
theorem sz41 : szT Tryd.prog 41 = some 2 := by kernel_rfl
theorem szn41 : szN Tryd.prog 41 = 2 := by kernel_rfl
theorem zv41 : zvT Tryd.prog 41 = some [.slice none 0 0, .slice none 0 0] := by kernel_rfl
theorem bd41 : bdOk Tryd.prog 41 = true := by kernel_rfl
theorem fo41_0 : fdO Tryd.prog 41 0 = 0 := by kernel_rfl
theorem fn41_0 : fdN Tryd.prog 41 0 = 1 := by kernel_rfl
theorem fk41_0 : fdOk Tryd.prog 41 0 = true := by kernel_rfl
theorem fs41_0 : fdS Tryd.prog 41 0 = true := by kernel_rfl
theorem fo41_1 : fdO Tryd.prog 41 1 = 1 := by kernel_rfl
theorem fn41_1 : fdN Tryd.prog 41 1 = 1 := by kernel_rfl
theorem fk41_1 : fdOk Tryd.prog 41 1 = true := by kernel_rfl
theorem fs41_1 : fdS Tryd.prog 41 1 = true := by kernel_rfl
theorem ldA54 : ldA Tryd.prog 54 = true := by kernel_rfl
theorem nz54 : nzT Tryd.prog 54 = [none, none, some 2] := by kernel_rfl
theorem sz54 : szT Tryd.prog 54 = some 3 := by kernel_rfl
theorem szn54 : szN Tryd.prog 54 = 3 := by kernel_rfl
theorem zv54 : zvT Tryd.prog 54 = some [.string ⟨#[]⟩, .string ⟨#[]⟩, .slice none 0 0] := by kernel_rfl
theorem fo54_0 : fdO Tryd.prog 54 0 = 0 := by kernel_rfl
theorem fn54_0 : fdN Tryd.prog 54 0 = 1 := by kernel_rfl
theorem fk54_0 : fdOk Tryd.prog 54 0 = true := by kernel_rfl
theorem fs54_0 : fdS Tryd.prog 54 0 = true := by kernel_rfl
theorem fo54_1 : fdO Tryd.prog 54 1 = 1 := by kernel_rfl
theorem fn54_1 : fdN Tryd.prog 54 1 = 1 := by kernel_rfl
theorem fk54_1 : fdOk Tryd.prog 54 1 = true := by kernel_rfl
theorem fs54_1 : fdS Tryd.prog 54 1 = true := by kernel_rfl
theorem fo54_2 : fdO Tryd.prog 54 2 = 2 := by kernel_rfl
theorem fn54_2 : fdN Tryd.prog 54 2 = 1 := by kernel_rfl
theorem fk54_2 : fdOk Tryd.prog 54 2 = true := by kernel_rfl
theorem fs54_2 : fdS Tryd.prog 54 2 = true := by kernel_rfl
theorem ag59 : agT Tryd.prog 59 = some true := by kernel_rfl
theorem ldA59 : ldA Tryd.prog 59 = true := by kernel_rfl
theorem nz59 : nzT Tryd.prog 59 = [none, none] := by kernel_rfl
theorem sz59 : szT Tryd.prog 59 = some 2 := by kernel_rfl
theorem szn59 : szN Tryd.prog 59 = 2 := by kernel_rfl
theorem zv59 : zvT Tryd.prog 59 = some [.string ⟨#[]⟩, .string ⟨#[]⟩] := by kernel_rfl
theorem bd59 : bdOk Tryd.prog 59 = true := by kernel_rfl
theorem pl59_0 : plT Tryd.prog 59 0 = some (0, 1) := by kernel_rfl
theorem pl59_1 : plT Tryd.prog 59 1 = some (1, 1) := by kernel_rfl
theorem fo59_0 : fdO Tryd.prog 59 0 = 0 := by kernel_rfl
theorem fn59_0 : fdN Tryd.prog 59 0 = 1 := by kernel_rfl
theorem fk59_0 : fdOk Tryd.prog 59 0 = true := by kernel_rfl
theorem fs59_0 : fdS Tryd.prog 59 0 = true := by kernel_rfl
theorem fo59_1 : fdO Tryd.prog 59 1 = 1 := by kernel_rfl
theorem fn59_1 : fdN Tryd.prog 59 1 = 1 := by kernel_rfl
theorem fk59_1 : fdOk Tryd.prog 59 1 = true := by kernel_rfl
theorem fs59_1 : fdS Tryd.prog 59 1 = true := by kernel_rfl
theorem ldA63 : ldA Tryd.prog 63 = true := by kernel_rfl
theorem nz63 : nzT Tryd.prog 63 = [none, none] := by kernel_rfl
theorem sz63 : szT Tryd.prog 63 = some 2 := by kernel_rfl
theorem szn63 : szN Tryd.prog 63 = 2 := by kernel_rfl
theorem fo63_0 : fdO Tryd.prog 63 0 = 0 := by kernel_rfl
theorem fn63_0 : fdN Tryd.prog 63 0 = 1 := by kernel_rfl
theorem fk63_0 : fdOk Tryd.prog 63 0 = true := by kernel_rfl
theorem fs63_0 : fdS Tryd.prog 63 0 = true := by kernel_rfl
theorem fo63_1 : fdO Tryd.prog 63 1 = 1 := by kernel_rfl
theorem fn63_1 : fdN Tryd.prog 63 1 = 1 := by kernel_rfl
theorem fk63_1 : fdOk Tryd.prog 63 1 = true := by kernel_rfl
theorem fs63_1 : fdS Tryd.prog 63 1 = true := by kernel_rfl
theorem sl68 : slT Tryd.prog 68 = some 1 := by kernel_rfl
theorem slz68 : slSz Tryd.prog 68 = 1 := by kernel_rfl
theorem zok68 : zOk Tryd.prog 68 = true := by kernel_rfl
theorem by68 : byN Tryd.prog 68 = 24 := by kernel_rfl
theorem zs68 : zsN Tryd.prog 68 = [.slice none 0 0] := by kernel_rfl
theorem nze68 : nzE Tryd.prog 68 = [some 2] := by kernel_rfl
theorem ag74 : agT Tryd.prog 74 = some true := by kernel_rfl
theorem ldA74 : ldA Tryd.prog 74 = true := by kernel_rfl
theorem nz74 : nzT Tryd.prog 74 = [none, none] := by kernel_rfl
theorem sz74 : szT Tryd.prog 74 = some 2 := by kernel_rfl
theorem szn74 : szN Tryd.prog 74 = 2 := by kernel_rfl
theorem zv74 : zvT Tryd.prog 74 = some [.string ⟨#[]⟩, .bool false] := by kernel_rfl
theorem bd74 : bdOk Tryd.prog 74 = true := by kernel_rfl
theorem pl74_0 : plT Tryd.prog 74 0 = some (0, 1) := by kernel_rfl
theorem pl74_1 : plT Tryd.prog 74 1 = some (1, 1) := by kernel_rfl
theorem fo74_0 : fdO Tryd.prog 74 0 = 0 := by kernel_rfl
theorem fn74_0 : fdN Tryd.prog 74 0 = 1 := by kernel_rfl
theorem fk74_0 : fdOk Tryd.prog 74 0 = true := by kernel_rfl
theorem fs74_0 : fdS Tryd.prog 74 0 = true := by kernel_rfl
theorem fo74_1 : fdO Tryd.prog 74 1 = 1 := by kernel_rfl
theorem fn74_1 : fdN Tryd.prog 74 1 = 1 := by kernel_rfl
theorem fk74_1 : fdOk Tryd.prog 74 1 = true := by kernel_rfl
theorem fs74_1 : fdS Tryd.prog 74 1 = true := by kernel_rfl
theorem sl78 : slT Tryd.prog 78 = some 1 := by kernel_rfl
theorem slz78 : slSz Tryd.prog 78 = 1 := by kernel_rfl
theorem zok78 : zOk Tryd.prog 78 = true := by kernel_rfl
theorem by78 : byN Tryd.prog 78 = 8 := by kernel_rfl
theorem zs78 : zsN Tryd.prog 78 = [.int .i64 0] := by kernel_rfl
theorem nze78 : nzE Tryd.prog 78 = [none] := by kernel_rfl
theorem sl84 : slT Tryd.prog 84 = some 1 := by kernel_rfl
theorem slz84 : slSz Tryd.prog 84 = 1 := by kernel_rfl
theorem zok84 : zOk Tryd.prog 84 = true := by kernel_rfl
theorem by84 : byN Tryd.prog 84 = 1 := by kernel_rfl
theorem zs84 : zsN Tryd.prog 84 = [.int .u8 0] := by kernel_rfl
theorem nze84 : nzE Tryd.prog 84 = [none] := by kernel_rfl
theorem u884 : u8sl Tryd.prog 84 = true := by kernel_rfl
theorem int90 : intKd Tryd.prog 90 = some .u64 := by kernel_rfl
end Ty
end Go.Av
end
section
set_option linter.unusedSimpArgs false
set_option linter.unusedVariables false
set_option maxRecDepth 100000
namespace Go.Av
open Go.Proofs Go.RowKit
theorem run_append_nilZ {P : Program} (w : World) (t tn ty e : TypeId) (i : TypeInfo) (z : Value) (ht : P.underlying t = some (.slice e)) (htn : P.underlying tn = some (.int .i64)) (hi : P.info? e = some i) (hz : i.zero = some z)
    (n : Nat) (hn0 : 0 < n) (hs0 : 0 < i.size) (h63 : (n : Int) ≤ 9223372036854775807) (h48i : n * i.bytes ≤ 281474976710656) (hfit : Builtin.nextslicecap n 0 * i.bytes ≤ 281474976710656) :
    (Builtin.append_ #[t, tn] ty #[.slice none 0 0, .int .i64 n]).run P w =
      .ok (.slice (some ⟨w.heap.size, 0, none⟩) n (grownCap w n 0 e))
        (w.drew.alloc (.cells (Builtin.zeroCells z.cells n ++ Builtin.zeroCells z.cells (grownCap w n 0 e - n)) e)) := by
  have h63' : ¬ (9223372036854775807 < (n : Int)) := by omega
  have h48' : ¬ (281474976710656 < Builtin.nextslicecap n 0 * i.bytes) := by omega
  have hw : IntKind.i64.wrap (n : Int) = n := by rw [IntKind.wrap_i64]; omega
  have h48j : ¬ (281474976710656 < (n : Int) * (i.bytes : Int)) := by
    rw [← Int.natCast_mul]
    omega
  have hneg : ¬ ((n : Int) < 0) := by omega
  have hns : ¬ (n * i.size = 0) := Nat.mul_ne_zero (by omega) (by omega)
  have hn1 : ¬ (n = 0) := by omega
  simp [Builtin.append_, run_underlying ht, run_underlying htn, sizeOf, typeInfo, zeroValue, hi, hz, asInt, asIntOf, hw, hneg, hns, hn1, h63', h48', h48j, Question.forced, newRow, grownCap, Builtin.firstCells]
theorem info59 : (Tryd.prog.info? 59).map (fun i => (i.zero, i.size, i.bytes)) = some (some (.agg #[.string ByteArray.empty, .string ByteArray.empty]), 2, 32) := by kernel_rfl
theorem grow_nil (n : Nat) (hn : n < 4294967296) (w : World) : Calls Tryd.prog 61 #[.slice none 0 0, .int .i64 n] w fun e w' => (e = .returned (.slice none 0 0) ∧ w' = w) ∨ ∃ cap C, e = .returned (.slice (some ⟨w.heap.size, 0, none⟩) 0 cap) ∧ C.size = cap * 2 ∧ cap ≤ 9223372036854775807 ∧ w' = w.drew.alloc (.cells C 59) := by
  obtain ⟨i, hi, hz0, hz1, hz2⟩ := info_parts info59
  by_cases h0 : n = 0
  · subst h0
    go_enter Tryd.func61, Tryd.ntmps61
    go_wp2
    go_ret
    exact .inl ⟨rfl, rfl⟩
  · have hA := run_append_nilZ (P := Tryd.prog) w 24 3 24 59 i _ Tryd.underlying24 Tryd.underlying3 hi hz0 n (by omega) (by omega) (by omega) (by rw [hz2]; omega) (by have := Go.Room.nextslicecap_le' (need := n) (old := 0) (by omega); rw [hz2]; omega)
    go_enter Tryd.func61, Tryd.ntmps61
    go_wp2
    all_goals (have hb : Tryd.t59.bytes = 32 := by kernel_rfl)
    all_goals (try (exfalso; simp only [hb] at *; have hq := Go.Room.nextslicecap_le' (need := n) (old := 0) (by omega); omega))
    clear hA
    go_ret
    have g1 := grownCap_ge w n 0 59
    have g2 := grownCap_le_maxLen w n 0 59 (by simp only [maxLen]; omega)
    refine .inr ⟨_, rfl, _, ?_, g2, rfl⟩
    unfold grownCap at *
    simp only [Builtin.zeroCells, Array.size_append, Array.size_map, Array.size_range, List.size_toArray, List.length_cons, List.length_nil]
    omega
/-- slices.Grow of nil: an empty row of one's own. -/
def growL {α : Type} (l : List α) (n : Int) : Option (List α) := if l = [] ∧ 0 ≤ n ∧ n < 4294967296 then some [] else none
open Classical in
theorem growProp_does (l : List GProp) (n : Int) (x : List GProp) (h : growL l n = some x) : Does Tryd.prog 61 [.lit (.slice none 0 0), I n] (.row true 2 x.length (esProp x)) := by
  unfold growL at h
  split at h
  case isFalse => cases h
  rename_i hc
  cases h
  obtain ⟨k, rfl⟩ : ∃ k : Nat, n = (k : Int) := ⟨n.toNat, by omega⟩
  intro w G vs hG hlen hrd
  match vs, hlen with
  | [v0, v1], _ =>
    have h0 : v0 = .slice none 0 0 := by cases hrd 0 _ _ rfl rfl; rfl
    have h1 : v1 = .int .i64 k := by cases hrd 1 _ _ rfl rfl; rfl
    subst h0; subst h1
    refine (grow_nil k (by omega) w).mono fun e w' he => ?_
    rcases he with ⟨rfl, rfl⟩ | ⟨cap, C, rfl, hC, hm, rfl⟩
    · exact ⟨.nilrow 2, rfl, rfl, Ext.refl _ _, by simp [HT.blocks], by simp [HT.blocks], G, fun _ h => h, fun _ h => .inl h, by simp [HT.blocks], .nilrow 2⟩
    · have hb := alloc_new w.drew (.cells C 59)
      refine ⟨.row w.heap.size 2 0 cap [], rfl, rfl, ?_, by simp [HT.blocks, HT.blockss], ?_, G, fun _ h => h, fun _ h => .inl h, ?_, ?_⟩
      · have ha := alloc_ext w.drew (.cells C 59); exact ⟨ha.os, ha.tape, ha.output, ha.size, ha.block⟩
      · intro x hx
        simp only [HT.blocks, HT.blockss, List.mem_singleton] at hx
        subst hx
        exact ⟨Nat.le_refl _, by simp⟩
      · intro x hx
        simp only [HT.blocks, HT.blockss, List.mem_singleton] at hx
        subst hx
        exact fun hg => absurd (hG _ hg) (by omega)
      · exact .row _ 2 _ _ _ C 59 hb (by simp) (Nat.zero_le _) (by omega) (by decide) (by omega) (fun i T hi => by simp at hi) (fun i T hi => by simp at hi)
end Go.Av
end
section
/- Contracts of Go's library, proved once in the kit, at this program: the table of numbers and one theorem. -/
namespace Go.Proofs
open Go.Shelf
def Tryd.laysSplit_ren : Go.Shelf.Ren := ⟨fun | 146 => 73 | 221 => 92 | 268 => 102 | 138 => 103 | 143 => 104 | 195 => 108 | 197 => 109 | 218 => 110 | 219 => 111 | 260 => 112 | 217 => 113 | 225 => 114 | 224 => 115 | 267 => 116 | 266 => 117 | 314 => 118 | n => n, fun | 9 => 9 | 31 => 39 | 3 => 3 | 4 => 4 | 0 => 0 | 105 => 128 | 21 => 21 | 5 => 5 | 46 => 90 | 119 => 132 | 139 => 135 | 138 => 134 | 146 => 136 | 51 => 110 | n => n, fun | 1 => 0 | 3 => 1 | 4 => 2 | n => n⟩
theorem Tryd.laysSplit : Go.Proofs.Lays.n146 Tryd.prog Tryd.laysSplit_ren := {
  mixed := by kernel_rfl
  f138 := Tryd.func103.trans (congrArg some (by kernel_rfl))
  f143 := Tryd.func104.trans (congrArg some (by kernel_rfl))
  f146 := Tryd.func73.trans (congrArg some (by kernel_rfl))
  f195 := Tryd.func108.trans (congrArg some (by kernel_rfl))
  f197 := Tryd.func109.trans (congrArg some (by kernel_rfl))
  f217 := Tryd.func113.trans (congrArg some (by kernel_rfl))
  f218 := Tryd.func110.trans (congrArg some (by kernel_rfl))
  f219 := Tryd.func111.trans (congrArg some (by kernel_rfl))
  f221 := Tryd.func92.trans (congrArg some (by kernel_rfl))
  f224 := Tryd.func115.trans (congrArg some (by kernel_rfl))
  f225 := Tryd.func114.trans (congrArg some (by kernel_rfl))
  f260 := Tryd.func112.trans (congrArg some (by kernel_rfl))
  f266 := Tryd.func117.trans (congrArg some (by kernel_rfl))
  f267 := Tryd.func116.trans (congrArg some (by kernel_rfl))
  f268 := Tryd.func102.trans (congrArg some (by kernel_rfl))
  f314 := Tryd.func118.trans (congrArg some (by kernel_rfl))
  t0 := Tryd.underlying0
  a0 := Tryd.isAgg0
  z0 := Tryd.sizeOf0
  v0 := Tryd.zeroValue0
  t3 := Tryd.underlying3
  a3 := Tryd.isAgg3
  z3 := Tryd.sizeOf3
  v3 := Tryd.zeroValue3
  t4 := Tryd.underlying4
  a4 := Tryd.isAgg4
  z4 := Tryd.sizeOf4
  v4 := Tryd.zeroValue4
  t5 := Tryd.underlying5
  a5 := Tryd.isAgg5
  z5 := Tryd.sizeOf5
  v5 := Tryd.zeroValue5
  t9 := Tryd.underlying9
  a9 := Tryd.isAgg9
  z9 := Tryd.sizeOf9
  v9 := Tryd.zeroValue9
  t21 := Tryd.underlying21
  a21 := Tryd.isAgg21
  z21 := Tryd.sizeOf21
  v21 := Tryd.zeroValue21
  t31 := Tryd.underlying39
  a31 := Tryd.isAgg39
  z31 := Tryd.sizeOf39
  v31 := Tryd.zeroValue39
  t46 := Tryd.underlying90
  a46 := Tryd.isAgg90
  z46 := Tryd.sizeOf90
  v46 := Tryd.zeroValue90
  t51 := Tryd.underlying110
  a51 := Tryd.isAgg110
  z51 := Tryd.sizeOf110
  v51 := Tryd.zeroValue110
  t105 := Tryd.underlying128
  a105 := Tryd.isAgg128
  z105 := Tryd.sizeOf128
  v105 := Tryd.zeroValue128
  t119 := Tryd.underlying132
  a119 := Tryd.isAgg132
  z119 := Tryd.sizeOf132
  t138 := Tryd.underlying134
  a138 := Tryd.isAgg134
  z138 := Tryd.sizeOf134
  v138 := Tryd.zeroValue134
  t139 := Tryd.underlying135
  a139 := Tryd.isAgg135
  z139 := Tryd.sizeOf135
  v139 := Tryd.zeroValue135
  t146 := Tryd.underlying136
  a146 := Tryd.isAgg136
  z146 := Tryd.sizeOf136
  v146 := Tryd.zeroValue136
  g1 := by kernel_rfl
  g3 := by kernel_rfl
  g4 := by kernel_rfl }
end Go.Proofs
end
section
set_option linter.unusedSimpArgs false
set_option linter.unusedVariables false
/-! strings.Split at a separator of one byte, over any program that lays it: no variable of a package is read. -/
namespace Go.Proofs
open Go.Shelf Go.RowKit Go.Lib
variable {P : Program} {ρ : Ren}
set_option maxHeartbeats 1000000 in
theorem split1_calls (L : Lays.n146 P ρ) (hi9 : (P.info? (ρ.t 9)).map (fun i => (i.zero, i.size, i.bytes)) = some (some (.string ByteArray.empty), 1, 16)) (s : ByteArray) (b : UInt8) (w : World) (hs : s.size < 4294967281) :
    Calls P (ρ.f 146) #[.string s, .string ⟨#[b]⟩] w fun e w' =>
      e = .returned (.slice (some ⟨w.heap.size, 0, none⟩) (Lib.countB s ⟨#[b]⟩ + 1) (Lib.countB s ⟨#[b]⟩ + 1)) ∧ w' = w.alloc (.cells ((Lib.splitB ⟨#[b]⟩ 0 (Lib.countB s ⟨#[b]⟩) s).map Value.string).toArray (ρ.t 9)) := by
  have h1 : 1 ≤ (⟨#[b]⟩ : ByteArray).size := Nat.le_refl _
  have hle := Lib.countB_le ⟨#[b]⟩ h1 s.size s (Nat.le_refl _)
  have hlen := Lib.splitB_all ⟨#[b]⟩ h1 0 _ s rfl
  have hI : ∀ (x : ByteArray) (c : Array Value), x.size ≤ s.size → Calls P (ρ.f 143) #[.string x, .string ⟨#[b]⟩] (w.alloc (.cells c (ρ.t 9))) fun e w' => e = .returned (.int .i64 (Lib.indexB x ⟨#[b]⟩)) ∧ w' = w.alloc (.cells c (ρ.t 9)) := fun x c _ => by
    refine (Any.strings_Index_one { L with } x b _).mono fun e w' ⟨he, hw⟩ => ⟨?_, hw⟩
    rw [he]
    show _ = Ending.returned (Value.int .i64 (Lib.index x.data.toList [b]))
    rw [Lib.index_one]
  have hC : Calls P (ρ.f 138) #[.string s, .string ⟨#[b]⟩] w fun e w' => e = .returned (.int .i64 (Lib.countB s ⟨#[b]⟩)) ∧ w' = w := by
    refine (Any.strings_Count_one { L with } s b w).mono fun e w' ⟨he, hw⟩ => ⟨?_, hw⟩
    rw [he]
    show _ = Ending.returned (Value.int .i64 ((Lib.count s.data.toList [b] : Nat) : Int))
    rw [Lib.count_one]
    rfl
  have c := Any.strings_genSplit_core { L with } hi9 s ⟨#[b]⟩ 0 (-1) (Lib.countB s ⟨#[b]⟩ + 1) w hs h1 (Nat.zero_le _) hI hC (by decide) (by decide) (by rw [if_pos (by decide)]; omega)
  rw [Nat.add_sub_cancel, hlen] at c
  have e2 : Lib.cellsOf (Lib.splitB ⟨#[b]⟩ 0 (Lib.countB s ⟨#[b]⟩) s) (Lib.countB s ⟨#[b]⟩ + 1) = ((Lib.splitB ⟨#[b]⟩ 0 (Lib.countB s ⟨#[b]⟩) s).map Value.string).toArray := by rw [← hlen]; exact Lib.cellsOf_full _
  rw [e2] at c
  have t3 := L.t3; have t9 := L.t9; have t31 := L.t31
  have a3 := L.a3; have a9 := L.a9; have a31 := L.a31
  have z3 := L.z3; have v3 := L.v3; have z9 := L.z9; have v9 := L.v9; have z31 := L.z31; have v31 := L.v31
  have e221 : ∀ args w, (callFunc (ρ.f 221) args).run P w = .ok (.enter (ρ.f 221) args) w := enters_of L.f221 (by kernel_rfl) rfl
  go_enter L.f146, Body.n146_ntmps ρ
  go_wp2_with (go_at_fn (ρ.f 221); refine c.mono ?_; rintro e w' ⟨rfl, hw⟩; rw [hw])
  go_ret
  exact ⟨rfl, rfl⟩
end Go.Proofs
namespace Go.Av
open Go.Proofs Go.Shelf
/-- What strings.Split gives at a separator of one byte. -/
def piecesB (b : UInt8) (s : ByteArray) : List ByteArray := Lib.splitB ⟨#[b]⟩ 0 (Lib.countB s ⟨#[b]⟩) s
theorem piecesB_len (b : UInt8) (s : ByteArray) : (piecesB b s).length = Lib.countB s ⟨#[b]⟩ + 1 := Lib.splitB_all ⟨#[b]⟩ (Nat.le_refl _) 0 _ s rfl
theorem piecesB_le (b : UInt8) (s : ByteArray) : (piecesB b s).length ≤ s.size + 1 := by
  rw [piecesB_len]; exact Nat.succ_le_succ (Lib.countB_le ⟨#[b]⟩ (Nat.le_refl _) s.size s (Nat.le_refl _))
theorem split1_does {P : Program} {ρ : Ren} {k : Nat} (L : Lays.n146 P ρ) (hi9 : (P.info? (ρ.t 9)).map (fun i => (i.zero, i.size, i.bytes)) = some (some (.string ByteArray.empty), 1, 16)) (hk : ρ.f 146 = k) (b : UInt8) (s : ByteArray) (hs : s.size < 4294967281) :
    Does P k [S s, S ⟨#[b]⟩] (.row true 1 (piecesB b s).length ((piecesB b s).flatMap fun x => [S x])) := by
  have hle := piecesB_le b s
  subst hk
  refine does_strs (ty := ρ.t 9) (by omega) fun w G vs hlen hrd => ?_
  match vs, hlen with
  | [v0, v1], _ =>
    have h0 : v0 = .string s := by cases hrd 0 _ _ rfl rfl; rfl
    have h1 : v1 = .string ⟨#[b]⟩ := by cases hrd 1 _ _ rfl rfl; rfl
    subst h0; subst h1
    have := split1_calls L hi9 s b w hs
    rw [piecesB_len]
    exact this
/-- strings.Split, where its separator is '/'. -/
def splitP (s sep : ByteArray) : Option (List ByteArray) := if sep = ⟨#[47]⟩ ∧ s.size < 4294967281 then some (piecesB 47 s) else none
end Go.Av
end
section
set_option linter.unusedSimpArgs false
set_option linter.unusedVariables false
/-! strings.Split at '/' in this program. -/
namespace Go.Av
open Go.Proofs
theorem split_does (s sep : ByteArray) (r : List ByteArray) (h : splitP s sep = some r) : Does Tryd.prog 73 [S s, S sep] (.row true 1 r.length (esStr r)) := by
  unfold splitP at h
  split at h
  · rename_i c
    obtain ⟨rfl, h1⟩ := c
    cases h
    exact split1_does Tryd.laysSplit (by kernel_rfl) rfl 47 s h1
  · cases h
end Go.Av
end
section
set_option linter.unusedSimpArgs false
set_option linter.unusedVariables false
set_option maxRecDepth 100000
namespace Go.Av
open Go.Proofs

def rng (n lo hi : Int) : Bool := decide (lo ≤ n ∧ n ≤ hi)

theorem l1In_does (n lo hi : Int) : Does Tryd.prog 72 [I n, I lo, I hi] (B (rng n lo hi)) := by
  refine Does.walk (nt := 15) Tryd.func72 rfl rfl (by simp) (by decide) rfl (fun G0 X w0 pv => ?_)
  have ff := trivial
  try refine st_by ff ?_
  repeat' (first
    | exact trivial
    | (refine And.intro ?_ ?_; · (try clear ff; first | omega))
    | (refine ret_q1 rfl ?_; (try refine sr_by ff ?_); all_goals (try clear ff); all_goals (try exact trivial); all_goals ((simp [rng]; omega)))
    | (with_reducible refine CBC_eq (fun hp hd => ?_) (fun hp hd => ?_) <;> refine st_by (And.intro hd ff) ?_)
    | (with_reducible refine CBC_ne (fun hp hd => ?_) (fun hp hd => ?_) <;> refine st_by (And.intro hd ff) ?_)
    | (with_reducible refine CBC_decT ?_ (fun hd => ?_); (· try clear ff; first | assumption | omega); refine st_by (And.intro hd ff) ?_)
    | (with_reducible refine CBC_decF ?_ (fun hd => ?_); (· try clear ff; first | assumption | omega); refine st_by (And.intro hd ff) ?_)
    | (with_reducible refine CBC_dec (fun hp hd => ?_) (fun hp hd => ?_) <;> refine st_by (And.intro hd ff) ?_)
    | (refine CBC_bool (fun hd => ?_) (fun hd => ?_) <;> refine st_by (And.intro hd ff) ?_)
    | (with_reducible refine GQ_eq (fun hp hd => ?_) (fun hp hd => ?_) <;> refine st_by (And.intro hd ff) ?_)
    | (with_reducible refine GQ_ne (fun hp hd => ?_) (fun hp hd => ?_) <;> refine st_by (And.intro hd ff) ?_)
    | (with_reducible refine GQ_decT ?_ (fun hd => ?_); (· try clear ff; first | assumption | omega); refine st_by (And.intro hd ff) ?_)
    | (with_reducible refine GQ_decF ?_ (fun hd => ?_); (· try clear ff; first | assumption | omega); refine st_by (And.intro hd ff) ?_)
    | (with_reducible refine GQ_dec (fun hp hd => ?_) (fun hp hd => ?_) <;> refine st_by (And.intro hd ff) ?_)
    | (with_reducible refine GQ_ndT ?_ (fun hd => ?_); (· try clear ff; first | assumption | omega); refine st_by (And.intro hd ff) ?_)
    | (with_reducible refine GQ_ndF ?_ (fun hd => ?_); (· try clear ff; first | assumption | omega); refine st_by (And.intro hd ff) ?_)
    | (with_reducible refine GQ_nd (fun hp hd => ?_) (fun hp hd => ?_) <;> refine st_by (And.intro hd ff) ?_)
    | (refine GQ_nb (fun hd => ?_) (fun hd => ?_) <;> refine st_by (And.intro hd ff) ?_)
    | (refine GQ_bool (fun hd => ?_) (fun hd => ?_) <;> refine st_by (And.intro hd ff) ?_))
  all_goals try clear ff
theorem inRange_does (n lo hi : Int) : Does Tryd.prog 68 [I n, I lo, I hi] (B (rng n lo hi)) := by
  refine Does.walk (nt := 15) Tryd.func68 rfl rfl (by simp) (by decide) rfl (fun G0 X w0 pv => ?_)
  have ff := trivial
  try refine st_by ff ?_
  repeat' (first
    | exact trivial
    | (refine And.intro ?_ ?_; · (try clear ff; first | omega))
    | (refine ret_q1 rfl ?_; (try refine sr_by ff ?_); all_goals (try clear ff); all_goals (try exact trivial); all_goals ((simp [rng]; omega)))
    | (with_reducible refine CBC_eq (fun hp hd => ?_) (fun hp hd => ?_) <;> refine st_by (And.intro hd ff) ?_)
    | (with_reducible refine CBC_ne (fun hp hd => ?_) (fun hp hd => ?_) <;> refine st_by (And.intro hd ff) ?_)
    | (with_reducible refine CBC_decT ?_ (fun hd => ?_); (· try clear ff; first | assumption | omega); refine st_by (And.intro hd ff) ?_)
    | (with_reducible refine CBC_decF ?_ (fun hd => ?_); (· try clear ff; first | assumption | omega); refine st_by (And.intro hd ff) ?_)
    | (with_reducible refine CBC_dec (fun hp hd => ?_) (fun hp hd => ?_) <;> refine st_by (And.intro hd ff) ?_)
    | (refine CBC_bool (fun hd => ?_) (fun hd => ?_) <;> refine st_by (And.intro hd ff) ?_)
    | (with_reducible refine GQ_eq (fun hp hd => ?_) (fun hp hd => ?_) <;> refine st_by (And.intro hd ff) ?_)
    | (with_reducible refine GQ_ne (fun hp hd => ?_) (fun hp hd => ?_) <;> refine st_by (And.intro hd ff) ?_)
    | (with_reducible refine GQ_decT ?_ (fun hd => ?_); (· try clear ff; first | assumption | omega); refine st_by (And.intro hd ff) ?_)
    | (with_reducible refine GQ_decF ?_ (fun hd => ?_); (· try clear ff; first | assumption | omega); refine st_by (And.intro hd ff) ?_)
    | (with_reducible refine GQ_dec (fun hp hd => ?_) (fun hp hd => ?_) <;> refine st_by (And.intro hd ff) ?_)
    | (with_reducible refine GQ_ndT ?_ (fun hd => ?_); (· try clear ff; first | assumption | omega); refine st_by (And.intro hd ff) ?_)
    | (with_reducible refine GQ_ndF ?_ (fun hd => ?_); (· try clear ff; first | assumption | omega); refine st_by (And.intro hd ff) ?_)
    | (with_reducible refine GQ_nd (fun hp hd => ?_) (fun hp hd => ?_) <;> refine st_by (And.intro hd ff) ?_)
    | (refine GQ_nb (fun hd => ?_) (fun hd => ?_) <;> refine st_by (And.intro hd ff) ?_)
    | (refine GQ_bool (fun hd => ?_) (fun hd => ?_) <;> refine st_by (And.intro hd ff) ?_))
  all_goals try clear ff
end Go.Av
end
section
set_option linter.unusedSimpArgs false
set_option linter.unusedVariables false
set_option maxRecDepth 100000
namespace Go.Av
open Go.Proofs

def lett (c : Int) : Bool := (decide (c ≥ 97) && decide (c ≤ 122)) || (decide (c ≥ 65) && decide (c ≤ 90))
def digt (c : Int) : Bool := decide (c ≥ 48) && decide (c ≤ 57)

theorem isDigit_does (c : Int) : Does Tryd.prog 67 [U8 c] (B (digt c)) := by
  refine Does.walk (nt := 9) Tryd.func67 rfl rfl (by simp) (by decide) rfl (fun G0 X w0 pv => ?_)
  have ff := trivial
  try refine st_by ff ?_
  repeat' (first
    | exact trivial
    | (refine And.intro ?_ ?_; · (try clear ff; first | omega))
    | (refine ret_q1 rfl ?_; (try refine sr_by ff ?_); all_goals (try clear ff); all_goals (try exact trivial); all_goals (simp [digt, *]))
    | (with_reducible refine CBC_eq (fun hp hd => ?_) (fun hp hd => ?_) <;> refine st_by (And.intro hd ff) ?_)
    | (with_reducible refine CBC_ne (fun hp hd => ?_) (fun hp hd => ?_) <;> refine st_by (And.intro hd ff) ?_)
    | (with_reducible refine CBC_decT ?_ (fun hd => ?_); (· try clear ff; first | assumption | omega); refine st_by (And.intro hd ff) ?_)
    | (with_reducible refine CBC_decF ?_ (fun hd => ?_); (· try clear ff; first | assumption | omega); refine st_by (And.intro hd ff) ?_)
    | (with_reducible refine CBC_dec (fun hp hd => ?_) (fun hp hd => ?_) <;> refine st_by (And.intro hd ff) ?_)
    | (refine CBC_bool (fun hd => ?_) (fun hd => ?_) <;> refine st_by (And.intro hd ff) ?_)
    | (with_reducible refine GQ_eq (fun hp hd => ?_) (fun hp hd => ?_) <;> refine st_by (And.intro hd ff) ?_)
    | (with_reducible refine GQ_ne (fun hp hd => ?_) (fun hp hd => ?_) <;> refine st_by (And.intro hd ff) ?_)
    | (with_reducible refine GQ_decT ?_ (fun hd => ?_); (· try clear ff; first | assumption | omega); refine st_by (And.intro hd ff) ?_)
    | (with_reducible refine GQ_decF ?_ (fun hd => ?_); (· try clear ff; first | assumption | omega); refine st_by (And.intro hd ff) ?_)
    | (with_reducible refine GQ_dec (fun hp hd => ?_) (fun hp hd => ?_) <;> refine st_by (And.intro hd ff) ?_)
    | (with_reducible refine GQ_ndT ?_ (fun hd => ?_); (· try clear ff; first | assumption | omega); refine st_by (And.intro hd ff) ?_)
    | (with_reducible refine GQ_ndF ?_ (fun hd => ?_); (· try clear ff; first | assumption | omega); refine st_by (And.intro hd ff) ?_)
    | (with_reducible refine GQ_nd (fun hp hd => ?_) (fun hp hd => ?_) <;> refine st_by (And.intro hd ff) ?_)
    | (refine GQ_nb (fun hd => ?_) (fun hd => ?_) <;> refine st_by (And.intro hd ff) ?_)
    | (refine GQ_bool (fun hd => ?_) (fun hd => ?_) <;> refine st_by (And.intro hd ff) ?_))
  all_goals try clear ff
theorem l1Digit_does (c : Int) : Does Tryd.prog 64 [U8 c] (B (digt c)) := by
  refine Does.walk (nt := 9) Tryd.func64 rfl rfl (by simp) (by decide) rfl (fun G0 X w0 pv => ?_)
  have ff := trivial
  try refine st_by ff ?_
  repeat' (first
    | exact trivial
    | (refine And.intro ?_ ?_; · (try clear ff; first | omega))
    | (refine ret_q1 rfl ?_; (try refine sr_by ff ?_); all_goals (try clear ff); all_goals (try exact trivial); all_goals (simp [digt, *]))
    | (with_reducible refine CBC_eq (fun hp hd => ?_) (fun hp hd => ?_) <;> refine st_by (And.intro hd ff) ?_)
    | (with_reducible refine CBC_ne (fun hp hd => ?_) (fun hp hd => ?_) <;> refine st_by (And.intro hd ff) ?_)
    | (with_reducible refine CBC_decT ?_ (fun hd => ?_); (· try clear ff; first | assumption | omega); refine st_by (And.intro hd ff) ?_)
    | (with_reducible refine CBC_decF ?_ (fun hd => ?_); (· try clear ff; first | assumption | omega); refine st_by (And.intro hd ff) ?_)
    | (with_reducible refine CBC_dec (fun hp hd => ?_) (fun hp hd => ?_) <;> refine st_by (And.intro hd ff) ?_)
    | (refine CBC_bool (fun hd => ?_) (fun hd => ?_) <;> refine st_by (And.intro hd ff) ?_)
    | (with_reducible refine GQ_eq (fun hp hd => ?_) (fun hp hd => ?_) <;> refine st_by (And.intro hd ff) ?_)
    | (with_reducible refine GQ_ne (fun hp hd => ?_) (fun hp hd => ?_) <;> refine st_by (And.intro hd ff) ?_)
    | (with_reducible refine GQ_decT ?_ (fun hd => ?_); (· try clear ff; first | assumption | omega); refine st_by (And.intro hd ff) ?_)
    | (with_reducible refine GQ_decF ?_ (fun hd => ?_); (· try clear ff; first | assumption | omega); refine st_by (And.intro hd ff) ?_)
    | (with_reducible refine GQ_dec (fun hp hd => ?_) (fun hp hd => ?_) <;> refine st_by (And.intro hd ff) ?_)
    | (with_reducible refine GQ_ndT ?_ (fun hd => ?_); (· try clear ff; first | assumption | omega); refine st_by (And.intro hd ff) ?_)
    | (with_reducible refine GQ_ndF ?_ (fun hd => ?_); (· try clear ff; first | assumption | omega); refine st_by (And.intro hd ff) ?_)
    | (with_reducible refine GQ_nd (fun hp hd => ?_) (fun hp hd => ?_) <;> refine st_by (And.intro hd ff) ?_)
    | (refine GQ_nb (fun hd => ?_) (fun hd => ?_) <;> refine st_by (And.intro hd ff) ?_)
    | (refine GQ_bool (fun hd => ?_) (fun hd => ?_) <;> refine st_by (And.intro hd ff) ?_))
  all_goals try clear ff
theorem isLetter_does (c : Int) : Does Tryd.prog 66 [U8 c] (B (lett c)) := by
  refine Does.walk (nt := 17) Tryd.func66 rfl rfl (by simp) (by decide) rfl (fun G0 X w0 pv => ?_)
  have ff := trivial
  try refine st_by ff ?_
  repeat' (first
    | exact trivial
    | (refine And.intro ?_ ?_; · (try clear ff; first | omega))
    | (refine ret_q1 rfl ?_; (try refine sr_by ff ?_); all_goals (try clear ff); all_goals (try exact trivial); all_goals (first | (simp [lett, *]; done) | (simp [lett, *]; omega)))
    | (with_reducible refine CBC_eq (fun hp hd => ?_) (fun hp hd => ?_) <;> refine st_by (And.intro hd ff) ?_)
    | (with_reducible refine CBC_ne (fun hp hd => ?_) (fun hp hd => ?_) <;> refine st_by (And.intro hd ff) ?_)
    | (with_reducible refine CBC_decT ?_ (fun hd => ?_); (· try clear ff; first | assumption | omega); refine st_by (And.intro hd ff) ?_)
    | (with_reducible refine CBC_decF ?_ (fun hd => ?_); (· try clear ff; first | assumption | omega); refine st_by (And.intro hd ff) ?_)
    | (with_reducible refine CBC_dec (fun hp hd => ?_) (fun hp hd => ?_) <;> refine st_by (And.intro hd ff) ?_)
    | (refine CBC_bool (fun hd => ?_) (fun hd => ?_) <;> refine st_by (And.intro hd ff) ?_)
    | (with_reducible refine GQ_eq (fun hp hd => ?_) (fun hp hd => ?_) <;> refine st_by (And.intro hd ff) ?_)
    | (with_reducible refine GQ_ne (fun hp hd => ?_) (fun hp hd => ?_) <;> refine st_by (And.intro hd ff) ?_)
    | (with_reducible refine GQ_decT ?_ (fun hd => ?_); (· try clear ff; first | assumption | omega); refine st_by (And.intro hd ff) ?_)
    | (with_reducible refine GQ_decF ?_ (fun hd => ?_); (· try clear ff; first | assumption | omega); refine st_by (And.intro hd ff) ?_)
    | (with_reducible refine GQ_dec (fun hp hd => ?_) (fun hp hd => ?_) <;> refine st_by (And.intro hd ff) ?_)
    | (with_reducible refine GQ_ndT ?_ (fun hd => ?_); (· try clear ff; first | assumption | omega); refine st_by (And.intro hd ff) ?_)
    | (with_reducible refine GQ_ndF ?_ (fun hd => ?_); (· try clear ff; first | assumption | omega); refine st_by (And.intro hd ff) ?_)
    | (with_reducible refine GQ_nd (fun hp hd => ?_) (fun hp hd => ?_) <;> refine st_by (And.intro hd ff) ?_)
    | (refine GQ_nb (fun hd => ?_) (fun hd => ?_) <;> refine st_by (And.intro hd ff) ?_)
    | (refine GQ_bool (fun hd => ?_) (fun hd => ?_) <;> refine st_by (And.intro hd ff) ?_))
  all_goals try clear ff
theorem l1Letter_does (c : Int) : Does Tryd.prog 65 [U8 c] (B (lett c || c == 95)) := by
  refine Does.walk (nt := 21) Tryd.func65 rfl rfl (by simp) (by decide) rfl (fun G0 X w0 pv => ?_)
  have ff := trivial
  try refine st_by ff ?_
  repeat' (first
    | exact trivial
    | (refine And.intro ?_ ?_; · (try clear ff; first | omega))
    | (refine ret_q1 rfl ?_; (try refine sr_by ff ?_); all_goals (try clear ff); all_goals (try exact trivial); all_goals ((simp [lett]; omega)))
    | (with_reducible refine CBC_eq (fun hp hd => ?_) (fun hp hd => ?_) <;> refine st_by (And.intro hd ff) ?_)
    | (with_reducible refine CBC_ne (fun hp hd => ?_) (fun hp hd => ?_) <;> refine st_by (And.intro hd ff) ?_)
    | (with_reducible refine CBC_decT ?_ (fun hd => ?_); (· try clear ff; first | assumption | omega); refine st_by (And.intro hd ff) ?_)
    | (with_reducible refine CBC_decF ?_ (fun hd => ?_); (· try clear ff; first | assumption | omega); refine st_by (And.intro hd ff) ?_)
    | (with_reducible refine CBC_dec (fun hp hd => ?_) (fun hp hd => ?_) <;> refine st_by (And.intro hd ff) ?_)
    | (refine CBC_bool (fun hd => ?_) (fun hd => ?_) <;> refine st_by (And.intro hd ff) ?_)
    | (with_reducible refine GQ_eq (fun hp hd => ?_) (fun hp hd => ?_) <;> refine st_by (And.intro hd ff) ?_)
    | (with_reducible refine GQ_ne (fun hp hd => ?_) (fun hp hd => ?_) <;> refine st_by (And.intro hd ff) ?_)
    | (with_reducible refine GQ_decT ?_ (fun hd => ?_); (· try clear ff; first | assumption | omega); refine st_by (And.intro hd ff) ?_)
    | (with_reducible refine GQ_decF ?_ (fun hd => ?_); (· try clear ff; first | assumption | omega); refine st_by (And.intro hd ff) ?_)
    | (with_reducible refine GQ_dec (fun hp hd => ?_) (fun hp hd => ?_) <;> refine st_by (And.intro hd ff) ?_)
    | (with_reducible refine GQ_ndT ?_ (fun hd => ?_); (· try clear ff; first | assumption | omega); refine st_by (And.intro hd ff) ?_)
    | (with_reducible refine GQ_ndF ?_ (fun hd => ?_); (· try clear ff; first | assumption | omega); refine st_by (And.intro hd ff) ?_)
    | (with_reducible refine GQ_nd (fun hp hd => ?_) (fun hp hd => ?_) <;> refine st_by (And.intro hd ff) ?_)
    | (refine GQ_nb (fun hd => ?_) (fun hd => ?_) <;> refine st_by (And.intro hd ff) ?_)
    | (refine GQ_bool (fun hd => ?_) (fun hd => ?_) <;> refine st_by (And.intro hd ff) ?_))
  all_goals try clear ff

/-- May the byte at 'i' stand in a name? -/
def gnB (s : ByteArray) (i : Nat) : Bool := lett (byteAt s i) || byteAt s i == 95 || (i != 0 && digt (byteAt s i))
def goodName (s : ByteArray) : Bool := rng s.size 1 20 && (List.range s.size).all (gnB s)

theorem implGoodName_does (s : ByteArray) (hs : s.size ≤ 9223372036854775807) : Does Tryd.prog 53 [S s] (B (goodName s)) := by
  have bad : ∀ k, k < s.size → gnB s k = false → goodName s = false := fun k hk h => by
    simp only [goodName, Bool.and_eq_false_iff]
    right
    rw [List.all_eq_false]
    exact ⟨k, List.mem_range.2 hk, by simp [h]⟩
  refine Does.walk (nt := 35) Tryd.func53 rfl rfl (by simp) (by decide) rfl (fun G0 X w0 pv => ?_)
  (first | exact cl_by @Ty.str9 | refine st_by @Ty.str9 ?_)
  refine aw_loop (ι := Nat) (fun k σ => k ≤ s.size ∧ (∀ i, i < k → gnB s i = true) ∧ σ.t 0 = S s ∧ σ.t 5 = I s.size ∧ σ.t 6 = I k) (fun k => s.size - k) 0 ?_ ?_
  · (first | exact cl_by trivial | refine st_by trivial ?_)
    simp
  · rintro k σ ⟨hk, hok, h0, h5, h6⟩
    have w1 : k < s.size → IntKind.i64.wrap ((k : Int) + 1) = ((k + 1 : Nat) : Int) := fun _ => wI _ (by omega) (by omega)
    have good : gnB s k = true → ∀ i, i < k + 1 → gnB s i = true := fun h i hi => by
        by_cases hik : i = k
        · rw [hik]; exact h
        · exact hok i (by omega)
    have all : k = s.size → (List.range s.size).all (gnB s) = true := fun e => List.all_eq_true.2 (fun i hi => hok i (by have := List.mem_range.1 hi; omega))
    clear hok
    have ff := And.intro @h0 (And.intro @h5 (And.intro @h6 @Ty.str9))
    try refine st_by ff ?_
    repeat' (first
      | exact trivial
      | (refine And.intro ?_ ?_; · (try clear ff; first | omega))
      | (refine ret_q1 rfl ?_; (try refine sr_by ff ?_); all_goals (try clear ff); all_goals (try exact trivial); all_goals (first | (rw [bad k]; (· omega); (· simp_all [gnB])) | (have := all (by omega); simp [goodName, this])))
      | (with_reducible refine cq_call (isLetter_does (byteAt s k)) ?_ ?_ ⟨?_, ?_⟩; (· first | rfl | exact cl_by ff); (· first | assumption | kernel_rfl); (· first | exact ca_by ff | (refine sa_by ff ?_; try clear ff; first | exact trivial | omega)); refine st_by ff ?_)
      | (with_reducible refine cq_call (isDigit_does (byteAt s k)) ?_ ?_ ⟨?_, ?_⟩; (· first | rfl | exact cl_by ff); (· first | assumption | kernel_rfl); (· first | exact ca_by ff | (refine sa_by ff ?_; try clear ff; first | exact trivial | omega)); refine st_by ff ?_)
      | (with_reducible refine cq_call (inRange_does s.size 1 20) ?_ ?_ ⟨?_, ?_⟩; (· first | rfl | exact cl_by ff); (· first | assumption | kernel_rfl); (· first | exact ca_by ff | (refine sa_by ff ?_; try clear ff; first | exact trivial | omega)); refine st_by ff ?_)
      | (with_reducible refine CBC_eq (fun hp hd => ?_) (fun hp hd => ?_) <;> refine st_by (And.intro hd ff) ?_)
      | (with_reducible refine CBC_ne (fun hp hd => ?_) (fun hp hd => ?_) <;> refine st_by (And.intro hd ff) ?_)
      | (with_reducible refine CBC_decT ?_ (fun hd => ?_); (· try clear ff; first | assumption | omega); refine st_by (And.intro hd ff) ?_)
      | (with_reducible refine CBC_decF ?_ (fun hd => ?_); (· try clear ff; first | assumption | omega); refine st_by (And.intro hd ff) ?_)
      | (with_reducible refine CBC_dec (fun hp hd => ?_) (fun hp hd => ?_) <;> refine st_by (And.intro hd ff) ?_)
      | (refine CBC_bool (fun hd => ?_) (fun hd => ?_) <;> refine st_by (And.intro hd ff) ?_)
      | (with_reducible refine GQ_eq (fun hp hd => ?_) (fun hp hd => ?_) <;> refine st_by (And.intro hd ff) ?_)
      | (with_reducible refine GQ_ne (fun hp hd => ?_) (fun hp hd => ?_) <;> refine st_by (And.intro hd ff) ?_)
      | (with_reducible refine GQ_decT ?_ (fun hd => ?_); (· try clear ff; first | assumption | omega); refine st_by (And.intro hd ff) ?_)
      | (with_reducible refine GQ_decF ?_ (fun hd => ?_); (· try clear ff; first | assumption | omega); refine st_by (And.intro hd ff) ?_)
      | (with_reducible refine GQ_dec (fun hp hd => ?_) (fun hp hd => ?_) <;> refine st_by (And.intro hd ff) ?_)
      | (with_reducible refine GQ_ndT ?_ (fun hd => ?_); (· try clear ff; first | assumption | omega); refine st_by (And.intro hd ff) ?_)
      | (with_reducible refine GQ_ndF ?_ (fun hd => ?_); (· try clear ff; first | assumption | omega); refine st_by (And.intro hd ff) ?_)
      | (with_reducible refine GQ_nd (fun hp hd => ?_) (fun hp hd => ?_) <;> refine st_by (And.intro hd ff) ?_)
      | (refine GQ_nb (fun hd => ?_) (fun hd => ?_) <;> refine st_by (And.intro hd ff) ?_)
      | (refine GQ_bool (fun hd => ?_) (fun hd => ?_) <;> refine st_by (And.intro hd ff) ?_)
      | ((try clear ff); refine ⟨k + 1, ⟨?_, good ?_, ?_⟩, ?_⟩; (· omega); (· simp_all [gnB]); (· rw [w1 (by omega)]); (· omega)))
    all_goals try clear ff

theorem specGoodName_does (s : ByteArray) (hs : s.size ≤ 9223372036854775807) : Does Tryd.prog 49 [S s] (B (goodName s)) := by
  have short : ¬ (1 ≤ s.size ∧ s.size ≤ 20) → goodName s = false := fun h => by simp [goodName, rng]; omega
  have bad : ∀ k, k < s.size → gnB s k = false → goodName s = false := fun k hk h => by
    simp only [goodName, Bool.and_eq_false_iff]
    right
    rw [List.all_eq_false]
    exact ⟨k, List.mem_range.2 hk, by simp [h]⟩
  have dig0 : digt (byteAt s 0) = true → gnB s 0 = false := fun h => by
    simp only [digt, Bool.and_eq_true, decide_eq_true_eq] at h
    simp [gnB, lett]; omega
  refine Does.walk (nt := 35) Tryd.func49 rfl rfl (by simp) (by decide) rfl (fun G0 X w0 pv => ?_)
  have ff := @Ty.str9
  try refine st_by ff ?_
  repeat' (first
    | exact trivial
    | (refine And.intro ?_ ?_; · (try clear ff; first | omega))
    | (refine ret_q1 rfl ?_; (try refine sr_by ff ?_); all_goals (try clear ff); all_goals (try exact trivial); all_goals (first | (rw [short]; omega) | (rw [bad 0]; (· omega); (· exact dig0 hd))))
    | (with_reducible refine cq_call (l1Digit_does (byteAt s 0)) ?_ ?_ ⟨?_, ?_⟩; (· first | rfl | exact cl_by ff); (· first | assumption | kernel_rfl); (· first | exact ca_by ff | (refine sa_by ff ?_; try clear ff; first | exact trivial | omega)); refine st_by ff ?_)
    | (with_reducible refine CBC_eq (fun hp hd => ?_) (fun hp hd => ?_) <;> refine st_by (And.intro hd ff) ?_)
    | (with_reducible refine CBC_ne (fun hp hd => ?_) (fun hp hd => ?_) <;> refine st_by (And.intro hd ff) ?_)
    | (with_reducible refine CBC_decT ?_ (fun hd => ?_); (· try clear ff; first | assumption | omega); refine st_by (And.intro hd ff) ?_)
    | (with_reducible refine CBC_decF ?_ (fun hd => ?_); (· try clear ff; first | assumption | omega); refine st_by (And.intro hd ff) ?_)
    | (with_reducible refine CBC_dec (fun hp hd => ?_) (fun hp hd => ?_) <;> refine st_by (And.intro hd ff) ?_)
    | (refine CBC_bool (fun hd => ?_) (fun hd => ?_) <;> refine st_by (And.intro hd ff) ?_)
    | (with_reducible refine GQ_eq (fun hp hd => ?_) (fun hp hd => ?_) <;> refine st_by (And.intro hd ff) ?_)
    | (with_reducible refine GQ_ne (fun hp hd => ?_) (fun hp hd => ?_) <;> refine st_by (And.intro hd ff) ?_)
    | (with_reducible refine GQ_decT ?_ (fun hd => ?_); (· try clear ff; first | assumption | omega); refine st_by (And.intro hd ff) ?_)
    | (with_reducible refine GQ_decF ?_ (fun hd => ?_); (· try clear ff; first | assumption | omega); refine st_by (And.intro hd ff) ?_)
    | (with_reducible refine GQ_dec (fun hp hd => ?_) (fun hp hd => ?_) <;> refine st_by (And.intro hd ff) ?_)
    | (with_reducible refine GQ_ndT ?_ (fun hd => ?_); (· try clear ff; first | assumption | omega); refine st_by (And.intro hd ff) ?_)
    | (with_reducible refine GQ_ndF ?_ (fun hd => ?_); (· try clear ff; first | assumption | omega); refine st_by (And.intro hd ff) ?_)
    | (with_reducible refine GQ_nd (fun hp hd => ?_) (fun hp hd => ?_) <;> refine st_by (And.intro hd ff) ?_)
    | (refine GQ_nb (fun hd => ?_) (fun hd => ?_) <;> refine st_by (And.intro hd ff) ?_)
    | (refine GQ_bool (fun hd => ?_) (fun hd => ?_) <;> refine st_by (And.intro hd ff) ?_))
  all_goals try clear ff
  have a0 : digt (byteAt s 0) = false := hd
  refine aw_loop (ι := Nat) (fun k σ => k ≤ s.size ∧ (∀ i, i < k → gnB s i = true) ∧ σ.t 0 = S s ∧ σ.t 3 = I k) (fun k => s.size - k) 0 ?_ ?_
  · (first | exact cl_by trivial | refine st_by trivial ?_)
    simp
  · rintro k σ ⟨hk, hok, g0, g3⟩
    have w1 : k < s.size → IntKind.i64.wrap ((k : Int) + 1) = ((k + 1 : Nat) : Int) := fun _ => wI _ (by omega) (by omega)
    have good : gnB s k = true → ∀ i, i < k + 1 → gnB s i = true := fun h i hi => by
        by_cases hik : i = k
        · rw [hik]; exact h
        · exact hok i (by omega)
    have zero : k = 0 → digt (byteAt s k) = false := fun h => by subst h; exact a0
    have all : k = s.size → goodName s = true := fun e => by
      simp only [goodName, rng, Bool.and_eq_true, decide_eq_true_eq]
      exact ⟨by omega, List.all_eq_true.2 (fun i hi => hok i (by have := List.mem_range.1 hi; omega))⟩
    clear hok
    have ff := And.intro @g0 (And.intro @g3 @Ty.str9)
    try refine st_by ff ?_
    repeat' (first
      | exact trivial
      | (refine And.intro ?_ ?_; · (try clear ff; first | omega))
      | (refine ret_q1 rfl ?_; (try refine sr_by ff ?_); all_goals (try clear ff); all_goals (try exact trivial); all_goals (first | (rw [all]; omega) | (rw [bad k]; (· omega); (· simp_all [gnB]))))
      | (with_reducible refine cq_call (l1Letter_does (byteAt s k)) ?_ ?_ ⟨?_, ?_⟩; (· first | rfl | exact cl_by ff); (· first | assumption | kernel_rfl); (· first | exact ca_by ff | (refine sa_by ff ?_; try clear ff; first | exact trivial | omega)); refine st_by ff ?_)
      | (with_reducible refine cq_call (l1Digit_does (byteAt s k)) ?_ ?_ ⟨?_, ?_⟩; (· first | rfl | exact cl_by ff); (· first | assumption | kernel_rfl); (· first | exact ca_by ff | (refine sa_by ff ?_; try clear ff; first | exact trivial | omega)); refine st_by ff ?_)
      | (with_reducible refine CBC_eq (fun hp hd => ?_) (fun hp hd => ?_) <;> refine st_by (And.intro hd ff) ?_)
      | (with_reducible refine CBC_ne (fun hp hd => ?_) (fun hp hd => ?_) <;> refine st_by (And.intro hd ff) ?_)
      | (with_reducible refine CBC_decT ?_ (fun hd => ?_); (· try clear ff; first | assumption | omega); refine st_by (And.intro hd ff) ?_)
      | (with_reducible refine CBC_decF ?_ (fun hd => ?_); (· try clear ff; first | assumption | omega); refine st_by (And.intro hd ff) ?_)
      | (with_reducible refine CBC_dec (fun hp hd => ?_) (fun hp hd => ?_) <;> refine st_by (And.intro hd ff) ?_)
      | (refine CBC_bool (fun hd => ?_) (fun hd => ?_) <;> refine st_by (And.intro hd ff) ?_)
      | (with_reducible refine GQ_eq (fun hp hd => ?_) (fun hp hd => ?_) <;> refine st_by (And.intro hd ff) ?_)
      | (with_reducible refine GQ_ne (fun hp hd => ?_) (fun hp hd => ?_) <;> refine st_by (And.intro hd ff) ?_)
      | (with_reducible refine GQ_decT ?_ (fun hd => ?_); (· try clear ff; first | assumption | omega); refine st_by (And.intro hd ff) ?_)
      | (with_reducible refine GQ_decF ?_ (fun hd => ?_); (· try clear ff; first | assumption | omega); refine st_by (And.intro hd ff) ?_)
      | (with_reducible refine GQ_dec (fun hp hd => ?_) (fun hp hd => ?_) <;> refine st_by (And.intro hd ff) ?_)
      | (with_reducible refine GQ_ndT ?_ (fun hd => ?_); (· try clear ff; first | assumption | omega); refine st_by (And.intro hd ff) ?_)
      | (with_reducible refine GQ_ndF ?_ (fun hd => ?_); (· try clear ff; first | assumption | omega); refine st_by (And.intro hd ff) ?_)
      | (with_reducible refine GQ_nd (fun hp hd => ?_) (fun hp hd => ?_) <;> refine st_by (And.intro hd ff) ?_)
      | (refine GQ_nb (fun hd => ?_) (fun hd => ?_) <;> refine st_by (And.intro hd ff) ?_)
      | (refine GQ_bool (fun hd => ?_) (fun hd => ?_) <;> refine st_by (And.intro hd ff) ?_)
      | ((try clear ff); refine ⟨k + 1, ⟨?_, good ?_, ?_⟩, ?_⟩; (· omega); (· by_cases hk0 : k = 0 <;> simp_all [gnB]); (· rw [w1 (by omega)]); (· omega)))
    all_goals try clear ff
end Go.Av
end
section
set_option linter.unusedSimpArgs false
set_option linter.unusedVariables false
set_option maxRecDepth 100000
set_option maxHeartbeats 1000000
namespace Go.Av
open Go.Proofs
/-! spec.l1Split -/
def p_spec_l1Split_j0 (s_a0 : ByteArray) (at_9 : Int) (i_10 : Int) (out_11 : List ByteArray) (rec_0 : Int → Int → (List ByteArray) → Option (Int × Int × (List ByteArray))) (b_23 : Bool) : Option (Int × Int × (List ByteArray)) := (if b_23 = true then ((bslc s_a0 at_9 i_10).bind fun m25 => (if out_11.length < 4294967296 then rec_0 (IntKind.i64.wrap (i_10 + 1)) (IntKind.i64.wrap (i_10 + 1)) (out_11 ++ [m25]) else none)) else rec_0 at_9 (IntKind.i64.wrap (i_10 + 1)) out_11)
def p_spec_l1Split_l0 (s_a0 : ByteArray) (b_a1 : Int) : Nat → Int → Int → (List ByteArray) → Option (Int × Int × (List ByteArray))
  | 0, _, _, _ => none
  | n_0 + 1, at_9, i_10, out_11 => (if i_10 ≤ (s_a0.size : Int) then (if i_10 = (s_a0.size : Int) then p_spec_l1Split_j0 s_a0 at_9 i_10 out_11 (p_spec_l1Split_l0 s_a0 b_a1 n_0) true else ((bidx s_a0 i_10).bind fun y30 => p_spec_l1Split_j0 s_a0 at_9 i_10 out_11 (p_spec_l1Split_l0 s_a0 b_a1 n_0) (y30 == b_a1))) else some (at_9, i_10, out_11))
theorem p_spec_l1Split_pv {F C A : Prop} (hF : F) (hC : C) (h : F → C → A := by intro hF hC; first | exact cl_by hF | (refine st_by hF ?_; (repeat' (first | exact trivial | apply And.intro)); all_goals (clear hF; first | rfl | (simp only [hC, List.length_append, List.length_cons, List.length_nil, List.append_nil, List.nil_append, List.cons_append, List.length_set, List.append_assoc, Nat.zero_add, List.length_replicate, esStr_app, esStr_cons, esStr_nil, eStr_eq]; done) | (simp [hC, List.length_append, List.length_cons, List.length_nil, List.append_nil, List.nil_append, List.cons_append, List.length_set, List.append_assoc, Nat.zero_add, List.length_replicate, esStr_app, esStr_cons, esStr_nil, eStr_eq]; done) | omega))) : A := h hF hC
theorem p_spec_l1Split_rt {F C A : Prop} (hF : F) (hC : C) (h : F → C → A := by intro hF hC; first | (refine sr_by hF ?_; (repeat' (first | exact trivial | apply And.intro)); all_goals (clear hF; first | rfl | (simp only [hC, List.length_append, List.length_cons, List.length_nil, List.append_nil, List.nil_append, List.cons_append, List.length_set, List.append_assoc, Nat.zero_add, List.length_replicate, esStr_app, esStr_cons, esStr_nil, eStr_eq]; done) | (simp [hC, List.length_append, List.length_cons, List.length_nil, List.append_nil, List.nil_append, List.cons_append, List.length_set, List.append_assoc, Nat.zero_add, List.length_replicate, esStr_app, esStr_cons, esStr_nil, eStr_eq]; done) | omega)) | (first | rfl | (simp only [hC, List.length_append, List.length_cons, List.length_nil, List.append_nil, List.nil_append, List.cons_append, List.length_set, List.append_assoc, Nat.zero_add, List.length_replicate, esStr_app, esStr_cons, esStr_nil, eStr_eq]; done) | (simp [hC, List.length_append, List.length_cons, List.length_nil, List.append_nil, List.nil_append, List.cons_append, List.length_set, List.append_assoc, Nat.zero_add, List.length_replicate, esStr_app, esStr_cons, esStr_nil, eStr_eq]; done) | omega)) : A := h hF hC
def p_spec_l1Split_tf := PLift.up (And.intro @eStr_eq (And.intro @esStr_len (And.intro @esStr_nil (And.intro @esStr_leaf (And.intro @esStr_fit (And.intro @esStr_share (And.intro @esStr_pure (And.intro @str_beq (And.intro @Ty.str9 (And.intro @Ty.nze39 (And.intro @Ty.sl39 (And.intro @Ty.slz39 (And.intro @Ty.zok39 (And.intro @Ty.by39 (And.intro @Ty.zs39 @trivial)))))))))))))))
def p_spec_l1Split (N : Nat) (s_a0 : ByteArray) (b_a1 : Int) : Option (List ByteArray) := ((p_spec_l1Split_l0 s_a0 b_a1 N 0 0 ([] : List ByteArray)).bind fun q_0 => match q_0 with | (at_9, i_10, out_11) => some out_11)
theorem p_spec_l1Split_does (N : Nat) (s_a0 : ByteArray) (b_a1 : Int) (r : List ByteArray) (h : p_spec_l1Split N s_a0 b_a1 = some r) : Does Tryd.prog 71 [S s_a0, .lit (.int .u8 b_a1)] (.row true 1 r.length (esStr r)) := by
  rw [p_spec_l1Split] at h
  refine Does.walk (nt := 35) Tryd.func71 rfl rfl (by simp) (by decide) rfl (fun G0 X w0 pv => ?_)
  obtain ⟨q_0, eq_0, h⟩ := Option.bind_eq_some_iff.1 h
  have ff := p_spec_l1Split_tf.down
  try refine st_by ff ?_
  repeat' (first | exact trivial | refine And.intro sd ?_)
  obtain ⟨I_0, hI_0⟩ : ∃ I_ : (Nat × Int × Int × (List ByteArray)) → ASt → Prop, I_ = (fun (a : Nat × Int × Int × (List ByteArray)) σ => match a with | (n_0, at_9, i_10, out_11) => (p_spec_l1Split_l0 s_a0 b_a1 n_0 at_9 i_10 out_11 = some q_0) ∧ σ.t 0 = S s_a0 ∧ σ.t 1 = .lit (.int .u8 b_a1) ∧ σ.t 5 = .sl 5 [] 0 out_11.length ∧ σ.t 6 = I at_9 ∧ σ.t 7 = I i_10 ∧ σ.m 5 = some (.row true 1 out_11.length (esStr out_11))) := ⟨_, rfl⟩
  obtain ⟨M_0, hM_0⟩ : ∃ M_ : (Nat × Int × Int × (List ByteArray)) → Nat, M_ = (fun (a : Nat × Int × Int × (List ByteArray)) => match a with | (n_0, at_9, i_10, out_11) => n_0) := ⟨_, rfl⟩
  obtain ⟨J_0, hJ_0⟩ : ∃ J_ : ASt → Prop, J_ = (fun σ => ∃ at_9 : Int, ∃ i_10 : Int, ∃ out_11 : List ByteArray, (some (at_9, i_10, out_11) = some q_0) ∧ σ.t 5 = .sl 5 [] 0 out_11.length ∧ σ.m 5 = some (.row true 1 out_11.length (esStr out_11))) := ⟨_, rfl⟩
  refine aw_loopC (id := 0) I_0 M_0 J_0 (N, 0, 0, ([] : List ByteArray)) ?_ ?_ ?_
  · rw [hI_0]
    refine ⟨eq_0, ?_⟩
    exact p_spec_l1Split_pv ff trivial
  · try clear ff
    rintro ⟨n_0, at_9, i_10, out_11⟩ σ hg_0
    rw [hI_0] at hg_0
    obtain ⟨h_0, g0_0, g1_0, g2_0, g3_0, g4_0, g5_0⟩ := hg_0
    cases n_0 with
    | zero => rw [p_spec_l1Split_l0] at h_0; cases h_0
    | succ n_0 =>
      rw [p_spec_l1Split_l0] at h_0
      by_cases c22 : i_10 ≤ (s_a0.size : Int)
      case neg =>
       rw [if_neg c22] at h_0
       have dc22 := decide_eq_false c22
       have ff := And.intro @g0_0 (And.intro @g1_0 (And.intro @g2_0 (And.intro @g3_0 (And.intro @g4_0 (And.intro @g5_0 (And.intro @dc22 p_spec_l1Split_tf.down))))))
       try refine st_by ff ?_
       repeat' (first | exact trivial | refine And.intro sd ?_)
       refine JW.intro ?_
       rw [hJ_0]
       refine ⟨at_9, i_10, out_11, h_0, ?_⟩
       exact p_spec_l1Split_pv ff trivial
      rw [if_pos c22] at h_0
      have dc22 := decide_eq_true c22
      have ff := And.intro @g0_0 (And.intro @g1_0 (And.intro @g2_0 (And.intro @g3_0 (And.intro @g4_0 (And.intro @g5_0 (And.intro @dc22 p_spec_l1Split_tf.down))))))
      try refine st_by ff ?_
      repeat' (first | exact trivial | refine And.intro sd ?_)
      try clear ff
      generalize hk_0 : thenK _ _ = kk_0
      have key_0 : ∀ σ, (∃ b_23 : Bool, (p_spec_l1Split_j0 s_a0 at_9 i_10 out_11 (p_spec_l1Split_l0 s_a0 b_a1 n_0) b_23 = some q_0) ∧ σ.t 0 = S s_a0 ∧ σ.t 1 = .lit (.int .u8 b_a1) ∧ σ.t 5 = .sl 5 [] 0 out_11.length ∧ σ.t 6 = I at_9 ∧ σ.t 7 = I i_10 ∧ σ.t 24 = B b_23 ∧ σ.m 5 = some (.row true 1 out_11.length (esStr out_11))) → kk_0 .nm σ := by
        rintro σ ⟨b_23, h_0, g0_j0, g1_j0, g2_j0, g3_j0, g4_j0, g5_j0, g6_j0⟩
        rw [← hk_0]
        rw [p_spec_l1Split_j0] at h_0
        by_cases c24 : b_23 = true
        case neg =>
         rw [if_neg c24] at h_0
         have dc24 := eq_false_of_ne_true c24
         have ff := And.intro @dc22 (And.intro @g0_j0 (And.intro @g1_j0 (And.intro @g2_j0 (And.intro @g3_j0 (And.intro @g4_j0 (And.intro @g5_j0 (And.intro @g6_j0 (And.intro @dc24 p_spec_l1Split_tf.down))))))))
         try refine st_by ff ?_
         repeat' (first | exact trivial | refine And.intro sd ?_)
         refine Back.intro (n_0, at_9, (IntKind.i64.wrap (i_10 + 1)), out_11) ?_ ?_
         · rw [hM_0]; exact Nat.lt_succ_self _
         rw [hI_0]
         refine ⟨h_0, ?_⟩
         exact p_spec_l1Split_pv ff trivial
        rw [if_pos c24] at h_0
        have dc24 := c24
        obtain ⟨m25, em25, h_0⟩ := Option.bind_eq_some_iff.1 h_0
        try dsimp only at h_0
        obtain ⟨f26a, f26b⟩ := bslc_ok em25
        have f26c : s_a0.extract at_9.toNat i_10.toNat = m25 := f26b
        by_cases c27 : out_11.length < 4294967296
        case neg => rw [if_neg c27] at h_0; cases h_0
        rw [if_pos c27] at h_0
        have a28a : esStr out_11 ++ [S m25] = esStr (out_11 ++ [m25]) := by simp [esStr_app, esStr_cons, esStr_nil, eStr_eq, esStr_nil]
        have a28b : out_11.length + 1 = (out_11 ++ [m25]).length := by simp
        have ff := And.intro @dc22 (And.intro @g0_j0 (And.intro @g1_j0 (And.intro @g2_j0 (And.intro @g3_j0 (And.intro @g4_j0 (And.intro @g5_j0 (And.intro @g6_j0 (And.intro @dc24 (And.intro @f26c (And.intro @a28a (And.intro @a28b p_spec_l1Split_tf.down)))))))))))
        try refine st_by ff ?_
        repeat' (first | exact trivial | refine And.intro sd ?_)
        refine Back.intro (n_0, (IntKind.i64.wrap (i_10 + 1)), (IntKind.i64.wrap (i_10 + 1)), (out_11 ++ [m25])) ?_ ?_
        · rw [hM_0]; exact Nat.lt_succ_self _
        rw [hI_0]
        refine ⟨h_0, ?_⟩
        exact p_spec_l1Split_pv ff trivial
      have hrt_0 := fun σ : ASt => congrFun (congrFun hk_0.symm AX.rt) σ
      have hex_0 := fun (i : Nat) (σ : ASt) => congrFun (congrFun hk_0.symm (AX.ex i)) σ
      by_cases c29 : i_10 = (s_a0.size : Int)
      · rw [if_pos c29] at h_0
        have dc29 := beq_yes c29
        have ff := And.intro @g0_0 (And.intro @g1_0 (And.intro @g2_0 (And.intro @g3_0 (And.intro @g4_0 (And.intro @g5_0 (And.intro @dc22 (And.intro @hrt_0 (And.intro @hex_0 (And.intro @dc29 p_spec_l1Split_tf.down)))))))))
        try refine st_by ff ?_
        repeat' (first | exact trivial | refine And.intro sd ?_)
        refine key_0 _ ?_
        refine ⟨true, h_0, ?_⟩
        exact p_spec_l1Split_pv ff trivial
      rw [if_neg c29] at h_0
      have dc29 := beq_no c29
      obtain ⟨y30, ey30, h_0⟩ := Option.bind_eq_some_iff.1 h_0
      try dsimp only at h_0
      have f31a := (bidx_ok ey30).1
      have f31b := (bidx_ok ey30).2
      have ff := And.intro @g0_0 (And.intro @g1_0 (And.intro @g2_0 (And.intro @g3_0 (And.intro @g4_0 (And.intro @g5_0 (And.intro @dc22 (And.intro @hrt_0 (And.intro @hex_0 (And.intro @dc29 (And.intro @f31a (And.intro @f31b p_spec_l1Split_tf.down)))))))))))
      try refine st_by ff ?_
      repeat' (first | exact trivial | refine And.intro sd ?_)
      refine key_0 _ ?_
      refine ⟨(y30 == b_a1), h_0, ?_⟩
      exact p_spec_l1Split_pv ff trivial
  · try clear ff
    rintro σ hg_0
    rw [hJ_0] at hg_0
    obtain ⟨at_9, i_10, out_11, hj_0, g0_0a, g1_0a⟩ := hg_0
    cases hj_0
    try dsimp only at h
    have ff := And.intro @g0_0a (And.intro @g1_0a p_spec_l1Split_tf.down)
    try refine st_by ff ?_
    repeat' (first | exact trivial | refine And.intro sd ?_)
    cases h
    exact ret_q1 rfl (p_spec_l1Split_rt ff trivial)
/-! spec.l26Path -/
def p_spec_l26Path_l0 : List ByteArray → Nat → Option (LR (Bool) (Unit))
  | [], i_0 => some (.out ())
  | x_0 :: r_0, i_0 => (if x_0.size ≤ 9223372036854775807 then (if (goodName x_0) = true then p_spec_l26Path_l0 r_0 (i_0 + 1) else some (.ret false)) else none)
theorem p_spec_l26Path_sa {F C A : Prop} (hF : F) (hC : C) (h : F → C → A := by intro hF hC; first | exact ca_by hF | (refine sa_by hF ?_; (repeat' (first | exact trivial | apply And.intro)); all_goals (clear hF; first | rfl | (simp only [hC, List.length_append, List.length_cons, List.length_nil, List.append_nil, List.nil_append, List.cons_append, List.length_set, List.append_assoc, Nat.zero_add, List.length_replicate, esStr_app, esStr_cons, esStr_nil, eStr_eq]; done) | (simp [hC, List.length_append, List.length_cons, List.length_nil, List.append_nil, List.nil_append, List.cons_append, List.length_set, List.append_assoc, Nat.zero_add, List.length_replicate, esStr_app, esStr_cons, esStr_nil, eStr_eq]; done) | omega))) : A := h hF hC
def p_spec_l26Path_tf := PLift.up (And.intro @eStr_eq (And.intro @esStr_len (And.intro @esStr_nil (And.intro @esStr_leaf (And.intro @esStr_fit (And.intro @esStr_share (And.intro @esStr_pure (And.intro @str_beq (And.intro @Ty.sl39 (And.intro @Ty.slz39 (And.intro @Ty.nz9 (And.intro @Ty.ldA9 (And.intro @Ty.ldS9 (And.intro @Ty.sz9 (And.intro @Ty.szn9 @trivial)))))))))))))))
def p_spec_l26Path (N : Nat) (s_a0 : ByteArray) : Option (Bool) := ((p_spec_l1Split N s_a0 47).bind fun v1 => ((p_spec_l26Path_l0 v1 0).bind fun q_0 => match q_0 with | .ret r_ => some r_ | .out _ => some (decide ((v1.length : Int) ≤ 5))))
theorem p_spec_l26Path_does (N : Nat) (s_a0 : ByteArray) (r : Bool) (h : p_spec_l26Path N s_a0 = some r) : Does Tryd.prog 56 [S s_a0] (B r) := by
  rw [p_spec_l26Path] at h
  refine Does.walk (nt := 21) Tryd.func56 rfl rfl (by simp) (by decide) rfl (fun G0 X w0 pv => ?_)
  obtain ⟨v1, ev1, h⟩ := Option.bind_eq_some_iff.1 h
  try dsimp only at h
  have ff := p_spec_l26Path_tf.down
  try refine st_by ff ?_
  repeat' (first | exact trivial | refine And.intro sd ?_)
  first
  | (refine cq_own (p_spec_l1Split_does N s_a0 47 v1 ev1) (hf_by ff) kr ⟨p_spec_l26Path_sa ff trivial, ?_⟩; clear ff)
  obtain ⟨q_0, eq_0, h⟩ := Option.bind_eq_some_iff.1 h
  have ff := p_spec_l26Path_tf.down
  try refine st_by ff ?_
  repeat' (first | exact trivial | refine And.intro sd ?_)
  refine aw_bnd (r := 3) (p := []) (sz := 1) (n := v1.length) (cs := esStr v1) (p_spec_l1Split_pv ff trivial) (fun hL_0 => ?_)
  obtain ⟨I_0, hI_0⟩ : ∃ I_ : (Nat) → ASt → Prop, I_ = (fun (i_0 : Nat) σ => (i_0 ≤ v1.length ∧ p_spec_l26Path_l0 (v1.drop i_0) i_0 = some q_0) ∧ σ.t 3 = .sl 3 [] 0 v1.length ∧ σ.t 8 = .sl 3 [] 0 v1.length ∧ σ.t 9 = I (v1.length : Int) ∧ σ.t 10 = I (i_0 : Int) ∧ σ.m 3 = some (.row true 1 v1.length (esStr v1))) := ⟨_, rfl⟩
  obtain ⟨M_0, hM_0⟩ : ∃ M_ : (Nat) → Nat, M_ = (fun (i_0 : Nat) => v1.length - i_0) := ⟨_, rfl⟩
  obtain ⟨J_0, hJ_0⟩ : ∃ J_ : ASt → Prop, J_ = (fun σ => (some (.out ()) = some q_0) ∧ σ.t 3 = .sl 3 [] 0 v1.length ∧ σ.m 3 = some (.row true 1 v1.length (esStr v1))) := ⟨_, rfl⟩
  refine aw_loopC (id := 0) I_0 M_0 J_0 (0) ?_ ?_ ?_
  · rw [hI_0]
    refine ⟨⟨Nat.zero_le _, eq_0⟩, ?_⟩
    exact p_spec_l1Split_pv ff trivial
  · try clear ff
    rintro i_0 σ hg_0
    rw [hI_0] at hg_0
    obtain ⟨⟨hi_0, h_0⟩, g0_0, g1_0, g2_0, g3_0, g4_0⟩ := hg_0
    cases hr_0 : v1.drop i_0 with
    | nil =>
      rw [hr_0] at h_0
      rw [p_spec_l26Path_l0] at h_0
      have hn_0 := drop_nil hr_0
      have dr_0 : decide ((i_0 : Int) < (v1.length : Int)) = false := decide_eq_false (by omega)
      have ff := And.intro @dr_0 (And.intro @g0_0 (And.intro @g1_0 (And.intro @g2_0 (And.intro @g3_0 (And.intro @g4_0 p_spec_l26Path_tf.down)))))
      try refine st_by ff ?_
      repeat' (first | exact trivial | refine And.intro sd ?_)
      refine JW.intro ?_
      rw [hJ_0]
      refine ⟨h_0, ?_⟩
      exact p_spec_l1Split_pv ff trivial
    | cons x_0 r_0 =>
      rw [hr_0] at h_0
      rw [p_spec_l26Path_l0] at h_0
      obtain ⟨ht_0, hg_0, hd_0⟩ := drop_cons hr_0
      have dr_0 : decide ((i_0 : Int) < (v1.length : Int)) = true := decide_eq_true (by omega)
      have w_0 : IntKind.i64.wrap ((i_0 : Int) + 1) = ((i_0 + 1 : Nat) : Int) := wI _ (by omega) (by omega)
      have kk0c : (esStr v1).drop (i_0 * 1) = eStr x_0 ++ esStr (v1.drop (i_0 + 1)) := drop_enc (fun _ => rfl) (hg_0)
      have kk0d := kk0c
      rw [Nat.mul_one] at kk0d
      have kk0g0 : (esStr v1).getD (i_0 * 1) .junk = (eStr x_0).getD 0 .junk := getD_enc0 (enc := eStr) (sz := 1) (fun _ => rfl) (hg_0) (by decide)
      rw [Nat.mul_one] at kk0g0
      by_cases c13 : x_0.size ≤ 9223372036854775807
      case neg => rw [if_neg c13] at h_0; cases h_0
      rw [if_pos c13] at h_0
      have ff := And.intro @dr_0 (And.intro @w_0 (And.intro @g0_0 (And.intro @g1_0 (And.intro @g2_0 (And.intro @g3_0 (And.intro @g4_0 (And.intro @kk0c (And.intro @kk0d (And.intro @kk0g0 p_spec_l26Path_tf.down)))))))))
      try refine st_by ff ?_
      repeat' (first | exact trivial | refine And.intro sd ?_)
      first
      | (refine cq_call (specGoodName_does x_0 (by first | assumption | omega)) (hf_by ff) kr ⟨p_spec_l26Path_sa ff trivial, ?_⟩; clear ff)
      by_cases c14 : (goodName x_0) = true
      case neg =>
       rw [if_neg c14] at h_0
       have dc14 := eq_false_of_ne_true c14
       cases h_0
       try dsimp only at h
       have ff := And.intro @dr_0 (And.intro @w_0 (And.intro @g0_0 (And.intro @g1_0 (And.intro @g2_0 (And.intro @g3_0 (And.intro @g4_0 (And.intro @kk0c (And.intro @kk0d (And.intro @kk0g0 (And.intro @dc14 p_spec_l26Path_tf.down))))))))))
       try refine st_by ff ?_
       repeat' (first | exact trivial | refine And.intro sd ?_)
       cases h
       exact ret_q1 rfl (p_spec_l1Split_rt ff trivial)
      rw [if_pos c14] at h_0
      have dc14 := c14
      have ff := And.intro @dr_0 (And.intro @w_0 (And.intro @g0_0 (And.intro @g1_0 (And.intro @g2_0 (And.intro @g3_0 (And.intro @g4_0 (And.intro @kk0c (And.intro @kk0d (And.intro @kk0g0 (And.intro @dc14 p_spec_l26Path_tf.down))))))))))
      try refine st_by ff ?_
      repeat' (first | exact trivial | refine And.intro sd ?_)
      refine Back.intro (i_0 + 1) ?_ ?_
      · clear ff; rw [hM_0]; show v1.length - (i_0 + 1) < v1.length - i_0; omega
      rw [hI_0]
      refine ⟨⟨by clear ff; show i_0 + 1 ≤ v1.length; omega, by show p_spec_l26Path_l0 (v1.drop (i_0 + 1)) (i_0 + 1) = some q_0; rw [hd_0]; exact h_0⟩, ?_⟩
      exact p_spec_l1Split_pv ff trivial
  · try clear ff
    rintro σ hg_0
    rw [hJ_0] at hg_0
    obtain ⟨hj_0, g0_0a, g1_0a⟩ := hg_0
    cases hj_0
    try dsimp only at h
    have ff := And.intro @g0_0a (And.intro @g1_0a p_spec_l26Path_tf.down)
    try refine st_by ff ?_
    repeat' (first | exact trivial | refine And.intro sd ?_)
    cases h
    exact ret_q1 rfl (p_spec_l1Split_rt ff trivial)
/-! spec.l26Value -/
theorem p_spec_l26Value_sa {F C A : Prop} (hF : F) (hC : C) (h : F → C → A := by intro hF hC; first | exact ca_by hF | (refine sa_by hF ?_; (repeat' (first | exact trivial | apply And.intro)); all_goals (clear hF; first | rfl | (simp only [hC, List.length_append, List.length_cons, List.length_nil, List.append_nil, List.nil_append, List.cons_append, List.length_set, List.append_assoc, Nat.zero_add, List.length_replicate]; done) | (simp [hC, List.length_append, List.length_cons, List.length_nil, List.append_nil, List.nil_append, List.cons_append, List.length_set, List.append_assoc, Nat.zero_add, List.length_replicate]; done) | omega))) : A := h hF hC
theorem p_spec_l26Value_rt {F C A : Prop} (hF : F) (hC : C) (h : F → C → A := by intro hF hC; first | (refine sr_by hF ?_; (repeat' (first | exact trivial | apply And.intro)); all_goals (clear hF; first | rfl | (simp only [hC, List.length_append, List.length_cons, List.length_nil, List.append_nil, List.nil_append, List.cons_append, List.length_set, List.append_assoc, Nat.zero_add, List.length_replicate]; done) | (simp [hC, List.length_append, List.length_cons, List.length_nil, List.append_nil, List.nil_append, List.cons_append, List.length_set, List.append_assoc, Nat.zero_add, List.length_replicate]; done) | omega)) | (first | rfl | (simp only [hC, List.length_append, List.length_cons, List.length_nil, List.append_nil, List.nil_append, List.cons_append, List.length_set, List.append_assoc, Nat.zero_add, List.length_replicate]; done) | (simp [hC, List.length_append, List.length_cons, List.length_nil, List.append_nil, List.nil_append, List.cons_append, List.length_set, List.append_assoc, Nat.zero_add, List.length_replicate]; done) | omega)) : A := h hF hC
def p_spec_l26Value_tf := PLift.up (And.intro @str_beq (And.intro @Ty.str9 @trivial))
def p_spec_l26Value (s_a0 : ByteArray) : Option (Bool) := some (rng (s_a0.size : Int) 1 40)
theorem p_spec_l26Value_does (s_a0 : ByteArray) (r : Bool) (h : p_spec_l26Value s_a0 = some r) : Does Tryd.prog 57 [S s_a0] (B r) := by
  rw [p_spec_l26Value] at h
  refine Does.walk (nt := 6) Tryd.func57 rfl rfl (by simp) (by decide) rfl (fun G0 X w0 pv => ?_)
  have ff := p_spec_l26Value_tf.down
  try refine st_by ff ?_
  repeat' (first | exact trivial | refine And.intro sd ?_)
  first
  | (refine cq_call (l1In_does (s_a0.size : Int) 1 40) (hf_by ff) kr ⟨p_spec_l26Value_sa ff trivial, ?_⟩; clear ff)
  have ff := p_spec_l26Value_tf.down
  try refine st_by ff ?_
  repeat' (first | exact trivial | refine And.intro sd ?_)
  cases h
  exact ret_q1 rfl (p_spec_l26Value_rt ff trivial)
/-! spec.GoodProps -/
def p_spec_GoodProps_l0 (N : Nat) (l_a0 : List GProp) : List GProp → Nat → Option (LR (Bool) (Unit))
  | [], i_0 => some (.out ())
  | x_0 :: r_0, i_0 => ((p_spec_l26Path N x_0.Path).bind fun v25 => (if v25 = true then ((p_spec_l26Value x_0.Value).bind fun v27 => (if v27 = true then (if (i_0 : Int) > 0 then ((idx l_a0 (IntKind.i64.wrap ((i_0 : Int) - 1))).bind fun x30 => (if (Op.bytesLess x30.Path.toList x_0.Path.toList) = true then p_spec_GoodProps_l0 N l_a0 r_0 (i_0 + 1) else some (.ret false))) else p_spec_GoodProps_l0 N l_a0 r_0 (i_0 + 1)) else some (.ret false))) else some (.ret false)))
theorem p_spec_GoodProps_pv {F C A : Prop} (hF : F) (hC : C) (h : F → C → A := by intro hF hC; first | exact cl_by hF | (refine st_by hF ?_; (repeat' (first | exact trivial | apply And.intro)); all_goals (clear hF; first | rfl | (simp only [hC, List.length_append, List.length_cons, List.length_nil, List.append_nil, List.nil_append, List.cons_append, List.length_set, List.append_assoc, Nat.zero_add, List.length_replicate, esProp_app, esProp_cons, esProp_nil, eProp_eq]; done) | (simp [hC, List.length_append, List.length_cons, List.length_nil, List.append_nil, List.nil_append, List.cons_append, List.length_set, List.append_assoc, Nat.zero_add, List.length_replicate, esProp_app, esProp_cons, esProp_nil, eProp_eq]; done) | omega))) : A := h hF hC
theorem p_spec_GoodProps_sa {F C A : Prop} (hF : F) (hC : C) (h : F → C → A := by intro hF hC; first | exact ca_by hF | (refine sa_by hF ?_; (repeat' (first | exact trivial | apply And.intro)); all_goals (clear hF; first | rfl | (simp only [hC, List.length_append, List.length_cons, List.length_nil, List.append_nil, List.nil_append, List.cons_append, List.length_set, List.append_assoc, Nat.zero_add, List.length_replicate, esProp_app, esProp_cons, esProp_nil, eProp_eq]; done) | (simp [hC, List.length_append, List.length_cons, List.length_nil, List.append_nil, List.nil_append, List.cons_append, List.length_set, List.append_assoc, Nat.zero_add, List.length_replicate, esProp_app, esProp_cons, esProp_nil, eProp_eq]; done) | omega))) : A := h hF hC
theorem p_spec_GoodProps_rt {F C A : Prop} (hF : F) (hC : C) (h : F → C → A := by intro hF hC; first | (refine sr_by hF ?_; (repeat' (first | exact trivial | apply And.intro)); all_goals (clear hF; first | rfl | (simp only [hC, List.length_append, List.length_cons, List.length_nil, List.append_nil, List.nil_append, List.cons_append, List.length_set, List.append_assoc, Nat.zero_add, List.length_replicate, esProp_app, esProp_cons, esProp_nil, eProp_eq]; done) | (simp [hC, List.length_append, List.length_cons, List.length_nil, List.append_nil, List.nil_append, List.cons_append, List.length_set, List.append_assoc, Nat.zero_add, List.length_replicate, esProp_app, esProp_cons, esProp_nil, eProp_eq]; done) | omega)) | (first | rfl | (simp only [hC, List.length_append, List.length_cons, List.length_nil, List.append_nil, List.nil_append, List.cons_append, List.length_set, List.append_assoc, Nat.zero_add, List.length_replicate, esProp_app, esProp_cons, esProp_nil, eProp_eq]; done) | (simp [hC, List.length_append, List.length_cons, List.length_nil, List.append_nil, List.nil_append, List.cons_append, List.length_set, List.append_assoc, Nat.zero_add, List.length_replicate, esProp_app, esProp_cons, esProp_nil, eProp_eq]; done) | omega)) : A := h hF hC
def p_spec_GoodProps_tf := PLift.up (And.intro @eProp_eq (And.intro @esProp_len (And.intro @esProp_nil (And.intro @esProp_leaf (And.intro @esProp_fit (And.intro @esProp_share (And.intro @esProp_pure (And.intro @str_beq (And.intro @Ty.sl24 (And.intro @Ty.slz24 (And.intro @Ty.nz59 (And.intro @Ty.ldA59 (And.intro @Ty.sz59 (And.intro @Ty.szn59 (And.intro @Ty.nz9 (And.intro @Ty.ldA9 (And.intro @Ty.ldS9 (And.intro @Ty.sz9 (And.intro @Ty.szn9 (And.intro @Ty.fo59_0 (And.intro @Ty.fk59_0 (And.intro @Ty.fs59_0 (And.intro @Ty.fn59_0 (And.intro @Ty.fo59_1 (And.intro @Ty.fk59_1 (And.intro @Ty.fs59_1 (And.intro @Ty.fn59_1 (And.intro @Ty.zv59 @trivial))))))))))))))))))))))))))))
def p_spec_GoodProps (N : Nat) (l_a0 : List GProp) : Option (Bool) := (if (l_a0.length : Int) > 40 then some false else ((p_spec_GoodProps_l0 N l_a0 l_a0 0).bind fun q_0 => match q_0 with | .ret r_ => some r_ | .out _ => some true))
theorem p_spec_GoodProps_does (N : Nat) (l_a0 : List GProp) (r : Bool) (h : p_spec_GoodProps N l_a0 = some r) : Does Tryd.prog 36 [.row false 2 l_a0.length (esProp l_a0)] (B r) := by
  rw [p_spec_GoodProps] at h
  refine Does.bnd (fun hb => ?_)
  have hb2 : l_a0.length ≤ 9223372036854775807 := by simpa [AV.fitNs, AV.fitN] using hb
  have hl0 := hb2
  refine Does.walk (nt := 41) Tryd.func36 rfl rfl (by simp) (by decide) rfl (fun G0 X w0 pv => ?_)
  by_cases c1 : (l_a0.length : Int) > 40
  · rw [if_pos c1] at h
    have dc1 := decide_eq_true c1
    have ff := And.intro @dc1 p_spec_GoodProps_tf.down
    try refine st_by ff ?_
    repeat' (first | exact trivial | refine And.intro sd ?_)
    cases h
    exact ret_q1 rfl (p_spec_GoodProps_rt ff trivial)
  rw [if_neg c1] at h
  have dc1 := decide_eq_false c1
  have hL_0 : l_a0.length ≤ 9223372036854775807 := by first | assumption | omega
  obtain ⟨q_0, eq_0, h⟩ := Option.bind_eq_some_iff.1 h
  have ff := And.intro @dc1 p_spec_GoodProps_tf.down
  try refine st_by ff ?_
  repeat' (first | exact trivial | refine And.intro sd ?_)
  obtain ⟨I_0, hI_0⟩ : ∃ I_ : (Nat) → ASt → Prop, I_ = (fun (i_0 : Nat) σ => (i_0 ≤ l_a0.length ∧ p_spec_GoodProps_l0 N l_a0 (l_a0.drop i_0) i_0 = some q_0) ∧ σ.t 0 = .row false 2 l_a0.length (esProp l_a0) ∧ σ.t 8 = .row false 2 l_a0.length (esProp l_a0) ∧ σ.t 9 = I (l_a0.length : Int) ∧ σ.t 10 = I (i_0 : Int)) := ⟨_, rfl⟩
  obtain ⟨M_0, hM_0⟩ : ∃ M_ : (Nat) → Nat, M_ = (fun (i_0 : Nat) => l_a0.length - i_0) := ⟨_, rfl⟩
  obtain ⟨J_0, hJ_0⟩ : ∃ J_ : ASt → Prop, J_ = (fun σ => (some (.out ()) = some q_0) ∧ True) := ⟨_, rfl⟩
  refine aw_loopC (id := 0) I_0 M_0 J_0 (0) ?_ ?_ ?_
  · rw [hI_0]
    refine ⟨⟨Nat.zero_le _, eq_0⟩, ?_⟩
    exact p_spec_GoodProps_pv ff trivial
  · try clear ff
    rintro i_0 σ hg_0
    rw [hI_0] at hg_0
    obtain ⟨⟨hi_0, h_0⟩, g0_0, g1_0, g2_0, g3_0⟩ := hg_0
    cases hr_0 : l_a0.drop i_0 with
    | nil =>
      rw [hr_0] at h_0
      rw [p_spec_GoodProps_l0] at h_0
      have hn_0 := drop_nil hr_0
      have dr_0 : decide ((i_0 : Int) < (l_a0.length : Int)) = false := decide_eq_false (by omega)
      have ff := And.intro @dc1 (And.intro @dr_0 (And.intro @g0_0 (And.intro @g1_0 (And.intro @g2_0 (And.intro @g3_0 p_spec_GoodProps_tf.down)))))
      try refine st_by ff ?_
      repeat' (first | exact trivial | refine And.intro sd ?_)
      refine JW.intro ?_
      rw [hJ_0]
      refine ⟨h_0, ?_⟩
      exact p_spec_GoodProps_pv ff trivial
    | cons x_0 r_0 =>
      rw [hr_0] at h_0
      rw [p_spec_GoodProps_l0] at h_0
      obtain ⟨ht_0, hg_0, hd_0⟩ := drop_cons hr_0
      have dr_0 : decide ((i_0 : Int) < (l_a0.length : Int)) = true := decide_eq_true (by omega)
      have w_0 : IntKind.i64.wrap ((i_0 : Int) + 1) = ((i_0 + 1 : Nat) : Int) := wI _ (by omega) (by omega)
      have kk0c : (esProp l_a0).drop (i_0 * 2) = eProp x_0 ++ esProp (l_a0.drop (i_0 + 1)) := drop_enc (fun _ => rfl) (hg_0)
      obtain ⟨v25, ev25, h_0⟩ := Option.bind_eq_some_iff.1 h_0
      try dsimp only at h_0
      have ff := And.intro @dc1 (And.intro @dr_0 (And.intro @w_0 (And.intro @g0_0 (And.intro @g1_0 (And.intro @g2_0 (And.intro @g3_0 (And.intro @kk0c p_spec_GoodProps_tf.down)))))))
      try refine st_by ff ?_
      repeat' (first | exact trivial | refine And.intro sd ?_ | (refine aw_drawn (id := 6) ?_ [[], [0], [0, 1], [0, 1, 2], [0, 1, 2, 3], [0, 1, 2, 3, 4], [0, 1, 2, 3, 4, 5], [0, 1, 2, 3, 4, 5, 6], [0, 1, 2, 3, 4, 5, 6, 7], [0, 1, 2, 3, 4, 5, 6, 7, 8], [0, 1, 2, 3, 4, 5, 6, 7, 8, 9], [0, 1, 2, 3, 4, 5, 6, 7, 8, 9, 10], [0, 1, 2, 3, 4, 5, 6, 7, 8, 9, 10, 11], [0, 1, 2, 3, 4, 5, 6, 7, 8, 9, 10, 11, 12], [0, 1, 2, 3, 4, 5, 6, 7, 8, 9, 10, 11, 12, 13], [0, 1, 2, 3, 4, 5, 6, 7, 8, 9, 10, 11, 12, 13], [0, 1, 2, 3, 4, 5, 6, 7, 8, 9, 10, 11, 12, 13, 15], [0, 1, 2, 3, 4, 5, 6, 7, 8, 9, 10, 11, 12, 13, 14, 15, 16], [0, 1, 2, 3, 4, 5, 6, 7, 8, 9, 10, 11, 12, 13, 14, 15, 16, 17], [0, 1, 2, 3, 4, 5, 6, 7, 8, 9, 10, 11, 12, 13, 14, 15, 16, 17, 18], [0, 1, 2, 3, 4, 5, 6, 7, 8, 9, 10, 11, 12, 13], [0, 1, 2, 3, 4, 5, 6, 7, 8, 9, 10, 11, 12, 13, 20], [0, 1, 2, 3, 4, 5, 6, 7, 8, 9, 10, 11, 12, 13, 14, 15, 16, 17, 18, 19, 20, 21], [0, 1, 2, 3, 4, 5, 6, 7, 8, 9, 10, 11, 12, 13, 14, 15, 16, 17, 18, 19, 20, 21, 22], [0, 1, 2, 3, 4, 5, 6, 7, 8, 9, 10, 11, 12, 13, 14, 15, 16, 17, 18, 19, 20, 21, 22, 23]] 22 ?_ ?_; (· kernel_rfl); (· kernel_rfl); refine st_by ff ?_))
      first
      | (refine cq_call (p_spec_l26Path_does N x_0.Path v25 ev25) (hf_by ff) kr ⟨p_spec_GoodProps_sa ff trivial, ?_⟩; clear ff)
      | (refine cq_dcall (p_spec_l26Path_does N x_0.Path v25 ev25) (hf_by ff) kr ⟨p_spec_GoodProps_sa ff trivial, ?_⟩; clear ff)
      by_cases c26 : v25 = true
      case neg =>
       rw [if_neg c26] at h_0
       have dc26 := eq_false_of_ne_true c26
       cases h_0
       try dsimp only at h
       have ff := And.intro @dc1 (And.intro @dr_0 (And.intro @w_0 (And.intro @g0_0 (And.intro @g1_0 (And.intro @g2_0 (And.intro @g3_0 (And.intro @kk0c (And.intro @dc26 p_spec_GoodProps_tf.down))))))))
       try refine st_by ff ?_
       repeat' (first | exact trivial | refine And.intro sd ?_)
       cases h
       exact ret_q1 rfl (p_spec_GoodProps_rt ff trivial)
      rw [if_pos c26] at h_0
      have dc26 := c26
      obtain ⟨v27, ev27, h_0⟩ := Option.bind_eq_some_iff.1 h_0
      try dsimp only at h_0
      have ff := And.intro @dc1 (And.intro @dr_0 (And.intro @w_0 (And.intro @g0_0 (And.intro @g1_0 (And.intro @g2_0 (And.intro @g3_0 (And.intro @kk0c (And.intro @dc26 p_spec_GoodProps_tf.down))))))))
      try refine st_by ff ?_
      repeat' (first | exact trivial | refine And.intro sd ?_)
      first
      | (refine cq_call (p_spec_l26Value_does x_0.Value v27 ev27) (hf_by ff) kr ⟨p_spec_GoodProps_sa ff trivial, ?_⟩; clear ff)
      | (refine cq_dcall (p_spec_l26Value_does x_0.Value v27 ev27) (hf_by ff) kr ⟨p_spec_GoodProps_sa ff trivial, ?_⟩; clear ff)
      by_cases c28 : v27 = true
      case neg =>
       rw [if_neg c28] at h_0
       have dc28 := eq_false_of_ne_true c28
       cases h_0
       try dsimp only at h
       have ff := And.intro @dc1 (And.intro @dr_0 (And.intro @w_0 (And.intro @g0_0 (And.intro @g1_0 (And.intro @g2_0 (And.intro @g3_0 (And.intro @kk0c (And.intro @dc26 (And.intro @dc28 p_spec_GoodProps_tf.down)))))))))
       try refine st_by ff ?_
       repeat' (first | exact trivial | refine And.intro sd ?_)
       cases h
       exact ret_q1 rfl (p_spec_GoodProps_rt ff trivial)
      rw [if_pos c28] at h_0
      have dc28 := c28
      by_cases c29 : (i_0 : Int) > 0
      case neg =>
       rw [if_neg c29] at h_0
       have dc29 := decide_eq_false c29
       have ff := And.intro @dc1 (And.intro @dr_0 (And.intro @w_0 (And.intro @g0_0 (And.intro @g1_0 (And.intro @g2_0 (And.intro @g3_0 (And.intro @kk0c (And.intro @dc26 (And.intro @dc28 (And.intro @dc29 p_spec_GoodProps_tf.down))))))))))
       try refine st_by ff ?_
       repeat' (first | exact trivial | refine And.intro sd ?_)
       refine Back.intro (i_0 + 1) ?_ ?_
       · clear ff; rw [hM_0]; show l_a0.length - (i_0 + 1) < l_a0.length - i_0; omega
       rw [hI_0]
       refine ⟨⟨by clear ff; show i_0 + 1 ≤ l_a0.length; omega, by show p_spec_GoodProps_l0 N l_a0 (l_a0.drop (i_0 + 1)) (i_0 + 1) = some q_0; rw [hd_0]; exact h_0⟩, ?_⟩
       exact p_spec_GoodProps_pv ff trivial
      rw [if_pos c29] at h_0
      have dc29 := decide_eq_true c29
      obtain ⟨x30, ex30, h_0⟩ := Option.bind_eq_some_iff.1 h_0
      try dsimp only at h_0
      have f31a := idx_lo ex30
      have f31b := idx_hi ex30
      have f31c : (esProp l_a0).drop (((IntKind.i64.wrap ((i_0 : Int) - 1)).toNat) * 2) = eProp x30 ++ esProp (l_a0.drop ((IntKind.i64.wrap ((i_0 : Int) - 1)).toNat + 1)) := drop_enc (fun _ => rfl) (idx_get ex30)
      by_cases c32 : (Op.bytesLess x30.Path.toList x_0.Path.toList) = true
      case neg =>
       rw [if_neg c32] at h_0
       have dc32 := eq_false_of_ne_true c32
       cases h_0
       try dsimp only at h
       have ff := And.intro @dc1 (And.intro @dr_0 (And.intro @w_0 (And.intro @g0_0 (And.intro @g1_0 (And.intro @g2_0 (And.intro @g3_0 (And.intro @kk0c (And.intro @dc26 (And.intro @dc28 (And.intro @dc29 (And.intro @f31c (And.intro @dc32 p_spec_GoodProps_tf.down))))))))))))
       try refine st_by ff ?_
       repeat' (first | exact trivial | refine And.intro sd ?_)
       cases h
       exact ret_q1 rfl (p_spec_GoodProps_rt ff trivial)
      rw [if_pos c32] at h_0
      have dc32 := c32
      have ff := And.intro @dc1 (And.intro @dr_0 (And.intro @w_0 (And.intro @g0_0 (And.intro @g1_0 (And.intro @g2_0 (And.intro @g3_0 (And.intro @kk0c (And.intro @dc26 (And.intro @dc28 (And.intro @dc29 (And.intro @f31c (And.intro @dc32 p_spec_GoodProps_tf.down))))))))))))
      try refine st_by ff ?_
      repeat' (first | exact trivial | refine And.intro sd ?_)
      refine Back.intro (i_0 + 1) ?_ ?_
      · clear ff; rw [hM_0]; show l_a0.length - (i_0 + 1) < l_a0.length - i_0; omega
      rw [hI_0]
      refine ⟨⟨by clear ff; show i_0 + 1 ≤ l_a0.length; omega, by show p_spec_GoodProps_l0 N l_a0 (l_a0.drop (i_0 + 1)) (i_0 + 1) = some q_0; rw [hd_0]; exact h_0⟩, ?_⟩
      exact p_spec_GoodProps_pv ff trivial
  · try clear ff
    rintro σ hg_0
    rw [hJ_0] at hg_0
    obtain ⟨hj_0, _⟩ := hg_0
    cases hj_0
    try dsimp only at h
    have ff := And.intro @dc1 p_spec_GoodProps_tf.down
    try refine st_by ff ?_
    repeat' (first | exact trivial | refine And.intro sd ?_)
    cases h
    exact ret_q1 rfl (p_spec_GoodProps_rt ff trivial)
/-! slices.IndexFunc[[]string,string] -/
def p_slices_IndexFunc_string_string_l0 (f_a1 : ByteArray → Option Bool) : List ByteArray → Nat → Option (LR (Int) (Unit))
  | [], i_0 => some (.out ())
  | x_0 :: r_0, i_0 => ((f_a1 x_0).bind fun v12 => (if v12 = true then some (.ret (i_0 : Int)) else p_slices_IndexFunc_string_string_l0 f_a1 r_0 (i_0 + 1)))
def p_slices_IndexFunc_string_string_tf := PLift.up (And.intro @eStr_eq (And.intro @esStr_len (And.intro @esStr_nil (And.intro @esStr_leaf (And.intro @esStr_fit (And.intro @esStr_share (And.intro @esStr_pure (And.intro @str_beq (And.intro @Ty.sl39 (And.intro @Ty.slz39 (And.intro @Ty.nz9 (And.intro @Ty.ldA9 (And.intro @Ty.ldS9 (And.intro @Ty.sz9 (And.intro @Ty.szn9 @trivial)))))))))))))))
def p_slices_IndexFunc_string_string (s_a0 : List ByteArray) (f_a1 : ByteArray → Option Bool) : Option (Int) := ((p_slices_IndexFunc_string_string_l0 f_a1 s_a0 0).bind fun q_0 => match q_0 with | .ret r_ => some r_ | .out _ => some (-1))
theorem p_slices_IndexFunc_string_string_does (s_a0 : List ByteArray) (f1 : FuncId) (caps1 : List AV) (hc1 : AV.noRefs caps1 = true) (he1 : entB Tryd.prog f1 = true) (f_a1 : ByteArray → Option Bool) (hp1 : ∀ (x0_ : ByteArray) (y_ : Bool), f_a1 x0_ = some y_ → Does Tryd.prog f1 ([S x0_] ++ caps1) (B y_)) (r : Int) (h : p_slices_IndexFunc_string_string s_a0 f_a1 = some r) : Does Tryd.prog 93 [.row false 1 s_a0.length (esStr s_a0), .fn f1 caps1] (I r) := by
  rw [p_slices_IndexFunc_string_string] at h
  refine Does.bnd (fun hb => ?_)
  have hb2 : s_a0.length ≤ 9223372036854775807 := by simpa [AV.fitNs, AV.fitN] using hb
  have hl0 := hb2
  refine Does.walk (nt := 19) Tryd.func93 rfl rfl (by simp) (by decide) (by simp [AV.noRefs, AV.noRef, hc1]) (fun G0 X w0 pv => ?_)
  have hL_0 : s_a0.length ≤ 9223372036854775807 := by first | assumption | omega
  obtain ⟨q_0, eq_0, h⟩ := Option.bind_eq_some_iff.1 h
  have ff := And.intro @hc1 p_slices_IndexFunc_string_string_tf.down
  try refine st_by ff ?_
  repeat' (first | exact trivial | refine And.intro sd ?_)
  obtain ⟨I_0, hI_0⟩ : ∃ I_ : (Nat) → ASt → Prop, I_ = (fun (i_0 : Nat) σ => (i_0 ≤ s_a0.length ∧ p_slices_IndexFunc_string_string_l0 f_a1 (s_a0.drop i_0) i_0 = some q_0) ∧ σ.t 0 = .row false 1 s_a0.length (esStr s_a0) ∧ σ.t 1 = .fn f1 caps1 ∧ σ.t 7 = I (s_a0.length : Int) ∧ σ.t 8 = I (i_0 : Int)) := ⟨_, rfl⟩
  obtain ⟨M_0, hM_0⟩ : ∃ M_ : (Nat) → Nat, M_ = (fun (i_0 : Nat) => s_a0.length - i_0) := ⟨_, rfl⟩
  obtain ⟨J_0, hJ_0⟩ : ∃ J_ : ASt → Prop, J_ = (fun σ => (some (.out ()) = some q_0) ∧ True) := ⟨_, rfl⟩
  refine aw_loopC (id := 0) I_0 M_0 J_0 (0) ?_ ?_ ?_
  · rw [hI_0]
    refine ⟨⟨Nat.zero_le _, eq_0⟩, ?_⟩
    exact p_spec_l1Split_pv ff trivial
  · try clear ff
    rintro i_0 σ hg_0
    rw [hI_0] at hg_0
    obtain ⟨⟨hi_0, h_0⟩, g0_0, g1_0, g2_0, g3_0⟩ := hg_0
    cases hr_0 : s_a0.drop i_0 with
    | nil =>
      rw [hr_0] at h_0
      rw [p_slices_IndexFunc_string_string_l0] at h_0
      have hn_0 := drop_nil hr_0
      have dr_0 : decide ((i_0 : Int) < (s_a0.length : Int)) = false := decide_eq_false (by omega)
      have ff := And.intro @hc1 (And.intro @dr_0 (And.intro @g0_0 (And.intro @g1_0 (And.intro @g2_0 (And.intro @g3_0 p_slices_IndexFunc_string_string_tf.down)))))
      try refine st_by ff ?_
      repeat' (first | exact trivial | refine And.intro sd ?_)
      refine JW.intro ?_
      rw [hJ_0]
      refine ⟨h_0, ?_⟩
      exact p_spec_l1Split_pv ff trivial
    | cons x_0 r_0 =>
      rw [hr_0] at h_0
      rw [p_slices_IndexFunc_string_string_l0] at h_0
      obtain ⟨ht_0, hg_0, hd_0⟩ := drop_cons hr_0
      have dr_0 : decide ((i_0 : Int) < (s_a0.length : Int)) = true := decide_eq_true (by omega)
      have w_0 : IntKind.i64.wrap ((i_0 : Int) + 1) = ((i_0 + 1 : Nat) : Int) := wI _ (by omega) (by omega)
      have kk0c : (esStr s_a0).drop (i_0 * 1) = eStr x_0 ++ esStr (s_a0.drop (i_0 + 1)) := drop_enc (fun _ => rfl) (hg_0)
      have kk0d := kk0c
      rw [Nat.mul_one] at kk0d
      obtain ⟨v12, ev12, h_0⟩ := Option.bind_eq_some_iff.1 h_0
      try dsimp only at h_0
      have ff := And.intro @hc1 (And.intro @dr_0 (And.intro @w_0 (And.intro @g0_0 (And.intro @g1_0 (And.intro @g2_0 (And.intro @g3_0 (And.intro @kk0c (And.intro @kk0d p_slices_IndexFunc_string_string_tf.down))))))))
      try refine st_by ff ?_
      repeat' (first | exact trivial | refine And.intro sd ?_)
      first
      | (refine cq_call (hp1 x_0 v12 ev12) (hf_by ff) he1 ⟨p_spec_l26Path_sa ff trivial, ?_⟩; clear ff)
      by_cases c13 : v12 = true
      · rw [if_pos c13] at h_0
        have dc13 := c13
        cases h_0
        try dsimp only at h
        have ff := And.intro @hc1 (And.intro @dr_0 (And.intro @w_0 (And.intro @g0_0 (And.intro @g1_0 (And.intro @g2_0 (And.intro @g3_0 (And.intro @kk0c (And.intro @kk0d (And.intro @dc13 p_slices_IndexFunc_string_string_tf.down)))))))))
        try refine st_by ff ?_
        repeat' (first | exact trivial | refine And.intro sd ?_)
        cases h
        exact ret_q1 rfl (p_spec_l1Split_rt ff trivial)
      rw [if_neg c13] at h_0
      have dc13 := eq_false_of_ne_true c13
      have ff := And.intro @hc1 (And.intro @dr_0 (And.intro @w_0 (And.intro @g0_0 (And.intro @g1_0 (And.intro @g2_0 (And.intro @g3_0 (And.intro @kk0c (And.intro @kk0d (And.intro @dc13 p_slices_IndexFunc_string_string_tf.down)))))))))
      try refine st_by ff ?_
      repeat' (first | exact trivial | refine And.intro sd ?_)
      refine Back.intro (i_0 + 1) ?_ ?_
      · clear ff; rw [hM_0]; show s_a0.length - (i_0 + 1) < s_a0.length - i_0; omega
      rw [hI_0]
      refine ⟨⟨by clear ff; show i_0 + 1 ≤ s_a0.length; omega, by show p_slices_IndexFunc_string_string_l0 f_a1 (s_a0.drop (i_0 + 1)) (i_0 + 1) = some q_0; rw [hd_0]; exact h_0⟩, ?_⟩
      exact p_spec_l1Split_pv ff trivial
  · try clear ff
    rintro σ hg_0
    rw [hJ_0] at hg_0
    obtain ⟨hj_0, _⟩ := hg_0
    cases hj_0
    try dsimp only at h
    have ff := And.intro @hc1 p_slices_IndexFunc_string_string_tf.down
    try refine st_by ff ?_
    repeat' (first | exact trivial | refine And.intro sd ?_)
    cases h
    exact ret_q1 rfl (p_spec_l1Split_rt ff trivial)
/-! slices.ContainsFunc[[]string,string] -/
def p_slices_ContainsFunc_string_string_tf := PLift.up (And.intro @eStr_eq (And.intro @esStr_len (And.intro @esStr_nil (And.intro @esStr_leaf (And.intro @esStr_fit (And.intro @esStr_share (And.intro @esStr_pure (And.intro @str_beq @trivial))))))))
def p_slices_ContainsFunc_string_string (s_a0 : List ByteArray) (f_a1 : ByteArray → Option Bool) : Option (Bool) := ((p_slices_IndexFunc_string_string s_a0 f_a1).bind fun v1 => some (decide (v1 ≥ 0)))
theorem p_slices_ContainsFunc_string_string_does (s_a0 : List ByteArray) (f1 : FuncId) (caps1 : List AV) (hc1 : AV.noRefs caps1 = true) (he1 : entB Tryd.prog f1 = true) (f_a1 : ByteArray → Option Bool) (hp1 : ∀ (x0_ : ByteArray) (y_ : Bool), f_a1 x0_ = some y_ → Does Tryd.prog f1 ([S x0_] ++ caps1) (B y_)) (r : Bool) (h : p_slices_ContainsFunc_string_string s_a0 f_a1 = some r) : Does Tryd.prog 74 [.row false 1 s_a0.length (esStr s_a0), .fn f1 caps1] (B r) := by
  rw [p_slices_ContainsFunc_string_string] at h
  refine Does.bnd (fun hb => ?_)
  have hb2 : s_a0.length ≤ 9223372036854775807 := by simpa [AV.fitNs, AV.fitN] using hb
  have hl0 := hb2
  refine Does.walk (nt := 9) Tryd.func74 rfl rfl (by simp) (by decide) (by simp [AV.noRefs, AV.noRef, hc1]) (fun G0 X w0 pv => ?_)
  obtain ⟨v1, ev1, h⟩ := Option.bind_eq_some_iff.1 h
  try dsimp only at h
  have ff := And.intro @hc1 p_slices_ContainsFunc_string_string_tf.down
  try refine st_by ff ?_
  repeat' (first | exact trivial | refine And.intro sd ?_)
  first
  | (refine cq_call (p_slices_IndexFunc_string_string_does s_a0 f1 caps1 hc1 he1 f_a1 hp1 v1 ev1) (hf_by ff) kr ⟨p_spec_l26Path_sa ff trivial, ?_⟩; clear ff)
  have ff := And.intro @hc1 p_slices_ContainsFunc_string_string_tf.down
  try refine st_by ff ?_
  repeat' (first | exact trivial | refine And.intro sd ?_)
  cases h
  exact ret_q1 rfl (p_spec_l1Split_rt ff trivial)
/-! impl.isPath$1 -/
def p_impl_isPath_1_tf := PLift.up (And.intro @str_beq @trivial)
def p_impl_isPath_1 (name_a0 : ByteArray) : Option (Bool) := (if name_a0.size ≤ 9223372036854775807 then some (!(goodName name_a0)) else none)
theorem p_impl_isPath_1_does (name_a0 : ByteArray) (r : Bool) (h : p_impl_isPath_1 name_a0 = some r) : Does Tryd.prog 75 [S name_a0] (B r) := by
  rw [p_impl_isPath_1] at h
  refine Does.walk (nt := 6) Tryd.func75 rfl rfl (by simp) (by decide) rfl (fun G0 X w0 pv => ?_)
  by_cases c1 : name_a0.size ≤ 9223372036854775807
  case neg => rw [if_neg c1] at h; cases h
  rw [if_pos c1] at h
  have ff := p_impl_isPath_1_tf.down
  try refine st_by ff ?_
  repeat' (first | exact trivial | refine And.intro sd ?_)
  first
  | (refine cq_call (implGoodName_does name_a0 (by first | assumption | omega)) (hf_by ff) kr ⟨p_spec_l26Value_sa ff trivial, ?_⟩; clear ff)
  have ff := p_impl_isPath_1_tf.down
  try refine st_by ff ?_
  repeat' (first | exact trivial | refine And.intro sd ?_)
  cases h
  exact ret_q1 rfl (p_spec_l26Value_rt ff trivial)
/-! impl.isPath -/
def p_impl_isPath_tf := PLift.up (And.intro @eStr_eq (And.intro @esStr_len (And.intro @esStr_nil (And.intro @esStr_leaf (And.intro @esStr_fit (And.intro @esStr_share (And.intro @esStr_pure (And.intro @str_beq (And.intro @Ty.sl39 (And.intro @Ty.slz39 @trivial))))))))))
def p_impl_isPath (s_a0 : ByteArray) : Option (Bool) := ((splitP s_a0 (⟨#[47]⟩ : ByteArray)).bind fun v1 => (if (v1.length : Int) ≤ 5 then ((p_slices_ContainsFunc_string_string v1 (fun x0_ => p_impl_isPath_1 x0_)).bind fun v3 => some (!v3)) else some false))
theorem p_impl_isPath_does (s_a0 : ByteArray) (r : Bool) (h : p_impl_isPath s_a0 = some r) : Does Tryd.prog 58 [S s_a0] (B r) := by
  rw [p_impl_isPath] at h
  refine Does.walk (nt := 14) Tryd.func58 rfl rfl (by simp) (by decide) rfl (fun G0 X w0 pv => ?_)
  obtain ⟨v1, ev1, h⟩ := Option.bind_eq_some_iff.1 h
  try dsimp only at h
  have ff := p_impl_isPath_tf.down
  try refine st_by ff ?_
  repeat' (first | exact trivial | refine And.intro sd ?_)
  first
  | (refine cq_own (split_does s_a0 (⟨#[47]⟩ : ByteArray) v1 ev1) (hf_by ff) kr ⟨p_spec_l26Path_sa ff trivial, ?_⟩; clear ff)
  by_cases c2 : (v1.length : Int) ≤ 5
  case neg =>
   rw [if_neg c2] at h
   have dc2 := decide_eq_false c2
   have ff := And.intro @dc2 p_impl_isPath_tf.down
   try refine st_by ff ?_
   repeat' (first | exact trivial | refine And.intro sd ?_)
   cases h
   exact ret_q1 rfl (p_spec_l1Split_rt ff trivial)
  rw [if_pos c2] at h
  have dc2 := decide_eq_true c2
  obtain ⟨v3, ev3, h⟩ := Option.bind_eq_some_iff.1 h
  try dsimp only at h
  have ff := And.intro @dc2 p_impl_isPath_tf.down
  try refine st_by ff ?_
  repeat' (first | exact trivial | refine And.intro sd ?_)
  first
  | (refine cq_lend (p_slices_ContainsFunc_string_string_does v1 75 [] (by simp [AV.noRefs, AV.noRef]) kr (fun x0_ => p_impl_isPath_1 x0_) (fun x0_ y_ h_ => p_impl_isPath_1_does x0_ y_ h_) v3 ev3) (hf_by ff) kr ⟨p_spec_l26Path_sa ff trivial, ?_⟩; clear ff)
  have ff := And.intro @dc2 p_impl_isPath_tf.down
  try refine st_by ff ?_
  repeat' (first | exact trivial | refine And.intro sd ?_)
  cases h
  exact ret_q1 rfl (p_spec_l1Split_rt ff trivial)
/-! impl.isPropValue -/
def p_impl_isPropValue_tf := PLift.up (And.intro @str_beq (And.intro @Ty.str9 @trivial))
def p_impl_isPropValue (s_a0 : ByteArray) : Option (Bool) := some (rng (s_a0.size : Int) 1 40)
theorem p_impl_isPropValue_does (s_a0 : ByteArray) (r : Bool) (h : p_impl_isPropValue s_a0 = some r) : Does Tryd.prog 59 [S s_a0] (B r) := by
  rw [p_impl_isPropValue] at h
  refine Does.walk (nt := 6) Tryd.func59 rfl rfl (by simp) (by decide) rfl (fun G0 X w0 pv => ?_)
  have ff := p_impl_isPropValue_tf.down
  try refine st_by ff ?_
  repeat' (first | exact trivial | refine And.intro sd ?_)
  first
  | (refine cq_call (inRange_does (s_a0.size : Int) 1 40) (hf_by ff) kr ⟨p_spec_l26Value_sa ff trivial, ?_⟩; clear ff)
  have ff := p_impl_isPropValue_tf.down
  try refine st_by ff ?_
  repeat' (first | exact trivial | refine And.intro sd ?_)
  cases h
  exact ret_q1 rfl (p_spec_l26Value_rt ff trivial)
/-! impl.GoodProps -/
def p_impl_GoodProps_l0 (l_a0 : List GProp) : List GProp → Nat → Option (LR (Bool) (Unit))
  | [], i_0 => some (.out ())
  | x_0 :: r_0, i_0 => ((p_impl_isPath x_0.Path).bind fun v24 => (if v24 = true then ((p_impl_isPropValue x_0.Value).bind fun v26 => (if v26 = true then (if (i_0 : Int) > 0 then ((idx l_a0 (IntKind.i64.wrap ((i_0 : Int) - 1))).bind fun x29 => (if (Op.bytesLess x29.Path.toList x_0.Path.toList) = true then p_impl_GoodProps_l0 l_a0 r_0 (i_0 + 1) else some (.ret false))) else p_impl_GoodProps_l0 l_a0 r_0 (i_0 + 1)) else some (.ret false))) else some (.ret false)))
def p_impl_GoodProps_tf := PLift.up (And.intro @eProp_eq (And.intro @esProp_len (And.intro @esProp_nil (And.intro @esProp_leaf (And.intro @esProp_fit (And.intro @esProp_share (And.intro @esProp_pure (And.intro @str_beq (And.intro @Ty.sl24 (And.intro @Ty.slz24 (And.intro @Ty.nz59 (And.intro @Ty.ldA59 (And.intro @Ty.sz59 (And.intro @Ty.szn59 (And.intro @Ty.nz9 (And.intro @Ty.ldA9 (And.intro @Ty.ldS9 (And.intro @Ty.sz9 (And.intro @Ty.szn9 (And.intro @Ty.fo59_0 (And.intro @Ty.fk59_0 (And.intro @Ty.fs59_0 (And.intro @Ty.fn59_0 (And.intro @Ty.fo59_1 (And.intro @Ty.fk59_1 (And.intro @Ty.fs59_1 (And.intro @Ty.fn59_1 (And.intro @Ty.zv59 @trivial))))))))))))))))))))))))))))
def p_impl_GoodProps (l_a0 : List GProp) : Option (Bool) := ((p_impl_GoodProps_l0 l_a0 l_a0 0).bind fun q_0 => match q_0 with | .ret r_ => some r_ | .out _ => some (decide ((l_a0.length : Int) ≤ 40)))
theorem p_impl_GoodProps_does (l_a0 : List GProp) (r : Bool) (h : p_impl_GoodProps l_a0 = some r) : Does Tryd.prog 39 [.row false 2 l_a0.length (esProp l_a0)] (B r) := by
  rw [p_impl_GoodProps] at h
  refine Does.bnd (fun hb => ?_)
  have hb2 : l_a0.length ≤ 9223372036854775807 := by simpa [AV.fitNs, AV.fitN] using hb
  have hl0 := hb2
  refine Does.walk (nt := 41) Tryd.func39 rfl rfl (by simp) (by decide) rfl (fun G0 X w0 pv => ?_)
  have hL_0 : l_a0.length ≤ 9223372036854775807 := by first | assumption | omega
  obtain ⟨q_0, eq_0, h⟩ := Option.bind_eq_some_iff.1 h
  have ff := p_impl_GoodProps_tf.down
  try refine st_by ff ?_
  repeat' (first | exact trivial | refine And.intro sd ?_)
  obtain ⟨I_0, hI_0⟩ : ∃ I_ : (Nat) → ASt → Prop, I_ = (fun (i_0 : Nat) σ => (i_0 ≤ l_a0.length ∧ p_impl_GoodProps_l0 l_a0 (l_a0.drop i_0) i_0 = some q_0) ∧ σ.t 0 = .row false 2 l_a0.length (esProp l_a0) ∧ σ.t 5 = .row false 2 l_a0.length (esProp l_a0) ∧ σ.t 6 = I (l_a0.length : Int) ∧ σ.t 7 = I (i_0 : Int)) := ⟨_, rfl⟩
  obtain ⟨M_0, hM_0⟩ : ∃ M_ : (Nat) → Nat, M_ = (fun (i_0 : Nat) => l_a0.length - i_0) := ⟨_, rfl⟩
  obtain ⟨J_0, hJ_0⟩ : ∃ J_ : ASt → Prop, J_ = (fun σ => (some (.out ()) = some q_0) ∧ σ.t 0 = .row false 2 l_a0.length (esProp l_a0)) := ⟨_, rfl⟩
  refine aw_loopC (id := 0) I_0 M_0 J_0 (0) ?_ ?_ ?_
  · rw [hI_0]
    refine ⟨⟨Nat.zero_le _, eq_0⟩, ?_⟩
    exact p_spec_GoodProps_pv ff trivial
  · try clear ff
    rintro i_0 σ hg_0
    rw [hI_0] at hg_0
    obtain ⟨⟨hi_0, h_0⟩, g0_0, g1_0, g2_0, g3_0⟩ := hg_0
    cases hr_0 : l_a0.drop i_0 with
    | nil =>
      rw [hr_0] at h_0
      rw [p_impl_GoodProps_l0] at h_0
      have hn_0 := drop_nil hr_0
      have dr_0 : decide ((i_0 : Int) < (l_a0.length : Int)) = false := decide_eq_false (by omega)
      have ff := And.intro @dr_0 (And.intro @g0_0 (And.intro @g1_0 (And.intro @g2_0 (And.intro @g3_0 p_impl_GoodProps_tf.down))))
      try refine st_by ff ?_
      repeat' (first | exact trivial | refine And.intro sd ?_)
      refine JW.intro ?_
      rw [hJ_0]
      refine ⟨h_0, ?_⟩
      exact p_spec_GoodProps_pv ff trivial
    | cons x_0 r_0 =>
      rw [hr_0] at h_0
      rw [p_impl_GoodProps_l0] at h_0
      obtain ⟨ht_0, hg_0, hd_0⟩ := drop_cons hr_0
      have dr_0 : decide ((i_0 : Int) < (l_a0.length : Int)) = true := decide_eq_true (by omega)
      have w_0 : IntKind.i64.wrap ((i_0 : Int) + 1) = ((i_0 + 1 : Nat) : Int) := wI _ (by omega) (by omega)
      have kk0c : (esProp l_a0).drop (i_0 * 2) = eProp x_0 ++ esProp (l_a0.drop (i_0 + 1)) := drop_enc (fun _ => rfl) (hg_0)
      obtain ⟨v24, ev24, h_0⟩ := Option.bind_eq_some_iff.1 h_0
      try dsimp only at h_0
      have ff := And.intro @dr_0 (And.intro @w_0 (And.intro @g0_0 (And.intro @g1_0 (And.intro @g2_0 (And.intro @g3_0 (And.intro @kk0c p_impl_GoodProps_tf.down))))))
      try refine st_by ff ?_
      repeat' (first | exact trivial | refine And.intro sd ?_ | (refine aw_drawn (id := 4) ?_ [[], [0], [0, 1], [0, 1, 2], [0, 1, 2, 3], [0, 1, 2, 3, 4], [0, 1, 2, 3, 4, 5], [0, 1, 2, 3, 4, 5, 6], [0, 1, 2, 3, 4, 5, 6, 7], [0, 1, 2, 3, 4, 5, 6, 7, 8], [0, 1, 2, 3, 4, 5, 6, 7, 8, 9], [0, 1, 2, 3, 4, 5, 6, 7, 8, 9, 10], [0, 1, 2, 3, 4, 5, 6, 7, 8, 9, 10, 11], [0, 1, 2, 3, 4, 5, 6, 7, 8, 9, 10, 11, 12], [0, 1, 2, 3, 4, 5, 6, 7, 8, 9, 10, 11, 12, 13], [0, 1, 2, 3, 4, 5, 6, 7, 8, 9, 10, 11, 12, 13], [0, 1, 2, 3, 4, 5, 6, 7, 8, 9, 10, 11, 12, 13, 15], [0, 1, 2, 3, 4, 5, 6, 7, 8, 9, 10, 11, 12, 13, 14, 15, 16], [0, 1, 2, 3, 4, 5, 6, 7, 8, 9, 10, 11, 12, 13, 14, 15, 16, 17], [0, 1, 2, 3, 4, 5, 6, 7, 8, 9, 10, 11, 12, 13, 14, 15, 16, 17, 18], [0, 1, 2, 3, 4, 5, 6, 7, 8, 9, 10, 11, 12, 13], [0, 1, 2, 3, 4, 5, 6, 7, 8, 9, 10, 11, 12, 13, 20], [0, 1, 2, 3, 4, 5, 6, 7, 8, 9, 10, 11, 12, 13, 14, 15, 16, 17, 18, 19, 20, 21], [0, 1, 2, 3, 4, 5, 6, 7, 8, 9, 10, 11, 12, 13, 14, 15, 16, 17, 18, 19, 20, 21, 22], [0, 1, 2, 3, 4, 5, 6, 7, 8, 9, 10, 11, 12, 13, 14, 15, 16, 17, 18, 19, 20, 21, 22, 23]] 22 ?_ ?_; (· kernel_rfl); (· kernel_rfl); refine st_by ff ?_))
      first
      | (refine cq_call (p_impl_isPath_does x_0.Path v24 ev24) (hf_by ff) kr ⟨p_spec_GoodProps_sa ff trivial, ?_⟩; clear ff)
      | (refine cq_dcall (p_impl_isPath_does x_0.Path v24 ev24) (hf_by ff) kr ⟨p_spec_GoodProps_sa ff trivial, ?_⟩; clear ff)
      by_cases c25 : v24 = true
      case neg =>
       rw [if_neg c25] at h_0
       have dc25 := eq_false_of_ne_true c25
       cases h_0
       try dsimp only at h
       have ff := And.intro @dr_0 (And.intro @w_0 (And.intro @g0_0 (And.intro @g1_0 (And.intro @g2_0 (And.intro @g3_0 (And.intro @kk0c (And.intro @dc25 p_impl_GoodProps_tf.down)))))))
       try refine st_by ff ?_
       repeat' (first | exact trivial | refine And.intro sd ?_)
       cases h
       exact ret_q1 rfl (p_spec_GoodProps_rt ff trivial)
      rw [if_pos c25] at h_0
      have dc25 := c25
      obtain ⟨v26, ev26, h_0⟩ := Option.bind_eq_some_iff.1 h_0
      try dsimp only at h_0
      have ff := And.intro @dr_0 (And.intro @w_0 (And.intro @g0_0 (And.intro @g1_0 (And.intro @g2_0 (And.intro @g3_0 (And.intro @kk0c (And.intro @dc25 p_impl_GoodProps_tf.down)))))))
      try refine st_by ff ?_
      repeat' (first | exact trivial | refine And.intro sd ?_)
      first
      | (refine cq_call (p_impl_isPropValue_does x_0.Value v26 ev26) (hf_by ff) kr ⟨p_spec_GoodProps_sa ff trivial, ?_⟩; clear ff)
      | (refine cq_dcall (p_impl_isPropValue_does x_0.Value v26 ev26) (hf_by ff) kr ⟨p_spec_GoodProps_sa ff trivial, ?_⟩; clear ff)
      by_cases c27 : v26 = true
      case neg =>
       rw [if_neg c27] at h_0
       have dc27 := eq_false_of_ne_true c27
       cases h_0
       try dsimp only at h
       have ff := And.intro @dr_0 (And.intro @w_0 (And.intro @g0_0 (And.intro @g1_0 (And.intro @g2_0 (And.intro @g3_0 (And.intro @kk0c (And.intro @dc25 (And.intro @dc27 p_impl_GoodProps_tf.down))))))))
       try refine st_by ff ?_
       repeat' (first | exact trivial | refine And.intro sd ?_)
       cases h
       exact ret_q1 rfl (p_spec_GoodProps_rt ff trivial)
      rw [if_pos c27] at h_0
      have dc27 := c27
      by_cases c28 : (i_0 : Int) > 0
      case neg =>
       rw [if_neg c28] at h_0
       have dc28 := decide_eq_false c28
       have ff := And.intro @dr_0 (And.intro @w_0 (And.intro @g0_0 (And.intro @g1_0 (And.intro @g2_0 (And.intro @g3_0 (And.intro @kk0c (And.intro @dc25 (And.intro @dc27 (And.intro @dc28 p_impl_GoodProps_tf.down)))))))))
       try refine st_by ff ?_
       repeat' (first | exact trivial | refine And.intro sd ?_)
       refine Back.intro (i_0 + 1) ?_ ?_
       · clear ff; rw [hM_0]; show l_a0.length - (i_0 + 1) < l_a0.length - i_0; omega
       rw [hI_0]
       refine ⟨⟨by clear ff; show i_0 + 1 ≤ l_a0.length; omega, by show p_impl_GoodProps_l0 l_a0 (l_a0.drop (i_0 + 1)) (i_0 + 1) = some q_0; rw [hd_0]; exact h_0⟩, ?_⟩
       exact p_spec_GoodProps_pv ff trivial
      rw [if_pos c28] at h_0
      have dc28 := decide_eq_true c28
      obtain ⟨x29, ex29, h_0⟩ := Option.bind_eq_some_iff.1 h_0
      try dsimp only at h_0
      have f30a := idx_lo ex29
      have f30b := idx_hi ex29
      have f30c : (esProp l_a0).drop (((IntKind.i64.wrap ((i_0 : Int) - 1)).toNat) * 2) = eProp x29 ++ esProp (l_a0.drop ((IntKind.i64.wrap ((i_0 : Int) - 1)).toNat + 1)) := drop_enc (fun _ => rfl) (idx_get ex29)
      by_cases c31 : (Op.bytesLess x29.Path.toList x_0.Path.toList) = true
      case neg =>
       rw [if_neg c31] at h_0
       have dc31 := eq_false_of_ne_true c31
       cases h_0
       try dsimp only at h
       have ff := And.intro @dr_0 (And.intro @w_0 (And.intro @g0_0 (And.intro @g1_0 (And.intro @g2_0 (And.intro @g3_0 (And.intro @kk0c (And.intro @dc25 (And.intro @dc27 (And.intro @dc28 (And.intro @f30c (And.intro @dc31 p_impl_GoodProps_tf.down)))))))))))
       try refine st_by ff ?_
       repeat' (first | exact trivial | refine And.intro sd ?_)
       cases h
       exact ret_q1 rfl (p_spec_GoodProps_rt ff trivial)
      rw [if_pos c31] at h_0
      have dc31 := c31
      have ff := And.intro @dr_0 (And.intro @w_0 (And.intro @g0_0 (And.intro @g1_0 (And.intro @g2_0 (And.intro @g3_0 (And.intro @kk0c (And.intro @dc25 (And.intro @dc27 (And.intro @dc28 (And.intro @f30c (And.intro @dc31 p_impl_GoodProps_tf.down)))))))))))
      try refine st_by ff ?_
      repeat' (first | exact trivial | refine And.intro sd ?_)
      refine Back.intro (i_0 + 1) ?_ ?_
      · clear ff; rw [hM_0]; show l_a0.length - (i_0 + 1) < l_a0.length - i_0; omega
      rw [hI_0]
      refine ⟨⟨by clear ff; show i_0 + 1 ≤ l_a0.length; omega, by show p_impl_GoodProps_l0 l_a0 (l_a0.drop (i_0 + 1)) (i_0 + 1) = some q_0; rw [hd_0]; exact h_0⟩, ?_⟩
      exact p_spec_GoodProps_pv ff trivial
  · try clear ff
    rintro σ hg_0
    rw [hJ_0] at hg_0
    obtain ⟨hj_0, g0_0a⟩ := hg_0
    cases hj_0
    try dsimp only at h
    have ff := And.intro @g0_0a p_impl_GoodProps_tf.down
    try refine st_by ff ?_
    repeat' (first | exact trivial | refine And.intro sd ?_)
    cases h
    exact ret_q1 rfl (p_spec_GoodProps_rt ff trivial)
end Go.Av
end
section
set_option linter.unusedSimpArgs false
set_option linter.unusedVariables false
set_option maxRecDepth 100000
set_option maxHeartbeats 1000000
namespace Go.Av
open Go.Proofs
/-! spec.l26Prefab -/
def p_spec_l26Prefab_l0 (name_a1 : ByteArray) : List GPrefab → Nat → Option (LR (Int) (Unit))
  | [], i_0 => some (.out ())
  | x_0 :: r_0, i_0 => (if x_0.Name = name_a1 then some (.ret (i_0 : Int)) else p_spec_l26Prefab_l0 name_a1 r_0 (i_0 + 1))
def p_spec_l26Prefab_tf := PLift.up (And.intro @ePrefab_eq (And.intro @esPrefab_len (And.intro @esPrefab_nil (And.intro @esPrefab_leaf (And.intro @esPrefab_fit (And.intro @ePrefabo_eq (And.intro @esPrefabo_len (And.intro @esPrefabo_nil (And.intro @eProp_eq (And.intro @esProp_len (And.intro @esProp_nil (And.intro @esProp_leaf (And.intro @esProp_fit (And.intro @esPrefabo_share (And.intro @esPrefabo_pure (And.intro @esProp_share (And.intro @esProp_pure (And.intro @str_beq (And.intro @Ty.sl27 (And.intro @Ty.slz27 (And.intro @Ty.nz54 (And.intro @Ty.ldA54 (And.intro @Ty.sz54 (And.intro @Ty.szn54 (And.intro @Ty.nz9 (And.intro @Ty.ldA9 (And.intro @Ty.ldS9 (And.intro @Ty.sz9 (And.intro @Ty.szn9 (And.intro @Ty.fo54_0 (And.intro @Ty.fk54_0 (And.intro @Ty.fs54_0 (And.intro @Ty.fn54_0 (And.intro @Ty.zv54 @trivial))))))))))))))))))))))))))))))))))
def p_spec_l26Prefab (l_a0 : List GPrefab) (name_a1 : ByteArray) : Option (Int) := ((p_spec_l26Prefab_l0 name_a1 l_a0 0).bind fun q_0 => match q_0 with | .ret r_ => some r_ | .out _ => some (-1))
/-! spec.GoodPrefabs -/
def p_spec_GoodPrefabs_j0 (N : Nat) (l_a0 : List GPrefab) (x_0 : GPrefab) (i_0 : Nat) (rec_0 : Nat → (List Int) → Option (LR (Bool) ((List Int)))) (deep_63 : List Int) : Option (LR (Bool) ((List Int))) := (if x_0.Name.size ≤ 9223372036854775807 then (if (goodName x_0.Name) = true then ((slc l_a0 0 (i_0 : Int)).bind fun m66 => ((p_spec_l26Prefab m66 x_0.Name).bind fun v68 => (if v68 ≥ 0 then some (.ret false) else ((idx deep_63 (i_0 : Int)).bind fun x70 => (if x70 > 5 then some (.ret false) else ((p_spec_GoodProps N x_0.Props).bind fun v73 => (if v73 = true then rec_0 (i_0 + 1) deep_63 else some (.ret false)))))))) else some (.ret false)) else none)
def p_spec_GoodPrefabs_l0 (N : Nat) (l_a0 : List GPrefab) : List GPrefab → Nat → (List Int) → Option (LR (Bool) ((List Int)))
  | [], i_0, deep_32 => some (.out deep_32)
  | x_0 :: r_0, i_0, deep_32 => ((idx deep_32 (i_0 : Int)).bind fun x60 => (if x_0.From = (⟨#[]⟩ : ByteArray) then p_spec_GoodPrefabs_j0 N l_a0 x_0 i_0 (p_spec_GoodPrefabs_l0 N l_a0 r_0) (deep_32.set i_0 1) else ((slc l_a0 0 (i_0 : Int)).bind fun m76 => ((p_spec_l26Prefab m76 x_0.From).bind fun v78 => (if v78 < 0 then some (.ret false) else ((idx (deep_32.set i_0 1) v78).bind fun x80 => p_spec_GoodPrefabs_j0 N l_a0 x_0 i_0 (p_spec_GoodPrefabs_l0 N l_a0 r_0) ((deep_32.set i_0 1).set i_0 (IntKind.i64.wrap (x80 + 1)))))))))
def p_spec_GoodPrefabs_tf := PLift.up (And.intro @eInt_eq (And.intro @esInt_len (And.intro @esInt_nil (And.intro @esInt_leaf (And.intro @esInt_fit (And.intro @ePrefab_eq (And.intro @esPrefab_len (And.intro @esPrefab_nil (And.intro @esPrefab_leaf (And.intro @esPrefab_fit (And.intro @ePrefabo_eq (And.intro @esPrefabo_len (And.intro @esPrefabo_nil (And.intro @eProp_eq (And.intro @esProp_len (And.intro @esProp_nil (And.intro @esProp_leaf (And.intro @esProp_fit (And.intro @esInt_share (And.intro @esInt_pure (And.intro @esPrefabo_share (And.intro @esPrefabo_pure (And.intro @esProp_share (And.intro @esProp_pure (And.intro @str_beq (And.intro @Ty.sl27 (And.intro @Ty.slz27 (And.intro @Ty.sl78 (And.intro @Ty.slz78 (And.intro @Ty.nz54 (And.intro @Ty.ldA54 (And.intro @Ty.sz54 (And.intro @Ty.szn54 (And.intro @Ty.nz3 (And.intro @Ty.ldA3 (And.intro @Ty.ldS3 (And.intro @Ty.sz3 (And.intro @Ty.szn3 (And.intro @Ty.nz9 (And.intro @Ty.ldA9 (And.intro @Ty.ldS9 (And.intro @Ty.sz9 (And.intro @Ty.szn9 (And.intro @Ty.nz24 (And.intro @Ty.ldA24 (And.intro @Ty.ldS24 (And.intro @Ty.sz24 (And.intro @Ty.szn24 (And.intro @Ty.fo54_1 (And.intro @Ty.fk54_1 (And.intro @Ty.fs54_1 (And.intro @Ty.fn54_1 (And.intro @Ty.fo54_0 (And.intro @Ty.fk54_0 (And.intro @Ty.fs54_0 (And.intro @Ty.fn54_0 (And.intro @Ty.fo54_2 (And.intro @Ty.fk54_2 (And.intro @Ty.fs54_2 (And.intro @Ty.fn54_2 (And.intro @Ty.nze78 (And.intro @Ty.zok78 (And.intro @Ty.by78 (And.intro @Ty.zs78 (And.intro @Ty.nze27 (And.intro @Ty.zok27 (And.intro @Ty.by27 (And.intro @Ty.zs27 (And.intro @Ty.zv54 @trivial)))))))))))))))))))))))))))))))))))))))))))))))))))))))))))))))))))))
def p_spec_GoodPrefabs (N : Nat) (l_a0 : List GPrefab) : Option (Bool) := (if (l_a0.length : Int) > 40 then some false else ((mkl (l_a0.length : Int) (0 : Int)).bind fun m2 => ((p_spec_GoodPrefabs_l0 N l_a0 l_a0 0 m2).bind fun q_0 => match q_0 with | .ret r_ => some r_ | .out deep_32 => some true)))
/-! impl.prefabAt$1 -/
def p_impl_prefabAt_1_tf := PLift.up (And.intro @eStr_eq (And.intro @esStr_len (And.intro @esStr_nil (And.intro @esStr_leaf (And.intro @esStr_fit (And.intro @ePrefab_eq (And.intro @esPrefab_len (And.intro @esPrefab_nil (And.intro @esPrefab_leaf (And.intro @esPrefab_fit (And.intro @ePrefabo_eq (And.intro @esPrefabo_len (And.intro @esPrefabo_nil (And.intro @eProp_eq (And.intro @esProp_len (And.intro @esProp_nil (And.intro @esProp_leaf (And.intro @esProp_fit (And.intro @esStr_share (And.intro @esStr_pure (And.intro @esPrefabo_share (And.intro @esPrefabo_pure (And.intro @esProp_share (And.intro @esProp_pure (And.intro @str_beq (And.intro @Ty.nz9 (And.intro @Ty.ldA9 (And.intro @Ty.ldS9 (And.intro @Ty.sz9 (And.intro @Ty.szn9 (And.intro @Ty.fo54_0 (And.intro @Ty.fk54_0 (And.intro @Ty.fs54_0 (And.intro @Ty.fn54_0 @trivial))))))))))))))))))))))))))))))))))
def p_impl_prefabAt_1 (p_a0 : GPrefab) (k0_ : ByteArray) : Option (Bool) := some (decide (p_a0.Name = k0_))
/-! slices.IndexFunc[[]impl.Prefab,impl.Prefab] -/
def p_slices_IndexFunc_impl_Prefab_impl_Prefab_l0 (f_a1 : GPrefab → Option Bool) : List GPrefab → Nat → Option (LR (Int) (Unit))
  | [], i_0 => some (.out ())
  | x_0 :: r_0, i_0 => ((f_a1 x_0).bind fun v12 => (if v12 = true then some (.ret (i_0 : Int)) else p_slices_IndexFunc_impl_Prefab_impl_Prefab_l0 f_a1 r_0 (i_0 + 1)))
def p_slices_IndexFunc_impl_Prefab_impl_Prefab_tf := PLift.up (And.intro @ePrefab_eq (And.intro @esPrefab_len (And.intro @esPrefab_nil (And.intro @esPrefab_leaf (And.intro @esPrefab_fit (And.intro @ePrefabo_eq (And.intro @esPrefabo_len (And.intro @esPrefabo_nil (And.intro @esPrefabo_share (And.intro @esPrefabo_pure (And.intro @str_beq (And.intro @Ty.sl27 (And.intro @Ty.slz27 (And.intro @Ty.nz54 (And.intro @Ty.ldA54 (And.intro @Ty.sz54 (And.intro @Ty.szn54 @trivial)))))))))))))))))
def p_slices_IndexFunc_impl_Prefab_impl_Prefab (s_a0 : List GPrefab) (f_a1 : GPrefab → Option Bool) : Option (Int) := ((p_slices_IndexFunc_impl_Prefab_impl_Prefab_l0 f_a1 s_a0 0).bind fun q_0 => match q_0 with | .ret r_ => some r_ | .out _ => some (-1))
/-! impl.prefabAt -/
def p_impl_prefabAt_tf := PLift.up (And.intro @ePrefab_eq (And.intro @esPrefab_len (And.intro @esPrefab_nil (And.intro @esPrefab_leaf (And.intro @esPrefab_fit (And.intro @ePrefabo_eq (And.intro @esPrefabo_len (And.intro @esPrefabo_nil (And.intro @esPrefabo_share (And.intro @esPrefabo_pure (And.intro @str_beq @trivial)))))))))))
def p_impl_prefabAt (l_a0 : List GPrefab) (name_a1 : ByteArray) : Option (Int) := ((p_slices_IndexFunc_impl_Prefab_impl_Prefab l_a0 (fun x0_ => p_impl_prefabAt_1 x0_ name_a1)).bind fun v1 => some v1)
/-! impl.GoodPrefabs -/
def p_impl_GoodPrefabs_j0 (l_a0 : List GPrefab) (nest_20 : List Int) (x_0 : GPrefab) (i_0 : Nat) (rec_0 : Nat → (List Int) → Option (LR (Bool) ((List Int)))) (depth_41 : Int) : Option (LR (Bool) ((List Int))) := (if nest_20.length < 4294967296 then (if x_0.Name.size ≤ 9223372036854775807 then (if (goodName x_0.Name) = true then ((p_impl_prefabAt l_a0 x_0.Name).bind fun v46 => (if v46 = (i_0 : Int) then (if depth_41 > 5 then some (.ret false) else ((p_impl_GoodProps x_0.Props).bind fun v49 => (if v49 = true then rec_0 (i_0 + 1) (nest_20 ++ [depth_41]) else some (.ret false)))) else some (.ret false))) else some (.ret false)) else none) else none)
def p_impl_GoodPrefabs_l0 (l_a0 : List GPrefab) : List GPrefab → Nat → (List Int) → Option (LR (Bool) ((List Int)))
  | [], i_0, nest_20 => some (.out nest_20)
  | x_0 :: r_0, i_0, nest_20 => (if x_0.From = (⟨#[]⟩ : ByteArray) then p_impl_GoodPrefabs_j0 l_a0 nest_20 x_0 i_0 (p_impl_GoodPrefabs_l0 l_a0 r_0) 1 else ((slc l_a0 0 (i_0 : Int)).bind fun m52 => ((p_impl_prefabAt m52 x_0.From).bind fun v54 => (if v54 < 0 then some (.ret false) else ((idx nest_20 v54).bind fun x56 => p_impl_GoodPrefabs_j0 l_a0 nest_20 x_0 i_0 (p_impl_GoodPrefabs_l0 l_a0 r_0) (IntKind.i64.wrap (x56 + 1)))))))
def p_impl_GoodPrefabs_tf := PLift.up (And.intro @eInt_eq (And.intro @esInt_len (And.intro @esInt_nil (And.intro @esInt_leaf (And.intro @esInt_fit (And.intro @ePrefab_eq (And.intro @esPrefab_len (And.intro @esPrefab_nil (And.intro @esPrefab_leaf (And.intro @esPrefab_fit (And.intro @ePrefabo_eq (And.intro @esPrefabo_len (And.intro @esPrefabo_nil (And.intro @eProp_eq (And.intro @esProp_len (And.intro @esProp_nil (And.intro @esProp_leaf (And.intro @esProp_fit (And.intro @esInt_share (And.intro @esInt_pure (And.intro @esPrefabo_share (And.intro @esPrefabo_pure (And.intro @esProp_share (And.intro @esProp_pure (And.intro @str_beq (And.intro @Ty.sl27 (And.intro @Ty.slz27 (And.intro @Ty.sl78 (And.intro @Ty.slz78 (And.intro @Ty.nz54 (And.intro @Ty.ldA54 (And.intro @Ty.sz54 (And.intro @Ty.szn54 (And.intro @Ty.nz9 (And.intro @Ty.ldA9 (And.intro @Ty.ldS9 (And.intro @Ty.sz9 (And.intro @Ty.szn9 (And.intro @Ty.nz3 (And.intro @Ty.ldA3 (And.intro @Ty.ldS3 (And.intro @Ty.sz3 (And.intro @Ty.szn3 (And.intro @Ty.nz24 (And.intro @Ty.ldA24 (And.intro @Ty.ldS24 (And.intro @Ty.sz24 (And.intro @Ty.szn24 (And.intro @Ty.fo54_1 (And.intro @Ty.fk54_1 (And.intro @Ty.fs54_1 (And.intro @Ty.fn54_1 (And.intro @Ty.fo54_0 (And.intro @Ty.fk54_0 (And.intro @Ty.fs54_0 (And.intro @Ty.fn54_0 (And.intro @Ty.fo54_2 (And.intro @Ty.fk54_2 (And.intro @Ty.fs54_2 (And.intro @Ty.fn54_2 (And.intro @Ty.nze78 (And.intro @Ty.zok78 (And.intro @Ty.by78 (And.intro @Ty.zs78 (And.intro @Ty.nze27 (And.intro @Ty.zok27 (And.intro @Ty.by27 (And.intro @Ty.zs27 (And.intro @Ty.zv54 @trivial)))))))))))))))))))))))))))))))))))))))))))))))))))))))))))))))))))))
def p_impl_GoodPrefabs (l_a0 : List GPrefab) : Option (Bool) := ((p_impl_GoodPrefabs_l0 l_a0 l_a0 0 ([] : List Int)).bind fun q_0 => match q_0 with | .ret r_ => some r_ | .out nest_20 => some (decide ((l_a0.length : Int) ≤ 40)))
end Go.Av
end
section
set_option linter.unusedSimpArgs false
set_option linter.unusedVariables false
set_option maxRecDepth 100000
set_option maxHeartbeats 1000000
namespace Go.Av
open Go.Proofs
end Go.Av
end
section
set_option linter.unusedSimpArgs false
set_option linter.unusedVariables false
set_option maxRecDepth 100000
set_option maxHeartbeats 1000000
namespace Go.Av
open Go.Proofs
end Go.Av
end
section
set_option linter.unusedSimpArgs false
set_option linter.unusedVariables false
set_option maxRecDepth 100000
set_option maxHeartbeats 1000000
namespace Go.Av
open Go.Proofs
/-! spec.l26Lay -/
def p_spec_l26Lay_j1 (path_a1 : ByteArray) (x_0 : GProp) (i_0 : Nat) (rec_0 : Nat → Bool → (List GProp) → Option (Bool × (List GProp))) (put_29 : Bool) (out_30 : List GProp) : Option (Bool × (List GProp)) := (if x_0.Path = path_a1 then rec_0 (i_0 + 1) put_29 out_30 else (if out_30.length < 4294967296 then rec_0 (i_0 + 1) put_29 (out_30 ++ [x_0]) else none))
def p_spec_l26Lay_j0 (path_a1 : ByteArray) (value_a2 : ByteArray) (put_12 : Bool) (out_14 : List GProp) (x_0 : GProp) (i_0 : Nat) (rec_0 : Nat → Bool → (List GProp) → Option (Bool × (List GProp))) (b_28 : Bool) : Option (Bool × (List GProp)) := (if b_28 = true then (if out_14.length < 4294967296 then p_spec_l26Lay_j1 path_a1 x_0 i_0 (rec_0) true (out_14 ++ [(⟨path_a1, value_a2⟩ : GProp)]) else none) else p_spec_l26Lay_j1 path_a1 x_0 i_0 (rec_0) put_12 out_14)
def p_spec_l26Lay_l0 (path_a1 : ByteArray) (value_a2 : ByteArray) : List GProp → Nat → Bool → (List GProp) → Option (Bool × (List GProp))
  | [], i_0, put_12, out_14 => some (put_12, out_14)
  | x_0 :: r_0, i_0, put_12, out_14 => (if put_12 = true then p_spec_l26Lay_j0 path_a1 value_a2 put_12 out_14 x_0 i_0 (p_spec_l26Lay_l0 path_a1 value_a2 r_0) false else p_spec_l26Lay_j0 path_a1 value_a2 put_12 out_14 x_0 i_0 (p_spec_l26Lay_l0 path_a1 value_a2 r_0) (!(Op.bytesLess x_0.Path.toList path_a1.toList)))
def p_spec_l26Lay_tf := PLift.up (ai @eProp_eq (ai @esProp_len (ai @esProp_nil (ai @esProp_leaf (ai @esProp_fit (ai @esProp_share (ai @esProp_pure (ai @str_beq (ai @Ty.sl24 (ai @Ty.slz24 (ai @Ty.nz59 (ai @Ty.ldA59 (ai @Ty.sz59 (ai @Ty.szn59 (ai @Ty.nz9 (ai @Ty.ldA9 (ai @Ty.ldS9 (ai @Ty.sz9 (ai @Ty.szn9 (ai @Ty.fo59_0 (ai @Ty.fk59_0 (ai @Ty.fs59_0 (ai @Ty.fn59_0 (ai @Ty.nze24 (ai @Ty.zok24 (ai @Ty.by24 (ai @Ty.zs24 (ai @Ty.zv59 (ai @Ty.bd59 (ai @Ty.pl59_0 (ai @Ty.pl59_1 @trivial)))))))))))))))))))))))))))))))
def p_spec_l26Lay (l_a0 : List GProp) (path_a1 : ByteArray) (value_a2 : ByteArray) (has_a3 : Bool) : Option (List GProp) := ((p_spec_l26Lay_l0 path_a1 value_a2 l_a0 0 (!has_a3) ([] : List GProp)).bind fun q_0 => match q_0 with | (put_12, out_14) => (if put_12 = true then some out_14 else (if out_14.length < 4294967296 then some (out_14 ++ [(⟨path_a1, value_a2⟩ : GProp)]) else none)))
/-! spec.l26Props -/
def p_spec_l26Props_l0 : List GProp → Nat → (List GProp) → Option ((List GProp))
  | [], i_0, out_11 => some out_11
  | x_0 :: r_0, i_0, out_11 => ((p_spec_l26Lay out_11 x_0.Path x_0.Value true).bind fun v16 => p_spec_l26Props_l0 r_0 (i_0 + 1) v16)
def p_spec_l26Props_j0 (x2 : GPrefab) (out_4 : List GProp) : Option (List GProp) := (if x2.Props.length ≤ 9223372036854775807 then ((p_spec_l26Props_l0 x2.Props 0 out_4).bind fun q_0 => match q_0 with | out_11 => some out_11) else none)
def p_spec_l26Props_tf := PLift.up (ai @ePrefab_eq (ai @esPrefab_len (ai @esPrefab_nil (ai @esPrefab_leaf (ai @esPrefab_fit (ai @ePrefabo_eq (ai @esPrefabo_len (ai @esPrefabo_nil (ai @eProp_eq (ai @esProp_len (ai @esProp_nil (ai @esProp_leaf (ai @esProp_fit (ai @esPrefabo_share (ai @esPrefabo_pure (ai @esProp_share (ai @esProp_pure (ai @str_beq (ai @Ty.sl27 (ai @Ty.slz27 (ai @Ty.sl24 (ai @Ty.slz24 (ai @Ty.nz54 (ai @Ty.ldA54 (ai @Ty.sz54 (ai @Ty.szn54 (ai @Ty.nz9 (ai @Ty.ldA9 (ai @Ty.ldS9 (ai @Ty.sz9 (ai @Ty.szn9 (ai @Ty.nz24 (ai @Ty.ldA24 (ai @Ty.ldS24 (ai @Ty.sz24 (ai @Ty.szn24 (ai @Ty.nz59 (ai @Ty.ldA59 (ai @Ty.sz59 (ai @Ty.szn59 (ai @Ty.fo54_1 (ai @Ty.fk54_1 (ai @Ty.fs54_1 (ai @Ty.fn54_1 (ai @Ty.fo54_2 (ai @Ty.fk54_2 (ai @Ty.fs54_2 (ai @Ty.fn54_2 (ai @Ty.fo59_0 (ai @Ty.fk59_0 (ai @Ty.fs59_0 (ai @Ty.fn59_0 (ai @Ty.fo59_1 (ai @Ty.fk59_1 (ai @Ty.fs59_1 (ai @Ty.fn59_1 (ai @Ty.zv54 (ai @Ty.zv59 @trivial))))))))))))))))))))))))))))))))))))))))))))))))))))))))))
def p_spec_l26Props (N : Nat) (l_a0 : List GPrefab) (name_a1 : ByteArray) : Option (List GProp) := match N with
  | 0 => none
  | N + 1 => ((p_spec_l26Prefab l_a0 name_a1).bind fun v1 => ((idx l_a0 v1).bind fun x2 => (if x2.From = (⟨#[]⟩ : ByteArray) then p_spec_l26Props_j0 x2 ([] : List GProp) else ((p_spec_l26Props N l_a0 x2.From).bind fun v18 => p_spec_l26Props_j0 x2 v18))))
/-! spec.PropsOf -/
def p_spec_PropsOf_j0 (N : Nat) (l_a0 : List GPrefab) (name_a1 : ByteArray) (b_2 : Bool) : Option (List GProp × Bool) := (if b_2 = true then some (([] : List GProp), false) else ((p_spec_l26Props N l_a0 name_a1).bind fun v4 => (if (v4.length : Int) > 40 then some (([] : List GProp), false) else some (v4, true))))
def p_spec_PropsOf_tf := PLift.up (ai @ePrefab_eq (ai @esPrefab_len (ai @esPrefab_nil (ai @esPrefab_leaf (ai @esPrefab_fit (ai @ePrefabo_eq (ai @esPrefabo_len (ai @esPrefabo_nil (ai @eProp_eq (ai @esProp_len (ai @esProp_nil (ai @esProp_leaf (ai @esProp_fit (ai @esPrefabo_share (ai @esPrefabo_pure (ai @esProp_share (ai @esProp_pure (ai @str_beq (ai @Ty.sl24 (ai @Ty.slz24 @trivial))))))))))))))))))))
def p_spec_PropsOf (N : Nat) (l_a0 : List GPrefab) (name_a1 : ByteArray) : Option (List GProp × Bool) := ((p_spec_GoodPrefabs N l_a0).bind fun v1 => (if v1 = true then ((p_spec_l26Prefab l_a0 name_a1).bind fun v7 => p_spec_PropsOf_j0 N l_a0 name_a1 (decide (v7 < 0))) else p_spec_PropsOf_j0 N l_a0 name_a1 true))
/-! slices.Clone[[]impl.Prop,impl.Prop] -/
def p_slices_Clone_impl_Prop_impl_Prop_tf := PLift.up (ai @eProp_eq (ai @esProp_len (ai @esProp_nil (ai @esProp_leaf (ai @esProp_fit (ai @esProp_share (ai @esProp_pure (ai @Ty.nze24 (ai @Ty.sl24 (ai @Ty.slz24 (ai @Ty.zok24 (ai @Ty.by24 (ai @Ty.zs24 @trivial)))))))))))))
def p_slices_Clone_impl_Prop_impl_Prop (l : List GProp) : Option (List GProp) := if l.length < 4294967296 then some l else none
/-! slices.BinarySearchFunc[[]impl.Prop,impl.Prop,string] -/
def p_slices_BinarySearchFunc_impl_Prop_impl_Prop_string_l0 (x_a0 : List GProp) (target_a1 : ByteArray) (cmp_a2 : GProp → ByteArray → Option Int) : Nat → Int → Int → Option (Int × Int)
  | 0, _, _ => none
  | n_0 + 1, i_6, j_7 => (if i_6 < j_7 then ((idx x_a0 (IntKind.i64.wrap (Int.fdiv (IntKind.u64.wrap (IntKind.i64.wrap (i_6 + j_7))) (2 ^ (min (1 : Int).toNat IntKind.u64.bits))))).bind fun x14 => ((cmp_a2 x14 target_a1).bind fun v16 => (if v16 < 0 then p_slices_BinarySearchFunc_impl_Prop_impl_Prop_string_l0 x_a0 target_a1 cmp_a2 n_0 (IntKind.i64.wrap ((IntKind.i64.wrap (Int.fdiv (IntKind.u64.wrap (IntKind.i64.wrap (i_6 + j_7))) (2 ^ (min (1 : Int).toNat IntKind.u64.bits)))) + 1)) j_7 else p_slices_BinarySearchFunc_impl_Prop_impl_Prop_string_l0 x_a0 target_a1 cmp_a2 n_0 i_6 (IntKind.i64.wrap (Int.fdiv (IntKind.u64.wrap (IntKind.i64.wrap (i_6 + j_7))) (2 ^ (min (1 : Int).toNat IntKind.u64.bits))))))) else some (i_6, j_7))
theorem p_slices_BinarySearchFunc_impl_Prop_impl_Prop_string_pv {F C A : Prop} (hF : F) (hC : C) (h : F → C → A := by intro hF hC; first | exact cl_by hF | (refine st_by hF ?_; (repeat' (first | exact trivial | apply And.intro)); all_goals (clear hF; first | rfl | (simp only [hC, List.length_append, List.length_cons, List.length_nil, List.append_nil, List.nil_append, List.cons_append, List.length_set, List.append_assoc, Nat.zero_add, List.length_replicate, esProp_app, esProp_cons, esProp_nil, eProp_eq]; done) | (simp [hC, List.length_append, List.length_cons, List.length_nil, List.append_nil, List.nil_append, List.cons_append, List.length_set, List.append_assoc, Nat.zero_add, List.length_replicate, esProp_app, esProp_cons, esProp_nil, eProp_eq]; done) | omega))) : A := h hF hC
theorem p_slices_BinarySearchFunc_impl_Prop_impl_Prop_string_sa {F C A : Prop} (hF : F) (hC : C) (h : F → C → A := by intro hF hC; first | exact ca_by hF | (refine sa_by hF ?_; (repeat' (first | exact trivial | apply And.intro)); all_goals (clear hF; first | rfl | (simp only [hC, List.length_append, List.length_cons, List.length_nil, List.append_nil, List.nil_append, List.cons_append, List.length_set, List.append_assoc, Nat.zero_add, List.length_replicate, esProp_app, esProp_cons, esProp_nil, eProp_eq]; done) | (simp [hC, List.length_append, List.length_cons, List.length_nil, List.append_nil, List.nil_append, List.cons_append, List.length_set, List.append_assoc, Nat.zero_add, List.length_replicate, esProp_app, esProp_cons, esProp_nil, eProp_eq]; done) | omega))) : A := h hF hC
theorem p_slices_BinarySearchFunc_impl_Prop_impl_Prop_string_rt {F C A : Prop} (hF : F) (hC : C) (h : F → C → A := by intro hF hC; first | (refine sr_by hF ?_; (repeat' (first | exact trivial | apply And.intro)); all_goals (clear hF; first | rfl | (simp only [hC, List.length_append, List.length_cons, List.length_nil, List.append_nil, List.nil_append, List.cons_append, List.length_set, List.append_assoc, Nat.zero_add, List.length_replicate, esProp_app, esProp_cons, esProp_nil, eProp_eq]; done) | (simp [hC, List.length_append, List.length_cons, List.length_nil, List.append_nil, List.nil_append, List.cons_append, List.length_set, List.append_assoc, Nat.zero_add, List.length_replicate, esProp_app, esProp_cons, esProp_nil, eProp_eq]; done) | omega)) | (first | rfl | (simp only [hC, List.length_append, List.length_cons, List.length_nil, List.append_nil, List.nil_append, List.cons_append, List.length_set, List.append_assoc, Nat.zero_add, List.length_replicate, esProp_app, esProp_cons, esProp_nil, eProp_eq]; done) | (simp [hC, List.length_append, List.length_cons, List.length_nil, List.append_nil, List.nil_append, List.cons_append, List.length_set, List.append_assoc, Nat.zero_add, List.length_replicate, esProp_app, esProp_cons, esProp_nil, eProp_eq]; done) | omega)) : A := h hF hC
def p_slices_BinarySearchFunc_impl_Prop_impl_Prop_string_tf := PLift.up (ai @eProp_eq (ai @esProp_len (ai @esProp_nil (ai @esProp_leaf (ai @esProp_fit (ai @esProp_share (ai @esProp_pure (ai @str_beq (ai @Ty.sl24 (ai @Ty.slz24 (ai @Ty.nz59 (ai @Ty.ldA59 (ai @Ty.sz59 (ai @Ty.szn59 (ai @Ty.int3 (ai @Ty.int90 @trivial))))))))))))))))
def p_slices_BinarySearchFunc_impl_Prop_impl_Prop_string (N : Nat) (x_a0 : List GProp) (target_a1 : ByteArray) (cmp_a2 : GProp → ByteArray → Option Int) : Option (Int × Bool) := ((p_slices_BinarySearchFunc_impl_Prop_impl_Prop_string_l0 x_a0 target_a1 cmp_a2 N 0 (x_a0.length : Int)).bind fun q_0 => match q_0 with | (i_6, j_7) => (if i_6 < (x_a0.length : Int) then ((idx x_a0 i_6).bind fun x19 => ((cmp_a2 x19 target_a1).bind fun v21 => some (i_6, (v21 == 0)))) else some (i_6, false)))
theorem p_slices_BinarySearchFunc_impl_Prop_impl_Prop_string_does (N : Nat) (x_a0 : List GProp) (target_a1 : ByteArray) (f2 : FuncId) (caps2 : List AV) (hc2 : AV.noRefs caps2 = true) (he2 : entB Tryd.prog f2 = true) (cmp_a2 : GProp → ByteArray → Option Int) (hp2 : ∀ (x0_ : GProp) (x1_ : ByteArray) (y_ : Int), cmp_a2 x0_ x1_ = some y_ → Does Tryd.prog f2 ([.agg (eProp x0_), S x1_] ++ caps2) (I y_)) (r : Int × Bool) (h : p_slices_BinarySearchFunc_impl_Prop_impl_Prop_string N x_a0 target_a1 cmp_a2 = some r) : Does Tryd.prog 76 [.row false 2 x_a0.length (esProp x_a0), S target_a1, .fn f2 caps2] (.tup [I r.1, B r.2]) := by
  rw [p_slices_BinarySearchFunc_impl_Prop_impl_Prop_string] at h
  refine Does.bnd (fun hb => ?_)
  have hb2 : x_a0.length ≤ 9223372036854775807 := by simpa [AV.fitNs, AV.fitN] using hb
  have hl0 := hb2
  refine Does.walk (nt := 49) Tryd.func76 rfl rfl (by simp) (by decide) (by simp [AV.noRefs, AV.noRef, hc2]) (fun G0 X w0 pv => ?_)
  obtain ⟨q_0, eq_0, h⟩ := Option.bind_eq_some_iff.1 h
  have ff := ai @hc2 p_slices_BinarySearchFunc_impl_Prop_impl_Prop_string_tf.down
  try refine st_by ff ?_
  repeat' (first | exact trivial | refine And.intro sd ?_)
  obtain ⟨I_0, hI_0⟩ : ∃ I_ : (Nat × Int × Int) → ASt → Prop, I_ = (fun (a : Nat × Int × Int) σ => match a with | (n_0, i_6, j_7) => (p_slices_BinarySearchFunc_impl_Prop_impl_Prop_string_l0 x_a0 target_a1 cmp_a2 n_0 i_6 j_7 = some q_0) ∧ σ.t 0 = .row false 2 x_a0.length (esProp x_a0) ∧ σ.t 1 = S target_a1 ∧ σ.t 2 = .fn f2 caps2 ∧ σ.t 8 = I (x_a0.length : Int) ∧ σ.t 9 = I i_6 ∧ σ.t 10 = I j_7) := ⟨_, rfl⟩
  obtain ⟨M_0, hM_0⟩ : ∃ M_ : (Nat × Int × Int) → Nat, M_ = (fun (a : Nat × Int × Int) => match a with | (n_0, i_6, j_7) => n_0) := ⟨_, rfl⟩
  obtain ⟨J_0, hJ_0⟩ : ∃ J_ : ASt → Prop, J_ = (fun σ => ∃ i_6 : Int, ∃ j_7 : Int, (some (i_6, j_7) = some q_0) ∧ σ.t 0 = .row false 2 x_a0.length (esProp x_a0) ∧ σ.t 1 = S target_a1 ∧ σ.t 2 = .fn f2 caps2 ∧ σ.t 8 = I (x_a0.length : Int) ∧ σ.t 9 = I i_6) := ⟨_, rfl⟩
  refine aw_loopC (id := 0) I_0 M_0 J_0 (N, 0, (x_a0.length : Int)) ?_ ?_ ?_
  · rw [hI_0]
    refine ⟨eq_0, ?_⟩
    exact p_slices_BinarySearchFunc_impl_Prop_impl_Prop_string_pv ff trivial
  · try clear ff
    rintro ⟨n_0, i_6, j_7⟩ σ hg_0
    rw [hI_0] at hg_0
    obtain ⟨h_0, g0_0, g1_0, g2_0, g3_0, g4_0, g5_0⟩ := hg_0
    cases n_0 with
    | zero => rw [p_slices_BinarySearchFunc_impl_Prop_impl_Prop_string_l0] at h_0; cases h_0
    | succ n_0 =>
      rw [p_slices_BinarySearchFunc_impl_Prop_impl_Prop_string_l0] at h_0
      by_cases c13 : i_6 < j_7
      case neg =>
       rw [if_neg c13] at h_0
       have dc13 := decide_eq_false c13
       have ff := ai @hc2 (ai @g0_0 (ai @g1_0 (ai @g2_0 (ai @g3_0 (ai @g4_0 (ai @g5_0 (ai @dc13 p_slices_BinarySearchFunc_impl_Prop_impl_Prop_string_tf.down)))))))
       try refine st_by ff ?_
       repeat' (first | exact trivial | refine And.intro sd ?_)
       refine JW.intro ?_
       rw [hJ_0]
       refine ⟨i_6, j_7, h_0, ?_⟩
       exact p_slices_BinarySearchFunc_impl_Prop_impl_Prop_string_pv ff trivial
      rw [if_pos c13] at h_0
      have dc13 := decide_eq_true c13
      obtain ⟨x14, ex14, h_0⟩ := Option.bind_eq_some_iff.1 h_0
      try dsimp only at h_0
      have f15a := idx_lo ex14
      have f15b := idx_hi ex14
      have f15c : (esProp x_a0).drop (((IntKind.i64.wrap (Int.fdiv (IntKind.u64.wrap (IntKind.i64.wrap (i_6 + j_7))) (2 ^ (min (1 : Int).toNat IntKind.u64.bits)))).toNat) * 2) = eProp x14 ++ esProp (x_a0.drop ((IntKind.i64.wrap (Int.fdiv (IntKind.u64.wrap (IntKind.i64.wrap (i_6 + j_7))) (2 ^ (min (1 : Int).toNat IntKind.u64.bits)))).toNat + 1)) := drop_enc (fun _ => rfl) (idx_get ex14)
      obtain ⟨v16, ev16, h_0⟩ := Option.bind_eq_some_iff.1 h_0
      try dsimp only at h_0
      have ff := ai @hc2 (ai @g0_0 (ai @g1_0 (ai @g2_0 (ai @g3_0 (ai @g4_0 (ai @g5_0 (ai @dc13 (ai @f15c p_slices_BinarySearchFunc_impl_Prop_impl_Prop_string_tf.down))))))))
      try refine st_by ff ?_
      repeat' (first | exact trivial | refine And.intro sd ?_)
      first
      | (refine cq_call (hp2 x14 target_a1 v16 ev16) (hf_by ff) he2 ⟨p_slices_BinarySearchFunc_impl_Prop_impl_Prop_string_sa ff trivial, ?_⟩; clear ff)
      by_cases c17 : v16 < 0
      case neg =>
       rw [if_neg c17] at h_0
       have dc17 := decide_eq_false c17
       have ff := ai @hc2 (ai @g0_0 (ai @g1_0 (ai @g2_0 (ai @g3_0 (ai @g4_0 (ai @g5_0 (ai @dc13 (ai @f15c (ai @dc17 p_slices_BinarySearchFunc_impl_Prop_impl_Prop_string_tf.down)))))))))
       try refine st_by ff ?_
       repeat' (first | exact trivial | refine And.intro sd ?_)
       refine Back.intro (n_0, i_6, (IntKind.i64.wrap (Int.fdiv (IntKind.u64.wrap (IntKind.i64.wrap (i_6 + j_7))) (2 ^ (min (1 : Int).toNat IntKind.u64.bits))))) ?_ ?_
       · rw [hM_0]; exact Nat.lt_succ_self _
       rw [hI_0]
       refine ⟨h_0, ?_⟩
       exact p_slices_BinarySearchFunc_impl_Prop_impl_Prop_string_pv ff trivial
      rw [if_pos c17] at h_0
      have dc17 := decide_eq_true c17
      have ff := ai @hc2 (ai @g0_0 (ai @g1_0 (ai @g2_0 (ai @g3_0 (ai @g4_0 (ai @g5_0 (ai @dc13 (ai @f15c (ai @dc17 p_slices_BinarySearchFunc_impl_Prop_impl_Prop_string_tf.down)))))))))
      try refine st_by ff ?_
      repeat' (first | exact trivial | refine And.intro sd ?_)
      refine Back.intro (n_0, (IntKind.i64.wrap ((IntKind.i64.wrap (Int.fdiv (IntKind.u64.wrap (IntKind.i64.wrap (i_6 + j_7))) (2 ^ (min (1 : Int).toNat IntKind.u64.bits)))) + 1)), j_7) ?_ ?_
      · rw [hM_0]; exact Nat.lt_succ_self _
      rw [hI_0]
      refine ⟨h_0, ?_⟩
      exact p_slices_BinarySearchFunc_impl_Prop_impl_Prop_string_pv ff trivial
  · try clear ff
    rintro σ hg_0
    rw [hJ_0] at hg_0
    obtain ⟨i_6, j_7, hj_0, g0_0a, g1_0a, g2_0a, g3_0a, g4_0a⟩ := hg_0
    cases hj_0
    try dsimp only at h
    by_cases c18 : i_6 < (x_a0.length : Int)
    case neg =>
     rw [if_neg c18] at h
     have dc18 := decide_eq_false c18
     have ff := ai @hc2 (ai @g0_0a (ai @g1_0a (ai @g2_0a (ai @g3_0a (ai @g4_0a (ai @dc18 p_slices_BinarySearchFunc_impl_Prop_impl_Prop_string_tf.down))))))
     try refine st_by ff ?_
     repeat' (first | exact trivial | refine And.intro sd ?_)
     cases h
     exact ret_q2 rfl (p_slices_BinarySearchFunc_impl_Prop_impl_Prop_string_rt ff trivial)
    rw [if_pos c18] at h
    have dc18 := decide_eq_true c18
    obtain ⟨x19, ex19, h⟩ := Option.bind_eq_some_iff.1 h
    try dsimp only at h
    have f20a := idx_lo ex19
    have f20b := idx_hi ex19
    have f20c : (esProp x_a0).drop (i_6.toNat * 2) = eProp x19 ++ esProp (x_a0.drop (i_6.toNat + 1)) := drop_enc (fun _ => rfl) (idx_get ex19)
    obtain ⟨v21, ev21, h⟩ := Option.bind_eq_some_iff.1 h
    try dsimp only at h
    have ff := ai @hc2 (ai @g0_0a (ai @g1_0a (ai @g2_0a (ai @g3_0a (ai @g4_0a (ai @dc18 (ai @f20c p_slices_BinarySearchFunc_impl_Prop_impl_Prop_string_tf.down)))))))
    try refine st_by ff ?_
    repeat' (first | exact trivial | refine And.intro sd ?_)
    first
    | (refine cq_call (hp2 x19 target_a1 v21 ev21) (hf_by ff) he2 ⟨p_slices_BinarySearchFunc_impl_Prop_impl_Prop_string_sa ff trivial, ?_⟩; clear ff)
    have ff := ai @hc2 (ai @g0_0a (ai @g1_0a (ai @g2_0a (ai @g3_0a (ai @g4_0a (ai @dc18 (ai @f20c p_slices_BinarySearchFunc_impl_Prop_impl_Prop_string_tf.down)))))))
    try refine st_by ff ?_
    repeat' (first | exact trivial | refine And.intro sd ?_)
    cases h
    exact ret_q2 rfl (p_slices_BinarySearchFunc_impl_Prop_impl_Prop_string_rt ff trivial)
/-! internal/bytealg.CompareString -/
theorem p_internal_bytealg_CompareString_sa {F C A : Prop} (hF : F) (hC : C) (h : F → C → A := by intro hF hC; first | exact ca_by hF | (refine sa_by hF ?_; (repeat' (first | exact trivial | apply And.intro)); all_goals (clear hF; first | rfl | (simp only [hC, List.length_append, List.length_cons, List.length_nil, List.append_nil, List.nil_append, List.cons_append, List.length_set, List.append_assoc, Nat.zero_add, List.length_replicate]; done) | (simp [hC, List.length_append, List.length_cons, List.length_nil, List.append_nil, List.nil_append, List.cons_append, List.length_set, List.append_assoc, Nat.zero_add, List.length_replicate]; done) | omega))) : A := h hF hC
theorem p_internal_bytealg_CompareString_rt {F C A : Prop} (hF : F) (hC : C) (h : F → C → A := by intro hF hC; first | (refine sr_by hF ?_; (repeat' (first | exact trivial | apply And.intro)); all_goals (clear hF; first | rfl | (simp only [hC, List.length_append, List.length_cons, List.length_nil, List.append_nil, List.nil_append, List.cons_append, List.length_set, List.append_assoc, Nat.zero_add, List.length_replicate]; done) | (simp [hC, List.length_append, List.length_cons, List.length_nil, List.append_nil, List.nil_append, List.cons_append, List.length_set, List.append_assoc, Nat.zero_add, List.length_replicate]; done) | omega)) | (first | rfl | (simp only [hC, List.length_append, List.length_cons, List.length_nil, List.append_nil, List.nil_append, List.cons_append, List.length_set, List.append_assoc, Nat.zero_add, List.length_replicate]; done) | (simp [hC, List.length_append, List.length_cons, List.length_nil, List.append_nil, List.nil_append, List.cons_append, List.length_set, List.append_assoc, Nat.zero_add, List.length_replicate]; done) | omega)) : A := h hF hC
def p_internal_bytealg_CompareString_tf := PLift.up (ai @str_beq @trivial)
def p_internal_bytealg_CompareString (a_a0 : ByteArray) (b_a1 : ByteArray) : Option (Int) := some (cmpB a_a0 b_a1)
theorem p_internal_bytealg_CompareString_does (a_a0 : ByteArray) (b_a1 : ByteArray) (r : Int) (h : p_internal_bytealg_CompareString a_a0 b_a1 = some r) : Does Tryd.prog 94 [S a_a0, S b_a1] (I r) := by
  rw [p_internal_bytealg_CompareString] at h
  refine Does.walk (nt := 8) Tryd.func94 rfl rfl (by simp) (by decide) rfl (fun G0 X w0 pv => ?_)
  have ff := p_internal_bytealg_CompareString_tf.down
  try refine st_by ff ?_
  repeat' (first | exact trivial | refine And.intro sd ?_)
  (refine cq_ext (ext_cmp Tryd.func105 (by kernel_rfl) (by kernel_rfl) (by kernel_rfl) (by kernel_rfl) a_a0 b_a1) ⟨p_internal_bytealg_CompareString_sa ff trivial, ?_⟩; clear ff)
  have ff := p_internal_bytealg_CompareString_tf.down
  try refine st_by ff ?_
  repeat' (first | exact trivial | refine And.intro sd ?_)
  cases h
  exact ret_q1 rfl (p_internal_bytealg_CompareString_rt ff trivial)
/-! strings.Compare -/
def p_strings_Compare_tf := PLift.up (ai @str_beq @trivial)
def p_strings_Compare (a_a0 : ByteArray) (b_a1 : ByteArray) : Option (Int) := ((p_internal_bytealg_CompareString a_a0 b_a1).bind fun v1 => some v1)
theorem p_strings_Compare_does (a_a0 : ByteArray) (b_a1 : ByteArray) (r : Int) (h : p_strings_Compare a_a0 b_a1 = some r) : Does Tryd.prog 78 [S a_a0, S b_a1] (I r) := by
  rw [p_strings_Compare] at h
  refine Does.walk (nt := 8) Tryd.func78 rfl rfl (by simp) (by decide) rfl (fun G0 X w0 pv => ?_)
  obtain ⟨v1, ev1, h⟩ := Option.bind_eq_some_iff.1 h
  try dsimp only at h
  have ff := p_strings_Compare_tf.down
  try refine st_by ff ?_
  repeat' (first | exact trivial | refine And.intro sd ?_)
  first
  | (refine cq_call (p_internal_bytealg_CompareString_does a_a0 b_a1 v1 ev1) (hf_by ff) kr ⟨p_internal_bytealg_CompareString_sa ff trivial, ?_⟩; clear ff)
  have ff := p_strings_Compare_tf.down
  try refine st_by ff ?_
  repeat' (first | exact trivial | refine And.intro sd ?_)
  cases h
  exact ret_q1 rfl (p_internal_bytealg_CompareString_rt ff trivial)
/-! impl.propPlace$1 -/
def p_impl_propPlace_1_tf := PLift.up (ai @eProp_eq (ai @esProp_len (ai @esProp_nil (ai @esProp_leaf (ai @esProp_fit (ai @esProp_share (ai @esProp_pure (ai @str_beq (ai @Ty.nz9 (ai @Ty.ldA9 (ai @Ty.ldS9 (ai @Ty.sz9 (ai @Ty.szn9 (ai @Ty.fo59_0 (ai @Ty.fk59_0 (ai @Ty.fs59_0 (ai @Ty.fn59_0 @trivial)))))))))))))))))
def p_impl_propPlace_1 (p_a0 : GProp) (path_a1 : ByteArray) : Option (Int) := ((p_strings_Compare p_a0.Path path_a1).bind fun v1 => some v1)
theorem p_impl_propPlace_1_does (p_a0 : GProp) (path_a1 : ByteArray) (r : Int) (h : p_impl_propPlace_1 p_a0 path_a1 = some r) : Does Tryd.prog 77 [.agg (eProp p_a0), S path_a1] (I r) := by
  rw [p_impl_propPlace_1] at h
  refine Does.walk (nt := 9) Tryd.func77 rfl rfl (by simp) (by decide) rfl (fun G0 X w0 pv => ?_)
  obtain ⟨v1, ev1, h⟩ := Option.bind_eq_some_iff.1 h
  try dsimp only at h
  have ff := p_impl_propPlace_1_tf.down
  try refine st_by ff ?_
  repeat' (first | exact trivial | refine And.intro sd ?_)
  first
  | (refine cq_call (p_strings_Compare_does p_a0.Path path_a1 v1 ev1) (hf_by ff) kr ⟨p_slices_BinarySearchFunc_impl_Prop_impl_Prop_string_sa ff trivial, ?_⟩; clear ff)
  have ff := p_impl_propPlace_1_tf.down
  try refine st_by ff ?_
  repeat' (first | exact trivial | refine And.intro sd ?_)
  cases h
  exact ret_q1 rfl (p_slices_BinarySearchFunc_impl_Prop_impl_Prop_string_rt ff trivial)
/-! impl.propPlace -/
def p_impl_propPlace_tf := PLift.up (ai @eProp_eq (ai @esProp_len (ai @esProp_nil (ai @esProp_leaf (ai @esProp_fit (ai @esProp_share (ai @esProp_pure (ai @str_beq @trivial))))))))
def p_impl_propPlace (N : Nat) (l_a0 : List GProp) (path_a1 : ByteArray) : Option (Int × Bool) := ((p_slices_BinarySearchFunc_impl_Prop_impl_Prop_string N l_a0 path_a1 (fun x0_ x1_ => p_impl_propPlace_1 x0_ x1_)).bind fun v1 => some (v1.1, v1.2))
theorem p_impl_propPlace_does (N : Nat) (l_a0 : List GProp) (path_a1 : ByteArray) (r : Int × Bool) (h : p_impl_propPlace N l_a0 path_a1 = some r) : Does Tryd.prog 60 [.row false 2 l_a0.length (esProp l_a0), S path_a1] (.tup [I r.1, B r.2]) := by
  rw [p_impl_propPlace] at h
  refine Does.bnd (fun hb => ?_)
  have hb2 : l_a0.length ≤ 9223372036854775807 := by simpa [AV.fitNs, AV.fitN] using hb
  have hl0 := hb2
  refine Does.walk (nt := 11) Tryd.func60 rfl rfl (by simp) (by decide) rfl (fun G0 X w0 pv => ?_)
  obtain ⟨v1, ev1, h⟩ := Option.bind_eq_some_iff.1 h
  try dsimp only at h
  have ff := p_impl_propPlace_tf.down
  try refine st_by ff ?_
  repeat' (first | exact trivial | refine And.intro sd ?_)
  first
  | (refine cq_call (p_slices_BinarySearchFunc_impl_Prop_impl_Prop_string_does N l_a0 path_a1 77 [] (by simp [AV.noRefs, AV.noRef]) kr (fun x0_ x1_ => p_impl_propPlace_1 x0_ x1_) (fun x0_ x1_ y_ h_ => p_impl_propPlace_1_does x0_ x1_ y_ h_) v1 ev1) (hf_by ff) kr ⟨p_slices_BinarySearchFunc_impl_Prop_impl_Prop_string_sa ff trivial, ?_⟩; clear ff)
  have ff := p_impl_propPlace_tf.down
  try refine st_by ff ?_
  repeat' (first | exact trivial | refine And.intro sd ?_)
  cases h
  exact ret_q2 rfl (p_slices_BinarySearchFunc_impl_Prop_impl_Prop_string_rt ff trivial)
/-! impl.laid -/
def p_impl_laid_j0 (path_a1 : ByteArray) (value_a2 : ByteArray) (has_a3 : Bool) (v1 : List GProp) (v2 : Int × Bool) (b_3 : Bool) : Option (List GProp) := (if b_3 = true then ((idx v1 v2.1).bind fun x5 => some (v1.set v2.1.toNat (⟨x5.Path, value_a2⟩ : GProp))) else (if v2.2 = true then ((delL v1 v2.1 (IntKind.i64.wrap (v2.1 + 1))).bind fun v9 => some v9) else (if has_a3 = true then ((insL v1 v2.1 ([(⟨path_a1, value_a2⟩ : GProp)] : List GProp)).bind fun v11 => some v11) else some v1)))
def p_impl_laid_tf := PLift.up (ai @eProp_eq (ai @esProp_len (ai @esProp_nil (ai @esProp_leaf (ai @esProp_fit (ai @esProp_share (ai @esProp_pure (ai @str_beq (ai @Ty.sl24 (ai @Ty.slz24 (ai @Ty.nz9 (ai @Ty.ldA9 (ai @Ty.ldS9 (ai @Ty.sz9 (ai @Ty.szn9 (ai @Ty.fo59_1 (ai @Ty.fk59_1 (ai @Ty.fs59_1 (ai @Ty.fn59_1 (ai @Ty.nze24 (ai @Ty.zok24 (ai @Ty.by24 (ai @Ty.zs24 (ai @Ty.bd59 (ai @Ty.zv59 (ai @Ty.pl59_0 (ai @Ty.pl59_1 @trivial)))))))))))))))))))))))))))
def p_impl_laid (N : Nat) (l_a0 : List GProp) (path_a1 : ByteArray) (value_a2 : ByteArray) (has_a3 : Bool) : Option (List GProp) := ((p_slices_Clone_impl_Prop_impl_Prop l_a0).bind fun v1 => ((p_impl_propPlace N l_a0 path_a1).bind fun v2 => (if v2.2 = true then p_impl_laid_j0 path_a1 value_a2 has_a3 v1 v2 has_a3 else p_impl_laid_j0 path_a1 value_a2 has_a3 v1 v2 false)))
/-! impl.propsOf -/
def p_impl_propsOf_l0 (N : Nat)  : List GProp → Nat → (List GProp) → Option ((List GProp))
  | [], i_0, out_13 => some out_13
  | x_0 :: r_0, i_0, out_13 => ((p_impl_laid N out_13 x_0.Path x_0.Value true).bind fun v18 => p_impl_propsOf_l0 N r_0 (i_0 + 1) v18)
def p_impl_propsOf_tf := PLift.up (ai @ePrefab_eq (ai @esPrefab_len (ai @esPrefab_nil (ai @esPrefab_leaf (ai @esPrefab_fit (ai @ePrefabo_eq (ai @esPrefabo_len (ai @esPrefabo_nil (ai @eProp_eq (ai @esProp_len (ai @esProp_nil (ai @esProp_leaf (ai @esProp_fit (ai @esPrefabo_share (ai @esPrefabo_pure (ai @esProp_share (ai @esProp_pure (ai @str_beq (ai @Ty.sl27 (ai @Ty.slz27 (ai @Ty.sl24 (ai @Ty.slz24 (ai @Ty.nz9 (ai @Ty.ldA9 (ai @Ty.ldS9 (ai @Ty.sz9 (ai @Ty.szn9 (ai @Ty.nz24 (ai @Ty.ldA24 (ai @Ty.ldS24 (ai @Ty.sz24 (ai @Ty.szn24 (ai @Ty.nz59 (ai @Ty.ldA59 (ai @Ty.sz59 (ai @Ty.szn59 (ai @Ty.fo54_1 (ai @Ty.fk54_1 (ai @Ty.fs54_1 (ai @Ty.fn54_1 (ai @Ty.fo54_2 (ai @Ty.fk54_2 (ai @Ty.fs54_2 (ai @Ty.fn54_2 (ai @Ty.fo59_0 (ai @Ty.fk59_0 (ai @Ty.fs59_0 (ai @Ty.fn59_0 (ai @Ty.fo59_1 (ai @Ty.fk59_1 (ai @Ty.fs59_1 (ai @Ty.fn59_1 (ai @Ty.zv59 @trivial)))))))))))))))))))))))))))))))))))))))))))))))))))))
def p_impl_propsOf (N : Nat) (l_a0 : List GPrefab) (i_a1 : Int) : Option (List GProp × Bool) := match N with
  | 0 => none
  | N + 1 => ((idx l_a0 i_a1).bind fun x1 => (if x1.From = (⟨#[]⟩ : ByteArray) then ((p_slices_Clone_impl_Prop_impl_Prop x1.Props).bind fun v4 => some (v4, true)) else ((p_impl_prefabAt l_a0 x1.From).bind fun v5 => ((p_impl_propsOf N l_a0 v5).bind fun v6 => (if x1.Props.length ≤ 9223372036854775807 then ((p_impl_propsOf_l0 N x1.Props 0 v6.1).bind fun q_0 => match q_0 with | out_13 => (if v6.2 = true then some (out_13, decide ((out_13.length : Int) ≤ 40)) else some (out_13, false))) else none)))))
/-! impl.PropsOf -/
def p_impl_PropsOf_j0 (N : Nat) (l_a0 : List GPrefab) (v1 : Int) (b_3 : Bool) : Option (List GProp × Bool) := (if b_3 = true then some (([] : List GProp), false) else ((p_impl_propsOf N l_a0 v1).bind fun v5 => (if v5.2 = true then some (v5.1, true) else some (([] : List GProp), false))))
def p_impl_PropsOf_tf := PLift.up (ai @ePrefab_eq (ai @esPrefab_len (ai @esPrefab_nil (ai @esPrefab_leaf (ai @esPrefab_fit (ai @ePrefabo_eq (ai @esPrefabo_len (ai @esPrefabo_nil (ai @eProp_eq (ai @esProp_len (ai @esProp_nil (ai @esProp_leaf (ai @esProp_fit (ai @esPrefabo_share (ai @esPrefabo_pure (ai @esProp_share (ai @esProp_pure (ai @str_beq (ai @Ty.sl24 (ai @Ty.slz24 @trivial))))))))))))))))))))
def p_impl_PropsOf (N : Nat) (l_a0 : List GPrefab) (name_a1 : ByteArray) : Option (List GProp × Bool) := ((p_impl_prefabAt l_a0 name_a1).bind fun v1 => ((p_impl_GoodPrefabs l_a0).bind fun v2 => (if v2 = true then p_impl_PropsOf_j0 N l_a0 v1 (decide (v1 < 0)) else p_impl_PropsOf_j0 N l_a0 v1 true)))
end Go.Av
end
section
set_option linter.unusedSimpArgs false
set_option linter.unusedVariables false
set_option maxRecDepth 100000
set_option maxHeartbeats 1000000
namespace Go.Av
open Go.Proofs
/-! spec.l26Find -/
def p_spec_l26Find_l0 (path_a1 : ByteArray) : List GProp → Nat → Option (LR (ByteArray × Bool) (Unit))
  | [], i_0 => some (.out ())
  | x_0 :: r_0, i_0 => (if x_0.Path = path_a1 then some (.ret (x_0.Value, true)) else p_spec_l26Find_l0 path_a1 r_0 (i_0 + 1))
theorem p_spec_l26Find_pv {F C A : Prop} (hF : F) (hC : C) (h : F → C → A := by intro hF hC; first | exact cl_by hF | (refine st_by hF ?_; (repeat' (first | exact trivial | apply And.intro)); all_goals (clear hF; first | rfl | (simp only [hC, List.length_append, List.length_cons, List.length_nil, List.append_nil, List.nil_append, List.cons_append, List.length_set, List.append_assoc, Nat.zero_add, List.length_replicate, esProp_app, esProp_cons, esProp_nil, eProp_eq]; done) | (simp [hC, List.length_append, List.length_cons, List.length_nil, List.append_nil, List.nil_append, List.cons_append, List.length_set, List.append_assoc, Nat.zero_add, List.length_replicate, esProp_app, esProp_cons, esProp_nil, eProp_eq]; done) | omega))) : A := h hF hC
theorem p_spec_l26Find_rt {F C A : Prop} (hF : F) (hC : C) (h : F → C → A := by intro hF hC; first | (refine sr_by hF ?_; (repeat' (first | exact trivial | apply And.intro)); all_goals (clear hF; first | rfl | (simp only [hC, List.length_append, List.length_cons, List.length_nil, List.append_nil, List.nil_append, List.cons_append, List.length_set, List.append_assoc, Nat.zero_add, List.length_replicate, esProp_app, esProp_cons, esProp_nil, eProp_eq]; done) | (simp [hC, List.length_append, List.length_cons, List.length_nil, List.append_nil, List.nil_append, List.cons_append, List.length_set, List.append_assoc, Nat.zero_add, List.length_replicate, esProp_app, esProp_cons, esProp_nil, eProp_eq]; done) | omega)) | (first | rfl | (simp only [hC, List.length_append, List.length_cons, List.length_nil, List.append_nil, List.nil_append, List.cons_append, List.length_set, List.append_assoc, Nat.zero_add, List.length_replicate, esProp_app, esProp_cons, esProp_nil, eProp_eq]; done) | (simp [hC, List.length_append, List.length_cons, List.length_nil, List.append_nil, List.nil_append, List.cons_append, List.length_set, List.append_assoc, Nat.zero_add, List.length_replicate, esProp_app, esProp_cons, esProp_nil, eProp_eq]; done) | omega)) : A := h hF hC
def p_spec_l26Find_tf := PLift.up (ai @eProp_eq (ai @esProp_len (ai @esProp_nil (ai @esProp_leaf (ai @esProp_fit (ai @esProp_share (ai @esProp_pure (ai @str_beq (ai @Ty.sl24 (ai @Ty.slz24 (ai @Ty.nz59 (ai @Ty.ldA59 (ai @Ty.sz59 (ai @Ty.szn59 (ai @Ty.nz9 (ai @Ty.ldA9 (ai @Ty.ldS9 (ai @Ty.sz9 (ai @Ty.szn9 (ai @Ty.fo59_0 (ai @Ty.fk59_0 (ai @Ty.fs59_0 (ai @Ty.fn59_0 (ai @Ty.fo59_1 (ai @Ty.fk59_1 (ai @Ty.fs59_1 (ai @Ty.fn59_1 (ai @Ty.zv59 @trivial))))))))))))))))))))))))))))
def p_spec_l26Find (l_a0 : List GProp) (path_a1 : ByteArray) : Option (ByteArray × Bool) := ((p_spec_l26Find_l0 path_a1 l_a0 0).bind fun q_0 => match q_0 with | .ret r_ => some r_ | .out _ => some ((⟨#[]⟩ : ByteArray), false))
theorem p_spec_l26Find_does (l_a0 : List GProp) (path_a1 : ByteArray) (r : ByteArray × Bool) (h : p_spec_l26Find l_a0 path_a1 = some r) : Does Tryd.prog 37 [.row false 2 l_a0.length (esProp l_a0), S path_a1] (.tup [S r.1, B r.2]) := by
  rw [p_spec_l26Find] at h
  refine Does.bnd (fun hb => ?_)
  have hb2 : l_a0.length ≤ 9223372036854775807 := by simpa [AV.fitNs, AV.fitN] using hb
  have hl0 := hb2
  refine Does.walk (nt := 21) Tryd.func37 rfl rfl (by simp) (by decide) rfl (fun G0 X w0 pv => ?_)
  have hL_0 : l_a0.length ≤ 9223372036854775807 := by first | assumption | omega
  obtain ⟨q_0, eq_0, h⟩ := Option.bind_eq_some_iff.1 h
  have ff := p_spec_l26Find_tf.down
  try refine st_by ff ?_
  repeat' (first | exact trivial | refine And.intro sd ?_)
  obtain ⟨I_0, hI_0⟩ : ∃ I_ : (Nat) → ASt → Prop, I_ = (fun (i_0 : Nat) σ => (i_0 ≤ l_a0.length ∧ p_spec_l26Find_l0 path_a1 (l_a0.drop i_0) i_0 = some q_0) ∧ σ.t 1 = S path_a1 ∧ σ.t 8 = .row false 2 l_a0.length (esProp l_a0) ∧ σ.t 9 = I (l_a0.length : Int) ∧ σ.t 10 = I (i_0 : Int)) := ⟨_, rfl⟩
  obtain ⟨M_0, hM_0⟩ : ∃ M_ : (Nat) → Nat, M_ = (fun (i_0 : Nat) => l_a0.length - i_0) := ⟨_, rfl⟩
  obtain ⟨J_0, hJ_0⟩ : ∃ J_ : ASt → Prop, J_ = (fun σ => (some (.out ()) = some q_0) ∧ True) := ⟨_, rfl⟩
  refine aw_loopC (id := 0) I_0 M_0 J_0 (0) ?_ ?_ ?_
  · rw [hI_0]
    refine ⟨⟨Nat.zero_le _, eq_0⟩, ?_⟩
    exact p_spec_l26Find_pv ff trivial
  · try clear ff
    rintro i_0 σ hg_0
    rw [hI_0] at hg_0
    obtain ⟨⟨hi_0, h_0⟩, g0_0, g1_0, g2_0, g3_0⟩ := hg_0
    cases hr_0 : l_a0.drop i_0 with
    | nil =>
      rw [hr_0] at h_0
      rw [p_spec_l26Find_l0] at h_0
      have hn_0 := drop_nil hr_0
      have dr_0 : decide ((i_0 : Int) < (l_a0.length : Int)) = false := decide_eq_false (by omega)
      have ff := ai @dr_0 (ai @g0_0 (ai @g1_0 (ai @g2_0 (ai @g3_0 p_spec_l26Find_tf.down))))
      try refine st_by ff ?_
      repeat' (first | exact trivial | refine And.intro sd ?_)
      refine JW.intro ?_
      rw [hJ_0]
      refine ⟨h_0, ?_⟩
      exact p_spec_l26Find_pv ff trivial
    | cons x_0 r_0 =>
      rw [hr_0] at h_0
      rw [p_spec_l26Find_l0] at h_0
      obtain ⟨ht_0, hg_0, hd_0⟩ := drop_cons hr_0
      have dr_0 : decide ((i_0 : Int) < (l_a0.length : Int)) = true := decide_eq_true (by omega)
      have w_0 : IntKind.i64.wrap ((i_0 : Int) + 1) = ((i_0 + 1 : Nat) : Int) := wI _ (by omega) (by omega)
      have kk0c : (esProp l_a0).drop (i_0 * 2) = eProp x_0 ++ esProp (l_a0.drop (i_0 + 1)) := drop_enc (fun _ => rfl) (hg_0)
      by_cases c10 : x_0.Path = path_a1
      · rw [if_pos c10] at h_0
        have dc10 := decide_eq_true c10
        cases h_0
        try dsimp only at h
        have ff := ai @dr_0 (ai @w_0 (ai @g0_0 (ai @g1_0 (ai @g2_0 (ai @g3_0 (ai @kk0c (ai @dc10 p_spec_l26Find_tf.down)))))))
        try refine st_by ff ?_
        repeat' (first | exact trivial | refine And.intro sd ?_)
        cases h
        exact ret_q2 rfl (p_spec_l26Find_rt ff trivial)
      rw [if_neg c10] at h_0
      have dc10 := decide_eq_false c10
      have ff := ai @dr_0 (ai @w_0 (ai @g0_0 (ai @g1_0 (ai @g2_0 (ai @g3_0 (ai @kk0c (ai @dc10 p_spec_l26Find_tf.down)))))))
      try refine st_by ff ?_
      repeat' (first | exact trivial | refine And.intro sd ?_)
      refine Back.intro (i_0 + 1) ?_ ?_
      · clear ff; rw [hM_0]; show l_a0.length - (i_0 + 1) < l_a0.length - i_0; omega
      rw [hI_0]
      refine ⟨⟨by clear ff; show i_0 + 1 ≤ l_a0.length; omega, by show p_spec_l26Find_l0 path_a1 (l_a0.drop (i_0 + 1)) (i_0 + 1) = some q_0; rw [hd_0]; exact h_0⟩, ?_⟩
      exact p_spec_l26Find_pv ff trivial
  · try clear ff
    rintro σ hg_0
    rw [hJ_0] at hg_0
    obtain ⟨hj_0, _⟩ := hg_0
    cases hj_0
    try dsimp only at h
    have ff := p_spec_l26Find_tf.down
    try refine st_by ff ?_
    repeat' (first | exact trivial | refine And.intro sd ?_)
    cases h
    exact ret_q2 rfl (p_spec_l26Find_rt ff trivial)
/-! spec.OverridesOf -/
def p_spec_OverridesOf_l0 (want_a2 : List GProp) : List GProp → Nat → Option (LR (List GProp × Bool) (Unit))
  | [], i_0 => some (.out ())
  | x_0 :: r_0, i_0 => ((p_spec_l26Find want_a2 x_0.Path).bind fun v15 => (if v15.2 = true then p_spec_OverridesOf_l0 want_a2 r_0 (i_0 + 1) else some (.ret (([] : List GProp), false))))
def p_spec_OverridesOf_l1 (v1 : List GProp × Bool) : List GProp → Nat → (List GProp) → Option ((List GProp))
  | [], i_1, out_24 => some out_24
  | x_1 :: r_1, i_1, out_24 => ((p_spec_l26Find v1.1 x_1.Path).bind fun v35 => (if v35.2 = true then (if v35.1 = x_1.Value then p_spec_OverridesOf_l1 v1 r_1 (i_1 + 1) out_24 else (if out_24.length < 4294967296 then p_spec_OverridesOf_l1 v1 r_1 (i_1 + 1) (out_24 ++ [x_1]) else none)) else (if out_24.length < 4294967296 then p_spec_OverridesOf_l1 v1 r_1 (i_1 + 1) (out_24 ++ [x_1]) else none)))
def p_spec_OverridesOf_j0 (want_a2 : List GProp) (v1 : List GProp × Bool) (b_2 : Bool) : Option (List GProp × Bool) := (if b_2 = true then some (([] : List GProp), false) else ((p_spec_OverridesOf_l0 want_a2 v1.1 0).bind fun q_0 => match q_0 with | .ret r_ => some r_ | .out _ => ((p_spec_OverridesOf_l1 v1 want_a2 0 ([] : List GProp)).bind fun q_1 => match q_1 with | out_24 => some (out_24, true))))
def p_spec_OverridesOf_tf := PLift.up (ai @ePrefab_eq (ai @esPrefab_len (ai @esPrefab_nil (ai @esPrefab_leaf (ai @esPrefab_fit (ai @ePrefabo_eq (ai @esPrefabo_len (ai @esPrefabo_nil (ai @eProp_eq (ai @esProp_len (ai @esProp_nil (ai @esProp_leaf (ai @esProp_fit (ai @esPrefabo_share (ai @esPrefabo_pure (ai @esProp_share (ai @esProp_pure (ai @str_beq (ai @Ty.sl24 (ai @Ty.slz24 (ai @Ty.nz59 (ai @Ty.ldA59 (ai @Ty.sz59 (ai @Ty.szn59 (ai @Ty.nz9 (ai @Ty.ldA9 (ai @Ty.ldS9 (ai @Ty.sz9 (ai @Ty.szn9 (ai @Ty.fo59_0 (ai @Ty.fk59_0 (ai @Ty.fs59_0 (ai @Ty.fn59_0 (ai @Ty.fo59_1 (ai @Ty.fk59_1 (ai @Ty.fs59_1 (ai @Ty.fn59_1 (ai @Ty.nze24 (ai @Ty.zok24 (ai @Ty.by24 (ai @Ty.zs24 (ai @Ty.zv59 @trivial))))))))))))))))))))))))))))))))))))))))))
def p_spec_OverridesOf (N : Nat) (l_a0 : List GPrefab) (name_a1 : ByteArray) (want_a2 : List GProp) : Option (List GProp × Bool) := ((p_spec_PropsOf N l_a0 name_a1).bind fun v1 => (if v1.2 = true then ((p_spec_GoodProps N want_a2).bind fun v43 => p_spec_OverridesOf_j0 want_a2 v1 (!v43)) else p_spec_OverridesOf_j0 want_a2 v1 true))
/-! impl.propAt -/
theorem p_impl_propAt_sa {F C A : Prop} (hF : F) (hC : C) (h : F → C → A := by intro hF hC; first | exact ca_by hF | (refine sa_by hF ?_; (repeat' (first | exact trivial | apply And.intro)); all_goals (clear hF; first | rfl | (simp only [hC, List.length_append, List.length_cons, List.length_nil, List.append_nil, List.nil_append, List.cons_append, List.length_set, List.append_assoc, Nat.zero_add, List.length_replicate, esProp_app, esProp_cons, esProp_nil, eProp_eq]; done) | (simp [hC, List.length_append, List.length_cons, List.length_nil, List.append_nil, List.nil_append, List.cons_append, List.length_set, List.append_assoc, Nat.zero_add, List.length_replicate, esProp_app, esProp_cons, esProp_nil, eProp_eq]; done) | omega))) : A := h hF hC
def p_impl_propAt_tf := PLift.up (ai @eProp_eq (ai @esProp_len (ai @esProp_nil (ai @esProp_leaf (ai @esProp_fit (ai @esProp_share (ai @esProp_pure (ai @str_beq (ai @Ty.sl24 (ai @Ty.slz24 (ai @Ty.nz9 (ai @Ty.ldA9 (ai @Ty.ldS9 (ai @Ty.sz9 (ai @Ty.szn9 (ai @Ty.fo59_1 (ai @Ty.fk59_1 (ai @Ty.fs59_1 (ai @Ty.fn59_1 @trivial)))))))))))))))))))
def p_impl_propAt (N : Nat) (l_a0 : List GProp) (path_a1 : ByteArray) : Option (ByteArray × Bool) := ((p_impl_propPlace N l_a0 path_a1).bind fun v1 => (if v1.2 = true then ((idx l_a0 v1.1).bind fun x3 => some (x3.Value, true)) else some ((⟨#[]⟩ : ByteArray), false)))
theorem p_impl_propAt_does (N : Nat) (l_a0 : List GProp) (path_a1 : ByteArray) (r : ByteArray × Bool) (h : p_impl_propAt N l_a0 path_a1 = some r) : Does Tryd.prog 40 [.row false 2 l_a0.length (esProp l_a0), S path_a1] (.tup [S r.1, B r.2]) := by
  rw [p_impl_propAt] at h
  refine Does.bnd (fun hb => ?_)
  have hb2 : l_a0.length ≤ 9223372036854775807 := by simpa [AV.fitNs, AV.fitN] using hb
  have hl0 := hb2
  refine Does.walk (nt := 21) Tryd.func40 rfl rfl (by simp) (by decide) rfl (fun G0 X w0 pv => ?_)
  obtain ⟨v1, ev1, h⟩ := Option.bind_eq_some_iff.1 h
  try dsimp only at h
  have ff := p_impl_propAt_tf.down
  try refine st_by ff ?_
  repeat' (first | exact trivial | refine And.intro sd ?_)
  first
  | (refine cq_call (p_impl_propPlace_does N l_a0 path_a1 v1 ev1) (hf_by ff) kr ⟨p_impl_propAt_sa ff trivial, ?_⟩; clear ff)
  by_cases c2 : v1.2 = true
  case neg =>
   rw [if_neg c2] at h
   have dc2 := eq_false_of_ne_true c2
   have ff := ai @dc2 p_impl_propAt_tf.down
   try refine st_by ff ?_
   repeat' (first | exact trivial | refine And.intro sd ?_)
   cases h
   exact ret_q2 rfl (p_spec_l26Find_rt ff trivial)
  rw [if_pos c2] at h
  have dc2 := c2
  obtain ⟨x3, ex3, h⟩ := Option.bind_eq_some_iff.1 h
  try dsimp only at h
  have f4a := idx_lo ex3
  have f4b := idx_hi ex3
  have f4c : (esProp l_a0).drop (v1.1.toNat * 2) = eProp x3 ++ esProp (l_a0.drop (v1.1.toNat + 1)) := drop_enc (fun _ => rfl) (idx_get ex3)
  have ff := ai @dc2 (ai @f4c p_impl_propAt_tf.down)
  try refine st_by ff ?_
  repeat' (first | exact trivial | refine And.intro sd ?_)
  cases h
  exact ret_q2 rfl (p_spec_l26Find_rt ff trivial)
/-! impl.OverridesOf -/
def p_impl_OverridesOf_l0 (N : Nat) (want_a2 : List GProp) : List GProp → Nat → Option (LR (List GProp × Bool) (Unit))
  | [], i_0 => some (.out ())
  | x_0 :: r_0, i_0 => ((p_impl_propAt N want_a2 x_0.Path).bind fun v15 => (if v15.2 = true then p_impl_OverridesOf_l0 N want_a2 r_0 (i_0 + 1) else some (.ret (([] : List GProp), false))))
def p_impl_OverridesOf_l1 (N : Nat) (v1 : List GProp × Bool) : List GProp → Nat → (List GProp) → Option ((List GProp))
  | [], i_1, out_24 => some out_24
  | x_1 :: r_1, i_1, out_24 => ((p_impl_propAt N v1.1 x_1.Path).bind fun v35 => (if v35.2 = true then (if v35.1 = x_1.Value then p_impl_OverridesOf_l1 N v1 r_1 (i_1 + 1) out_24 else (if out_24.length < 4294967296 then p_impl_OverridesOf_l1 N v1 r_1 (i_1 + 1) (out_24 ++ [x_1]) else none)) else (if out_24.length < 4294967296 then p_impl_OverridesOf_l1 N v1 r_1 (i_1 + 1) (out_24 ++ [x_1]) else none)))
def p_impl_OverridesOf_j0 (N : Nat) (want_a2 : List GProp) (v1 : List GProp × Bool) (b_2 : Bool) : Option (List GProp × Bool) := (if b_2 = true then some (([] : List GProp), false) else ((p_impl_OverridesOf_l0 N want_a2 v1.1 0).bind fun q_0 => match q_0 with | .ret r_ => some r_ | .out _ => ((p_impl_OverridesOf_l1 N v1 want_a2 0 ([] : List GProp)).bind fun q_1 => match q_1 with | out_24 => some (out_24, true))))
def p_impl_OverridesOf_tf := PLift.up (ai @ePrefab_eq (ai @esPrefab_len (ai @esPrefab_nil (ai @esPrefab_leaf (ai @esPrefab_fit (ai @ePrefabo_eq (ai @esPrefabo_len (ai @esPrefabo_nil (ai @eProp_eq (ai @esProp_len (ai @esProp_nil (ai @esProp_leaf (ai @esProp_fit (ai @esPrefabo_share (ai @esPrefabo_pure (ai @esProp_share (ai @esProp_pure (ai @str_beq (ai @Ty.sl24 (ai @Ty.slz24 (ai @Ty.nz59 (ai @Ty.ldA59 (ai @Ty.sz59 (ai @Ty.szn59 (ai @Ty.nz9 (ai @Ty.ldA9 (ai @Ty.ldS9 (ai @Ty.sz9 (ai @Ty.szn9 (ai @Ty.fo59_0 (ai @Ty.fk59_0 (ai @Ty.fs59_0 (ai @Ty.fn59_0 (ai @Ty.fo59_1 (ai @Ty.fk59_1 (ai @Ty.fs59_1 (ai @Ty.fn59_1 (ai @Ty.nze24 (ai @Ty.zok24 (ai @Ty.by24 (ai @Ty.zs24 (ai @Ty.zv59 @trivial))))))))))))))))))))))))))))))))))))))))))
def p_impl_OverridesOf (N : Nat) (l_a0 : List GPrefab) (name_a1 : ByteArray) (want_a2 : List GProp) : Option (List GProp × Bool) := ((p_impl_PropsOf N l_a0 name_a1).bind fun v1 => (if v1.2 = true then ((p_impl_GoodProps want_a2).bind fun v43 => p_impl_OverridesOf_j0 N want_a2 v1 (!v43)) else p_impl_OverridesOf_j0 N want_a2 v1 true))
end Go.Av
end
section
set_option linter.unusedSimpArgs false
set_option linter.unusedVariables false
set_option maxRecDepth 100000
set_option maxHeartbeats 1000000
namespace Go.Av
open Go.Proofs
/-! slices.Concat[[]impl.Prop,impl.Prop] -/
def p_slices_Concat_impl_Prop_impl_Prop_l0 : List (List GProp) → Nat → Int → Option (Int)
  | [], i_0, size_5 => some size_5
  | x_0 :: r_0, i_0, size_5 => (if (IntKind.i64.wrap (size_5 + (x_0.length : Int))) < 0 then none else p_slices_Concat_impl_Prop_impl_Prop_l0 r_0 (i_0 + 1) (IntKind.i64.wrap (size_5 + (x_0.length : Int))))
def p_slices_Concat_impl_Prop_impl_Prop_l1 : List (List GProp) → Nat → (List GProp) → Option ((List GProp))
  | [], i_1, newslice_20 => some newslice_20
  | x_1 :: r_1, i_1, newslice_20 => (if newslice_20.length < 4294967296 then (if x_1.length < 4294967296 then p_slices_Concat_impl_Prop_impl_Prop_l1 r_1 (i_1 + 1) (newslice_20 ++ x_1) else none) else none)
theorem p_slices_Concat_impl_Prop_impl_Prop_pv {F C A : Prop} (hF : F) (hC : C) (h : F → C → A := by intro hF hC; first | exact cl_by hF | (refine st_by hF ?_; (repeat' (first | exact trivial | apply And.intro)); all_goals (clear hF; first | rfl | (simp only [hC, List.length_append, List.length_cons, List.length_nil, List.append_nil, List.nil_append, List.cons_append, List.length_set, List.append_assoc, Nat.zero_add, List.length_replicate, esLProp_app, esLProp_cons, esLProp_nil, eLProp_eq, esLPropo_app, esLPropo_cons, esLPropo_nil, eLPropo_eq, esProp_app, esProp_cons, esProp_nil, eProp_eq]; done) | (simp [hC, List.length_append, List.length_cons, List.length_nil, List.append_nil, List.nil_append, List.cons_append, List.length_set, List.append_assoc, Nat.zero_add, List.length_replicate, esLProp_app, esLProp_cons, esLProp_nil, eLProp_eq, esLPropo_app, esLPropo_cons, esLPropo_nil, eLPropo_eq, esProp_app, esProp_cons, esProp_nil, eProp_eq]; done) | omega))) : A := h hF hC
theorem p_slices_Concat_impl_Prop_impl_Prop_sa {F C A : Prop} (hF : F) (hC : C) (h : F → C → A := by intro hF hC; first | exact ca_by hF | (refine sa_by hF ?_; (repeat' (first | exact trivial | apply And.intro)); all_goals (clear hF; first | rfl | (simp only [hC, List.length_append, List.length_cons, List.length_nil, List.append_nil, List.nil_append, List.cons_append, List.length_set, List.append_assoc, Nat.zero_add, List.length_replicate, esLProp_app, esLProp_cons, esLProp_nil, eLProp_eq, esLPropo_app, esLPropo_cons, esLPropo_nil, eLPropo_eq, esProp_app, esProp_cons, esProp_nil, eProp_eq]; done) | (simp [hC, List.length_append, List.length_cons, List.length_nil, List.append_nil, List.nil_append, List.cons_append, List.length_set, List.append_assoc, Nat.zero_add, List.length_replicate, esLProp_app, esLProp_cons, esLProp_nil, eLProp_eq, esLPropo_app, esLPropo_cons, esLPropo_nil, eLPropo_eq, esProp_app, esProp_cons, esProp_nil, eProp_eq]; done) | omega))) : A := h hF hC
theorem p_slices_Concat_impl_Prop_impl_Prop_rt {F C A : Prop} (hF : F) (hC : C) (h : F → C → A := by intro hF hC; first | (refine sr_by hF ?_; (repeat' (first | exact trivial | apply And.intro)); all_goals (clear hF; first | rfl | (simp only [hC, List.length_append, List.length_cons, List.length_nil, List.append_nil, List.nil_append, List.cons_append, List.length_set, List.append_assoc, Nat.zero_add, List.length_replicate, esLProp_app, esLProp_cons, esLProp_nil, eLProp_eq, esLPropo_app, esLPropo_cons, esLPropo_nil, eLPropo_eq, esProp_app, esProp_cons, esProp_nil, eProp_eq]; done) | (simp [hC, List.length_append, List.length_cons, List.length_nil, List.append_nil, List.nil_append, List.cons_append, List.length_set, List.append_assoc, Nat.zero_add, List.length_replicate, esLProp_app, esLProp_cons, esLProp_nil, eLProp_eq, esLPropo_app, esLPropo_cons, esLPropo_nil, eLPropo_eq, esProp_app, esProp_cons, esProp_nil, eProp_eq]; done) | omega)) | (first | rfl | (simp only [hC, List.length_append, List.length_cons, List.length_nil, List.append_nil, List.nil_append, List.cons_append, List.length_set, List.append_assoc, Nat.zero_add, List.length_replicate, esLProp_app, esLProp_cons, esLProp_nil, eLProp_eq, esLPropo_app, esLPropo_cons, esLPropo_nil, eLPropo_eq, esProp_app, esProp_cons, esProp_nil, eProp_eq]; done) | (simp [hC, List.length_append, List.length_cons, List.length_nil, List.append_nil, List.nil_append, List.cons_append, List.length_set, List.append_assoc, Nat.zero_add, List.length_replicate, esLProp_app, esLProp_cons, esLProp_nil, eLProp_eq, esLPropo_app, esLPropo_cons, esLPropo_nil, eLPropo_eq, esProp_app, esProp_cons, esProp_nil, eProp_eq]; done) | omega)) : A := h hF hC
def p_slices_Concat_impl_Prop_impl_Prop_tf := PLift.up (ai @eLProp_eq (ai @esLProp_len (ai @esLProp_nil (ai @esLProp_leaf (ai @esLProp_fit (ai @eLPropo_eq (ai @esLPropo_len (ai @esLPropo_nil (ai @eProp_eq (ai @esProp_len (ai @esProp_nil (ai @esProp_leaf (ai @esProp_fit (ai @esLPropo_share (ai @esLPropo_pure (ai @esProp_share (ai @esProp_pure (ai @str_beq (ai @Ty.sl68 (ai @Ty.slz68 (ai @Ty.nz24 (ai @Ty.ldA24 (ai @Ty.ldS24 (ai @Ty.sz24 (ai @Ty.szn24 (ai @Ty.sl24 (ai @Ty.slz24 (ai @Ty.zok24 (ai @Ty.by24 (ai @Ty.zs24 @trivial))))))))))))))))))))))))))))))
def p_slices_Concat_impl_Prop_impl_Prop (slices_a0 : List (List GProp)) : Option (List GProp) := ((p_slices_Concat_impl_Prop_impl_Prop_l0 slices_a0 0 0).bind fun q_0 => match q_0 with | size_5 => ((growL ([] : List GProp) size_5).bind fun v12 => ((p_slices_Concat_impl_Prop_impl_Prop_l1 slices_a0 0 v12).bind fun q_1 => match q_1 with | newslice_20 => some newslice_20)))
theorem p_slices_Concat_impl_Prop_impl_Prop_does (slices_a0 : List (List GProp)) (r : List GProp) (h : p_slices_Concat_impl_Prop_impl_Prop slices_a0 = some r) : Does Tryd.prog 42 [.row false 1 slices_a0.length (esLProp slices_a0)] (.row true 2 r.length (esProp r)) := by
  rw [p_slices_Concat_impl_Prop_impl_Prop] at h
  refine Does.bnd (fun hb => ?_)
  have hb2 : slices_a0.length ≤ 9223372036854775807 := by simpa [AV.fitNs, AV.fitN] using hb
  have hl0 := hb2
  refine Does.walk (nt := 36) Tryd.func42 rfl rfl (by simp) (by decide) rfl (fun G0 X w0 pv => ?_)
  have hL_0 : slices_a0.length ≤ 9223372036854775807 := by first | assumption | omega
  obtain ⟨q_0, eq_0, h⟩ := Option.bind_eq_some_iff.1 h
  have ff := p_slices_Concat_impl_Prop_impl_Prop_tf.down
  try refine st_by ff ?_
  repeat' (first | exact trivial | refine And.intro sd ?_)
  obtain ⟨I_0, hI_0⟩ : ∃ I_ : (Nat × Int) → ASt → Prop, I_ = (fun (a : Nat × Int) σ => match a with | (i_0, size_5) => (i_0 ≤ slices_a0.length ∧ p_slices_Concat_impl_Prop_impl_Prop_l0 (slices_a0.drop i_0) i_0 size_5 = some q_0) ∧ σ.t 0 = .row false 1 slices_a0.length (esLProp slices_a0) ∧ σ.t 3 = I size_5 ∧ σ.t 9 = .row false 1 slices_a0.length (esLProp slices_a0) ∧ σ.t 10 = I (slices_a0.length : Int) ∧ σ.t 11 = I (i_0 : Int)) := ⟨_, rfl⟩
  obtain ⟨M_0, hM_0⟩ : ∃ M_ : (Nat × Int) → Nat, M_ = (fun (a : Nat × Int) => match a with | (i_0, size_5) => slices_a0.length - i_0) := ⟨_, rfl⟩
  obtain ⟨J_0, hJ_0⟩ : ∃ J_ : ASt → Prop, J_ = (fun σ => ∃ size_5 : Int, (some size_5 = some q_0) ∧ σ.t 0 = .row false 1 slices_a0.length (esLProp slices_a0) ∧ σ.t 3 = I size_5) := ⟨_, rfl⟩
  refine aw_loopC (id := 0) I_0 M_0 J_0 (0, 0) ?_ ?_ ?_
  · rw [hI_0]
    refine ⟨⟨Nat.zero_le _, eq_0⟩, ?_⟩
    exact p_slices_Concat_impl_Prop_impl_Prop_pv ff trivial
  · try clear ff
    rintro ⟨i_0, size_5⟩ σ hg_0
    rw [hI_0] at hg_0
    obtain ⟨⟨hi_0, h_0⟩, g0_0, g1_0, g2_0, g3_0, g4_0⟩ := hg_0
    cases hr_0 : slices_a0.drop i_0 with
    | nil =>
      rw [hr_0] at h_0
      rw [p_slices_Concat_impl_Prop_impl_Prop_l0] at h_0
      have hn_0 := drop_nil hr_0
      have dr_0 : decide ((i_0 : Int) < (slices_a0.length : Int)) = false := decide_eq_false (by omega)
      have ff := ai @dr_0 (ai @g0_0 (ai @g1_0 (ai @g2_0 (ai @g3_0 (ai @g4_0 p_slices_Concat_impl_Prop_impl_Prop_tf.down)))))
      try refine st_by ff ?_
      repeat' (first | exact trivial | refine And.intro sd ?_)
      refine JW.intro ?_
      rw [hJ_0]
      refine ⟨size_5, h_0, ?_⟩
      exact p_slices_Concat_impl_Prop_impl_Prop_pv ff trivial
    | cons x_0 r_0 =>
      rw [hr_0] at h_0
      rw [p_slices_Concat_impl_Prop_impl_Prop_l0] at h_0
      obtain ⟨ht_0, hg_0, hd_0⟩ := drop_cons hr_0
      have dr_0 : decide ((i_0 : Int) < (slices_a0.length : Int)) = true := decide_eq_true (by omega)
      have w_0 : IntKind.i64.wrap ((i_0 : Int) + 1) = ((i_0 + 1 : Nat) : Int) := wI _ (by omega) (by omega)
      have kk0c : (esLProp slices_a0).drop (i_0 * 1) = eLProp x_0 ++ esLProp (slices_a0.drop (i_0 + 1)) := drop_enc (fun _ => rfl) (hg_0)
      have kk0d := kk0c
      rw [Nat.mul_one] at kk0d
      by_cases c11 : (IntKind.i64.wrap (size_5 + (x_0.length : Int))) < 0
      · rw [if_pos c11] at h_0
        have dc11 := decide_eq_true c11
        cases h_0
      rw [if_neg c11] at h_0
      have dc11 := decide_eq_false c11
      have ff := ai @dr_0 (ai @w_0 (ai @g0_0 (ai @g1_0 (ai @g2_0 (ai @g3_0 (ai @g4_0 (ai @kk0c (ai @kk0d (ai @dc11 p_slices_Concat_impl_Prop_impl_Prop_tf.down)))))))))
      try refine st_by ff ?_
      repeat' (first | exact trivial | refine And.intro sd ?_)
      refine Back.intro (i_0 + 1, (IntKind.i64.wrap (size_5 + (x_0.length : Int)))) ?_ ?_
      · clear ff; rw [hM_0]; show slices_a0.length - (i_0 + 1) < slices_a0.length - i_0; omega
      rw [hI_0]
      refine ⟨⟨by clear ff; show i_0 + 1 ≤ slices_a0.length; omega, by show p_slices_Concat_impl_Prop_impl_Prop_l0 (slices_a0.drop (i_0 + 1)) (i_0 + 1) (IntKind.i64.wrap (size_5 + (x_0.length : Int))) = some q_0; rw [hd_0]; exact h_0⟩, ?_⟩
      exact p_slices_Concat_impl_Prop_impl_Prop_pv ff trivial
  · try clear ff
    rintro σ hg_0
    rw [hJ_0] at hg_0
    obtain ⟨size_5, hj_0, g0_0a, g1_0a⟩ := hg_0
    have hjj_0 := Option.some.inj hj_0
    subst hjj_0
    try dsimp only at h
    obtain ⟨v12, ev12, h⟩ := Option.bind_eq_some_iff.1 h
    try dsimp only at h
    have ff := ai @g0_0a (ai @g1_0a p_slices_Concat_impl_Prop_impl_Prop_tf.down)
    try refine st_by ff ?_
    repeat' (first | exact trivial | refine And.intro sd ?_)
    first
    | (refine cq_own (growProp_does ([] : List GProp) size_5 v12 ev12) (hf_by ff) kr ⟨p_slices_Concat_impl_Prop_impl_Prop_sa ff trivial, ?_⟩; clear ff)
    have hL_1 : slices_a0.length ≤ 9223372036854775807 := by first | assumption | omega
    obtain ⟨q_1, eq_1, h⟩ := Option.bind_eq_some_iff.1 h
    have ff := ai @g0_0a (ai @g1_0a p_slices_Concat_impl_Prop_impl_Prop_tf.down)
    try refine st_by ff ?_
    repeat' (first | exact trivial | refine And.intro sd ?_)
    obtain ⟨I_1, hI_1⟩ : ∃ I_ : (Nat × (List GProp)) → ASt → Prop, I_ = (fun (a : Nat × (List GProp)) σ => match a with | (i_1, newslice_20) => (i_1 ≤ slices_a0.length ∧ p_slices_Concat_impl_Prop_impl_Prop_l1 (slices_a0.drop i_1) i_1 newslice_20 = some q_1) ∧ σ.t 6 = .sl 6 [] 0 newslice_20.length ∧ σ.t 25 = .row false 1 slices_a0.length (esLProp slices_a0) ∧ σ.t 26 = I (slices_a0.length : Int) ∧ σ.t 27 = I (i_1 : Int) ∧ σ.m 6 = some (.row true 2 newslice_20.length (esProp newslice_20))) := ⟨_, rfl⟩
    obtain ⟨M_1, hM_1⟩ : ∃ M_ : (Nat × (List GProp)) → Nat, M_ = (fun (a : Nat × (List GProp)) => match a with | (i_1, newslice_20) => slices_a0.length - i_1) := ⟨_, rfl⟩
    obtain ⟨J_1, hJ_1⟩ : ∃ J_ : ASt → Prop, J_ = (fun σ => ∃ newslice_20 : List GProp, (some newslice_20 = some q_1) ∧ σ.t 6 = .sl 6 [] 0 newslice_20.length ∧ σ.m 6 = some (.row true 2 newslice_20.length (esProp newslice_20))) := ⟨_, rfl⟩
    refine aw_loopC (id := 2) I_1 M_1 J_1 (0, v12) ?_ ?_ ?_
    · rw [hI_1]
      refine ⟨⟨Nat.zero_le _, eq_1⟩, ?_⟩
      exact p_slices_Concat_impl_Prop_impl_Prop_pv ff trivial
    · try clear ff
      rintro ⟨i_1, newslice_20⟩ σ hg_1
      rw [hI_1] at hg_1
      obtain ⟨⟨hi_1, h_1⟩, g0_1, g1_1, g2_1, g3_1, g4_1⟩ := hg_1
      cases hr_1 : slices_a0.drop i_1 with
      | nil =>
        rw [hr_1] at h_1
        rw [p_slices_Concat_impl_Prop_impl_Prop_l1] at h_1
        have hn_1 := drop_nil hr_1
        have dr_1 : decide ((i_1 : Int) < (slices_a0.length : Int)) = false := decide_eq_false (by omega)
        have ff := ai @dr_1 (ai @g0_1 (ai @g1_1 (ai @g2_1 (ai @g3_1 (ai @g4_1 p_slices_Concat_impl_Prop_impl_Prop_tf.down)))))
        try refine st_by ff ?_
        repeat' (first | exact trivial | refine And.intro sd ?_)
        refine JW.intro ?_
        rw [hJ_1]
        refine ⟨newslice_20, h_1, ?_⟩
        exact p_slices_Concat_impl_Prop_impl_Prop_pv ff trivial
      | cons x_1 r_1 =>
        rw [hr_1] at h_1
        rw [p_slices_Concat_impl_Prop_impl_Prop_l1] at h_1
        obtain ⟨ht_1, hg_1, hd_1⟩ := drop_cons hr_1
        have dr_1 : decide ((i_1 : Int) < (slices_a0.length : Int)) = true := decide_eq_true (by omega)
        have w_1 : IntKind.i64.wrap ((i_1 : Int) + 1) = ((i_1 + 1 : Nat) : Int) := wI _ (by omega) (by omega)
        have kk1c : (esLProp slices_a0).drop (i_1 * 1) = eLProp x_1 ++ esLProp (slices_a0.drop (i_1 + 1)) := drop_enc (fun _ => rfl) (hg_1)
        have kk1d := kk1c
        rw [Nat.mul_one] at kk1d
        by_cases c27 : newslice_20.length < 4294967296
        case neg => rw [if_neg c27] at h_1; cases h_1
        rw [if_pos c27] at h_1
        by_cases c28 : x_1.length < 4294967296
        case neg => rw [if_neg c28] at h_1; cases h_1
        rw [if_pos c28] at h_1
        have a29a : esProp newslice_20 ++ esProp x_1 = esProp (newslice_20 ++ x_1) := by simp [esProp_app, esProp_cons, esProp_nil, eProp_eq, esLProp_nil, esProp_nil]
        have a29b : newslice_20.length + x_1.length = (newslice_20 ++ x_1).length := by simp
        have ff := ai @dr_1 (ai @w_1 (ai @g0_1 (ai @g1_1 (ai @g2_1 (ai @g3_1 (ai @g4_1 (ai @kk1c (ai @kk1d (ai @a29a (ai @a29b p_slices_Concat_impl_Prop_impl_Prop_tf.down))))))))))
        try refine st_by ff ?_
        repeat' (first | exact trivial | refine And.intro sd ?_)
        refine Back.intro (i_1 + 1, (newslice_20 ++ x_1)) ?_ ?_
        · clear ff; rw [hM_1]; show slices_a0.length - (i_1 + 1) < slices_a0.length - i_1; omega
        rw [hI_1]
        refine ⟨⟨by clear ff; show i_1 + 1 ≤ slices_a0.length; omega, by show p_slices_Concat_impl_Prop_impl_Prop_l1 (slices_a0.drop (i_1 + 1)) (i_1 + 1) (newslice_20 ++ x_1) = some q_1; rw [hd_1]; exact h_1⟩, ?_⟩
        exact p_slices_Concat_impl_Prop_impl_Prop_pv ff trivial
    · try clear ff
      rintro σ hg_1
      rw [hJ_1] at hg_1
      obtain ⟨newslice_20, hj_1, g0_1a, g1_1a⟩ := hg_1
      have hjj_1 := Option.some.inj hj_1
      subst hjj_1
      try dsimp only at h
      have ff := ai @g0_1a (ai @g1_1a p_slices_Concat_impl_Prop_impl_Prop_tf.down)
      try refine st_by ff ?_
      repeat' (first | exact trivial | refine And.intro sd ?_)
      cases h
      exact ret_q1 rfl (p_slices_Concat_impl_Prop_impl_Prop_rt ff trivial)
end Go.Av
end
section
/- Contracts of Go's library, proved once in the kit, at this program: the table of numbers and one theorem. -/
namespace Go.Proofs
open Go.Shelf
def Tryd.laysSort_ren : Go.Shelf.Ren := ⟨fun | 190 => 43 | 125 => 63 | 258 => 62 | 128 => 88 | 129 => 89 | 302 => 79 | 303 => 80 | 304 => 81 | 305 => 82 | 306 => 83 | 307 => 84 | 308 => 85 | 309 => 86 | 310 => 87 | 333 => 95 | 329 => 96 | 330 => 97 | 334 => 98 | 335 => 99 | 336 => 100 | 344 => 106 | n => n, fun | 31 => 39 | 9 => 9 | 3 => 3 | 46 => 90 | 0 => 0 | 51 => 110 | 53 => 112 | 4 => 4 | 183 => 103 | 182 => 102 | 131 => 85 | 5 => 5 | 218 => 116 | 222 => 120 | 228 => 123 | 229 => 124 | n => n, fun | n => n⟩
theorem Tryd.laysSort : Go.Proofs.Lays.n190 Tryd.prog Tryd.laysSort_ren := {
  mixed := by kernel_rfl
  f125 := Tryd.func63.trans (congrArg some (by kernel_rfl))
  f128 := Tryd.func88.trans (congrArg some (by kernel_rfl))
  f129 := Tryd.func89.trans (congrArg some (by kernel_rfl))
  f190 := Tryd.func43.trans (congrArg some (by kernel_rfl))
  f258 := Tryd.func62.trans (congrArg some (by kernel_rfl))
  f302 := Tryd.func79.trans (congrArg some (by kernel_rfl))
  f303 := Tryd.func80.trans (congrArg some (by kernel_rfl))
  f304 := Tryd.func81.trans (congrArg some (by kernel_rfl))
  f305 := Tryd.func82.trans (congrArg some (by kernel_rfl))
  f306 := Tryd.func83.trans (congrArg some (by kernel_rfl))
  f307 := Tryd.func84.trans (congrArg some (by kernel_rfl))
  f308 := Tryd.func85.trans (congrArg some (by kernel_rfl))
  f309 := Tryd.func86.trans (congrArg some (by kernel_rfl))
  f310 := Tryd.func87.trans (congrArg some (by kernel_rfl))
  f329 := Tryd.func96.trans (congrArg some (by kernel_rfl))
  f330 := Tryd.func97.trans (congrArg some (by kernel_rfl))
  f333 := Tryd.func95.trans (congrArg some (by kernel_rfl))
  f334 := Tryd.func98.trans (congrArg some (by kernel_rfl))
  f335 := Tryd.func99.trans (congrArg some (by kernel_rfl))
  f336 := Tryd.func100.trans (congrArg some (by kernel_rfl))
  f344 := Tryd.func106.trans (congrArg some (by kernel_rfl))
  t0 := Tryd.underlying0
  a0 := Tryd.isAgg0
  z0 := Tryd.sizeOf0
  v0 := Tryd.zeroValue0
  t3 := Tryd.underlying3
  a3 := Tryd.isAgg3
  z3 := Tryd.sizeOf3
  v3 := Tryd.zeroValue3
  t4 := Tryd.underlying4
  a4 := Tryd.isAgg4
  z4 := Tryd.sizeOf4
  v4 := Tryd.zeroValue4
  t5 := Tryd.underlying5
  a5 := Tryd.isAgg5
  z5 := Tryd.sizeOf5
  v5 := Tryd.zeroValue5
  t9 := Tryd.underlying9
  a9 := Tryd.isAgg9
  z9 := Tryd.sizeOf9
  v9 := Tryd.zeroValue9
  t31 := Tryd.underlying39
  a31 := Tryd.isAgg39
  z31 := Tryd.sizeOf39
  v31 := Tryd.zeroValue39
  t46 := Tryd.underlying90
  a46 := Tryd.isAgg90
  z46 := Tryd.sizeOf90
  v46 := Tryd.zeroValue90
  t51 := Tryd.underlying110
  a51 := Tryd.isAgg110
  z51 := Tryd.sizeOf110
  v51 := Tryd.zeroValue110
  t53 := Tryd.underlying112
  a53 := Tryd.isAgg112
  z53 := Tryd.sizeOf112
  v53 := Tryd.zeroValue112
  t131 := Tryd.underlying85
  a131 := Tryd.isAgg85
  z131 := Tryd.sizeOf85
  v131 := Tryd.zeroValue85
  t182 := Tryd.underlying102
  a182 := Tryd.isAgg102
  z182 := Tryd.sizeOf102
  v182 := Tryd.zeroValue102
  t183 := Tryd.underlying103
  a183 := Tryd.isAgg103
  z183 := Tryd.sizeOf103
  v183 := Tryd.zeroValue103
  t218 := Tryd.underlying116
  a218 := Tryd.isAgg116
  z218 := Tryd.sizeOf116
  v218 := Tryd.zeroValue116
  t222 := Tryd.underlying120
  a222 := Tryd.isAgg120
  z222 := Tryd.sizeOf120
  v222 := Tryd.zeroValue120
  t228 := Tryd.underlying123
  a228 := Tryd.isAgg123
  z228 := Tryd.sizeOf123
  v228 := Tryd.zeroValue123
  t229 := Tryd.underlying124
  a229 := Tryd.isAgg124
  z229 := Tryd.sizeOf124
  v229 := Tryd.zeroValue124 }
def Tryd.laysCompact_ren : Go.Shelf.Ren := ⟨fun | 194 => 44 | n => n, fun | 31 => 39 | 9 => 9 | 3 => 3 | 4 => 4 | 0 => 0 | n => n, fun | n => n⟩
theorem Tryd.laysCompact : Go.Proofs.Lays.n194 Tryd.prog Tryd.laysCompact_ren := {
  mixed := by kernel_rfl
  f194 := Tryd.func44.trans (congrArg some (by kernel_rfl))
  t0 := Tryd.underlying0
  a0 := Tryd.isAgg0
  z0 := Tryd.sizeOf0
  v0 := Tryd.zeroValue0
  t3 := Tryd.underlying3
  a3 := Tryd.isAgg3
  z3 := Tryd.sizeOf3
  v3 := Tryd.zeroValue3
  t4 := Tryd.underlying4
  a4 := Tryd.isAgg4
  z4 := Tryd.sizeOf4
  v4 := Tryd.zeroValue4
  t9 := Tryd.underlying9
  a9 := Tryd.isAgg9
  z9 := Tryd.sizeOf9
  v9 := Tryd.zeroValue9
  t31 := Tryd.underlying39
  a31 := Tryd.isAgg39
  z31 := Tryd.sizeOf39
  v31 := Tryd.zeroValue39 }
end Go.Proofs
end
section
set_option linter.unusedSimpArgs false
set_option linter.unusedVariables false
set_option maxRecDepth 100000
/-! slices.Sort and slices.Compact at rows of strings: the kit's contracts as contracts over what values read as. -/
namespace Go.Av
open Go.Proofs Go.Sort Go.RowKit Go.Shelf
def toL (s : ByteArray) : List UInt8 := s.data.toList
def ofL (l : List UInt8) : ByteArray := ⟨l.toArray⟩
theorem ofL_toL (s : ByteArray) : ofL (toL s) = s := by cases s; simp [ofL, toL]
theorem toL_ofL (l : List UInt8) : toL (ofL l) = l := by simp [ofL, toL]
def strL (l : List ByteArray) : List AV := l.flatMap fun x => [S x]
theorem strCells {w : World} {G : Nat → Prop} : ∀ {cs : List HT} {l : List ByteArray}, HT.erases cs = strL l → (∀ K ∈ cs, Sat w G K) → HT.values cs = l.map Value.string
  | [], [], _, _ => rfl
  | [], x :: l, h, _ => by simp [HT.erases, strL] at h
  | K :: cs, [], h, _ => by simp [HT.erases, strL] at h
  | K :: cs, x :: l, h, hs => by
    have h1 : K.erase = S x ∧ HT.erases cs = strL l := by
      have : K.erase :: HT.erases cs = S x :: strL l := h
      exact ⟨(List.cons.inj this).1, (List.cons.inj this).2⟩
    have h2 := hs K (by simp)
    have h3 : K.value = .string x := by
      cases h2 with
      | leaf a v ha hv =>
        have : a = S x := h1.1
        subst this
        cases hv
        rfl
      | row => simp [HT.erase] at h1
      | nilrow => simp [HT.erase] at h1
      | box => simp [HT.erase] at h1
      | agg => simp [HT.erase] at h1
      | tup => simp [HT.erase] at h1
    rw [HT.values, h3, List.map_cons, strCells h1.2 (fun K' hK => hs K' (by simp [hK]))]
def leafS (x : ByteArray) : HT := .leaf (S x) (.string x)
theorem leafS_erases : ∀ l : List ByteArray, HT.erases (l.map leafS) = strL l
  | [] => rfl
  | x :: l => by rw [List.map_cons, HT.erases, leafS_erases l]; rfl
theorem leafS_blockss : ∀ l : List ByteArray, HT.blockss (l.map leafS) = []
  | [] => rfl
  | x :: l => by rw [List.map_cons, HT.blockss, leafS_blockss l]; rfl
theorem sat_strs {w : World} {G : Nat → Prop} {b cap : Nat} {d : List ByteArray} {C : Array Value} {e : TypeId} (hb : w.heap[b]? = some (.cells C e (0, 0))) (hc : d.length ≤ cap) (hcap : C.size = cap) (hmax : cap ≤ 9223372036854775807)
    (hu : ∀ (i : Nat) (x : ByteArray), d[i]? = some x → C[i]? = some (.string x)) : Sat w G (.row b 1 d.length cap (d.map leafS)) := by
  refine .row b 1 d.length cap _ C e hb (by simp) hc (by omega) (by decide) hmax ?_ ?_
  · intro i T hi
    rw [List.getElem?_map] at hi
    obtain ⟨x, hx, rfl⟩ := Option.map_eq_some_iff.1 hi
    exact hu i x hx
  · intro i T hi
    rw [List.getElem?_map] at hi
    obtain ⟨x, hx, rfl⟩ := Option.map_eq_some_iff.1 hi
    exact .leaf _ _ rfl (.lit _)
theorem put_strs {w : World} {b : Nat} {C : Array Value} {e : TypeId} (d : List (List UInt8)) (k : Nat) (os : Array Obj) (hb : w.heap[b]? = some (.cells C e (0, 0))) :
    (grow (putRow encStr (Sort.ahead w k) b 0 d.toArray) os).heap[b]? = some (.cells (putCells encStr 0 d.toArray C) e (0, 0)) ∧ Ext (fun x => x = b) w (grow (putRow encStr (Sort.ahead w k) b 0 d.toArray) os) := by
  have hlt : b < w.heap.size := (Array.getElem?_eq_some_iff.1 hb).1
  have hsz : (putRow encStr (Sort.ahead w k) b 0 d.toArray).heap.size = w.heap.size := by rw [size_putRow]; rfl
  have hh : ∀ j, (putRow encStr (Sort.ahead w k) b 0 d.toArray).heap[j]? = if b = j then (w.heap[j]?).map (onCells (putCells encStr 0 d.toArray)) else w.heap[j]? := fun j => by
    show (w.heap.modify b (onCells _))[j]? = _
    rw [Array.getElem?_modify]
  refine ⟨?_, rfl, rfl, rfl, by rw [size_grow, hsz]; omega, fun j hj hne => ?_⟩
  · rw [heap_grow_old _ _ (by rw [hsz]; exact hlt), hh, if_pos rfl, hb]; rfl
  · rw [heap_grow_old _ _ (by rw [hsz]; exact hj), hh, if_neg (fun e => hne e.symm)]
theorem putCells_at {d : List (List UInt8)} {C : Array Value} {i : Nat} (hi : i < d.length) (hC : i < C.size) : (putCells encStr 0 d.toArray C)[i]? = some (.string (ofL d[i])) := by
  simp only [putCells, Array.getElem?_mapIdx, Array.getElem?_eq_getElem hC, Option.map_some]
  rw [if_pos ⟨Nat.zero_le _, by simp; omega⟩]
  simp [hi, ofL]
theorem holds_strs {w : World} {b : Nat} {C : Array Value} {e : TypeId} {l : List ByteArray} (hb : w.heap[b]? = some (.cells C e (0, 0))) (hu : ∀ (i : Nat) (x : ByteArray), l[i]? = some x → C[i]? = some (.string x)) : Holds encStr w b 0 (l.map toL).toArray := by
  intro j hj
  have hj' : j < l.length := by simpa using hj
  have hx := hu j l[j] (List.getElem?_eq_getElem hj')
  constructor
  · simp only [World.cell?, hb, Nat.zero_add]
    rw [if_neg (by simp), hx]
    have : (l.map toL).toArray[j]! = toL l[j] := by simp [hj']
    rw [this]; exact congrArg (fun z => some (Value.string z)) (ofL_toL l[j]).symm
  · simp [World.frozen?, hb]
/-- What slices.Sort leaves. -/
def sortS (l : List ByteArray) : List ByteArray := ((l.map toL).mergeSort fun x y => decide (x ≤ y)).map ofL
theorem sortS_len (l : List ByteArray) : (sortS l).length = l.length := by simp [sortS, List.length_mergeSort]
/-- What slices.Compact gives. -/
def compS (l : List ByteArray) : List ByteArray := (Lib.compact (l.map toL)).map ofL
theorem lentRow {w : World} {G : Nat → Prop} {Ts : List HT} {l : List ByteArray} {vs : List Value} (hTs : HT.erases Ts = [.row true 1 l.length (strL l)]) (hS : ∀ K ∈ Ts, Sat w G K)
    (hlen : vs.length = 1) (hrd : ∀ (i : Nat) (a : AV) (v : Value), [AV.sl 1000 [] 0 l.length][i]? = some a → vs[i]? = some v → VR w G (regs Ts) a v) :
    (l = [] ∧ ∃ sz, Ts = [.nilrow sz] ∧ sz = 1 ∧ vs = [.slice none 0 0]) ∨ ∃ b cap cs C e, Ts = [.row b 1 l.length cap cs] ∧ vs = [.slice (some ⟨b, 0, none⟩) l.length cap] ∧ HT.blockss cs = [] ∧ w.heap[b]? = some (.cells C e (0, 0)) ∧ C.size = cap ∧ l.length ≤ cap ∧ cap ≤ 9223372036854775807 ∧
      ∀ (i : Nat) (x : ByteArray), l[i]? = some x → C[i]? = some (.string x) := by
  match Ts, hTs with
  | [T], hTs =>
    match vs, hlen with
    | [v0], _ =>
      have he : T.erase = .row true 1 l.length (strL l) := by simpa [HT.erases] using hTs
      have hv := hrd 0 _ _ rfl rfl
      have hr : regs [T] 1000 = some T := by simp [regs]
      have hT := hS T (by simp)
      cases hT with
      | leaf a v ha hv' =>
        simp only [HT.erase] at he
        subst he
        simp [AV.leafOk] at ha
      | box => simp [HT.erase] at he
      | agg => simp [HT.erase] at he
      | tup => simp [HT.erase] at he
      | nilrow sz =>
        simp only [HT.erase, AV.row.injEq, true_and] at he
        obtain ⟨h1, h2, h3⟩ := he
        have hl : l = [] := List.eq_nil_of_length_eq_zero h2.symm
        subst hl
        cases hv with
        | sl _ _ _ _ _ h h0 => exact .inl ⟨rfl, sz, rfl, h1, by rw [h0 _ hr sz rfl (by simp)]⟩
      | row b sz n cap cs C e hb hn hc hcap hsz hmax hu h =>
        simp only [HT.erase, AV.row.injEq, true_and] at he
        obtain ⟨h1, h2, h3⟩ := he
        subst h1; subst h2
        have hval := strCells h3 (fun K hK => by obtain ⟨i, hi⟩ := List.getElem?_of_mem hK; exact h i K hi)
        cases hv with
        | sl _ _ _ _ _ hh _ =>
          obtain ⟨A, c, k1, k2, k3, k4, k5⟩ := hh _ hr b 1 l.length cap cs rfl (by simp)
          obtain ⟨k6, k7⟩ := k5 rfl
          refine .inr ⟨b, cap, cs, C, e, rfl, by rw [k1, k6, k7], ?_, hb, by omega, hc, hmax, fun i x hx => ?_⟩
          · have : ∀ K ∈ cs, K.blocks = [] := fun K hK => by
              have hm : K.erase ∈ strL l := by rw [← h3, HT.erases_eq]; exact List.mem_map_of_mem hK
              obtain ⟨x, _, hx⟩ := List.mem_flatMap.1 hm
              have hx : K.erase = S x := by simpa using hx
              cases K <;> simp_all [HT.erase, HT.blocks]
            rw [HT.blockss_eq]
            exact List.flatMap_eq_nil_iff.2 this
          · rw [HT.values_eq] at hval
            have h4 : (cs.map HT.value)[i]? = some (.string x) := by rw [hval, List.getElem?_map, hx]; rfl
            rw [List.getElem?_map] at h4
            obtain ⟨K, hK, hKv⟩ := Option.map_eq_some_iff.1 h4
            rw [hu i K hK, hKv]
  | [], h => simp [HT.erases] at h
  | _ :: _ :: _, h => simp [HT.erases] at h
theorem sortS_nil : sortS [] = [] := by simp [sortS]
theorem compS_nil : compS [] = [] := by simp [compS, Lib.compact, Lib.compactUpTo]
theorem sortS_does {P : Program} {ρ : Ren} {k : Nat} (L : Lays.n190 P ρ) (hk : ρ.f 190 = k) (l : List ByteArray) (hl : l.length ≤ 4294967296) : DoesX P k [.sl 1000 [] 0 l.length] [.row true 1 l.length (strL l)] (.tup []) [.row true 1 (sortS l).length (strL (sortS l))] := by
  subst hk
  intro w G Ts vs hG hTs hS hnd hbl hlen hrd
  rcases lentRow hTs hS hlen hrd with ⟨rfl, sz, rfl, rfl, rfl⟩ | ⟨b, cap, cs, C, e, rfl, rfl, hbs, hb, hC, hc, hmax, hu⟩
  · refine (Any.slices_Sort_string_none L none 0 w).mono fun e w' ⟨he, hw⟩ => ?_
    subst hw
    rw [sortS_nil]
    exact ⟨.tup [], [.nilrow 1], he, rfl, rfl, rfl, Ext.refl _ _, by simp [HT.blocks, HT.blockss], by simp [HT.blocks, HT.blockss], G, fun _ h => h, fun _ h => .inl h, by simp [HT.blocks, HT.blockss], .tup [] (fun i T hi => by simp at hi), fun K hK => by rw [List.mem_singleton.1 hK]; exact .nilrow 1⟩
  · have hlt : b < w.heap.size := (Array.getElem?_eq_some_iff.1 hb).1
    have hsl := sortS_len l
    have c := Any.slices_Sort_string L b 0 cap (l.map toL) w (holds_strs hb hu) hlt (by simp; omega)
    rw [List.length_map] at c
    refine c.mono fun e' w' ⟨he, q, os, hw⟩ => ?_
    obtain ⟨g1, g2⟩ := put_strs ((l.map toL).mergeSort fun x y => decide (x ≤ y)) q os hb
    rw [← hw] at g1 g2
    have hml : ((l.map toL).mergeSort fun x y => decide (x ≤ y)).length = l.length := by rw [List.length_mergeSort, List.length_map]
    have hbG : ¬ G b := (hbl b (by simp [HT.blocks])).2
    have hT : Sat w' G (.row b 1 (sortS l).length cap ((sortS l).map leafS)) := sat_strs g1 (by omega) (by simp [putCells, hC]) hmax (fun i x hx => by
      have hi := (List.getElem?_eq_some_iff.1 hx).1
      rw [putCells_at (by omega) (by omega)]
      unfold sortS at hx
      rw [List.getElem?_map, List.getElem?_eq_getElem (by omega)] at hx
      simpa using hx)
    refine ⟨.tup [], [.row b 1 (sortS l).length cap ((sortS l).map leafS)], he, rfl, ?_, ?_, ?_, ?_, ?_, G, fun _ h => h, fun _ h => .inl h, ?_, .tup [] (fun i T hi => by simp at hi), fun K hK => by rw [List.mem_singleton.1 hK]; exact hT⟩
    · simp [HT.erases, HT.erase, leafS_erases]
    · simp [HT.values, HT.value, hsl]
    · exact ⟨g2.os, g2.tape, g2.output, g2.size, fun j hj hne => g2.block j hj (fun e => hne (by simp [HT.blocks, e]))⟩
    · simp [HT.blocks, HT.blockss, leafS_blockss]
    · intro x hx
      have : x = b := by simpa [HT.blocks, HT.blockss, leafS_blockss] using hx
      subst this
      exact ⟨.inl (by simp [HT.blocks]), Nat.lt_of_lt_of_le hlt g2.size⟩
    · intro x hx
      have : x = b := by simpa [HT.blocks, HT.blockss, leafS_blockss] using hx
      subst this
      exact hbG
theorem compS_len (l : List ByteArray) : (compS l).length ≤ l.length := by
  unfold compS Lib.compact Lib.compactUpTo
  rw [List.length_map, List.length_map]
  refine Nat.le_trans (List.length_filter_le _ _) (by simp)
theorem compS_does {P : Program} {ρ : Ren} {k : Nat} (L : Lays.n194 P ρ) (hk : ρ.f 194 = k) (l : List ByteArray) : DoesX P k [.sl 1000 [] 0 l.length] [.row true 1 l.length (strL l)] (.row true 1 (compS l).length (strL (compS l))) [.junk] := by
  subst hk
  intro w G Ts vs hG hTs hS hnd hbl hlen hrd
  rcases lentRow hTs hS hlen hrd with ⟨rfl, sz, rfl, rfl, rfl⟩ | ⟨b, cap, cs, C, e, rfl, rfl, hbs, hb, hC, hc, hmax, hu⟩
  · refine (Any.slices_Compact_string_empty L none 0 w).mono fun e w' ⟨he, hw⟩ => ?_
    subst hw
    rw [compS_nil]
    exact ⟨.nilrow 1, [.leaf .junk (.slice none 0 0)], he, rfl, rfl, rfl, Ext.refl _ _, by simp [HT.blocks, HT.blockss], by simp [HT.blocks, HT.blockss], G, fun _ h => h, fun _ h => .inl h, by simp [HT.blocks, HT.blockss], .nilrow 1, fun K hK => by rw [List.mem_singleton.1 hK]; exact .leaf _ _ rfl (.junk _)⟩
  · have hlt : b < w.heap.size := (Array.getElem?_eq_some_iff.1 hb).1
    have hsl := compS_len l
    have c := Any.slices_Compact_string L b 0 cap (l.map toL) w (holds_strs hb hu) (by simp; omega) (by simpa using hc)
    rw [List.length_map] at c
    have hcl : (Lib.compact (l.map toL)).length = (compS l).length := by simp [compS]
    refine c.mono fun e' w' ⟨he, q, hw⟩ => ?_
    obtain ⟨g1, g2⟩ := put_strs (Lib.compact (l.map toL) ++ List.replicate (l.length - (Lib.compact (l.map toL)).length) []) q #[] hb
    have hg : ∀ X : World, grow X #[] = X := fun X => by cases X; simp [grow]
    rw [hg, ← hw] at g1 g2
    have hbG : ¬ G b := (hbl b (by simp [HT.blocks])).2
    have hT : Sat w' G (.row b 1 (compS l).length cap ((compS l).map leafS)) := sat_strs g1 (by omega) (by simp [putCells, hC]) hmax (fun i x hx => by
      have hi := (List.getElem?_eq_some_iff.1 hx).1
      rw [putCells_at (by rw [List.length_append]; omega) (by omega)]
      unfold compS at hx
      rw [List.getElem?_map, List.getElem?_eq_getElem (by omega)] at hx
      rw [List.getElem_append_left (by omega)]
      simpa using hx)
    refine ⟨.row b 1 (compS l).length cap ((compS l).map leafS), [.leaf .junk (.slice (some ⟨b, 0, none⟩) l.length cap)], ?_, ?_, rfl, rfl, ?_, ?_, ?_, G, fun _ h => h, fun _ h => .inl h, ?_, hT, fun K hK => by rw [List.mem_singleton.1 hK]; exact .leaf _ _ rfl (.junk _)⟩
    · rw [he, hcl]; rfl
    · simp [HT.erase, leafS_erases]
    · exact ⟨g2.os, g2.tape, g2.output, g2.size, fun j hj hne => g2.block j hj (fun e => hne (by simp [HT.blocks, e]))⟩
    · simp [HT.blocks, HT.blockss, leafS_blockss]
    · intro x hx
      have : x = b := by simpa [HT.blocks, HT.blockss, leafS_blockss] using hx
      subst this
      exact ⟨.inl (by simp [HT.blocks]), Nat.lt_of_lt_of_le hlt g2.size⟩
    · intro x hx
      have : x = b := by simpa [HT.blocks, HT.blockss, leafS_blockss] using hx
      subst this
      exact hbG
end Go.Av
end
section
set_option linter.unusedSimpArgs false
set_option linter.unusedVariables false
/-! slices.Sort and slices.Compact of strings in this program. -/
namespace Go.Av
open Go.Proofs
def sortP (l : List ByteArray) : Option (List ByteArray) := if l.length < 4294967296 then some (sortS l) else none
theorem sortP_len (l r : List ByteArray) (h : sortP l = some r) : r.length = l.length := by
  unfold sortP at h; split at h
  · cases h; exact sortS_len l
  · cases h
def compP (l : List ByteArray) : Option (List ByteArray) := some (compS l)
theorem sort_does (l r : List ByteArray) (h : sortP l = some r) : DoesX Tryd.prog 43 [.sl 1000 [] 0 l.length] [.row true 1 l.length (esStr l)] (.tup []) [.row true 1 l.length (esStr r)] := by
  unfold sortP at h; split at h
  · cases h; have := sortS_does (P := Tryd.prog) Tryd.laysSort rfl l (by omega); rw [sortS_len] at this; exact this
  · cases h
theorem comp_does (l r : List ByteArray) (h : compP l = some r) : DoesX Tryd.prog 44 [.sl 1000 [] 0 l.length] [.row true 1 l.length (esStr l)] (.row true 1 r.length (esStr r)) [.junk] := by
  cases h; exact compS_does Tryd.laysCompact rfl l
end Go.Av
end
section
set_option linter.unusedSimpArgs false
set_option linter.unusedVariables false
set_option maxRecDepth 100000
/-! Two states compared. -/
namespace Go.Av
open Go.Proofs Go.RowKit
theorem stateEq (a b : ByteArray) (x y : Bool) (w : World) : (Op.equalIn 10000 74 (.agg #[.string a, .bool x]) (.agg #[.string b, .bool y])).run Tryd.prog w = .ok (decide (a = b) && (x == y)) w := by
  have u9 := Tryd.underlying9
  have u4 := Tryd.underlying4
  have a9 := Tryd.isAgg9
  have z9 := Tryd.sizeOf9
  have a4 := Tryd.isAgg4
  have z4 := Tryd.sizeOf4
  have hS : Tryd.prog.underlying 74 = some (.struct (Tryd.prog.fieldsOf 74)) := by kernel_rfl
  rw [show (10000 : Nat) = 9999 + 1 from rfl, run_equalIn_agg w 9999 74 _ _ hS (by kernel_rfl)]
  simp only [Program.fieldsOf, Tryd.underlying74]
  go_simp
  rw [← str_beq]
  by_cases h1 : a.toList = b.toList <;> cases x <;> cases y <;> simp [h1]
theorem aggState {R : ASt → Prop} {s : ASt} {d : Nat} {a b : ByteArray} {x y : Bool} : aggQ Tryd.prog .eql 74 [S a, B x] [S b, B y] R s d = R (s.set d (B (decide (a = b) && (x == y)))) := by
  refine aggQ_eq (us := [.string a, .bool x]) (vs := [.string b, .bool y]) (fun x' y' w => ?_) (fun w => ?_)
  · have h : Tryd.prog.eqGuardType Tryd.prog.depth 74 = false := by kernel_rfl
    simp [eqGuard, h]
  · rw [run_eql_struct, stateEq]; rfl
end Go.Av
end
