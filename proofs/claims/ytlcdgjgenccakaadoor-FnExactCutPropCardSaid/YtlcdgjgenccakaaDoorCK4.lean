/- What every row of this seat leans on. -/
import Derived.Test.YtlcdgjgenccakaaDoorCK2
import Derived.Test.YtlcdgjgenccakaaDoorRows
import Derived.Test.YtlcdgjgenccakaaDoorProg
import Derived.WalkKit
import Derived.Shelf.Strings.Split
import Derived.Test.YtlcdgjgenccakaaDoorCK3
import Derived.Shelf.Strings.Search3
import Derived.Shelf.Strings.Count
section
set_option linter.unusedSimpArgs false
set_option linter.unusedVariables false
set_option maxRecDepth 100000
namespace Go.Proofs.YtlcdgjgenccakaaDoor
open Go.ChangeShapes Go.WideShapes Go.RowKit Go.Av
/-! What every row of this seat leans on. -/
theorem Tryd.own : ownKnob Tryd.prog.godebug = none := by kernel_rfl
theorem Tryd.laidOut : laidOutB Tryd.prog = true := by kernel_rfl
end Go.Proofs.YtlcdgjgenccakaaDoor
end
section
/- Contracts of Go's library, proved once in the kit, at this program: the table of numbers and one theorem. -/
namespace Go.Proofs
open Go.Shelf
def Tryd.laysSplit_ren : Go.Shelf.Ren := ⟨fun | 146 => 67 | 221 => 81 | 268 => 88 | 138 => 89 | 143 => 90 | 195 => 93 | 197 => 94 | 218 => 95 | 219 => 96 | 260 => 98 | 217 => 99 | 225 => 100 | 224 => 101 | 267 => 102 | 266 => 103 | 314 => 104 | n => n, fun | 9 => 9 | 31 => 84 | 3 => 3 | 4 => 4 | 0 => 0 | 105 => 105 | 21 => 21 | 5 => 5 | 46 => 102 | 119 => 110 | 139 => 113 | 138 => 112 | 146 => 115 | 51 => 114 | n => n, fun | 1 => 0 | 3 => 1 | 4 => 2 | n => n⟩
theorem Tryd.laysSplit : Go.Proofs.Lays.n146 Tryd.prog Tryd.laysSplit_ren := {
  mixed := by kernel_rfl
  f138 := Tryd.func89.trans (congrArg some (by kernel_rfl))
  f143 := Tryd.func90.trans (congrArg some (by kernel_rfl))
  f146 := Tryd.func67.trans (congrArg some (by kernel_rfl))
  f195 := Tryd.func93.trans (congrArg some (by kernel_rfl))
  f197 := Tryd.func94.trans (congrArg some (by kernel_rfl))
  f217 := Tryd.func99.trans (congrArg some (by kernel_rfl))
  f218 := Tryd.func95.trans (congrArg some (by kernel_rfl))
  f219 := Tryd.func96.trans (congrArg some (by kernel_rfl))
  f221 := Tryd.func81.trans (congrArg some (by kernel_rfl))
  f224 := Tryd.func101.trans (congrArg some (by kernel_rfl))
  f225 := Tryd.func100.trans (congrArg some (by kernel_rfl))
  f260 := Tryd.func98.trans (congrArg some (by kernel_rfl))
  f266 := Tryd.func103.trans (congrArg some (by kernel_rfl))
  f267 := Tryd.func102.trans (congrArg some (by kernel_rfl))
  f268 := Tryd.func88.trans (congrArg some (by kernel_rfl))
  f314 := Tryd.func104.trans (congrArg some (by kernel_rfl))
  t0 := Tryd.underlying0
  a0 := Tryd.isAgg0
  z0 := Tryd.sizeOf0
  v0 := Tryd.zeroValue0
  t3 := Tryd.underlying3
  a3 := Tryd.isAgg3
  z3 := Tryd.sizeOf3
  v3 := Tryd.zeroValue3
  t4 := Tryd.underlying4
  a4 := Tryd.isAgg4
  z4 := Tryd.sizeOf4
  v4 := Tryd.zeroValue4
  t5 := Tryd.underlying5
  a5 := Tryd.isAgg5
  z5 := Tryd.sizeOf5
  v5 := Tryd.zeroValue5
  t9 := Tryd.underlying9
  a9 := Tryd.isAgg9
  z9 := Tryd.sizeOf9
  v9 := Tryd.zeroValue9
  t21 := Tryd.underlying21
  a21 := Tryd.isAgg21
  z21 := Tryd.sizeOf21
  v21 := Tryd.zeroValue21
  t31 := Tryd.underlying84
  a31 := Tryd.isAgg84
  z31 := Tryd.sizeOf84
  v31 := Tryd.zeroValue84
  t46 := Tryd.underlying102
  a46 := Tryd.isAgg102
  z46 := Tryd.sizeOf102
  v46 := Tryd.zeroValue102
  t51 := Tryd.underlying114
  a51 := Tryd.isAgg114
  z51 := Tryd.sizeOf114
  v51 := Tryd.zeroValue114
  t105 := Tryd.underlying105
  a105 := Tryd.isAgg105
  z105 := Tryd.sizeOf105
  v105 := Tryd.zeroValue105
  t119 := Tryd.underlying110
  a119 := Tryd.isAgg110
  z119 := Tryd.sizeOf110
  t138 := Tryd.underlying112
  a138 := Tryd.isAgg112
  z138 := Tryd.sizeOf112
  v138 := Tryd.zeroValue112
  t139 := Tryd.underlying113
  a139 := Tryd.isAgg113
  z139 := Tryd.sizeOf113
  v139 := Tryd.zeroValue113
  t146 := Tryd.underlying115
  a146 := Tryd.isAgg115
  z146 := Tryd.sizeOf115
  v146 := Tryd.zeroValue115
  g1 := by kernel_rfl
  g3 := by kernel_rfl
  g4 := by kernel_rfl }
end Go.Proofs
end
section
set_option linter.unusedSimpArgs false
set_option linter.unusedVariables false
/-! strings.Split at a separator of one byte, over any program that lays it: no variable of a package is read. -/
namespace Go.Proofs
open Go.Shelf Go.RowKit Go.Lib
variable {P : Program} {ρ : Ren}
set_option maxHeartbeats 1000000 in
theorem split1_calls (L : Lays.n146 P ρ) (hi9 : (P.info? (ρ.t 9)).map (fun i => (i.zero, i.size, i.bytes)) = some (some (.string ByteArray.empty), 1, 16)) (s : ByteArray) (b : UInt8) (w : World) (hs : s.size < 4294967281) :
    Calls P (ρ.f 146) #[.string s, .string ⟨#[b]⟩] w fun e w' =>
      e = .returned (.slice (some ⟨w.heap.size, 0, none⟩) (Lib.countB s ⟨#[b]⟩ + 1) (Lib.countB s ⟨#[b]⟩ + 1)) ∧ w' = w.alloc (.cells ((Lib.splitB ⟨#[b]⟩ 0 (Lib.countB s ⟨#[b]⟩) s).map Value.string).toArray (ρ.t 9)) := by
  have h1 : 1 ≤ (⟨#[b]⟩ : ByteArray).size := Nat.le_refl _
  have hle := Lib.countB_le ⟨#[b]⟩ h1 s.size s (Nat.le_refl _)
  have hlen := Lib.splitB_all ⟨#[b]⟩ h1 0 _ s rfl
  have hI : ∀ (x : ByteArray) (c : Array Value), x.size ≤ s.size → Calls P (ρ.f 143) #[.string x, .string ⟨#[b]⟩] (w.alloc (.cells c (ρ.t 9))) fun e w' => e = .returned (.int .i64 (Lib.indexB x ⟨#[b]⟩)) ∧ w' = w.alloc (.cells c (ρ.t 9)) := fun x c _ => by
    refine (Any.strings_Index_one { L with } x b _).mono fun e w' ⟨he, hw⟩ => ⟨?_, hw⟩
    rw [he]
    show _ = Ending.returned (Value.int .i64 (Lib.index x.data.toList [b]))
    rw [Lib.index_one]
  have hC : Calls P (ρ.f 138) #[.string s, .string ⟨#[b]⟩] w fun e w' => e = .returned (.int .i64 (Lib.countB s ⟨#[b]⟩)) ∧ w' = w := by
    refine (Any.strings_Count_one { L with } s b w).mono fun e w' ⟨he, hw⟩ => ⟨?_, hw⟩
    rw [he]
    show _ = Ending.returned (Value.int .i64 ((Lib.count s.data.toList [b] : Nat) : Int))
    rw [Lib.count_one]
    rfl
  have c := Any.strings_genSplit_core { L with } hi9 s ⟨#[b]⟩ 0 (-1) (Lib.countB s ⟨#[b]⟩ + 1) w hs h1 (Nat.zero_le _) hI hC (by decide) (by decide) (by rw [if_pos (by decide)]; omega)
  rw [Nat.add_sub_cancel, hlen] at c
  have e2 : Lib.cellsOf (Lib.splitB ⟨#[b]⟩ 0 (Lib.countB s ⟨#[b]⟩) s) (Lib.countB s ⟨#[b]⟩ + 1) = ((Lib.splitB ⟨#[b]⟩ 0 (Lib.countB s ⟨#[b]⟩) s).map Value.string).toArray := by rw [← hlen]; exact Lib.cellsOf_full _
  rw [e2] at c
  have t3 := L.t3; have t9 := L.t9; have t31 := L.t31
  have a3 := L.a3; have a9 := L.a9; have a31 := L.a31
  have z3 := L.z3; have v3 := L.v3; have z9 := L.z9; have v9 := L.v9; have z31 := L.z31; have v31 := L.v31
  have e221 : ∀ args w, (callFunc (ρ.f 221) args).run P w = .ok (.enter (ρ.f 221) args) w := enters_of L.f221 (by kernel_rfl) rfl
  go_enter L.f146, Body.n146_ntmps ρ
  go_wp2_with (go_at_fn (ρ.f 221); refine c.mono ?_; rintro e w' ⟨rfl, hw⟩; rw [hw])
  go_ret
  exact ⟨rfl, rfl⟩
end Go.Proofs
namespace Go.Av
open Go.Proofs Go.Shelf
/-- What strings.Split gives at a separator of one byte. -/
def piecesB (b : UInt8) (s : ByteArray) : List ByteArray := Lib.splitB ⟨#[b]⟩ 0 (Lib.countB s ⟨#[b]⟩) s
theorem piecesB_len (b : UInt8) (s : ByteArray) : (piecesB b s).length = Lib.countB s ⟨#[b]⟩ + 1 := Lib.splitB_all ⟨#[b]⟩ (Nat.le_refl _) 0 _ s rfl
theorem piecesB_le (b : UInt8) (s : ByteArray) : (piecesB b s).length ≤ s.size + 1 := by
  rw [piecesB_len]; exact Nat.succ_le_succ (Lib.countB_le ⟨#[b]⟩ (Nat.le_refl _) s.size s (Nat.le_refl _))
theorem split1_does {P : Program} {ρ : Ren} {k : Nat} (L : Lays.n146 P ρ) (hi9 : (P.info? (ρ.t 9)).map (fun i => (i.zero, i.size, i.bytes)) = some (some (.string ByteArray.empty), 1, 16)) (hk : ρ.f 146 = k) (b : UInt8) (s : ByteArray) (hs : s.size < 4294967281) :
    Does P k [S s, S ⟨#[b]⟩] (.row true 1 (piecesB b s).length ((piecesB b s).flatMap fun x => [S x])) := by
  have hle := piecesB_le b s
  subst hk
  refine does_strs (ty := ρ.t 9) (by omega) fun w G vs hlen hrd => ?_
  match vs, hlen with
  | [v0, v1], _ =>
    have h0 : v0 = .string s := by cases hrd 0 _ _ rfl rfl; rfl
    have h1 : v1 = .string ⟨#[b]⟩ := by cases hrd 1 _ _ rfl rfl; rfl
    subst h0; subst h1
    have := split1_calls L hi9 s b w hs
    rw [piecesB_len]
    exact this
/-- strings.Split, where its separator is '/'. -/
def splitP (s sep : ByteArray) : Option (List ByteArray) := if sep = ⟨#[47]⟩ ∧ s.size < 4294967281 then some (piecesB 47 s) else none
end Go.Av
end
section
set_option linter.unusedSimpArgs false
set_option linter.unusedVariables false
/-! strings.Split at '/' in this program. -/
namespace Go.Av
open Go.Proofs
theorem split_does (s sep : ByteArray) (r : List ByteArray) (h : splitP s sep = some r) : Does Tryd.prog 67 [S s, S sep] (.row true 1 r.length (esStr r)) := by
  unfold splitP at h
  split at h
  · rename_i c
    obtain ⟨rfl, h1⟩ := c
    cases h
    exact split1_does Tryd.laysSplit (by kernel_rfl) rfl 47 s h1
  · cases h
end Go.Av
end
section
/-! What the types of this translation are. -/
namespace Go.Av
open Go.Proofs
namespace Ty
theorem int3 : intKd Tryd.prog 3 = some .i64 := by kernel_rfl
theorem ag4 : agT Tryd.prog 4 = some false := by kernel_rfl
theorem ldA4 : ldA Tryd.prog 4 = false := by kernel_rfl
theorem ldS4 : ldS Tryd.prog 4 = true := by kernel_rfl
theorem nz4 : nzT Tryd.prog 4 = [none] := by kernel_rfl
theorem sz4 : szT Tryd.prog 4 = some 1 := by kernel_rfl
theorem szn4 : szN Tryd.prog 4 = 1 := by kernel_rfl
theorem zv4 : zvT Tryd.prog 4 = some [.bool false] := by kernel_rfl
theorem bl4 : isBl Tryd.prog 4 = true := by kernel_rfl
theorem int5 : intKd Tryd.prog 5 = some .u8 := by kernel_rfl
theorem ldA9 : ldA Tryd.prog 9 = false := by kernel_rfl
theorem ldS9 : ldS Tryd.prog 9 = true := by kernel_rfl
theorem nz9 : nzT Tryd.prog 9 = [none] := by kernel_rfl
theorem sz9 : szT Tryd.prog 9 = some 1 := by kernel_rfl
theorem szn9 : szN Tryd.prog 9 = 1 := by kernel_rfl
theorem str9 : isStr Tryd.prog 9 = true := by kernel_rfl
theorem sl22 : slT Tryd.prog 22 = some 2 := by kernel_rfl
theorem slz22 : slSz Tryd.prog 22 = 2 := by kernel_rfl
theorem ldA22 : ldA Tryd.prog 22 = false := by kernel_rfl
theorem ldS22 : ldS Tryd.prog 22 = true := by kernel_rfl
theorem nz22 : nzT Tryd.prog 22 = [some 2] := by kernel_rfl
theorem sz22 : szT Tryd.prog 22 = some 1 := by kernel_rfl
theorem szn22 : szN Tryd.prog 22 = 1 := by kernel_rfl
theorem sl23 : slT Tryd.prog 23 = some 5 := by kernel_rfl
theorem slz23 : slSz Tryd.prog 23 = 5 := by kernel_rfl
theorem ldA23 : ldA Tryd.prog 23 = false := by kernel_rfl
theorem ldS23 : ldS Tryd.prog 23 = true := by kernel_rfl
theorem nz23 : nzT Tryd.prog 23 = [some 5] := by kernel_rfl
theorem sz23 : szT Tryd.prog 23 = some 1 := by kernel_rfl
theorem szn23 : szN Tryd.prog 23 = 1 := by kernel_rfl
theorem ldA25 : ldA Tryd.prog 25 = true := by kernel_rfl
theorem nz25 : nzT Tryd.prog 25 = [some 2, some 5, some 5] := by kernel_rfl
theorem sz25 : szT Tryd.prog 25 = some 3 := by kernel_rfl
theorem szn25 : szN Tryd.prog 25 = 3 := by kernel_rfl
theorem fo25_0 : fdO Tryd.prog 25 0 = 0 := by kernel_rfl
theorem fn25_0 : fdN Tryd.prog 25 0 = 1 := by kernel_rfl
theorem fk25_0 : fdOk Tryd.prog 25 0 = true := by kernel_rfl
theorem fs25_0 : fdS Tryd.prog 25 0 = true := by kernel_rfl
theorem fo25_1 : fdO Tryd.prog 25 1 = 1 := by kernel_rfl
theorem fn25_1 : fdN Tryd.prog 25 1 = 1 := by kernel_rfl
theorem fk25_1 : fdOk Tryd.prog 25 1 = true := by kernel_rfl
theorem fs25_1 : fdS Tryd.prog 25 1 = true := by kernel_rfl
theorem fo25_2 : fdO Tryd.prog 25 2 = 2 := by kernel_rfl
theorem fn25_2 : fdN Tryd.prog 25 2 = 1 := by kernel_rfl
theorem fk25_2 : fdOk Tryd.prog 25 2 = true := by kernel_rfl
theorem fs25_2 : fdS Tryd.prog 25 2 = true := by kernel_rfl
theorem sl28 : slT Tryd.prog 28 = some 2 := by kernel_rfl
theorem slz28 : slSz Tryd.prog 28 = 2 := by kernel_rfl
theorem zok28 : zOk Tryd.prog 28 = true := by kernel_rfl
theorem by28 : byN Tryd.prog 28 = 32 := by kernel_rfl
theorem zs28 : zsN Tryd.prog 28 = [.string ⟨#[]⟩, .string ⟨#[]⟩] := by kernel_rfl
theorem ldA28 : ldA Tryd.prog 28 = false := by kernel_rfl
theorem ldS28 : ldS Tryd.prog 28 = true := by kernel_rfl
theorem nz28 : nzT Tryd.prog 28 = [some 2] := by kernel_rfl
theorem nze28 : nzE Tryd.prog 28 = [none, none] := by kernel_rfl
theorem sz28 : szT Tryd.prog 28 = some 1 := by kernel_rfl
theorem szn28 : szN Tryd.prog 28 = 1 := by kernel_rfl
theorem sl29 : slT Tryd.prog 29 = some 5 := by kernel_rfl
theorem slz29 : slSz Tryd.prog 29 = 5 := by kernel_rfl
theorem zok29 : zOk Tryd.prog 29 = true := by kernel_rfl
theorem by29 : byN Tryd.prog 29 = 64 := by kernel_rfl
theorem zs29 : zsN Tryd.prog 29 = [.string ⟨#[]⟩, .string ⟨#[]⟩, .bool false, .string ⟨#[]⟩, .bool false] := by kernel_rfl
theorem ldA29 : ldA Tryd.prog 29 = false := by kernel_rfl
theorem ldS29 : ldS Tryd.prog 29 = true := by kernel_rfl
theorem nz29 : nzT Tryd.prog 29 = [some 5] := by kernel_rfl
theorem nze29 : nzE Tryd.prog 29 = [none, none, none, none, none] := by kernel_rfl
theorem sz29 : szT Tryd.prog 29 = some 1 := by kernel_rfl
theorem szn29 : szN Tryd.prog 29 = 1 := by kernel_rfl
theorem ag31 : agT Tryd.prog 31 = some true := by kernel_rfl
theorem ldA31 : ldA Tryd.prog 31 = true := by kernel_rfl
theorem nz31 : nzT Tryd.prog 31 = [some 2, some 5, some 5] := by kernel_rfl
theorem sz31 : szT Tryd.prog 31 = some 3 := by kernel_rfl
theorem szn31 : szN Tryd.prog 31 = 3 := by kernel_rfl
theorem zv31 : zvT Tryd.prog 31 = some [.slice none 0 0, .slice none 0 0, .slice none 0 0] := by kernel_rfl
theorem bd31 : bdOk Tryd.prog 31 = true := by kernel_rfl
theorem pl31_0 : plT Tryd.prog 31 0 = some (0, 1) := by kernel_rfl
theorem pl31_1 : plT Tryd.prog 31 1 = some (1, 1) := by kernel_rfl
theorem pl31_2 : plT Tryd.prog 31 2 = some (2, 1) := by kernel_rfl
theorem fo31_0 : fdO Tryd.prog 31 0 = 0 := by kernel_rfl
theorem fn31_0 : fdN Tryd.prog 31 0 = 1 := by kernel_rfl
theorem fk31_0 : fdOk Tryd.prog 31 0 = true := by kernel_rfl
theorem fs31_0 : fdS Tryd.prog 31 0 = true := by kernel_rfl
theorem fo31_1 : fdO Tryd.prog 31 1 = 1 := by kernel_rfl
theorem fn31_1 : fdN Tryd.prog 31 1 = 1 := by kernel_rfl
theorem fk31_1 : fdOk Tryd.prog 31 1 = true := by kernel_rfl
theorem fs31_1 : fdS Tryd.prog 31 1 = true := by kernel_rfl
theorem fo31_2 : fdO Tryd.prog 31 2 = 2 := by kernel_rfl
theorem fn31_2 : fdN Tryd.prog 31 2 = 1 := by kernel_rfl
theorem fk31_2 : fdOk Tryd.prog 31 2 = true := by kernel_rfl
theorem fs31_2 : fdS Tryd.prog 31 2 = true := by kernel_rfl
theorem ag48 : agT Tryd.prog 48 = some true := by kernel_rfl
theorem ldA48 : ldA Tryd.prog 48 = true := by kernel_rfl
theorem nz48 : nzT Tryd.prog 48 = [none, none, none, none, none] := by kernel_rfl
theorem sz48 : szT Tryd.prog 48 = some 5 := by kernel_rfl
theorem szn48 : szN Tryd.prog 48 = 5 := by kernel_rfl
theorem zv48 : zvT Tryd.prog 48 = some [.string ⟨#[]⟩, .string ⟨#[]⟩, .bool false, .string ⟨#[]⟩, .bool false] := by kernel_rfl
theorem bd48 : bdOk Tryd.prog 48 = true := by kernel_rfl
theorem pl48_0 : plT Tryd.prog 48 0 = some (0, 1) := by kernel_rfl
theorem pl48_1 : plT Tryd.prog 48 1 = some (1, 1) := by kernel_rfl
theorem pl48_2 : plT Tryd.prog 48 2 = some (2, 1) := by kernel_rfl
theorem pl48_3 : plT Tryd.prog 48 3 = some (3, 1) := by kernel_rfl
theorem pl48_4 : plT Tryd.prog 48 4 = some (4, 1) := by kernel_rfl
theorem fo48_0 : fdO Tryd.prog 48 0 = 0 := by kernel_rfl
theorem fn48_0 : fdN Tryd.prog 48 0 = 1 := by kernel_rfl
theorem fk48_0 : fdOk Tryd.prog 48 0 = true := by kernel_rfl
theorem fs48_0 : fdS Tryd.prog 48 0 = true := by kernel_rfl
theorem fo48_1 : fdO Tryd.prog 48 1 = 1 := by kernel_rfl
theorem fn48_1 : fdN Tryd.prog 48 1 = 1 := by kernel_rfl
theorem fk48_1 : fdOk Tryd.prog 48 1 = true := by kernel_rfl
theorem fs48_1 : fdS Tryd.prog 48 1 = true := by kernel_rfl
theorem fo48_2 : fdO Tryd.prog 48 2 = 2 := by kernel_rfl
theorem fn48_2 : fdN Tryd.prog 48 2 = 1 := by kernel_rfl
theorem fk48_2 : fdOk Tryd.prog 48 2 = true := by kernel_rfl
theorem fs48_2 : fdS Tryd.prog 48 2 = true := by kernel_rfl
theorem fo48_3 : fdO Tryd.prog 48 3 = 3 := by kernel_rfl
theorem fn48_3 : fdN Tryd.prog 48 3 = 1 := by kernel_rfl
theorem fk48_3 : fdOk Tryd.prog 48 3 = true := by kernel_rfl
theorem fs48_3 : fdS Tryd.prog 48 3 = true := by kernel_rfl
theorem fo48_4 : fdO Tryd.prog 48 4 = 4 := by kernel_rfl
theorem fn48_4 : fdN Tryd.prog 48 4 = 1 := by kernel_rfl
theorem fk48_4 : fdOk Tryd.prog 48 4 = true := by kernel_rfl
theorem fs48_4 : fdS Tryd.prog 48 4 = true := by kernel_rfl
theorem ldA68 : ldA Tryd.prog 68 = true := by kernel_rfl
theorem nz68 : nzT Tryd.prog 68 = [none, none] := by kernel_rfl
theorem sz68 : szT Tryd.prog 68 = some 2 := by kernel_rfl
theorem szn68 : szN Tryd.prog 68 = 2 := by kernel_rfl
theorem fo68_0 : fdO Tryd.prog 68 0 = 0 := by kernel_rfl
theorem fn68_0 : fdN Tryd.prog 68 0 = 1 := by kernel_rfl
theorem fk68_0 : fdOk Tryd.prog 68 0 = true := by kernel_rfl
theorem fs68_0 : fdS Tryd.prog 68 0 = true := by kernel_rfl
theorem fo68_1 : fdO Tryd.prog 68 1 = 1 := by kernel_rfl
theorem fn68_1 : fdN Tryd.prog 68 1 = 1 := by kernel_rfl
theorem fk68_1 : fdOk Tryd.prog 68 1 = true := by kernel_rfl
theorem fs68_1 : fdS Tryd.prog 68 1 = true := by kernel_rfl
theorem ldA70 : ldA Tryd.prog 70 = true := by kernel_rfl
theorem nz70 : nzT Tryd.prog 70 = [none, none, none, none, none] := by kernel_rfl
theorem sz70 : szT Tryd.prog 70 = some 5 := by kernel_rfl
theorem szn70 : szN Tryd.prog 70 = 5 := by kernel_rfl
theorem fo70_0 : fdO Tryd.prog 70 0 = 0 := by kernel_rfl
theorem fn70_0 : fdN Tryd.prog 70 0 = 1 := by kernel_rfl
theorem fk70_0 : fdOk Tryd.prog 70 0 = true := by kernel_rfl
theorem fs70_0 : fdS Tryd.prog 70 0 = true := by kernel_rfl
theorem fo70_1 : fdO Tryd.prog 70 1 = 1 := by kernel_rfl
theorem fn70_1 : fdN Tryd.prog 70 1 = 1 := by kernel_rfl
theorem fk70_1 : fdOk Tryd.prog 70 1 = true := by kernel_rfl
theorem fs70_1 : fdS Tryd.prog 70 1 = true := by kernel_rfl
theorem fo70_2 : fdO Tryd.prog 70 2 = 2 := by kernel_rfl
theorem fn70_2 : fdN Tryd.prog 70 2 = 1 := by kernel_rfl
theorem fk70_2 : fdOk Tryd.prog 70 2 = true := by kernel_rfl
theorem fs70_2 : fdS Tryd.prog 70 2 = true := by kernel_rfl
theorem fo70_3 : fdO Tryd.prog 70 3 = 3 := by kernel_rfl
theorem fn70_3 : fdN Tryd.prog 70 3 = 1 := by kernel_rfl
theorem fk70_3 : fdOk Tryd.prog 70 3 = true := by kernel_rfl
theorem fs70_3 : fdS Tryd.prog 70 3 = true := by kernel_rfl
theorem fo70_4 : fdO Tryd.prog 70 4 = 4 := by kernel_rfl
theorem fn70_4 : fdN Tryd.prog 70 4 = 1 := by kernel_rfl
theorem fk70_4 : fdOk Tryd.prog 70 4 = true := by kernel_rfl
theorem fs70_4 : fdS Tryd.prog 70 4 = true := by kernel_rfl
theorem ag71 : agT Tryd.prog 71 = some true := by kernel_rfl
theorem ldA71 : ldA Tryd.prog 71 = true := by kernel_rfl
theorem nz71 : nzT Tryd.prog 71 = [none, none] := by kernel_rfl
theorem sz71 : szT Tryd.prog 71 = some 2 := by kernel_rfl
theorem szn71 : szN Tryd.prog 71 = 2 := by kernel_rfl
theorem zv71 : zvT Tryd.prog 71 = some [.string ⟨#[]⟩, .string ⟨#[]⟩] := by kernel_rfl
theorem bd71 : bdOk Tryd.prog 71 = true := by kernel_rfl
theorem pl71_0 : plT Tryd.prog 71 0 = some (0, 1) := by kernel_rfl
theorem pl71_1 : plT Tryd.prog 71 1 = some (1, 1) := by kernel_rfl
theorem fo71_0 : fdO Tryd.prog 71 0 = 0 := by kernel_rfl
theorem fn71_0 : fdN Tryd.prog 71 0 = 1 := by kernel_rfl
theorem fk71_0 : fdOk Tryd.prog 71 0 = true := by kernel_rfl
theorem fs71_0 : fdS Tryd.prog 71 0 = true := by kernel_rfl
theorem fo71_1 : fdO Tryd.prog 71 1 = 1 := by kernel_rfl
theorem fn71_1 : fdN Tryd.prog 71 1 = 1 := by kernel_rfl
theorem fk71_1 : fdOk Tryd.prog 71 1 = true := by kernel_rfl
theorem fs71_1 : fdS Tryd.prog 71 1 = true := by kernel_rfl
theorem sl84 : slT Tryd.prog 84 = some 1 := by kernel_rfl
theorem slz84 : slSz Tryd.prog 84 = 1 := by kernel_rfl
theorem zok84 : zOk Tryd.prog 84 = true := by kernel_rfl
theorem by84 : byN Tryd.prog 84 = 16 := by kernel_rfl
theorem zs84 : zsN Tryd.prog 84 = [.string ⟨#[]⟩] := by kernel_rfl
theorem nze84 : nzE Tryd.prog 84 = [none] := by kernel_rfl
theorem sl94 : slT Tryd.prog 94 = some 1 := by kernel_rfl
theorem slz94 : slSz Tryd.prog 94 = 1 := by kernel_rfl
theorem zok94 : zOk Tryd.prog 94 = true := by kernel_rfl
theorem by94 : byN Tryd.prog 94 = 1 := by kernel_rfl
theorem zs94 : zsN Tryd.prog 94 = [.int .u8 0] := by kernel_rfl
theorem nze94 : nzE Tryd.prog 94 = [none] := by kernel_rfl
theorem u894 : u8sl Tryd.prog 94 = true := by kernel_rfl
theorem int102 : intKd Tryd.prog 102 = some .u64 := by kernel_rfl
end Ty
end Go.Av
end
section
set_option linter.unusedSimpArgs false
set_option linter.unusedVariables false
set_option maxRecDepth 100000
namespace Go.Av
open Go.Proofs

def rng (n lo hi : Int) : Bool := decide (lo ≤ n ∧ n ≤ hi)

theorem l1In_does (n lo hi : Int) : Does Tryd.prog 71 [I n, I lo, I hi] (B (rng n lo hi)) := by
  refine Does.walk (nt := 15) Tryd.func71 rfl rfl (by simp) (by decide) rfl (fun G0 X w0 pv => ?_)
  have ff := trivial
  try refine st_by ff ?_
  repeat' (first
    | exact trivial
    | (refine And.intro ?_ ?_; · (try clear ff; first | omega))
    | (refine ret_q1 rfl ?_; (try refine sr_by ff ?_); all_goals (try clear ff); all_goals (try exact trivial); all_goals ((simp [rng]; omega)))
    | (with_reducible refine CBC_eq (fun hp hd => ?_) (fun hp hd => ?_) <;> refine st_by (And.intro hd ff) ?_)
    | (with_reducible refine CBC_ne (fun hp hd => ?_) (fun hp hd => ?_) <;> refine st_by (And.intro hd ff) ?_)
    | (with_reducible refine CBC_decT ?_ (fun hd => ?_); (· try clear ff; first | assumption | omega); refine st_by (And.intro hd ff) ?_)
    | (with_reducible refine CBC_decF ?_ (fun hd => ?_); (· try clear ff; first | assumption | omega); refine st_by (And.intro hd ff) ?_)
    | (with_reducible refine CBC_dec (fun hp hd => ?_) (fun hp hd => ?_) <;> refine st_by (And.intro hd ff) ?_)
    | (refine CBC_bool (fun hd => ?_) (fun hd => ?_) <;> refine st_by (And.intro hd ff) ?_)
    | (with_reducible refine GQ_eq (fun hp hd => ?_) (fun hp hd => ?_) <;> refine st_by (And.intro hd ff) ?_)
    | (with_reducible refine GQ_ne (fun hp hd => ?_) (fun hp hd => ?_) <;> refine st_by (And.intro hd ff) ?_)
    | (with_reducible refine GQ_decT ?_ (fun hd => ?_); (· try clear ff; first | assumption | omega); refine st_by (And.intro hd ff) ?_)
    | (with_reducible refine GQ_decF ?_ (fun hd => ?_); (· try clear ff; first | assumption | omega); refine st_by (And.intro hd ff) ?_)
    | (with_reducible refine GQ_dec (fun hp hd => ?_) (fun hp hd => ?_) <;> refine st_by (And.intro hd ff) ?_)
    | (with_reducible refine GQ_ndT ?_ (fun hd => ?_); (· try clear ff; first | assumption | omega); refine st_by (And.intro hd ff) ?_)
    | (with_reducible refine GQ_ndF ?_ (fun hd => ?_); (· try clear ff; first | assumption | omega); refine st_by (And.intro hd ff) ?_)
    | (with_reducible refine GQ_nd (fun hp hd => ?_) (fun hp hd => ?_) <;> refine st_by (And.intro hd ff) ?_)
    | (refine GQ_nb (fun hd => ?_) (fun hd => ?_) <;> refine st_by (And.intro hd ff) ?_)
    | (refine GQ_bool (fun hd => ?_) (fun hd => ?_) <;> refine st_by (And.intro hd ff) ?_))
  all_goals try clear ff
theorem inRange_does (n lo hi : Int) : Does Tryd.prog 72 [I n, I lo, I hi] (B (rng n lo hi)) := by
  refine Does.walk (nt := 15) Tryd.func72 rfl rfl (by simp) (by decide) rfl (fun G0 X w0 pv => ?_)
  have ff := trivial
  try refine st_by ff ?_
  repeat' (first
    | exact trivial
    | (refine And.intro ?_ ?_; · (try clear ff; first | omega))
    | (refine ret_q1 rfl ?_; (try refine sr_by ff ?_); all_goals (try clear ff); all_goals (try exact trivial); all_goals ((simp [rng]; omega)))
    | (with_reducible refine CBC_eq (fun hp hd => ?_) (fun hp hd => ?_) <;> refine st_by (And.intro hd ff) ?_)
    | (with_reducible refine CBC_ne (fun hp hd => ?_) (fun hp hd => ?_) <;> refine st_by (And.intro hd ff) ?_)
    | (with_reducible refine CBC_decT ?_ (fun hd => ?_); (· try clear ff; first | assumption | omega); refine st_by (And.intro hd ff) ?_)
    | (with_reducible refine CBC_decF ?_ (fun hd => ?_); (· try clear ff; first | assumption | omega); refine st_by (And.intro hd ff) ?_)
    | (with_reducible refine CBC_dec (fun hp hd => ?_) (fun hp hd => ?_) <;> refine st_by (And.intro hd ff) ?_)
    | (refine CBC_bool (fun hd => ?_) (fun hd => ?_) <;> refine st_by (And.intro hd ff) ?_)
    | (with_reducible refine GQ_eq (fun hp hd => ?_) (fun hp hd => ?_) <;> refine st_by (And.intro hd ff) ?_)
    | (with_reducible refine GQ_ne (fun hp hd => ?_) (fun hp hd => ?_) <;> refine st_by (And.intro hd ff) ?_)
    | (with_reducible refine GQ_decT ?_ (fun hd => ?_); (· try clear ff; first | assumption | omega); refine st_by (And.intro hd ff) ?_)
    | (with_reducible refine GQ_decF ?_ (fun hd => ?_); (· try clear ff; first | assumption | omega); refine st_by (And.intro hd ff) ?_)
    | (with_reducible refine GQ_dec (fun hp hd => ?_) (fun hp hd => ?_) <;> refine st_by (And.intro hd ff) ?_)
    | (with_reducible refine GQ_ndT ?_ (fun hd => ?_); (· try clear ff; first | assumption | omega); refine st_by (And.intro hd ff) ?_)
    | (with_reducible refine GQ_ndF ?_ (fun hd => ?_); (· try clear ff; first | assumption | omega); refine st_by (And.intro hd ff) ?_)
    | (with_reducible refine GQ_nd (fun hp hd => ?_) (fun hp hd => ?_) <;> refine st_by (And.intro hd ff) ?_)
    | (refine GQ_nb (fun hd => ?_) (fun hd => ?_) <;> refine st_by (And.intro hd ff) ?_)
    | (refine GQ_bool (fun hd => ?_) (fun hd => ?_) <;> refine st_by (And.intro hd ff) ?_))
  all_goals try clear ff
end Go.Av
end
section
set_option linter.unusedSimpArgs false
set_option linter.unusedVariables false
set_option maxRecDepth 100000
namespace Go.Av
open Go.Proofs

def lett (c : Int) : Bool := (decide (c ≥ 97) && decide (c ≤ 122)) || (decide (c ≥ 65) && decide (c ≤ 90))
def digt (c : Int) : Bool := decide (c ≥ 48) && decide (c ≤ 57)

theorem isDigit_does (c : Int) : Does Tryd.prog 84 [U8 c] (B (digt c)) := by
  refine Does.walk (nt := 9) Tryd.func84 rfl rfl (by simp) (by decide) rfl (fun G0 X w0 pv => ?_)
  have ff := trivial
  try refine st_by ff ?_
  repeat' (first
    | exact trivial
    | (refine And.intro ?_ ?_; · (try clear ff; first | omega))
    | (refine ret_q1 rfl ?_; (try refine sr_by ff ?_); all_goals (try clear ff); all_goals (try exact trivial); all_goals (simp [digt, *]))
    | (with_reducible refine CBC_eq (fun hp hd => ?_) (fun hp hd => ?_) <;> refine st_by (And.intro hd ff) ?_)
    | (with_reducible refine CBC_ne (fun hp hd => ?_) (fun hp hd => ?_) <;> refine st_by (And.intro hd ff) ?_)
    | (with_reducible refine CBC_decT ?_ (fun hd => ?_); (· try clear ff; first | assumption | omega); refine st_by (And.intro hd ff) ?_)
    | (with_reducible refine CBC_decF ?_ (fun hd => ?_); (· try clear ff; first | assumption | omega); refine st_by (And.intro hd ff) ?_)
    | (with_reducible refine CBC_dec (fun hp hd => ?_) (fun hp hd => ?_) <;> refine st_by (And.intro hd ff) ?_)
    | (refine CBC_bool (fun hd => ?_) (fun hd => ?_) <;> refine st_by (And.intro hd ff) ?_)
    | (with_reducible refine GQ_eq (fun hp hd => ?_) (fun hp hd => ?_) <;> refine st_by (And.intro hd ff) ?_)
    | (with_reducible refine GQ_ne (fun hp hd => ?_) (fun hp hd => ?_) <;> refine st_by (And.intro hd ff) ?_)
    | (with_reducible refine GQ_decT ?_ (fun hd => ?_); (· try clear ff; first | assumption | omega); refine st_by (And.intro hd ff) ?_)
    | (with_reducible refine GQ_decF ?_ (fun hd => ?_); (· try clear ff; first | assumption | omega); refine st_by (And.intro hd ff) ?_)
    | (with_reducible refine GQ_dec (fun hp hd => ?_) (fun hp hd => ?_) <;> refine st_by (And.intro hd ff) ?_)
    | (with_reducible refine GQ_ndT ?_ (fun hd => ?_); (· try clear ff; first | assumption | omega); refine st_by (And.intro hd ff) ?_)
    | (with_reducible refine GQ_ndF ?_ (fun hd => ?_); (· try clear ff; first | assumption | omega); refine st_by (And.intro hd ff) ?_)
    | (with_reducible refine GQ_nd (fun hp hd => ?_) (fun hp hd => ?_) <;> refine st_by (And.intro hd ff) ?_)
    | (refine GQ_nb (fun hd => ?_) (fun hd => ?_) <;> refine st_by (And.intro hd ff) ?_)
    | (refine GQ_bool (fun hd => ?_) (fun hd => ?_) <;> refine st_by (And.intro hd ff) ?_))
  all_goals try clear ff
theorem l1Digit_does (c : Int) : Does Tryd.prog 76 [U8 c] (B (digt c)) := by
  refine Does.walk (nt := 9) Tryd.func76 rfl rfl (by simp) (by decide) rfl (fun G0 X w0 pv => ?_)
  have ff := trivial
  try refine st_by ff ?_
  repeat' (first
    | exact trivial
    | (refine And.intro ?_ ?_; · (try clear ff; first | omega))
    | (refine ret_q1 rfl ?_; (try refine sr_by ff ?_); all_goals (try clear ff); all_goals (try exact trivial); all_goals (simp [digt, *]))
    | (with_reducible refine CBC_eq (fun hp hd => ?_) (fun hp hd => ?_) <;> refine st_by (And.intro hd ff) ?_)
    | (with_reducible refine CBC_ne (fun hp hd => ?_) (fun hp hd => ?_) <;> refine st_by (And.intro hd ff) ?_)
    | (with_reducible refine CBC_decT ?_ (fun hd => ?_); (· try clear ff; first | assumption | omega); refine st_by (And.intro hd ff) ?_)
    | (with_reducible refine CBC_decF ?_ (fun hd => ?_); (· try clear ff; first | assumption | omega); refine st_by (And.intro hd ff) ?_)
    | (with_reducible refine CBC_dec (fun hp hd => ?_) (fun hp hd => ?_) <;> refine st_by (And.intro hd ff) ?_)
    | (refine CBC_bool (fun hd => ?_) (fun hd => ?_) <;> refine st_by (And.intro hd ff) ?_)
    | (with_reducible refine GQ_eq (fun hp hd => ?_) (fun hp hd => ?_) <;> refine st_by (And.intro hd ff) ?_)
    | (with_reducible refine GQ_ne (fun hp hd => ?_) (fun hp hd => ?_) <;> refine st_by (And.intro hd ff) ?_)
    | (with_reducible refine GQ_decT ?_ (fun hd => ?_); (· try clear ff; first | assumption | omega); refine st_by (And.intro hd ff) ?_)
    | (with_reducible refine GQ_decF ?_ (fun hd => ?_); (· try clear ff; first | assumption | omega); refine st_by (And.intro hd ff) ?_)
    | (with_reducible refine GQ_dec (fun hp hd => ?_) (fun hp hd => ?_) <;> refine st_by (And.intro hd ff) ?_)
    | (with_reducible refine GQ_ndT ?_ (fun hd => ?_); (· try clear ff; first | assumption | omega); refine st_by (And.intro hd ff) ?_)
    | (with_reducible refine GQ_ndF ?_ (fun hd => ?_); (· try clear ff; first | assumption | omega); refine st_by (And.intro hd ff) ?_)
    | (with_reducible refine GQ_nd (fun hp hd => ?_) (fun hp hd => ?_) <;> refine st_by (And.intro hd ff) ?_)
    | (refine GQ_nb (fun hd => ?_) (fun hd => ?_) <;> refine st_by (And.intro hd ff) ?_)
    | (refine GQ_bool (fun hd => ?_) (fun hd => ?_) <;> refine st_by (And.intro hd ff) ?_))
  all_goals try clear ff
theorem isLetter_does (c : Int) : Does Tryd.prog 83 [U8 c] (B (lett c)) := by
  refine Does.walk (nt := 17) Tryd.func83 rfl rfl (by simp) (by decide) rfl (fun G0 X w0 pv => ?_)
  have ff := trivial
  try refine st_by ff ?_
  repeat' (first
    | exact trivial
    | (refine And.intro ?_ ?_; · (try clear ff; first | omega))
    | (refine ret_q1 rfl ?_; (try refine sr_by ff ?_); all_goals (try clear ff); all_goals (try exact trivial); all_goals (first | (simp [lett, *]; done) | (simp [lett, *]; omega)))
    | (with_reducible refine CBC_eq (fun hp hd => ?_) (fun hp hd => ?_) <;> refine st_by (And.intro hd ff) ?_)
    | (with_reducible refine CBC_ne (fun hp hd => ?_) (fun hp hd => ?_) <;> refine st_by (And.intro hd ff) ?_)
    | (with_reducible refine CBC_decT ?_ (fun hd => ?_); (· try clear ff; first | assumption | omega); refine st_by (And.intro hd ff) ?_)
    | (with_reducible refine CBC_decF ?_ (fun hd => ?_); (· try clear ff; first | assumption | omega); refine st_by (And.intro hd ff) ?_)
    | (with_reducible refine CBC_dec (fun hp hd => ?_) (fun hp hd => ?_) <;> refine st_by (And.intro hd ff) ?_)
    | (refine CBC_bool (fun hd => ?_) (fun hd => ?_) <;> refine st_by (And.intro hd ff) ?_)
    | (with_reducible refine GQ_eq (fun hp hd => ?_) (fun hp hd => ?_) <;> refine st_by (And.intro hd ff) ?_)
    | (with_reducible refine GQ_ne (fun hp hd => ?_) (fun hp hd => ?_) <;> refine st_by (And.intro hd ff) ?_)
    | (with_reducible refine GQ_decT ?_ (fun hd => ?_); (· try clear ff; first | assumption | omega); refine st_by (And.intro hd ff) ?_)
    | (with_reducible refine GQ_decF ?_ (fun hd => ?_); (· try clear ff; first | assumption | omega); refine st_by (And.intro hd ff) ?_)
    | (with_reducible refine GQ_dec (fun hp hd => ?_) (fun hp hd => ?_) <;> refine st_by (And.intro hd ff) ?_)
    | (with_reducible refine GQ_ndT ?_ (fun hd => ?_); (· try clear ff; first | assumption | omega); refine st_by (And.intro hd ff) ?_)
    | (with_reducible refine GQ_ndF ?_ (fun hd => ?_); (· try clear ff; first | assumption | omega); refine st_by (And.intro hd ff) ?_)
    | (with_reducible refine GQ_nd (fun hp hd => ?_) (fun hp hd => ?_) <;> refine st_by (And.intro hd ff) ?_)
    | (refine GQ_nb (fun hd => ?_) (fun hd => ?_) <;> refine st_by (And.intro hd ff) ?_)
    | (refine GQ_bool (fun hd => ?_) (fun hd => ?_) <;> refine st_by (And.intro hd ff) ?_))
  all_goals try clear ff
theorem l1Letter_does (c : Int) : Does Tryd.prog 77 [U8 c] (B (lett c || c == 95)) := by
  refine Does.walk (nt := 21) Tryd.func77 rfl rfl (by simp) (by decide) rfl (fun G0 X w0 pv => ?_)
  have ff := trivial
  try refine st_by ff ?_
  repeat' (first
    | exact trivial
    | (refine And.intro ?_ ?_; · (try clear ff; first | omega))
    | (refine ret_q1 rfl ?_; (try refine sr_by ff ?_); all_goals (try clear ff); all_goals (try exact trivial); all_goals ((simp [lett]; omega)))
    | (with_reducible refine CBC_eq (fun hp hd => ?_) (fun hp hd => ?_) <;> refine st_by (And.intro hd ff) ?_)
    | (with_reducible refine CBC_ne (fun hp hd => ?_) (fun hp hd => ?_) <;> refine st_by (And.intro hd ff) ?_)
    | (with_reducible refine CBC_decT ?_ (fun hd => ?_); (· try clear ff; first | assumption | omega); refine st_by (And.intro hd ff) ?_)
    | (with_reducible refine CBC_decF ?_ (fun hd => ?_); (· try clear ff; first | assumption | omega); refine st_by (And.intro hd ff) ?_)
    | (with_reducible refine CBC_dec (fun hp hd => ?_) (fun hp hd => ?_) <;> refine st_by (And.intro hd ff) ?_)
    | (refine CBC_bool (fun hd => ?_) (fun hd => ?_) <;> refine st_by (And.intro hd ff) ?_)
    | (with_reducible refine GQ_eq (fun hp hd => ?_) (fun hp hd => ?_) <;> refine st_by (And.intro hd ff) ?_)
    | (with_reducible refine GQ_ne (fun hp hd => ?_) (fun hp hd => ?_) <;> refine st_by (And.intro hd ff) ?_)
    | (with_reducible refine GQ_decT ?_ (fun hd => ?_); (· try clear ff; first | assumption | omega); refine st_by (And.intro hd ff) ?_)
    | (with_reducible refine GQ_decF ?_ (fun hd => ?_); (· try clear ff; first | assumption | omega); refine st_by (And.intro hd ff) ?_)
    | (with_reducible refine GQ_dec (fun hp hd => ?_) (fun hp hd => ?_) <;> refine st_by (And.intro hd ff) ?_)
    | (with_reducible refine GQ_ndT ?_ (fun hd => ?_); (· try clear ff; first | assumption | omega); refine st_by (And.intro hd ff) ?_)
    | (with_reducible refine GQ_ndF ?_ (fun hd => ?_); (· try clear ff; first | assumption | omega); refine st_by (And.intro hd ff) ?_)
    | (with_reducible refine GQ_nd (fun hp hd => ?_) (fun hp hd => ?_) <;> refine st_by (And.intro hd ff) ?_)
    | (refine GQ_nb (fun hd => ?_) (fun hd => ?_) <;> refine st_by (And.intro hd ff) ?_)
    | (refine GQ_bool (fun hd => ?_) (fun hd => ?_) <;> refine st_by (And.intro hd ff) ?_))
  all_goals try clear ff

/-- May the byte at 'i' stand in a name? -/
def gnB (s : ByteArray) (i : Nat) : Bool := lett (byteAt s i) || byteAt s i == 95 || (i != 0 && digt (byteAt s i))
def goodName (s : ByteArray) : Bool := rng s.size 1 20 && (List.range s.size).all (gnB s)

theorem implGoodName_does (s : ByteArray) (hs : s.size ≤ 9223372036854775807) : Does Tryd.prog 70 [S s] (B (goodName s)) := by
  have bad : ∀ k, k < s.size → gnB s k = false → goodName s = false := fun k hk h => by
    simp only [goodName, Bool.and_eq_false_iff]
    right
    rw [List.all_eq_false]
    exact ⟨k, List.mem_range.2 hk, by simp [h]⟩
  refine Does.walk (nt := 35) Tryd.func70 rfl rfl (by simp) (by decide) rfl (fun G0 X w0 pv => ?_)
  (first | exact cl_by @Ty.str9 | refine st_by @Ty.str9 ?_)
  refine aw_loop (ι := Nat) (fun k σ => k ≤ s.size ∧ (∀ i, i < k → gnB s i = true) ∧ σ.t 0 = S s ∧ σ.t 5 = I s.size ∧ σ.t 6 = I k) (fun k => s.size - k) 0 ?_ ?_
  · (first | exact cl_by trivial | refine st_by trivial ?_)
    simp
  · rintro k σ ⟨hk, hok, h0, h5, h6⟩
    have w1 : k < s.size → IntKind.i64.wrap ((k : Int) + 1) = ((k + 1 : Nat) : Int) := fun _ => wI _ (by omega) (by omega)
    have good : gnB s k = true → ∀ i, i < k + 1 → gnB s i = true := fun h i hi => by
        by_cases hik : i = k
        · rw [hik]; exact h
        · exact hok i (by omega)
    have all : k = s.size → (List.range s.size).all (gnB s) = true := fun e => List.all_eq_true.2 (fun i hi => hok i (by have := List.mem_range.1 hi; omega))
    clear hok
    have ff := And.intro @h0 (And.intro @h5 (And.intro @h6 @Ty.str9))
    try refine st_by ff ?_
    repeat' (first
      | exact trivial
      | (refine And.intro ?_ ?_; · (try clear ff; first | omega))
      | (refine ret_q1 rfl ?_; (try refine sr_by ff ?_); all_goals (try clear ff); all_goals (try exact trivial); all_goals (first | (rw [bad k]; (· omega); (· simp_all [gnB])) | (have := all (by omega); simp [goodName, this])))
      | (with_reducible refine cq_call (isLetter_does (byteAt s k)) ?_ ?_ ⟨?_, ?_⟩; (· first | rfl | exact cl_by ff); (· first | assumption | kernel_rfl); (· first | exact ca_by ff | (refine sa_by ff ?_; try clear ff; first | exact trivial | omega)); refine st_by ff ?_)
      | (with_reducible refine cq_call (isDigit_does (byteAt s k)) ?_ ?_ ⟨?_, ?_⟩; (· first | rfl | exact cl_by ff); (· first | assumption | kernel_rfl); (· first | exact ca_by ff | (refine sa_by ff ?_; try clear ff; first | exact trivial | omega)); refine st_by ff ?_)
      | (with_reducible refine cq_call (inRange_does s.size 1 20) ?_ ?_ ⟨?_, ?_⟩; (· first | rfl | exact cl_by ff); (· first | assumption | kernel_rfl); (· first | exact ca_by ff | (refine sa_by ff ?_; try clear ff; first | exact trivial | omega)); refine st_by ff ?_)
      | (with_reducible refine CBC_eq (fun hp hd => ?_) (fun hp hd => ?_) <;> refine st_by (And.intro hd ff) ?_)
      | (with_reducible refine CBC_ne (fun hp hd => ?_) (fun hp hd => ?_) <;> refine st_by (And.intro hd ff) ?_)
      | (with_reducible refine CBC_decT ?_ (fun hd => ?_); (· try clear ff; first | assumption | omega); refine st_by (And.intro hd ff) ?_)
      | (with_reducible refine CBC_decF ?_ (fun hd => ?_); (· try clear ff; first | assumption | omega); refine st_by (And.intro hd ff) ?_)
      | (with_reducible refine CBC_dec (fun hp hd => ?_) (fun hp hd => ?_) <;> refine st_by (And.intro hd ff) ?_)
      | (refine CBC_bool (fun hd => ?_) (fun hd => ?_) <;> refine st_by (And.intro hd ff) ?_)
      | (with_reducible refine GQ_eq (fun hp hd => ?_) (fun hp hd => ?_) <;> refine st_by (And.intro hd ff) ?_)
      | (with_reducible refine GQ_ne (fun hp hd => ?_) (fun hp hd => ?_) <;> refine st_by (And.intro hd ff) ?_)
      | (with_reducible refine GQ_decT ?_ (fun hd => ?_); (· try clear ff; first | assumption | omega); refine st_by (And.intro hd ff) ?_)
      | (with_reducible refine GQ_decF ?_ (fun hd => ?_); (· try clear ff; first | assumption | omega); refine st_by (And.intro hd ff) ?_)
      | (with_reducible refine GQ_dec (fun hp hd => ?_) (fun hp hd => ?_) <;> refine st_by (And.intro hd ff) ?_)
      | (with_reducible refine GQ_ndT ?_ (fun hd => ?_); (· try clear ff; first | assumption | omega); refine st_by (And.intro hd ff) ?_)
      | (with_reducible refine GQ_ndF ?_ (fun hd => ?_); (· try clear ff; first | assumption | omega); refine st_by (And.intro hd ff) ?_)
      | (with_reducible refine GQ_nd (fun hp hd => ?_) (fun hp hd => ?_) <;> refine st_by (And.intro hd ff) ?_)
      | (refine GQ_nb (fun hd => ?_) (fun hd => ?_) <;> refine st_by (And.intro hd ff) ?_)
      | (refine GQ_bool (fun hd => ?_) (fun hd => ?_) <;> refine st_by (And.intro hd ff) ?_)
      | ((try clear ff); refine ⟨k + 1, ⟨?_, good ?_, ?_⟩, ?_⟩; (· omega); (· simp_all [gnB]); (· rw [w1 (by omega)]); (· omega)))
    all_goals try clear ff

theorem specGoodName_does (s : ByteArray) (hs : s.size ≤ 9223372036854775807) : Does Tryd.prog 65 [S s] (B (goodName s)) := by
  have short : ¬ (1 ≤ s.size ∧ s.size ≤ 20) → goodName s = false := fun h => by simp [goodName, rng]; omega
  have bad : ∀ k, k < s.size → gnB s k = false → goodName s = false := fun k hk h => by
    simp only [goodName, Bool.and_eq_false_iff]
    right
    rw [List.all_eq_false]
    exact ⟨k, List.mem_range.2 hk, by simp [h]⟩
  have dig0 : digt (byteAt s 0) = true → gnB s 0 = false := fun h => by
    simp only [digt, Bool.and_eq_true, decide_eq_true_eq] at h
    simp [gnB, lett]; omega
  refine Does.walk (nt := 35) Tryd.func65 rfl rfl (by simp) (by decide) rfl (fun G0 X w0 pv => ?_)
  have ff := @Ty.str9
  try refine st_by ff ?_
  repeat' (first
    | exact trivial
    | (refine And.intro ?_ ?_; · (try clear ff; first | omega))
    | (refine ret_q1 rfl ?_; (try refine sr_by ff ?_); all_goals (try clear ff); all_goals (try exact trivial); all_goals (first | (rw [short]; omega) | (rw [bad 0]; (· omega); (· exact dig0 hd))))
    | (with_reducible refine cq_call (l1Digit_does (byteAt s 0)) ?_ ?_ ⟨?_, ?_⟩; (· first | rfl | exact cl_by ff); (· first | assumption | kernel_rfl); (· first | exact ca_by ff | (refine sa_by ff ?_; try clear ff; first | exact trivial | omega)); refine st_by ff ?_)
    | (with_reducible refine CBC_eq (fun hp hd => ?_) (fun hp hd => ?_) <;> refine st_by (And.intro hd ff) ?_)
    | (with_reducible refine CBC_ne (fun hp hd => ?_) (fun hp hd => ?_) <;> refine st_by (And.intro hd ff) ?_)
    | (with_reducible refine CBC_decT ?_ (fun hd => ?_); (· try clear ff; first | assumption | omega); refine st_by (And.intro hd ff) ?_)
    | (with_reducible refine CBC_decF ?_ (fun hd => ?_); (· try clear ff; first | assumption | omega); refine st_by (And.intro hd ff) ?_)
    | (with_reducible refine CBC_dec (fun hp hd => ?_) (fun hp hd => ?_) <;> refine st_by (And.intro hd ff) ?_)
    | (refine CBC_bool (fun hd => ?_) (fun hd => ?_) <;> refine st_by (And.intro hd ff) ?_)
    | (with_reducible refine GQ_eq (fun hp hd => ?_) (fun hp hd => ?_) <;> refine st_by (And.intro hd ff) ?_)
    | (with_reducible refine GQ_ne (fun hp hd => ?_) (fun hp hd => ?_) <;> refine st_by (And.intro hd ff) ?_)
    | (with_reducible refine GQ_decT ?_ (fun hd => ?_); (· try clear ff; first | assumption | omega); refine st_by (And.intro hd ff) ?_)
    | (with_reducible refine GQ_decF ?_ (fun hd => ?_); (· try clear ff; first | assumption | omega); refine st_by (And.intro hd ff) ?_)
    | (with_reducible refine GQ_dec (fun hp hd => ?_) (fun hp hd => ?_) <;> refine st_by (And.intro hd ff) ?_)
    | (with_reducible refine GQ_ndT ?_ (fun hd => ?_); (· try clear ff; first | assumption | omega); refine st_by (And.intro hd ff) ?_)
    | (with_reducible refine GQ_ndF ?_ (fun hd => ?_); (· try clear ff; first | assumption | omega); refine st_by (And.intro hd ff) ?_)
    | (with_reducible refine GQ_nd (fun hp hd => ?_) (fun hp hd => ?_) <;> refine st_by (And.intro hd ff) ?_)
    | (refine GQ_nb (fun hd => ?_) (fun hd => ?_) <;> refine st_by (And.intro hd ff) ?_)
    | (refine GQ_bool (fun hd => ?_) (fun hd => ?_) <;> refine st_by (And.intro hd ff) ?_))
  all_goals try clear ff
  have a0 : digt (byteAt s 0) = false := hd
  refine aw_loop (ι := Nat) (fun k σ => k ≤ s.size ∧ (∀ i, i < k → gnB s i = true) ∧ σ.t 0 = S s ∧ σ.t 3 = I k) (fun k => s.size - k) 0 ?_ ?_
  · (first | exact cl_by trivial | refine st_by trivial ?_)
    simp
  · rintro k σ ⟨hk, hok, g0, g3⟩
    have w1 : k < s.size → IntKind.i64.wrap ((k : Int) + 1) = ((k + 1 : Nat) : Int) := fun _ => wI _ (by omega) (by omega)
    have good : gnB s k = true → ∀ i, i < k + 1 → gnB s i = true := fun h i hi => by
        by_cases hik : i = k
        · rw [hik]; exact h
        · exact hok i (by omega)
    have zero : k = 0 → digt (byteAt s k) = false := fun h => by subst h; exact a0
    have all : k = s.size → goodName s = true := fun e => by
      simp only [goodName, rng, Bool.and_eq_true, decide_eq_true_eq]
      exact ⟨by omega, List.all_eq_true.2 (fun i hi => hok i (by have := List.mem_range.1 hi; omega))⟩
    clear hok
    have ff := And.intro @g0 (And.intro @g3 @Ty.str9)
    try refine st_by ff ?_
    repeat' (first
      | exact trivial
      | (refine And.intro ?_ ?_; · (try clear ff; first | omega))
      | (refine ret_q1 rfl ?_; (try refine sr_by ff ?_); all_goals (try clear ff); all_goals (try exact trivial); all_goals (first | (rw [all]; omega) | (rw [bad k]; (· omega); (· simp_all [gnB]))))
      | (with_reducible refine cq_call (l1Letter_does (byteAt s k)) ?_ ?_ ⟨?_, ?_⟩; (· first | rfl | exact cl_by ff); (· first | assumption | kernel_rfl); (· first | exact ca_by ff | (refine sa_by ff ?_; try clear ff; first | exact trivial | omega)); refine st_by ff ?_)
      | (with_reducible refine cq_call (l1Digit_does (byteAt s k)) ?_ ?_ ⟨?_, ?_⟩; (· first | rfl | exact cl_by ff); (· first | assumption | kernel_rfl); (· first | exact ca_by ff | (refine sa_by ff ?_; try clear ff; first | exact trivial | omega)); refine st_by ff ?_)
      | (with_reducible refine CBC_eq (fun hp hd => ?_) (fun hp hd => ?_) <;> refine st_by (And.intro hd ff) ?_)
      | (with_reducible refine CBC_ne (fun hp hd => ?_) (fun hp hd => ?_) <;> refine st_by (And.intro hd ff) ?_)
      | (with_reducible refine CBC_decT ?_ (fun hd => ?_); (· try clear ff; first | assumption | omega); refine st_by (And.intro hd ff) ?_)
      | (with_reducible refine CBC_decF ?_ (fun hd => ?_); (· try clear ff; first | assumption | omega); refine st_by (And.intro hd ff) ?_)
      | (with_reducible refine CBC_dec (fun hp hd => ?_) (fun hp hd => ?_) <;> refine st_by (And.intro hd ff) ?_)
      | (refine CBC_bool (fun hd => ?_) (fun hd => ?_) <;> refine st_by (And.intro hd ff) ?_)
      | (with_reducible refine GQ_eq (fun hp hd => ?_) (fun hp hd => ?_) <;> refine st_by (And.intro hd ff) ?_)
      | (with_reducible refine GQ_ne (fun hp hd => ?_) (fun hp hd => ?_) <;> refine st_by (And.intro hd ff) ?_)
      | (with_reducible refine GQ_decT ?_ (fun hd => ?_); (· try clear ff; first | assumption | omega); refine st_by (And.intro hd ff) ?_)
      | (with_reducible refine GQ_decF ?_ (fun hd => ?_); (· try clear ff; first | assumption | omega); refine st_by (And.intro hd ff) ?_)
      | (with_reducible refine GQ_dec (fun hp hd => ?_) (fun hp hd => ?_) <;> refine st_by (And.intro hd ff) ?_)
      | (with_reducible refine GQ_ndT ?_ (fun hd => ?_); (· try clear ff; first | assumption | omega); refine st_by (And.intro hd ff) ?_)
      | (with_reducible refine GQ_ndF ?_ (fun hd => ?_); (· try clear ff; first | assumption | omega); refine st_by (And.intro hd ff) ?_)
      | (with_reducible refine GQ_nd (fun hp hd => ?_) (fun hp hd => ?_) <;> refine st_by (And.intro hd ff) ?_)
      | (refine GQ_nb (fun hd => ?_) (fun hd => ?_) <;> refine st_by (And.intro hd ff) ?_)
      | (refine GQ_bool (fun hd => ?_) (fun hd => ?_) <;> refine st_by (And.intro hd ff) ?_)
      | ((try clear ff); refine ⟨k + 1, ⟨?_, good ?_, ?_⟩, ?_⟩; (· omega); (· by_cases hk0 : k = 0 <;> simp_all [gnB]); (· rw [w1 (by omega)]); (· omega)))
    all_goals try clear ff
end Go.Av
end
section
set_option linter.unusedSimpArgs false
set_option linter.unusedVariables false
set_option maxRecDepth 100000
set_option maxHeartbeats 1000000
namespace Go.Av
open Go.Proofs
/-! spec.l1Split -/
def p_spec_l1Split_j0 (s_a0 : ByteArray) (at_9 : Int) (i_10 : Int) (out_11 : List ByteArray) (rec_0 : Int → Int → (List ByteArray) → Option (Int × Int × (List ByteArray))) (b_23 : Bool) : Option (Int × Int × (List ByteArray)) := (if b_23 = true then ((bslc s_a0 at_9 i_10).bind fun m25 => (if out_11.length < 4294967296 then rec_0 (IntKind.i64.wrap (i_10 + 1)) (IntKind.i64.wrap (i_10 + 1)) (out_11 ++ [m25]) else none)) else rec_0 at_9 (IntKind.i64.wrap (i_10 + 1)) out_11)
def p_spec_l1Split_l0 (s_a0 : ByteArray) (b_a1 : Int) : Nat → Int → Int → (List ByteArray) → Option (Int × Int × (List ByteArray))
  | 0, _, _, _ => none
  | n_0 + 1, at_9, i_10, out_11 => (if i_10 ≤ (s_a0.size : Int) then (if i_10 = (s_a0.size : Int) then p_spec_l1Split_j0 s_a0 at_9 i_10 out_11 (p_spec_l1Split_l0 s_a0 b_a1 n_0) true else ((bidx s_a0 i_10).bind fun y30 => p_spec_l1Split_j0 s_a0 at_9 i_10 out_11 (p_spec_l1Split_l0 s_a0 b_a1 n_0) (y30 == b_a1))) else some (at_9, i_10, out_11))
theorem p_spec_l1Split_pv {F C A : Prop} (hF : F) (hC : C) (h : F → C → A := by intro hF hC; first | exact cl_by hF | (refine st_by hF ?_; (repeat' (first | exact trivial | apply And.intro)); all_goals (clear hF; first | rfl | (simp only [hC, List.length_append, List.length_cons, List.length_nil, List.append_nil, List.nil_append, List.cons_append, List.length_set, List.append_assoc, Nat.zero_add, List.length_replicate, esStr_app, esStr_cons, esStr_nil, eStr_eq]; done) | (simp [hC, List.length_append, List.length_cons, List.length_nil, List.append_nil, List.nil_append, List.cons_append, List.length_set, List.append_assoc, Nat.zero_add, List.length_replicate, esStr_app, esStr_cons, esStr_nil, eStr_eq]; done) | omega))) : A := h hF hC
theorem p_spec_l1Split_rt {F C A : Prop} (hF : F) (hC : C) (h : F → C → A := by intro hF hC; first | (refine sr_by hF ?_; (repeat' (first | exact trivial | apply And.intro)); all_goals (clear hF; first | rfl | (simp only [hC, List.length_append, List.length_cons, List.length_nil, List.append_nil, List.nil_append, List.cons_append, List.length_set, List.append_assoc, Nat.zero_add, List.length_replicate, esStr_app, esStr_cons, esStr_nil, eStr_eq]; done) | (simp [hC, List.length_append, List.length_cons, List.length_nil, List.append_nil, List.nil_append, List.cons_append, List.length_set, List.append_assoc, Nat.zero_add, List.length_replicate, esStr_app, esStr_cons, esStr_nil, eStr_eq]; done) | omega)) | (first | rfl | (simp only [hC, List.length_append, List.length_cons, List.length_nil, List.append_nil, List.nil_append, List.cons_append, List.length_set, List.append_assoc, Nat.zero_add, List.length_replicate, esStr_app, esStr_cons, esStr_nil, eStr_eq]; done) | (simp [hC, List.length_append, List.length_cons, List.length_nil, List.append_nil, List.nil_append, List.cons_append, List.length_set, List.append_assoc, Nat.zero_add, List.length_replicate, esStr_app, esStr_cons, esStr_nil, eStr_eq]; done) | omega)) : A := h hF hC
def p_spec_l1Split_tf := PLift.up (And.intro @eStr_eq (And.intro @esStr_len (And.intro @esStr_nil (And.intro @esStr_leaf (And.intro @esStr_fit (And.intro @esStr_share (And.intro @esStr_pure (And.intro @str_beq (And.intro @Ty.str9 (And.intro @Ty.nze84 (And.intro @Ty.sl84 (And.intro @Ty.slz84 (And.intro @Ty.zok84 (And.intro @Ty.by84 (And.intro @Ty.zs84 @trivial)))))))))))))))
def p_spec_l1Split (N : Nat) (s_a0 : ByteArray) (b_a1 : Int) : Option (List ByteArray) := ((p_spec_l1Split_l0 s_a0 b_a1 N 0 0 ([] : List ByteArray)).bind fun q_0 => match q_0 with | (at_9, i_10, out_11) => some out_11)
theorem p_spec_l1Split_does (N : Nat) (s_a0 : ByteArray) (b_a1 : Int) (r : List ByteArray) (h : p_spec_l1Split N s_a0 b_a1 = some r) : Does Tryd.prog 64 [S s_a0, .lit (.int .u8 b_a1)] (.row true 1 r.length (esStr r)) := by
  rw [p_spec_l1Split] at h
  refine Does.walk (nt := 35) Tryd.func64 rfl rfl (by simp) (by decide) rfl (fun G0 X w0 pv => ?_)
  obtain ⟨q_0, eq_0, h⟩ := Option.bind_eq_some_iff.1 h
  have ff := p_spec_l1Split_tf.down
  try refine st_by ff ?_
  repeat' (first | exact trivial | refine And.intro sd ?_)
  obtain ⟨I_0, hI_0⟩ : ∃ I_ : (Nat × Int × Int × (List ByteArray)) → ASt → Prop, I_ = (fun (a : Nat × Int × Int × (List ByteArray)) σ => match a with | (n_0, at_9, i_10, out_11) => (p_spec_l1Split_l0 s_a0 b_a1 n_0 at_9 i_10 out_11 = some q_0) ∧ σ.t 0 = S s_a0 ∧ σ.t 1 = .lit (.int .u8 b_a1) ∧ σ.t 5 = .sl 5 [] 0 out_11.length ∧ σ.t 6 = I at_9 ∧ σ.t 7 = I i_10 ∧ σ.m 5 = some (.row true 1 out_11.length (esStr out_11))) := ⟨_, rfl⟩
  obtain ⟨M_0, hM_0⟩ : ∃ M_ : (Nat × Int × Int × (List ByteArray)) → Nat, M_ = (fun (a : Nat × Int × Int × (List ByteArray)) => match a with | (n_0, at_9, i_10, out_11) => n_0) := ⟨_, rfl⟩
  obtain ⟨J_0, hJ_0⟩ : ∃ J_ : ASt → Prop, J_ = (fun σ => ∃ at_9 : Int, ∃ i_10 : Int, ∃ out_11 : List ByteArray, (some (at_9, i_10, out_11) = some q_0) ∧ σ.t 5 = .sl 5 [] 0 out_11.length ∧ σ.m 5 = some (.row true 1 out_11.length (esStr out_11))) := ⟨_, rfl⟩
  refine aw_loopC (id := 0) I_0 M_0 J_0 (N, 0, 0, ([] : List ByteArray)) ?_ ?_ ?_
  · rw [hI_0]
    refine ⟨eq_0, ?_⟩
    exact p_spec_l1Split_pv ff trivial
  · try clear ff
    rintro ⟨n_0, at_9, i_10, out_11⟩ σ hg_0
    rw [hI_0] at hg_0
    obtain ⟨h_0, g0_0, g1_0, g2_0, g3_0, g4_0, g5_0⟩ := hg_0
    cases n_0 with
    | zero => rw [p_spec_l1Split_l0] at h_0; cases h_0
    | succ n_0 =>
      rw [p_spec_l1Split_l0] at h_0
      by_cases c22 : i_10 ≤ (s_a0.size : Int)
      case neg =>
       rw [if_neg c22] at h_0
       have dc22 := decide_eq_false c22
       have ff := And.intro @g0_0 (And.intro @g1_0 (And.intro @g2_0 (And.intro @g3_0 (And.intro @g4_0 (And.intro @g5_0 (And.intro @dc22 p_spec_l1Split_tf.down))))))
       try refine st_by ff ?_
       repeat' (first | exact trivial | refine And.intro sd ?_)
       refine JW.intro ?_
       rw [hJ_0]
       refine ⟨at_9, i_10, out_11, h_0, ?_⟩
       exact p_spec_l1Split_pv ff trivial
      rw [if_pos c22] at h_0
      have dc22 := decide_eq_true c22
      have ff := And.intro @g0_0 (And.intro @g1_0 (And.intro @g2_0 (And.intro @g3_0 (And.intro @g4_0 (And.intro @g5_0 (And.intro @dc22 p_spec_l1Split_tf.down))))))
      try refine st_by ff ?_
      repeat' (first | exact trivial | refine And.intro sd ?_)
      try clear ff
      generalize hk_0 : thenK _ _ = kk_0
      have key_0 : ∀ σ, (∃ b_23 : Bool, (p_spec_l1Split_j0 s_a0 at_9 i_10 out_11 (p_spec_l1Split_l0 s_a0 b_a1 n_0) b_23 = some q_0) ∧ σ.t 0 = S s_a0 ∧ σ.t 1 = .lit (.int .u8 b_a1) ∧ σ.t 5 = .sl 5 [] 0 out_11.length ∧ σ.t 6 = I at_9 ∧ σ.t 7 = I i_10 ∧ σ.t 24 = B b_23 ∧ σ.m 5 = some (.row true 1 out_11.length (esStr out_11))) → kk_0 .nm σ := by
        rintro σ ⟨b_23, h_0, g0_j0, g1_j0, g2_j0, g3_j0, g4_j0, g5_j0, g6_j0⟩
        rw [← hk_0]
        rw [p_spec_l1Split_j0] at h_0
        by_cases c24 : b_23 = true
        case neg =>
         rw [if_neg c24] at h_0
         have dc24 := eq_false_of_ne_true c24
         have ff := And.intro @dc22 (And.intro @g0_j0 (And.intro @g1_j0 (And.intro @g2_j0 (And.intro @g3_j0 (And.intro @g4_j0 (And.intro @g5_j0 (And.intro @g6_j0 (And.intro @dc24 p_spec_l1Split_tf.down))))))))
         try refine st_by ff ?_
         repeat' (first | exact trivial | refine And.intro sd ?_)
         refine Back.intro (n_0, at_9, (IntKind.i64.wrap (i_10 + 1)), out_11) ?_ ?_
         · rw [hM_0]; exact Nat.lt_succ_self _
         rw [hI_0]
         refine ⟨h_0, ?_⟩
         exact p_spec_l1Split_pv ff trivial
        rw [if_pos c24] at h_0
        have dc24 := c24
        obtain ⟨m25, em25, h_0⟩ := Option.bind_eq_some_iff.1 h_0
        try dsimp only at h_0
        obtain ⟨f26a, f26b⟩ := bslc_ok em25
        have f26c : s_a0.extract at_9.toNat i_10.toNat = m25 := f26b
        by_cases c27 : out_11.length < 4294967296
        case neg => rw [if_neg c27] at h_0; cases h_0
        rw [if_pos c27] at h_0
        have a28a : esStr out_11 ++ [S m25] = esStr (out_11 ++ [m25]) := by simp [esStr_app, esStr_cons, esStr_nil, eStr_eq, esStr_nil]
        have a28b : out_11.length + 1 = (out_11 ++ [m25]).length := by simp
        have ff := And.intro @dc22 (And.intro @g0_j0 (And.intro @g1_j0 (And.intro @g2_j0 (And.intro @g3_j0 (And.intro @g4_j0 (And.intro @g5_j0 (And.intro @g6_j0 (And.intro @dc24 (And.intro @f26c (And.intro @a28a (And.intro @a28b p_spec_l1Split_tf.down)))))))))))
        try refine st_by ff ?_
        repeat' (first | exact trivial | refine And.intro sd ?_)
        refine Back.intro (n_0, (IntKind.i64.wrap (i_10 + 1)), (IntKind.i64.wrap (i_10 + 1)), (out_11 ++ [m25])) ?_ ?_
        · rw [hM_0]; exact Nat.lt_succ_self _
        rw [hI_0]
        refine ⟨h_0, ?_⟩
        exact p_spec_l1Split_pv ff trivial
      have hrt_0 := fun σ : ASt => congrFun (congrFun hk_0.symm AX.rt) σ
      have hex_0 := fun (i : Nat) (σ : ASt) => congrFun (congrFun hk_0.symm (AX.ex i)) σ
      by_cases c29 : i_10 = (s_a0.size : Int)
      · rw [if_pos c29] at h_0
        have dc29 := beq_yes c29
        have ff := And.intro @g0_0 (And.intro @g1_0 (And.intro @g2_0 (And.intro @g3_0 (And.intro @g4_0 (And.intro @g5_0 (And.intro @dc22 (And.intro @hrt_0 (And.intro @hex_0 (And.intro @dc29 p_spec_l1Split_tf.down)))))))))
        try refine st_by ff ?_
        repeat' (first | exact trivial | refine And.intro sd ?_)
        refine key_0 _ ?_
        refine ⟨true, h_0, ?_⟩
        exact p_spec_l1Split_pv ff trivial
      rw [if_neg c29] at h_0
      have dc29 := beq_no c29
      obtain ⟨y30, ey30, h_0⟩ := Option.bind_eq_some_iff.1 h_0
      try dsimp only at h_0
      have f31a := (bidx_ok ey30).1
      have f31b := (bidx_ok ey30).2
      have ff := And.intro @g0_0 (And.intro @g1_0 (And.intro @g2_0 (And.intro @g3_0 (And.intro @g4_0 (And.intro @g5_0 (And.intro @dc22 (And.intro @hrt_0 (And.intro @hex_0 (And.intro @dc29 (And.intro @f31a (And.intro @f31b p_spec_l1Split_tf.down)))))))))))
      try refine st_by ff ?_
      repeat' (first | exact trivial | refine And.intro sd ?_)
      refine key_0 _ ?_
      refine ⟨(y30 == b_a1), h_0, ?_⟩
      exact p_spec_l1Split_pv ff trivial
  · try clear ff
    rintro σ hg_0
    rw [hJ_0] at hg_0
    obtain ⟨at_9, i_10, out_11, hj_0, g0_0a, g1_0a⟩ := hg_0
    cases hj_0
    try dsimp only at h
    have ff := And.intro @g0_0a (And.intro @g1_0a p_spec_l1Split_tf.down)
    try refine st_by ff ?_
    repeat' (first | exact trivial | refine And.intro sd ?_)
    cases h
    exact ret_q1 rfl (p_spec_l1Split_rt ff trivial)
/-! spec.l26Path -/
def p_spec_l26Path_l0 : List ByteArray → Nat → Option (LR (Bool) (Unit))
  | [], i_0 => some (.out ())
  | x_0 :: r_0, i_0 => (if x_0.size ≤ 9223372036854775807 then (if (goodName x_0) = true then p_spec_l26Path_l0 r_0 (i_0 + 1) else some (.ret false)) else none)
theorem p_spec_l26Path_sa {F C A : Prop} (hF : F) (hC : C) (h : F → C → A := by intro hF hC; first | exact ca_by hF | (refine sa_by hF ?_; (repeat' (first | exact trivial | apply And.intro)); all_goals (clear hF; first | rfl | (simp only [hC, List.length_append, List.length_cons, List.length_nil, List.append_nil, List.nil_append, List.cons_append, List.length_set, List.append_assoc, Nat.zero_add, List.length_replicate, esStr_app, esStr_cons, esStr_nil, eStr_eq]; done) | (simp [hC, List.length_append, List.length_cons, List.length_nil, List.append_nil, List.nil_append, List.cons_append, List.length_set, List.append_assoc, Nat.zero_add, List.length_replicate, esStr_app, esStr_cons, esStr_nil, eStr_eq]; done) | omega))) : A := h hF hC
def p_spec_l26Path_tf := PLift.up (And.intro @eStr_eq (And.intro @esStr_len (And.intro @esStr_nil (And.intro @esStr_leaf (And.intro @esStr_fit (And.intro @esStr_share (And.intro @esStr_pure (And.intro @str_beq (And.intro @Ty.sl84 (And.intro @Ty.slz84 (And.intro @Ty.nz9 (And.intro @Ty.ldA9 (And.intro @Ty.ldS9 (And.intro @Ty.sz9 (And.intro @Ty.szn9 @trivial)))))))))))))))
def p_spec_l26Path (N : Nat) (s_a0 : ByteArray) : Option (Bool) := ((p_spec_l1Split N s_a0 47).bind fun v1 => ((p_spec_l26Path_l0 v1 0).bind fun q_0 => match q_0 with | .ret r_ => some r_ | .out _ => some (decide ((v1.length : Int) ≤ 5))))
theorem p_spec_l26Path_does (N : Nat) (s_a0 : ByteArray) (r : Bool) (h : p_spec_l26Path N s_a0 = some r) : Does Tryd.prog 43 [S s_a0] (B r) := by
  rw [p_spec_l26Path] at h
  refine Does.walk (nt := 21) Tryd.func43 rfl rfl (by simp) (by decide) rfl (fun G0 X w0 pv => ?_)
  obtain ⟨v1, ev1, h⟩ := Option.bind_eq_some_iff.1 h
  try dsimp only at h
  have ff := p_spec_l26Path_tf.down
  try refine st_by ff ?_
  repeat' (first | exact trivial | refine And.intro sd ?_)
  first
  | (refine cq_own (p_spec_l1Split_does N s_a0 47 v1 ev1) (hf_by ff) kr ⟨p_spec_l26Path_sa ff trivial, ?_⟩; clear ff)
  obtain ⟨q_0, eq_0, h⟩ := Option.bind_eq_some_iff.1 h
  have ff := p_spec_l26Path_tf.down
  try refine st_by ff ?_
  repeat' (first | exact trivial | refine And.intro sd ?_)
  refine aw_bnd (r := 3) (p := []) (sz := 1) (n := v1.length) (cs := esStr v1) (p_spec_l1Split_pv ff trivial) (fun hL_0 => ?_)
  obtain ⟨I_0, hI_0⟩ : ∃ I_ : (Nat) → ASt → Prop, I_ = (fun (i_0 : Nat) σ => (i_0 ≤ v1.length ∧ p_spec_l26Path_l0 (v1.drop i_0) i_0 = some q_0) ∧ σ.t 3 = .sl 3 [] 0 v1.length ∧ σ.t 8 = .sl 3 [] 0 v1.length ∧ σ.t 9 = I (v1.length : Int) ∧ σ.t 10 = I (i_0 : Int) ∧ σ.m 3 = some (.row true 1 v1.length (esStr v1))) := ⟨_, rfl⟩
  obtain ⟨M_0, hM_0⟩ : ∃ M_ : (Nat) → Nat, M_ = (fun (i_0 : Nat) => v1.length - i_0) := ⟨_, rfl⟩
  obtain ⟨J_0, hJ_0⟩ : ∃ J_ : ASt → Prop, J_ = (fun σ => (some (.out ()) = some q_0) ∧ σ.t 3 = .sl 3 [] 0 v1.length ∧ σ.m 3 = some (.row true 1 v1.length (esStr v1))) := ⟨_, rfl⟩
  refine aw_loopC (id := 0) I_0 M_0 J_0 (0) ?_ ?_ ?_
  · rw [hI_0]
    refine ⟨⟨Nat.zero_le _, eq_0⟩, ?_⟩
    exact p_spec_l1Split_pv ff trivial
  · try clear ff
    rintro i_0 σ hg_0
    rw [hI_0] at hg_0
    obtain ⟨⟨hi_0, h_0⟩, g0_0, g1_0, g2_0, g3_0, g4_0⟩ := hg_0
    cases hr_0 : v1.drop i_0 with
    | nil =>
      rw [hr_0] at h_0
      rw [p_spec_l26Path_l0] at h_0
      have hn_0 := drop_nil hr_0
      have dr_0 : decide ((i_0 : Int) < (v1.length : Int)) = false := decide_eq_false (by omega)
      have ff := And.intro @dr_0 (And.intro @g0_0 (And.intro @g1_0 (And.intro @g2_0 (And.intro @g3_0 (And.intro @g4_0 p_spec_l26Path_tf.down)))))
      try refine st_by ff ?_
      repeat' (first | exact trivial | refine And.intro sd ?_)
      refine JW.intro ?_
      rw [hJ_0]
      refine ⟨h_0, ?_⟩
      exact p_spec_l1Split_pv ff trivial
    | cons x_0 r_0 =>
      rw [hr_0] at h_0
      rw [p_spec_l26Path_l0] at h_0
      obtain ⟨ht_0, hg_0, hd_0⟩ := drop_cons hr_0
      have dr_0 : decide ((i_0 : Int) < (v1.length : Int)) = true := decide_eq_true (by omega)
      have w_0 : IntKind.i64.wrap ((i_0 : Int) + 1) = ((i_0 + 1 : Nat) : Int) := wI _ (by omega) (by omega)
      have kk0c : (esStr v1).drop (i_0 * 1) = eStr x_0 ++ esStr (v1.drop (i_0 + 1)) := drop_enc (fun _ => rfl) (hg_0)
      have kk0d := kk0c
      rw [Nat.mul_one] at kk0d
      have kk0g0 : (esStr v1).getD (i_0 * 1) .junk = (eStr x_0).getD 0 .junk := getD_enc0 (enc := eStr) (sz := 1) (fun _ => rfl) (hg_0) (by decide)
      rw [Nat.mul_one] at kk0g0
      by_cases c13 : x_0.size ≤ 9223372036854775807
      case neg => rw [if_neg c13] at h_0; cases h_0
      rw [if_pos c13] at h_0
      have ff := And.intro @dr_0 (And.intro @w_0 (And.intro @g0_0 (And.intro @g1_0 (And.intro @g2_0 (And.intro @g3_0 (And.intro @g4_0 (And.intro @kk0c (And.intro @kk0d (And.intro @kk0g0 p_spec_l26Path_tf.down)))))))))
      try refine st_by ff ?_
      repeat' (first | exact trivial | refine And.intro sd ?_)
      first
      | (refine cq_call (specGoodName_does x_0 (by first | assumption | omega)) (hf_by ff) kr ⟨p_spec_l26Path_sa ff trivial, ?_⟩; clear ff)
      by_cases c14 : (goodName x_0) = true
      case neg =>
       rw [if_neg c14] at h_0
       have dc14 := eq_false_of_ne_true c14
       cases h_0
       try dsimp only at h
       have ff := And.intro @dr_0 (And.intro @w_0 (And.intro @g0_0 (And.intro @g1_0 (And.intro @g2_0 (And.intro @g3_0 (And.intro @g4_0 (And.intro @kk0c (And.intro @kk0d (And.intro @kk0g0 (And.intro @dc14 p_spec_l26Path_tf.down))))))))))
       try refine st_by ff ?_
       repeat' (first | exact trivial | refine And.intro sd ?_)
       cases h
       exact ret_q1 rfl (p_spec_l1Split_rt ff trivial)
      rw [if_pos c14] at h_0
      have dc14 := c14
      have ff := And.intro @dr_0 (And.intro @w_0 (And.intro @g0_0 (And.intro @g1_0 (And.intro @g2_0 (And.intro @g3_0 (And.intro @g4_0 (And.intro @kk0c (And.intro @kk0d (And.intro @kk0g0 (And.intro @dc14 p_spec_l26Path_tf.down))))))))))
      try refine st_by ff ?_
      repeat' (first | exact trivial | refine And.intro sd ?_)
      refine Back.intro (i_0 + 1) ?_ ?_
      · clear ff; rw [hM_0]; show v1.length - (i_0 + 1) < v1.length - i_0; omega
      rw [hI_0]
      refine ⟨⟨by clear ff; show i_0 + 1 ≤ v1.length; omega, by show p_spec_l26Path_l0 (v1.drop (i_0 + 1)) (i_0 + 1) = some q_0; rw [hd_0]; exact h_0⟩, ?_⟩
      exact p_spec_l1Split_pv ff trivial
  · try clear ff
    rintro σ hg_0
    rw [hJ_0] at hg_0
    obtain ⟨hj_0, g0_0a, g1_0a⟩ := hg_0
    cases hj_0
    try dsimp only at h
    have ff := And.intro @g0_0a (And.intro @g1_0a p_spec_l26Path_tf.down)
    try refine st_by ff ?_
    repeat' (first | exact trivial | refine And.intro sd ?_)
    cases h
    exact ret_q1 rfl (p_spec_l1Split_rt ff trivial)
/-! spec.l26Value -/
theorem p_spec_l26Value_sa {F C A : Prop} (hF : F) (hC : C) (h : F → C → A := by intro hF hC; first | exact ca_by hF | (refine sa_by hF ?_; (repeat' (first | exact trivial | apply And.intro)); all_goals (clear hF; first | rfl | (simp only [hC, List.length_append, List.length_cons, List.length_nil, List.append_nil, List.nil_append, List.cons_append, List.length_set, List.append_assoc, Nat.zero_add, List.length_replicate]; done) | (simp [hC, List.length_append, List.length_cons, List.length_nil, List.append_nil, List.nil_append, List.cons_append, List.length_set, List.append_assoc, Nat.zero_add, List.length_replicate]; done) | omega))) : A := h hF hC
theorem p_spec_l26Value_rt {F C A : Prop} (hF : F) (hC : C) (h : F → C → A := by intro hF hC; first | (refine sr_by hF ?_; (repeat' (first | exact trivial | apply And.intro)); all_goals (clear hF; first | rfl | (simp only [hC, List.length_append, List.length_cons, List.length_nil, List.append_nil, List.nil_append, List.cons_append, List.length_set, List.append_assoc, Nat.zero_add, List.length_replicate]; done) | (simp [hC, List.length_append, List.length_cons, List.length_nil, List.append_nil, List.nil_append, List.cons_append, List.length_set, List.append_assoc, Nat.zero_add, List.length_replicate]; done) | omega)) | (first | rfl | (simp only [hC, List.length_append, List.length_cons, List.length_nil, List.append_nil, List.nil_append, List.cons_append, List.length_set, List.append_assoc, Nat.zero_add, List.length_replicate]; done) | (simp [hC, List.length_append, List.length_cons, List.length_nil, List.append_nil, List.nil_append, List.cons_append, List.length_set, List.append_assoc, Nat.zero_add, List.length_replicate]; done) | omega)) : A := h hF hC
def p_spec_l26Value_tf := PLift.up (And.intro @str_beq (And.intro @Ty.str9 @trivial))
def p_spec_l26Value (s_a0 : ByteArray) : Option (Bool) := some (rng (s_a0.size : Int) 1 40)
theorem p_spec_l26Value_does (s_a0 : ByteArray) (r : Bool) (h : p_spec_l26Value s_a0 = some r) : Does Tryd.prog 49 [S s_a0] (B r) := by
  rw [p_spec_l26Value] at h
  refine Does.walk (nt := 6) Tryd.func49 rfl rfl (by simp) (by decide) rfl (fun G0 X w0 pv => ?_)
  have ff := p_spec_l26Value_tf.down
  try refine st_by ff ?_
  repeat' (first | exact trivial | refine And.intro sd ?_)
  first
  | (refine cq_call (l1In_does (s_a0.size : Int) 1 40) (hf_by ff) kr ⟨p_spec_l26Value_sa ff trivial, ?_⟩; clear ff)
  have ff := p_spec_l26Value_tf.down
  try refine st_by ff ?_
  repeat' (first | exact trivial | refine And.intro sd ?_)
  cases h
  exact ret_q1 rfl (p_spec_l26Value_rt ff trivial)
/-! spec.GoodProps -/
def p_spec_GoodProps_l0 (N : Nat) (l_a0 : List GProp) : List GProp → Nat → Option (LR (Bool) (Unit))
  | [], i_0 => some (.out ())
  | x_0 :: r_0, i_0 => ((p_spec_l26Path N x_0.Path).bind fun v25 => (if v25 = true then ((p_spec_l26Value x_0.Value).bind fun v27 => (if v27 = true then (if (i_0 : Int) > 0 then ((idx l_a0 (IntKind.i64.wrap ((i_0 : Int) - 1))).bind fun x30 => (if (Op.bytesLess x30.Path.toList x_0.Path.toList) = true then p_spec_GoodProps_l0 N l_a0 r_0 (i_0 + 1) else some (.ret false))) else p_spec_GoodProps_l0 N l_a0 r_0 (i_0 + 1)) else some (.ret false))) else some (.ret false)))
theorem p_spec_GoodProps_pv {F C A : Prop} (hF : F) (hC : C) (h : F → C → A := by intro hF hC; first | exact cl_by hF | (refine st_by hF ?_; (repeat' (first | exact trivial | apply And.intro)); all_goals (clear hF; first | rfl | (simp only [hC, List.length_append, List.length_cons, List.length_nil, List.append_nil, List.nil_append, List.cons_append, List.length_set, List.append_assoc, Nat.zero_add, List.length_replicate, esProp_app, esProp_cons, esProp_nil, eProp_eq]; done) | (simp [hC, List.length_append, List.length_cons, List.length_nil, List.append_nil, List.nil_append, List.cons_append, List.length_set, List.append_assoc, Nat.zero_add, List.length_replicate, esProp_app, esProp_cons, esProp_nil, eProp_eq]; done) | omega))) : A := h hF hC
theorem p_spec_GoodProps_sa {F C A : Prop} (hF : F) (hC : C) (h : F → C → A := by intro hF hC; first | exact ca_by hF | (refine sa_by hF ?_; (repeat' (first | exact trivial | apply And.intro)); all_goals (clear hF; first | rfl | (simp only [hC, List.length_append, List.length_cons, List.length_nil, List.append_nil, List.nil_append, List.cons_append, List.length_set, List.append_assoc, Nat.zero_add, List.length_replicate, esProp_app, esProp_cons, esProp_nil, eProp_eq]; done) | (simp [hC, List.length_append, List.length_cons, List.length_nil, List.append_nil, List.nil_append, List.cons_append, List.length_set, List.append_assoc, Nat.zero_add, List.length_replicate, esProp_app, esProp_cons, esProp_nil, eProp_eq]; done) | omega))) : A := h hF hC
theorem p_spec_GoodProps_rt {F C A : Prop} (hF : F) (hC : C) (h : F → C → A := by intro hF hC; first | (refine sr_by hF ?_; (repeat' (first | exact trivial | apply And.intro)); all_goals (clear hF; first | rfl | (simp only [hC, List.length_append, List.length_cons, List.length_nil, List.append_nil, List.nil_append, List.cons_append, List.length_set, List.append_assoc, Nat.zero_add, List.length_replicate, esProp_app, esProp_cons, esProp_nil, eProp_eq]; done) | (simp [hC, List.length_append, List.length_cons, List.length_nil, List.append_nil, List.nil_append, List.cons_append, List.length_set, List.append_assoc, Nat.zero_add, List.length_replicate, esProp_app, esProp_cons, esProp_nil, eProp_eq]; done) | omega)) | (first | rfl | (simp only [hC, List.length_append, List.length_cons, List.length_nil, List.append_nil, List.nil_append, List.cons_append, List.length_set, List.append_assoc, Nat.zero_add, List.length_replicate, esProp_app, esProp_cons, esProp_nil, eProp_eq]; done) | (simp [hC, List.length_append, List.length_cons, List.length_nil, List.append_nil, List.nil_append, List.cons_append, List.length_set, List.append_assoc, Nat.zero_add, List.length_replicate, esProp_app, esProp_cons, esProp_nil, eProp_eq]; done) | omega)) : A := h hF hC
def p_spec_GoodProps_tf := PLift.up (And.intro @eProp_eq (And.intro @esProp_len (And.intro @esProp_nil (And.intro @esProp_leaf (And.intro @esProp_fit (And.intro @esProp_share (And.intro @esProp_pure (And.intro @str_beq (And.intro @Ty.sl28 (And.intro @Ty.slz28 (And.intro @Ty.nz71 (And.intro @Ty.ldA71 (And.intro @Ty.sz71 (And.intro @Ty.szn71 (And.intro @Ty.nz9 (And.intro @Ty.ldA9 (And.intro @Ty.ldS9 (And.intro @Ty.sz9 (And.intro @Ty.szn9 (And.intro @Ty.fo71_0 (And.intro @Ty.fk71_0 (And.intro @Ty.fs71_0 (And.intro @Ty.fn71_0 (And.intro @Ty.fo71_1 (And.intro @Ty.fk71_1 (And.intro @Ty.fs71_1 (And.intro @Ty.fn71_1 (And.intro @Ty.zv71 @trivial))))))))))))))))))))))))))))
def p_spec_GoodProps (N : Nat) (l_a0 : List GProp) : Option (Bool) := (if (l_a0.length : Int) > 40 then some false else ((p_spec_GoodProps_l0 N l_a0 l_a0 0).bind fun q_0 => match q_0 with | .ret r_ => some r_ | .out _ => some true))
theorem p_spec_GoodProps_does (N : Nat) (l_a0 : List GProp) (r : Bool) (h : p_spec_GoodProps N l_a0 = some r) : Does Tryd.prog 25 [.row false 2 l_a0.length (esProp l_a0)] (B r) := by
  rw [p_spec_GoodProps] at h
  refine Does.bnd (fun hb => ?_)
  have hb2 : l_a0.length ≤ 9223372036854775807 := by simpa [AV.fitNs, AV.fitN] using hb
  have hl0 := hb2
  refine Does.walk (nt := 41) Tryd.func25 rfl rfl (by simp) (by decide) rfl (fun G0 X w0 pv => ?_)
  by_cases c1 : (l_a0.length : Int) > 40
  · rw [if_pos c1] at h
    have dc1 := decide_eq_true c1
    have ff := And.intro @dc1 p_spec_GoodProps_tf.down
    try refine st_by ff ?_
    repeat' (first | exact trivial | refine And.intro sd ?_)
    cases h
    exact ret_q1 rfl (p_spec_GoodProps_rt ff trivial)
  rw [if_neg c1] at h
  have dc1 := decide_eq_false c1
  have hL_0 : l_a0.length ≤ 9223372036854775807 := by first | assumption | omega
  obtain ⟨q_0, eq_0, h⟩ := Option.bind_eq_some_iff.1 h
  have ff := And.intro @dc1 p_spec_GoodProps_tf.down
  try refine st_by ff ?_
  repeat' (first | exact trivial | refine And.intro sd ?_)
  obtain ⟨I_0, hI_0⟩ : ∃ I_ : (Nat) → ASt → Prop, I_ = (fun (i_0 : Nat) σ => (i_0 ≤ l_a0.length ∧ p_spec_GoodProps_l0 N l_a0 (l_a0.drop i_0) i_0 = some q_0) ∧ σ.t 0 = .row false 2 l_a0.length (esProp l_a0) ∧ σ.t 8 = .row false 2 l_a0.length (esProp l_a0) ∧ σ.t 9 = I (l_a0.length : Int) ∧ σ.t 10 = I (i_0 : Int)) := ⟨_, rfl⟩
  obtain ⟨M_0, hM_0⟩ : ∃ M_ : (Nat) → Nat, M_ = (fun (i_0 : Nat) => l_a0.length - i_0) := ⟨_, rfl⟩
  obtain ⟨J_0, hJ_0⟩ : ∃ J_ : ASt → Prop, J_ = (fun σ => (some (.out ()) = some q_0) ∧ True) := ⟨_, rfl⟩
  refine aw_loopC (id := 0) I_0 M_0 J_0 (0) ?_ ?_ ?_
  · rw [hI_0]
    refine ⟨⟨Nat.zero_le _, eq_0⟩, ?_⟩
    exact p_spec_GoodProps_pv ff trivial
  · try clear ff
    rintro i_0 σ hg_0
    rw [hI_0] at hg_0
    obtain ⟨⟨hi_0, h_0⟩, g0_0, g1_0, g2_0, g3_0⟩ := hg_0
    cases hr_0 : l_a0.drop i_0 with
    | nil =>
      rw [hr_0] at h_0
      rw [p_spec_GoodProps_l0] at h_0
      have hn_0 := drop_nil hr_0
      have dr_0 : decide ((i_0 : Int) < (l_a0.length : Int)) = false := decide_eq_false (by omega)
      have ff := And.intro @dc1 (And.intro @dr_0 (And.intro @g0_0 (And.intro @g1_0 (And.intro @g2_0 (And.intro @g3_0 p_spec_GoodProps_tf.down)))))
      try refine st_by ff ?_
      repeat' (first | exact trivial | refine And.intro sd ?_)
      refine JW.intro ?_
      rw [hJ_0]
      refine ⟨h_0, ?_⟩
      exact p_spec_GoodProps_pv ff trivial
    | cons x_0 r_0 =>
      rw [hr_0] at h_0
      rw [p_spec_GoodProps_l0] at h_0
      obtain ⟨ht_0, hg_0, hd_0⟩ := drop_cons hr_0
      have dr_0 : decide ((i_0 : Int) < (l_a0.length : Int)) = true := decide_eq_true (by omega)
      have w_0 : IntKind.i64.wrap ((i_0 : Int) + 1) = ((i_0 + 1 : Nat) : Int) := wI _ (by omega) (by omega)
      have kk0c : (esProp l_a0).drop (i_0 * 2) = eProp x_0 ++ esProp (l_a0.drop (i_0 + 1)) := drop_enc (fun _ => rfl) (hg_0)
      obtain ⟨v25, ev25, h_0⟩ := Option.bind_eq_some_iff.1 h_0
      try dsimp only at h_0
      have ff := And.intro @dc1 (And.intro @dr_0 (And.intro @w_0 (And.intro @g0_0 (And.intro @g1_0 (And.intro @g2_0 (And.intro @g3_0 (And.intro @kk0c p_spec_GoodProps_tf.down)))))))
      try refine st_by ff ?_
      repeat' (first | exact trivial | refine And.intro sd ?_ | (refine aw_drawn (id := 6) ?_ [[], [0], [0, 1], [0, 1, 2], [0, 1, 2, 3], [0, 1, 2, 3, 4], [0, 1, 2, 3, 4, 5], [0, 1, 2, 3, 4, 5, 6], [0, 1, 2, 3, 4, 5, 6, 7], [0, 1, 2, 3, 4, 5, 6, 7, 8], [0, 1, 2, 3, 4, 5, 6, 7, 8, 9], [0, 1, 2, 3, 4, 5, 6, 7, 8, 9, 10], [0, 1, 2, 3, 4, 5, 6, 7, 8, 9, 10, 11], [0, 1, 2, 3, 4, 5, 6, 7, 8, 9, 10, 11, 12], [0, 1, 2, 3, 4, 5, 6, 7, 8, 9, 10, 11, 12, 13], [0, 1, 2, 3, 4, 5, 6, 7, 8, 9, 10, 11, 12, 13], [0, 1, 2, 3, 4, 5, 6, 7, 8, 9, 10, 11, 12, 13, 15], [0, 1, 2, 3, 4, 5, 6, 7, 8, 9, 10, 11, 12, 13, 14, 15, 16], [0, 1, 2, 3, 4, 5, 6, 7, 8, 9, 10, 11, 12, 13, 14, 15, 16, 17], [0, 1, 2, 3, 4, 5, 6, 7, 8, 9, 10, 11, 12, 13, 14, 15, 16, 17, 18], [0, 1, 2, 3, 4, 5, 6, 7, 8, 9, 10, 11, 12, 13], [0, 1, 2, 3, 4, 5, 6, 7, 8, 9, 10, 11, 12, 13, 20], [0, 1, 2, 3, 4, 5, 6, 7, 8, 9, 10, 11, 12, 13, 14, 15, 16, 17, 18, 19, 20, 21], [0, 1, 2, 3, 4, 5, 6, 7, 8, 9, 10, 11, 12, 13, 14, 15, 16, 17, 18, 19, 20, 21, 22], [0, 1, 2, 3, 4, 5, 6, 7, 8, 9, 10, 11, 12, 13, 14, 15, 16, 17, 18, 19, 20, 21, 22, 23]] 22 ?_ ?_; (· kernel_rfl); (· kernel_rfl); refine st_by ff ?_))
      first
      | (refine cq_call (p_spec_l26Path_does N x_0.Path v25 ev25) (hf_by ff) kr ⟨p_spec_GoodProps_sa ff trivial, ?_⟩; clear ff)
      | (refine cq_dcall (p_spec_l26Path_does N x_0.Path v25 ev25) (hf_by ff) kr ⟨p_spec_GoodProps_sa ff trivial, ?_⟩; clear ff)
      by_cases c26 : v25 = true
      case neg =>
       rw [if_neg c26] at h_0
       have dc26 := eq_false_of_ne_true c26
       cases h_0
       try dsimp only at h
       have ff := And.intro @dc1 (And.intro @dr_0 (And.intro @w_0 (And.intro @g0_0 (And.intro @g1_0 (And.intro @g2_0 (And.intro @g3_0 (And.intro @kk0c (And.intro @dc26 p_spec_GoodProps_tf.down))))))))
       try refine st_by ff ?_
       repeat' (first | exact trivial | refine And.intro sd ?_)
       cases h
       exact ret_q1 rfl (p_spec_GoodProps_rt ff trivial)
      rw [if_pos c26] at h_0
      have dc26 := c26
      obtain ⟨v27, ev27, h_0⟩ := Option.bind_eq_some_iff.1 h_0
      try dsimp only at h_0
      have ff := And.intro @dc1 (And.intro @dr_0 (And.intro @w_0 (And.intro @g0_0 (And.intro @g1_0 (And.intro @g2_0 (And.intro @g3_0 (And.intro @kk0c (And.intro @dc26 p_spec_GoodProps_tf.down))))))))
      try refine st_by ff ?_
      repeat' (first | exact trivial | refine And.intro sd ?_)
      first
      | (refine cq_call (p_spec_l26Value_does x_0.Value v27 ev27) (hf_by ff) kr ⟨p_spec_GoodProps_sa ff trivial, ?_⟩; clear ff)
      | (refine cq_dcall (p_spec_l26Value_does x_0.Value v27 ev27) (hf_by ff) kr ⟨p_spec_GoodProps_sa ff trivial, ?_⟩; clear ff)
      by_cases c28 : v27 = true
      case neg =>
       rw [if_neg c28] at h_0
       have dc28 := eq_false_of_ne_true c28
       cases h_0
       try dsimp only at h
       have ff := And.intro @dc1 (And.intro @dr_0 (And.intro @w_0 (And.intro @g0_0 (And.intro @g1_0 (And.intro @g2_0 (And.intro @g3_0 (And.intro @kk0c (And.intro @dc26 (And.intro @dc28 p_spec_GoodProps_tf.down)))))))))
       try refine st_by ff ?_
       repeat' (first | exact trivial | refine And.intro sd ?_)
       cases h
       exact ret_q1 rfl (p_spec_GoodProps_rt ff trivial)
      rw [if_pos c28] at h_0
      have dc28 := c28
      by_cases c29 : (i_0 : Int) > 0
      case neg =>
       rw [if_neg c29] at h_0
       have dc29 := decide_eq_false c29
       have ff := And.intro @dc1 (And.intro @dr_0 (And.intro @w_0 (And.intro @g0_0 (And.intro @g1_0 (And.intro @g2_0 (And.intro @g3_0 (And.intro @kk0c (And.intro @dc26 (And.intro @dc28 (And.intro @dc29 p_spec_GoodProps_tf.down))))))))))
       try refine st_by ff ?_
       repeat' (first | exact trivial | refine And.intro sd ?_)
       refine Back.intro (i_0 + 1) ?_ ?_
       · clear ff; rw [hM_0]; show l_a0.length - (i_0 + 1) < l_a0.length - i_0; omega
       rw [hI_0]
       refine ⟨⟨by clear ff; show i_0 + 1 ≤ l_a0.length; omega, by show p_spec_GoodProps_l0 N l_a0 (l_a0.drop (i_0 + 1)) (i_0 + 1) = some q_0; rw [hd_0]; exact h_0⟩, ?_⟩
       exact p_spec_GoodProps_pv ff trivial
      rw [if_pos c29] at h_0
      have dc29 := decide_eq_true c29
      obtain ⟨x30, ex30, h_0⟩ := Option.bind_eq_some_iff.1 h_0
      try dsimp only at h_0
      have f31a := idx_lo ex30
      have f31b := idx_hi ex30
      have f31c : (esProp l_a0).drop (((IntKind.i64.wrap ((i_0 : Int) - 1)).toNat) * 2) = eProp x30 ++ esProp (l_a0.drop ((IntKind.i64.wrap ((i_0 : Int) - 1)).toNat + 1)) := drop_enc (fun _ => rfl) (idx_get ex30)
      by_cases c32 : (Op.bytesLess x30.Path.toList x_0.Path.toList) = true
      case neg =>
       rw [if_neg c32] at h_0
       have dc32 := eq_false_of_ne_true c32
       cases h_0
       try dsimp only at h
       have ff := And.intro @dc1 (And.intro @dr_0 (And.intro @w_0 (And.intro @g0_0 (And.intro @g1_0 (And.intro @g2_0 (And.intro @g3_0 (And.intro @kk0c (And.intro @dc26 (And.intro @dc28 (And.intro @dc29 (And.intro @f31c (And.intro @dc32 p_spec_GoodProps_tf.down))))))))))))
       try refine st_by ff ?_
       repeat' (first | exact trivial | refine And.intro sd ?_)
       cases h
       exact ret_q1 rfl (p_spec_GoodProps_rt ff trivial)
      rw [if_pos c32] at h_0
      have dc32 := c32
      have ff := And.intro @dc1 (And.intro @dr_0 (And.intro @w_0 (And.intro @g0_0 (And.intro @g1_0 (And.intro @g2_0 (And.intro @g3_0 (And.intro @kk0c (And.intro @dc26 (And.intro @dc28 (And.intro @dc29 (And.intro @f31c (And.intro @dc32 p_spec_GoodProps_tf.down))))))))))))
      try refine st_by ff ?_
      repeat' (first | exact trivial | refine And.intro sd ?_)
      refine Back.intro (i_0 + 1) ?_ ?_
      · clear ff; rw [hM_0]; show l_a0.length - (i_0 + 1) < l_a0.length - i_0; omega
      rw [hI_0]
      refine ⟨⟨by clear ff; show i_0 + 1 ≤ l_a0.length; omega, by show p_spec_GoodProps_l0 N l_a0 (l_a0.drop (i_0 + 1)) (i_0 + 1) = some q_0; rw [hd_0]; exact h_0⟩, ?_⟩
      exact p_spec_GoodProps_pv ff trivial
  · try clear ff
    rintro σ hg_0
    rw [hJ_0] at hg_0
    obtain ⟨hj_0, _⟩ := hg_0
    cases hj_0
    try dsimp only at h
    have ff := And.intro @dc1 p_spec_GoodProps_tf.down
    try refine st_by ff ?_
    repeat' (first | exact trivial | refine And.intro sd ?_)
    cases h
    exact ret_q1 rfl (p_spec_GoodProps_rt ff trivial)
/-! slices.IndexFunc[[]string,string] -/
def p_slices_IndexFunc_string_string_l0 (f_a1 : ByteArray → Option Bool) : List ByteArray → Nat → Option (LR (Int) (Unit))
  | [], i_0 => some (.out ())
  | x_0 :: r_0, i_0 => ((f_a1 x_0).bind fun v12 => (if v12 = true then some (.ret (i_0 : Int)) else p_slices_IndexFunc_string_string_l0 f_a1 r_0 (i_0 + 1)))
def p_slices_IndexFunc_string_string_tf := PLift.up (And.intro @eStr_eq (And.intro @esStr_len (And.intro @esStr_nil (And.intro @esStr_leaf (And.intro @esStr_fit (And.intro @esStr_share (And.intro @esStr_pure (And.intro @str_beq (And.intro @Ty.sl84 (And.intro @Ty.slz84 (And.intro @Ty.nz9 (And.intro @Ty.ldA9 (And.intro @Ty.ldS9 (And.intro @Ty.sz9 (And.intro @Ty.szn9 @trivial)))))))))))))))
def p_slices_IndexFunc_string_string (s_a0 : List ByteArray) (f_a1 : ByteArray → Option Bool) : Option (Int) := ((p_slices_IndexFunc_string_string_l0 f_a1 s_a0 0).bind fun q_0 => match q_0 with | .ret r_ => some r_ | .out _ => some (-1))
theorem p_slices_IndexFunc_string_string_does (s_a0 : List ByteArray) (f1 : FuncId) (caps1 : List AV) (hc1 : AV.noRefs caps1 = true) (he1 : entB Tryd.prog f1 = true) (f_a1 : ByteArray → Option Bool) (hp1 : ∀ (x0_ : ByteArray) (y_ : Bool), f_a1 x0_ = some y_ → Does Tryd.prog f1 ([S x0_] ++ caps1) (B y_)) (r : Int) (h : p_slices_IndexFunc_string_string s_a0 f_a1 = some r) : Does Tryd.prog 82 [.row false 1 s_a0.length (esStr s_a0), .fn f1 caps1] (I r) := by
  rw [p_slices_IndexFunc_string_string] at h
  refine Does.bnd (fun hb => ?_)
  have hb2 : s_a0.length ≤ 9223372036854775807 := by simpa [AV.fitNs, AV.fitN] using hb
  have hl0 := hb2
  refine Does.walk (nt := 19) Tryd.func82 rfl rfl (by simp) (by decide) (by simp [AV.noRefs, AV.noRef, hc1]) (fun G0 X w0 pv => ?_)
  have hL_0 : s_a0.length ≤ 9223372036854775807 := by first | assumption | omega
  obtain ⟨q_0, eq_0, h⟩ := Option.bind_eq_some_iff.1 h
  have ff := And.intro @hc1 p_slices_IndexFunc_string_string_tf.down
  try refine st_by ff ?_
  repeat' (first | exact trivial | refine And.intro sd ?_)
  obtain ⟨I_0, hI_0⟩ : ∃ I_ : (Nat) → ASt → Prop, I_ = (fun (i_0 : Nat) σ => (i_0 ≤ s_a0.length ∧ p_slices_IndexFunc_string_string_l0 f_a1 (s_a0.drop i_0) i_0 = some q_0) ∧ σ.t 0 = .row false 1 s_a0.length (esStr s_a0) ∧ σ.t 1 = .fn f1 caps1 ∧ σ.t 7 = I (s_a0.length : Int) ∧ σ.t 8 = I (i_0 : Int)) := ⟨_, rfl⟩
  obtain ⟨M_0, hM_0⟩ : ∃ M_ : (Nat) → Nat, M_ = (fun (i_0 : Nat) => s_a0.length - i_0) := ⟨_, rfl⟩
  obtain ⟨J_0, hJ_0⟩ : ∃ J_ : ASt → Prop, J_ = (fun σ => (some (.out ()) = some q_0) ∧ True) := ⟨_, rfl⟩
  refine aw_loopC (id := 0) I_0 M_0 J_0 (0) ?_ ?_ ?_
  · rw [hI_0]
    refine ⟨⟨Nat.zero_le _, eq_0⟩, ?_⟩
    exact p_spec_l1Split_pv ff trivial
  · try clear ff
    rintro i_0 σ hg_0
    rw [hI_0] at hg_0
    obtain ⟨⟨hi_0, h_0⟩, g0_0, g1_0, g2_0, g3_0⟩ := hg_0
    cases hr_0 : s_a0.drop i_0 with
    | nil =>
      rw [hr_0] at h_0
      rw [p_slices_IndexFunc_string_string_l0] at h_0
      have hn_0 := drop_nil hr_0
      have dr_0 : decide ((i_0 : Int) < (s_a0.length : Int)) = false := decide_eq_false (by omega)
      have ff := And.intro @hc1 (And.intro @dr_0 (And.intro @g0_0 (And.intro @g1_0 (And.intro @g2_0 (And.intro @g3_0 p_slices_IndexFunc_string_string_tf.down)))))
      try refine st_by ff ?_
      repeat' (first | exact trivial | refine And.intro sd ?_)
      refine JW.intro ?_
      rw [hJ_0]
      refine ⟨h_0, ?_⟩
      exact p_spec_l1Split_pv ff trivial
    | cons x_0 r_0 =>
      rw [hr_0] at h_0
      rw [p_slices_IndexFunc_string_string_l0] at h_0
      obtain ⟨ht_0, hg_0, hd_0⟩ := drop_cons hr_0
      have dr_0 : decide ((i_0 : Int) < (s_a0.length : Int)) = true := decide_eq_true (by omega)
      have w_0 : IntKind.i64.wrap ((i_0 : Int) + 1) = ((i_0 + 1 : Nat) : Int) := wI _ (by omega) (by omega)
      have kk0c : (esStr s_a0).drop (i_0 * 1) = eStr x_0 ++ esStr (s_a0.drop (i_0 + 1)) := drop_enc (fun _ => rfl) (hg_0)
      have kk0d := kk0c
      rw [Nat.mul_one] at kk0d
      obtain ⟨v12, ev12, h_0⟩ := Option.bind_eq_some_iff.1 h_0
      try dsimp only at h_0
      have ff := And.intro @hc1 (And.intro @dr_0 (And.intro @w_0 (And.intro @g0_0 (And.intro @g1_0 (And.intro @g2_0 (And.intro @g3_0 (And.intro @kk0c (And.intro @kk0d p_slices_IndexFunc_string_string_tf.down))))))))
      try refine st_by ff ?_
      repeat' (first | exact trivial | refine And.intro sd ?_)
      first
      | (refine cq_call (hp1 x_0 v12 ev12) (hf_by ff) he1 ⟨p_spec_l26Path_sa ff trivial, ?_⟩; clear ff)
      by_cases c13 : v12 = true
      · rw [if_pos c13] at h_0
        have dc13 := c13
        cases h_0
        try dsimp only at h
        have ff := And.intro @hc1 (And.intro @dr_0 (And.intro @w_0 (And.intro @g0_0 (And.intro @g1_0 (And.intro @g2_0 (And.intro @g3_0 (And.intro @kk0c (And.intro @kk0d (And.intro @dc13 p_slices_IndexFunc_string_string_tf.down)))))))))
        try refine st_by ff ?_
        repeat' (first | exact trivial | refine And.intro sd ?_)
        cases h
        exact ret_q1 rfl (p_spec_l1Split_rt ff trivial)
      rw [if_neg c13] at h_0
      have dc13 := eq_false_of_ne_true c13
      have ff := And.intro @hc1 (And.intro @dr_0 (And.intro @w_0 (And.intro @g0_0 (And.intro @g1_0 (And.intro @g2_0 (And.intro @g3_0 (And.intro @kk0c (And.intro @kk0d (And.intro @dc13 p_slices_IndexFunc_string_string_tf.down)))))))))
      try refine st_by ff ?_
      repeat' (first | exact trivial | refine And.intro sd ?_)
      refine Back.intro (i_0 + 1) ?_ ?_
      · clear ff; rw [hM_0]; show s_a0.length - (i_0 + 1) < s_a0.length - i_0; omega
      rw [hI_0]
      refine ⟨⟨by clear ff; show i_0 + 1 ≤ s_a0.length; omega, by show p_slices_IndexFunc_string_string_l0 f_a1 (s_a0.drop (i_0 + 1)) (i_0 + 1) = some q_0; rw [hd_0]; exact h_0⟩, ?_⟩
      exact p_spec_l1Split_pv ff trivial
  · try clear ff
    rintro σ hg_0
    rw [hJ_0] at hg_0
    obtain ⟨hj_0, _⟩ := hg_0
    cases hj_0
    try dsimp only at h
    have ff := And.intro @hc1 p_slices_IndexFunc_string_string_tf.down
    try refine st_by ff ?_
    repeat' (first | exact trivial | refine And.intro sd ?_)
    cases h
    exact ret_q1 rfl (p_spec_l1Split_rt ff trivial)
/-! slices.ContainsFunc[[]string,string] -/
def p_slices_ContainsFunc_string_string_tf := PLift.up (And.intro @eStr_eq (And.intro @esStr_len (And.intro @esStr_nil (And.intro @esStr_leaf (And.intro @esStr_fit (And.intro @esStr_share (And.intro @esStr_pure (And.intro @str_beq @trivial))))))))
def p_slices_ContainsFunc_string_string (s_a0 : List ByteArray) (f_a1 : ByteArray → Option Bool) : Option (Bool) := ((p_slices_IndexFunc_string_string s_a0 f_a1).bind fun v1 => some (decide (v1 ≥ 0)))
theorem p_slices_ContainsFunc_string_string_does (s_a0 : List ByteArray) (f1 : FuncId) (caps1 : List AV) (hc1 : AV.noRefs caps1 = true) (he1 : entB Tryd.prog f1 = true) (f_a1 : ByteArray → Option Bool) (hp1 : ∀ (x0_ : ByteArray) (y_ : Bool), f_a1 x0_ = some y_ → Does Tryd.prog f1 ([S x0_] ++ caps1) (B y_)) (r : Bool) (h : p_slices_ContainsFunc_string_string s_a0 f_a1 = some r) : Does Tryd.prog 68 [.row false 1 s_a0.length (esStr s_a0), .fn f1 caps1] (B r) := by
  rw [p_slices_ContainsFunc_string_string] at h
  refine Does.bnd (fun hb => ?_)
  have hb2 : s_a0.length ≤ 9223372036854775807 := by simpa [AV.fitNs, AV.fitN] using hb
  have hl0 := hb2
  refine Does.walk (nt := 9) Tryd.func68 rfl rfl (by simp) (by decide) (by simp [AV.noRefs, AV.noRef, hc1]) (fun G0 X w0 pv => ?_)
  obtain ⟨v1, ev1, h⟩ := Option.bind_eq_some_iff.1 h
  try dsimp only at h
  have ff := And.intro @hc1 p_slices_ContainsFunc_string_string_tf.down
  try refine st_by ff ?_
  repeat' (first | exact trivial | refine And.intro sd ?_)
  first
  | (refine cq_call (p_slices_IndexFunc_string_string_does s_a0 f1 caps1 hc1 he1 f_a1 hp1 v1 ev1) (hf_by ff) kr ⟨p_spec_l26Path_sa ff trivial, ?_⟩; clear ff)
  have ff := And.intro @hc1 p_slices_ContainsFunc_string_string_tf.down
  try refine st_by ff ?_
  repeat' (first | exact trivial | refine And.intro sd ?_)
  cases h
  exact ret_q1 rfl (p_spec_l1Split_rt ff trivial)
/-! impl.isPath$1 -/
def p_impl_isPath_1_tf := PLift.up (And.intro @str_beq @trivial)
def p_impl_isPath_1 (name_a0 : ByteArray) : Option (Bool) := (if name_a0.size ≤ 9223372036854775807 then some (!(goodName name_a0)) else none)
theorem p_impl_isPath_1_does (name_a0 : ByteArray) (r : Bool) (h : p_impl_isPath_1 name_a0 = some r) : Does Tryd.prog 69 [S name_a0] (B r) := by
  rw [p_impl_isPath_1] at h
  refine Does.walk (nt := 6) Tryd.func69 rfl rfl (by simp) (by decide) rfl (fun G0 X w0 pv => ?_)
  by_cases c1 : name_a0.size ≤ 9223372036854775807
  case neg => rw [if_neg c1] at h; cases h
  rw [if_pos c1] at h
  have ff := p_impl_isPath_1_tf.down
  try refine st_by ff ?_
  repeat' (first | exact trivial | refine And.intro sd ?_)
  first
  | (refine cq_call (implGoodName_does name_a0 (by first | assumption | omega)) (hf_by ff) kr ⟨p_spec_l26Value_sa ff trivial, ?_⟩; clear ff)
  have ff := p_impl_isPath_1_tf.down
  try refine st_by ff ?_
  repeat' (first | exact trivial | refine And.intro sd ?_)
  cases h
  exact ret_q1 rfl (p_spec_l26Value_rt ff trivial)
/-! impl.isPath -/
def p_impl_isPath_tf := PLift.up (And.intro @eStr_eq (And.intro @esStr_len (And.intro @esStr_nil (And.intro @esStr_leaf (And.intro @esStr_fit (And.intro @esStr_share (And.intro @esStr_pure (And.intro @str_beq (And.intro @Ty.sl84 (And.intro @Ty.slz84 @trivial))))))))))
def p_impl_isPath (s_a0 : ByteArray) : Option (Bool) := ((splitP s_a0 (⟨#[47]⟩ : ByteArray)).bind fun v1 => (if (v1.length : Int) ≤ 5 then ((p_slices_ContainsFunc_string_string v1 (fun x0_ => p_impl_isPath_1 x0_)).bind fun v3 => some (!v3)) else some false))
theorem p_impl_isPath_does (s_a0 : ByteArray) (r : Bool) (h : p_impl_isPath s_a0 = some r) : Does Tryd.prog 47 [S s_a0] (B r) := by
  rw [p_impl_isPath] at h
  refine Does.walk (nt := 14) Tryd.func47 rfl rfl (by simp) (by decide) rfl (fun G0 X w0 pv => ?_)
  obtain ⟨v1, ev1, h⟩ := Option.bind_eq_some_iff.1 h
  try dsimp only at h
  have ff := p_impl_isPath_tf.down
  try refine st_by ff ?_
  repeat' (first | exact trivial | refine And.intro sd ?_)
  first
  | (refine cq_own (split_does s_a0 (⟨#[47]⟩ : ByteArray) v1 ev1) (hf_by ff) kr ⟨p_spec_l26Path_sa ff trivial, ?_⟩; clear ff)
  by_cases c2 : (v1.length : Int) ≤ 5
  case neg =>
   rw [if_neg c2] at h
   have dc2 := decide_eq_false c2
   have ff := And.intro @dc2 p_impl_isPath_tf.down
   try refine st_by ff ?_
   repeat' (first | exact trivial | refine And.intro sd ?_)
   cases h
   exact ret_q1 rfl (p_spec_l1Split_rt ff trivial)
  rw [if_pos c2] at h
  have dc2 := decide_eq_true c2
  obtain ⟨v3, ev3, h⟩ := Option.bind_eq_some_iff.1 h
  try dsimp only at h
  have ff := And.intro @dc2 p_impl_isPath_tf.down
  try refine st_by ff ?_
  repeat' (first | exact trivial | refine And.intro sd ?_)
  first
  | (refine cq_lend (p_slices_ContainsFunc_string_string_does v1 69 [] (by simp [AV.noRefs, AV.noRef]) kr (fun x0_ => p_impl_isPath_1 x0_) (fun x0_ y_ h_ => p_impl_isPath_1_does x0_ y_ h_) v3 ev3) (hf_by ff) kr ⟨p_spec_l26Path_sa ff trivial, ?_⟩; clear ff)
  have ff := And.intro @dc2 p_impl_isPath_tf.down
  try refine st_by ff ?_
  repeat' (first | exact trivial | refine And.intro sd ?_)
  cases h
  exact ret_q1 rfl (p_spec_l1Split_rt ff trivial)
/-! impl.isPropValue -/
def p_impl_isPropValue_tf := PLift.up (And.intro @str_beq (And.intro @Ty.str9 @trivial))
def p_impl_isPropValue (s_a0 : ByteArray) : Option (Bool) := some (rng (s_a0.size : Int) 1 40)
theorem p_impl_isPropValue_does (s_a0 : ByteArray) (r : Bool) (h : p_impl_isPropValue s_a0 = some r) : Does Tryd.prog 50 [S s_a0] (B r) := by
  rw [p_impl_isPropValue] at h
  refine Does.walk (nt := 6) Tryd.func50 rfl rfl (by simp) (by decide) rfl (fun G0 X w0 pv => ?_)
  have ff := p_impl_isPropValue_tf.down
  try refine st_by ff ?_
  repeat' (first | exact trivial | refine And.intro sd ?_)
  first
  | (refine cq_call (inRange_does (s_a0.size : Int) 1 40) (hf_by ff) kr ⟨p_spec_l26Value_sa ff trivial, ?_⟩; clear ff)
  have ff := p_impl_isPropValue_tf.down
  try refine st_by ff ?_
  repeat' (first | exact trivial | refine And.intro sd ?_)
  cases h
  exact ret_q1 rfl (p_spec_l26Value_rt ff trivial)
/-! impl.GoodProps -/
def p_impl_GoodProps_l0 (l_a0 : List GProp) : List GProp → Nat → Option (LR (Bool) (Unit))
  | [], i_0 => some (.out ())
  | x_0 :: r_0, i_0 => ((p_impl_isPath x_0.Path).bind fun v24 => (if v24 = true then ((p_impl_isPropValue x_0.Value).bind fun v26 => (if v26 = true then (if (i_0 : Int) > 0 then ((idx l_a0 (IntKind.i64.wrap ((i_0 : Int) - 1))).bind fun x29 => (if (Op.bytesLess x29.Path.toList x_0.Path.toList) = true then p_impl_GoodProps_l0 l_a0 r_0 (i_0 + 1) else some (.ret false))) else p_impl_GoodProps_l0 l_a0 r_0 (i_0 + 1)) else some (.ret false))) else some (.ret false)))
def p_impl_GoodProps_tf := PLift.up (And.intro @eProp_eq (And.intro @esProp_len (And.intro @esProp_nil (And.intro @esProp_leaf (And.intro @esProp_fit (And.intro @esProp_share (And.intro @esProp_pure (And.intro @str_beq (And.intro @Ty.sl28 (And.intro @Ty.slz28 (And.intro @Ty.nz71 (And.intro @Ty.ldA71 (And.intro @Ty.sz71 (And.intro @Ty.szn71 (And.intro @Ty.nz9 (And.intro @Ty.ldA9 (And.intro @Ty.ldS9 (And.intro @Ty.sz9 (And.intro @Ty.szn9 (And.intro @Ty.fo71_0 (And.intro @Ty.fk71_0 (And.intro @Ty.fs71_0 (And.intro @Ty.fn71_0 (And.intro @Ty.fo71_1 (And.intro @Ty.fk71_1 (And.intro @Ty.fs71_1 (And.intro @Ty.fn71_1 (And.intro @Ty.zv71 @trivial))))))))))))))))))))))))))))
def p_impl_GoodProps (l_a0 : List GProp) : Option (Bool) := ((p_impl_GoodProps_l0 l_a0 l_a0 0).bind fun q_0 => match q_0 with | .ret r_ => some r_ | .out _ => some (decide ((l_a0.length : Int) ≤ 40)))
theorem p_impl_GoodProps_does (l_a0 : List GProp) (r : Bool) (h : p_impl_GoodProps l_a0 = some r) : Does Tryd.prog 30 [.row false 2 l_a0.length (esProp l_a0)] (B r) := by
  rw [p_impl_GoodProps] at h
  refine Does.bnd (fun hb => ?_)
  have hb2 : l_a0.length ≤ 9223372036854775807 := by simpa [AV.fitNs, AV.fitN] using hb
  have hl0 := hb2
  refine Does.walk (nt := 41) Tryd.func30 rfl rfl (by simp) (by decide) rfl (fun G0 X w0 pv => ?_)
  have hL_0 : l_a0.length ≤ 9223372036854775807 := by first | assumption | omega
  obtain ⟨q_0, eq_0, h⟩ := Option.bind_eq_some_iff.1 h
  have ff := p_impl_GoodProps_tf.down
  try refine st_by ff ?_
  repeat' (first | exact trivial | refine And.intro sd ?_)
  obtain ⟨I_0, hI_0⟩ : ∃ I_ : (Nat) → ASt → Prop, I_ = (fun (i_0 : Nat) σ => (i_0 ≤ l_a0.length ∧ p_impl_GoodProps_l0 l_a0 (l_a0.drop i_0) i_0 = some q_0) ∧ σ.t 0 = .row false 2 l_a0.length (esProp l_a0) ∧ σ.t 5 = .row false 2 l_a0.length (esProp l_a0) ∧ σ.t 6 = I (l_a0.length : Int) ∧ σ.t 7 = I (i_0 : Int)) := ⟨_, rfl⟩
  obtain ⟨M_0, hM_0⟩ : ∃ M_ : (Nat) → Nat, M_ = (fun (i_0 : Nat) => l_a0.length - i_0) := ⟨_, rfl⟩
  obtain ⟨J_0, hJ_0⟩ : ∃ J_ : ASt → Prop, J_ = (fun σ => (some (.out ()) = some q_0) ∧ σ.t 0 = .row false 2 l_a0.length (esProp l_a0)) := ⟨_, rfl⟩
  refine aw_loopC (id := 0) I_0 M_0 J_0 (0) ?_ ?_ ?_
  · rw [hI_0]
    refine ⟨⟨Nat.zero_le _, eq_0⟩, ?_⟩
    exact p_spec_GoodProps_pv ff trivial
  · try clear ff
    rintro i_0 σ hg_0
    rw [hI_0] at hg_0
    obtain ⟨⟨hi_0, h_0⟩, g0_0, g1_0, g2_0, g3_0⟩ := hg_0
    cases hr_0 : l_a0.drop i_0 with
    | nil =>
      rw [hr_0] at h_0
      rw [p_impl_GoodProps_l0] at h_0
      have hn_0 := drop_nil hr_0
      have dr_0 : decide ((i_0 : Int) < (l_a0.length : Int)) = false := decide_eq_false (by omega)
      have ff := And.intro @dr_0 (And.intro @g0_0 (And.intro @g1_0 (And.intro @g2_0 (And.intro @g3_0 p_impl_GoodProps_tf.down))))
      try refine st_by ff ?_
      repeat' (first | exact trivial | refine And.intro sd ?_)
      refine JW.intro ?_
      rw [hJ_0]
      refine ⟨h_0, ?_⟩
      exact p_spec_GoodProps_pv ff trivial
    | cons x_0 r_0 =>
      rw [hr_0] at h_0
      rw [p_impl_GoodProps_l0] at h_0
      obtain ⟨ht_0, hg_0, hd_0⟩ := drop_cons hr_0
      have dr_0 : decide ((i_0 : Int) < (l_a0.length : Int)) = true := decide_eq_true (by omega)
      have w_0 : IntKind.i64.wrap ((i_0 : Int) + 1) = ((i_0 + 1 : Nat) : Int) := wI _ (by omega) (by omega)
      have kk0c : (esProp l_a0).drop (i_0 * 2) = eProp x_0 ++ esProp (l_a0.drop (i_0 + 1)) := drop_enc (fun _ => rfl) (hg_0)
      obtain ⟨v24, ev24, h_0⟩ := Option.bind_eq_some_iff.1 h_0
      try dsimp only at h_0
      have ff := And.intro @dr_0 (And.intro @w_0 (And.intro @g0_0 (And.intro @g1_0 (And.intro @g2_0 (And.intro @g3_0 (And.intro @kk0c p_impl_GoodProps_tf.down))))))
      try refine st_by ff ?_
      repeat' (first | exact trivial | refine And.intro sd ?_ | (refine aw_drawn (id := 4) ?_ [[], [0], [0, 1], [0, 1, 2], [0, 1, 2, 3], [0, 1, 2, 3, 4], [0, 1, 2, 3, 4, 5], [0, 1, 2, 3, 4, 5, 6], [0, 1, 2, 3, 4, 5, 6, 7], [0, 1, 2, 3, 4, 5, 6, 7, 8], [0, 1, 2, 3, 4, 5, 6, 7, 8, 9], [0, 1, 2, 3, 4, 5, 6, 7, 8, 9, 10], [0, 1, 2, 3, 4, 5, 6, 7, 8, 9, 10, 11], [0, 1, 2, 3, 4, 5, 6, 7, 8, 9, 10, 11, 12], [0, 1, 2, 3, 4, 5, 6, 7, 8, 9, 10, 11, 12, 13], [0, 1, 2, 3, 4, 5, 6, 7, 8, 9, 10, 11, 12, 13], [0, 1, 2, 3, 4, 5, 6, 7, 8, 9, 10, 11, 12, 13, 15], [0, 1, 2, 3, 4, 5, 6, 7, 8, 9, 10, 11, 12, 13, 14, 15, 16], [0, 1, 2, 3, 4, 5, 6, 7, 8, 9, 10, 11, 12, 13, 14, 15, 16, 17], [0, 1, 2, 3, 4, 5, 6, 7, 8, 9, 10, 11, 12, 13, 14, 15, 16, 17, 18], [0, 1, 2, 3, 4, 5, 6, 7, 8, 9, 10, 11, 12, 13], [0, 1, 2, 3, 4, 5, 6, 7, 8, 9, 10, 11, 12, 13, 20], [0, 1, 2, 3, 4, 5, 6, 7, 8, 9, 10, 11, 12, 13, 14, 15, 16, 17, 18, 19, 20, 21], [0, 1, 2, 3, 4, 5, 6, 7, 8, 9, 10, 11, 12, 13, 14, 15, 16, 17, 18, 19, 20, 21, 22], [0, 1, 2, 3, 4, 5, 6, 7, 8, 9, 10, 11, 12, 13, 14, 15, 16, 17, 18, 19, 20, 21, 22, 23]] 22 ?_ ?_; (· kernel_rfl); (· kernel_rfl); refine st_by ff ?_))
      first
      | (refine cq_call (p_impl_isPath_does x_0.Path v24 ev24) (hf_by ff) kr ⟨p_spec_GoodProps_sa ff trivial, ?_⟩; clear ff)
      | (refine cq_dcall (p_impl_isPath_does x_0.Path v24 ev24) (hf_by ff) kr ⟨p_spec_GoodProps_sa ff trivial, ?_⟩; clear ff)
      by_cases c25 : v24 = true
      case neg =>
       rw [if_neg c25] at h_0
       have dc25 := eq_false_of_ne_true c25
       cases h_0
       try dsimp only at h
       have ff := And.intro @dr_0 (And.intro @w_0 (And.intro @g0_0 (And.intro @g1_0 (And.intro @g2_0 (And.intro @g3_0 (And.intro @kk0c (And.intro @dc25 p_impl_GoodProps_tf.down)))))))
       try refine st_by ff ?_
       repeat' (first | exact trivial | refine And.intro sd ?_)
       cases h
       exact ret_q1 rfl (p_spec_GoodProps_rt ff trivial)
      rw [if_pos c25] at h_0
      have dc25 := c25
      obtain ⟨v26, ev26, h_0⟩ := Option.bind_eq_some_iff.1 h_0
      try dsimp only at h_0
      have ff := And.intro @dr_0 (And.intro @w_0 (And.intro @g0_0 (And.intro @g1_0 (And.intro @g2_0 (And.intro @g3_0 (And.intro @kk0c (And.intro @dc25 p_impl_GoodProps_tf.down)))))))
      try refine st_by ff ?_
      repeat' (first | exact trivial | refine And.intro sd ?_)
      first
      | (refine cq_call (p_impl_isPropValue_does x_0.Value v26 ev26) (hf_by ff) kr ⟨p_spec_GoodProps_sa ff trivial, ?_⟩; clear ff)
      | (refine cq_dcall (p_impl_isPropValue_does x_0.Value v26 ev26) (hf_by ff) kr ⟨p_spec_GoodProps_sa ff trivial, ?_⟩; clear ff)
      by_cases c27 : v26 = true
      case neg =>
       rw [if_neg c27] at h_0
       have dc27 := eq_false_of_ne_true c27
       cases h_0
       try dsimp only at h
       have ff := And.intro @dr_0 (And.intro @w_0 (And.intro @g0_0 (And.intro @g1_0 (And.intro @g2_0 (And.intro @g3_0 (And.intro @kk0c (And.intro @dc25 (And.intro @dc27 p_impl_GoodProps_tf.down))))))))
       try refine st_by ff ?_
       repeat' (first | exact trivial | refine And.intro sd ?_)
       cases h
       exact ret_q1 rfl (p_spec_GoodProps_rt ff trivial)
      rw [if_pos c27] at h_0
      have dc27 := c27
      by_cases c28 : (i_0 : Int) > 0
      case neg =>
       rw [if_neg c28] at h_0
       have dc28 := decide_eq_false c28
       have ff := And.intro @dr_0 (And.intro @w_0 (And.intro @g0_0 (And.intro @g1_0 (And.intro @g2_0 (And.intro @g3_0 (And.intro @kk0c (And.intro @dc25 (And.intro @dc27 (And.intro @dc28 p_impl_GoodProps_tf.down)))))))))
       try refine st_by ff ?_
       repeat' (first | exact trivial | refine And.intro sd ?_)
       refine Back.intro (i_0 + 1) ?_ ?_
       · clear ff; rw [hM_0]; show l_a0.length - (i_0 + 1) < l_a0.length - i_0; omega
       rw [hI_0]
       refine ⟨⟨by clear ff; show i_0 + 1 ≤ l_a0.length; omega, by show p_impl_GoodProps_l0 l_a0 (l_a0.drop (i_0 + 1)) (i_0 + 1) = some q_0; rw [hd_0]; exact h_0⟩, ?_⟩
       exact p_spec_GoodProps_pv ff trivial
      rw [if_pos c28] at h_0
      have dc28 := decide_eq_true c28
      obtain ⟨x29, ex29, h_0⟩ := Option.bind_eq_some_iff.1 h_0
      try dsimp only at h_0
      have f30a := idx_lo ex29
      have f30b := idx_hi ex29
      have f30c : (esProp l_a0).drop (((IntKind.i64.wrap ((i_0 : Int) - 1)).toNat) * 2) = eProp x29 ++ esProp (l_a0.drop ((IntKind.i64.wrap ((i_0 : Int) - 1)).toNat + 1)) := drop_enc (fun _ => rfl) (idx_get ex29)
      by_cases c31 : (Op.bytesLess x29.Path.toList x_0.Path.toList) = true
      case neg =>
       rw [if_neg c31] at h_0
       have dc31 := eq_false_of_ne_true c31
       cases h_0
       try dsimp only at h
       have ff := And.intro @dr_0 (And.intro @w_0 (And.intro @g0_0 (And.intro @g1_0 (And.intro @g2_0 (And.intro @g3_0 (And.intro @kk0c (And.intro @dc25 (And.intro @dc27 (And.intro @dc28 (And.intro @f30c (And.intro @dc31 p_impl_GoodProps_tf.down)))))))))))
       try refine st_by ff ?_
       repeat' (first | exact trivial | refine And.intro sd ?_)
       cases h
       exact ret_q1 rfl (p_spec_GoodProps_rt ff trivial)
      rw [if_pos c31] at h_0
      have dc31 := c31
      have ff := And.intro @dr_0 (And.intro @w_0 (And.intro @g0_0 (And.intro @g1_0 (And.intro @g2_0 (And.intro @g3_0 (And.intro @kk0c (And.intro @dc25 (And.intro @dc27 (And.intro @dc28 (And.intro @f30c (And.intro @dc31 p_impl_GoodProps_tf.down)))))))))))
      try refine st_by ff ?_
      repeat' (first | exact trivial | refine And.intro sd ?_)
      refine Back.intro (i_0 + 1) ?_ ?_
      · clear ff; rw [hM_0]; show l_a0.length - (i_0 + 1) < l_a0.length - i_0; omega
      rw [hI_0]
      refine ⟨⟨by clear ff; show i_0 + 1 ≤ l_a0.length; omega, by show p_impl_GoodProps_l0 l_a0 (l_a0.drop (i_0 + 1)) (i_0 + 1) = some q_0; rw [hd_0]; exact h_0⟩, ?_⟩
      exact p_spec_GoodProps_pv ff trivial
  · try clear ff
    rintro σ hg_0
    rw [hJ_0] at hg_0
    obtain ⟨hj_0, g0_0a⟩ := hg_0
    cases hj_0
    try dsimp only at h
    have ff := And.intro @g0_0a p_impl_GoodProps_tf.down
    try refine st_by ff ?_
    repeat' (first | exact trivial | refine And.intro sd ?_)
    cases h
    exact ret_q1 rfl (p_spec_GoodProps_rt ff trivial)
end Go.Av
end
section
set_option linter.unusedSimpArgs false
set_option linter.unusedVariables false
set_option maxRecDepth 100000
set_option maxHeartbeats 1000000
namespace Go.Av
open Go.Proofs
theorem dt_by {F A B : Prop} (hF : F) (hb : B) (h : F → A = B := by intro hF; simp only [hF, aw_skip, aw_ret, aw_exit, aw_seq, aw_block, aw_cond, aw_region, thenK_nm, thenK_rt, thenK_ex, blockK_nm, blockK_rt, blockK_ex, cutK_nm, cutK_rt, cutK_ex, sq_nil, sq_none, sq_some, GQ_same, GQ_tf, GQ_ft, GQ_undef, CBC_true, CBC_false, CBC_not, set_t, set_m, ev_tmp, ev_const, ev_func, skip1_some, skip1_none, startT_t, st_move, st_pick, st_bin, binS_lit, binS_row, st_un, st_conv, st_len, st_max, st_min, st_indexAddr, idxS_row, idxS_sl, idxS_lit, st_index, st_fieldAddr, st_load, st_nck, nilQ, st_field, st_extract, st_makeFunc, st_build, st_make, st_box, st_alloc, st_buildSlice, st_assign, st_call, st_store, pickQ, binQ, unQ, convQ, lenQ, maxQ, minQ, indexAddrQ, indexQ, fieldAddrQ, loadQ, storeQ, makeQ, fieldQ, extractQ, assignQ, appQ, appA, appC, appSelf, nilSl_row, binS_sl, nsz_zero, nsz_one, nsz_two, nsz_succ, nsz_imp, appB, appRow, appMv, appOk, buildQ, buildR, cellsOk, cellOk, partsA, buildSliceQ, rowQ, bsOk, bsA, sliceQ, sliceSl, sliceSh, sliceSt, bndQ, fillA, convSl, rowB, bytesA, fltV, ren_t, ren_m, renF, swap_t, swap_m, swapF, repP, newA, intOk, intV, strOk, strV, new_t, new_m, updM_t, updM_m, nodeOf_nil, upd_nil, AV.mapRef, AV.mapRefs, AV.share, AV.shares, retK_rt, retK_nm, List.map_cons, List.map_nil, List.nil_append, List.cons_append, List.append_nil, Nat.reduceEqDiff, Nat.reduceLT, Nat.reduceAdd, Nat.reduceMul, ↓reduceIte, true_and, and_true, List.getElem?_cons_succ, List.getElem?_cons_zero, List.getD_cons_succ, List.getD_cons_zero, cond_true, cond_false, Bool.not_true, Bool.not_false, Option.isSome_some, memN, cellsOf, setN, openC, stOk, Value.oneCell', Option.map_some, List.length_cons, List.length_nil, reduceCtorEq, or_true, true_or, treeQ, treeR, nilTs_cons, nilTs_nil, nilTs_end, nilRq, nilB_nil, nilB_none, nilB_some, nilA_none, nilA_nil, nilA_row, nilRs, boxQ, allocQ, closeV, closeVs, fitC, fitCs, leafCs, AV.leafOk, AV.parts, setNs, setL, mapT_t, mapT_m, killR, under, openCs, List.set_cons_zero, List.set_cons_succ, Nat.reduceLeDiff, Nat.reduceSub, AV.noRefs, AV.noRef, Bool.and_true, Bool.true_and, Bool.and_false, Bool.false_and, List.drop_succ_cons, List.drop_zero, List.take_succ_cons, List.take_zero, List.take_nil, List.drop_nil, Bool.false_eq_true, nodeOf_cons, AV.at_, AV.kids, AV.upd, AV.withKids, ↓reduceDIte, Nat.zero_add, Int.toNat_natCast, Nat.mul_one, Nat.one_mul, Nat.add_zero, Nat.zero_mul, Nat.sub_zero, Int.toNat_zero, List.length_map, Bool.or_false, Bool.or_true, Bool.true_or, Bool.false_or, rowIn_eq, rowAny_eq, rowInM, rowAnyM, killF, List.isPrefixOf_nil_left, List.isPrefixOf_cons_nil, and_false, false_and, ne_eq, not_false_eq_true, Nat.le_refl, Nat.lt_add_one, Nat.zero_le, and_self, retXK_rt, retXK_nm, startX_t, startX_m, openV, openVs, regs, Option.getD_some, Int.sub_zero, Int.zero_add, Int.add_zero, decide_true, decide_false, not_true_eq_false, Option.bind_some, bne_self_eq_false, beq_self_eq_true, updOne_tu, upL_nil, upL_cons, allUp_nil, allUp_cons, ptrsC_nil, ptrsC_cons, getMs_nil, getMs_cons, dxL_some, dqX_def, dqA_nil, dqA_cons, dqx2_cons, dqx3_def, dqC_nil, dqC_cons, dqB_nil, dqB_cons, fixP_nil, fixP_cons, sameP_nil, sameP_none, sameP_some, dxS_none, dxS_some, dxA_none, dxA_some, dx_store, dx_app, base1_t, base1_m, fOf_ptr, mapRef_idF, dst_none, dst_some, dst_store, dq_nil, dq_none, dq_some, dq_store, dstoreQ, pickU, upd, updOne_st, updOne_sm, updOne_sn, dq_bs, dbs, dbs1_s, dbs1_n, dbs2_s, splitS_nil, splitS_sl, splitS_lit, splitS_row, splitS_box, dnx1_n, dnx1_s, tkC_n, tkC_s, tkV_mark, outV_mark, unO_mark, unO_none, unO_some, allRef_mark, tkV_fn, outV_fn, moV_fn, tkV_lit, outV_lit, moV_lit, tkV_junk, outV_junk, moV_junk, tkV_row, outV_row, moV_row, tkV_box, outV_box, moV_box, tkV_sl, outV_sl, moV_sl, tkV_ptr, outV_ptr, moV_ptr, tkV_agg, outV_agg, moV_agg, tkV_tup, outV_tup, moV_tup, noUp, upOk, Option.isNone_none, List.range_succ, dq_move, dq_pick, dq_bin, dq_un, dq_conv, dq_len, dq_max, dq_min, dq_indexAddr, dq_index, dq_fieldAddr, dq_load, dq_nck, dq_field, dq_extract, dq_makeFunc, dq_build, dq_slice, dq_assign, dq_call, dq_alloc, dq_make, dalloc, dmk, dnx, dOf, SV_t, SV_m, GD_same, GD_tf, GD_ft, GD_undef, wh, memB, okV, AV.allRef, AV.allRefs, killL, Option.some.injEq, Nat.reduceBEq]; exact rfl) : A := (h hF) ▸ hb
theorem dc_by {F A : Prop} (hF : F) (h : F → A := by intro hF; first | (simp only [hF, aw_skip, aw_ret, aw_exit, aw_seq, aw_block, aw_cond, aw_region, thenK_nm, thenK_rt, thenK_ex, blockK_nm, blockK_rt, blockK_ex, cutK_nm, cutK_rt, cutK_ex, sq_nil, sq_none, sq_some, GQ_same, GQ_tf, GQ_ft, GQ_undef, CBC_true, CBC_false, CBC_not, set_t, set_m, ev_tmp, ev_const, ev_func, skip1_some, skip1_none, startT_t, st_move, st_pick, st_bin, binS_lit, binS_row, st_un, st_conv, st_len, st_max, st_min, st_indexAddr, idxS_row, idxS_sl, idxS_lit, st_index, st_fieldAddr, st_load, st_nck, nilQ, st_field, st_extract, st_makeFunc, st_build, st_make, st_box, st_alloc, st_buildSlice, st_assign, st_call, st_store, pickQ, binQ, unQ, convQ, lenQ, maxQ, minQ, indexAddrQ, indexQ, fieldAddrQ, loadQ, storeQ, makeQ, fieldQ, extractQ, assignQ, appQ, appA, appC, appSelf, nilSl_row, binS_sl, nsz_zero, nsz_one, nsz_two, nsz_succ, nsz_imp, appB, appRow, appMv, appOk, buildQ, buildR, cellsOk, cellOk, partsA, buildSliceQ, rowQ, bsOk, bsA, sliceQ, sliceSl, sliceSh, sliceSt, bndQ, fillA, convSl, rowB, bytesA, fltV, ren_t, ren_m, renF, swap_t, swap_m, swapF, repP, newA, intOk, intV, strOk, strV, new_t, new_m, updM_t, updM_m, nodeOf_nil, upd_nil, AV.mapRef, AV.mapRefs, AV.share, AV.shares, retK_rt, retK_nm, List.map_cons, List.map_nil, List.nil_append, List.cons_append, List.append_nil, Nat.reduceEqDiff, Nat.reduceLT, Nat.reduceAdd, Nat.reduceMul, ↓reduceIte, true_and, and_true, List.getElem?_cons_succ, List.getElem?_cons_zero, List.getD_cons_succ, List.getD_cons_zero, cond_true, cond_false, Bool.not_true, Bool.not_false, Option.isSome_some, memN, cellsOf, setN, openC, stOk, Value.oneCell', Option.map_some, List.length_cons, List.length_nil, reduceCtorEq, or_true, true_or, treeQ, treeR, nilTs_cons, nilTs_nil, nilTs_end, nilRq, nilB_nil, nilB_none, nilB_some, nilA_none, nilA_nil, nilA_row, nilRs, boxQ, allocQ, closeV, closeVs, fitC, fitCs, leafCs, AV.leafOk, AV.parts, setNs, setL, mapT_t, mapT_m, killR, under, openCs, List.set_cons_zero, List.set_cons_succ, Nat.reduceLeDiff, Nat.reduceSub, AV.noRefs, AV.noRef, Bool.and_true, Bool.true_and, Bool.and_false, Bool.false_and, List.drop_succ_cons, List.drop_zero, List.take_succ_cons, List.take_zero, List.take_nil, List.drop_nil, Bool.false_eq_true, nodeOf_cons, AV.at_, AV.kids, AV.upd, AV.withKids, ↓reduceDIte, Nat.zero_add, Int.toNat_natCast, Nat.mul_one, Nat.one_mul, Nat.add_zero, Nat.zero_mul, Nat.sub_zero, Int.toNat_zero, List.length_map, Bool.or_false, Bool.or_true, Bool.true_or, Bool.false_or, rowIn_eq, rowAny_eq, rowInM, rowAnyM, killF, List.isPrefixOf_nil_left, List.isPrefixOf_cons_nil, and_false, false_and, ne_eq, not_false_eq_true, Nat.le_refl, Nat.lt_add_one, Nat.zero_le, and_self, retXK_rt, retXK_nm, startX_t, startX_m, openV, openVs, regs, Option.getD_some, Int.sub_zero, Int.zero_add, Int.add_zero, decide_true, decide_false, not_true_eq_false, Option.bind_some, bne_self_eq_false, beq_self_eq_true, fnId, capsOf]; done) | (simp only [hF, aw_skip, aw_ret, aw_exit, aw_seq, aw_block, aw_cond, aw_region, thenK_nm, thenK_rt, thenK_ex, blockK_nm, blockK_rt, blockK_ex, cutK_nm, cutK_rt, cutK_ex, sq_nil, sq_none, sq_some, GQ_same, GQ_tf, GQ_ft, GQ_undef, CBC_true, CBC_false, CBC_not, set_t, set_m, ev_tmp, ev_const, ev_func, skip1_some, skip1_none, startT_t, st_move, st_pick, st_bin, binS_lit, binS_row, st_un, st_conv, st_len, st_max, st_min, st_indexAddr, idxS_row, idxS_sl, idxS_lit, st_index, st_fieldAddr, st_load, st_nck, nilQ, st_field, st_extract, st_makeFunc, st_build, st_make, st_box, st_alloc, st_buildSlice, st_assign, st_call, st_store, pickQ, binQ, unQ, convQ, lenQ, maxQ, minQ, indexAddrQ, indexQ, fieldAddrQ, loadQ, storeQ, makeQ, fieldQ, extractQ, assignQ, appQ, appA, appC, appSelf, nilSl_row, binS_sl, nsz_zero, nsz_one, nsz_two, nsz_succ, nsz_imp, appB, appRow, appMv, appOk, buildQ, buildR, cellsOk, cellOk, partsA, buildSliceQ, rowQ, bsOk, bsA, sliceQ, sliceSl, sliceSh, sliceSt, bndQ, fillA, convSl, rowB, bytesA, fltV, ren_t, ren_m, renF, swap_t, swap_m, swapF, repP, newA, intOk, intV, strOk, strV, new_t, new_m, updM_t, updM_m, nodeOf_nil, upd_nil, AV.mapRef, AV.mapRefs, AV.share, AV.shares, retK_rt, retK_nm, List.map_cons, List.map_nil, List.nil_append, List.cons_append, List.append_nil, Nat.reduceEqDiff, Nat.reduceLT, Nat.reduceAdd, Nat.reduceMul, ↓reduceIte, true_and, and_true, List.getElem?_cons_succ, List.getElem?_cons_zero, List.getD_cons_succ, List.getD_cons_zero, cond_true, cond_false, Bool.not_true, Bool.not_false, Option.isSome_some, memN, cellsOf, setN, openC, stOk, Value.oneCell', Option.map_some, List.length_cons, List.length_nil, reduceCtorEq, or_true, true_or, treeQ, treeR, nilTs_cons, nilTs_nil, nilTs_end, nilRq, nilB_nil, nilB_none, nilB_some, nilA_none, nilA_nil, nilA_row, nilRs, boxQ, allocQ, closeV, closeVs, fitC, fitCs, leafCs, AV.leafOk, AV.parts, setNs, setL, mapT_t, mapT_m, killR, under, openCs, List.set_cons_zero, List.set_cons_succ, Nat.reduceLeDiff, Nat.reduceSub, AV.noRefs, AV.noRef, Bool.and_true, Bool.true_and, Bool.and_false, Bool.false_and, List.drop_succ_cons, List.drop_zero, List.take_succ_cons, List.take_zero, List.take_nil, List.drop_nil, Bool.false_eq_true, nodeOf_cons, AV.at_, AV.kids, AV.upd, AV.withKids, ↓reduceDIte, Nat.zero_add, Int.toNat_natCast, Nat.mul_one, Nat.one_mul, Nat.add_zero, Nat.zero_mul, Nat.sub_zero, Int.toNat_zero, List.length_map, Bool.or_false, Bool.or_true, Bool.true_or, Bool.false_or, rowIn_eq, rowAny_eq, rowInM, rowAnyM, killF, List.isPrefixOf_nil_left, List.isPrefixOf_cons_nil, and_false, false_and, ne_eq, not_false_eq_true, Nat.le_refl, Nat.lt_add_one, Nat.zero_le, and_self, retXK_rt, retXK_nm, startX_t, startX_m, openV, openVs, regs, Option.getD_some, Int.sub_zero, Int.zero_add, Int.add_zero, decide_true, decide_false, not_true_eq_false, Option.bind_some, bne_self_eq_false, beq_self_eq_true, fnId, capsOf]; exact rfl)) : A := h hF
theorem delProp_walk (l : List GProp) (i j : Nat) (hij : i ≤ j) (hj : j ≤ l.length) : DoesX Tryd.prog 74 [.sl 1000 [] 0 l.length, I i, I j] [.row true 2 l.length (esProp l)] (.row true 2 (l.length - (j - i)) (esProp (l.take i ++ l.drop j))) [.junk] := by
  have z28 : zOk Tryd.prog 28 = true := by kernel_rfl
  have sz28 : slSz Tryd.prog 28 = 2 := by kernel_rfl
  have hL : (esProp l).length = l.length * 2 := esProp_len l
  refine DoesX.walkA (nt := 33) Tryd.func74 rfl rfl (by simp) (by decide) rfl (fun G0 X w0 pv => ?_)
  refine AWP.seq (aw_sound ?_)
  (first | exact dc_by (And.intro @Ty.sl28 (And.intro @Ty.nze28 (And.intro @Ty.slz28 (And.intro @Ty.zok28 (And.intro @Ty.by28 @Ty.zs28))))) | refine dt_by (And.intro @Ty.sl28 (And.intro @Ty.nze28 (And.intro @Ty.slz28 (And.intro @Ty.zok28 (And.intro @Ty.by28 @Ty.zs28))))) ?_)
  refine AWP.seq (aw_sound ?_)
  (first | exact dc_by (And.intro @Ty.sl28 (And.intro @Ty.nze28 (And.intro @Ty.slz28 (And.intro @Ty.zok28 (And.intro @Ty.by28 @Ty.zs28))))) | refine dt_by (And.intro @Ty.sl28 (And.intro @Ty.nze28 (And.intro @Ty.slz28 (And.intro @Ty.zok28 (And.intro @Ty.by28 @Ty.zs28))))) ?_)
  refine l_sl3 (n := l.length) (cs := esProp l) (l := i) (h := j) (m := l.length) (kh := .i64) (km := .i64) (by show 13 < 33; decide) Ty.sl28 (len := l.length) (r := 1000) (p := []) ?_ ?_ (Nat.le_refl _) ?_ ?_ ?_ (by omega) (by omega) (by omega) (by omega) ?_
  · (first | exact dc_by (And.intro @Ty.sl28 (And.intro @Ty.nze28 (And.intro @Ty.slz28 (And.intro @Ty.zok28 (And.intro @Ty.by28 @Ty.zs28))))) | refine dt_by (And.intro @Ty.sl28 (And.intro @Ty.nze28 (And.intro @Ty.slz28 (And.intro @Ty.zok28 (And.intro @Ty.by28 @Ty.zs28))))) ?_)
  · (first | exact dc_by (And.intro @Ty.sl28 (And.intro @Ty.nze28 (And.intro @Ty.slz28 (And.intro @Ty.zok28 (And.intro @Ty.by28 @Ty.zs28))))) | refine dt_by (And.intro @Ty.sl28 (And.intro @Ty.nze28 (And.intro @Ty.slz28 (And.intro @Ty.zok28 (And.intro @Ty.by28 @Ty.zs28))))) ?_)
  · simp only [bndQ]; (first | exact dc_by (And.intro @Ty.sl28 (And.intro @Ty.nze28 (And.intro @Ty.slz28 (And.intro @Ty.zok28 (And.intro @Ty.by28 @Ty.zs28))))) | refine dt_by (And.intro @Ty.sl28 (And.intro @Ty.nze28 (And.intro @Ty.slz28 (And.intro @Ty.zok28 (And.intro @Ty.by28 @Ty.zs28))))) ?_)
  · (first | exact dc_by (And.intro @Ty.sl28 (And.intro @Ty.nze28 (And.intro @Ty.slz28 (And.intro @Ty.zok28 (And.intro @Ty.by28 @Ty.zs28))))) | refine dt_by (And.intro @Ty.sl28 (And.intro @Ty.nze28 (And.intro @Ty.slz28 (And.intro @Ty.zok28 (And.intro @Ty.by28 @Ty.zs28))))) ?_)
  · (first | exact dc_by (And.intro @Ty.sl28 (And.intro @Ty.nze28 (And.intro @Ty.slz28 (And.intro @Ty.zok28 (And.intro @Ty.by28 @Ty.zs28))))) | refine dt_by (And.intro @Ty.sl28 (And.intro @Ty.nze28 (And.intro @Ty.slz28 (And.intro @Ty.zok28 (And.intro @Ty.by28 @Ty.zs28))))) ?_)
  (first | exact dc_by (And.intro @Ty.sl28 (And.intro @Ty.nze28 (And.intro @Ty.slz28 (And.intro @Ty.zok28 (And.intro @Ty.by28 @Ty.zs28))))) | refine dt_by (And.intro @Ty.sl28 (And.intro @Ty.nze28 (And.intro @Ty.slz28 (And.intro @Ty.zok28 (And.intro @Ty.by28 @Ty.zs28))))) ?_)
  refine AWP.seq (aw_sound ?_)
  (first | exact dc_by (And.intro @Ty.sl28 (And.intro @Ty.nze28 (And.intro @Ty.slz28 (And.intro @Ty.zok28 (And.intro @Ty.by28 @Ty.zs28))))) | refine dt_by (And.intro @Ty.sl28 (And.intro @Ty.nze28 (And.intro @Ty.slz28 (And.intro @Ty.zok28 (And.intro @Ty.by28 @Ty.zs28))))) ?_)
  refine CBC_bool (fun hd => ?_) (fun hd => ?_)
  · have hd' : i = j := by simp at hd; omega
    subst hd'
    (first | exact dc_by (And.intro @Ty.sl28 (And.intro @Ty.nze28 (And.intro @Ty.slz28 (And.intro @Ty.zok28 (And.intro @Ty.by28 @Ty.zs28))))) | refine dt_by (And.intro @Ty.sl28 (And.intro @Ty.nze28 (And.intro @Ty.slz28 (And.intro @Ty.zok28 (And.intro @Ty.by28 @Ty.zs28))))) ?_)
    refine retX_p1 rfl ?_
    simp only [retXq1, retXCq, rview]; (first | exact dc_by (And.intro @Ty.sl28 (And.intro @Ty.nze28 (And.intro @Ty.slz28 (And.intro @Ty.zok28 (And.intro @Ty.by28 (And.intro @Ty.zs28 (And.intro @regsQ_cons @regsQ_nil))))))) | refine dt_by (And.intro @Ty.sl28 (And.intro @Ty.nze28 (And.intro @Ty.slz28 (And.intro @Ty.zok28 (And.intro @Ty.by28 (And.intro @Ty.zs28 (And.intro @regsQ_cons @regsQ_nil))))))) ?_)
    simp
  have hd' : i ≠ j := by simp at hd; omega
  (first | exact dc_by (And.intro @Ty.sl28 (And.intro @Ty.nze28 (And.intro @Ty.slz28 (And.intro @Ty.zok28 (And.intro @Ty.by28 (And.intro @Ty.zs28 @hd)))))) | refine dt_by (And.intro @Ty.sl28 (And.intro @Ty.nze28 (And.intro @Ty.slz28 (And.intro @Ty.zok28 (And.intro @Ty.by28 (And.intro @Ty.zs28 @hd)))))) ?_)
  refine AWP.seq (aw_sound ?_)
  (first | exact dc_by (And.intro @Ty.sl28 (And.intro @Ty.nze28 (And.intro @Ty.slz28 (And.intro @Ty.zok28 (And.intro @Ty.by28 @Ty.zs28))))) | refine dt_by (And.intro @Ty.sl28 (And.intro @Ty.nze28 (And.intro @Ty.slz28 (And.intro @Ty.zok28 (And.intro @Ty.by28 @Ty.zs28))))) ?_)
  refine AWP.seq (awp_drawn (id := 5) ?_ [[], [], [0, 1], [], [], [3, 4], [0, 1, 2, 3, 4, 5], [0, 1, 2, 3, 4, 5, 6]] 6 ?_ ?_)
  · kernel_rfl
  · kernel_rfl
  (first | exact dc_by (And.intro @Ty.sl28 (And.intro @Ty.nze28 (And.intro @Ty.slz28 (And.intro @Ty.zok28 (And.intro @Ty.by28 @Ty.zs28))))) | refine dt_by (And.intro @Ty.sl28 (And.intro @Ty.nze28 (And.intro @Ty.slz28 (And.intro @Ty.zok28 (And.intro @Ty.by28 @Ty.zs28))))) ?_)
  refine ⟨⟨by omega, by omega, by omega⟩, ⟨by omega, by omega, by omega⟩, ?_⟩
  by_cases hjl : j < l.length
  · refine seq_lj rfl (l_appIn (n := l.length) (cs := esProp l) (k := i) (off := j) (m := l.length - j) (r := 1000) (p := []) (by show 26 < 33; decide) z28 ?_ ?_ ?_ (by omega) (by omega) (by omega) ?_ ?_ ?_)
    · (first | exact dc_by (And.intro @Ty.sl28 (And.intro @Ty.nze28 (And.intro @Ty.slz28 (And.intro @Ty.zok28 (And.intro @Ty.by28 @Ty.zs28))))) | refine dt_by (And.intro @Ty.sl28 (And.intro @Ty.nze28 (And.intro @Ty.slz28 (And.intro @Ty.zok28 (And.intro @Ty.by28 @Ty.zs28))))) ?_)
    · (first | exact dc_by (And.intro @Ty.sl28 (And.intro @Ty.nze28 (And.intro @Ty.slz28 (And.intro @Ty.zok28 (And.intro @Ty.by28 @Ty.zs28))))) | refine dt_by (And.intro @Ty.sl28 (And.intro @Ty.nze28 (And.intro @Ty.slz28 (And.intro @Ty.zok28 (And.intro @Ty.by28 @Ty.zs28))))) ?_)
    · (first | exact dc_by (And.intro @Ty.sl28 (And.intro @Ty.nze28 (And.intro @Ty.slz28 (And.intro @Ty.zok28 (And.intro @Ty.by28 (And.intro @Ty.zs28 @sz28)))))) | refine dt_by (And.intro @Ty.sl28 (And.intro @Ty.nze28 (And.intro @Ty.slz28 (And.intro @Ty.zok28 (And.intro @Ty.by28 (And.intro @Ty.zs28 @sz28)))))) ?_)
    · rw [sz28, esProp_dropk, esProp_takek]; exact esProp_leaf _
    · rw [sz28, esProp_dropk, esProp_takek]; exact esProp_fit _
    rw [sz28]
    generalize hcs2 : setL (esProp l) _ _ = cs2
    refine seq_st rfl ?_
    (first | exact dc_by (And.intro @Ty.sl28 (And.intro @Ty.nze28 (And.intro @Ty.slz28 (And.intro @Ty.zok28 (And.intro @Ty.by28 @Ty.zs28))))) | refine dt_by (And.intro @Ty.sl28 (And.intro @Ty.nze28 (And.intro @Ty.slz28 (And.intro @Ty.zok28 (And.intro @Ty.by28 @Ty.zs28))))) ?_)
    refine Seq.nil ?_
    (first | exact dc_by (And.intro @Ty.sl28 (And.intro @Ty.nze28 (And.intro @Ty.slz28 (And.intro @Ty.zok28 (And.intro @Ty.by28 @Ty.zs28))))) | refine dt_by (And.intro @Ty.sl28 (And.intro @Ty.nze28 (And.intro @Ty.slz28 (And.intro @Ty.zok28 (And.intro @Ty.by28 @Ty.zs28))))) ?_)
    refine AWP.seq (AWP.region ?_)
    refine seq_st rfl ?_
    (first | exact dc_by (And.intro @Ty.sl28 (And.intro @Ty.nze28 (And.intro @Ty.slz28 (And.intro @Ty.zok28 (And.intro @Ty.by28 @Ty.zs28))))) | refine dt_by (And.intro @Ty.sl28 (And.intro @Ty.nze28 (And.intro @Ty.slz28 (And.intro @Ty.zok28 (And.intro @Ty.by28 @Ty.zs28))))) ?_)
    refine seq_st rfl ?_
    (first | exact dc_by (And.intro @Ty.sl28 (And.intro @Ty.nze28 (And.intro @Ty.slz28 (And.intro @Ty.zok28 (And.intro @Ty.by28 @Ty.zs28))))) | refine dt_by (And.intro @Ty.sl28 (And.intro @Ty.nze28 (And.intro @Ty.slz28 (And.intro @Ty.zok28 (And.intro @Ty.by28 @Ty.zs28))))) ?_)
    refine seq_st rfl ?_
    (first | exact dc_by (And.intro @Ty.sl28 (And.intro @Ty.nze28 (And.intro @Ty.slz28 (And.intro @Ty.zok28 (And.intro @Ty.by28 @Ty.zs28))))) | refine dt_by (And.intro @Ty.sl28 (And.intro @Ty.nze28 (And.intro @Ty.slz28 (And.intro @Ty.zok28 (And.intro @Ty.by28 @Ty.zs28))))) ?_)
    refine ⟨by omega, ?_⟩
    refine seq_st rfl ?_
    (first | exact dc_by (And.intro @Ty.sl28 (And.intro @Ty.nze28 (And.intro @Ty.slz28 (And.intro @Ty.zok28 (And.intro @Ty.by28 @Ty.zs28))))) | refine dt_by (And.intro @Ty.sl28 (And.intro @Ty.nze28 (And.intro @Ty.slz28 (And.intro @Ty.zok28 (And.intro @Ty.by28 @Ty.zs28))))) ?_)
    refine seq_lj rfl (l_slCap (n := l.length) (cs := cs2) (l := ((i + (l.length - j) : Nat) : Int)) (h := l.length) (len := i + (l.length - j)) (r := 1000) (p := []) (by show 31 < 33; decide) Ty.sl28 ?_ ?_ (by omega) ?_ ?_ (by omega) (by omega) (by omega) ?_)
    · (first | exact dc_by (And.intro @Ty.sl28 (And.intro @Ty.nze28 (And.intro @Ty.slz28 (And.intro @Ty.zok28 (And.intro @Ty.by28 @Ty.zs28))))) | refine dt_by (And.intro @Ty.sl28 (And.intro @Ty.nze28 (And.intro @Ty.slz28 (And.intro @Ty.zok28 (And.intro @Ty.by28 @Ty.zs28))))) ?_)
    · (first | exact dc_by (And.intro @Ty.sl28 (And.intro @Ty.nze28 (And.intro @Ty.slz28 (And.intro @Ty.zok28 (And.intro @Ty.by28 @Ty.zs28))))) | refine dt_by (And.intro @Ty.sl28 (And.intro @Ty.nze28 (And.intro @Ty.slz28 (And.intro @Ty.zok28 (And.intro @Ty.by28 @Ty.zs28))))) ?_)
    · simp only [bndQ]; (first | exact dc_by (And.intro @Ty.sl28 (And.intro @Ty.nze28 (And.intro @Ty.slz28 (And.intro @Ty.zok28 (And.intro @Ty.by28 @Ty.zs28))))) | refine dt_by (And.intro @Ty.sl28 (And.intro @Ty.nze28 (And.intro @Ty.slz28 (And.intro @Ty.zok28 (And.intro @Ty.by28 @Ty.zs28))))) ?_)
    · refine ⟨_, rfl, ?_⟩; simp only [bndQ]; (first | exact dc_by (And.intro @Ty.sl28 (And.intro @Ty.nze28 (And.intro @Ty.slz28 (And.intro @Ty.zok28 (And.intro @Ty.by28 @Ty.zs28))))) | refine dt_by (And.intro @Ty.sl28 (And.intro @Ty.nze28 (And.intro @Ty.slz28 (And.intro @Ty.zok28 (And.intro @Ty.by28 @Ty.zs28))))) ?_)
    simp only [Int.toNat_natCast]
    refine seq_lj rfl (l_clear (n := l.length) (cs := cs2) (off := i + (l.length - j)) (m := l.length - (i + (l.length - j))) (r := 1000) (p := []) z28 ?_ ?_ (by omega) (by omega) ?_)
    · (first | exact dc_by (And.intro @Ty.sl28 (And.intro @Ty.nze28 (And.intro @Ty.slz28 (And.intro @Ty.zok28 (And.intro @Ty.by28 @Ty.zs28))))) | refine dt_by (And.intro @Ty.sl28 (And.intro @Ty.nze28 (And.intro @Ty.slz28 (And.intro @Ty.zok28 (And.intro @Ty.by28 @Ty.zs28))))) ?_)
    · (first | exact dc_by (And.intro @Ty.sl28 (And.intro @Ty.nze28 (And.intro @Ty.slz28 (And.intro @Ty.zok28 (And.intro @Ty.by28 (And.intro @Ty.zs28 @sz28)))))) | refine dt_by (And.intro @Ty.sl28 (And.intro @Ty.nze28 (And.intro @Ty.slz28 (And.intro @Ty.zok28 (And.intro @Ty.by28 (And.intro @Ty.zs28 @sz28)))))) ?_)
    rw [sz28]
    generalize hcs3 : setL cs2 _ _ = cs3
    refine Seq.nil ?_
    (first | exact dc_by (And.intro @Ty.sl28 (And.intro @Ty.nze28 (And.intro @Ty.slz28 (And.intro @Ty.zok28 (And.intro @Ty.by28 @Ty.zs28))))) | refine dt_by (And.intro @Ty.sl28 (And.intro @Ty.nze28 (And.intro @Ty.slz28 (And.intro @Ty.zok28 (And.intro @Ty.by28 @Ty.zs28))))) ?_)
    refine AWP.seq (aw_sound ?_)
    (first | exact dc_by (And.intro @Ty.sl28 (And.intro @Ty.nze28 (And.intro @Ty.slz28 (And.intro @Ty.zok28 (And.intro @Ty.by28 @Ty.zs28))))) | refine dt_by (And.intro @Ty.sl28 (And.intro @Ty.nze28 (And.intro @Ty.slz28 (And.intro @Ty.zok28 (And.intro @Ty.by28 @Ty.zs28))))) ?_)
    refine AWP.ret ?_
    (first | exact dc_by (And.intro @Ty.sl28 (And.intro @Ty.nze28 (And.intro @Ty.slz28 (And.intro @Ty.zok28 (And.intro @Ty.by28 @Ty.zs28))))) | refine dt_by (And.intro @Ty.sl28 (And.intro @Ty.nze28 (And.intro @Ty.slz28 (And.intro @Ty.zok28 (And.intro @Ty.by28 @Ty.zs28))))) ?_)
    refine retX_cut (n := l.length) (len := i + (l.length - j)) (cs := cs3) (r := 1000) (p := []) (sz := 2) rfl ?_ ?_ (by omega) ?_ ?_
    · (first | exact dc_by (And.intro @Ty.sl28 (And.intro @Ty.nze28 (And.intro @Ty.slz28 (And.intro @Ty.zok28 (And.intro @Ty.by28 @Ty.zs28))))) | refine dt_by (And.intro @Ty.sl28 (And.intro @Ty.nze28 (And.intro @Ty.slz28 (And.intro @Ty.zok28 (And.intro @Ty.by28 @Ty.zs28))))) ?_)
    · (first | exact dc_by (And.intro @Ty.sl28 (And.intro @Ty.nze28 (And.intro @Ty.slz28 (And.intro @Ty.zok28 (And.intro @Ty.by28 @Ty.zs28))))) | refine dt_by (And.intro @Ty.sl28 (And.intro @Ty.nze28 (And.intro @Ty.slz28 (And.intro @Ty.zok28 (And.intro @Ty.by28 @Ty.zs28))))) ?_)
    · rw [show l.length - (j - i) = i + (l.length - j) by omega, ← hcs3, ← hcs2]
      exact congrArg _ (del_cells (enc := eProp) (fun _ => rfl) hij hj _)
    · (first | exact dc_by (And.intro @Ty.sl28 (And.intro @Ty.nze28 (And.intro @Ty.slz28 (And.intro @Ty.zok28 (And.intro @Ty.by28 (And.intro @Ty.zs28 (And.intro @regsQ_cons @regsQ_nil))))))) | refine dt_by (And.intro @Ty.sl28 (And.intro @Ty.nze28 (And.intro @Ty.slz28 (And.intro @Ty.zok28 (And.intro @Ty.by28 (And.intro @Ty.zs28 (And.intro @regsQ_cons @regsQ_nil))))))) ?_)
  · have hjl' : j = l.length := by omega
    have e0 : l.length - j = 0 := by omega
    refine seq_lj rfl (l_appIn0 (n := l.length) (cs := esProp l) (k := i) (off := j) (r := 1000) (p := []) (by show 26 < 33; decide) z28 ?_ ?_ ?_ (by omega) (by omega) ?_)
    · (first | exact dc_by (And.intro @Ty.sl28 (And.intro @Ty.nze28 (And.intro @Ty.slz28 (And.intro @Ty.zok28 (And.intro @Ty.by28 (And.intro @Ty.zs28 @e0)))))) | refine dt_by (And.intro @Ty.sl28 (And.intro @Ty.nze28 (And.intro @Ty.slz28 (And.intro @Ty.zok28 (And.intro @Ty.by28 (And.intro @Ty.zs28 @e0)))))) ?_)
    · (first | exact dc_by (And.intro @Ty.sl28 (And.intro @Ty.nze28 (And.intro @Ty.slz28 (And.intro @Ty.zok28 (And.intro @Ty.by28 (And.intro @Ty.zs28 @e0)))))) | refine dt_by (And.intro @Ty.sl28 (And.intro @Ty.nze28 (And.intro @Ty.slz28 (And.intro @Ty.zok28 (And.intro @Ty.by28 (And.intro @Ty.zs28 @e0)))))) ?_)
    · (first | exact dc_by (And.intro @Ty.sl28 (And.intro @Ty.nze28 (And.intro @Ty.slz28 (And.intro @Ty.zok28 (And.intro @Ty.by28 (And.intro @Ty.zs28 @sz28)))))) | refine dt_by (And.intro @Ty.sl28 (And.intro @Ty.nze28 (And.intro @Ty.slz28 (And.intro @Ty.zok28 (And.intro @Ty.by28 (And.intro @Ty.zs28 @sz28)))))) ?_)
    obtain ⟨cs2, hcs2⟩ : ∃ c, c = esProp l := ⟨_, rfl⟩
    rw [show (AV.sl 1000 [] 0 i) = .sl 1000 [] 0 (i + (l.length - j)) by rw [e0]; rfl]
    refine seq_st rfl ?_
    (first | exact dc_by (And.intro @Ty.sl28 (And.intro @Ty.nze28 (And.intro @Ty.slz28 (And.intro @Ty.zok28 (And.intro @Ty.by28 @Ty.zs28))))) | refine dt_by (And.intro @Ty.sl28 (And.intro @Ty.nze28 (And.intro @Ty.slz28 (And.intro @Ty.zok28 (And.intro @Ty.by28 @Ty.zs28))))) ?_)
    refine Seq.nil ?_
    (first | exact dc_by (And.intro @Ty.sl28 (And.intro @Ty.nze28 (And.intro @Ty.slz28 (And.intro @Ty.zok28 (And.intro @Ty.by28 @Ty.zs28))))) | refine dt_by (And.intro @Ty.sl28 (And.intro @Ty.nze28 (And.intro @Ty.slz28 (And.intro @Ty.zok28 (And.intro @Ty.by28 @Ty.zs28))))) ?_)
    refine AWP.seq (AWP.region ?_)
    refine seq_st rfl ?_
    (first | exact dc_by (And.intro @Ty.sl28 (And.intro @Ty.nze28 (And.intro @Ty.slz28 (And.intro @Ty.zok28 (And.intro @Ty.by28 @Ty.zs28))))) | refine dt_by (And.intro @Ty.sl28 (And.intro @Ty.nze28 (And.intro @Ty.slz28 (And.intro @Ty.zok28 (And.intro @Ty.by28 @Ty.zs28))))) ?_)
    refine seq_st rfl ?_
    (first | exact dc_by (And.intro @Ty.sl28 (And.intro @Ty.nze28 (And.intro @Ty.slz28 (And.intro @Ty.zok28 (And.intro @Ty.by28 @Ty.zs28))))) | refine dt_by (And.intro @Ty.sl28 (And.intro @Ty.nze28 (And.intro @Ty.slz28 (And.intro @Ty.zok28 (And.intro @Ty.by28 @Ty.zs28))))) ?_)
    refine seq_st rfl ?_
    (first | exact dc_by (And.intro @Ty.sl28 (And.intro @Ty.nze28 (And.intro @Ty.slz28 (And.intro @Ty.zok28 (And.intro @Ty.by28 @Ty.zs28))))) | refine dt_by (And.intro @Ty.sl28 (And.intro @Ty.nze28 (And.intro @Ty.slz28 (And.intro @Ty.zok28 (And.intro @Ty.by28 @Ty.zs28))))) ?_)
    refine ⟨by omega, ?_⟩
    refine seq_st rfl ?_
    (first | exact dc_by (And.intro @Ty.sl28 (And.intro @Ty.nze28 (And.intro @Ty.slz28 (And.intro @Ty.zok28 (And.intro @Ty.by28 @Ty.zs28))))) | refine dt_by (And.intro @Ty.sl28 (And.intro @Ty.nze28 (And.intro @Ty.slz28 (And.intro @Ty.zok28 (And.intro @Ty.by28 @Ty.zs28))))) ?_)
    refine seq_lj rfl (l_slCap (n := l.length) (cs := cs2) (l := ((i + (l.length - j) : Nat) : Int)) (h := l.length) (len := i + (l.length - j)) (r := 1000) (p := []) (by show 31 < 33; decide) Ty.sl28 ?_ ?_ (by omega) ?_ ?_ (by omega) (by omega) (by omega) ?_)
    · (first | exact dc_by (And.intro @Ty.sl28 (And.intro @Ty.nze28 (And.intro @Ty.slz28 (And.intro @Ty.zok28 (And.intro @Ty.by28 (And.intro @Ty.zs28 @e0)))))) | refine dt_by (And.intro @Ty.sl28 (And.intro @Ty.nze28 (And.intro @Ty.slz28 (And.intro @Ty.zok28 (And.intro @Ty.by28 (And.intro @Ty.zs28 @e0)))))) ?_)
    · (first | exact dc_by (And.intro @Ty.sl28 (And.intro @Ty.nze28 (And.intro @Ty.slz28 (And.intro @Ty.zok28 (And.intro @Ty.by28 (And.intro @Ty.zs28 (And.intro @e0 @hcs2))))))) | refine dt_by (And.intro @Ty.sl28 (And.intro @Ty.nze28 (And.intro @Ty.slz28 (And.intro @Ty.zok28 (And.intro @Ty.by28 (And.intro @Ty.zs28 (And.intro @e0 @hcs2))))))) ?_)
    · simp only [bndQ]; (first | exact dc_by (And.intro @Ty.sl28 (And.intro @Ty.nze28 (And.intro @Ty.slz28 (And.intro @Ty.zok28 (And.intro @Ty.by28 @Ty.zs28))))) | refine dt_by (And.intro @Ty.sl28 (And.intro @Ty.nze28 (And.intro @Ty.slz28 (And.intro @Ty.zok28 (And.intro @Ty.by28 @Ty.zs28))))) ?_)
    · refine ⟨_, rfl, ?_⟩; simp only [bndQ]; (first | exact dc_by (And.intro @Ty.sl28 (And.intro @Ty.nze28 (And.intro @Ty.slz28 (And.intro @Ty.zok28 (And.intro @Ty.by28 @Ty.zs28))))) | refine dt_by (And.intro @Ty.sl28 (And.intro @Ty.nze28 (And.intro @Ty.slz28 (And.intro @Ty.zok28 (And.intro @Ty.by28 @Ty.zs28))))) ?_)
    simp only [Int.toNat_natCast]
    refine seq_lj rfl (l_clear (n := l.length) (cs := cs2) (off := i + (l.length - j)) (m := l.length - (i + (l.length - j))) (r := 1000) (p := []) z28 ?_ ?_ (by omega) (by omega) ?_)
    · (first | exact dc_by (And.intro @Ty.sl28 (And.intro @Ty.nze28 (And.intro @Ty.slz28 (And.intro @Ty.zok28 (And.intro @Ty.by28 (And.intro @Ty.zs28 @e0)))))) | refine dt_by (And.intro @Ty.sl28 (And.intro @Ty.nze28 (And.intro @Ty.slz28 (And.intro @Ty.zok28 (And.intro @Ty.by28 (And.intro @Ty.zs28 @e0)))))) ?_)
    · (first | exact dc_by (And.intro @Ty.sl28 (And.intro @Ty.nze28 (And.intro @Ty.slz28 (And.intro @Ty.zok28 (And.intro @Ty.by28 (And.intro @Ty.zs28 (And.intro @sz28 @hcs2))))))) | refine dt_by (And.intro @Ty.sl28 (And.intro @Ty.nze28 (And.intro @Ty.slz28 (And.intro @Ty.zok28 (And.intro @Ty.by28 (And.intro @Ty.zs28 (And.intro @sz28 @hcs2))))))) ?_)
    rw [sz28]
    generalize hcs3 : setL cs2 _ _ = cs3
    refine Seq.nil ?_
    (first | exact dc_by (And.intro @Ty.sl28 (And.intro @Ty.nze28 (And.intro @Ty.slz28 (And.intro @Ty.zok28 (And.intro @Ty.by28 @Ty.zs28))))) | refine dt_by (And.intro @Ty.sl28 (And.intro @Ty.nze28 (And.intro @Ty.slz28 (And.intro @Ty.zok28 (And.intro @Ty.by28 @Ty.zs28))))) ?_)
    refine AWP.seq (aw_sound ?_)
    (first | exact dc_by (And.intro @Ty.sl28 (And.intro @Ty.nze28 (And.intro @Ty.slz28 (And.intro @Ty.zok28 (And.intro @Ty.by28 @Ty.zs28))))) | refine dt_by (And.intro @Ty.sl28 (And.intro @Ty.nze28 (And.intro @Ty.slz28 (And.intro @Ty.zok28 (And.intro @Ty.by28 @Ty.zs28))))) ?_)
    refine AWP.ret ?_
    (first | exact dc_by (And.intro @Ty.sl28 (And.intro @Ty.nze28 (And.intro @Ty.slz28 (And.intro @Ty.zok28 (And.intro @Ty.by28 @Ty.zs28))))) | refine dt_by (And.intro @Ty.sl28 (And.intro @Ty.nze28 (And.intro @Ty.slz28 (And.intro @Ty.zok28 (And.intro @Ty.by28 @Ty.zs28))))) ?_)
    refine retX_cut (n := l.length) (len := i + (l.length - j)) (cs := cs3) (r := 1000) (p := []) (sz := 2) rfl ?_ ?_ (by omega) ?_ ?_
    · (first | exact dc_by (And.intro @Ty.sl28 (And.intro @Ty.nze28 (And.intro @Ty.slz28 (And.intro @Ty.zok28 (And.intro @Ty.by28 (And.intro @Ty.zs28 @e0)))))) | refine dt_by (And.intro @Ty.sl28 (And.intro @Ty.nze28 (And.intro @Ty.slz28 (And.intro @Ty.zok28 (And.intro @Ty.by28 (And.intro @Ty.zs28 @e0)))))) ?_)
    · (first | exact dc_by (And.intro @Ty.sl28 (And.intro @Ty.nze28 (And.intro @Ty.slz28 (And.intro @Ty.zok28 (And.intro @Ty.by28 (And.intro @Ty.zs28 @e0)))))) | refine dt_by (And.intro @Ty.sl28 (And.intro @Ty.nze28 (And.intro @Ty.slz28 (And.intro @Ty.zok28 (And.intro @Ty.by28 (And.intro @Ty.zs28 @e0)))))) ?_)
    · rw [show l.length - (j - i) = i + (l.length - j) by omega, ← hcs3, hcs2, hjl', Nat.sub_self, Nat.add_zero]
      exact congrArg _ (del_cells0 (enc := eProp) (fun _ => rfl) (by omega) _)
    · (first | exact dc_by (And.intro @Ty.sl28 (And.intro @Ty.nze28 (And.intro @Ty.slz28 (And.intro @Ty.zok28 (And.intro @Ty.by28 (And.intro @Ty.zs28 (And.intro @regsQ_cons @regsQ_nil))))))) | refine dt_by (And.intro @Ty.sl28 (And.intro @Ty.nze28 (And.intro @Ty.slz28 (And.intro @Ty.zok28 (And.intro @Ty.by28 (And.intro @Ty.zs28 (And.intro @regsQ_cons @regsQ_nil))))))) ?_)
theorem delProp_does (l : List GProp) (i j : Int) (x : List GProp) (h : delL l i j = some x) : DoesX Tryd.prog 74 [.sl 1000 [] 0 l.length, I i, I j] [.row true 2 l.length (esProp l)] (.row true 2 x.length (esProp x)) [.junk] := by
  unfold delL at h
  split at h
  · rename_i hc
    cases h
    obtain ⟨i, rfl⟩ := Int.eq_ofNat_of_zero_le hc.1
    obtain ⟨j, rfl⟩ := Int.eq_ofNat_of_zero_le (Int.le_trans hc.1 hc.2.1)
    have := delProp_walk l i j (by omega) (by omega)
    rw [show l.length - (j - i) = (l.take i ++ l.drop j).length by simp; omega] at this
    exact this
  · cases h
end Go.Av
end
section
set_option linter.unusedSimpArgs false
set_option linter.unusedVariables false
set_option maxRecDepth 100000
set_option maxHeartbeats 1000000
namespace Go.Av
open Go.Proofs
theorem insProp_walk (l : List GProp) (x : GProp) (i : Nat) (hi : i ≤ l.length) (hl : l.length < 4294967296) : DoesX Tryd.prog 75 [.sl 1000 [] 0 l.length, I i, .sl 1001 [] 0 1] [.row true 2 l.length (esProp l), .row true 2 1 (eProp x)] (.row true 2 (l.length + 1) (esProp (l.take i ++ x :: l.drop i))) [.junk, .row true 2 1 (eProp x)] := by
  have z28 : zOk Tryd.prog 28 = true := by kernel_rfl
  have sz28 : slSz Tryd.prog 28 = 2 := by kernel_rfl
  have hL : (esProp l).length = l.length * 2 := esProp_len l
  have w1 : IntKind.i64.wrap ((l.length : Int) + ((1 : Nat) : Int)) = ((l.length + 1 : Nat) : Int) := by rw [wI _ (by omega) (by omega)]; omega
  have w2 : IntKind.i64.wrap ((i : Int) + ((1 : Nat) : Int)) = ((i + 1 : Nat) : Int) := by rw [wI _ (by omega) (by omega)]; omega
  have w3 : IntKind.i64.wrap (((l.length + 1 : Nat) : Int) - (i : Int)) = ((l.length + 1 - i : Nat) : Int) := by rw [wI _ (by omega) (by omega)]; omega
  have lx : leafCs (eProp x) = true := rfl
  have fx : fitCs (eProp x) = true := rfl
  have nx : (eProp x).length = 2 := rfl
  have c0 : (((1 : Nat) : Int) == 0) = false := rfl
  have ff := And.intro @Ty.sl28 (And.intro @Ty.nze28 (And.intro @Ty.slz28 (And.intro @Ty.zok28 (And.intro @Ty.by28 (And.intro @Ty.zs28 (And.intro @w1 (And.intro @w2 (And.intro @w3 (And.intro @c0 (And.intro @lx (And.intro @fx @nx)))))))))))
  refine DoesX.walkLA (nt := 95) Tryd.func75 rfl rfl (by simp) (by decide) rfl (fun a ha => by simp only [List.mem_cons, List.not_mem_nil, or_false] at ha; rcases ha with rfl | rfl | rfl <;> trivial) rfl (fun G0 X w0 vals hv1 hv2 => ?_)
  obtain ⟨v0, v1, rfl⟩ := len2 hv1
  refine awp_pvcap (r := 1000) (v := v0) rfl rfl (fun A c hv hc1 hc2 => ?_)
  subst hv
  show AWP _ _ _ (startX [.sl 1000 [] 0 l.length, I i, .sl 1001 [] 0 1] [.row true 2 l.length (esProp l), .row true 2 1 (eProp x)])
  refine AWP.seq (aw_sound ?_)
  (first | exact cl_by ff | refine st_by ff ?_)
  (repeat' (first | exact trivial | refine And.intro sd ?_ | fail))
  refine AWP.seq (aw_sound ?_)
  (first | exact cl_by ff | refine st_by ff ?_)
  (repeat' (first | exact trivial | refine And.intro sd ?_ | fail))
  refine AWP.seq (aw_sound ?_)
  (first | exact cl_by ff | refine st_by ff ?_)
  (repeat' (first | exact trivial | refine And.intro sd ?_ | fail))
  refine AWP.seq (aw_sound ?_)
  (first | exact cl_by ff | refine st_by ff ?_)
  (repeat' (first | exact trivial | refine And.intro sd ?_ | fail))
  refine AWP.seq (aw_sound ?_)
  (first | exact cl_by ff | refine st_by ff ?_)
  (repeat' (first | exact trivial | refine And.intro sd ?_ | fail))
  refine AWP.seq (aw_sound ?_)
  (first | exact cl_by ff | refine st_by ff ?_)
  refine CBC_bool (fun hd => ?_) (fun hd => ?_)
  · have hi' : i = l.length := by have := eq_of_beq hd; omega
    simp only [hd]
    (first | exact cl_by ff | refine st_by ff ?_)
    (repeat' (first | exact trivial | refine And.intro sd ?_ | fail))
    refine retX_p1 rfl ?_
    simp only [retXq1, retXCq, rview]
    (first | exact cl_by (And.intro @regsQ_cons (And.intro @regsQ_nil ff)) | refine st_by (And.intro @regsQ_cons (And.intro @regsQ_nil ff)) ?_)
    simp [hi', esProp_app, esProp_cons, esProp_nil]
  have hi' : i < l.length := by have : ¬ ((i : Int) = (l.length : Int)) := by simpa using hd
                                omega
  simp only [hd]
  (first | exact cl_by ff | refine st_by ff ?_)
  obtain ⟨z1, z2, z3, z4⟩ := of_zOk z28
  have hmn : min 1 (l.length + 1 - i) = 1 := by omega
  refine AWP.seq (AWP.seq (AWP.region ?_))
  refine seq_st rfl ?_
  (first | exact cl_by ff | refine st_by ff ?_)
  (repeat' (first | exact trivial | refine And.intro sd ?_ | fail))
  refine seq_st rfl ?_
  (first | exact cl_by ff | refine st_by ff ?_)
  (repeat' (first | exact trivial | refine And.intro sd ?_ | fail))
  refine seq_st rfl ?_
  (first | exact cl_by ff | refine st_by ff ?_)
  (repeat' (first | exact trivial | refine And.intro sd ?_ | fail))
  refine seq_st rfl ?_
  (first | exact cl_by ff | refine st_by ff ?_)
  (repeat' (first | exact trivial | refine And.intro sd ?_ | fail))
  refine seq_lj rfl (l_cap (n := l.length) (sz := 2) (c := c) (cs := esProp l) (A := A) (r := 1000) (by show 30 < 95; decide) Ty.sl28 ?_ ?_ rfl ?_)
  · (first | exact cl_by ff | refine st_by ff ?_)
  · (first | exact cl_by ff | refine st_by ff ?_)
  refine seq_st rfl ?_
  (first | exact cl_by ff | refine st_by ff ?_)
  (repeat' (first | exact trivial | refine And.intro sd ?_ | fail))
  refine Seq.nil ?_
  (first | exact cl_by ff | refine st_by ff ?_)
  refine AWP.cond (b := decide (((l.length + 1 : Nat) : Int) > (c : Int))) ?_ (fun hd => ?_) (fun hd => ?_)
  · (first | exact cl_by ff | refine st_by ff ?_)
  · have hg : c < l.length + 1 := by have := of_decide_eq_true hd; omega
    refine AWP.seq (AWP.region ?_)
    refine seq_st rfl ?_
    (first | exact cl_by ff | refine st_by ff ?_)
    (repeat' (first | exact trivial | refine And.intro sd ?_ | fail))
    refine seq_st rfl ?_
    (first | exact cl_by ff | refine st_by ff ?_)
    (repeat' (first | exact trivial | refine And.intro sd ?_ | fail))
    refine seq_st rfl ?_
    (first | exact cl_by ff | refine st_by ff ?_)
    (repeat' (first | exact trivial | refine And.intro sd ?_ | fail))
    refine seq_st rfl ?_
    (first | exact cl_by ff | refine st_by ff ?_)
    (repeat' (first | exact trivial | refine And.intro sd ?_ | fail))
    refine seq_st rfl ?_
    (first | exact cl_by ff | refine st_by ff ?_)
    (repeat' (first | exact trivial | refine And.intro sd ?_ | fail))
    refine seq_st rfl ?_
    (first | exact cl_by ff | refine st_by ff ?_)
    (repeat' (first | exact trivial | refine And.intro sd ?_ | fail))
    refine seq_st rfl ?_
    (first | exact cl_by ff | refine st_by ff ?_)
    (repeat' (first | exact trivial | refine And.intro sd ?_ | fail))
    refine seq_st rfl ?_
    (first | exact cl_by ff | refine st_by ff ?_)
    (repeat' (first | exact trivial | refine And.intro sd ?_ | fail))
    refine seq_lj rfl (l_appGrowZ (nn := l.length + 1 - i) (k := i) (n := l.length) (sz := 2) (c := c) (cs := esProp l) (A := A) (r := 1000) (by show 40 < 95; decide) z1 (z3.symm.trans sz28) Ty.int3 ?_ ?_ ?_ rfl (by omega) (by omega) (by omega) (by omega) (esProp_leaf _) (by omega) (by rw [Ty.by28]; omega) ?_)
    · (first | exact cl_by ff | refine st_by ff ?_)
    · (first | exact cl_by ff | refine st_by ff ?_)
    · (first | exact cl_by ff | refine st_by ff ?_)
    have e1 : i + (l.length + 1 - i) = l.length + 1 := by omega
    rw [e1]
    have hBt : ((esProp l).take (i * 2) ++ (zCells (zsN Tryd.prog 28) (l.length + 1 - i)).map AV.lit).take (i * 2) = esProp (l.take i) := by
      rw [esProp_takek, List.take_append_of_le_length (by rw [esProp_len]; simp; omega), List.take_of_length_le (by rw [esProp_len]; simp; omega)]
    have hBl : ((esProp l).take (i * 2) ++ (zCells (zsN Tryd.prog 28) (l.length + 1 - i)).map AV.lit).length = (l.length + 1) * 2 := by
      rw [List.length_append, List.length_take, hL, List.length_map, zCells, List.length_map, List.length_range, ← z3, sz28]; omega
    generalize ((esProp l).take (i * 2) ++ (zCells (zsN Tryd.prog 28) (l.length + 1 - i)).map AV.lit) = B at hBt hBl
    refine seq_st rfl ?_
    (first | exact cl_by ff | refine st_by ff ?_)
    (repeat' (first | exact trivial | refine And.intro sd ?_ | fail))
    refine Seq.nil ?_
    (first | exact cl_by ff | refine st_by ff ?_)
    refine AWP.seq (AWP.region ?_)
    refine seq_st rfl ?_
    (first | exact cl_by ff | refine st_by ff ?_)
    (repeat' (first | exact trivial | refine And.intro sd ?_ | fail))
    refine seq_st rfl ?_
    (first | exact cl_by ff | refine st_by ff ?_)
    (repeat' (first | exact trivial | refine And.intro sd ?_ | fail))
    refine seq_st rfl ?_
    (first | exact cl_by ff | refine st_by ff ?_)
    (repeat' (first | exact trivial | refine And.intro sd ?_ | fail))
    refine seq_st rfl ?_
    (first | exact cl_by ff | refine st_by ff ?_)
    (repeat' (first | exact trivial | refine And.intro sd ?_ | fail))
    refine seq_lj rfl (l_copy (dd := some 45) (r := 9) (p := []) (o := i) (l1 := l.length + 1 - i) (l2 := 1) (n := l.length + 1) (sz := 2) (cs := B) (es := eProp x) (fun d hd => by cases hd; show 45 < 95; decide) Ty.sl28 ?_ ?_ (by omega) ?_ lx (by omega) ?_)
    · (first | exact cl_by ff | refine st_by ff ?_)
    · (first | exact cl_by ff | refine st_by ff ?_)
    · rw [hmn, show (ASt.ev _ (Operand.tmp 44)) = AV.sl 1001 [] 0 1 by (first | exact cl_by ff | refine st_by ff ?_)]
      refine yk_own (off := 0) (m := 1) (k := 1) (n := 1) (cs := eProp x) (sz := 2) (r := 1001) (p := []) ?_ (by omega) (by omega) lx fx
      (first | exact cl_by ff | refine st_by ff ?_)
    intro s' hs'
    subst hs'
    generalize hC1 : setL B (i * 2) (eProp x) = C1
    refine Seq.nil ?_
    (first | exact cl_by ff | refine st_by ff ?_)
    refine AWP.seq (awp_drawn (id := 11) ?_ [[], [], [], [1, 2], [0, 1, 2, 3], [], [], [5, 6], [0, 1, 2, 3, 4, 5, 6, 7]] 8 ?_ ?_)
    · kernel_rfl
    · kernel_rfl
    (first | exact cl_by ff | refine st_by ff ?_)
    refine ⟨⟨by omega, by omega, by omega⟩, ⟨by omega, by omega, by omega⟩, ?_⟩
    have hmm : min (l.length - i) (l.length + 1 - (i + 1)) = l.length - i := by omega
    have hVe : ((esProp l).drop (i * 2)).take ((l.length - i) * 2) = esProp (l.drop i) := by
      rw [esProp_dropk, List.take_of_length_le (by rw [esProp_len]; simp)]
    refine seq_lj rfl (l_copy (dd := some 54) (r := 9) (p := []) (o := i + 1) (l1 := l.length + 1 - (i + 1)) (l2 := l.length - i) (n := l.length + 1) (sz := 2) (cs := C1) (es := esProp (l.drop i)) (fun d hd => by cases hd; show 54 < 95; decide) Ty.sl28 ?_ ?_ (by omega) ?_ (esProp_leaf _) (by omega) ?_)
    · (first | exact cl_by ff | refine st_by ff ?_)
    · (first | exact cl_by ff | refine st_by ff ?_)
    · rw [hmm, show (ASt.ev _ (Operand.tmp 53)) = AV.sl 1000 [] i (l.length - i) by (first | exact cl_by ff | refine st_by ff ?_), ← hVe]
      refine yk_own (off := i) (m := l.length - i) (k := l.length - i) (n := l.length) (cs := esProp l) (sz := 2) (r := 1000) (p := []) ?_ (by omega) (by omega) (by rw [hVe]; exact esProp_leaf _) (by rw [hVe]; exact esProp_fit _)
      (first | exact cl_by ff | refine st_by ff ?_)
    intro s' hs'
    subst hs'
    generalize hC2 : setL C1 ((i + 1) * 2) (esProp (l.drop i)) = C2
    refine Seq.nil ?_
    (first | exact cl_by ff | refine st_by ff ?_)
    refine AWP.seq (aw_sound ?_)
    (first | exact cl_by ff | refine st_by ff ?_)
    refine awp_drop (r := 1000) (A := .row true 2 l.length (esProp l)) ?_ ?_
    · (first | exact cl_by ff | refine st_by ff ?_)
    refine AWP.ret ?_
    (first | exact cl_by ff | refine st_by ff ?_)
    refine retX_p1 rfl ?_
    simp only [retXq1, retXCq, rview]
    (first | exact cl_by (And.intro @regsQ_cons (And.intro @regsQ_nil ff)) | refine st_by (And.intro @regsQ_cons (And.intro @regsQ_nil ff)) ?_)
    refine congrArg _ ?_
    have hXl : (eProp x).length = 2 := rfl
    rw [← hC2, ← hC1, ins_cellsB (n := (l.length + 1) * 2) (by rw [hXl]; omega) (by rw [esProp_len]; simp; omega) hBl, hBt]
    simp [esProp_app, esProp_cons]
  refine AWP.skip ?_
  (first | exact cl_by ff | refine st_by ff ?_)
  refine AWP.seq (AWP.region ?_)
  refine seq_st rfl ?_
  (first | exact cl_by ff | refine st_by ff ?_)
  (repeat' (first | exact trivial | refine And.intro sd ?_ | fail))
  refine seq_st rfl ?_
  (first | exact cl_by ff | refine st_by ff ?_)
  (repeat' (first | exact trivial | refine And.intro sd ?_ | fail))
  refine seq_st rfl ?_
  (first | exact cl_by ff | refine st_by ff ?_)
  (repeat' (first | exact trivial | refine And.intro sd ?_ | fail))
  refine seq_st rfl ?_
  (first | exact cl_by ff | refine st_by ff ?_)
  (repeat' (first | exact trivial | refine And.intro sd ?_ | fail))
  have hc : l.length + 1 ≤ c := by have := of_decide_eq_false hd; omega
  refine seq_lj rfl (l_slExt (n := l.length) (sz := 2) (c := c) (h := l.length + 1) (cs := esProp l) (A := A) (r := 1000) (k := .i64) (by show 60 < 95; decide) Ty.sl28 ?_ ?_ rfl ?_ (by omega) hc ?_)
  · (first | exact cl_by ff | refine st_by ff ?_)
  · (first | exact cl_by ff | refine st_by ff ?_)
  · (first | exact cl_by ff | refine st_by ff ?_)
  have hBt : (esProp l ++ List.replicate ((l.length + 1) * 2 - l.length * 2) AV.junk).take (i * 2) = esProp (l.take i) := by
    rw [List.take_append_of_le_length (by rw [hL]; omega), esProp_takek]
  have hBd : ((esProp l ++ List.replicate ((l.length + 1) * 2 - l.length * 2) AV.junk).drop (i * 2)).take ((l.length - i) * 2) = esProp (l.drop i) := by
    rw [List.drop_append_of_le_length (by rw [hL]; omega), esProp_dropk, List.take_append_of_le_length (by rw [esProp_len]; simp), List.take_of_length_le (by rw [esProp_len]; simp)]
  have hBl : (esProp l ++ List.replicate ((l.length + 1) * 2 - l.length * 2) AV.junk).length = (l.length + 1) * 2 := by
    rw [List.length_append, List.length_replicate, hL]; omega
  generalize (esProp l ++ List.replicate ((l.length + 1) * 2 - l.length * 2) AV.junk) = B at hBt hBd hBl
  refine seq_st rfl ?_
  (first | exact cl_by ff | refine st_by ff ?_)
  (repeat' (first | exact trivial | refine And.intro sd ?_ | fail))
  refine Seq.nil ?_
  (first | exact cl_by ff | refine st_by ff ?_)
  refine AWP.seq (AWP.seq (AWP.region ?_))
  refine seq_st rfl ?_
  (first | exact cl_by ff | refine st_by ff ?_)
  (repeat' (first | exact trivial | refine And.intro sd ?_ | fail))
  refine seq_st rfl ?_
  (first | exact cl_by ff | refine st_by ff ?_)
  (repeat' (first | exact trivial | refine And.intro sd ?_ | fail))
  refine seq_st rfl ?_
  (first | exact cl_by ff | refine st_by ff ?_)
  (repeat' (first | exact trivial | refine And.intro sd ?_ | fail))
  refine seq_st rfl ?_
  (first | exact cl_by ff | refine st_by ff ?_)
  (repeat' (first | exact trivial | refine And.intro sd ?_ | fail))
  refine seq_st rfl ?_
  (first | exact cl_by ff | refine st_by ff ?_)
  (repeat' (first | exact trivial | refine And.intro sd ?_ | fail))
  refine seq_st rfl ?_
  (first | exact cl_by ff | refine st_by ff ?_)
  (repeat' (first | exact trivial | refine And.intro sd ?_ | fail))
  refine seq_lj rfl (l_overlaps (f := 85) (fn := Tryd.f85) (fo := .func 85) (rt := 4) (r1 := 1001) (r2 := 0) (o1 := 0) (o2 := i + 1) (l1 := 1) (l2 := l.length + 1 - (i + 1)) (n1 := 1) (n2 := l.length + 1) (sz := 2) (cs1 := eProp x) (cs2 := B) (by show 67 < 95; decide) Ty.sl28 ?_ Tryd.func85 (by kernel_rfl) (by kernel_rfl) (by kernel_rfl) (by kernel_rfl) ?_ ?_ ?_ ?_ (by decide) (by omega) (by omega) (by omega) (by omega) ?_)
  · (first | exact cl_by ff | refine st_by ff ?_)
  · (first | exact cl_by ff | refine st_by ff ?_)
  · (first | exact cl_by ff | refine st_by ff ?_)
  · (first | exact cl_by ff | refine st_by ff ?_)
  · (first | exact cl_by ff | refine st_by ff ?_)
  refine seq_st rfl ?_
  (first | exact cl_by ff | refine st_by ff ?_)
  (repeat' (first | exact trivial | refine And.intro sd ?_ | fail))
  refine Seq.nil ?_
  (first | exact cl_by ff | refine st_by ff ?_)
  refine AWP.cond (b := true) ?_ (fun hd => ?_) (fun hd => by cases hd)
  · (first | exact cl_by ff | refine st_by ff ?_)
  refine AWP.seq (awp_drawn (id := 15) ?_ [[], [], [], [1, 2], [0, 1, 2, 3], [], [], [5, 6], [0, 1, 2, 3, 4, 5, 6, 7]] 8 ?_ ?_)
  · kernel_rfl
  · kernel_rfl
  (first | exact cl_by ff | refine st_by ff ?_)
  refine ⟨⟨by omega, by omega, by omega⟩, ⟨by omega, by omega, by omega⟩, ?_⟩
  have hmm : min (l.length + 1 - i) (l.length + 1 - (i + 1)) = l.length - i := by omega
  refine seq_lj rfl (l_copy (dd := some 77) (r := 0) (p := []) (o := i + 1) (l1 := l.length + 1 - (i + 1)) (l2 := l.length + 1 - i) (n := l.length + 1) (sz := 2) (cs := B) (es := esProp (l.drop i)) (fun d hd => by cases hd; show 77 < 95; decide) Ty.sl28 ?_ ?_ (by omega) ?_ (esProp_leaf _) (by omega) ?_)
  · (first | exact cl_by ff | refine st_by ff ?_)
  · (first | exact cl_by ff | refine st_by ff ?_)
  · rw [hmm, show (ASt.ev _ (Operand.tmp 76)) = AV.sl 0 [] i (l.length + 1 - i) by (first | exact cl_by ff | refine st_by ff ?_), ← hBd]
    refine yk_own (off := i) (m := l.length + 1 - i) (k := l.length - i) (n := l.length + 1) (cs := B) (sz := 2) (r := 0) (p := []) ?_ (by omega) (by omega) (by rw [hBd]; exact esProp_leaf _) (by rw [hBd]; exact esProp_fit _)
    (first | exact cl_by ff | refine st_by ff ?_)
  intro s' hs'
  subst hs'
  generalize hC1 : setL B ((i + 1) * 2) (esProp (l.drop i)) = C1
  refine Seq.nil ?_
  (first | exact cl_by ff | refine st_by ff ?_)
  refine AWP.seq (AWP.region ?_)
  refine seq_st rfl ?_
  (first | exact cl_by ff | refine st_by ff ?_)
  (repeat' (first | exact trivial | refine And.intro sd ?_ | fail))
  refine seq_st rfl ?_
  (first | exact cl_by ff | refine st_by ff ?_)
  (repeat' (first | exact trivial | refine And.intro sd ?_ | fail))
  refine seq_st rfl ?_
  (first | exact cl_by ff | refine st_by ff ?_)
  (repeat' (first | exact trivial | refine And.intro sd ?_ | fail))
  refine seq_st rfl ?_
  (first | exact cl_by ff | refine st_by ff ?_)
  (repeat' (first | exact trivial | refine And.intro sd ?_ | fail))
  refine seq_lj rfl (l_copy (dd := some 82) (r := 0) (p := []) (o := i) (l1 := l.length + 1 - i) (l2 := 1) (n := l.length + 1) (sz := 2) (cs := C1) (es := eProp x) (fun d hd => by cases hd; show 82 < 95; decide) Ty.sl28 ?_ ?_ (by omega) ?_ lx (by omega) ?_)
  · (first | exact cl_by ff | refine st_by ff ?_)
  · (first | exact cl_by ff | refine st_by ff ?_)
  · rw [hmn, show (ASt.ev _ (Operand.tmp 81)) = AV.sl 1001 [] 0 1 by (first | exact cl_by ff | refine st_by ff ?_)]
    refine yk_own (off := 0) (m := 1) (k := 1) (n := 1) (cs := eProp x) (sz := 2) (r := 1001) (p := []) ?_ (by omega) (by omega) lx fx
    (first | exact cl_by ff | refine st_by ff ?_)
  intro s' hs'
  subst hs'
  generalize hC2 : setL C1 (i * 2) (eProp x) = C2
  refine Seq.nil ?_
  (first | exact cl_by ff | refine st_by ff ?_)
  refine AWP.seq (aw_sound ?_)
  (first | exact cl_by ff | refine st_by ff ?_)
  refine AWP.ret ?_
  (first | exact cl_by ff | refine st_by ff ?_)
  refine retX_p1 rfl ?_
  simp only [retXq1, retXCq, rview]
  (first | exact cl_by (And.intro @regsQ_cons (And.intro @regsQ_nil ff)) | refine st_by (And.intro @regsQ_cons (And.intro @regsQ_nil ff)) ?_)
  refine congrArg _ ?_
  have hXl : (eProp x).length = 2 := rfl
  rw [← hC2, ← hC1, ins_cellsA (n := (l.length + 1) * 2) (by rw [hXl]; omega) (by rw [esProp_len]; simp; omega) hBl, hBt]
  simp [esProp_app, esProp_cons]
theorem insProp_does (l : List GProp) (i : Int) (v x : List GProp) (h : insL l i v = some x) : DoesX Tryd.prog 75 [.sl 1000 [] 0 l.length, I i, .sl 1001 [] 0 v.length] [.row true 2 l.length (esProp l), .row true 2 v.length (esProp v)] (.row true 2 x.length (esProp x)) [.junk, .row true 2 v.length (esProp v)] := by
  unfold insL at h
  split at h
  · rename_i hc
    cases h
    obtain ⟨i, rfl⟩ := Int.eq_ofNat_of_zero_le hc.1.1
    obtain ⟨a, rfl⟩ := List.length_eq_one_iff.1 hc.2.2
    have := insProp_walk l a i (by omega) hc.2.1
    have e1 : esProp [a] = eProp a := by rw [esProp_cons, esProp_nil, List.append_nil]
    have e2 : (l.take i ++ ([a] ++ l.drop i)).length = l.length + 1 := by simp; omega
    rw [e1, Int.toNat_natCast, e2]
    exact this
  · cases h
end Go.Av
end
