/- What every row of this seat leans on. -/
import Derived.Test.YteohnapehmdgaaaDoorBK2
import Derived.Test.YteohnapehmdgaaaDoorRows
import Derived.Test.YteohnapehmdgaaaDoorProg
import Derived.WalkKit
import Derived.Shelf.Strings.Split
import Derived.Shelf.Strings.Search3
import Derived.Shelf.Strings.Count
section
set_option linter.unusedSimpArgs false
set_option linter.unusedVariables false
set_option maxRecDepth 100000
namespace Go.Proofs.YteohnapehmdgaaaDoor
open Go.ChangeShapes Go.WideShapes Go.RowKit Go.Av
/-! What every row of this seat leans on. -/
theorem Tryd.own : ownKnob Tryd.prog.godebug = none := by kernel_rfl
theorem Tryd.laidOut : laidOutB Tryd.prog = true := by kernel_rfl
end Go.Proofs.YteohnapehmdgaaaDoor
end
section
/- Contracts of Go's library, proved once in the kit, at this program: the table of numbers and one theorem. -/
namespace Go.Proofs
open Go.Shelf
def Tryd.laysSplit_ren : Go.Shelf.Ren := ⟨fun | 146 => 31 | 221 => 41 | 268 => 43 | 138 => 44 | 143 => 45 | 195 => 46 | 197 => 47 | 218 => 48 | 219 => 49 | 260 => 50 | 217 => 51 | 225 => 52 | 224 => 53 | 267 => 54 | 266 => 55 | 314 => 56 | n => n, fun | 9 => 9 | 31 => 52 | 3 => 3 | 4 => 4 | 0 => 0 | 105 => 65 | 21 => 21 | 5 => 5 | 46 => 69 | 119 => 70 | 139 => 73 | 138 => 72 | 146 => 75 | 51 => 74 | n => n, fun | 1 => 0 | 3 => 1 | 4 => 2 | n => n⟩
theorem Tryd.laysSplit : Go.Proofs.Lays.n146 Tryd.prog Tryd.laysSplit_ren := {
  mixed := by kernel_rfl
  f138 := Tryd.func44.trans (congrArg some (by kernel_rfl))
  f143 := Tryd.func45.trans (congrArg some (by kernel_rfl))
  f146 := Tryd.func31.trans (congrArg some (by kernel_rfl))
  f195 := Tryd.func46.trans (congrArg some (by kernel_rfl))
  f197 := Tryd.func47.trans (congrArg some (by kernel_rfl))
  f217 := Tryd.func51.trans (congrArg some (by kernel_rfl))
  f218 := Tryd.func48.trans (congrArg some (by kernel_rfl))
  f219 := Tryd.func49.trans (congrArg some (by kernel_rfl))
  f221 := Tryd.func41.trans (congrArg some (by kernel_rfl))
  f224 := Tryd.func53.trans (congrArg some (by kernel_rfl))
  f225 := Tryd.func52.trans (congrArg some (by kernel_rfl))
  f260 := Tryd.func50.trans (congrArg some (by kernel_rfl))
  f266 := Tryd.func55.trans (congrArg some (by kernel_rfl))
  f267 := Tryd.func54.trans (congrArg some (by kernel_rfl))
  f268 := Tryd.func43.trans (congrArg some (by kernel_rfl))
  f314 := Tryd.func56.trans (congrArg some (by kernel_rfl))
  t0 := Tryd.underlying0
  a0 := Tryd.isAgg0
  z0 := Tryd.sizeOf0
  v0 := Tryd.zeroValue0
  t3 := Tryd.underlying3
  a3 := Tryd.isAgg3
  z3 := Tryd.sizeOf3
  v3 := Tryd.zeroValue3
  t4 := Tryd.underlying4
  a4 := Tryd.isAgg4
  z4 := Tryd.sizeOf4
  v4 := Tryd.zeroValue4
  t5 := Tryd.underlying5
  a5 := Tryd.isAgg5
  z5 := Tryd.sizeOf5
  v5 := Tryd.zeroValue5
  t9 := Tryd.underlying9
  a9 := Tryd.isAgg9
  z9 := Tryd.sizeOf9
  v9 := Tryd.zeroValue9
  t21 := Tryd.underlying21
  a21 := Tryd.isAgg21
  z21 := Tryd.sizeOf21
  v21 := Tryd.zeroValue21
  t31 := Tryd.underlying52
  a31 := Tryd.isAgg52
  z31 := Tryd.sizeOf52
  v31 := Tryd.zeroValue52
  t46 := Tryd.underlying69
  a46 := Tryd.isAgg69
  z46 := Tryd.sizeOf69
  v46 := Tryd.zeroValue69
  t51 := Tryd.underlying74
  a51 := Tryd.isAgg74
  z51 := Tryd.sizeOf74
  v51 := Tryd.zeroValue74
  t105 := Tryd.underlying65
  a105 := Tryd.isAgg65
  z105 := Tryd.sizeOf65
  v105 := Tryd.zeroValue65
  t119 := Tryd.underlying70
  a119 := Tryd.isAgg70
  z119 := Tryd.sizeOf70
  t138 := Tryd.underlying72
  a138 := Tryd.isAgg72
  z138 := Tryd.sizeOf72
  v138 := Tryd.zeroValue72
  t139 := Tryd.underlying73
  a139 := Tryd.isAgg73
  z139 := Tryd.sizeOf73
  v139 := Tryd.zeroValue73
  t146 := Tryd.underlying75
  a146 := Tryd.isAgg75
  z146 := Tryd.sizeOf75
  v146 := Tryd.zeroValue75
  g1 := by kernel_rfl
  g3 := by kernel_rfl
  g4 := by kernel_rfl }
end Go.Proofs
end
section
set_option linter.unusedSimpArgs false
set_option linter.unusedVariables false
/-! strings.Split at a separator of one byte, over any program that lays it: no variable of a package is read. -/
namespace Go.Proofs
open Go.Shelf Go.RowKit Go.Lib
variable {P : Program} {ρ : Ren}
set_option maxHeartbeats 1000000 in
theorem split1_calls (L : Lays.n146 P ρ) (hi9 : (P.info? (ρ.t 9)).map (fun i => (i.zero, i.size, i.bytes)) = some (some (.string ByteArray.empty), 1, 16)) (s : ByteArray) (b : UInt8) (w : World) (hs : s.size < 4294967281) :
    Calls P (ρ.f 146) #[.string s, .string ⟨#[b]⟩] w fun e w' =>
      e = .returned (.slice (some ⟨w.heap.size, 0, none⟩) (Lib.countB s ⟨#[b]⟩ + 1) (Lib.countB s ⟨#[b]⟩ + 1)) ∧ w' = w.alloc (.cells ((Lib.splitB ⟨#[b]⟩ 0 (Lib.countB s ⟨#[b]⟩) s).map Value.string).toArray (ρ.t 9)) := by
  have h1 : 1 ≤ (⟨#[b]⟩ : ByteArray).size := Nat.le_refl _
  have hle := Lib.countB_le ⟨#[b]⟩ h1 s.size s (Nat.le_refl _)
  have hlen := Lib.splitB_all ⟨#[b]⟩ h1 0 _ s rfl
  have hI : ∀ (x : ByteArray) (c : Array Value), x.size ≤ s.size → Calls P (ρ.f 143) #[.string x, .string ⟨#[b]⟩] (w.alloc (.cells c (ρ.t 9))) fun e w' => e = .returned (.int .i64 (Lib.indexB x ⟨#[b]⟩)) ∧ w' = w.alloc (.cells c (ρ.t 9)) := fun x c _ => by
    refine (Any.strings_Index_one { L with } x b _).mono fun e w' ⟨he, hw⟩ => ⟨?_, hw⟩
    rw [he]
    show _ = Ending.returned (Value.int .i64 (Lib.index x.data.toList [b]))
    rw [Lib.index_one]
  have hC : Calls P (ρ.f 138) #[.string s, .string ⟨#[b]⟩] w fun e w' => e = .returned (.int .i64 (Lib.countB s ⟨#[b]⟩)) ∧ w' = w := by
    refine (Any.strings_Count_one { L with } s b w).mono fun e w' ⟨he, hw⟩ => ⟨?_, hw⟩
    rw [he]
    show _ = Ending.returned (Value.int .i64 ((Lib.count s.data.toList [b] : Nat) : Int))
    rw [Lib.count_one]
    rfl
  have c := Any.strings_genSplit_core { L with } hi9 s ⟨#[b]⟩ 0 (-1) (Lib.countB s ⟨#[b]⟩ + 1) w hs h1 (Nat.zero_le _) hI hC (by decide) (by decide) (by rw [if_pos (by decide)]; omega)
  rw [Nat.add_sub_cancel, hlen] at c
  have e2 : Lib.cellsOf (Lib.splitB ⟨#[b]⟩ 0 (Lib.countB s ⟨#[b]⟩) s) (Lib.countB s ⟨#[b]⟩ + 1) = ((Lib.splitB ⟨#[b]⟩ 0 (Lib.countB s ⟨#[b]⟩) s).map Value.string).toArray := by rw [← hlen]; exact Lib.cellsOf_full _
  rw [e2] at c
  have t3 := L.t3; have t9 := L.t9; have t31 := L.t31
  have a3 := L.a3; have a9 := L.a9; have a31 := L.a31
  have z3 := L.z3; have v3 := L.v3; have z9 := L.z9; have v9 := L.v9; have z31 := L.z31; have v31 := L.v31
  have e221 : ∀ args w, (callFunc (ρ.f 221) args).run P w = .ok (.enter (ρ.f 221) args) w := enters_of L.f221 (by kernel_rfl) rfl
  go_enter L.f146, Body.n146_ntmps ρ
  go_wp2_with (go_at_fn (ρ.f 221); refine c.mono ?_; rintro e w' ⟨rfl, hw⟩; rw [hw])
  go_ret
  exact ⟨rfl, rfl⟩
end Go.Proofs
namespace Go.Av
open Go.Proofs Go.Shelf
/-- What strings.Split gives at a separator of one byte. -/
def piecesB (b : UInt8) (s : ByteArray) : List ByteArray := Lib.splitB ⟨#[b]⟩ 0 (Lib.countB s ⟨#[b]⟩) s
theorem piecesB_len (b : UInt8) (s : ByteArray) : (piecesB b s).length = Lib.countB s ⟨#[b]⟩ + 1 := Lib.splitB_all ⟨#[b]⟩ (Nat.le_refl _) 0 _ s rfl
theorem piecesB_le (b : UInt8) (s : ByteArray) : (piecesB b s).length ≤ s.size + 1 := by
  rw [piecesB_len]; exact Nat.succ_le_succ (Lib.countB_le ⟨#[b]⟩ (Nat.le_refl _) s.size s (Nat.le_refl _))
theorem split1_does {P : Program} {ρ : Ren} {k : Nat} (L : Lays.n146 P ρ) (hi9 : (P.info? (ρ.t 9)).map (fun i => (i.zero, i.size, i.bytes)) = some (some (.string ByteArray.empty), 1, 16)) (hk : ρ.f 146 = k) (b : UInt8) (s : ByteArray) (hs : s.size < 4294967281) :
    Does P k [S s, S ⟨#[b]⟩] (.row true 1 (piecesB b s).length ((piecesB b s).flatMap fun x => [S x])) := by
  have hle := piecesB_le b s
  subst hk
  refine does_strs (ty := ρ.t 9) (by omega) fun w G vs hlen hrd => ?_
  match vs, hlen with
  | [v0, v1], _ =>
    have h0 : v0 = .string s := by cases hrd 0 _ _ rfl rfl; rfl
    have h1 : v1 = .string ⟨#[b]⟩ := by cases hrd 1 _ _ rfl rfl; rfl
    subst h0; subst h1
    have := split1_calls L hi9 s b w hs
    rw [piecesB_len]
    exact this
/-- strings.Split, where its separator is '/'. -/
def splitP (s sep : ByteArray) : Option (List ByteArray) := if sep = ⟨#[47]⟩ ∧ s.size < 4294967281 then some (piecesB 47 s) else none
end Go.Av
end
section
set_option linter.unusedSimpArgs false
set_option linter.unusedVariables false
/-! strings.Split at '/' in this program. -/
namespace Go.Av
open Go.Proofs
theorem split_does (s sep : ByteArray) (r : List ByteArray) (h : splitP s sep = some r) : Does Tryd.prog 31 [S s, S sep] (.row true 1 r.length (esStr r)) := by
  unfold splitP at h
  split at h
  · rename_i c
    obtain ⟨rfl, h1⟩ := c
    cases h
    exact split1_does Tryd.laysSplit (by kernel_rfl) rfl 47 s h1
  · cases h
end Go.Av
end
section
/-! What the types of this translation are. -/
namespace Go.Av
open Go.Proofs
namespace Ty
theorem ldA3 : ldA Tryd.prog 3 = false := by kernel_rfl
theorem ldS3 : ldS Tryd.prog 3 = true := by kernel_rfl
theorem nz3 : nzT Tryd.prog 3 = [none] := by kernel_rfl
theorem sz3 : szT Tryd.prog 3 = some 1 := by kernel_rfl
theorem szn3 : szN Tryd.prog 3 = 1 := by kernel_rfl
theorem bl4 : isBl Tryd.prog 4 = true := by kernel_rfl
theorem ldA9 : ldA Tryd.prog 9 = false := by kernel_rfl
theorem ldS9 : ldS Tryd.prog 9 = true := by kernel_rfl
theorem nz9 : nzT Tryd.prog 9 = [none] := by kernel_rfl
theorem sz9 : szT Tryd.prog 9 = some 1 := by kernel_rfl
theorem szn9 : szN Tryd.prog 9 = 1 := by kernel_rfl
theorem str9 : isStr Tryd.prog 9 = true := by kernel_rfl
theorem sl22 : slT Tryd.prog 22 = some 2 := by kernel_rfl
theorem slz22 : slSz Tryd.prog 22 = 2 := by kernel_rfl
theorem ldA22 : ldA Tryd.prog 22 = false := by kernel_rfl
theorem ldS22 : ldS Tryd.prog 22 = true := by kernel_rfl
theorem nz22 : nzT Tryd.prog 22 = [some 2] := by kernel_rfl
theorem sz22 : szT Tryd.prog 22 = some 1 := by kernel_rfl
theorem szn22 : szN Tryd.prog 22 = 1 := by kernel_rfl
theorem sl25 : slT Tryd.prog 25 = some 2 := by kernel_rfl
theorem slz25 : slSz Tryd.prog 25 = 2 := by kernel_rfl
theorem zok25 : zOk Tryd.prog 25 = true := by kernel_rfl
theorem by25 : byN Tryd.prog 25 = 32 := by kernel_rfl
theorem zs25 : zsN Tryd.prog 25 = [.string ⟨#[]⟩, .string ⟨#[]⟩] := by kernel_rfl
theorem ldA25 : ldA Tryd.prog 25 = false := by kernel_rfl
theorem ldS25 : ldS Tryd.prog 25 = true := by kernel_rfl
theorem nz25 : nzT Tryd.prog 25 = [some 2] := by kernel_rfl
theorem nze25 : nzE Tryd.prog 25 = [none, none] := by kernel_rfl
theorem sz25 : szT Tryd.prog 25 = some 1 := by kernel_rfl
theorem szn25 : szN Tryd.prog 25 = 1 := by kernel_rfl
theorem sl29 : slT Tryd.prog 29 = some 3 := by kernel_rfl
theorem slz29 : slSz Tryd.prog 29 = 3 := by kernel_rfl
theorem sl32 : slT Tryd.prog 32 = some 3 := by kernel_rfl
theorem slz32 : slSz Tryd.prog 32 = 3 := by kernel_rfl
theorem zok32 : zOk Tryd.prog 32 = true := by kernel_rfl
theorem by32 : byN Tryd.prog 32 = 56 := by kernel_rfl
theorem zs32 : zsN Tryd.prog 32 = [.string ⟨#[]⟩, .string ⟨#[]⟩, .slice none 0 0] := by kernel_rfl
theorem nze32 : nzE Tryd.prog 32 = [none, none, some 2] := by kernel_rfl
theorem ldA38 : ldA Tryd.prog 38 = true := by kernel_rfl
theorem nz38 : nzT Tryd.prog 38 = [none, none] := by kernel_rfl
theorem sz38 : szT Tryd.prog 38 = some 2 := by kernel_rfl
theorem szn38 : szN Tryd.prog 38 = 2 := by kernel_rfl
theorem fo38_0 : fdO Tryd.prog 38 0 = 0 := by kernel_rfl
theorem fn38_0 : fdN Tryd.prog 38 0 = 1 := by kernel_rfl
theorem fk38_0 : fdOk Tryd.prog 38 0 = true := by kernel_rfl
theorem fs38_0 : fdS Tryd.prog 38 0 = true := by kernel_rfl
theorem fo38_1 : fdO Tryd.prog 38 1 = 1 := by kernel_rfl
theorem fn38_1 : fdN Tryd.prog 38 1 = 1 := by kernel_rfl
theorem fk38_1 : fdOk Tryd.prog 38 1 = true := by kernel_rfl
theorem fs38_1 : fdS Tryd.prog 38 1 = true := by kernel_rfl
theorem ag39 : agT Tryd.prog 39 = some true := by kernel_rfl
theorem ldA39 : ldA Tryd.prog 39 = true := by kernel_rfl
theorem nz39 : nzT Tryd.prog 39 = [none, none] := by kernel_rfl
theorem sz39 : szT Tryd.prog 39 = some 2 := by kernel_rfl
theorem szn39 : szN Tryd.prog 39 = 2 := by kernel_rfl
theorem zv39 : zvT Tryd.prog 39 = some [.string ⟨#[]⟩, .string ⟨#[]⟩] := by kernel_rfl
theorem fo39_0 : fdO Tryd.prog 39 0 = 0 := by kernel_rfl
theorem fn39_0 : fdN Tryd.prog 39 0 = 1 := by kernel_rfl
theorem fk39_0 : fdOk Tryd.prog 39 0 = true := by kernel_rfl
theorem fs39_0 : fdS Tryd.prog 39 0 = true := by kernel_rfl
theorem fo39_1 : fdO Tryd.prog 39 1 = 1 := by kernel_rfl
theorem fn39_1 : fdN Tryd.prog 39 1 = 1 := by kernel_rfl
theorem fk39_1 : fdOk Tryd.prog 39 1 = true := by kernel_rfl
theorem fs39_1 : fdS Tryd.prog 39 1 = true := by kernel_rfl
theorem ldA45 : ldA Tryd.prog 45 = true := by kernel_rfl
theorem nz45 : nzT Tryd.prog 45 = [none, none, some 2] := by kernel_rfl
theorem sz45 : szT Tryd.prog 45 = some 3 := by kernel_rfl
theorem szn45 : szN Tryd.prog 45 = 3 := by kernel_rfl
theorem fo45_0 : fdO Tryd.prog 45 0 = 0 := by kernel_rfl
theorem fn45_0 : fdN Tryd.prog 45 0 = 1 := by kernel_rfl
theorem fk45_0 : fdOk Tryd.prog 45 0 = true := by kernel_rfl
theorem fs45_0 : fdS Tryd.prog 45 0 = true := by kernel_rfl
theorem fo45_1 : fdO Tryd.prog 45 1 = 1 := by kernel_rfl
theorem fn45_1 : fdN Tryd.prog 45 1 = 1 := by kernel_rfl
theorem fk45_1 : fdOk Tryd.prog 45 1 = true := by kernel_rfl
theorem fs45_1 : fdS Tryd.prog 45 1 = true := by kernel_rfl
theorem fo45_2 : fdO Tryd.prog 45 2 = 2 := by kernel_rfl
theorem fn45_2 : fdN Tryd.prog 45 2 = 1 := by kernel_rfl
theorem fk45_2 : fdOk Tryd.prog 45 2 = true := by kernel_rfl
theorem fs45_2 : fdS Tryd.prog 45 2 = true := by kernel_rfl
theorem sl46 : slT Tryd.prog 46 = some 1 := by kernel_rfl
theorem slz46 : slSz Tryd.prog 46 = 1 := by kernel_rfl
theorem zok46 : zOk Tryd.prog 46 = true := by kernel_rfl
theorem by46 : byN Tryd.prog 46 = 8 := by kernel_rfl
theorem zs46 : zsN Tryd.prog 46 = [.int .i64 0] := by kernel_rfl
theorem nze46 : nzE Tryd.prog 46 = [none] := by kernel_rfl
theorem ag48 : agT Tryd.prog 48 = some true := by kernel_rfl
theorem ldA48 : ldA Tryd.prog 48 = true := by kernel_rfl
theorem nz48 : nzT Tryd.prog 48 = [none, none, some 2] := by kernel_rfl
theorem sz48 : szT Tryd.prog 48 = some 3 := by kernel_rfl
theorem szn48 : szN Tryd.prog 48 = 3 := by kernel_rfl
theorem zv48 : zvT Tryd.prog 48 = some [.string ⟨#[]⟩, .string ⟨#[]⟩, .slice none 0 0] := by kernel_rfl
theorem fo48_0 : fdO Tryd.prog 48 0 = 0 := by kernel_rfl
theorem fn48_0 : fdN Tryd.prog 48 0 = 1 := by kernel_rfl
theorem fk48_0 : fdOk Tryd.prog 48 0 = true := by kernel_rfl
theorem fs48_0 : fdS Tryd.prog 48 0 = true := by kernel_rfl
theorem fo48_1 : fdO Tryd.prog 48 1 = 1 := by kernel_rfl
theorem fn48_1 : fdN Tryd.prog 48 1 = 1 := by kernel_rfl
theorem fk48_1 : fdOk Tryd.prog 48 1 = true := by kernel_rfl
theorem fs48_1 : fdS Tryd.prog 48 1 = true := by kernel_rfl
theorem fo48_2 : fdO Tryd.prog 48 2 = 2 := by kernel_rfl
theorem fn48_2 : fdN Tryd.prog 48 2 = 1 := by kernel_rfl
theorem fk48_2 : fdOk Tryd.prog 48 2 = true := by kernel_rfl
theorem fs48_2 : fdS Tryd.prog 48 2 = true := by kernel_rfl
theorem sl52 : slT Tryd.prog 52 = some 1 := by kernel_rfl
theorem slz52 : slSz Tryd.prog 52 = 1 := by kernel_rfl
theorem zok52 : zOk Tryd.prog 52 = true := by kernel_rfl
theorem by52 : byN Tryd.prog 52 = 16 := by kernel_rfl
theorem zs52 : zsN Tryd.prog 52 = [.string ⟨#[]⟩] := by kernel_rfl
theorem nze52 : nzE Tryd.prog 52 = [none] := by kernel_rfl
end Ty
end Go.Av
end
section
set_option linter.unusedSimpArgs false
set_option linter.unusedVariables false
set_option maxRecDepth 100000
namespace Go.Av
open Go.Proofs

def rng (n lo hi : Int) : Bool := decide (lo ≤ n ∧ n ≤ hi)

theorem l1In_does (n lo hi : Int) : Does Tryd.prog 30 [I n, I lo, I hi] (B (rng n lo hi)) := by
  refine Does.walk (nt := 15) Tryd.func30 rfl rfl (by simp) (by decide) rfl (fun G0 X w0 pv => ?_)
  have ff := trivial
  try refine st_by ff ?_
  repeat' (first
    | exact trivial
    | (refine And.intro ?_ ?_; · (try clear ff; first | omega))
    | (refine ret_q1 rfl ?_; (try refine sr_by ff ?_); all_goals (try clear ff); all_goals (try exact trivial); all_goals ((simp [rng]; omega)))
    | (with_reducible refine CBC_eq (fun hp hd => ?_) (fun hp hd => ?_) <;> refine st_by (And.intro hd ff) ?_)
    | (with_reducible refine CBC_ne (fun hp hd => ?_) (fun hp hd => ?_) <;> refine st_by (And.intro hd ff) ?_)
    | (with_reducible refine CBC_decT ?_ (fun hd => ?_); (· try clear ff; first | assumption | omega); refine st_by (And.intro hd ff) ?_)
    | (with_reducible refine CBC_decF ?_ (fun hd => ?_); (· try clear ff; first | assumption | omega); refine st_by (And.intro hd ff) ?_)
    | (with_reducible refine CBC_dec (fun hp hd => ?_) (fun hp hd => ?_) <;> refine st_by (And.intro hd ff) ?_)
    | (refine CBC_bool (fun hd => ?_) (fun hd => ?_) <;> refine st_by (And.intro hd ff) ?_)
    | (with_reducible refine GQ_eq (fun hp hd => ?_) (fun hp hd => ?_) <;> refine st_by (And.intro hd ff) ?_)
    | (with_reducible refine GQ_ne (fun hp hd => ?_) (fun hp hd => ?_) <;> refine st_by (And.intro hd ff) ?_)
    | (with_reducible refine GQ_decT ?_ (fun hd => ?_); (· try clear ff; first | assumption | omega); refine st_by (And.intro hd ff) ?_)
    | (with_reducible refine GQ_decF ?_ (fun hd => ?_); (· try clear ff; first | assumption | omega); refine st_by (And.intro hd ff) ?_)
    | (with_reducible refine GQ_dec (fun hp hd => ?_) (fun hp hd => ?_) <;> refine st_by (And.intro hd ff) ?_)
    | (with_reducible refine GQ_ndT ?_ (fun hd => ?_); (· try clear ff; first | assumption | omega); refine st_by (And.intro hd ff) ?_)
    | (with_reducible refine GQ_ndF ?_ (fun hd => ?_); (· try clear ff; first | assumption | omega); refine st_by (And.intro hd ff) ?_)
    | (with_reducible refine GQ_nd (fun hp hd => ?_) (fun hp hd => ?_) <;> refine st_by (And.intro hd ff) ?_)
    | (refine GQ_nb (fun hd => ?_) (fun hd => ?_) <;> refine st_by (And.intro hd ff) ?_)
    | (refine GQ_bool (fun hd => ?_) (fun hd => ?_) <;> refine st_by (And.intro hd ff) ?_))
  all_goals try clear ff
theorem inRange_does (n lo hi : Int) : Does Tryd.prog 34 [I n, I lo, I hi] (B (rng n lo hi)) := by
  refine Does.walk (nt := 15) Tryd.func34 rfl rfl (by simp) (by decide) rfl (fun G0 X w0 pv => ?_)
  have ff := trivial
  try refine st_by ff ?_
  repeat' (first
    | exact trivial
    | (refine And.intro ?_ ?_; · (try clear ff; first | omega))
    | (refine ret_q1 rfl ?_; (try refine sr_by ff ?_); all_goals (try clear ff); all_goals (try exact trivial); all_goals ((simp [rng]; omega)))
    | (with_reducible refine CBC_eq (fun hp hd => ?_) (fun hp hd => ?_) <;> refine st_by (And.intro hd ff) ?_)
    | (with_reducible refine CBC_ne (fun hp hd => ?_) (fun hp hd => ?_) <;> refine st_by (And.intro hd ff) ?_)
    | (with_reducible refine CBC_decT ?_ (fun hd => ?_); (· try clear ff; first | assumption | omega); refine st_by (And.intro hd ff) ?_)
    | (with_reducible refine CBC_decF ?_ (fun hd => ?_); (· try clear ff; first | assumption | omega); refine st_by (And.intro hd ff) ?_)
    | (with_reducible refine CBC_dec (fun hp hd => ?_) (fun hp hd => ?_) <;> refine st_by (And.intro hd ff) ?_)
    | (refine CBC_bool (fun hd => ?_) (fun hd => ?_) <;> refine st_by (And.intro hd ff) ?_)
    | (with_reducible refine GQ_eq (fun hp hd => ?_) (fun hp hd => ?_) <;> refine st_by (And.intro hd ff) ?_)
    | (with_reducible refine GQ_ne (fun hp hd => ?_) (fun hp hd => ?_) <;> refine st_by (And.intro hd ff) ?_)
    | (with_reducible refine GQ_decT ?_ (fun hd => ?_); (· try clear ff; first | assumption | omega); refine st_by (And.intro hd ff) ?_)
    | (with_reducible refine GQ_decF ?_ (fun hd => ?_); (· try clear ff; first | assumption | omega); refine st_by (And.intro hd ff) ?_)
    | (with_reducible refine GQ_dec (fun hp hd => ?_) (fun hp hd => ?_) <;> refine st_by (And.intro hd ff) ?_)
    | (with_reducible refine GQ_ndT ?_ (fun hd => ?_); (· try clear ff; first | assumption | omega); refine st_by (And.intro hd ff) ?_)
    | (with_reducible refine GQ_ndF ?_ (fun hd => ?_); (· try clear ff; first | assumption | omega); refine st_by (And.intro hd ff) ?_)
    | (with_reducible refine GQ_nd (fun hp hd => ?_) (fun hp hd => ?_) <;> refine st_by (And.intro hd ff) ?_)
    | (refine GQ_nb (fun hd => ?_) (fun hd => ?_) <;> refine st_by (And.intro hd ff) ?_)
    | (refine GQ_bool (fun hd => ?_) (fun hd => ?_) <;> refine st_by (And.intro hd ff) ?_))
  all_goals try clear ff
end Go.Av
end
section
set_option linter.unusedSimpArgs false
set_option linter.unusedVariables false
set_option maxRecDepth 100000
namespace Go.Av
open Go.Proofs

def lett (c : Int) : Bool := (decide (c ≥ 97) && decide (c ≤ 122)) || (decide (c ≥ 65) && decide (c ≤ 90))
def digt (c : Int) : Bool := decide (c ≥ 48) && decide (c ≤ 57)

theorem isDigit_does (c : Int) : Does Tryd.prog 40 [U8 c] (B (digt c)) := by
  refine Does.walk (nt := 9) Tryd.func40 rfl rfl (by simp) (by decide) rfl (fun G0 X w0 pv => ?_)
  have ff := trivial
  try refine st_by ff ?_
  repeat' (first
    | exact trivial
    | (refine And.intro ?_ ?_; · (try clear ff; first | omega))
    | (refine ret_q1 rfl ?_; (try refine sr_by ff ?_); all_goals (try clear ff); all_goals (try exact trivial); all_goals (simp [digt, *]))
    | (with_reducible refine CBC_eq (fun hp hd => ?_) (fun hp hd => ?_) <;> refine st_by (And.intro hd ff) ?_)
    | (with_reducible refine CBC_ne (fun hp hd => ?_) (fun hp hd => ?_) <;> refine st_by (And.intro hd ff) ?_)
    | (with_reducible refine CBC_decT ?_ (fun hd => ?_); (· try clear ff; first | assumption | omega); refine st_by (And.intro hd ff) ?_)
    | (with_reducible refine CBC_decF ?_ (fun hd => ?_); (· try clear ff; first | assumption | omega); refine st_by (And.intro hd ff) ?_)
    | (with_reducible refine CBC_dec (fun hp hd => ?_) (fun hp hd => ?_) <;> refine st_by (And.intro hd ff) ?_)
    | (refine CBC_bool (fun hd => ?_) (fun hd => ?_) <;> refine st_by (And.intro hd ff) ?_)
    | (with_reducible refine GQ_eq (fun hp hd => ?_) (fun hp hd => ?_) <;> refine st_by (And.intro hd ff) ?_)
    | (with_reducible refine GQ_ne (fun hp hd => ?_) (fun hp hd => ?_) <;> refine st_by (And.intro hd ff) ?_)
    | (with_reducible refine GQ_decT ?_ (fun hd => ?_); (· try clear ff; first | assumption | omega); refine st_by (And.intro hd ff) ?_)
    | (with_reducible refine GQ_decF ?_ (fun hd => ?_); (· try clear ff; first | assumption | omega); refine st_by (And.intro hd ff) ?_)
    | (with_reducible refine GQ_dec (fun hp hd => ?_) (fun hp hd => ?_) <;> refine st_by (And.intro hd ff) ?_)
    | (with_reducible refine GQ_ndT ?_ (fun hd => ?_); (· try clear ff; first | assumption | omega); refine st_by (And.intro hd ff) ?_)
    | (with_reducible refine GQ_ndF ?_ (fun hd => ?_); (· try clear ff; first | assumption | omega); refine st_by (And.intro hd ff) ?_)
    | (with_reducible refine GQ_nd (fun hp hd => ?_) (fun hp hd => ?_) <;> refine st_by (And.intro hd ff) ?_)
    | (refine GQ_nb (fun hd => ?_) (fun hd => ?_) <;> refine st_by (And.intro hd ff) ?_)
    | (refine GQ_bool (fun hd => ?_) (fun hd => ?_) <;> refine st_by (And.intro hd ff) ?_))
  all_goals try clear ff
theorem l1Digit_does (c : Int) : Does Tryd.prog 35 [U8 c] (B (digt c)) := by
  refine Does.walk (nt := 9) Tryd.func35 rfl rfl (by simp) (by decide) rfl (fun G0 X w0 pv => ?_)
  have ff := trivial
  try refine st_by ff ?_
  repeat' (first
    | exact trivial
    | (refine And.intro ?_ ?_; · (try clear ff; first | omega))
    | (refine ret_q1 rfl ?_; (try refine sr_by ff ?_); all_goals (try clear ff); all_goals (try exact trivial); all_goals (simp [digt, *]))
    | (with_reducible refine CBC_eq (fun hp hd => ?_) (fun hp hd => ?_) <;> refine st_by (And.intro hd ff) ?_)
    | (with_reducible refine CBC_ne (fun hp hd => ?_) (fun hp hd => ?_) <;> refine st_by (And.intro hd ff) ?_)
    | (with_reducible refine CBC_decT ?_ (fun hd => ?_); (· try clear ff; first | assumption | omega); refine st_by (And.intro hd ff) ?_)
    | (with_reducible refine CBC_decF ?_ (fun hd => ?_); (· try clear ff; first | assumption | omega); refine st_by (And.intro hd ff) ?_)
    | (with_reducible refine CBC_dec (fun hp hd => ?_) (fun hp hd => ?_) <;> refine st_by (And.intro hd ff) ?_)
    | (refine CBC_bool (fun hd => ?_) (fun hd => ?_) <;> refine st_by (And.intro hd ff) ?_)
    | (with_reducible refine GQ_eq (fun hp hd => ?_) (fun hp hd => ?_) <;> refine st_by (And.intro hd ff) ?_)
    | (with_reducible refine GQ_ne (fun hp hd => ?_) (fun hp hd => ?_) <;> refine st_by (And.intro hd ff) ?_)
    | (with_reducible refine GQ_decT ?_ (fun hd => ?_); (· try clear ff; first | assumption | omega); refine st_by (And.intro hd ff) ?_)
    | (with_reducible refine GQ_decF ?_ (fun hd => ?_); (· try clear ff; first | assumption | omega); refine st_by (And.intro hd ff) ?_)
    | (with_reducible refine GQ_dec (fun hp hd => ?_) (fun hp hd => ?_) <;> refine st_by (And.intro hd ff) ?_)
    | (with_reducible refine GQ_ndT ?_ (fun hd => ?_); (· try clear ff; first | assumption | omega); refine st_by (And.intro hd ff) ?_)
    | (with_reducible refine GQ_ndF ?_ (fun hd => ?_); (· try clear ff; first | assumption | omega); refine st_by (And.intro hd ff) ?_)
    | (with_reducible refine GQ_nd (fun hp hd => ?_) (fun hp hd => ?_) <;> refine st_by (And.intro hd ff) ?_)
    | (refine GQ_nb (fun hd => ?_) (fun hd => ?_) <;> refine st_by (And.intro hd ff) ?_)
    | (refine GQ_bool (fun hd => ?_) (fun hd => ?_) <;> refine st_by (And.intro hd ff) ?_))
  all_goals try clear ff
theorem isLetter_does (c : Int) : Does Tryd.prog 39 [U8 c] (B (lett c)) := by
  refine Does.walk (nt := 17) Tryd.func39 rfl rfl (by simp) (by decide) rfl (fun G0 X w0 pv => ?_)
  have ff := trivial
  try refine st_by ff ?_
  repeat' (first
    | exact trivial
    | (refine And.intro ?_ ?_; · (try clear ff; first | omega))
    | (refine ret_q1 rfl ?_; (try refine sr_by ff ?_); all_goals (try clear ff); all_goals (try exact trivial); all_goals (first | (simp [lett, *]; done) | (simp [lett, *]; omega)))
    | (with_reducible refine CBC_eq (fun hp hd => ?_) (fun hp hd => ?_) <;> refine st_by (And.intro hd ff) ?_)
    | (with_reducible refine CBC_ne (fun hp hd => ?_) (fun hp hd => ?_) <;> refine st_by (And.intro hd ff) ?_)
    | (with_reducible refine CBC_decT ?_ (fun hd => ?_); (· try clear ff; first | assumption | omega); refine st_by (And.intro hd ff) ?_)
    | (with_reducible refine CBC_decF ?_ (fun hd => ?_); (· try clear ff; first | assumption | omega); refine st_by (And.intro hd ff) ?_)
    | (with_reducible refine CBC_dec (fun hp hd => ?_) (fun hp hd => ?_) <;> refine st_by (And.intro hd ff) ?_)
    | (refine CBC_bool (fun hd => ?_) (fun hd => ?_) <;> refine st_by (And.intro hd ff) ?_)
    | (with_reducible refine GQ_eq (fun hp hd => ?_) (fun hp hd => ?_) <;> refine st_by (And.intro hd ff) ?_)
    | (with_reducible refine GQ_ne (fun hp hd => ?_) (fun hp hd => ?_) <;> refine st_by (And.intro hd ff) ?_)
    | (with_reducible refine GQ_decT ?_ (fun hd => ?_); (· try clear ff; first | assumption | omega); refine st_by (And.intro hd ff) ?_)
    | (with_reducible refine GQ_decF ?_ (fun hd => ?_); (· try clear ff; first | assumption | omega); refine st_by (And.intro hd ff) ?_)
    | (with_reducible refine GQ_dec (fun hp hd => ?_) (fun hp hd => ?_) <;> refine st_by (And.intro hd ff) ?_)
    | (with_reducible refine GQ_ndT ?_ (fun hd => ?_); (· try clear ff; first | assumption | omega); refine st_by (And.intro hd ff) ?_)
    | (with_reducible refine GQ_ndF ?_ (fun hd => ?_); (· try clear ff; first | assumption | omega); refine st_by (And.intro hd ff) ?_)
    | (with_reducible refine GQ_nd (fun hp hd => ?_) (fun hp hd => ?_) <;> refine st_by (And.intro hd ff) ?_)
    | (refine GQ_nb (fun hd => ?_) (fun hd => ?_) <;> refine st_by (And.intro hd ff) ?_)
    | (refine GQ_bool (fun hd => ?_) (fun hd => ?_) <;> refine st_by (And.intro hd ff) ?_))
  all_goals try clear ff
theorem l1Letter_does (c : Int) : Does Tryd.prog 36 [U8 c] (B (lett c || c == 95)) := by
  refine Does.walk (nt := 21) Tryd.func36 rfl rfl (by simp) (by decide) rfl (fun G0 X w0 pv => ?_)
  have ff := trivial
  try refine st_by ff ?_
  repeat' (first
    | exact trivial
    | (refine And.intro ?_ ?_; · (try clear ff; first | omega))
    | (refine ret_q1 rfl ?_; (try refine sr_by ff ?_); all_goals (try clear ff); all_goals (try exact trivial); all_goals ((simp [lett]; omega)))
    | (with_reducible refine CBC_eq (fun hp hd => ?_) (fun hp hd => ?_) <;> refine st_by (And.intro hd ff) ?_)
    | (with_reducible refine CBC_ne (fun hp hd => ?_) (fun hp hd => ?_) <;> refine st_by (And.intro hd ff) ?_)
    | (with_reducible refine CBC_decT ?_ (fun hd => ?_); (· try clear ff; first | assumption | omega); refine st_by (And.intro hd ff) ?_)
    | (with_reducible refine CBC_decF ?_ (fun hd => ?_); (· try clear ff; first | assumption | omega); refine st_by (And.intro hd ff) ?_)
    | (with_reducible refine CBC_dec (fun hp hd => ?_) (fun hp hd => ?_) <;> refine st_by (And.intro hd ff) ?_)
    | (refine CBC_bool (fun hd => ?_) (fun hd => ?_) <;> refine st_by (And.intro hd ff) ?_)
    | (with_reducible refine GQ_eq (fun hp hd => ?_) (fun hp hd => ?_) <;> refine st_by (And.intro hd ff) ?_)
    | (with_reducible refine GQ_ne (fun hp hd => ?_) (fun hp hd => ?_) <;> refine st_by (And.intro hd ff) ?_)
    | (with_reducible refine GQ_decT ?_ (fun hd => ?_); (· try clear ff; first | assumption | omega); refine st_by (And.intro hd ff) ?_)
    | (with_reducible refine GQ_decF ?_ (fun hd => ?_); (· try clear ff; first | assumption | omega); refine st_by (And.intro hd ff) ?_)
    | (with_reducible refine GQ_dec (fun hp hd => ?_) (fun hp hd => ?_) <;> refine st_by (And.intro hd ff) ?_)
    | (with_reducible refine GQ_ndT ?_ (fun hd => ?_); (· try clear ff; first | assumption | omega); refine st_by (And.intro hd ff) ?_)
    | (with_reducible refine GQ_ndF ?_ (fun hd => ?_); (· try clear ff; first | assumption | omega); refine st_by (And.intro hd ff) ?_)
    | (with_reducible refine GQ_nd (fun hp hd => ?_) (fun hp hd => ?_) <;> refine st_by (And.intro hd ff) ?_)
    | (refine GQ_nb (fun hd => ?_) (fun hd => ?_) <;> refine st_by (And.intro hd ff) ?_)
    | (refine GQ_bool (fun hd => ?_) (fun hd => ?_) <;> refine st_by (And.intro hd ff) ?_))
  all_goals try clear ff

/-- May the byte at 'i' stand in a name? -/
def gnB (s : ByteArray) (i : Nat) : Bool := lett (byteAt s i) || byteAt s i == 95 || (i != 0 && digt (byteAt s i))
def goodName (s : ByteArray) : Bool := rng s.size 1 20 && (List.range s.size).all (gnB s)

theorem implGoodName_does (s : ByteArray) (hs : s.size ≤ 9223372036854775807) : Does Tryd.prog 27 [S s] (B (goodName s)) := by
  have bad : ∀ k, k < s.size → gnB s k = false → goodName s = false := fun k hk h => by
    simp only [goodName, Bool.and_eq_false_iff]
    right
    rw [List.all_eq_false]
    exact ⟨k, List.mem_range.2 hk, by simp [h]⟩
  refine Does.walk (nt := 35) Tryd.func27 rfl rfl (by simp) (by decide) rfl (fun G0 X w0 pv => ?_)
  (first | exact cl_by @Ty.str9 | refine st_by @Ty.str9 ?_)
  refine aw_loop (ι := Nat) (fun k σ => k ≤ s.size ∧ (∀ i, i < k → gnB s i = true) ∧ σ.t 0 = S s ∧ σ.t 5 = I s.size ∧ σ.t 6 = I k) (fun k => s.size - k) 0 ?_ ?_
  · (first | exact cl_by trivial | refine st_by trivial ?_)
    simp
  · rintro k σ ⟨hk, hok, h0, h5, h6⟩
    have w1 : k < s.size → IntKind.i64.wrap ((k : Int) + 1) = ((k + 1 : Nat) : Int) := fun _ => wI _ (by omega) (by omega)
    have good : gnB s k = true → ∀ i, i < k + 1 → gnB s i = true := fun h i hi => by
        by_cases hik : i = k
        · rw [hik]; exact h
        · exact hok i (by omega)
    have all : k = s.size → (List.range s.size).all (gnB s) = true := fun e => List.all_eq_true.2 (fun i hi => hok i (by have := List.mem_range.1 hi; omega))
    clear hok
    have ff := And.intro @h0 (And.intro @h5 (And.intro @h6 @Ty.str9))
    try refine st_by ff ?_
    repeat' (first
      | exact trivial
      | (refine And.intro ?_ ?_; · (try clear ff; first | omega))
      | (refine ret_q1 rfl ?_; (try refine sr_by ff ?_); all_goals (try clear ff); all_goals (try exact trivial); all_goals (first | (rw [bad k]; (· omega); (· simp_all [gnB])) | (have := all (by omega); simp [goodName, this])))
      | (with_reducible refine cq_call (isLetter_does (byteAt s k)) ?_ ?_ ⟨?_, ?_⟩; (· first | rfl | exact cl_by ff); (· first | assumption | kernel_rfl); (· first | exact ca_by ff | (refine sa_by ff ?_; try clear ff; first | exact trivial | omega)); refine st_by ff ?_)
      | (with_reducible refine cq_call (isDigit_does (byteAt s k)) ?_ ?_ ⟨?_, ?_⟩; (· first | rfl | exact cl_by ff); (· first | assumption | kernel_rfl); (· first | exact ca_by ff | (refine sa_by ff ?_; try clear ff; first | exact trivial | omega)); refine st_by ff ?_)
      | (with_reducible refine cq_call (inRange_does s.size 1 20) ?_ ?_ ⟨?_, ?_⟩; (· first | rfl | exact cl_by ff); (· first | assumption | kernel_rfl); (· first | exact ca_by ff | (refine sa_by ff ?_; try clear ff; first | exact trivial | omega)); refine st_by ff ?_)
      | (with_reducible refine CBC_eq (fun hp hd => ?_) (fun hp hd => ?_) <;> refine st_by (And.intro hd ff) ?_)
      | (with_reducible refine CBC_ne (fun hp hd => ?_) (fun hp hd => ?_) <;> refine st_by (And.intro hd ff) ?_)
      | (with_reducible refine CBC_decT ?_ (fun hd => ?_); (· try clear ff; first | assumption | omega); refine st_by (And.intro hd ff) ?_)
      | (with_reducible refine CBC_decF ?_ (fun hd => ?_); (· try clear ff; first | assumption | omega); refine st_by (And.intro hd ff) ?_)
      | (with_reducible refine CBC_dec (fun hp hd => ?_) (fun hp hd => ?_) <;> refine st_by (And.intro hd ff) ?_)
      | (refine CBC_bool (fun hd => ?_) (fun hd => ?_) <;> refine st_by (And.intro hd ff) ?_)
      | (with_reducible refine GQ_eq (fun hp hd => ?_) (fun hp hd => ?_) <;> refine st_by (And.intro hd ff) ?_)
      | (with_reducible refine GQ_ne (fun hp hd => ?_) (fun hp hd => ?_) <;> refine st_by (And.intro hd ff) ?_)
      | (with_reducible refine GQ_decT ?_ (fun hd => ?_); (· try clear ff; first | assumption | omega); refine st_by (And.intro hd ff) ?_)
      | (with_reducible refine GQ_decF ?_ (fun hd => ?_); (· try clear ff; first | assumption | omega); refine st_by (And.intro hd ff) ?_)
      | (with_reducible refine GQ_dec (fun hp hd => ?_) (fun hp hd => ?_) <;> refine st_by (And.intro hd ff) ?_)
      | (with_reducible refine GQ_ndT ?_ (fun hd => ?_); (· try clear ff; first | assumption | omega); refine st_by (And.intro hd ff) ?_)
      | (with_reducible refine GQ_ndF ?_ (fun hd => ?_); (· try clear ff; first | assumption | omega); refine st_by (And.intro hd ff) ?_)
      | (with_reducible refine GQ_nd (fun hp hd => ?_) (fun hp hd => ?_) <;> refine st_by (And.intro hd ff) ?_)
      | (refine GQ_nb (fun hd => ?_) (fun hd => ?_) <;> refine st_by (And.intro hd ff) ?_)
      | (refine GQ_bool (fun hd => ?_) (fun hd => ?_) <;> refine st_by (And.intro hd ff) ?_)
      | ((try clear ff); refine ⟨k + 1, ⟨?_, good ?_, ?_⟩, ?_⟩; (· omega); (· simp_all [gnB]); (· rw [w1 (by omega)]); (· omega)))
    all_goals try clear ff

theorem specGoodName_does (s : ByteArray) (hs : s.size ≤ 9223372036854775807) : Does Tryd.prog 24 [S s] (B (goodName s)) := by
  have short : ¬ (1 ≤ s.size ∧ s.size ≤ 20) → goodName s = false := fun h => by simp [goodName, rng]; omega
  have bad : ∀ k, k < s.size → gnB s k = false → goodName s = false := fun k hk h => by
    simp only [goodName, Bool.and_eq_false_iff]
    right
    rw [List.all_eq_false]
    exact ⟨k, List.mem_range.2 hk, by simp [h]⟩
  have dig0 : digt (byteAt s 0) = true → gnB s 0 = false := fun h => by
    simp only [digt, Bool.and_eq_true, decide_eq_true_eq] at h
    simp [gnB, lett]; omega
  refine Does.walk (nt := 35) Tryd.func24 rfl rfl (by simp) (by decide) rfl (fun G0 X w0 pv => ?_)
  have ff := @Ty.str9
  try refine st_by ff ?_
  repeat' (first
    | exact trivial
    | (refine And.intro ?_ ?_; · (try clear ff; first | omega))
    | (refine ret_q1 rfl ?_; (try refine sr_by ff ?_); all_goals (try clear ff); all_goals (try exact trivial); all_goals (first | (rw [short]; omega) | (rw [bad 0]; (· omega); (· exact dig0 hd))))
    | (with_reducible refine cq_call (l1Digit_does (byteAt s 0)) ?_ ?_ ⟨?_, ?_⟩; (· first | rfl | exact cl_by ff); (· first | assumption | kernel_rfl); (· first | exact ca_by ff | (refine sa_by ff ?_; try clear ff; first | exact trivial | omega)); refine st_by ff ?_)
    | (with_reducible refine CBC_eq (fun hp hd => ?_) (fun hp hd => ?_) <;> refine st_by (And.intro hd ff) ?_)
    | (with_reducible refine CBC_ne (fun hp hd => ?_) (fun hp hd => ?_) <;> refine st_by (And.intro hd ff) ?_)
    | (with_reducible refine CBC_decT ?_ (fun hd => ?_); (· try clear ff; first | assumption | omega); refine st_by (And.intro hd ff) ?_)
    | (with_reducible refine CBC_decF ?_ (fun hd => ?_); (· try clear ff; first | assumption | omega); refine st_by (And.intro hd ff) ?_)
    | (with_reducible refine CBC_dec (fun hp hd => ?_) (fun hp hd => ?_) <;> refine st_by (And.intro hd ff) ?_)
    | (refine CBC_bool (fun hd => ?_) (fun hd => ?_) <;> refine st_by (And.intro hd ff) ?_)
    | (with_reducible refine GQ_eq (fun hp hd => ?_) (fun hp hd => ?_) <;> refine st_by (And.intro hd ff) ?_)
    | (with_reducible refine GQ_ne (fun hp hd => ?_) (fun hp hd => ?_) <;> refine st_by (And.intro hd ff) ?_)
    | (with_reducible refine GQ_decT ?_ (fun hd => ?_); (· try clear ff; first | assumption | omega); refine st_by (And.intro hd ff) ?_)
    | (with_reducible refine GQ_decF ?_ (fun hd => ?_); (· try clear ff; first | assumption | omega); refine st_by (And.intro hd ff) ?_)
    | (with_reducible refine GQ_dec (fun hp hd => ?_) (fun hp hd => ?_) <;> refine st_by (And.intro hd ff) ?_)
    | (with_reducible refine GQ_ndT ?_ (fun hd => ?_); (· try clear ff; first | assumption | omega); refine st_by (And.intro hd ff) ?_)
    | (with_reducible refine GQ_ndF ?_ (fun hd => ?_); (· try clear ff; first | assumption | omega); refine st_by (And.intro hd ff) ?_)
    | (with_reducible refine GQ_nd (fun hp hd => ?_) (fun hp hd => ?_) <;> refine st_by (And.intro hd ff) ?_)
    | (refine GQ_nb (fun hd => ?_) (fun hd => ?_) <;> refine st_by (And.intro hd ff) ?_)
    | (refine GQ_bool (fun hd => ?_) (fun hd => ?_) <;> refine st_by (And.intro hd ff) ?_))
  all_goals try clear ff
  have a0 : digt (byteAt s 0) = false := hd
  refine aw_loop (ι := Nat) (fun k σ => k ≤ s.size ∧ (∀ i, i < k → gnB s i = true) ∧ σ.t 0 = S s ∧ σ.t 3 = I k) (fun k => s.size - k) 0 ?_ ?_
  · (first | exact cl_by trivial | refine st_by trivial ?_)
    simp
  · rintro k σ ⟨hk, hok, g0, g3⟩
    have w1 : k < s.size → IntKind.i64.wrap ((k : Int) + 1) = ((k + 1 : Nat) : Int) := fun _ => wI _ (by omega) (by omega)
    have good : gnB s k = true → ∀ i, i < k + 1 → gnB s i = true := fun h i hi => by
        by_cases hik : i = k
        · rw [hik]; exact h
        · exact hok i (by omega)
    have zero : k = 0 → digt (byteAt s k) = false := fun h => by subst h; exact a0
    have all : k = s.size → goodName s = true := fun e => by
      simp only [goodName, rng, Bool.and_eq_true, decide_eq_true_eq]
      exact ⟨by omega, List.all_eq_true.2 (fun i hi => hok i (by have := List.mem_range.1 hi; omega))⟩
    clear hok
    have ff := And.intro @g0 (And.intro @g3 @Ty.str9)
    try refine st_by ff ?_
    repeat' (first
      | exact trivial
      | (refine And.intro ?_ ?_; · (try clear ff; first | omega))
      | (refine ret_q1 rfl ?_; (try refine sr_by ff ?_); all_goals (try clear ff); all_goals (try exact trivial); all_goals (first | (rw [all]; omega) | (rw [bad k]; (· omega); (· simp_all [gnB]))))
      | (with_reducible refine cq_call (l1Letter_does (byteAt s k)) ?_ ?_ ⟨?_, ?_⟩; (· first | rfl | exact cl_by ff); (· first | assumption | kernel_rfl); (· first | exact ca_by ff | (refine sa_by ff ?_; try clear ff; first | exact trivial | omega)); refine st_by ff ?_)
      | (with_reducible refine cq_call (l1Digit_does (byteAt s k)) ?_ ?_ ⟨?_, ?_⟩; (· first | rfl | exact cl_by ff); (· first | assumption | kernel_rfl); (· first | exact ca_by ff | (refine sa_by ff ?_; try clear ff; first | exact trivial | omega)); refine st_by ff ?_)
      | (with_reducible refine CBC_eq (fun hp hd => ?_) (fun hp hd => ?_) <;> refine st_by (And.intro hd ff) ?_)
      | (with_reducible refine CBC_ne (fun hp hd => ?_) (fun hp hd => ?_) <;> refine st_by (And.intro hd ff) ?_)
      | (with_reducible refine CBC_decT ?_ (fun hd => ?_); (· try clear ff; first | assumption | omega); refine st_by (And.intro hd ff) ?_)
      | (with_reducible refine CBC_decF ?_ (fun hd => ?_); (· try clear ff; first | assumption | omega); refine st_by (And.intro hd ff) ?_)
      | (with_reducible refine CBC_dec (fun hp hd => ?_) (fun hp hd => ?_) <;> refine st_by (And.intro hd ff) ?_)
      | (refine CBC_bool (fun hd => ?_) (fun hd => ?_) <;> refine st_by (And.intro hd ff) ?_)
      | (with_reducible refine GQ_eq (fun hp hd => ?_) (fun hp hd => ?_) <;> refine st_by (And.intro hd ff) ?_)
      | (with_reducible refine GQ_ne (fun hp hd => ?_) (fun hp hd => ?_) <;> refine st_by (And.intro hd ff) ?_)
      | (with_reducible refine GQ_decT ?_ (fun hd => ?_); (· try clear ff; first | assumption | omega); refine st_by (And.intro hd ff) ?_)
      | (with_reducible refine GQ_decF ?_ (fun hd => ?_); (· try clear ff; first | assumption | omega); refine st_by (And.intro hd ff) ?_)
      | (with_reducible refine GQ_dec (fun hp hd => ?_) (fun hp hd => ?_) <;> refine st_by (And.intro hd ff) ?_)
      | (with_reducible refine GQ_ndT ?_ (fun hd => ?_); (· try clear ff; first | assumption | omega); refine st_by (And.intro hd ff) ?_)
      | (with_reducible refine GQ_ndF ?_ (fun hd => ?_); (· try clear ff; first | assumption | omega); refine st_by (And.intro hd ff) ?_)
      | (with_reducible refine GQ_nd (fun hp hd => ?_) (fun hp hd => ?_) <;> refine st_by (And.intro hd ff) ?_)
      | (refine GQ_nb (fun hd => ?_) (fun hd => ?_) <;> refine st_by (And.intro hd ff) ?_)
      | (refine GQ_bool (fun hd => ?_) (fun hd => ?_) <;> refine st_by (And.intro hd ff) ?_)
      | ((try clear ff); refine ⟨k + 1, ⟨?_, good ?_, ?_⟩, ?_⟩; (· omega); (· by_cases hk0 : k = 0 <;> simp_all [gnB]); (· rw [w1 (by omega)]); (· omega)))
    all_goals try clear ff
end Go.Av
end
section
set_option linter.unusedSimpArgs false
set_option linter.unusedVariables false
set_option maxRecDepth 100000
set_option maxHeartbeats 1000000
namespace Go.Av
open Go.Proofs
/-! spec.l1Split -/
def p_spec_l1Split_j0 (s_a0 : ByteArray) (at_9 : Int) (i_10 : Int) (out_11 : List ByteArray) (rec_0 : Int → Int → (List ByteArray) → Option (Int × Int × (List ByteArray))) (b_23 : Bool) : Option (Int × Int × (List ByteArray)) := (if b_23 = true then ((bslc s_a0 at_9 i_10).bind fun m25 => (if out_11.length < 4294967296 then rec_0 (IntKind.i64.wrap (i_10 + 1)) (IntKind.i64.wrap (i_10 + 1)) (out_11 ++ [m25]) else none)) else rec_0 at_9 (IntKind.i64.wrap (i_10 + 1)) out_11)
def p_spec_l1Split_l0 (s_a0 : ByteArray) (b_a1 : Int) : Nat → Int → Int → (List ByteArray) → Option (Int × Int × (List ByteArray))
  | 0, _, _, _ => none
  | n_0 + 1, at_9, i_10, out_11 => (if i_10 ≤ (s_a0.size : Int) then (if i_10 = (s_a0.size : Int) then p_spec_l1Split_j0 s_a0 at_9 i_10 out_11 (p_spec_l1Split_l0 s_a0 b_a1 n_0) true else ((bidx s_a0 i_10).bind fun y30 => p_spec_l1Split_j0 s_a0 at_9 i_10 out_11 (p_spec_l1Split_l0 s_a0 b_a1 n_0) (y30 == b_a1))) else some (at_9, i_10, out_11))
theorem p_spec_l1Split_pv {F C A : Prop} (hF : F) (hC : C) (h : F → C → A := by intro hF hC; first | exact cl_by hF | (refine st_by hF ?_; (repeat' (first | exact trivial | apply And.intro)); all_goals (clear hF; first | rfl | (simp only [hC, List.length_append, List.length_cons, List.length_nil, List.append_nil, List.nil_append, List.cons_append, List.length_set, List.append_assoc, Nat.zero_add, List.length_replicate, esStr_app, esStr_cons, esStr_nil, eStr_eq]; done) | (simp [hC, List.length_append, List.length_cons, List.length_nil, List.append_nil, List.nil_append, List.cons_append, List.length_set, List.append_assoc, Nat.zero_add, List.length_replicate, esStr_app, esStr_cons, esStr_nil, eStr_eq]; done) | omega))) : A := h hF hC
theorem p_spec_l1Split_rt {F C A : Prop} (hF : F) (hC : C) (h : F → C → A := by intro hF hC; first | (refine sr_by hF ?_; (repeat' (first | exact trivial | apply And.intro)); all_goals (clear hF; first | rfl | (simp only [hC, List.length_append, List.length_cons, List.length_nil, List.append_nil, List.nil_append, List.cons_append, List.length_set, List.append_assoc, Nat.zero_add, List.length_replicate, esStr_app, esStr_cons, esStr_nil, eStr_eq]; done) | (simp [hC, List.length_append, List.length_cons, List.length_nil, List.append_nil, List.nil_append, List.cons_append, List.length_set, List.append_assoc, Nat.zero_add, List.length_replicate, esStr_app, esStr_cons, esStr_nil, eStr_eq]; done) | omega)) | (first | rfl | (simp only [hC, List.length_append, List.length_cons, List.length_nil, List.append_nil, List.nil_append, List.cons_append, List.length_set, List.append_assoc, Nat.zero_add, List.length_replicate, esStr_app, esStr_cons, esStr_nil, eStr_eq]; done) | (simp [hC, List.length_append, List.length_cons, List.length_nil, List.append_nil, List.nil_append, List.cons_append, List.length_set, List.append_assoc, Nat.zero_add, List.length_replicate, esStr_app, esStr_cons, esStr_nil, eStr_eq]; done) | omega)) : A := h hF hC
def p_spec_l1Split_tf := PLift.up (And.intro @eStr_eq (And.intro @esStr_len (And.intro @esStr_nil (And.intro @esStr_leaf (And.intro @esStr_fit (And.intro @esStr_share (And.intro @esStr_pure (And.intro @str_beq (And.intro @Ty.str9 (And.intro @Ty.nze52 (And.intro @Ty.sl52 (And.intro @Ty.slz52 (And.intro @Ty.zok52 (And.intro @Ty.by52 (And.intro @Ty.zs52 @trivial)))))))))))))))
def p_spec_l1Split (N : Nat) (s_a0 : ByteArray) (b_a1 : Int) : Option (List ByteArray) := ((p_spec_l1Split_l0 s_a0 b_a1 N 0 0 ([] : List ByteArray)).bind fun q_0 => match q_0 with | (at_9, i_10, out_11) => some out_11)
theorem p_spec_l1Split_does (N : Nat) (s_a0 : ByteArray) (b_a1 : Int) (r : List ByteArray) (h : p_spec_l1Split N s_a0 b_a1 = some r) : Does Tryd.prog 29 [S s_a0, .lit (.int .u8 b_a1)] (.row true 1 r.length (esStr r)) := by
  rw [p_spec_l1Split] at h
  refine Does.walk (nt := 35) Tryd.func29 rfl rfl (by simp) (by decide) rfl (fun G0 X w0 pv => ?_)
  obtain ⟨q_0, eq_0, h⟩ := Option.bind_eq_some_iff.1 h
  have ff := p_spec_l1Split_tf.down
  try refine st_by ff ?_
  repeat' (first | exact trivial | refine And.intro sd ?_)
  obtain ⟨I_0, hI_0⟩ : ∃ I_ : (Nat × Int × Int × (List ByteArray)) → ASt → Prop, I_ = (fun (a : Nat × Int × Int × (List ByteArray)) σ => match a with | (n_0, at_9, i_10, out_11) => (p_spec_l1Split_l0 s_a0 b_a1 n_0 at_9 i_10 out_11 = some q_0) ∧ σ.t 0 = S s_a0 ∧ σ.t 1 = .lit (.int .u8 b_a1) ∧ σ.t 5 = .sl 5 [] 0 out_11.length ∧ σ.t 6 = I at_9 ∧ σ.t 7 = I i_10 ∧ σ.m 5 = some (.row true 1 out_11.length (esStr out_11))) := ⟨_, rfl⟩
  obtain ⟨M_0, hM_0⟩ : ∃ M_ : (Nat × Int × Int × (List ByteArray)) → Nat, M_ = (fun (a : Nat × Int × Int × (List ByteArray)) => match a with | (n_0, at_9, i_10, out_11) => n_0) := ⟨_, rfl⟩
  obtain ⟨J_0, hJ_0⟩ : ∃ J_ : ASt → Prop, J_ = (fun σ => ∃ at_9 : Int, ∃ i_10 : Int, ∃ out_11 : List ByteArray, (some (at_9, i_10, out_11) = some q_0) ∧ σ.t 5 = .sl 5 [] 0 out_11.length ∧ σ.m 5 = some (.row true 1 out_11.length (esStr out_11))) := ⟨_, rfl⟩
  refine aw_loopC (id := 0) I_0 M_0 J_0 (N, 0, 0, ([] : List ByteArray)) ?_ ?_ ?_
  · rw [hI_0]
    refine ⟨eq_0, ?_⟩
    exact p_spec_l1Split_pv ff trivial
  · try clear ff
    rintro ⟨n_0, at_9, i_10, out_11⟩ σ hg_0
    rw [hI_0] at hg_0
    obtain ⟨h_0, g0_0, g1_0, g2_0, g3_0, g4_0, g5_0⟩ := hg_0
    cases n_0 with
    | zero => rw [p_spec_l1Split_l0] at h_0; cases h_0
    | succ n_0 =>
      rw [p_spec_l1Split_l0] at h_0
      by_cases c22 : i_10 ≤ (s_a0.size : Int)
      case neg =>
       rw [if_neg c22] at h_0
       have dc22 := decide_eq_false c22
       have ff := And.intro @g0_0 (And.intro @g1_0 (And.intro @g2_0 (And.intro @g3_0 (And.intro @g4_0 (And.intro @g5_0 (And.intro @dc22 p_spec_l1Split_tf.down))))))
       try refine st_by ff ?_
       repeat' (first | exact trivial | refine And.intro sd ?_)
       refine JW.intro ?_
       rw [hJ_0]
       refine ⟨at_9, i_10, out_11, h_0, ?_⟩
       exact p_spec_l1Split_pv ff trivial
      rw [if_pos c22] at h_0
      have dc22 := decide_eq_true c22
      have ff := And.intro @g0_0 (And.intro @g1_0 (And.intro @g2_0 (And.intro @g3_0 (And.intro @g4_0 (And.intro @g5_0 (And.intro @dc22 p_spec_l1Split_tf.down))))))
      try refine st_by ff ?_
      repeat' (first | exact trivial | refine And.intro sd ?_)
      try clear ff
      generalize hk_0 : thenK _ _ = kk_0
      have key_0 : ∀ σ, (∃ b_23 : Bool, (p_spec_l1Split_j0 s_a0 at_9 i_10 out_11 (p_spec_l1Split_l0 s_a0 b_a1 n_0) b_23 = some q_0) ∧ σ.t 0 = S s_a0 ∧ σ.t 1 = .lit (.int .u8 b_a1) ∧ σ.t 5 = .sl 5 [] 0 out_11.length ∧ σ.t 6 = I at_9 ∧ σ.t 7 = I i_10 ∧ σ.t 24 = B b_23 ∧ σ.m 5 = some (.row true 1 out_11.length (esStr out_11))) → kk_0 .nm σ := by
        rintro σ ⟨b_23, h_0, g0_j0, g1_j0, g2_j0, g3_j0, g4_j0, g5_j0, g6_j0⟩
        rw [← hk_0]
        rw [p_spec_l1Split_j0] at h_0
        by_cases c24 : b_23 = true
        case neg =>
         rw [if_neg c24] at h_0
         have dc24 := eq_false_of_ne_true c24
         have ff := And.intro @dc22 (And.intro @g0_j0 (And.intro @g1_j0 (And.intro @g2_j0 (And.intro @g3_j0 (And.intro @g4_j0 (And.intro @g5_j0 (And.intro @g6_j0 (And.intro @dc24 p_spec_l1Split_tf.down))))))))
         try refine st_by ff ?_
         repeat' (first | exact trivial | refine And.intro sd ?_)
         refine Back.intro (n_0, at_9, (IntKind.i64.wrap (i_10 + 1)), out_11) ?_ ?_
         · rw [hM_0]; exact Nat.lt_succ_self _
         rw [hI_0]
         refine ⟨h_0, ?_⟩
         exact p_spec_l1Split_pv ff trivial
        rw [if_pos c24] at h_0
        have dc24 := c24
        obtain ⟨m25, em25, h_0⟩ := Option.bind_eq_some_iff.1 h_0
        try dsimp only at h_0
        obtain ⟨f26a, f26b⟩ := bslc_ok em25
        have f26c : s_a0.extract at_9.toNat i_10.toNat = m25 := f26b
        by_cases c27 : out_11.length < 4294967296
        case neg => rw [if_neg c27] at h_0; cases h_0
        rw [if_pos c27] at h_0
        have a28a : esStr out_11 ++ [S m25] = esStr (out_11 ++ [m25]) := by simp [esStr_app, esStr_cons, esStr_nil, eStr_eq, esStr_nil]
        have a28b : out_11.length + 1 = (out_11 ++ [m25]).length := by simp
        have ff := And.intro @dc22 (And.intro @g0_j0 (And.intro @g1_j0 (And.intro @g2_j0 (And.intro @g3_j0 (And.intro @g4_j0 (And.intro @g5_j0 (And.intro @g6_j0 (And.intro @dc24 (And.intro @f26c (And.intro @a28a (And.intro @a28b p_spec_l1Split_tf.down)))))))))))
        try refine st_by ff ?_
        repeat' (first | exact trivial | refine And.intro sd ?_)
        refine Back.intro (n_0, (IntKind.i64.wrap (i_10 + 1)), (IntKind.i64.wrap (i_10 + 1)), (out_11 ++ [m25])) ?_ ?_
        · rw [hM_0]; exact Nat.lt_succ_self _
        rw [hI_0]
        refine ⟨h_0, ?_⟩
        exact p_spec_l1Split_pv ff trivial
      have hrt_0 := fun σ : ASt => congrFun (congrFun hk_0.symm AX.rt) σ
      have hex_0 := fun (i : Nat) (σ : ASt) => congrFun (congrFun hk_0.symm (AX.ex i)) σ
      by_cases c29 : i_10 = (s_a0.size : Int)
      · rw [if_pos c29] at h_0
        have dc29 := beq_yes c29
        have ff := And.intro @g0_0 (And.intro @g1_0 (And.intro @g2_0 (And.intro @g3_0 (And.intro @g4_0 (And.intro @g5_0 (And.intro @dc22 (And.intro @hrt_0 (And.intro @hex_0 (And.intro @dc29 p_spec_l1Split_tf.down)))))))))
        try refine st_by ff ?_
        repeat' (first | exact trivial | refine And.intro sd ?_)
        refine key_0 _ ?_
        refine ⟨true, h_0, ?_⟩
        exact p_spec_l1Split_pv ff trivial
      rw [if_neg c29] at h_0
      have dc29 := beq_no c29
      obtain ⟨y30, ey30, h_0⟩ := Option.bind_eq_some_iff.1 h_0
      try dsimp only at h_0
      have f31a := (bidx_ok ey30).1
      have f31b := (bidx_ok ey30).2
      have ff := And.intro @g0_0 (And.intro @g1_0 (And.intro @g2_0 (And.intro @g3_0 (And.intro @g4_0 (And.intro @g5_0 (And.intro @dc22 (And.intro @hrt_0 (And.intro @hex_0 (And.intro @dc29 (And.intro @f31a (And.intro @f31b p_spec_l1Split_tf.down)))))))))))
      try refine st_by ff ?_
      repeat' (first | exact trivial | refine And.intro sd ?_)
      refine key_0 _ ?_
      refine ⟨(y30 == b_a1), h_0, ?_⟩
      exact p_spec_l1Split_pv ff trivial
  · try clear ff
    rintro σ hg_0
    rw [hJ_0] at hg_0
    obtain ⟨at_9, i_10, out_11, hj_0, g0_0a, g1_0a⟩ := hg_0
    cases hj_0
    try dsimp only at h
    have ff := And.intro @g0_0a (And.intro @g1_0a p_spec_l1Split_tf.down)
    try refine st_by ff ?_
    repeat' (first | exact trivial | refine And.intro sd ?_)
    cases h
    exact ret_q1 rfl (p_spec_l1Split_rt ff trivial)
/-! spec.l26Path -/
def p_spec_l26Path_l0 : List ByteArray → Nat → Option (LR (Bool) (Unit))
  | [], i_0 => some (.out ())
  | x_0 :: r_0, i_0 => (if x_0.size ≤ 9223372036854775807 then (if (goodName x_0) = true then p_spec_l26Path_l0 r_0 (i_0 + 1) else some (.ret false)) else none)
theorem p_spec_l26Path_sa {F C A : Prop} (hF : F) (hC : C) (h : F → C → A := by intro hF hC; first | exact ca_by hF | (refine sa_by hF ?_; (repeat' (first | exact trivial | apply And.intro)); all_goals (clear hF; first | rfl | (simp only [hC, List.length_append, List.length_cons, List.length_nil, List.append_nil, List.nil_append, List.cons_append, List.length_set, List.append_assoc, Nat.zero_add, List.length_replicate, esStr_app, esStr_cons, esStr_nil, eStr_eq]; done) | (simp [hC, List.length_append, List.length_cons, List.length_nil, List.append_nil, List.nil_append, List.cons_append, List.length_set, List.append_assoc, Nat.zero_add, List.length_replicate, esStr_app, esStr_cons, esStr_nil, eStr_eq]; done) | omega))) : A := h hF hC
def p_spec_l26Path_tf := PLift.up (And.intro @eStr_eq (And.intro @esStr_len (And.intro @esStr_nil (And.intro @esStr_leaf (And.intro @esStr_fit (And.intro @esStr_share (And.intro @esStr_pure (And.intro @str_beq (And.intro @Ty.sl52 (And.intro @Ty.slz52 (And.intro @Ty.nz9 (And.intro @Ty.ldA9 (And.intro @Ty.ldS9 (And.intro @Ty.sz9 (And.intro @Ty.szn9 @trivial)))))))))))))))
def p_spec_l26Path (N : Nat) (s_a0 : ByteArray) : Option (Bool) := ((p_spec_l1Split N s_a0 47).bind fun v1 => ((p_spec_l26Path_l0 v1 0).bind fun q_0 => match q_0 with | .ret r_ => some r_ | .out _ => some (decide ((v1.length : Int) ≤ 5))))
theorem p_spec_l26Path_does (N : Nat) (s_a0 : ByteArray) (r : Bool) (h : p_spec_l26Path N s_a0 = some r) : Does Tryd.prog 16 [S s_a0] (B r) := by
  rw [p_spec_l26Path] at h
  refine Does.walk (nt := 21) Tryd.func16 rfl rfl (by simp) (by decide) rfl (fun G0 X w0 pv => ?_)
  obtain ⟨v1, ev1, h⟩ := Option.bind_eq_some_iff.1 h
  try dsimp only at h
  have ff := p_spec_l26Path_tf.down
  try refine st_by ff ?_
  repeat' (first | exact trivial | refine And.intro sd ?_)
  first
  | (refine cq_own (p_spec_l1Split_does N s_a0 47 v1 ev1) (hf_by ff) kr ⟨p_spec_l26Path_sa ff trivial, ?_⟩; clear ff)
  obtain ⟨q_0, eq_0, h⟩ := Option.bind_eq_some_iff.1 h
  have ff := p_spec_l26Path_tf.down
  try refine st_by ff ?_
  repeat' (first | exact trivial | refine And.intro sd ?_)
  refine aw_bnd (r := 3) (p := []) (sz := 1) (n := v1.length) (cs := esStr v1) (p_spec_l1Split_pv ff trivial) (fun hL_0 => ?_)
  obtain ⟨I_0, hI_0⟩ : ∃ I_ : (Nat) → ASt → Prop, I_ = (fun (i_0 : Nat) σ => (i_0 ≤ v1.length ∧ p_spec_l26Path_l0 (v1.drop i_0) i_0 = some q_0) ∧ σ.t 3 = .sl 3 [] 0 v1.length ∧ σ.t 8 = .sl 3 [] 0 v1.length ∧ σ.t 9 = I (v1.length : Int) ∧ σ.t 10 = I (i_0 : Int) ∧ σ.m 3 = some (.row true 1 v1.length (esStr v1))) := ⟨_, rfl⟩
  obtain ⟨M_0, hM_0⟩ : ∃ M_ : (Nat) → Nat, M_ = (fun (i_0 : Nat) => v1.length - i_0) := ⟨_, rfl⟩
  obtain ⟨J_0, hJ_0⟩ : ∃ J_ : ASt → Prop, J_ = (fun σ => (some (.out ()) = some q_0) ∧ σ.t 3 = .sl 3 [] 0 v1.length ∧ σ.m 3 = some (.row true 1 v1.length (esStr v1))) := ⟨_, rfl⟩
  refine aw_loopC (id := 0) I_0 M_0 J_0 (0) ?_ ?_ ?_
  · rw [hI_0]
    refine ⟨⟨Nat.zero_le _, eq_0⟩, ?_⟩
    exact p_spec_l1Split_pv ff trivial
  · try clear ff
    rintro i_0 σ hg_0
    rw [hI_0] at hg_0
    obtain ⟨⟨hi_0, h_0⟩, g0_0, g1_0, g2_0, g3_0, g4_0⟩ := hg_0
    cases hr_0 : v1.drop i_0 with
    | nil =>
      rw [hr_0] at h_0
      rw [p_spec_l26Path_l0] at h_0
      have hn_0 := drop_nil hr_0
      have dr_0 : decide ((i_0 : Int) < (v1.length : Int)) = false := decide_eq_false (by omega)
      have ff := And.intro @dr_0 (And.intro @g0_0 (And.intro @g1_0 (And.intro @g2_0 (And.intro @g3_0 (And.intro @g4_0 p_spec_l26Path_tf.down)))))
      try refine st_by ff ?_
      repeat' (first | exact trivial | refine And.intro sd ?_)
      refine JW.intro ?_
      rw [hJ_0]
      refine ⟨h_0, ?_⟩
      exact p_spec_l1Split_pv ff trivial
    | cons x_0 r_0 =>
      rw [hr_0] at h_0
      rw [p_spec_l26Path_l0] at h_0
      obtain ⟨ht_0, hg_0, hd_0⟩ := drop_cons hr_0
      have dr_0 : decide ((i_0 : Int) < (v1.length : Int)) = true := decide_eq_true (by omega)
      have w_0 : IntKind.i64.wrap ((i_0 : Int) + 1) = ((i_0 + 1 : Nat) : Int) := wI _ (by omega) (by omega)
      have kk0c : (esStr v1).drop (i_0 * 1) = eStr x_0 ++ esStr (v1.drop (i_0 + 1)) := drop_enc (fun _ => rfl) (hg_0)
      have kk0d := kk0c
      rw [Nat.mul_one] at kk0d
      have kk0g0 : (esStr v1).getD (i_0 * 1) .junk = (eStr x_0).getD 0 .junk := getD_enc0 (enc := eStr) (sz := 1) (fun _ => rfl) (hg_0) (by decide)
      rw [Nat.mul_one] at kk0g0
      by_cases c13 : x_0.size ≤ 9223372036854775807
      case neg => rw [if_neg c13] at h_0; cases h_0
      rw [if_pos c13] at h_0
      have ff := And.intro @dr_0 (And.intro @w_0 (And.intro @g0_0 (And.intro @g1_0 (And.intro @g2_0 (And.intro @g3_0 (And.intro @g4_0 (And.intro @kk0c (And.intro @kk0d (And.intro @kk0g0 p_spec_l26Path_tf.down)))))))))
      try refine st_by ff ?_
      repeat' (first | exact trivial | refine And.intro sd ?_)
      first
      | (refine cq_call (specGoodName_does x_0 (by first | assumption | omega)) (hf_by ff) kr ⟨p_spec_l26Path_sa ff trivial, ?_⟩; clear ff)
      by_cases c14 : (goodName x_0) = true
      case neg =>
       rw [if_neg c14] at h_0
       have dc14 := eq_false_of_ne_true c14
       cases h_0
       try dsimp only at h
       have ff := And.intro @dr_0 (And.intro @w_0 (And.intro @g0_0 (And.intro @g1_0 (And.intro @g2_0 (And.intro @g3_0 (And.intro @g4_0 (And.intro @kk0c (And.intro @kk0d (And.intro @kk0g0 (And.intro @dc14 p_spec_l26Path_tf.down))))))))))
       try refine st_by ff ?_
       repeat' (first | exact trivial | refine And.intro sd ?_)
       cases h
       exact ret_q1 rfl (p_spec_l1Split_rt ff trivial)
      rw [if_pos c14] at h_0
      have dc14 := c14
      have ff := And.intro @dr_0 (And.intro @w_0 (And.intro @g0_0 (And.intro @g1_0 (And.intro @g2_0 (And.intro @g3_0 (And.intro @g4_0 (And.intro @kk0c (And.intro @kk0d (And.intro @kk0g0 (And.intro @dc14 p_spec_l26Path_tf.down))))))))))
      try refine st_by ff ?_
      repeat' (first | exact trivial | refine And.intro sd ?_)
      refine Back.intro (i_0 + 1) ?_ ?_
      · clear ff; rw [hM_0]; show v1.length - (i_0 + 1) < v1.length - i_0; omega
      rw [hI_0]
      refine ⟨⟨by clear ff; show i_0 + 1 ≤ v1.length; omega, by show p_spec_l26Path_l0 (v1.drop (i_0 + 1)) (i_0 + 1) = some q_0; rw [hd_0]; exact h_0⟩, ?_⟩
      exact p_spec_l1Split_pv ff trivial
  · try clear ff
    rintro σ hg_0
    rw [hJ_0] at hg_0
    obtain ⟨hj_0, g0_0a, g1_0a⟩ := hg_0
    cases hj_0
    try dsimp only at h
    have ff := And.intro @g0_0a (And.intro @g1_0a p_spec_l26Path_tf.down)
    try refine st_by ff ?_
    repeat' (first | exact trivial | refine And.intro sd ?_)
    cases h
    exact ret_q1 rfl (p_spec_l1Split_rt ff trivial)
/-! spec.l26Value -/
theorem p_spec_l26Value_sa {F C A : Prop} (hF : F) (hC : C) (h : F → C → A := by intro hF hC; first | exact ca_by hF | (refine sa_by hF ?_; (repeat' (first | exact trivial | apply And.intro)); all_goals (clear hF; first | rfl | (simp only [hC, List.length_append, List.length_cons, List.length_nil, List.append_nil, List.nil_append, List.cons_append, List.length_set, List.append_assoc, Nat.zero_add, List.length_replicate]; done) | (simp [hC, List.length_append, List.length_cons, List.length_nil, List.append_nil, List.nil_append, List.cons_append, List.length_set, List.append_assoc, Nat.zero_add, List.length_replicate]; done) | omega))) : A := h hF hC
theorem p_spec_l26Value_rt {F C A : Prop} (hF : F) (hC : C) (h : F → C → A := by intro hF hC; first | (refine sr_by hF ?_; (repeat' (first | exact trivial | apply And.intro)); all_goals (clear hF; first | rfl | (simp only [hC, List.length_append, List.length_cons, List.length_nil, List.append_nil, List.nil_append, List.cons_append, List.length_set, List.append_assoc, Nat.zero_add, List.length_replicate]; done) | (simp [hC, List.length_append, List.length_cons, List.length_nil, List.append_nil, List.nil_append, List.cons_append, List.length_set, List.append_assoc, Nat.zero_add, List.length_replicate]; done) | omega)) | (first | rfl | (simp only [hC, List.length_append, List.length_cons, List.length_nil, List.append_nil, List.nil_append, List.cons_append, List.length_set, List.append_assoc, Nat.zero_add, List.length_replicate]; done) | (simp [hC, List.length_append, List.length_cons, List.length_nil, List.append_nil, List.nil_append, List.cons_append, List.length_set, List.append_assoc, Nat.zero_add, List.length_replicate]; done) | omega)) : A := h hF hC
def p_spec_l26Value_tf := PLift.up (And.intro @str_beq (And.intro @Ty.str9 @trivial))
def p_spec_l26Value (s_a0 : ByteArray) : Option (Bool) := some (rng (s_a0.size : Int) 1 40)
theorem p_spec_l26Value_does (s_a0 : ByteArray) (r : Bool) (h : p_spec_l26Value s_a0 = some r) : Does Tryd.prog 17 [S s_a0] (B r) := by
  rw [p_spec_l26Value] at h
  refine Does.walk (nt := 6) Tryd.func17 rfl rfl (by simp) (by decide) rfl (fun G0 X w0 pv => ?_)
  have ff := p_spec_l26Value_tf.down
  try refine st_by ff ?_
  repeat' (first | exact trivial | refine And.intro sd ?_)
  first
  | (refine cq_call (l1In_does (s_a0.size : Int) 1 40) (hf_by ff) kr ⟨p_spec_l26Value_sa ff trivial, ?_⟩; clear ff)
  have ff := p_spec_l26Value_tf.down
  try refine st_by ff ?_
  repeat' (first | exact trivial | refine And.intro sd ?_)
  cases h
  exact ret_q1 rfl (p_spec_l26Value_rt ff trivial)
/-! spec.GoodProps -/
def p_spec_GoodProps_l0 (N : Nat) (l_a0 : List GProp) : List GProp → Nat → Option (LR (Bool) (Unit))
  | [], i_0 => some (.out ())
  | x_0 :: r_0, i_0 => ((p_spec_l26Path N x_0.Path).bind fun v25 => (if v25 = true then ((p_spec_l26Value x_0.Value).bind fun v27 => (if v27 = true then (if (i_0 : Int) > 0 then ((idx l_a0 (IntKind.i64.wrap ((i_0 : Int) - 1))).bind fun x30 => (if (Op.bytesLess x30.Path.toList x_0.Path.toList) = true then p_spec_GoodProps_l0 N l_a0 r_0 (i_0 + 1) else some (.ret false))) else p_spec_GoodProps_l0 N l_a0 r_0 (i_0 + 1)) else some (.ret false))) else some (.ret false)))
theorem p_spec_GoodProps_pv {F C A : Prop} (hF : F) (hC : C) (h : F → C → A := by intro hF hC; first | exact cl_by hF | (refine st_by hF ?_; (repeat' (first | exact trivial | apply And.intro)); all_goals (clear hF; first | rfl | (simp only [hC, List.length_append, List.length_cons, List.length_nil, List.append_nil, List.nil_append, List.cons_append, List.length_set, List.append_assoc, Nat.zero_add, List.length_replicate, esProp_app, esProp_cons, esProp_nil, eProp_eq]; done) | (simp [hC, List.length_append, List.length_cons, List.length_nil, List.append_nil, List.nil_append, List.cons_append, List.length_set, List.append_assoc, Nat.zero_add, List.length_replicate, esProp_app, esProp_cons, esProp_nil, eProp_eq]; done) | omega))) : A := h hF hC
theorem p_spec_GoodProps_sa {F C A : Prop} (hF : F) (hC : C) (h : F → C → A := by intro hF hC; first | exact ca_by hF | (refine sa_by hF ?_; (repeat' (first | exact trivial | apply And.intro)); all_goals (clear hF; first | rfl | (simp only [hC, List.length_append, List.length_cons, List.length_nil, List.append_nil, List.nil_append, List.cons_append, List.length_set, List.append_assoc, Nat.zero_add, List.length_replicate, esProp_app, esProp_cons, esProp_nil, eProp_eq]; done) | (simp [hC, List.length_append, List.length_cons, List.length_nil, List.append_nil, List.nil_append, List.cons_append, List.length_set, List.append_assoc, Nat.zero_add, List.length_replicate, esProp_app, esProp_cons, esProp_nil, eProp_eq]; done) | omega))) : A := h hF hC
theorem p_spec_GoodProps_rt {F C A : Prop} (hF : F) (hC : C) (h : F → C → A := by intro hF hC; first | (refine sr_by hF ?_; (repeat' (first | exact trivial | apply And.intro)); all_goals (clear hF; first | rfl | (simp only [hC, List.length_append, List.length_cons, List.length_nil, List.append_nil, List.nil_append, List.cons_append, List.length_set, List.append_assoc, Nat.zero_add, List.length_replicate, esProp_app, esProp_cons, esProp_nil, eProp_eq]; done) | (simp [hC, List.length_append, List.length_cons, List.length_nil, List.append_nil, List.nil_append, List.cons_append, List.length_set, List.append_assoc, Nat.zero_add, List.length_replicate, esProp_app, esProp_cons, esProp_nil, eProp_eq]; done) | omega)) | (first | rfl | (simp only [hC, List.length_append, List.length_cons, List.length_nil, List.append_nil, List.nil_append, List.cons_append, List.length_set, List.append_assoc, Nat.zero_add, List.length_replicate, esProp_app, esProp_cons, esProp_nil, eProp_eq]; done) | (simp [hC, List.length_append, List.length_cons, List.length_nil, List.append_nil, List.nil_append, List.cons_append, List.length_set, List.append_assoc, Nat.zero_add, List.length_replicate, esProp_app, esProp_cons, esProp_nil, eProp_eq]; done) | omega)) : A := h hF hC
def p_spec_GoodProps_tf := PLift.up (And.intro @eProp_eq (And.intro @esProp_len (And.intro @esProp_nil (And.intro @esProp_leaf (And.intro @esProp_fit (And.intro @esProp_share (And.intro @esProp_pure (And.intro @str_beq (And.intro @Ty.sl25 (And.intro @Ty.slz25 (And.intro @Ty.nz39 (And.intro @Ty.ldA39 (And.intro @Ty.sz39 (And.intro @Ty.szn39 (And.intro @Ty.nz9 (And.intro @Ty.ldA9 (And.intro @Ty.ldS9 (And.intro @Ty.sz9 (And.intro @Ty.szn9 (And.intro @Ty.fo39_0 (And.intro @Ty.fk39_0 (And.intro @Ty.fs39_0 (And.intro @Ty.fn39_0 (And.intro @Ty.fo39_1 (And.intro @Ty.fk39_1 (And.intro @Ty.fs39_1 (And.intro @Ty.fn39_1 (And.intro @Ty.zv39 @trivial))))))))))))))))))))))))))))
def p_spec_GoodProps (N : Nat) (l_a0 : List GProp) : Option (Bool) := (if (l_a0.length : Int) > 40 then some false else ((p_spec_GoodProps_l0 N l_a0 l_a0 0).bind fun q_0 => match q_0 with | .ret r_ => some r_ | .out _ => some true))
theorem p_spec_GoodProps_does (N : Nat) (l_a0 : List GProp) (r : Bool) (h : p_spec_GoodProps N l_a0 = some r) : Does Tryd.prog 6 [.row false 2 l_a0.length (esProp l_a0)] (B r) := by
  rw [p_spec_GoodProps] at h
  refine Does.bnd (fun hb => ?_)
  have hb2 : l_a0.length ≤ 9223372036854775807 := by simpa [AV.fitNs, AV.fitN] using hb
  have hl0 := hb2
  refine Does.walk (nt := 41) Tryd.func6 rfl rfl (by simp) (by decide) rfl (fun G0 X w0 pv => ?_)
  by_cases c1 : (l_a0.length : Int) > 40
  · rw [if_pos c1] at h
    have dc1 := decide_eq_true c1
    have ff := And.intro @dc1 p_spec_GoodProps_tf.down
    try refine st_by ff ?_
    repeat' (first | exact trivial | refine And.intro sd ?_)
    cases h
    exact ret_q1 rfl (p_spec_GoodProps_rt ff trivial)
  rw [if_neg c1] at h
  have dc1 := decide_eq_false c1
  have hL_0 : l_a0.length ≤ 9223372036854775807 := by first | assumption | omega
  obtain ⟨q_0, eq_0, h⟩ := Option.bind_eq_some_iff.1 h
  have ff := And.intro @dc1 p_spec_GoodProps_tf.down
  try refine st_by ff ?_
  repeat' (first | exact trivial | refine And.intro sd ?_)
  obtain ⟨I_0, hI_0⟩ : ∃ I_ : (Nat) → ASt → Prop, I_ = (fun (i_0 : Nat) σ => (i_0 ≤ l_a0.length ∧ p_spec_GoodProps_l0 N l_a0 (l_a0.drop i_0) i_0 = some q_0) ∧ σ.t 0 = .row false 2 l_a0.length (esProp l_a0) ∧ σ.t 8 = .row false 2 l_a0.length (esProp l_a0) ∧ σ.t 9 = I (l_a0.length : Int) ∧ σ.t 10 = I (i_0 : Int)) := ⟨_, rfl⟩
  obtain ⟨M_0, hM_0⟩ : ∃ M_ : (Nat) → Nat, M_ = (fun (i_0 : Nat) => l_a0.length - i_0) := ⟨_, rfl⟩
  obtain ⟨J_0, hJ_0⟩ : ∃ J_ : ASt → Prop, J_ = (fun σ => (some (.out ()) = some q_0) ∧ True) := ⟨_, rfl⟩
  refine aw_loopC (id := 0) I_0 M_0 J_0 (0) ?_ ?_ ?_
  · rw [hI_0]
    refine ⟨⟨Nat.zero_le _, eq_0⟩, ?_⟩
    exact p_spec_GoodProps_pv ff trivial
  · try clear ff
    rintro i_0 σ hg_0
    rw [hI_0] at hg_0
    obtain ⟨⟨hi_0, h_0⟩, g0_0, g1_0, g2_0, g3_0⟩ := hg_0
    cases hr_0 : l_a0.drop i_0 with
    | nil =>
      rw [hr_0] at h_0
      rw [p_spec_GoodProps_l0] at h_0
      have hn_0 := drop_nil hr_0
      have dr_0 : decide ((i_0 : Int) < (l_a0.length : Int)) = false := decide_eq_false (by omega)
      have ff := And.intro @dc1 (And.intro @dr_0 (And.intro @g0_0 (And.intro @g1_0 (And.intro @g2_0 (And.intro @g3_0 p_spec_GoodProps_tf.down)))))
      try refine st_by ff ?_
      repeat' (first | exact trivial | refine And.intro sd ?_)
      refine JW.intro ?_
      rw [hJ_0]
      refine ⟨h_0, ?_⟩
      exact p_spec_GoodProps_pv ff trivial
    | cons x_0 r_0 =>
      rw [hr_0] at h_0
      rw [p_spec_GoodProps_l0] at h_0
      obtain ⟨ht_0, hg_0, hd_0⟩ := drop_cons hr_0
      have dr_0 : decide ((i_0 : Int) < (l_a0.length : Int)) = true := decide_eq_true (by omega)
      have w_0 : IntKind.i64.wrap ((i_0 : Int) + 1) = ((i_0 + 1 : Nat) : Int) := wI _ (by omega) (by omega)
      have kk0c : (esProp l_a0).drop (i_0 * 2) = eProp x_0 ++ esProp (l_a0.drop (i_0 + 1)) := drop_enc (fun _ => rfl) (hg_0)
      obtain ⟨v25, ev25, h_0⟩ := Option.bind_eq_some_iff.1 h_0
      try dsimp only at h_0
      have ff := And.intro @dc1 (And.intro @dr_0 (And.intro @w_0 (And.intro @g0_0 (And.intro @g1_0 (And.intro @g2_0 (And.intro @g3_0 (And.intro @kk0c p_spec_GoodProps_tf.down)))))))
      try refine st_by ff ?_
      repeat' (first | exact trivial | refine And.intro sd ?_ | (refine aw_drawn (id := 6) ?_ [[], [0], [0, 1], [0, 1, 2], [0, 1, 2, 3], [0, 1, 2, 3, 4], [0, 1, 2, 3, 4, 5], [0, 1, 2, 3, 4, 5, 6], [0, 1, 2, 3, 4, 5, 6, 7], [0, 1, 2, 3, 4, 5, 6, 7, 8], [0, 1, 2, 3, 4, 5, 6, 7, 8, 9], [0, 1, 2, 3, 4, 5, 6, 7, 8, 9, 10], [0, 1, 2, 3, 4, 5, 6, 7, 8, 9, 10, 11], [0, 1, 2, 3, 4, 5, 6, 7, 8, 9, 10, 11, 12], [0, 1, 2, 3, 4, 5, 6, 7, 8, 9, 10, 11, 12, 13], [0, 1, 2, 3, 4, 5, 6, 7, 8, 9, 10, 11, 12, 13], [0, 1, 2, 3, 4, 5, 6, 7, 8, 9, 10, 11, 12, 13, 15], [0, 1, 2, 3, 4, 5, 6, 7, 8, 9, 10, 11, 12, 13, 14, 15, 16], [0, 1, 2, 3, 4, 5, 6, 7, 8, 9, 10, 11, 12, 13, 14, 15, 16, 17], [0, 1, 2, 3, 4, 5, 6, 7, 8, 9, 10, 11, 12, 13, 14, 15, 16, 17, 18], [0, 1, 2, 3, 4, 5, 6, 7, 8, 9, 10, 11, 12, 13], [0, 1, 2, 3, 4, 5, 6, 7, 8, 9, 10, 11, 12, 13, 20], [0, 1, 2, 3, 4, 5, 6, 7, 8, 9, 10, 11, 12, 13, 14, 15, 16, 17, 18, 19, 20, 21], [0, 1, 2, 3, 4, 5, 6, 7, 8, 9, 10, 11, 12, 13, 14, 15, 16, 17, 18, 19, 20, 21, 22], [0, 1, 2, 3, 4, 5, 6, 7, 8, 9, 10, 11, 12, 13, 14, 15, 16, 17, 18, 19, 20, 21, 22, 23]] 22 ?_ ?_; (· kernel_rfl); (· kernel_rfl); refine st_by ff ?_))
      first
      | (refine cq_call (p_spec_l26Path_does N x_0.Path v25 ev25) (hf_by ff) kr ⟨p_spec_GoodProps_sa ff trivial, ?_⟩; clear ff)
      | (refine cq_dcall (p_spec_l26Path_does N x_0.Path v25 ev25) (hf_by ff) kr ⟨p_spec_GoodProps_sa ff trivial, ?_⟩; clear ff)
      by_cases c26 : v25 = true
      case neg =>
       rw [if_neg c26] at h_0
       have dc26 := eq_false_of_ne_true c26
       cases h_0
       try dsimp only at h
       have ff := And.intro @dc1 (And.intro @dr_0 (And.intro @w_0 (And.intro @g0_0 (And.intro @g1_0 (And.intro @g2_0 (And.intro @g3_0 (And.intro @kk0c (And.intro @dc26 p_spec_GoodProps_tf.down))))))))
       try refine st_by ff ?_
       repeat' (first | exact trivial | refine And.intro sd ?_)
       cases h
       exact ret_q1 rfl (p_spec_GoodProps_rt ff trivial)
      rw [if_pos c26] at h_0
      have dc26 := c26
      obtain ⟨v27, ev27, h_0⟩ := Option.bind_eq_some_iff.1 h_0
      try dsimp only at h_0
      have ff := And.intro @dc1 (And.intro @dr_0 (And.intro @w_0 (And.intro @g0_0 (And.intro @g1_0 (And.intro @g2_0 (And.intro @g3_0 (And.intro @kk0c (And.intro @dc26 p_spec_GoodProps_tf.down))))))))
      try refine st_by ff ?_
      repeat' (first | exact trivial | refine And.intro sd ?_)
      first
      | (refine cq_call (p_spec_l26Value_does x_0.Value v27 ev27) (hf_by ff) kr ⟨p_spec_GoodProps_sa ff trivial, ?_⟩; clear ff)
      | (refine cq_dcall (p_spec_l26Value_does x_0.Value v27 ev27) (hf_by ff) kr ⟨p_spec_GoodProps_sa ff trivial, ?_⟩; clear ff)
      by_cases c28 : v27 = true
      case neg =>
       rw [if_neg c28] at h_0
       have dc28 := eq_false_of_ne_true c28
       cases h_0
       try dsimp only at h
       have ff := And.intro @dc1 (And.intro @dr_0 (And.intro @w_0 (And.intro @g0_0 (And.intro @g1_0 (And.intro @g2_0 (And.intro @g3_0 (And.intro @kk0c (And.intro @dc26 (And.intro @dc28 p_spec_GoodProps_tf.down)))))))))
       try refine st_by ff ?_
       repeat' (first | exact trivial | refine And.intro sd ?_)
       cases h
       exact ret_q1 rfl (p_spec_GoodProps_rt ff trivial)
      rw [if_pos c28] at h_0
      have dc28 := c28
      by_cases c29 : (i_0 : Int) > 0
      case neg =>
       rw [if_neg c29] at h_0
       have dc29 := decide_eq_false c29
       have ff := And.intro @dc1 (And.intro @dr_0 (And.intro @w_0 (And.intro @g0_0 (And.intro @g1_0 (And.intro @g2_0 (And.intro @g3_0 (And.intro @kk0c (And.intro @dc26 (And.intro @dc28 (And.intro @dc29 p_spec_GoodProps_tf.down))))))))))
       try refine st_by ff ?_
       repeat' (first | exact trivial | refine And.intro sd ?_)
       refine Back.intro (i_0 + 1) ?_ ?_
       · clear ff; rw [hM_0]; show l_a0.length - (i_0 + 1) < l_a0.length - i_0; omega
       rw [hI_0]
       refine ⟨⟨by clear ff; show i_0 + 1 ≤ l_a0.length; omega, by show p_spec_GoodProps_l0 N l_a0 (l_a0.drop (i_0 + 1)) (i_0 + 1) = some q_0; rw [hd_0]; exact h_0⟩, ?_⟩
       exact p_spec_GoodProps_pv ff trivial
      rw [if_pos c29] at h_0
      have dc29 := decide_eq_true c29
      obtain ⟨x30, ex30, h_0⟩ := Option.bind_eq_some_iff.1 h_0
      try dsimp only at h_0
      have f31a := idx_lo ex30
      have f31b := idx_hi ex30
      have f31c : (esProp l_a0).drop (((IntKind.i64.wrap ((i_0 : Int) - 1)).toNat) * 2) = eProp x30 ++ esProp (l_a0.drop ((IntKind.i64.wrap ((i_0 : Int) - 1)).toNat + 1)) := drop_enc (fun _ => rfl) (idx_get ex30)
      by_cases c32 : (Op.bytesLess x30.Path.toList x_0.Path.toList) = true
      case neg =>
       rw [if_neg c32] at h_0
       have dc32 := eq_false_of_ne_true c32
       cases h_0
       try dsimp only at h
       have ff := And.intro @dc1 (And.intro @dr_0 (And.intro @w_0 (And.intro @g0_0 (And.intro @g1_0 (And.intro @g2_0 (And.intro @g3_0 (And.intro @kk0c (And.intro @dc26 (And.intro @dc28 (And.intro @dc29 (And.intro @f31c (And.intro @dc32 p_spec_GoodProps_tf.down))))))))))))
       try refine st_by ff ?_
       repeat' (first | exact trivial | refine And.intro sd ?_)
       cases h
       exact ret_q1 rfl (p_spec_GoodProps_rt ff trivial)
      rw [if_pos c32] at h_0
      have dc32 := c32
      have ff := And.intro @dc1 (And.intro @dr_0 (And.intro @w_0 (And.intro @g0_0 (And.intro @g1_0 (And.intro @g2_0 (And.intro @g3_0 (And.intro @kk0c (And.intro @dc26 (And.intro @dc28 (And.intro @dc29 (And.intro @f31c (And.intro @dc32 p_spec_GoodProps_tf.down))))))))))))
      try refine st_by ff ?_
      repeat' (first | exact trivial | refine And.intro sd ?_)
      refine Back.intro (i_0 + 1) ?_ ?_
      · clear ff; rw [hM_0]; show l_a0.length - (i_0 + 1) < l_a0.length - i_0; omega
      rw [hI_0]
      refine ⟨⟨by clear ff; show i_0 + 1 ≤ l_a0.length; omega, by show p_spec_GoodProps_l0 N l_a0 (l_a0.drop (i_0 + 1)) (i_0 + 1) = some q_0; rw [hd_0]; exact h_0⟩, ?_⟩
      exact p_spec_GoodProps_pv ff trivial
  · try clear ff
    rintro σ hg_0
    rw [hJ_0] at hg_0
    obtain ⟨hj_0, _⟩ := hg_0
    cases hj_0
    try dsimp only at h
    have ff := And.intro @dc1 p_spec_GoodProps_tf.down
    try refine st_by ff ?_
    repeat' (first | exact trivial | refine And.intro sd ?_)
    cases h
    exact ret_q1 rfl (p_spec_GoodProps_rt ff trivial)
/-! slices.IndexFunc[[]string,string] -/
def p_slices_IndexFunc_string_string_l0 (f_a1 : ByteArray → Option Bool) : List ByteArray → Nat → Option (LR (Int) (Unit))
  | [], i_0 => some (.out ())
  | x_0 :: r_0, i_0 => ((f_a1 x_0).bind fun v12 => (if v12 = true then some (.ret (i_0 : Int)) else p_slices_IndexFunc_string_string_l0 f_a1 r_0 (i_0 + 1)))
def p_slices_IndexFunc_string_string_tf := PLift.up (And.intro @eStr_eq (And.intro @esStr_len (And.intro @esStr_nil (And.intro @esStr_leaf (And.intro @esStr_fit (And.intro @esStr_share (And.intro @esStr_pure (And.intro @str_beq (And.intro @Ty.sl52 (And.intro @Ty.slz52 (And.intro @Ty.nz9 (And.intro @Ty.ldA9 (And.intro @Ty.ldS9 (And.intro @Ty.sz9 (And.intro @Ty.szn9 @trivial)))))))))))))))
def p_slices_IndexFunc_string_string (s_a0 : List ByteArray) (f_a1 : ByteArray → Option Bool) : Option (Int) := ((p_slices_IndexFunc_string_string_l0 f_a1 s_a0 0).bind fun q_0 => match q_0 with | .ret r_ => some r_ | .out _ => some (-1))
theorem p_slices_IndexFunc_string_string_does (s_a0 : List ByteArray) (f1 : FuncId) (caps1 : List AV) (hc1 : AV.noRefs caps1 = true) (he1 : entB Tryd.prog f1 = true) (f_a1 : ByteArray → Option Bool) (hp1 : ∀ (x0_ : ByteArray) (y_ : Bool), f_a1 x0_ = some y_ → Does Tryd.prog f1 ([S x0_] ++ caps1) (B y_)) (r : Int) (h : p_slices_IndexFunc_string_string s_a0 f_a1 = some r) : Does Tryd.prog 42 [.row false 1 s_a0.length (esStr s_a0), .fn f1 caps1] (I r) := by
  rw [p_slices_IndexFunc_string_string] at h
  refine Does.bnd (fun hb => ?_)
  have hb2 : s_a0.length ≤ 9223372036854775807 := by simpa [AV.fitNs, AV.fitN] using hb
  have hl0 := hb2
  refine Does.walk (nt := 19) Tryd.func42 rfl rfl (by simp) (by decide) (by simp [AV.noRefs, AV.noRef, hc1]) (fun G0 X w0 pv => ?_)
  have hL_0 : s_a0.length ≤ 9223372036854775807 := by first | assumption | omega
  obtain ⟨q_0, eq_0, h⟩ := Option.bind_eq_some_iff.1 h
  have ff := And.intro @hc1 p_slices_IndexFunc_string_string_tf.down
  try refine st_by ff ?_
  repeat' (first | exact trivial | refine And.intro sd ?_)
  obtain ⟨I_0, hI_0⟩ : ∃ I_ : (Nat) → ASt → Prop, I_ = (fun (i_0 : Nat) σ => (i_0 ≤ s_a0.length ∧ p_slices_IndexFunc_string_string_l0 f_a1 (s_a0.drop i_0) i_0 = some q_0) ∧ σ.t 0 = .row false 1 s_a0.length (esStr s_a0) ∧ σ.t 1 = .fn f1 caps1 ∧ σ.t 7 = I (s_a0.length : Int) ∧ σ.t 8 = I (i_0 : Int)) := ⟨_, rfl⟩
  obtain ⟨M_0, hM_0⟩ : ∃ M_ : (Nat) → Nat, M_ = (fun (i_0 : Nat) => s_a0.length - i_0) := ⟨_, rfl⟩
  obtain ⟨J_0, hJ_0⟩ : ∃ J_ : ASt → Prop, J_ = (fun σ => (some (.out ()) = some q_0) ∧ True) := ⟨_, rfl⟩
  refine aw_loopC (id := 0) I_0 M_0 J_0 (0) ?_ ?_ ?_
  · rw [hI_0]
    refine ⟨⟨Nat.zero_le _, eq_0⟩, ?_⟩
    exact p_spec_l1Split_pv ff trivial
  · try clear ff
    rintro i_0 σ hg_0
    rw [hI_0] at hg_0
    obtain ⟨⟨hi_0, h_0⟩, g0_0, g1_0, g2_0, g3_0⟩ := hg_0
    cases hr_0 : s_a0.drop i_0 with
    | nil =>
      rw [hr_0] at h_0
      rw [p_slices_IndexFunc_string_string_l0] at h_0
      have hn_0 := drop_nil hr_0
      have dr_0 : decide ((i_0 : Int) < (s_a0.length : Int)) = false := decide_eq_false (by omega)
      have ff := And.intro @hc1 (And.intro @dr_0 (And.intro @g0_0 (And.intro @g1_0 (And.intro @g2_0 (And.intro @g3_0 p_slices_IndexFunc_string_string_tf.down)))))
      try refine st_by ff ?_
      repeat' (first | exact trivial | refine And.intro sd ?_)
      refine JW.intro ?_
      rw [hJ_0]
      refine ⟨h_0, ?_⟩
      exact p_spec_l1Split_pv ff trivial
    | cons x_0 r_0 =>
      rw [hr_0] at h_0
      rw [p_slices_IndexFunc_string_string_l0] at h_0
      obtain ⟨ht_0, hg_0, hd_0⟩ := drop_cons hr_0
      have dr_0 : decide ((i_0 : Int) < (s_a0.length : Int)) = true := decide_eq_true (by omega)
      have w_0 : IntKind.i64.wrap ((i_0 : Int) + 1) = ((i_0 + 1 : Nat) : Int) := wI _ (by omega) (by omega)
      have kk0c : (esStr s_a0).drop (i_0 * 1) = eStr x_0 ++ esStr (s_a0.drop (i_0 + 1)) := drop_enc (fun _ => rfl) (hg_0)
      have kk0d := kk0c
      rw [Nat.mul_one] at kk0d
      obtain ⟨v12, ev12, h_0⟩ := Option.bind_eq_some_iff.1 h_0
      try dsimp only at h_0
      have ff := And.intro @hc1 (And.intro @dr_0 (And.intro @w_0 (And.intro @g0_0 (And.intro @g1_0 (And.intro @g2_0 (And.intro @g3_0 (And.intro @kk0c (And.intro @kk0d p_slices_IndexFunc_string_string_tf.down))))))))
      try refine st_by ff ?_
      repeat' (first | exact trivial | refine And.intro sd ?_)
      first
      | (refine cq_call (hp1 x_0 v12 ev12) (hf_by ff) he1 ⟨p_spec_l26Path_sa ff trivial, ?_⟩; clear ff)
      by_cases c13 : v12 = true
      · rw [if_pos c13] at h_0
        have dc13 := c13
        cases h_0
        try dsimp only at h
        have ff := And.intro @hc1 (And.intro @dr_0 (And.intro @w_0 (And.intro @g0_0 (And.intro @g1_0 (And.intro @g2_0 (And.intro @g3_0 (And.intro @kk0c (And.intro @kk0d (And.intro @dc13 p_slices_IndexFunc_string_string_tf.down)))))))))
        try refine st_by ff ?_
        repeat' (first | exact trivial | refine And.intro sd ?_)
        cases h
        exact ret_q1 rfl (p_spec_l1Split_rt ff trivial)
      rw [if_neg c13] at h_0
      have dc13 := eq_false_of_ne_true c13
      have ff := And.intro @hc1 (And.intro @dr_0 (And.intro @w_0 (And.intro @g0_0 (And.intro @g1_0 (And.intro @g2_0 (And.intro @g3_0 (And.intro @kk0c (And.intro @kk0d (And.intro @dc13 p_slices_IndexFunc_string_string_tf.down)))))))))
      try refine st_by ff ?_
      repeat' (first | exact trivial | refine And.intro sd ?_)
      refine Back.intro (i_0 + 1) ?_ ?_
      · clear ff; rw [hM_0]; show s_a0.length - (i_0 + 1) < s_a0.length - i_0; omega
      rw [hI_0]
      refine ⟨⟨by clear ff; show i_0 + 1 ≤ s_a0.length; omega, by show p_slices_IndexFunc_string_string_l0 f_a1 (s_a0.drop (i_0 + 1)) (i_0 + 1) = some q_0; rw [hd_0]; exact h_0⟩, ?_⟩
      exact p_spec_l1Split_pv ff trivial
  · try clear ff
    rintro σ hg_0
    rw [hJ_0] at hg_0
    obtain ⟨hj_0, _⟩ := hg_0
    cases hj_0
    try dsimp only at h
    have ff := And.intro @hc1 p_slices_IndexFunc_string_string_tf.down
    try refine st_by ff ?_
    repeat' (first | exact trivial | refine And.intro sd ?_)
    cases h
    exact ret_q1 rfl (p_spec_l1Split_rt ff trivial)
/-! slices.ContainsFunc[[]string,string] -/
def p_slices_ContainsFunc_string_string_tf := PLift.up (And.intro @eStr_eq (And.intro @esStr_len (And.intro @esStr_nil (And.intro @esStr_leaf (And.intro @esStr_fit (And.intro @esStr_share (And.intro @esStr_pure (And.intro @str_beq @trivial))))))))
def p_slices_ContainsFunc_string_string (s_a0 : List ByteArray) (f_a1 : ByteArray → Option Bool) : Option (Bool) := ((p_slices_IndexFunc_string_string s_a0 f_a1).bind fun v1 => some (decide (v1 ≥ 0)))
theorem p_slices_ContainsFunc_string_string_does (s_a0 : List ByteArray) (f1 : FuncId) (caps1 : List AV) (hc1 : AV.noRefs caps1 = true) (he1 : entB Tryd.prog f1 = true) (f_a1 : ByteArray → Option Bool) (hp1 : ∀ (x0_ : ByteArray) (y_ : Bool), f_a1 x0_ = some y_ → Does Tryd.prog f1 ([S x0_] ++ caps1) (B y_)) (r : Bool) (h : p_slices_ContainsFunc_string_string s_a0 f_a1 = some r) : Does Tryd.prog 32 [.row false 1 s_a0.length (esStr s_a0), .fn f1 caps1] (B r) := by
  rw [p_slices_ContainsFunc_string_string] at h
  refine Does.bnd (fun hb => ?_)
  have hb2 : s_a0.length ≤ 9223372036854775807 := by simpa [AV.fitNs, AV.fitN] using hb
  have hl0 := hb2
  refine Does.walk (nt := 9) Tryd.func32 rfl rfl (by simp) (by decide) (by simp [AV.noRefs, AV.noRef, hc1]) (fun G0 X w0 pv => ?_)
  obtain ⟨v1, ev1, h⟩ := Option.bind_eq_some_iff.1 h
  try dsimp only at h
  have ff := And.intro @hc1 p_slices_ContainsFunc_string_string_tf.down
  try refine st_by ff ?_
  repeat' (first | exact trivial | refine And.intro sd ?_)
  first
  | (refine cq_call (p_slices_IndexFunc_string_string_does s_a0 f1 caps1 hc1 he1 f_a1 hp1 v1 ev1) (hf_by ff) kr ⟨p_spec_l26Path_sa ff trivial, ?_⟩; clear ff)
  have ff := And.intro @hc1 p_slices_ContainsFunc_string_string_tf.down
  try refine st_by ff ?_
  repeat' (first | exact trivial | refine And.intro sd ?_)
  cases h
  exact ret_q1 rfl (p_spec_l1Split_rt ff trivial)
/-! impl.isPath$1 -/
def p_impl_isPath_1_tf := PLift.up (And.intro @str_beq @trivial)
def p_impl_isPath_1 (name_a0 : ByteArray) : Option (Bool) := (if name_a0.size ≤ 9223372036854775807 then some (!(goodName name_a0)) else none)
theorem p_impl_isPath_1_does (name_a0 : ByteArray) (r : Bool) (h : p_impl_isPath_1 name_a0 = some r) : Does Tryd.prog 33 [S name_a0] (B r) := by
  rw [p_impl_isPath_1] at h
  refine Does.walk (nt := 6) Tryd.func33 rfl rfl (by simp) (by decide) rfl (fun G0 X w0 pv => ?_)
  by_cases c1 : name_a0.size ≤ 9223372036854775807
  case neg => rw [if_neg c1] at h; cases h
  rw [if_pos c1] at h
  have ff := p_impl_isPath_1_tf.down
  try refine st_by ff ?_
  repeat' (first | exact trivial | refine And.intro sd ?_)
  first
  | (refine cq_call (implGoodName_does name_a0 (by first | assumption | omega)) (hf_by ff) kr ⟨p_spec_l26Value_sa ff trivial, ?_⟩; clear ff)
  have ff := p_impl_isPath_1_tf.down
  try refine st_by ff ?_
  repeat' (first | exact trivial | refine And.intro sd ?_)
  cases h
  exact ret_q1 rfl (p_spec_l26Value_rt ff trivial)
/-! impl.isPath -/
def p_impl_isPath_tf := PLift.up (And.intro @eStr_eq (And.intro @esStr_len (And.intro @esStr_nil (And.intro @esStr_leaf (And.intro @esStr_fit (And.intro @esStr_share (And.intro @esStr_pure (And.intro @str_beq (And.intro @Ty.sl52 (And.intro @Ty.slz52 @trivial))))))))))
def p_impl_isPath (s_a0 : ByteArray) : Option (Bool) := ((splitP s_a0 (⟨#[47]⟩ : ByteArray)).bind fun v1 => (if (v1.length : Int) ≤ 5 then ((p_slices_ContainsFunc_string_string v1 (fun x0_ => p_impl_isPath_1 x0_)).bind fun v3 => some (!v3)) else some false))
theorem p_impl_isPath_does (s_a0 : ByteArray) (r : Bool) (h : p_impl_isPath s_a0 = some r) : Does Tryd.prog 19 [S s_a0] (B r) := by
  rw [p_impl_isPath] at h
  refine Does.walk (nt := 14) Tryd.func19 rfl rfl (by simp) (by decide) rfl (fun G0 X w0 pv => ?_)
  obtain ⟨v1, ev1, h⟩ := Option.bind_eq_some_iff.1 h
  try dsimp only at h
  have ff := p_impl_isPath_tf.down
  try refine st_by ff ?_
  repeat' (first | exact trivial | refine And.intro sd ?_)
  first
  | (refine cq_own (split_does s_a0 (⟨#[47]⟩ : ByteArray) v1 ev1) (hf_by ff) kr ⟨p_spec_l26Path_sa ff trivial, ?_⟩; clear ff)
  by_cases c2 : (v1.length : Int) ≤ 5
  case neg =>
   rw [if_neg c2] at h
   have dc2 := decide_eq_false c2
   have ff := And.intro @dc2 p_impl_isPath_tf.down
   try refine st_by ff ?_
   repeat' (first | exact trivial | refine And.intro sd ?_)
   cases h
   exact ret_q1 rfl (p_spec_l1Split_rt ff trivial)
  rw [if_pos c2] at h
  have dc2 := decide_eq_true c2
  obtain ⟨v3, ev3, h⟩ := Option.bind_eq_some_iff.1 h
  try dsimp only at h
  have ff := And.intro @dc2 p_impl_isPath_tf.down
  try refine st_by ff ?_
  repeat' (first | exact trivial | refine And.intro sd ?_)
  first
  | (refine cq_lend (p_slices_ContainsFunc_string_string_does v1 33 [] (by simp [AV.noRefs, AV.noRef]) kr (fun x0_ => p_impl_isPath_1 x0_) (fun x0_ y_ h_ => p_impl_isPath_1_does x0_ y_ h_) v3 ev3) (hf_by ff) kr ⟨p_spec_l26Path_sa ff trivial, ?_⟩; clear ff)
  have ff := And.intro @dc2 p_impl_isPath_tf.down
  try refine st_by ff ?_
  repeat' (first | exact trivial | refine And.intro sd ?_)
  cases h
  exact ret_q1 rfl (p_spec_l1Split_rt ff trivial)
/-! impl.isPropValue -/
def p_impl_isPropValue_tf := PLift.up (And.intro @str_beq (And.intro @Ty.str9 @trivial))
def p_impl_isPropValue (s_a0 : ByteArray) : Option (Bool) := some (rng (s_a0.size : Int) 1 40)
theorem p_impl_isPropValue_does (s_a0 : ByteArray) (r : Bool) (h : p_impl_isPropValue s_a0 = some r) : Does Tryd.prog 20 [S s_a0] (B r) := by
  rw [p_impl_isPropValue] at h
  refine Does.walk (nt := 6) Tryd.func20 rfl rfl (by simp) (by decide) rfl (fun G0 X w0 pv => ?_)
  have ff := p_impl_isPropValue_tf.down
  try refine st_by ff ?_
  repeat' (first | exact trivial | refine And.intro sd ?_)
  first
  | (refine cq_call (inRange_does (s_a0.size : Int) 1 40) (hf_by ff) kr ⟨p_spec_l26Value_sa ff trivial, ?_⟩; clear ff)
  have ff := p_impl_isPropValue_tf.down
  try refine st_by ff ?_
  repeat' (first | exact trivial | refine And.intro sd ?_)
  cases h
  exact ret_q1 rfl (p_spec_l26Value_rt ff trivial)
/-! impl.GoodProps -/
def p_impl_GoodProps_l0 (l_a0 : List GProp) : List GProp → Nat → Option (LR (Bool) (Unit))
  | [], i_0 => some (.out ())
  | x_0 :: r_0, i_0 => ((p_impl_isPath x_0.Path).bind fun v24 => (if v24 = true then ((p_impl_isPropValue x_0.Value).bind fun v26 => (if v26 = true then (if (i_0 : Int) > 0 then ((idx l_a0 (IntKind.i64.wrap ((i_0 : Int) - 1))).bind fun x29 => (if (Op.bytesLess x29.Path.toList x_0.Path.toList) = true then p_impl_GoodProps_l0 l_a0 r_0 (i_0 + 1) else some (.ret false))) else p_impl_GoodProps_l0 l_a0 r_0 (i_0 + 1)) else some (.ret false))) else some (.ret false)))
def p_impl_GoodProps_tf := PLift.up (And.intro @eProp_eq (And.intro @esProp_len (And.intro @esProp_nil (And.intro @esProp_leaf (And.intro @esProp_fit (And.intro @esProp_share (And.intro @esProp_pure (And.intro @str_beq (And.intro @Ty.sl25 (And.intro @Ty.slz25 (And.intro @Ty.nz39 (And.intro @Ty.ldA39 (And.intro @Ty.sz39 (And.intro @Ty.szn39 (And.intro @Ty.nz9 (And.intro @Ty.ldA9 (And.intro @Ty.ldS9 (And.intro @Ty.sz9 (And.intro @Ty.szn9 (And.intro @Ty.fo39_0 (And.intro @Ty.fk39_0 (And.intro @Ty.fs39_0 (And.intro @Ty.fn39_0 (And.intro @Ty.fo39_1 (And.intro @Ty.fk39_1 (And.intro @Ty.fs39_1 (And.intro @Ty.fn39_1 (And.intro @Ty.zv39 @trivial))))))))))))))))))))))))))))
def p_impl_GoodProps (l_a0 : List GProp) : Option (Bool) := ((p_impl_GoodProps_l0 l_a0 l_a0 0).bind fun q_0 => match q_0 with | .ret r_ => some r_ | .out _ => some (decide ((l_a0.length : Int) ≤ 40)))
theorem p_impl_GoodProps_does (l_a0 : List GProp) (r : Bool) (h : p_impl_GoodProps l_a0 = some r) : Does Tryd.prog 8 [.row false 2 l_a0.length (esProp l_a0)] (B r) := by
  rw [p_impl_GoodProps] at h
  refine Does.bnd (fun hb => ?_)
  have hb2 : l_a0.length ≤ 9223372036854775807 := by simpa [AV.fitNs, AV.fitN] using hb
  have hl0 := hb2
  refine Does.walk (nt := 41) Tryd.func8 rfl rfl (by simp) (by decide) rfl (fun G0 X w0 pv => ?_)
  have hL_0 : l_a0.length ≤ 9223372036854775807 := by first | assumption | omega
  obtain ⟨q_0, eq_0, h⟩ := Option.bind_eq_some_iff.1 h
  have ff := p_impl_GoodProps_tf.down
  try refine st_by ff ?_
  repeat' (first | exact trivial | refine And.intro sd ?_)
  obtain ⟨I_0, hI_0⟩ : ∃ I_ : (Nat) → ASt → Prop, I_ = (fun (i_0 : Nat) σ => (i_0 ≤ l_a0.length ∧ p_impl_GoodProps_l0 l_a0 (l_a0.drop i_0) i_0 = some q_0) ∧ σ.t 0 = .row false 2 l_a0.length (esProp l_a0) ∧ σ.t 5 = .row false 2 l_a0.length (esProp l_a0) ∧ σ.t 6 = I (l_a0.length : Int) ∧ σ.t 7 = I (i_0 : Int)) := ⟨_, rfl⟩
  obtain ⟨M_0, hM_0⟩ : ∃ M_ : (Nat) → Nat, M_ = (fun (i_0 : Nat) => l_a0.length - i_0) := ⟨_, rfl⟩
  obtain ⟨J_0, hJ_0⟩ : ∃ J_ : ASt → Prop, J_ = (fun σ => (some (.out ()) = some q_0) ∧ σ.t 0 = .row false 2 l_a0.length (esProp l_a0)) := ⟨_, rfl⟩
  refine aw_loopC (id := 0) I_0 M_0 J_0 (0) ?_ ?_ ?_
  · rw [hI_0]
    refine ⟨⟨Nat.zero_le _, eq_0⟩, ?_⟩
    exact p_spec_GoodProps_pv ff trivial
  · try clear ff
    rintro i_0 σ hg_0
    rw [hI_0] at hg_0
    obtain ⟨⟨hi_0, h_0⟩, g0_0, g1_0, g2_0, g3_0⟩ := hg_0
    cases hr_0 : l_a0.drop i_0 with
    | nil =>
      rw [hr_0] at h_0
      rw [p_impl_GoodProps_l0] at h_0
      have hn_0 := drop_nil hr_0
      have dr_0 : decide ((i_0 : Int) < (l_a0.length : Int)) = false := decide_eq_false (by omega)
      have ff := And.intro @dr_0 (And.intro @g0_0 (And.intro @g1_0 (And.intro @g2_0 (And.intro @g3_0 p_impl_GoodProps_tf.down))))
      try refine st_by ff ?_
      repeat' (first | exact trivial | refine And.intro sd ?_)
      refine JW.intro ?_
      rw [hJ_0]
      refine ⟨h_0, ?_⟩
      exact p_spec_GoodProps_pv ff trivial
    | cons x_0 r_0 =>
      rw [hr_0] at h_0
      rw [p_impl_GoodProps_l0] at h_0
      obtain ⟨ht_0, hg_0, hd_0⟩ := drop_cons hr_0
      have dr_0 : decide ((i_0 : Int) < (l_a0.length : Int)) = true := decide_eq_true (by omega)
      have w_0 : IntKind.i64.wrap ((i_0 : Int) + 1) = ((i_0 + 1 : Nat) : Int) := wI _ (by omega) (by omega)
      have kk0c : (esProp l_a0).drop (i_0 * 2) = eProp x_0 ++ esProp (l_a0.drop (i_0 + 1)) := drop_enc (fun _ => rfl) (hg_0)
      obtain ⟨v24, ev24, h_0⟩ := Option.bind_eq_some_iff.1 h_0
      try dsimp only at h_0
      have ff := And.intro @dr_0 (And.intro @w_0 (And.intro @g0_0 (And.intro @g1_0 (And.intro @g2_0 (And.intro @g3_0 (And.intro @kk0c p_impl_GoodProps_tf.down))))))
      try refine st_by ff ?_
      repeat' (first | exact trivial | refine And.intro sd ?_ | (refine aw_drawn (id := 4) ?_ [[], [0], [0, 1], [0, 1, 2], [0, 1, 2, 3], [0, 1, 2, 3, 4], [0, 1, 2, 3, 4, 5], [0, 1, 2, 3, 4, 5, 6], [0, 1, 2, 3, 4, 5, 6, 7], [0, 1, 2, 3, 4, 5, 6, 7, 8], [0, 1, 2, 3, 4, 5, 6, 7, 8, 9], [0, 1, 2, 3, 4, 5, 6, 7, 8, 9, 10], [0, 1, 2, 3, 4, 5, 6, 7, 8, 9, 10, 11], [0, 1, 2, 3, 4, 5, 6, 7, 8, 9, 10, 11, 12], [0, 1, 2, 3, 4, 5, 6, 7, 8, 9, 10, 11, 12, 13], [0, 1, 2, 3, 4, 5, 6, 7, 8, 9, 10, 11, 12, 13], [0, 1, 2, 3, 4, 5, 6, 7, 8, 9, 10, 11, 12, 13, 15], [0, 1, 2, 3, 4, 5, 6, 7, 8, 9, 10, 11, 12, 13, 14, 15, 16], [0, 1, 2, 3, 4, 5, 6, 7, 8, 9, 10, 11, 12, 13, 14, 15, 16, 17], [0, 1, 2, 3, 4, 5, 6, 7, 8, 9, 10, 11, 12, 13, 14, 15, 16, 17, 18], [0, 1, 2, 3, 4, 5, 6, 7, 8, 9, 10, 11, 12, 13], [0, 1, 2, 3, 4, 5, 6, 7, 8, 9, 10, 11, 12, 13, 20], [0, 1, 2, 3, 4, 5, 6, 7, 8, 9, 10, 11, 12, 13, 14, 15, 16, 17, 18, 19, 20, 21], [0, 1, 2, 3, 4, 5, 6, 7, 8, 9, 10, 11, 12, 13, 14, 15, 16, 17, 18, 19, 20, 21, 22], [0, 1, 2, 3, 4, 5, 6, 7, 8, 9, 10, 11, 12, 13, 14, 15, 16, 17, 18, 19, 20, 21, 22, 23]] 22 ?_ ?_; (· kernel_rfl); (· kernel_rfl); refine st_by ff ?_))
      first
      | (refine cq_call (p_impl_isPath_does x_0.Path v24 ev24) (hf_by ff) kr ⟨p_spec_GoodProps_sa ff trivial, ?_⟩; clear ff)
      | (refine cq_dcall (p_impl_isPath_does x_0.Path v24 ev24) (hf_by ff) kr ⟨p_spec_GoodProps_sa ff trivial, ?_⟩; clear ff)
      by_cases c25 : v24 = true
      case neg =>
       rw [if_neg c25] at h_0
       have dc25 := eq_false_of_ne_true c25
       cases h_0
       try dsimp only at h
       have ff := And.intro @dr_0 (And.intro @w_0 (And.intro @g0_0 (And.intro @g1_0 (And.intro @g2_0 (And.intro @g3_0 (And.intro @kk0c (And.intro @dc25 p_impl_GoodProps_tf.down)))))))
       try refine st_by ff ?_
       repeat' (first | exact trivial | refine And.intro sd ?_)
       cases h
       exact ret_q1 rfl (p_spec_GoodProps_rt ff trivial)
      rw [if_pos c25] at h_0
      have dc25 := c25
      obtain ⟨v26, ev26, h_0⟩ := Option.bind_eq_some_iff.1 h_0
      try dsimp only at h_0
      have ff := And.intro @dr_0 (And.intro @w_0 (And.intro @g0_0 (And.intro @g1_0 (And.intro @g2_0 (And.intro @g3_0 (And.intro @kk0c (And.intro @dc25 p_impl_GoodProps_tf.down)))))))
      try refine st_by ff ?_
      repeat' (first | exact trivial | refine And.intro sd ?_)
      first
      | (refine cq_call (p_impl_isPropValue_does x_0.Value v26 ev26) (hf_by ff) kr ⟨p_spec_GoodProps_sa ff trivial, ?_⟩; clear ff)
      | (refine cq_dcall (p_impl_isPropValue_does x_0.Value v26 ev26) (hf_by ff) kr ⟨p_spec_GoodProps_sa ff trivial, ?_⟩; clear ff)
      by_cases c27 : v26 = true
      case neg =>
       rw [if_neg c27] at h_0
       have dc27 := eq_false_of_ne_true c27
       cases h_0
       try dsimp only at h
       have ff := And.intro @dr_0 (And.intro @w_0 (And.intro @g0_0 (And.intro @g1_0 (And.intro @g2_0 (And.intro @g3_0 (And.intro @kk0c (And.intro @dc25 (And.intro @dc27 p_impl_GoodProps_tf.down))))))))
       try refine st_by ff ?_
       repeat' (first | exact trivial | refine And.intro sd ?_)
       cases h
       exact ret_q1 rfl (p_spec_GoodProps_rt ff trivial)
      rw [if_pos c27] at h_0
      have dc27 := c27
      by_cases c28 : (i_0 : Int) > 0
      case neg =>
       rw [if_neg c28] at h_0
       have dc28 := decide_eq_false c28
       have ff := And.intro @dr_0 (And.intro @w_0 (And.intro @g0_0 (And.intro @g1_0 (And.intro @g2_0 (And.intro @g3_0 (And.intro @kk0c (And.intro @dc25 (And.intro @dc27 (And.intro @dc28 p_impl_GoodProps_tf.down)))))))))
       try refine st_by ff ?_
       repeat' (first | exact trivial | refine And.intro sd ?_)
       refine Back.intro (i_0 + 1) ?_ ?_
       · clear ff; rw [hM_0]; show l_a0.length - (i_0 + 1) < l_a0.length - i_0; omega
       rw [hI_0]
       refine ⟨⟨by clear ff; show i_0 + 1 ≤ l_a0.length; omega, by show p_impl_GoodProps_l0 l_a0 (l_a0.drop (i_0 + 1)) (i_0 + 1) = some q_0; rw [hd_0]; exact h_0⟩, ?_⟩
       exact p_spec_GoodProps_pv ff trivial
      rw [if_pos c28] at h_0
      have dc28 := decide_eq_true c28
      obtain ⟨x29, ex29, h_0⟩ := Option.bind_eq_some_iff.1 h_0
      try dsimp only at h_0
      have f30a := idx_lo ex29
      have f30b := idx_hi ex29
      have f30c : (esProp l_a0).drop (((IntKind.i64.wrap ((i_0 : Int) - 1)).toNat) * 2) = eProp x29 ++ esProp (l_a0.drop ((IntKind.i64.wrap ((i_0 : Int) - 1)).toNat + 1)) := drop_enc (fun _ => rfl) (idx_get ex29)
      by_cases c31 : (Op.bytesLess x29.Path.toList x_0.Path.toList) = true
      case neg =>
       rw [if_neg c31] at h_0
       have dc31 := eq_false_of_ne_true c31
       cases h_0
       try dsimp only at h
       have ff := And.intro @dr_0 (And.intro @w_0 (And.intro @g0_0 (And.intro @g1_0 (And.intro @g2_0 (And.intro @g3_0 (And.intro @kk0c (And.intro @dc25 (And.intro @dc27 (And.intro @dc28 (And.intro @f30c (And.intro @dc31 p_impl_GoodProps_tf.down)))))))))))
       try refine st_by ff ?_
       repeat' (first | exact trivial | refine And.intro sd ?_)
       cases h
       exact ret_q1 rfl (p_spec_GoodProps_rt ff trivial)
      rw [if_pos c31] at h_0
      have dc31 := c31
      have ff := And.intro @dr_0 (And.intro @w_0 (And.intro @g0_0 (And.intro @g1_0 (And.intro @g2_0 (And.intro @g3_0 (And.intro @kk0c (And.intro @dc25 (And.intro @dc27 (And.intro @dc28 (And.intro @f30c (And.intro @dc31 p_impl_GoodProps_tf.down)))))))))))
      try refine st_by ff ?_
      repeat' (first | exact trivial | refine And.intro sd ?_)
      refine Back.intro (i_0 + 1) ?_ ?_
      · clear ff; rw [hM_0]; show l_a0.length - (i_0 + 1) < l_a0.length - i_0; omega
      rw [hI_0]
      refine ⟨⟨by clear ff; show i_0 + 1 ≤ l_a0.length; omega, by show p_impl_GoodProps_l0 l_a0 (l_a0.drop (i_0 + 1)) (i_0 + 1) = some q_0; rw [hd_0]; exact h_0⟩, ?_⟩
      exact p_spec_GoodProps_pv ff trivial
  · try clear ff
    rintro σ hg_0
    rw [hJ_0] at hg_0
    obtain ⟨hj_0, g0_0a⟩ := hg_0
    cases hj_0
    try dsimp only at h
    have ff := And.intro @g0_0a p_impl_GoodProps_tf.down
    try refine st_by ff ?_
    repeat' (first | exact trivial | refine And.intro sd ?_)
    cases h
    exact ret_q1 rfl (p_spec_GoodProps_rt ff trivial)
end Go.Av
end
section
set_option linter.unusedSimpArgs false
set_option linter.unusedVariables false
set_option maxRecDepth 100000
set_option maxHeartbeats 1000000
namespace Go.Av
open Go.Proofs
/-! spec.l26Prefab -/
def p_spec_l26Prefab_l0 (name_a1 : ByteArray) : List GPrefab → Nat → Option (LR (Int) (Unit))
  | [], i_0 => some (.out ())
  | x_0 :: r_0, i_0 => (if x_0.Name = name_a1 then some (.ret (i_0 : Int)) else p_spec_l26Prefab_l0 name_a1 r_0 (i_0 + 1))
theorem p_spec_l26Prefab_pv {F C A : Prop} (hF : F) (hC : C) (h : F → C → A := by intro hF hC; first | exact cl_by hF | (refine st_by hF ?_; (repeat' (first | exact trivial | apply And.intro)); all_goals (clear hF; first | rfl | (simp only [hC, List.length_append, List.length_cons, List.length_nil, List.append_nil, List.nil_append, List.cons_append, List.length_set, List.append_assoc, Nat.zero_add, List.length_replicate, esProp_app, esProp_cons, esProp_nil, eProp_eq, esPrefab_app, esPrefab_cons, esPrefab_nil, ePrefab_eq, esPrefabo_app, esPrefabo_cons, esPrefabo_nil, ePrefabo_eq]; done) | (simp [hC, List.length_append, List.length_cons, List.length_nil, List.append_nil, List.nil_append, List.cons_append, List.length_set, List.append_assoc, Nat.zero_add, List.length_replicate, esProp_app, esProp_cons, esProp_nil, eProp_eq, esPrefab_app, esPrefab_cons, esPrefab_nil, ePrefab_eq, esPrefabo_app, esPrefabo_cons, esPrefabo_nil, ePrefabo_eq]; done) | omega))) : A := h hF hC
theorem p_spec_l26Prefab_rt {F C A : Prop} (hF : F) (hC : C) (h : F → C → A := by intro hF hC; first | (refine sr_by hF ?_; (repeat' (first | exact trivial | apply And.intro)); all_goals (clear hF; first | rfl | (simp only [hC, List.length_append, List.length_cons, List.length_nil, List.append_nil, List.nil_append, List.cons_append, List.length_set, List.append_assoc, Nat.zero_add, List.length_replicate, esProp_app, esProp_cons, esProp_nil, eProp_eq, esPrefab_app, esPrefab_cons, esPrefab_nil, ePrefab_eq, esPrefabo_app, esPrefabo_cons, esPrefabo_nil, ePrefabo_eq]; done) | (simp [hC, List.length_append, List.length_cons, List.length_nil, List.append_nil, List.nil_append, List.cons_append, List.length_set, List.append_assoc, Nat.zero_add, List.length_replicate, esProp_app, esProp_cons, esProp_nil, eProp_eq, esPrefab_app, esPrefab_cons, esPrefab_nil, ePrefab_eq, esPrefabo_app, esPrefabo_cons, esPrefabo_nil, ePrefabo_eq]; done) | omega)) | (first | rfl | (simp only [hC, List.length_append, List.length_cons, List.length_nil, List.append_nil, List.nil_append, List.cons_append, List.length_set, List.append_assoc, Nat.zero_add, List.length_replicate, esProp_app, esProp_cons, esProp_nil, eProp_eq, esPrefab_app, esPrefab_cons, esPrefab_nil, ePrefab_eq, esPrefabo_app, esPrefabo_cons, esPrefabo_nil, ePrefabo_eq]; done) | (simp [hC, List.length_append, List.length_cons, List.length_nil, List.append_nil, List.nil_append, List.cons_append, List.length_set, List.append_assoc, Nat.zero_add, List.length_replicate, esProp_app, esProp_cons, esProp_nil, eProp_eq, esPrefab_app, esPrefab_cons, esPrefab_nil, ePrefab_eq, esPrefabo_app, esPrefabo_cons, esPrefabo_nil, ePrefabo_eq]; done) | omega)) : A := h hF hC
def p_spec_l26Prefab_tf := PLift.up (And.intro @eProp_eq (And.intro @esProp_len (And.intro @esProp_nil (And.intro @esProp_leaf (And.intro @esProp_fit (And.intro @ePrefab_eq (And.intro @esPrefab_len (And.intro @esPrefab_nil (And.intro @esPrefab_leaf (And.intro @esPrefab_fit (And.intro @ePrefabo_eq (And.intro @esPrefabo_len (And.intro @esPrefabo_nil (And.intro @esProp_share (And.intro @esProp_pure (And.intro @esPrefabo_share (And.intro @esPrefabo_pure (And.intro @str_beq (And.intro @Ty.sl32 (And.intro @Ty.slz32 (And.intro @Ty.nz48 (And.intro @Ty.ldA48 (And.intro @Ty.sz48 (And.intro @Ty.szn48 (And.intro @Ty.nz9 (And.intro @Ty.ldA9 (And.intro @Ty.ldS9 (And.intro @Ty.sz9 (And.intro @Ty.szn9 (And.intro @Ty.fo48_0 (And.intro @Ty.fk48_0 (And.intro @Ty.fs48_0 (And.intro @Ty.fn48_0 (And.intro @Ty.zv48 @trivial))))))))))))))))))))))))))))))))))
def p_spec_l26Prefab (l_a0 : List GPrefab) (name_a1 : ByteArray) : Option (Int) := ((p_spec_l26Prefab_l0 name_a1 l_a0 0).bind fun q_0 => match q_0 with | .ret r_ => some r_ | .out _ => some (-1))
theorem p_spec_l26Prefab_does (l_a0 : List GPrefab) (name_a1 : ByteArray) (r : Int) (h : p_spec_l26Prefab l_a0 name_a1 = some r) : Does Tryd.prog 23 [.row false 3 l_a0.length (esPrefab l_a0), S name_a1] (I r) := by
  rw [p_spec_l26Prefab] at h
  refine Does.bnd (fun hb => ?_)
  have hb2 : l_a0.length ≤ 9223372036854775807 := by simpa [AV.fitNs, AV.fitN] using hb
  have hl0 := hb2
  refine Does.walk (nt := 20) Tryd.func23 rfl rfl (by simp) (by decide) rfl (fun G0 X w0 pv => ?_)
  have hL_0 : l_a0.length ≤ 9223372036854775807 := by first | assumption | omega
  obtain ⟨q_0, eq_0, h⟩ := Option.bind_eq_some_iff.1 h
  have ff := p_spec_l26Prefab_tf.down
  try refine st_by ff ?_
  repeat' (first | exact trivial | refine And.intro sd ?_)
  obtain ⟨I_0, hI_0⟩ : ∃ I_ : (Nat) → ASt → Prop, I_ = (fun (i_0 : Nat) σ => (i_0 ≤ l_a0.length ∧ p_spec_l26Prefab_l0 name_a1 (l_a0.drop i_0) i_0 = some q_0) ∧ σ.t 1 = S name_a1 ∧ σ.t 7 = .row false 3 l_a0.length (esPrefab l_a0) ∧ σ.t 8 = I (l_a0.length : Int) ∧ σ.t 9 = I (i_0 : Int)) := ⟨_, rfl⟩
  obtain ⟨M_0, hM_0⟩ : ∃ M_ : (Nat) → Nat, M_ = (fun (i_0 : Nat) => l_a0.length - i_0) := ⟨_, rfl⟩
  obtain ⟨J_0, hJ_0⟩ : ∃ J_ : ASt → Prop, J_ = (fun σ => (some (.out ()) = some q_0) ∧ True) := ⟨_, rfl⟩
  refine aw_loopC (id := 0) I_0 M_0 J_0 (0) ?_ ?_ ?_
  · rw [hI_0]
    refine ⟨⟨Nat.zero_le _, eq_0⟩, ?_⟩
    exact p_spec_l26Prefab_pv ff trivial
  · try clear ff
    rintro i_0 σ hg_0
    rw [hI_0] at hg_0
    obtain ⟨⟨hi_0, h_0⟩, g0_0, g1_0, g2_0, g3_0⟩ := hg_0
    cases hr_0 : l_a0.drop i_0 with
    | nil =>
      rw [hr_0] at h_0
      rw [p_spec_l26Prefab_l0] at h_0
      have hn_0 := drop_nil hr_0
      have dr_0 : decide ((i_0 : Int) < (l_a0.length : Int)) = false := decide_eq_false (by omega)
      have ff := And.intro @dr_0 (And.intro @g0_0 (And.intro @g1_0 (And.intro @g2_0 (And.intro @g3_0 p_spec_l26Prefab_tf.down))))
      try refine st_by ff ?_
      repeat' (first | exact trivial | refine And.intro sd ?_)
      refine JW.intro ?_
      rw [hJ_0]
      refine ⟨h_0, ?_⟩
      exact p_spec_l26Prefab_pv ff trivial
    | cons x_0 r_0 =>
      rw [hr_0] at h_0
      rw [p_spec_l26Prefab_l0] at h_0
      obtain ⟨ht_0, hg_0, hd_0⟩ := drop_cons hr_0
      have dr_0 : decide ((i_0 : Int) < (l_a0.length : Int)) = true := decide_eq_true (by omega)
      have w_0 : IntKind.i64.wrap ((i_0 : Int) + 1) = ((i_0 + 1 : Nat) : Int) := wI _ (by omega) (by omega)
      have kk0c : (esPrefab l_a0).drop (i_0 * 3) = ePrefab x_0 ++ esPrefab (l_a0.drop (i_0 + 1)) := drop_enc (fun _ => rfl) (hg_0)
      by_cases c10 : x_0.Name = name_a1
      · rw [if_pos c10] at h_0
        have dc10 := decide_eq_true c10
        cases h_0
        try dsimp only at h
        have ff := And.intro @dr_0 (And.intro @w_0 (And.intro @g0_0 (And.intro @g1_0 (And.intro @g2_0 (And.intro @g3_0 (And.intro @kk0c (And.intro @dc10 p_spec_l26Prefab_tf.down)))))))
        try refine st_by ff ?_
        repeat' (first | exact trivial | refine And.intro sd ?_)
        cases h
        exact ret_q1 rfl (p_spec_l26Prefab_rt ff trivial)
      rw [if_neg c10] at h_0
      have dc10 := decide_eq_false c10
      have ff := And.intro @dr_0 (And.intro @w_0 (And.intro @g0_0 (And.intro @g1_0 (And.intro @g2_0 (And.intro @g3_0 (And.intro @kk0c (And.intro @dc10 p_spec_l26Prefab_tf.down)))))))
      try refine st_by ff ?_
      repeat' (first | exact trivial | refine And.intro sd ?_)
      refine Back.intro (i_0 + 1) ?_ ?_
      · clear ff; rw [hM_0]; show l_a0.length - (i_0 + 1) < l_a0.length - i_0; omega
      rw [hI_0]
      refine ⟨⟨by clear ff; show i_0 + 1 ≤ l_a0.length; omega, by show p_spec_l26Prefab_l0 name_a1 (l_a0.drop (i_0 + 1)) (i_0 + 1) = some q_0; rw [hd_0]; exact h_0⟩, ?_⟩
      exact p_spec_l26Prefab_pv ff trivial
  · try clear ff
    rintro σ hg_0
    rw [hJ_0] at hg_0
    obtain ⟨hj_0, _⟩ := hg_0
    cases hj_0
    try dsimp only at h
    have ff := p_spec_l26Prefab_tf.down
    try refine st_by ff ?_
    repeat' (first | exact trivial | refine And.intro sd ?_)
    cases h
    exact ret_q1 rfl (p_spec_l26Prefab_rt ff trivial)
/-! spec.GoodPrefabs -/
def p_spec_GoodPrefabs_j0 (N : Nat) (l_a0 : List GPrefab) (x_0 : GPrefab) (i_0 : Nat) (rec_0 : Nat → (List Int) → Option (LR (Bool) ((List Int)))) (deep_63 : List Int) : Option (LR (Bool) ((List Int))) := (if x_0.Name.size ≤ 9223372036854775807 then (if (goodName x_0.Name) = true then ((slc l_a0 0 (i_0 : Int)).bind fun m66 => ((p_spec_l26Prefab m66 x_0.Name).bind fun v68 => (if v68 ≥ 0 then some (.ret false) else ((idx deep_63 (i_0 : Int)).bind fun x70 => (if x70 > 5 then some (.ret false) else ((p_spec_GoodProps N x_0.Props).bind fun v73 => (if v73 = true then rec_0 (i_0 + 1) deep_63 else some (.ret false)))))))) else some (.ret false)) else none)
def p_spec_GoodPrefabs_l0 (N : Nat) (l_a0 : List GPrefab) : List GPrefab → Nat → (List Int) → Option (LR (Bool) ((List Int)))
  | [], i_0, deep_32 => some (.out deep_32)
  | x_0 :: r_0, i_0, deep_32 => ((idx deep_32 (i_0 : Int)).bind fun x60 => (if x_0.From = (⟨#[]⟩ : ByteArray) then p_spec_GoodPrefabs_j0 N l_a0 x_0 i_0 (p_spec_GoodPrefabs_l0 N l_a0 r_0) (deep_32.set i_0 1) else ((slc l_a0 0 (i_0 : Int)).bind fun m76 => ((p_spec_l26Prefab m76 x_0.From).bind fun v78 => (if v78 < 0 then some (.ret false) else ((idx (deep_32.set i_0 1) v78).bind fun x80 => p_spec_GoodPrefabs_j0 N l_a0 x_0 i_0 (p_spec_GoodPrefabs_l0 N l_a0 r_0) ((deep_32.set i_0 1).set i_0 (IntKind.i64.wrap (x80 + 1)))))))))
theorem p_spec_GoodPrefabs_pv {F C A : Prop} (hF : F) (hC : C) (h : F → C → A := by intro hF hC; first | exact cl_by hF | (refine st_by hF ?_; (repeat' (first | exact trivial | apply And.intro)); all_goals (clear hF; first | rfl | (simp only [hC, List.length_append, List.length_cons, List.length_nil, List.append_nil, List.nil_append, List.cons_append, List.length_set, List.append_assoc, Nat.zero_add, List.length_replicate, esInt_app, esInt_cons, esInt_nil, eInt_eq, esProp_app, esProp_cons, esProp_nil, eProp_eq, esPrefab_app, esPrefab_cons, esPrefab_nil, ePrefab_eq, esPrefabo_app, esPrefabo_cons, esPrefabo_nil, ePrefabo_eq]; done) | (simp [hC, List.length_append, List.length_cons, List.length_nil, List.append_nil, List.nil_append, List.cons_append, List.length_set, List.append_assoc, Nat.zero_add, List.length_replicate, esInt_app, esInt_cons, esInt_nil, eInt_eq, esProp_app, esProp_cons, esProp_nil, eProp_eq, esPrefab_app, esPrefab_cons, esPrefab_nil, ePrefab_eq, esPrefabo_app, esPrefabo_cons, esPrefabo_nil, ePrefabo_eq]; done) | omega))) : A := h hF hC
theorem p_spec_GoodPrefabs_sa {F C A : Prop} (hF : F) (hC : C) (h : F → C → A := by intro hF hC; first | exact ca_by hF | (refine sa_by hF ?_; (repeat' (first | exact trivial | apply And.intro)); all_goals (clear hF; first | rfl | (simp only [hC, List.length_append, List.length_cons, List.length_nil, List.append_nil, List.nil_append, List.cons_append, List.length_set, List.append_assoc, Nat.zero_add, List.length_replicate, esInt_app, esInt_cons, esInt_nil, eInt_eq, esProp_app, esProp_cons, esProp_nil, eProp_eq, esPrefab_app, esPrefab_cons, esPrefab_nil, ePrefab_eq, esPrefabo_app, esPrefabo_cons, esPrefabo_nil, ePrefabo_eq]; done) | (simp [hC, List.length_append, List.length_cons, List.length_nil, List.append_nil, List.nil_append, List.cons_append, List.length_set, List.append_assoc, Nat.zero_add, List.length_replicate, esInt_app, esInt_cons, esInt_nil, eInt_eq, esProp_app, esProp_cons, esProp_nil, eProp_eq, esPrefab_app, esPrefab_cons, esPrefab_nil, ePrefab_eq, esPrefabo_app, esPrefabo_cons, esPrefabo_nil, ePrefabo_eq]; done) | omega))) : A := h hF hC
theorem p_spec_GoodPrefabs_rt {F C A : Prop} (hF : F) (hC : C) (h : F → C → A := by intro hF hC; first | (refine sr_by hF ?_; (repeat' (first | exact trivial | apply And.intro)); all_goals (clear hF; first | rfl | (simp only [hC, List.length_append, List.length_cons, List.length_nil, List.append_nil, List.nil_append, List.cons_append, List.length_set, List.append_assoc, Nat.zero_add, List.length_replicate, esInt_app, esInt_cons, esInt_nil, eInt_eq, esProp_app, esProp_cons, esProp_nil, eProp_eq, esPrefab_app, esPrefab_cons, esPrefab_nil, ePrefab_eq, esPrefabo_app, esPrefabo_cons, esPrefabo_nil, ePrefabo_eq]; done) | (simp [hC, List.length_append, List.length_cons, List.length_nil, List.append_nil, List.nil_append, List.cons_append, List.length_set, List.append_assoc, Nat.zero_add, List.length_replicate, esInt_app, esInt_cons, esInt_nil, eInt_eq, esProp_app, esProp_cons, esProp_nil, eProp_eq, esPrefab_app, esPrefab_cons, esPrefab_nil, ePrefab_eq, esPrefabo_app, esPrefabo_cons, esPrefabo_nil, ePrefabo_eq]; done) | omega)) | (first | rfl | (simp only [hC, List.length_append, List.length_cons, List.length_nil, List.append_nil, List.nil_append, List.cons_append, List.length_set, List.append_assoc, Nat.zero_add, List.length_replicate, esInt_app, esInt_cons, esInt_nil, eInt_eq, esProp_app, esProp_cons, esProp_nil, eProp_eq, esPrefab_app, esPrefab_cons, esPrefab_nil, ePrefab_eq, esPrefabo_app, esPrefabo_cons, esPrefabo_nil, ePrefabo_eq]; done) | (simp [hC, List.length_append, List.length_cons, List.length_nil, List.append_nil, List.nil_append, List.cons_append, List.length_set, List.append_assoc, Nat.zero_add, List.length_replicate, esInt_app, esInt_cons, esInt_nil, eInt_eq, esProp_app, esProp_cons, esProp_nil, eProp_eq, esPrefab_app, esPrefab_cons, esPrefab_nil, ePrefab_eq, esPrefabo_app, esPrefabo_cons, esPrefabo_nil, ePrefabo_eq]; done) | omega)) : A := h hF hC
def p_spec_GoodPrefabs_tf := PLift.up (And.intro @eInt_eq (And.intro @esInt_len (And.intro @esInt_nil (And.intro @esInt_leaf (And.intro @esInt_fit (And.intro @eProp_eq (And.intro @esProp_len (And.intro @esProp_nil (And.intro @esProp_leaf (And.intro @esProp_fit (And.intro @ePrefab_eq (And.intro @esPrefab_len (And.intro @esPrefab_nil (And.intro @esPrefab_leaf (And.intro @esPrefab_fit (And.intro @ePrefabo_eq (And.intro @esPrefabo_len (And.intro @esPrefabo_nil (And.intro @esInt_share (And.intro @esInt_pure (And.intro @esProp_share (And.intro @esProp_pure (And.intro @esPrefabo_share (And.intro @esPrefabo_pure (And.intro @str_beq (And.intro @Ty.sl32 (And.intro @Ty.slz32 (And.intro @Ty.sl46 (And.intro @Ty.slz46 (And.intro @Ty.nz48 (And.intro @Ty.ldA48 (And.intro @Ty.sz48 (And.intro @Ty.szn48 (And.intro @Ty.nz3 (And.intro @Ty.ldA3 (And.intro @Ty.ldS3 (And.intro @Ty.sz3 (And.intro @Ty.szn3 (And.intro @Ty.nz9 (And.intro @Ty.ldA9 (And.intro @Ty.ldS9 (And.intro @Ty.sz9 (And.intro @Ty.szn9 (And.intro @Ty.nz25 (And.intro @Ty.ldA25 (And.intro @Ty.ldS25 (And.intro @Ty.sz25 (And.intro @Ty.szn25 (And.intro @Ty.fo48_1 (And.intro @Ty.fk48_1 (And.intro @Ty.fs48_1 (And.intro @Ty.fn48_1 (And.intro @Ty.fo48_0 (And.intro @Ty.fk48_0 (And.intro @Ty.fs48_0 (And.intro @Ty.fn48_0 (And.intro @Ty.fo48_2 (And.intro @Ty.fk48_2 (And.intro @Ty.fs48_2 (And.intro @Ty.fn48_2 (And.intro @Ty.nze46 (And.intro @Ty.zok46 (And.intro @Ty.by46 (And.intro @Ty.zs46 (And.intro @Ty.nze32 (And.intro @Ty.zok32 (And.intro @Ty.by32 (And.intro @Ty.zs32 (And.intro @Ty.zv48 @trivial)))))))))))))))))))))))))))))))))))))))))))))))))))))))))))))))))))))
def p_spec_GoodPrefabs (N : Nat) (l_a0 : List GPrefab) : Option (Bool) := (if (l_a0.length : Int) > 40 then some false else ((mkl (l_a0.length : Int) (0 : Int)).bind fun m2 => ((p_spec_GoodPrefabs_l0 N l_a0 l_a0 0 m2).bind fun q_0 => match q_0 with | .ret r_ => some r_ | .out deep_32 => some true)))
theorem p_spec_GoodPrefabs_does (N : Nat) (l_a0 : List GPrefab) (r : Bool) (h : p_spec_GoodPrefabs N l_a0 = some r) : Does Tryd.prog 11 [.row false 3 l_a0.length (esPrefab l_a0)] (B r) := by
  rw [p_spec_GoodPrefabs] at h
  refine Does.bnd (fun hb => ?_)
  have hb2 : l_a0.length ≤ 9223372036854775807 := by simpa [AV.fitNs, AV.fitN] using hb
  have hl0 := hb2
  refine Does.walk (nt := 69) Tryd.func11 rfl rfl (by simp) (by decide) rfl (fun G0 X w0 pv => ?_)
  by_cases c1 : (l_a0.length : Int) > 40
  · rw [if_pos c1] at h
    have dc1 := decide_eq_true c1
    have ff := And.intro @dc1 p_spec_GoodPrefabs_tf.down
    try refine st_by ff ?_
    repeat' (first | exact trivial | refine And.intro sd ?_)
    cases h
    exact ret_q1 rfl (p_spec_GoodPrefabs_rt ff trivial)
  rw [if_neg c1] at h
  have dc1 := decide_eq_false c1
  obtain ⟨m2, em2, h⟩ := Option.bind_eq_some_iff.1 h
  try dsimp only at h
  obtain ⟨f3b, f3c, f3d⟩ := mkl_ok em2
  have f3a : (zCells [.int .i64 0] l_a0.length).map AV.lit = esInt m2 := mkl_encN (enc := eInt) (by decide) rfl em2
  rw [Int.toNat_natCast] at f3c
  have hL_0 : l_a0.length ≤ 9223372036854775807 := by first | assumption | omega
  obtain ⟨q_0, eq_0, h⟩ := Option.bind_eq_some_iff.1 h
  have ff := And.intro @dc1 (And.intro @f3a p_spec_GoodPrefabs_tf.down)
  try refine st_by ff ?_
  repeat' (first | exact trivial | refine And.intro sd ?_)
  obtain ⟨I_0, hI_0⟩ : ∃ I_ : (Nat × (List Int)) → ASt → Prop, I_ = (fun (a : Nat × (List Int)) σ => match a with | (i_0, deep_32) => (i_0 ≤ l_a0.length ∧ p_spec_GoodPrefabs_l0 N l_a0 (l_a0.drop i_0) i_0 deep_32 = some q_0) ∧ σ.t 0 = .row false 3 l_a0.length (esPrefab l_a0) ∧ σ.t 3 = .sl 3 [] 0 deep_32.length ∧ σ.t 13 = .row false 3 l_a0.length (esPrefab l_a0) ∧ σ.t 14 = I (l_a0.length : Int) ∧ σ.t 15 = I (i_0 : Int) ∧ σ.m 3 = some (.row true 1 deep_32.length (esInt deep_32))) := ⟨_, rfl⟩
  obtain ⟨M_0, hM_0⟩ : ∃ M_ : (Nat × (List Int)) → Nat, M_ = (fun (a : Nat × (List Int)) => match a with | (i_0, deep_32) => l_a0.length - i_0) := ⟨_, rfl⟩
  obtain ⟨J_0, hJ_0⟩ : ∃ J_ : ASt → Prop, J_ = (fun σ => ∃ deep_32 : List Int, (some (.out deep_32) = some q_0) ∧ True) := ⟨_, rfl⟩
  refine aw_loopC (id := 0) I_0 M_0 J_0 (0, m2) ?_ ?_ ?_
  · rw [hI_0]
    refine ⟨⟨Nat.zero_le _, eq_0⟩, ?_⟩
    exact p_spec_GoodPrefabs_pv ff @f3c
  · try clear ff
    rintro ⟨i_0, deep_32⟩ σ hg_0
    rw [hI_0] at hg_0
    obtain ⟨⟨hi_0, h_0⟩, g0_0, g1_0, g2_0, g3_0, g4_0, g5_0⟩ := hg_0
    cases hr_0 : l_a0.drop i_0 with
    | nil =>
      rw [hr_0] at h_0
      rw [p_spec_GoodPrefabs_l0] at h_0
      have hn_0 := drop_nil hr_0
      have dr_0 : decide ((i_0 : Int) < (l_a0.length : Int)) = false := decide_eq_false (by omega)
      have ff := And.intro @dc1 (And.intro @f3a (And.intro @dr_0 (And.intro @g0_0 (And.intro @g1_0 (And.intro @g2_0 (And.intro @g3_0 (And.intro @g4_0 (And.intro @g5_0 p_spec_GoodPrefabs_tf.down))))))))
      try refine st_by ff ?_
      repeat' (first | exact trivial | refine And.intro sd ?_)
      refine JW.intro ?_
      rw [hJ_0]
      refine ⟨deep_32, h_0, ?_⟩
      exact p_spec_GoodPrefabs_pv ff @f3c
    | cons x_0 r_0 =>
      rw [hr_0] at h_0
      rw [p_spec_GoodPrefabs_l0] at h_0
      obtain ⟨ht_0, hg_0, hd_0⟩ := drop_cons hr_0
      have dr_0 : decide ((i_0 : Int) < (l_a0.length : Int)) = true := decide_eq_true (by omega)
      have w_0 : IntKind.i64.wrap ((i_0 : Int) + 1) = ((i_0 + 1 : Nat) : Int) := wI _ (by omega) (by omega)
      have kk0c : (esPrefab l_a0).drop (i_0 * 3) = ePrefab x_0 ++ esPrefab (l_a0.drop (i_0 + 1)) := drop_enc (fun _ => rfl) (hg_0)
      obtain ⟨x60, ex60, h_0⟩ := Option.bind_eq_some_iff.1 h_0
      try dsimp only at h_0
      have f61a := idx_lo ex60
      have f61b := idx_hi ex60
      have f61c : (esInt deep_32).drop (i_0 * 1) = eInt x60 ++ esInt (deep_32.drop (i_0 + 1)) := drop_enc (fun _ => rfl) (idx_get ex60)
      have f61d := f61c
      rw [Nat.mul_one] at f61d
      have f61g0 : (esInt deep_32).getD (i_0 * 1) .junk = (eInt x60).getD 0 .junk := getD_enc0 (enc := eInt) (sz := 1) (fun _ => rfl) (idx_get ex60) (by decide)
      rw [Nat.mul_one] at f61g0
      have w62l : i_0 < deep_32.length := (List.getElem?_eq_some_iff.1 (idx_get ex60)).1
      have w62a : (esInt deep_32).set (i_0 * 1) (I 1) = esInt (deep_32.set i_0 1) := set_enc0 (enc := eInt) (sz := 1) (fun _ => rfl) (idx_get ex60) (by decide) rfl
      rw [Nat.mul_one] at w62a
      have w62b : (deep_32.set i_0 1).length = deep_32.length := List.length_set
      have ff := And.intro @dc1 (And.intro @f3a (And.intro @dr_0 (And.intro @w_0 (And.intro @g0_0 (And.intro @g1_0 (And.intro @g2_0 (And.intro @g3_0 (And.intro @g4_0 (And.intro @g5_0 (And.intro @kk0c (And.intro @f61c (And.intro @f61d (And.intro @f61g0 (And.intro @w62a p_spec_GoodPrefabs_tf.down))))))))))))))
      try refine st_by ff ?_
      repeat' (first | exact trivial | refine And.intro sd ?_)
      try clear ff
      generalize hk_0 : thenK _ _ = kk_0
      have key_0 : ∀ σ, (∃ deep_63 : List Int, (p_spec_GoodPrefabs_j0 N l_a0 x_0 i_0 (p_spec_GoodPrefabs_l0 N l_a0 r_0) deep_63 = some q_0) ∧ σ.t 0 = .row false 3 l_a0.length (esPrefab l_a0) ∧ σ.t 3 = .sl 3 [] 0 deep_63.length ∧ σ.t 4 = I (i_0 : Int) ∧ σ.t 5 = .ptr 5 [] 0 ∧ σ.t 13 = .row false 3 l_a0.length (esPrefab l_a0) ∧ σ.t 14 = I (l_a0.length : Int) ∧ σ.t 15 = I (i_0 : Int) ∧ σ.m 3 = some (.row true 1 deep_63.length (esInt deep_63)) ∧ σ.m 5 = some (.box true [S x_0.Name, S x_0.From, .row false 2 x_0.Props.length (esProp x_0.Props)])) → kk_0 .nm σ := by
        rintro σ ⟨deep_63, h_0, g0_j0, g1_j0, g2_j0, g3_j0, g4_j0, g5_j0, g6_j0, g7_j0, g8_j0⟩
        rw [← hk_0]
        rw [p_spec_GoodPrefabs_j0] at h_0
        by_cases c64 : x_0.Name.size ≤ 9223372036854775807
        case neg => rw [if_neg c64] at h_0; cases h_0
        rw [if_pos c64] at h_0
        have ff := And.intro @dc1 (And.intro @f3a (And.intro @dr_0 (And.intro @w_0 (And.intro @kk0c (And.intro @f61c (And.intro @f61d (And.intro @f61g0 (And.intro @w62a (And.intro @g0_j0 (And.intro @g1_j0 (And.intro @g2_j0 (And.intro @g3_j0 (And.intro @g4_j0 (And.intro @g5_j0 (And.intro @g6_j0 (And.intro @g7_j0 (And.intro @g8_j0 p_spec_GoodPrefabs_tf.down)))))))))))))))))
        try refine st_by ff ?_
        repeat' (first | exact trivial | refine And.intro sd ?_ | (refine aw_drawn (id := 13) ?_ [[], [0], [0, 1], [0, 1, 2], [0, 1, 2, 3], [0, 1, 2, 3, 4], [0, 1, 2, 3, 4], [0, 1, 2, 3, 4, 5, 6], [0, 1, 2, 3, 4], [0, 1, 2, 3, 4, 8], [0, 1, 2, 3, 4, 5, 6, 7, 8, 9], [0, 1, 2, 3, 4, 5, 6, 7, 8, 9, 10], [0, 1, 2, 3, 4, 5, 6, 7, 8, 9, 10, 11], [0, 1, 2, 3, 4, 5, 6, 7, 8, 9, 10, 11, 12], [0, 1, 2, 3, 4, 5, 6, 7, 8, 9, 10, 11, 12, 13], [0, 1, 2, 3, 4, 5, 6, 7, 8, 9, 10, 11, 12, 13], [0, 1, 2, 3, 4, 5, 6, 7, 8, 9, 10, 11, 12, 13, 14, 15], [0, 1, 2, 3, 4, 5, 6, 7, 8, 9, 10, 11, 12, 13, 14, 15, 16], [0, 1, 2, 3, 4, 5, 6, 7, 8, 9, 10, 11, 12, 13, 14, 15, 16, 17], [0, 1, 2, 3, 4, 5, 6, 7, 8, 9, 10, 11, 12, 13, 14, 15, 16, 17, 18], [0, 1, 2, 3, 4, 5, 6, 7, 8, 9, 10, 11, 12, 13, 14, 15, 16, 17, 18, 19], [0, 1, 2, 3, 4, 5, 6, 7, 8, 9, 10, 11, 12, 13, 14, 15, 16, 17, 18, 19, 20], [0, 1, 2, 3, 4, 5, 6, 7, 8, 9, 10, 11, 12, 13, 14, 15, 16, 17, 18, 19, 20, 21], [0, 1, 2, 3, 4, 5, 6, 7, 8, 9, 10, 11, 12, 13, 14, 15, 16, 17, 18, 19, 20, 21, 22], [0, 1, 2, 3, 4, 5, 6, 7, 8, 9, 10, 11, 12, 13, 14, 15, 16, 17, 18, 19, 20, 21, 22, 23], [0, 1, 2, 3, 4, 5, 6, 7, 8, 9, 10, 11, 12, 13, 14, 15, 16, 17, 18, 19, 20, 21, 22, 23, 24]] 16 ?_ ?_; (· kernel_rfl); (· kernel_rfl); refine st_by ff ?_))
        first
        | (refine cq_call (specGoodName_does x_0.Name (by first | assumption | omega)) (hf_by ff) kr ⟨p_spec_GoodPrefabs_sa ff @f3c, ?_⟩; clear ff)
        | (refine cq_dcall (specGoodName_does x_0.Name (by first | assumption | omega)) (hf_by ff) kr ⟨p_spec_GoodPrefabs_sa ff @f3c, ?_⟩; clear ff)
        by_cases c65 : (goodName x_0.Name) = true
        case neg =>
         rw [if_neg c65] at h_0
         have dc65 := eq_false_of_ne_true c65
         cases h_0
         try dsimp only at h
         have ff := And.intro @dc1 (And.intro @f3a (And.intro @dr_0 (And.intro @w_0 (And.intro @kk0c (And.intro @f61c (And.intro @f61d (And.intro @f61g0 (And.intro @w62a (And.intro @g0_j0 (And.intro @g1_j0 (And.intro @g2_j0 (And.intro @g3_j0 (And.intro @g4_j0 (And.intro @g5_j0 (And.intro @g6_j0 (And.intro @g7_j0 (And.intro @g8_j0 (And.intro @dc65 p_spec_GoodPrefabs_tf.down))))))))))))))))))
         try refine st_by ff ?_
         repeat' (first | exact trivial | refine And.intro sd ?_)
         cases h
         exact ret_q1 rfl (p_spec_GoodPrefabs_rt ff @f3c)
        rw [if_pos c65] at h_0
        have dc65 := c65
        obtain ⟨m66, em66, h_0⟩ := Option.bind_eq_some_iff.1 h_0
        try dsimp only at h_0
        obtain ⟨f67a, f67b⟩ := slc_ok em66
        have f67c : (esPrefab l_a0).take (i_0 * 3) = esPrefab m66 := slc_encL (enc := ePrefab) (fun _ => rfl) em66
        have f67d : m66.length = i_0 := (slc_lenL em66).symm
        obtain ⟨v68, ev68, h_0⟩ := Option.bind_eq_some_iff.1 h_0
        try dsimp only at h_0
        have ff := And.intro @dc1 (And.intro @f3a (And.intro @dr_0 (And.intro @w_0 (And.intro @kk0c (And.intro @f61c (And.intro @f61d (And.intro @f61g0 (And.intro @w62a (And.intro @g0_j0 (And.intro @g1_j0 (And.intro @g2_j0 (And.intro @g3_j0 (And.intro @g4_j0 (And.intro @g5_j0 (And.intro @g6_j0 (And.intro @g7_j0 (And.intro @g8_j0 (And.intro @dc65 (And.intro @f67c p_spec_GoodPrefabs_tf.down)))))))))))))))))))
        try refine st_by ff ?_
        repeat' (first | exact trivial | refine And.intro sd ?_)
        first
        | (refine cq_call (p_spec_l26Prefab_does m66 x_0.Name v68 ev68) (hf_by ff) kr ⟨p_spec_GoodPrefabs_sa ff (And.intro @f3c @f67d), ?_⟩; clear ff)
        | (refine cq_dcall (p_spec_l26Prefab_does m66 x_0.Name v68 ev68) (hf_by ff) kr ⟨p_spec_GoodPrefabs_sa ff (And.intro @f3c @f67d), ?_⟩; clear ff)
        by_cases c69 : v68 ≥ 0
        · rw [if_pos c69] at h_0
          have dc69 := decide_eq_true c69
          cases h_0
          try dsimp only at h
          have ff := And.intro @dc1 (And.intro @f3a (And.intro @dr_0 (And.intro @w_0 (And.intro @kk0c (And.intro @f61c (And.intro @f61d (And.intro @f61g0 (And.intro @w62a (And.intro @g0_j0 (And.intro @g1_j0 (And.intro @g2_j0 (And.intro @g3_j0 (And.intro @g4_j0 (And.intro @g5_j0 (And.intro @g6_j0 (And.intro @g7_j0 (And.intro @g8_j0 (And.intro @dc65 (And.intro @f67c (And.intro @dc69 p_spec_GoodPrefabs_tf.down))))))))))))))))))))
          try refine st_by ff ?_
          repeat' (first | exact trivial | refine And.intro sd ?_)
          cases h
          exact ret_q1 rfl (p_spec_GoodPrefabs_rt ff (And.intro @f3c @f67d))
        rw [if_neg c69] at h_0
        have dc69 := decide_eq_false c69
        obtain ⟨x70, ex70, h_0⟩ := Option.bind_eq_some_iff.1 h_0
        try dsimp only at h_0
        have f71a := idx_lo ex70
        have f71b := idx_hi ex70
        have f71c : (esInt deep_63).drop (i_0 * 1) = eInt x70 ++ esInt (deep_63.drop (i_0 + 1)) := drop_enc (fun _ => rfl) (idx_get ex70)
        have f71d := f71c
        rw [Nat.mul_one] at f71d
        have f71g0 : (esInt deep_63).getD (i_0 * 1) .junk = (eInt x70).getD 0 .junk := getD_enc0 (enc := eInt) (sz := 1) (fun _ => rfl) (idx_get ex70) (by decide)
        rw [Nat.mul_one] at f71g0
        by_cases c72 : x70 > 5
        · rw [if_pos c72] at h_0
          have dc72 := decide_eq_true c72
          cases h_0
          try dsimp only at h
          have ff := And.intro @dc1 (And.intro @f3a (And.intro @dr_0 (And.intro @w_0 (And.intro @kk0c (And.intro @f61c (And.intro @f61d (And.intro @f61g0 (And.intro @w62a (And.intro @g0_j0 (And.intro @g1_j0 (And.intro @g2_j0 (And.intro @g3_j0 (And.intro @g4_j0 (And.intro @g5_j0 (And.intro @g6_j0 (And.intro @g7_j0 (And.intro @g8_j0 (And.intro @dc65 (And.intro @f67c (And.intro @dc69 (And.intro @f71c (And.intro @f71d (And.intro @f71g0 (And.intro @dc72 p_spec_GoodPrefabs_tf.down))))))))))))))))))))))))
          try refine st_by ff ?_
          repeat' (first | exact trivial | refine And.intro sd ?_)
          cases h
          exact ret_q1 rfl (p_spec_GoodPrefabs_rt ff (And.intro @f3c @f67d))
        rw [if_neg c72] at h_0
        have dc72 := decide_eq_false c72
        obtain ⟨v73, ev73, h_0⟩ := Option.bind_eq_some_iff.1 h_0
        try dsimp only at h_0
        have ff := And.intro @dc1 (And.intro @f3a (And.intro @dr_0 (And.intro @w_0 (And.intro @kk0c (And.intro @f61c (And.intro @f61d (And.intro @f61g0 (And.intro @w62a (And.intro @g0_j0 (And.intro @g1_j0 (And.intro @g2_j0 (And.intro @g3_j0 (And.intro @g4_j0 (And.intro @g5_j0 (And.intro @g6_j0 (And.intro @g7_j0 (And.intro @g8_j0 (And.intro @dc65 (And.intro @f67c (And.intro @dc69 (And.intro @f71c (And.intro @f71d (And.intro @f71g0 (And.intro @dc72 p_spec_GoodPrefabs_tf.down))))))))))))))))))))))))
        try refine st_by ff ?_
        repeat' (first | exact trivial | refine And.intro sd ?_)
        first
        | (refine cq_call (p_spec_GoodProps_does N x_0.Props v73 ev73) (hf_by ff) kr ⟨p_spec_GoodPrefabs_sa ff (And.intro @f3c @f67d), ?_⟩; clear ff)
        | (refine cq_dcall (p_spec_GoodProps_does N x_0.Props v73 ev73) (hf_by ff) kr ⟨p_spec_GoodPrefabs_sa ff (And.intro @f3c @f67d), ?_⟩; clear ff)
        by_cases c74 : v73 = true
        case neg =>
         rw [if_neg c74] at h_0
         have dc74 := eq_false_of_ne_true c74
         cases h_0
         try dsimp only at h
         have ff := And.intro @dc1 (And.intro @f3a (And.intro @dr_0 (And.intro @w_0 (And.intro @kk0c (And.intro @f61c (And.intro @f61d (And.intro @f61g0 (And.intro @w62a (And.intro @g0_j0 (And.intro @g1_j0 (And.intro @g2_j0 (And.intro @g3_j0 (And.intro @g4_j0 (And.intro @g5_j0 (And.intro @g6_j0 (And.intro @g7_j0 (And.intro @g8_j0 (And.intro @dc65 (And.intro @f67c (And.intro @dc69 (And.intro @f71c (And.intro @f71d (And.intro @f71g0 (And.intro @dc72 (And.intro @dc74 p_spec_GoodPrefabs_tf.down)))))))))))))))))))))))))
         try refine st_by ff ?_
         repeat' (first | exact trivial | refine And.intro sd ?_)
         cases h
         exact ret_q1 rfl (p_spec_GoodPrefabs_rt ff (And.intro @f3c @f67d))
        rw [if_pos c74] at h_0
        have dc74 := c74
        have ff := And.intro @dc1 (And.intro @f3a (And.intro @dr_0 (And.intro @w_0 (And.intro @kk0c (And.intro @f61c (And.intro @f61d (And.intro @f61g0 (And.intro @w62a (And.intro @g0_j0 (And.intro @g1_j0 (And.intro @g2_j0 (And.intro @g3_j0 (And.intro @g4_j0 (And.intro @g5_j0 (And.intro @g6_j0 (And.intro @g7_j0 (And.intro @g8_j0 (And.intro @dc65 (And.intro @f67c (And.intro @dc69 (And.intro @f71c (And.intro @f71d (And.intro @f71g0 (And.intro @dc72 (And.intro @dc74 p_spec_GoodPrefabs_tf.down)))))))))))))))))))))))))
        try refine st_by ff ?_
        repeat' (first | exact trivial | refine And.intro sd ?_)
        refine Back.intro (i_0 + 1, deep_63) ?_ ?_
        · clear ff; rw [hM_0]; show l_a0.length - (i_0 + 1) < l_a0.length - i_0; omega
        rw [hI_0]
        refine ⟨⟨by clear ff; show i_0 + 1 ≤ l_a0.length; omega, by show p_spec_GoodPrefabs_l0 N l_a0 (l_a0.drop (i_0 + 1)) (i_0 + 1) deep_63 = some q_0; rw [hd_0]; exact h_0⟩, ?_⟩
        exact p_spec_GoodPrefabs_pv ff (And.intro @f3c @f67d)
      have hrt_0 := fun σ : ASt => congrFun (congrFun hk_0.symm AX.rt) σ
      have hex_0 := fun (i : Nat) (σ : ASt) => congrFun (congrFun hk_0.symm (AX.ex i)) σ
      by_cases c75 : x_0.From = (⟨#[]⟩ : ByteArray)
      · rw [if_pos c75] at h_0
        have dc75 := decide_eq_true c75
        have ff := And.intro @dc1 (And.intro @f3a (And.intro @dr_0 (And.intro @w_0 (And.intro @g0_0 (And.intro @g1_0 (And.intro @g2_0 (And.intro @g3_0 (And.intro @g4_0 (And.intro @g5_0 (And.intro @kk0c (And.intro @f61c (And.intro @f61d (And.intro @f61g0 (And.intro @w62a (And.intro @hrt_0 (And.intro @hex_0 (And.intro @dc75 p_spec_GoodPrefabs_tf.down)))))))))))))))))
        try refine st_by ff ?_
        repeat' (first | exact trivial | refine And.intro sd ?_)
        refine key_0 _ ?_
        refine ⟨(deep_32.set i_0 1), h_0, ?_⟩
        exact p_spec_GoodPrefabs_pv ff @f3c
      rw [if_neg c75] at h_0
      have dc75 := decide_eq_false c75
      obtain ⟨m76, em76, h_0⟩ := Option.bind_eq_some_iff.1 h_0
      try dsimp only at h_0
      obtain ⟨f77a, f77b⟩ := slc_ok em76
      have f77c : (esPrefab l_a0).take (i_0 * 3) = esPrefab m76 := slc_encL (enc := ePrefab) (fun _ => rfl) em76
      have f77d : m76.length = i_0 := (slc_lenL em76).symm
      obtain ⟨v78, ev78, h_0⟩ := Option.bind_eq_some_iff.1 h_0
      try dsimp only at h_0
      have ff := And.intro @dc1 (And.intro @f3a (And.intro @dr_0 (And.intro @w_0 (And.intro @g0_0 (And.intro @g1_0 (And.intro @g2_0 (And.intro @g3_0 (And.intro @g4_0 (And.intro @g5_0 (And.intro @kk0c (And.intro @f61c (And.intro @f61d (And.intro @f61g0 (And.intro @w62a (And.intro @hrt_0 (And.intro @hex_0 (And.intro @dc75 (And.intro @f77c p_spec_GoodPrefabs_tf.down))))))))))))))))))
      try refine st_by ff ?_
      repeat' (first | exact trivial | refine And.intro sd ?_ | (refine aw_drawn (id := 9) ?_ [[], [], [0, 1], [], [3], [0, 1, 2, 3, 4], [0, 1, 2, 3, 4, 5]] 5 ?_ ?_; (· kernel_rfl); (· kernel_rfl); refine st_by ff ?_))
      first
      | (refine cq_call (p_spec_l26Prefab_does m76 x_0.From v78 ev78) (hf_by ff) kr ⟨p_spec_GoodPrefabs_sa ff (And.intro @f3c @f77d), ?_⟩; clear ff)
      | (refine cq_dcall (p_spec_l26Prefab_does m76 x_0.From v78 ev78) (hf_by ff) kr ⟨p_spec_GoodPrefabs_sa ff (And.intro @f3c @f77d), ?_⟩; clear ff)
      by_cases c79 : v78 < 0
      · rw [if_pos c79] at h_0
        have dc79 := decide_eq_true c79
        cases h_0
        try dsimp only at h
        have ff := And.intro @dc1 (And.intro @f3a (And.intro @dr_0 (And.intro @w_0 (And.intro @g0_0 (And.intro @g1_0 (And.intro @g2_0 (And.intro @g3_0 (And.intro @g4_0 (And.intro @g5_0 (And.intro @kk0c (And.intro @f61c (And.intro @f61d (And.intro @f61g0 (And.intro @w62a (And.intro @hrt_0 (And.intro @hex_0 (And.intro @dc75 (And.intro @f77c (And.intro @dc79 p_spec_GoodPrefabs_tf.down)))))))))))))))))))
        try refine st_by ff ?_
        repeat' (first | exact trivial | refine And.intro sd ?_)
        cases h
        exact ret_q1 rfl (p_spec_GoodPrefabs_rt ff (And.intro @f3c @f77d))
      rw [if_neg c79] at h_0
      have dc79 := decide_eq_false c79
      obtain ⟨x80, ex80, h_0⟩ := Option.bind_eq_some_iff.1 h_0
      try dsimp only at h_0
      have f81a := idx_lo ex80
      have f81b := idx_hi ex80
      have f81c : (esInt (deep_32.set i_0 1)).drop (v78.toNat * 1) = eInt x80 ++ esInt ((deep_32.set i_0 1).drop (v78.toNat + 1)) := drop_enc (fun _ => rfl) (idx_get ex80)
      have f81d := f81c
      rw [Nat.mul_one] at f81d
      have f81g0 : (esInt (deep_32.set i_0 1)).getD (v78.toNat * 1) .junk = (eInt x80).getD 0 .junk := getD_enc0 (enc := eInt) (sz := 1) (fun _ => rfl) (idx_get ex80) (by decide)
      rw [Nat.mul_one] at f81g0
      have f82c : (esInt (deep_32.set i_0 1)).drop (i_0 * 1) = eInt 1 ++ esInt ((deep_32.set i_0 1).drop (i_0 + 1)) := drop_enc (fun _ => rfl) (List.getElem?_set_self w62l)
      have f82d := f82c
      rw [Nat.mul_one] at f82d
      have f82g0 : (esInt (deep_32.set i_0 1)).getD (i_0 * 1) .junk = (eInt 1).getD 0 .junk := getD_enc0 (enc := eInt) (sz := 1) (fun _ => rfl) (List.getElem?_set_self w62l) (by decide)
      rw [Nat.mul_one] at f82g0
      have w83l : i_0 < (deep_32.set i_0 1).length := (List.getElem?_eq_some_iff.1 (List.getElem?_set_self w62l)).1
      have w83a : (esInt (deep_32.set i_0 1)).set (i_0 * 1) (I (IntKind.i64.wrap (x80 + 1))) = esInt ((deep_32.set i_0 1).set i_0 (IntKind.i64.wrap (x80 + 1))) := set_enc0 (enc := eInt) (sz := 1) (fun _ => rfl) (List.getElem?_set_self w62l) (by decide) rfl
      rw [Nat.mul_one] at w83a
      have w83b : ((deep_32.set i_0 1).set i_0 (IntKind.i64.wrap (x80 + 1))).length = (deep_32.set i_0 1).length := List.length_set
      have ff := And.intro @dc1 (And.intro @f3a (And.intro @dr_0 (And.intro @w_0 (And.intro @g0_0 (And.intro @g1_0 (And.intro @g2_0 (And.intro @g3_0 (And.intro @g4_0 (And.intro @g5_0 (And.intro @kk0c (And.intro @f61c (And.intro @f61d (And.intro @f61g0 (And.intro @w62a (And.intro @hrt_0 (And.intro @hex_0 (And.intro @dc75 (And.intro @f77c (And.intro @dc79 (And.intro @f81c (And.intro @f81d (And.intro @f81g0 (And.intro @f82c (And.intro @f82d (And.intro @f82g0 (And.intro @w83a p_spec_GoodPrefabs_tf.down))))))))))))))))))))))))))
      try refine st_by ff ?_
      repeat' (first | exact trivial | refine And.intro sd ?_)
      refine key_0 _ ?_
      refine ⟨((deep_32.set i_0 1).set i_0 (IntKind.i64.wrap (x80 + 1))), h_0, ?_⟩
      exact p_spec_GoodPrefabs_pv ff (And.intro @f3c @f77d)
  · try clear ff
    rintro σ hg_0
    rw [hJ_0] at hg_0
    obtain ⟨deep_32, hj_0, _⟩ := hg_0
    cases hj_0
    try dsimp only at h
    have ff := And.intro @dc1 (And.intro @f3a p_spec_GoodPrefabs_tf.down)
    try refine st_by ff ?_
    repeat' (first | exact trivial | refine And.intro sd ?_)
    cases h
    exact ret_q1 rfl (p_spec_GoodPrefabs_rt ff @f3c)
/-! impl.prefabAt$1 -/
theorem p_impl_prefabAt_1_rt {F C A : Prop} (hF : F) (hC : C) (h : F → C → A := by intro hF hC; first | (refine sr_by hF ?_; (repeat' (first | exact trivial | apply And.intro)); all_goals (clear hF; first | rfl | (simp only [hC, List.length_append, List.length_cons, List.length_nil, List.append_nil, List.nil_append, List.cons_append, List.length_set, List.append_assoc, Nat.zero_add, List.length_replicate, esStr_app, esStr_cons, esStr_nil, eStr_eq, esProp_app, esProp_cons, esProp_nil, eProp_eq, esPrefab_app, esPrefab_cons, esPrefab_nil, ePrefab_eq, esPrefabo_app, esPrefabo_cons, esPrefabo_nil, ePrefabo_eq]; done) | (simp [hC, List.length_append, List.length_cons, List.length_nil, List.append_nil, List.nil_append, List.cons_append, List.length_set, List.append_assoc, Nat.zero_add, List.length_replicate, esStr_app, esStr_cons, esStr_nil, eStr_eq, esProp_app, esProp_cons, esProp_nil, eProp_eq, esPrefab_app, esPrefab_cons, esPrefab_nil, ePrefab_eq, esPrefabo_app, esPrefabo_cons, esPrefabo_nil, ePrefabo_eq]; done) | omega)) | (first | rfl | (simp only [hC, List.length_append, List.length_cons, List.length_nil, List.append_nil, List.nil_append, List.cons_append, List.length_set, List.append_assoc, Nat.zero_add, List.length_replicate, esStr_app, esStr_cons, esStr_nil, eStr_eq, esProp_app, esProp_cons, esProp_nil, eProp_eq, esPrefab_app, esPrefab_cons, esPrefab_nil, ePrefab_eq, esPrefabo_app, esPrefabo_cons, esPrefabo_nil, ePrefabo_eq]; done) | (simp [hC, List.length_append, List.length_cons, List.length_nil, List.append_nil, List.nil_append, List.cons_append, List.length_set, List.append_assoc, Nat.zero_add, List.length_replicate, esStr_app, esStr_cons, esStr_nil, eStr_eq, esProp_app, esProp_cons, esProp_nil, eProp_eq, esPrefab_app, esPrefab_cons, esPrefab_nil, ePrefab_eq, esPrefabo_app, esPrefabo_cons, esPrefabo_nil, ePrefabo_eq]; done) | omega)) : A := h hF hC
def p_impl_prefabAt_1_tf := PLift.up (And.intro @eStr_eq (And.intro @esStr_len (And.intro @esStr_nil (And.intro @esStr_leaf (And.intro @esStr_fit (And.intro @eProp_eq (And.intro @esProp_len (And.intro @esProp_nil (And.intro @esProp_leaf (And.intro @esProp_fit (And.intro @ePrefab_eq (And.intro @esPrefab_len (And.intro @esPrefab_nil (And.intro @esPrefab_leaf (And.intro @esPrefab_fit (And.intro @ePrefabo_eq (And.intro @esPrefabo_len (And.intro @esPrefabo_nil (And.intro @esStr_share (And.intro @esStr_pure (And.intro @esProp_share (And.intro @esProp_pure (And.intro @esPrefabo_share (And.intro @esPrefabo_pure (And.intro @str_beq (And.intro @Ty.nz9 (And.intro @Ty.ldA9 (And.intro @Ty.ldS9 (And.intro @Ty.sz9 (And.intro @Ty.szn9 (And.intro @Ty.fo48_0 (And.intro @Ty.fk48_0 (And.intro @Ty.fs48_0 (And.intro @Ty.fn48_0 @trivial))))))))))))))))))))))))))))))))))
def p_impl_prefabAt_1 (p_a0 : GPrefab) (k0_ : ByteArray) : Option (Bool) := some (decide (p_a0.Name = k0_))
theorem p_impl_prefabAt_1_does (p_a0 : GPrefab) (k0_ : ByteArray) (r : Bool) (h : p_impl_prefabAt_1 p_a0 k0_ = some r) : Does Tryd.prog 38 [.agg (ePrefab p_a0), .box false (eStr k0_)] (B r) := by
  rw [p_impl_prefabAt_1] at h
  refine Does.bnd (fun hb => ?_)
  have hb2 : p_a0.Props.length ≤ 9223372036854775807 := by simpa [AV.fitNs, AV.fitN, ePrefab] using hb
  have hl0 := hb2
  refine Does.walk (nt := 8) Tryd.func38 rfl rfl (by simp) (by decide) rfl (fun G0 X w0 pv => ?_)
  have ff := p_impl_prefabAt_1_tf.down
  try refine st_by ff ?_
  repeat' (first | exact trivial | refine And.intro sd ?_)
  cases h
  exact ret_q1 rfl (p_impl_prefabAt_1_rt ff trivial)
/-! slices.IndexFunc[[]impl.Prefab,impl.Prefab] -/
def p_slices_IndexFunc_impl_Prefab_impl_Prefab_l0 (f_a1 : GPrefab → Option Bool) : List GPrefab → Nat → Option (LR (Int) (Unit))
  | [], i_0 => some (.out ())
  | x_0 :: r_0, i_0 => ((f_a1 x_0).bind fun v12 => (if v12 = true then some (.ret (i_0 : Int)) else p_slices_IndexFunc_impl_Prefab_impl_Prefab_l0 f_a1 r_0 (i_0 + 1)))
theorem p_slices_IndexFunc_impl_Prefab_impl_Prefab_pv {F C A : Prop} (hF : F) (hC : C) (h : F → C → A := by intro hF hC; first | exact cl_by hF | (refine st_by hF ?_; (repeat' (first | exact trivial | apply And.intro)); all_goals (clear hF; first | rfl | (simp only [hC, List.length_append, List.length_cons, List.length_nil, List.append_nil, List.nil_append, List.cons_append, List.length_set, List.append_assoc, Nat.zero_add, List.length_replicate, esPrefab_app, esPrefab_cons, esPrefab_nil, ePrefab_eq, esPrefabo_app, esPrefabo_cons, esPrefabo_nil, ePrefabo_eq]; done) | (simp [hC, List.length_append, List.length_cons, List.length_nil, List.append_nil, List.nil_append, List.cons_append, List.length_set, List.append_assoc, Nat.zero_add, List.length_replicate, esPrefab_app, esPrefab_cons, esPrefab_nil, ePrefab_eq, esPrefabo_app, esPrefabo_cons, esPrefabo_nil, ePrefabo_eq]; done) | omega))) : A := h hF hC
theorem p_slices_IndexFunc_impl_Prefab_impl_Prefab_sa {F C A : Prop} (hF : F) (hC : C) (h : F → C → A := by intro hF hC; first | exact ca_by hF | (refine sa_by hF ?_; (repeat' (first | exact trivial | apply And.intro)); all_goals (clear hF; first | rfl | (simp only [hC, List.length_append, List.length_cons, List.length_nil, List.append_nil, List.nil_append, List.cons_append, List.length_set, List.append_assoc, Nat.zero_add, List.length_replicate, esPrefab_app, esPrefab_cons, esPrefab_nil, ePrefab_eq, esPrefabo_app, esPrefabo_cons, esPrefabo_nil, ePrefabo_eq]; done) | (simp [hC, List.length_append, List.length_cons, List.length_nil, List.append_nil, List.nil_append, List.cons_append, List.length_set, List.append_assoc, Nat.zero_add, List.length_replicate, esPrefab_app, esPrefab_cons, esPrefab_nil, ePrefab_eq, esPrefabo_app, esPrefabo_cons, esPrefabo_nil, ePrefabo_eq]; done) | omega))) : A := h hF hC
theorem p_slices_IndexFunc_impl_Prefab_impl_Prefab_rt {F C A : Prop} (hF : F) (hC : C) (h : F → C → A := by intro hF hC; first | (refine sr_by hF ?_; (repeat' (first | exact trivial | apply And.intro)); all_goals (clear hF; first | rfl | (simp only [hC, List.length_append, List.length_cons, List.length_nil, List.append_nil, List.nil_append, List.cons_append, List.length_set, List.append_assoc, Nat.zero_add, List.length_replicate, esPrefab_app, esPrefab_cons, esPrefab_nil, ePrefab_eq, esPrefabo_app, esPrefabo_cons, esPrefabo_nil, ePrefabo_eq]; done) | (simp [hC, List.length_append, List.length_cons, List.length_nil, List.append_nil, List.nil_append, List.cons_append, List.length_set, List.append_assoc, Nat.zero_add, List.length_replicate, esPrefab_app, esPrefab_cons, esPrefab_nil, ePrefab_eq, esPrefabo_app, esPrefabo_cons, esPrefabo_nil, ePrefabo_eq]; done) | omega)) | (first | rfl | (simp only [hC, List.length_append, List.length_cons, List.length_nil, List.append_nil, List.nil_append, List.cons_append, List.length_set, List.append_assoc, Nat.zero_add, List.length_replicate, esPrefab_app, esPrefab_cons, esPrefab_nil, ePrefab_eq, esPrefabo_app, esPrefabo_cons, esPrefabo_nil, ePrefabo_eq]; done) | (simp [hC, List.length_append, List.length_cons, List.length_nil, List.append_nil, List.nil_append, List.cons_append, List.length_set, List.append_assoc, Nat.zero_add, List.length_replicate, esPrefab_app, esPrefab_cons, esPrefab_nil, ePrefab_eq, esPrefabo_app, esPrefabo_cons, esPrefabo_nil, ePrefabo_eq]; done) | omega)) : A := h hF hC
def p_slices_IndexFunc_impl_Prefab_impl_Prefab_tf := PLift.up (And.intro @ePrefab_eq (And.intro @esPrefab_len (And.intro @esPrefab_nil (And.intro @esPrefab_leaf (And.intro @esPrefab_fit (And.intro @ePrefabo_eq (And.intro @esPrefabo_len (And.intro @esPrefabo_nil (And.intro @esPrefabo_share (And.intro @esPrefabo_pure (And.intro @str_beq (And.intro @Ty.sl32 (And.intro @Ty.slz32 (And.intro @Ty.nz48 (And.intro @Ty.ldA48 (And.intro @Ty.sz48 (And.intro @Ty.szn48 @trivial)))))))))))))))))
def p_slices_IndexFunc_impl_Prefab_impl_Prefab (s_a0 : List GPrefab) (f_a1 : GPrefab → Option Bool) : Option (Int) := ((p_slices_IndexFunc_impl_Prefab_impl_Prefab_l0 f_a1 s_a0 0).bind fun q_0 => match q_0 with | .ret r_ => some r_ | .out _ => some (-1))
theorem p_slices_IndexFunc_impl_Prefab_impl_Prefab_does (s_a0 : List GPrefab) (f1 : FuncId) (caps1 : List AV) (hc1 : AV.noRefs caps1 = true) (he1 : entB Tryd.prog f1 = true) (f_a1 : GPrefab → Option Bool) (hp1 : ∀ (x0_ : GPrefab) (y_ : Bool), f_a1 x0_ = some y_ → Does Tryd.prog f1 ([.agg (ePrefab x0_)] ++ caps1) (B y_)) (r : Int) (h : p_slices_IndexFunc_impl_Prefab_impl_Prefab s_a0 f_a1 = some r) : Does Tryd.prog 37 [.row false 3 s_a0.length (esPrefab s_a0), .fn f1 caps1] (I r) := by
  rw [p_slices_IndexFunc_impl_Prefab_impl_Prefab] at h
  refine Does.bnd (fun hb => ?_)
  have hb2 : s_a0.length ≤ 9223372036854775807 := by simpa [AV.fitNs, AV.fitN] using hb
  have hl0 := hb2
  refine Does.walk (nt := 19) Tryd.func37 rfl rfl (by simp) (by decide) (by simp [AV.noRefs, AV.noRef, hc1]) (fun G0 X w0 pv => ?_)
  have hL_0 : s_a0.length ≤ 9223372036854775807 := by first | assumption | omega
  obtain ⟨q_0, eq_0, h⟩ := Option.bind_eq_some_iff.1 h
  have ff := And.intro @hc1 p_slices_IndexFunc_impl_Prefab_impl_Prefab_tf.down
  try refine st_by ff ?_
  repeat' (first | exact trivial | refine And.intro sd ?_)
  obtain ⟨I_0, hI_0⟩ : ∃ I_ : (Nat) → ASt → Prop, I_ = (fun (i_0 : Nat) σ => (i_0 ≤ s_a0.length ∧ p_slices_IndexFunc_impl_Prefab_impl_Prefab_l0 f_a1 (s_a0.drop i_0) i_0 = some q_0) ∧ σ.t 0 = .row false 3 s_a0.length (esPrefab s_a0) ∧ σ.t 1 = .fn f1 caps1 ∧ σ.t 7 = I (s_a0.length : Int) ∧ σ.t 8 = I (i_0 : Int)) := ⟨_, rfl⟩
  obtain ⟨M_0, hM_0⟩ : ∃ M_ : (Nat) → Nat, M_ = (fun (i_0 : Nat) => s_a0.length - i_0) := ⟨_, rfl⟩
  obtain ⟨J_0, hJ_0⟩ : ∃ J_ : ASt → Prop, J_ = (fun σ => (some (.out ()) = some q_0) ∧ True) := ⟨_, rfl⟩
  refine aw_loopC (id := 0) I_0 M_0 J_0 (0) ?_ ?_ ?_
  · rw [hI_0]
    refine ⟨⟨Nat.zero_le _, eq_0⟩, ?_⟩
    exact p_slices_IndexFunc_impl_Prefab_impl_Prefab_pv ff trivial
  · try clear ff
    rintro i_0 σ hg_0
    rw [hI_0] at hg_0
    obtain ⟨⟨hi_0, h_0⟩, g0_0, g1_0, g2_0, g3_0⟩ := hg_0
    cases hr_0 : s_a0.drop i_0 with
    | nil =>
      rw [hr_0] at h_0
      rw [p_slices_IndexFunc_impl_Prefab_impl_Prefab_l0] at h_0
      have hn_0 := drop_nil hr_0
      have dr_0 : decide ((i_0 : Int) < (s_a0.length : Int)) = false := decide_eq_false (by omega)
      have ff := And.intro @hc1 (And.intro @dr_0 (And.intro @g0_0 (And.intro @g1_0 (And.intro @g2_0 (And.intro @g3_0 p_slices_IndexFunc_impl_Prefab_impl_Prefab_tf.down)))))
      try refine st_by ff ?_
      repeat' (first | exact trivial | refine And.intro sd ?_)
      refine JW.intro ?_
      rw [hJ_0]
      refine ⟨h_0, ?_⟩
      exact p_slices_IndexFunc_impl_Prefab_impl_Prefab_pv ff trivial
    | cons x_0 r_0 =>
      rw [hr_0] at h_0
      rw [p_slices_IndexFunc_impl_Prefab_impl_Prefab_l0] at h_0
      obtain ⟨ht_0, hg_0, hd_0⟩ := drop_cons hr_0
      have dr_0 : decide ((i_0 : Int) < (s_a0.length : Int)) = true := decide_eq_true (by omega)
      have w_0 : IntKind.i64.wrap ((i_0 : Int) + 1) = ((i_0 + 1 : Nat) : Int) := wI _ (by omega) (by omega)
      have kk0c : (esPrefab s_a0).drop (i_0 * 3) = ePrefab x_0 ++ esPrefab (s_a0.drop (i_0 + 1)) := drop_enc (fun _ => rfl) (hg_0)
      obtain ⟨v12, ev12, h_0⟩ := Option.bind_eq_some_iff.1 h_0
      try dsimp only at h_0
      have ff := And.intro @hc1 (And.intro @dr_0 (And.intro @w_0 (And.intro @g0_0 (And.intro @g1_0 (And.intro @g2_0 (And.intro @g3_0 (And.intro @kk0c p_slices_IndexFunc_impl_Prefab_impl_Prefab_tf.down)))))))
      try refine st_by ff ?_
      repeat' (first | exact trivial | refine And.intro sd ?_)
      first
      | (refine cq_call (hp1 x_0 v12 ev12) (hf_by ff) he1 ⟨p_slices_IndexFunc_impl_Prefab_impl_Prefab_sa ff trivial, ?_⟩; clear ff)
      by_cases c13 : v12 = true
      · rw [if_pos c13] at h_0
        have dc13 := c13
        cases h_0
        try dsimp only at h
        have ff := And.intro @hc1 (And.intro @dr_0 (And.intro @w_0 (And.intro @g0_0 (And.intro @g1_0 (And.intro @g2_0 (And.intro @g3_0 (And.intro @kk0c (And.intro @dc13 p_slices_IndexFunc_impl_Prefab_impl_Prefab_tf.down))))))))
        try refine st_by ff ?_
        repeat' (first | exact trivial | refine And.intro sd ?_)
        cases h
        exact ret_q1 rfl (p_slices_IndexFunc_impl_Prefab_impl_Prefab_rt ff trivial)
      rw [if_neg c13] at h_0
      have dc13 := eq_false_of_ne_true c13
      have ff := And.intro @hc1 (And.intro @dr_0 (And.intro @w_0 (And.intro @g0_0 (And.intro @g1_0 (And.intro @g2_0 (And.intro @g3_0 (And.intro @kk0c (And.intro @dc13 p_slices_IndexFunc_impl_Prefab_impl_Prefab_tf.down))))))))
      try refine st_by ff ?_
      repeat' (first | exact trivial | refine And.intro sd ?_)
      refine Back.intro (i_0 + 1) ?_ ?_
      · clear ff; rw [hM_0]; show s_a0.length - (i_0 + 1) < s_a0.length - i_0; omega
      rw [hI_0]
      refine ⟨⟨by clear ff; show i_0 + 1 ≤ s_a0.length; omega, by show p_slices_IndexFunc_impl_Prefab_impl_Prefab_l0 f_a1 (s_a0.drop (i_0 + 1)) (i_0 + 1) = some q_0; rw [hd_0]; exact h_0⟩, ?_⟩
      exact p_slices_IndexFunc_impl_Prefab_impl_Prefab_pv ff trivial
  · try clear ff
    rintro σ hg_0
    rw [hJ_0] at hg_0
    obtain ⟨hj_0, _⟩ := hg_0
    cases hj_0
    try dsimp only at h
    have ff := And.intro @hc1 p_slices_IndexFunc_impl_Prefab_impl_Prefab_tf.down
    try refine st_by ff ?_
    repeat' (first | exact trivial | refine And.intro sd ?_)
    cases h
    exact ret_q1 rfl (p_slices_IndexFunc_impl_Prefab_impl_Prefab_rt ff trivial)
/-! impl.prefabAt -/
def p_impl_prefabAt_tf := PLift.up (And.intro @ePrefab_eq (And.intro @esPrefab_len (And.intro @esPrefab_nil (And.intro @esPrefab_leaf (And.intro @esPrefab_fit (And.intro @ePrefabo_eq (And.intro @esPrefabo_len (And.intro @esPrefabo_nil (And.intro @esPrefabo_share (And.intro @esPrefabo_pure (And.intro @str_beq @trivial)))))))))))
def p_impl_prefabAt (l_a0 : List GPrefab) (name_a1 : ByteArray) : Option (Int) := ((p_slices_IndexFunc_impl_Prefab_impl_Prefab l_a0 (fun x0_ => p_impl_prefabAt_1 x0_ name_a1)).bind fun v1 => some v1)
theorem p_impl_prefabAt_does (l_a0 : List GPrefab) (name_a1 : ByteArray) (r : Int) (h : p_impl_prefabAt l_a0 name_a1 = some r) : Does Tryd.prog 26 [.row false 3 l_a0.length (esPrefab l_a0), S name_a1] (I r) := by
  rw [p_impl_prefabAt] at h
  refine Does.bnd (fun hb => ?_)
  have hb2 : l_a0.length ≤ 9223372036854775807 := by simpa [AV.fitNs, AV.fitN] using hb
  have hl0 := hb2
  refine Does.walk (nt := 8) Tryd.func26 rfl rfl (by simp) (by decide) rfl (fun G0 X w0 pv => ?_)
  obtain ⟨v1, ev1, h⟩ := Option.bind_eq_some_iff.1 h
  try dsimp only at h
  have ff := p_impl_prefabAt_tf.down
  try refine st_by ff ?_
  repeat' (first | exact trivial | refine And.intro sd ?_)
  first
  | (refine cq_lend (p_slices_IndexFunc_impl_Prefab_impl_Prefab_does l_a0 38 [.box false (eStr name_a1)] (by simp [AV.noRefs, AV.noRef]) kr (fun x0_ => p_impl_prefabAt_1 x0_ name_a1) (fun x0_ y_ h_ => p_impl_prefabAt_1_does x0_ name_a1 y_ h_) v1 ev1) (hf_by ff) kr ⟨p_slices_IndexFunc_impl_Prefab_impl_Prefab_sa ff trivial, ?_⟩; clear ff)
  have ff := p_impl_prefabAt_tf.down
  try refine st_by ff ?_
  repeat' (first | exact trivial | refine And.intro sd ?_)
  cases h
  exact ret_q1 rfl (p_slices_IndexFunc_impl_Prefab_impl_Prefab_rt ff trivial)
/-! impl.GoodPrefabs -/
def p_impl_GoodPrefabs_j0 (l_a0 : List GPrefab) (nest_20 : List Int) (x_0 : GPrefab) (i_0 : Nat) (rec_0 : Nat → (List Int) → Option (LR (Bool) ((List Int)))) (depth_41 : Int) : Option (LR (Bool) ((List Int))) := (if nest_20.length < 4294967296 then (if x_0.Name.size ≤ 9223372036854775807 then (if (goodName x_0.Name) = true then ((p_impl_prefabAt l_a0 x_0.Name).bind fun v46 => (if v46 = (i_0 : Int) then (if depth_41 > 5 then some (.ret false) else ((p_impl_GoodProps x_0.Props).bind fun v49 => (if v49 = true then rec_0 (i_0 + 1) (nest_20 ++ [depth_41]) else some (.ret false)))) else some (.ret false))) else some (.ret false)) else none) else none)
def p_impl_GoodPrefabs_l0 (l_a0 : List GPrefab) : List GPrefab → Nat → (List Int) → Option (LR (Bool) ((List Int)))
  | [], i_0, nest_20 => some (.out nest_20)
  | x_0 :: r_0, i_0, nest_20 => (if x_0.From = (⟨#[]⟩ : ByteArray) then p_impl_GoodPrefabs_j0 l_a0 nest_20 x_0 i_0 (p_impl_GoodPrefabs_l0 l_a0 r_0) 1 else ((slc l_a0 0 (i_0 : Int)).bind fun m52 => ((p_impl_prefabAt m52 x_0.From).bind fun v54 => (if v54 < 0 then some (.ret false) else ((idx nest_20 v54).bind fun x56 => p_impl_GoodPrefabs_j0 l_a0 nest_20 x_0 i_0 (p_impl_GoodPrefabs_l0 l_a0 r_0) (IntKind.i64.wrap (x56 + 1)))))))
def p_impl_GoodPrefabs_tf := PLift.up (And.intro @eInt_eq (And.intro @esInt_len (And.intro @esInt_nil (And.intro @esInt_leaf (And.intro @esInt_fit (And.intro @eProp_eq (And.intro @esProp_len (And.intro @esProp_nil (And.intro @esProp_leaf (And.intro @esProp_fit (And.intro @ePrefab_eq (And.intro @esPrefab_len (And.intro @esPrefab_nil (And.intro @esPrefab_leaf (And.intro @esPrefab_fit (And.intro @ePrefabo_eq (And.intro @esPrefabo_len (And.intro @esPrefabo_nil (And.intro @esInt_share (And.intro @esInt_pure (And.intro @esProp_share (And.intro @esProp_pure (And.intro @esPrefabo_share (And.intro @esPrefabo_pure (And.intro @str_beq (And.intro @Ty.sl32 (And.intro @Ty.slz32 (And.intro @Ty.sl46 (And.intro @Ty.slz46 (And.intro @Ty.nz48 (And.intro @Ty.ldA48 (And.intro @Ty.sz48 (And.intro @Ty.szn48 (And.intro @Ty.nz9 (And.intro @Ty.ldA9 (And.intro @Ty.ldS9 (And.intro @Ty.sz9 (And.intro @Ty.szn9 (And.intro @Ty.nz3 (And.intro @Ty.ldA3 (And.intro @Ty.ldS3 (And.intro @Ty.sz3 (And.intro @Ty.szn3 (And.intro @Ty.nz25 (And.intro @Ty.ldA25 (And.intro @Ty.ldS25 (And.intro @Ty.sz25 (And.intro @Ty.szn25 (And.intro @Ty.fo48_1 (And.intro @Ty.fk48_1 (And.intro @Ty.fs48_1 (And.intro @Ty.fn48_1 (And.intro @Ty.fo48_0 (And.intro @Ty.fk48_0 (And.intro @Ty.fs48_0 (And.intro @Ty.fn48_0 (And.intro @Ty.fo48_2 (And.intro @Ty.fk48_2 (And.intro @Ty.fs48_2 (And.intro @Ty.fn48_2 (And.intro @Ty.nze46 (And.intro @Ty.zok46 (And.intro @Ty.by46 (And.intro @Ty.zs46 (And.intro @Ty.nze32 (And.intro @Ty.zok32 (And.intro @Ty.by32 (And.intro @Ty.zs32 (And.intro @Ty.zv48 @trivial)))))))))))))))))))))))))))))))))))))))))))))))))))))))))))))))))))))
def p_impl_GoodPrefabs (l_a0 : List GPrefab) : Option (Bool) := ((p_impl_GoodPrefabs_l0 l_a0 l_a0 0 ([] : List Int)).bind fun q_0 => match q_0 with | .ret r_ => some r_ | .out nest_20 => some (decide ((l_a0.length : Int) ≤ 40)))
theorem p_impl_GoodPrefabs_does (l_a0 : List GPrefab) (r : Bool) (h : p_impl_GoodPrefabs l_a0 = some r) : Does Tryd.prog 13 [.row false 3 l_a0.length (esPrefab l_a0)] (B r) := by
  rw [p_impl_GoodPrefabs] at h
  refine Does.bnd (fun hb => ?_)
  have hb2 : l_a0.length ≤ 9223372036854775807 := by simpa [AV.fitNs, AV.fitN] using hb
  have hl0 := hb2
  refine Does.walk (nt := 62) Tryd.func13 rfl rfl (by simp) (by decide) rfl (fun G0 X w0 pv => ?_)
  have hL_0 : l_a0.length ≤ 9223372036854775807 := by first | assumption | omega
  obtain ⟨q_0, eq_0, h⟩ := Option.bind_eq_some_iff.1 h
  have ff := p_impl_GoodPrefabs_tf.down
  try refine st_by ff ?_
  repeat' (first | exact trivial | refine And.intro sd ?_)
  obtain ⟨I_0, hI_0⟩ : ∃ I_ : (Nat × (List Int)) → ASt → Prop, I_ = (fun (a : Nat × (List Int)) σ => match a with | (i_0, nest_20) => (i_0 ≤ l_a0.length ∧ p_impl_GoodPrefabs_l0 l_a0 (l_a0.drop i_0) i_0 nest_20 = some q_0) ∧ σ.t 0 = .row false 3 l_a0.length (esPrefab l_a0) ∧ σ.t 3 = .sl 3 [] 0 nest_20.length ∧ σ.t 9 = .row false 3 l_a0.length (esPrefab l_a0) ∧ σ.t 10 = I (l_a0.length : Int) ∧ σ.t 11 = I (i_0 : Int) ∧ σ.m 3 = some (.row true 1 nest_20.length (esInt nest_20))) := ⟨_, rfl⟩
  obtain ⟨M_0, hM_0⟩ : ∃ M_ : (Nat × (List Int)) → Nat, M_ = (fun (a : Nat × (List Int)) => match a with | (i_0, nest_20) => l_a0.length - i_0) := ⟨_, rfl⟩
  obtain ⟨J_0, hJ_0⟩ : ∃ J_ : ASt → Prop, J_ = (fun σ => ∃ nest_20 : List Int, (some (.out nest_20) = some q_0) ∧ σ.t 0 = .row false 3 l_a0.length (esPrefab l_a0)) := ⟨_, rfl⟩
  refine aw_loopC (id := 0) I_0 M_0 J_0 (0, ([] : List Int)) ?_ ?_ ?_
  · rw [hI_0]
    refine ⟨⟨Nat.zero_le _, eq_0⟩, ?_⟩
    exact p_spec_GoodPrefabs_pv ff trivial
  · try clear ff
    rintro ⟨i_0, nest_20⟩ σ hg_0
    rw [hI_0] at hg_0
    obtain ⟨⟨hi_0, h_0⟩, g0_0, g1_0, g2_0, g3_0, g4_0, g5_0⟩ := hg_0
    cases hr_0 : l_a0.drop i_0 with
    | nil =>
      rw [hr_0] at h_0
      rw [p_impl_GoodPrefabs_l0] at h_0
      have hn_0 := drop_nil hr_0
      have dr_0 : decide ((i_0 : Int) < (l_a0.length : Int)) = false := decide_eq_false (by omega)
      have ff := And.intro @dr_0 (And.intro @g0_0 (And.intro @g1_0 (And.intro @g2_0 (And.intro @g3_0 (And.intro @g4_0 (And.intro @g5_0 p_impl_GoodPrefabs_tf.down))))))
      try refine st_by ff ?_
      repeat' (first | exact trivial | refine And.intro sd ?_)
      refine JW.intro ?_
      rw [hJ_0]
      refine ⟨nest_20, h_0, ?_⟩
      exact p_spec_GoodPrefabs_pv ff trivial
    | cons x_0 r_0 =>
      rw [hr_0] at h_0
      rw [p_impl_GoodPrefabs_l0] at h_0
      obtain ⟨ht_0, hg_0, hd_0⟩ := drop_cons hr_0
      have dr_0 : decide ((i_0 : Int) < (l_a0.length : Int)) = true := decide_eq_true (by omega)
      have w_0 : IntKind.i64.wrap ((i_0 : Int) + 1) = ((i_0 + 1 : Nat) : Int) := wI _ (by omega) (by omega)
      have kk0c : (esPrefab l_a0).drop (i_0 * 3) = ePrefab x_0 ++ esPrefab (l_a0.drop (i_0 + 1)) := drop_enc (fun _ => rfl) (hg_0)
      have ff := And.intro @dr_0 (And.intro @w_0 (And.intro @g0_0 (And.intro @g1_0 (And.intro @g2_0 (And.intro @g3_0 (And.intro @g4_0 (And.intro @g5_0 (And.intro @kk0c p_impl_GoodPrefabs_tf.down))))))))
      try refine st_by ff ?_
      repeat' (first | exact trivial | refine And.intro sd ?_)
      try clear ff
      generalize hk_0 : thenK _ _ = kk_0
      have key_0 : ∀ σ, (∃ depth_41 : Int, (p_impl_GoodPrefabs_j0 l_a0 nest_20 x_0 i_0 (p_impl_GoodPrefabs_l0 l_a0 r_0) depth_41 = some q_0) ∧ σ.t 0 = .row false 3 l_a0.length (esPrefab l_a0) ∧ σ.t 3 = .sl 3 [] 0 nest_20.length ∧ σ.t 4 = I (i_0 : Int) ∧ σ.t 5 = .ptr 5 [] 0 ∧ σ.t 6 = I depth_41 ∧ σ.t 9 = .row false 3 l_a0.length (esPrefab l_a0) ∧ σ.t 10 = I (l_a0.length : Int) ∧ σ.t 11 = I (i_0 : Int) ∧ σ.m 3 = some (.row true 1 nest_20.length (esInt nest_20)) ∧ σ.m 5 = some (.box true [S x_0.Name, S x_0.From, .row false 2 x_0.Props.length (esProp x_0.Props)])) → kk_0 .nm σ := by
        rintro σ ⟨depth_41, h_0, g0_j0, g1_j0, g2_j0, g3_j0, g4_j0, g5_j0, g6_j0, g7_j0, g8_j0, g9_j0⟩
        rw [← hk_0]
        rw [p_impl_GoodPrefabs_j0] at h_0
        by_cases c42 : nest_20.length < 4294967296
        case neg => rw [if_neg c42] at h_0; cases h_0
        rw [if_pos c42] at h_0
        have a43a : esInt nest_20 ++ [I depth_41] = esInt (nest_20 ++ [depth_41]) := by simp [esInt_app, esInt_cons, esInt_nil, eInt_eq, esInt_nil, esProp_nil, esPrefab_nil]
        have a43b : nest_20.length + 1 = (nest_20 ++ [depth_41]).length := by simp
        by_cases c44 : x_0.Name.size ≤ 9223372036854775807
        case neg => rw [if_neg c44] at h_0; cases h_0
        rw [if_pos c44] at h_0
        have ff := And.intro @dr_0 (And.intro @w_0 (And.intro @kk0c (And.intro @g0_j0 (And.intro @g1_j0 (And.intro @g2_j0 (And.intro @g3_j0 (And.intro @g4_j0 (And.intro @g5_j0 (And.intro @g6_j0 (And.intro @g7_j0 (And.intro @g8_j0 (And.intro @g9_j0 (And.intro @a43a (And.intro @a43b p_impl_GoodPrefabs_tf.down))))))))))))))
        try refine st_by ff ?_
        repeat' (first | exact trivial | refine And.intro sd ?_)
        first
        | (refine cq_call (implGoodName_does x_0.Name (by first | assumption | omega)) (hf_by ff) kr ⟨p_spec_GoodPrefabs_sa ff trivial, ?_⟩; clear ff)
        | (refine cq_dcall (implGoodName_does x_0.Name (by first | assumption | omega)) (hf_by ff) kr ⟨p_spec_GoodPrefabs_sa ff trivial, ?_⟩; clear ff)
        by_cases c45 : (goodName x_0.Name) = true
        case neg =>
         rw [if_neg c45] at h_0
         have dc45 := eq_false_of_ne_true c45
         cases h_0
         try dsimp only at h
         have ff := And.intro @dr_0 (And.intro @w_0 (And.intro @kk0c (And.intro @g0_j0 (And.intro @g1_j0 (And.intro @g2_j0 (And.intro @g3_j0 (And.intro @g4_j0 (And.intro @g5_j0 (And.intro @g6_j0 (And.intro @g7_j0 (And.intro @g8_j0 (And.intro @g9_j0 (And.intro @a43a (And.intro @a43b (And.intro @dc45 p_impl_GoodPrefabs_tf.down)))))))))))))))
         try refine st_by ff ?_
         repeat' (first | exact trivial | refine And.intro sd ?_)
         cases h
         exact ret_q1 rfl (p_spec_GoodPrefabs_rt ff trivial)
        rw [if_pos c45] at h_0
        have dc45 := c45
        obtain ⟨v46, ev46, h_0⟩ := Option.bind_eq_some_iff.1 h_0
        try dsimp only at h_0
        have ff := And.intro @dr_0 (And.intro @w_0 (And.intro @kk0c (And.intro @g0_j0 (And.intro @g1_j0 (And.intro @g2_j0 (And.intro @g3_j0 (And.intro @g4_j0 (And.intro @g5_j0 (And.intro @g6_j0 (And.intro @g7_j0 (And.intro @g8_j0 (And.intro @g9_j0 (And.intro @a43a (And.intro @a43b (And.intro @dc45 p_impl_GoodPrefabs_tf.down)))))))))))))))
        try refine st_by ff ?_
        repeat' (first | exact trivial | refine And.intro sd ?_)
        first
        | (refine cq_call (p_impl_prefabAt_does l_a0 x_0.Name v46 ev46) (hf_by ff) kr ⟨p_spec_GoodPrefabs_sa ff trivial, ?_⟩; clear ff)
        | (refine cq_dcall (p_impl_prefabAt_does l_a0 x_0.Name v46 ev46) (hf_by ff) kr ⟨p_spec_GoodPrefabs_sa ff trivial, ?_⟩; clear ff)
        by_cases c47 : v46 = (i_0 : Int)
        case neg =>
         rw [if_neg c47] at h_0
         have dc47 := beq_no c47
         cases h_0
         try dsimp only at h
         have ff := And.intro @dr_0 (And.intro @w_0 (And.intro @kk0c (And.intro @g0_j0 (And.intro @g1_j0 (And.intro @g2_j0 (And.intro @g3_j0 (And.intro @g4_j0 (And.intro @g5_j0 (And.intro @g6_j0 (And.intro @g7_j0 (And.intro @g8_j0 (And.intro @g9_j0 (And.intro @a43a (And.intro @a43b (And.intro @dc45 (And.intro @dc47 p_impl_GoodPrefabs_tf.down))))))))))))))))
         try refine st_by ff ?_
         repeat' (first | exact trivial | refine And.intro sd ?_)
         cases h
         exact ret_q1 rfl (p_spec_GoodPrefabs_rt ff trivial)
        rw [if_pos c47] at h_0
        have dc47 := beq_yes c47
        by_cases c48 : depth_41 > 5
        · rw [if_pos c48] at h_0
          have dc48 := decide_eq_true c48
          cases h_0
          try dsimp only at h
          have ff := And.intro @dr_0 (And.intro @w_0 (And.intro @kk0c (And.intro @g0_j0 (And.intro @g1_j0 (And.intro @g2_j0 (And.intro @g3_j0 (And.intro @g4_j0 (And.intro @g5_j0 (And.intro @g6_j0 (And.intro @g7_j0 (And.intro @g8_j0 (And.intro @g9_j0 (And.intro @a43a (And.intro @a43b (And.intro @dc45 (And.intro @dc47 (And.intro @dc48 p_impl_GoodPrefabs_tf.down)))))))))))))))))
          try refine st_by ff ?_
          repeat' (first | exact trivial | refine And.intro sd ?_)
          cases h
          exact ret_q1 rfl (p_spec_GoodPrefabs_rt ff trivial)
        rw [if_neg c48] at h_0
        have dc48 := decide_eq_false c48
        obtain ⟨v49, ev49, h_0⟩ := Option.bind_eq_some_iff.1 h_0
        try dsimp only at h_0
        have ff := And.intro @dr_0 (And.intro @w_0 (And.intro @kk0c (And.intro @g0_j0 (And.intro @g1_j0 (And.intro @g2_j0 (And.intro @g3_j0 (And.intro @g4_j0 (And.intro @g5_j0 (And.intro @g6_j0 (And.intro @g7_j0 (And.intro @g8_j0 (And.intro @g9_j0 (And.intro @a43a (And.intro @a43b (And.intro @dc45 (And.intro @dc47 (And.intro @dc48 p_impl_GoodPrefabs_tf.down)))))))))))))))))
        try refine st_by ff ?_
        repeat' (first | exact trivial | refine And.intro sd ?_)
        first
        | (refine cq_call (p_impl_GoodProps_does x_0.Props v49 ev49) (hf_by ff) kr ⟨p_spec_GoodPrefabs_sa ff trivial, ?_⟩; clear ff)
        | (refine cq_dcall (p_impl_GoodProps_does x_0.Props v49 ev49) (hf_by ff) kr ⟨p_spec_GoodPrefabs_sa ff trivial, ?_⟩; clear ff)
        by_cases c50 : v49 = true
        case neg =>
         rw [if_neg c50] at h_0
         have dc50 := eq_false_of_ne_true c50
         cases h_0
         try dsimp only at h
         have ff := And.intro @dr_0 (And.intro @w_0 (And.intro @kk0c (And.intro @g0_j0 (And.intro @g1_j0 (And.intro @g2_j0 (And.intro @g3_j0 (And.intro @g4_j0 (And.intro @g5_j0 (And.intro @g6_j0 (And.intro @g7_j0 (And.intro @g8_j0 (And.intro @g9_j0 (And.intro @a43a (And.intro @a43b (And.intro @dc45 (And.intro @dc47 (And.intro @dc48 (And.intro @dc50 p_impl_GoodPrefabs_tf.down))))))))))))))))))
         try refine st_by ff ?_
         repeat' (first | exact trivial | refine And.intro sd ?_)
         cases h
         exact ret_q1 rfl (p_spec_GoodPrefabs_rt ff trivial)
        rw [if_pos c50] at h_0
        have dc50 := c50
        have ff := And.intro @dr_0 (And.intro @w_0 (And.intro @kk0c (And.intro @g0_j0 (And.intro @g1_j0 (And.intro @g2_j0 (And.intro @g3_j0 (And.intro @g4_j0 (And.intro @g5_j0 (And.intro @g6_j0 (And.intro @g7_j0 (And.intro @g8_j0 (And.intro @g9_j0 (And.intro @a43a (And.intro @a43b (And.intro @dc45 (And.intro @dc47 (And.intro @dc48 (And.intro @dc50 p_impl_GoodPrefabs_tf.down))))))))))))))))))
        try refine st_by ff ?_
        repeat' (first | exact trivial | refine And.intro sd ?_)
        refine Back.intro (i_0 + 1, (nest_20 ++ [depth_41])) ?_ ?_
        · clear ff; rw [hM_0]; show l_a0.length - (i_0 + 1) < l_a0.length - i_0; omega
        rw [hI_0]
        refine ⟨⟨by clear ff; show i_0 + 1 ≤ l_a0.length; omega, by show p_impl_GoodPrefabs_l0 l_a0 (l_a0.drop (i_0 + 1)) (i_0 + 1) (nest_20 ++ [depth_41]) = some q_0; rw [hd_0]; exact h_0⟩, ?_⟩
        exact p_spec_GoodPrefabs_pv ff trivial
      have hrt_0 := fun σ : ASt => congrFun (congrFun hk_0.symm AX.rt) σ
      have hex_0 := fun (i : Nat) (σ : ASt) => congrFun (congrFun hk_0.symm (AX.ex i)) σ
      by_cases c51 : x_0.From = (⟨#[]⟩ : ByteArray)
      · rw [if_pos c51] at h_0
        have dc51 := decide_eq_true c51
        have ff := And.intro @dr_0 (And.intro @w_0 (And.intro @g0_0 (And.intro @g1_0 (And.intro @g2_0 (And.intro @g3_0 (And.intro @g4_0 (And.intro @g5_0 (And.intro @kk0c (And.intro @hrt_0 (And.intro @hex_0 (And.intro @dc51 p_impl_GoodPrefabs_tf.down)))))))))))
        try refine st_by ff ?_
        repeat' (first | exact trivial | refine And.intro sd ?_)
        refine key_0 _ ?_
        refine ⟨1, h_0, ?_⟩
        exact p_spec_GoodPrefabs_pv ff trivial
      rw [if_neg c51] at h_0
      have dc51 := decide_eq_false c51
      obtain ⟨m52, em52, h_0⟩ := Option.bind_eq_some_iff.1 h_0
      try dsimp only at h_0
      obtain ⟨f53a, f53b⟩ := slc_ok em52
      have f53c : (esPrefab l_a0).take (i_0 * 3) = esPrefab m52 := slc_encL (enc := ePrefab) (fun _ => rfl) em52
      have f53d : m52.length = i_0 := (slc_lenL em52).symm
      obtain ⟨v54, ev54, h_0⟩ := Option.bind_eq_some_iff.1 h_0
      try dsimp only at h_0
      have ff := And.intro @dr_0 (And.intro @w_0 (And.intro @g0_0 (And.intro @g1_0 (And.intro @g2_0 (And.intro @g3_0 (And.intro @g4_0 (And.intro @g5_0 (And.intro @kk0c (And.intro @hrt_0 (And.intro @hex_0 (And.intro @dc51 (And.intro @f53c p_impl_GoodPrefabs_tf.down))))))))))))
      try refine st_by ff ?_
      repeat' (first | exact trivial | refine And.intro sd ?_ | (refine aw_drawn (id := 7) ?_ [[], [], [0, 1], [], [3], [0, 1, 2, 3, 4], [0, 1, 2, 3, 4, 5]] 5 ?_ ?_; (· kernel_rfl); (· kernel_rfl); refine st_by ff ?_))
      first
      | (refine cq_call (p_impl_prefabAt_does m52 x_0.From v54 ev54) (hf_by ff) kr ⟨p_spec_GoodPrefabs_sa ff @f53d, ?_⟩; clear ff)
      | (refine cq_dcall (p_impl_prefabAt_does m52 x_0.From v54 ev54) (hf_by ff) kr ⟨p_spec_GoodPrefabs_sa ff @f53d, ?_⟩; clear ff)
      by_cases c55 : v54 < 0
      · rw [if_pos c55] at h_0
        have dc55 := decide_eq_true c55
        cases h_0
        try dsimp only at h
        have ff := And.intro @dr_0 (And.intro @w_0 (And.intro @g0_0 (And.intro @g1_0 (And.intro @g2_0 (And.intro @g3_0 (And.intro @g4_0 (And.intro @g5_0 (And.intro @kk0c (And.intro @hrt_0 (And.intro @hex_0 (And.intro @dc51 (And.intro @f53c (And.intro @dc55 p_impl_GoodPrefabs_tf.down)))))))))))))
        try refine st_by ff ?_
        repeat' (first | exact trivial | refine And.intro sd ?_)
        cases h
        exact ret_q1 rfl (p_spec_GoodPrefabs_rt ff @f53d)
      rw [if_neg c55] at h_0
      have dc55 := decide_eq_false c55
      obtain ⟨x56, ex56, h_0⟩ := Option.bind_eq_some_iff.1 h_0
      try dsimp only at h_0
      have f57a := idx_lo ex56
      have f57b := idx_hi ex56
      have f57c : (esInt nest_20).drop (v54.toNat * 1) = eInt x56 ++ esInt (nest_20.drop (v54.toNat + 1)) := drop_enc (fun _ => rfl) (idx_get ex56)
      have f57d := f57c
      rw [Nat.mul_one] at f57d
      have f57g0 : (esInt nest_20).getD (v54.toNat * 1) .junk = (eInt x56).getD 0 .junk := getD_enc0 (enc := eInt) (sz := 1) (fun _ => rfl) (idx_get ex56) (by decide)
      rw [Nat.mul_one] at f57g0
      have ff := And.intro @dr_0 (And.intro @w_0 (And.intro @g0_0 (And.intro @g1_0 (And.intro @g2_0 (And.intro @g3_0 (And.intro @g4_0 (And.intro @g5_0 (And.intro @kk0c (And.intro @hrt_0 (And.intro @hex_0 (And.intro @dc51 (And.intro @f53c (And.intro @dc55 (And.intro @f57c (And.intro @f57d (And.intro @f57g0 p_impl_GoodPrefabs_tf.down))))))))))))))))
      try refine st_by ff ?_
      repeat' (first | exact trivial | refine And.intro sd ?_)
      refine key_0 _ ?_
      refine ⟨(IntKind.i64.wrap (x56 + 1)), h_0, ?_⟩
      exact p_spec_GoodPrefabs_pv ff @f53d
  · try clear ff
    rintro σ hg_0
    rw [hJ_0] at hg_0
    obtain ⟨nest_20, hj_0, g0_0a⟩ := hg_0
    cases hj_0
    try dsimp only at h
    have ff := And.intro @g0_0a p_impl_GoodPrefabs_tf.down
    try refine st_by ff ?_
    repeat' (first | exact trivial | refine And.intro sd ?_)
    cases h
    exact ret_q1 rfl (p_spec_GoodPrefabs_rt ff trivial)
end Go.Av
end
section
set_option linter.unusedSimpArgs false
set_option linter.unusedVariables false
set_option maxRecDepth 100000
namespace Go.Av
/-! Paths and props: the program and the reference alike. -/
/-- A text in pieces: the piece so far, and what is left. -/
def pcsL (b : UInt8) : List UInt8 → List UInt8 → List (List UInt8)
  | cur, [] => [cur]
  | cur, x :: l => if x = b then cur :: pcsL b [] l else pcsL b (cur ++ [x]) l
theorem pcsL_nil (b : UInt8) (cur : List UInt8) : pcsL b cur [] = [cur] := by rw [pcsL]
theorem pcsL_cons (b : UInt8) (cur : List UInt8) (x : UInt8) (l : List UInt8) : pcsL b cur (x :: l) = if x = b then cur :: pcsL b [] l else pcsL b (cur ++ [x]) l := by rw [pcsL]
def bOf (l : List UInt8) : ByteArray := ⟨l.toArray⟩
theorem bOf_data (s : ByteArray) : bOf s.data.toList = s := by
  unfold bOf; cases s; simp
theorem ixB_miss (b : UInt8) : ∀ (l cur : List UInt8), Lib.indexByte l b = -1 → pcsL b cur l = [cur ++ l]
  | [], cur, _ => by simp [pcsL_nil]
  | x :: l, cur, h => by
    unfold Lib.indexByte at h
    by_cases e : x = b
    · simp [e] at h
    · have e' : (x == b) = false := by simpa using e
      have hge := Lib.indexByte_ge l b
      rw [e'] at h
      simp only [Bool.false_eq_true, if_false] at h
      by_cases h1 : Lib.indexByte l b = -1
      · rw [pcsL_cons, if_neg e, ixB_miss b l _ h1]; simp
      · rw [if_neg (by simpa using h1)] at h; omega
theorem ixB_hit (b : UInt8) : ∀ (l cur : List UInt8) (i : Nat), Lib.indexByte l b = (i : Int) → i < l.length ∧ pcsL b cur l = (cur ++ l.take i) :: pcsL b [] (l.drop (i + 1))
  | [], cur, i, h => by simp [Lib.indexByte] at h
  | x :: l, cur, i, h => by
    unfold Lib.indexByte at h
    by_cases e : x = b
    · rw [if_pos (by simpa using e)] at h
      have : i = 0 := by omega
      subst this
      rw [pcsL_cons, if_pos e]; simp
    · have e' : (x == b) = false := by simpa using e
      have hge := Lib.indexByte_ge l b
      rw [e'] at h
      simp only [Bool.false_eq_true, if_false] at h
      by_cases h1 : Lib.indexByte l b = -1
      · rw [if_pos (by simpa using h1)] at h; omega
      · rw [if_neg (by simpa using h1)] at h
        obtain ⟨j, hj⟩ : ∃ j : Nat, Lib.indexByte l b = j := ⟨(Lib.indexByte l b).toNat, by omega⟩
        obtain ⟨g1, g2⟩ := ixB_hit b l (cur ++ [x]) j hj
        have : i = j + 1 := by omega
        subst this
        refine ⟨by simp; omega, ?_⟩
        rw [pcsL_cons, if_neg e, g2]; simp
theorem indexB_one (s : ByteArray) (b : UInt8) : Lib.indexB s ⟨#[b]⟩ = Lib.indexByte s.data.toList b := by
  show Lib.index s.data.toList [b] = _
  rw [Lib.index_one]
theorem pieces_eq (b : UInt8) : ∀ (k : Nat) (s : ByteArray), Lib.countB s ⟨#[b]⟩ = k → Lib.splitB ⟨#[b]⟩ 0 k s = (pcsL b [] s.data.toList).map bOf := fun k => by
  induction k with
  | zero =>
    intro s hk
    rcases Lib.indexB_cases s ⟨#[b]⟩ with h | ⟨i, h, hle⟩
    · rw [Lib.splitB_miss _ _ _ _ h, ixB_miss b _ _ (by rw [← indexB_one]; exact h)]
      simp [bOf_data]
    · have hc := Lib.countB_hit s ⟨#[b]⟩ i (Nat.le_refl _) h
      omega
  | succ k ih =>
    intro s hk
    rcases Lib.indexB_cases s ⟨#[b]⟩ with h | ⟨i, h, hle⟩
    · rw [Lib.countB_miss _ _ h] at hk; cases hk
    · have hc := Lib.countB_hit s ⟨#[b]⟩ i (Nat.le_refl _) h
      obtain ⟨g1, g2⟩ := ixB_hit b s.data.toList [] i (by rw [← indexB_one]; exact h)
      have e1 : (⟨#[b]⟩ : ByteArray).size = 1 := rfl
      rw [e1] at hc
      have ih := ih (s.extract (i + 1) s.size) (by omega)
      have d1 : (s.extract 0 i).data.toList = s.data.toList.take i := by simp
      have d2 : (s.extract (i + 1) s.size).data.toList = s.data.toList.drop (i + 1) := by
        have : s.size = s.data.size := rfl
        rw [ByteArray.data_extract, Array.toList_extract, List.extract_eq_take_drop]
        exact List.take_of_length_le (by rw [List.length_drop, this, Array.length_toList]; omega)
      rw [Lib.splitB_hit _ _ _ _ i h, g2, e1, Nat.add_zero, ih, d2, List.map_cons, List.nil_append, ← d1, bOf_data]
theorem toList_len (s : ByteArray) : s.data.toList.length = s.size := by rw [Array.length_toList]; rfl
theorem extr (s : ByteArray) (a i : Nat) (h : a ≤ i) (hi : i ≤ s.size) : s.extract a i = bOf ((s.data.toList.drop a).take (i - a)) := by
  rw [← bOf_data (s.extract a i)]; congr 1
  rw [ByteArray.data_extract, Array.toList_extract, List.extract_eq_take_drop]
theorem split_l0 (s : ByteArray) (hl : s.size ≤ 1048576) : ∀ (n a i : Nat) (out : List ByteArray), a ≤ i → i ≤ s.size → s.size - i + 1 < n → out.length ≤ i →
    ∃ a' i', p_spec_l1Split_l0 s 47 n (a : Int) (i : Int) out = some (a', i', out ++ (pcsL 47 ((s.data.toList.drop a).take (i - a)) (s.data.toList.drop i)).map bOf)
  | 0, a, i, out, _, _, h, _ => by omega
  | n + 1, a, i, out, h1, h2, h3, h4 => by
    have hw : IntKind.i64.wrap ((i : Int) + 1) = ((i + 1 : Nat) : Int) := by rw [wI _ (by omega) (by omega)]; omega
    have hb : bslc s (a : Int) (i : Int) = some (bOf ((s.data.toList.drop a).take (i - a))) := by
      unfold bslc; rw [if_pos (by omega), Int.toNat_natCast, Int.toNat_natCast, extr s a i h1 h2]
    have hlen := toList_len s
    unfold p_spec_l1Split_l0
    rw [if_pos (by omega)]
    by_cases c : i = s.size
    · subst c
      rw [if_pos rfl]
      unfold p_spec_l1Split_j0
      rw [if_pos rfl, hb, Option.bind_some, if_pos (by omega), hw]
      match n, h3 with
      | n + 1, _ =>
        unfold p_spec_l1Split_l0
        rw [if_neg (by omega), List.drop_of_length_le (show s.data.toList.length ≤ s.size by omega), pcsL_nil]
        exact ⟨_, _, rfl⟩
    · have hi : i < s.size := by omega
      have hlt : i < s.data.toList.length := by omega
      have hd : s.data.toList.drop i = s.data.toList[i] :: s.data.toList.drop (i + 1) := List.drop_eq_getElem_cons hlt
      have hbi : bidx s (i : Int) = some ((s.data.toList[i].toNat : Nat) : Int) := by
        unfold bidx; rw [if_pos (by omega)]
        unfold byteAt
        rw [dif_pos (by simpa using hi)]
        simp only [Int.toNat_natCast]
        rfl
      rw [if_neg (by omega), hbi, Option.bind_some]
      unfold p_spec_l1Split_j0
      rw [hd, pcsL_cons]
      by_cases e : s.data.toList[i] = 47
      · rw [if_pos (by rw [e]; rfl), hb, Option.bind_some, if_pos (by omega), hw, if_pos e]
        obtain ⟨a', i', r⟩ := split_l0 s hl n (i + 1) (i + 1) (out ++ [bOf ((s.data.toList.drop a).take (i - a))]) (Nat.le_refl _) (by omega) (by omega) (by simp; omega)
        rw [Nat.sub_self, List.take_zero] at r
        exact ⟨a', i', by rw [r]; simp⟩
      · have e' : ¬ (((s.data.toList[i].toNat : Nat) : Int) == 47) = true := fun h => e (by
          have h : ((s.data.toList[i].toNat : Nat) : Int) = 47 := by simpa using h
          exact UInt8.toNat.inj (by show s.data.toList[i].toNat = 47; omega))
        rw [if_neg e', hw, if_neg e]
        obtain ⟨a', i', r⟩ := split_l0 s hl n a (i + 1) out (by omega) (by omega) (by omega) (by omega)
        refine ⟨a', i', ?_⟩
        rw [r]
        have : (s.data.toList.drop a).take (i + 1 - a) = (s.data.toList.drop a).take (i - a) ++ [s.data.toList[i]] := by
          rw [show i + 1 - a = (i - a) + 1 by omega, List.take_add_one, List.getElem?_drop, show a + (i - a) = i by omega, List.getElem?_eq_getElem hlt]; rfl
        rw [this]
theorem specSplit (N : Nat) (s : ByteArray) (hl : s.size ≤ 1048576) (hN : s.size + 1 < N) : p_spec_l1Split N s 47 = some (piecesB 47 s) := by
  unfold p_spec_l1Split
  obtain ⟨a', i', r⟩ := split_l0 s hl N 0 0 [] (Nat.le_refl _) (Nat.zero_le _) (by omega) (Nat.le_refl _)
  rw [show ((0 : Nat) : Int) = 0 from rfl] at r
  rw [r, Option.bind_some]
  unfold piecesB
  rw [pieces_eq 47 _ s rfl]
  simp
theorem pieces_size (b : UInt8) : ∀ (l cur : List UInt8), ∀ p ∈ pcsL b cur l, p.length ≤ cur.length + l.length
  | [], cur, p, h => by rw [pcsL_nil] at h; simp at h; subst h; simp
  | x :: l, cur, p, h => by
    rw [pcsL_cons] at h
    split at h
    · rcases List.mem_cons.1 h with rfl | h
      · simp
      · have := pieces_size b l [] p h; simp at this ⊢; omega
    · have := pieces_size b l _ p h; simp at this ⊢; omega
theorem piece_size {b : UInt8} {s p : ByteArray} (h : p ∈ piecesB b s) : p.size ≤ s.size := by
  unfold piecesB at h
  rw [pieces_eq b _ s rfl] at h
  obtain ⟨q, h1, rfl⟩ := List.mem_map.1 h
  have := pieces_size b _ _ q h1
  rw [toList_len] at this
  show q.toArray.size ≤ _
  simpa using this
/-- What a path is. -/
def pathB (s : ByteArray) : Bool := decide ((piecesB 47 s).length ≤ 5) && (piecesB 47 s).all goodName
theorem spec_path_l0 : ∀ (l : List ByteArray) (i : Nat), (∀ p ∈ l, p.size ≤ 9223372036854775807) → p_spec_l26Path_l0 l i = some (if l.all goodName = true then .out () else .ret false)
  | [], i, _ => by simp [p_spec_l26Path_l0]
  | x :: r, i, h => by
    rw [p_spec_l26Path_l0, if_pos (h x (by simp)), spec_path_l0 r (i + 1) (fun p hp => h p (by simp [hp]))]
    cases hx : goodName x <;> simp [hx]
theorem specPath (N : Nat) (s : ByteArray) (hl : s.size ≤ 1048576) (hN : s.size + 1 < N) : p_spec_l26Path N s = some (pathB s) := by
  unfold p_spec_l26Path pathB
  rw [specSplit N s hl hN, Option.bind_some, spec_path_l0 _ _ (fun p hp => by have := piece_size hp; omega), Option.bind_some]
  cases h : (piecesB 47 s).all goodName with
  | false => simp
  | true => simp; omega
theorem ixS (f : ByteArray → Bool) : ∀ (l : List ByteArray) (i : Nat) (g : ByteArray → Option Bool), (∀ x ∈ l, g x = some (f x)) → ∃ k : Nat, p_slices_IndexFunc_string_string_l0 g l i = some (if l.any f = true then .ret (k : Int) else .out ())
  | [], i, g, _ => ⟨0, by simp [p_slices_IndexFunc_string_string_l0]⟩
  | y :: r, i, g, h => by
    obtain ⟨k, ih⟩ := ixS f r (i + 1) g (fun x hx => h x (by simp [hx]))
    rw [p_slices_IndexFunc_string_string_l0, h y (by simp), Option.bind_some]
    cases hy : f y with
    | true => exact ⟨i, by simp [hy]⟩
    | false => exact ⟨k, by rw [if_neg (by simp), ih]; simp [hy]⟩
theorem implPath (s : ByteArray) (hl : s.size ≤ 1048576) : p_impl_isPath s = some (pathB s) := by
  unfold p_impl_isPath pathB splitP
  rw [if_pos ⟨rfl, by omega⟩, Option.bind_some]
  by_cases c : (piecesB 47 s).length ≤ 5
  · rw [if_pos (by omega)]
    unfold p_slices_ContainsFunc_string_string p_slices_IndexFunc_string_string
    obtain ⟨k, e⟩ := ixS (fun x => !goodName x) (piecesB 47 s) 0 (fun x0_ => p_impl_isPath_1 x0_) (fun x hx => by
      unfold p_impl_isPath_1; rw [if_pos (by have := piece_size hx; omega)])
    rw [e, Option.bind_some]
    have : (piecesB 47 s).all goodName = !((piecesB 47 s).any fun x => !goodName x) := by
      rw [List.not_any_eq_all_not]; simp
    rw [this]
    cases (piecesB 47 s).any fun x => !goodName x <;> simp [c]
  · rw [if_neg (by omega)]; simp [c]
/-- Good props. -/
def okP (l : List GProp) (i : Nat) (x : GProp) : Bool := pathB x.Path && rng (x.Value.size : Int) 1 40 && (if i = 0 then true else (l[i - 1]?).elim false fun p => blt p.Path x.Path)
def okPs (l : List GProp) : Nat → List GProp → Bool
  | _, [] => true
  | i, x :: r => okP l i x && okPs l (i + 1) r
def goodP (l : List GProp) : Bool := decide (l.length ≤ 40) && okPs l 0 l
theorem idxP2 {α : Type} {l : List α} {i : Nat} (h0 : 0 < i) (h : i < l.length) (hl : l.length ≤ 9223372036854775807) : idx l (IntKind.i64.wrap ((i : Int) - 1)) = some (l[i - 1]'(by omega)) := by
  rw [wI _ (by omega) (by omega), show (i : Int) - 1 = ((i - 1 : Nat) : Int) by omega]
  exact idx_of (by omega)
theorem specP_l0 (N : Nat) (l : List GProp) (hl : l.length ≤ 1048576) (hs : ∀ x ∈ l, x.Path.size ≤ 1048576) (hN : ∀ x ∈ l, x.Path.size + 1 < N) : ∀ (r : List GProp) (i : Nat), l.drop i = r → p_spec_GoodProps_l0 N l r i = some (if okPs l i r = true then .out () else .ret false)
  | [], i, _ => by simp [p_spec_GoodProps_l0, okPs]
  | x :: r, i, h => by
    obtain ⟨h1, h2, h3⟩ := drop_cons h
    have hx : x ∈ l := List.mem_of_getElem? h2
    rw [p_spec_GoodProps_l0, specPath N x.Path (hs x hx) (hN x hx), Option.bind_some, specP_l0 N l hl hs hN r (i + 1) h3]
    unfold p_spec_l26Value
    rw [Option.bind_some]
    by_cases c : (i : Int) > 0
    · have e : okPs l i (x :: r) = (pathB x.Path && rng (x.Value.size : Int) 1 40 && Op.bytesLess (l[i - 1]'(by omega)).Path.toList x.Path.toList && okPs l (i + 1) r) := by
        simp only [okPs, okP]
        rw [if_neg (show ¬ i = 0 by omega), List.getElem?_eq_getElem (show i - 1 < l.length by omega)]; rfl
      rw [if_pos c, idxP2 (by omega) h1 (by omega), Option.bind_some, e]
      cases pathB x.Path <;> cases rng (x.Value.size : Int) 1 40 <;> cases Op.bytesLess (l[i - 1]'(by omega)).Path.toList x.Path.toList <;> simp
    · have e : okPs l i (x :: r) = (pathB x.Path && rng (x.Value.size : Int) 1 40 && okPs l (i + 1) r) := by
        simp only [okPs, okP]
        rw [if_pos (show i = 0 by omega), Bool.and_true]
      rw [if_neg c, e]
      cases pathB x.Path <;> cases rng (x.Value.size : Int) 1 40 <;> simp
theorem implP_l0 (l : List GProp) (hl : l.length ≤ 1048576) (hs : ∀ x ∈ l, x.Path.size ≤ 1048576) : ∀ (r : List GProp) (i : Nat), l.drop i = r → p_impl_GoodProps_l0 l r i = some (if okPs l i r = true then .out () else .ret false)
  | [], i, _ => by simp [p_impl_GoodProps_l0, okPs]
  | x :: r, i, h => by
    obtain ⟨h1, h2, h3⟩ := drop_cons h
    have hx : x ∈ l := List.mem_of_getElem? h2
    rw [p_impl_GoodProps_l0, implPath x.Path (hs x hx), Option.bind_some, implP_l0 l hl hs r (i + 1) h3]
    unfold p_impl_isPropValue
    rw [Option.bind_some]
    by_cases c : (i : Int) > 0
    · have e : okPs l i (x :: r) = (pathB x.Path && rng (x.Value.size : Int) 1 40 && Op.bytesLess (l[i - 1]'(by omega)).Path.toList x.Path.toList && okPs l (i + 1) r) := by
        simp only [okPs, okP]
        rw [if_neg (show ¬ i = 0 by omega), List.getElem?_eq_getElem (show i - 1 < l.length by omega)]; rfl
      rw [if_pos c, idxP2 (by omega) h1 (by omega), Option.bind_some, e]
      cases pathB x.Path <;> cases rng (x.Value.size : Int) 1 40 <;> cases Op.bytesLess (l[i - 1]'(by omega)).Path.toList x.Path.toList <;> simp
    · have e : okPs l i (x :: r) = (pathB x.Path && rng (x.Value.size : Int) 1 40 && okPs l (i + 1) r) := by
        simp only [okPs, okP]
        rw [if_pos (show i = 0 by omega), Bool.and_true]
      rw [if_neg c, e]
      cases pathB x.Path <;> cases rng (x.Value.size : Int) 1 40 <;> simp
theorem specProps (N : Nat) (l : List GProp) (hl : l.length ≤ 1048576) (hs : ∀ x ∈ l, x.Path.size ≤ 1048576) (hN : ∀ x ∈ l, x.Path.size + 1 < N) : p_spec_GoodProps N l = some (goodP l) := by
  unfold p_spec_GoodProps goodP
  by_cases c : (l.length : Int) > 40
  · rw [if_pos c, show decide (l.length ≤ 40) = false by simp; omega]; rfl
  · rw [if_neg c, specP_l0 N l hl hs hN l 0 rfl, Option.bind_some, show decide (l.length ≤ 40) = true by simp; omega]
    cases okPs l 0 l <;> simp
theorem implProps (l : List GProp) (hl : l.length ≤ 1048576) (hs : ∀ x ∈ l, x.Path.size ≤ 1048576) : p_impl_GoodProps l = some (goodP l) := by
  unfold p_impl_GoodProps goodP
  rw [implP_l0 l hl hs l 0 rfl, Option.bind_some]
  cases okPs l 0 l with
  | false => simp
  | true => simp; omega
end Go.Av
end
section
set_option linter.unusedSimpArgs false
set_option linter.unusedVariables false
set_option maxRecDepth 100000
namespace Go.Av
/-! GoodPrefabs: the program and the reference alike. -/
/-- Where a prefab of a name stands first, or -1. -/
def ixN (t : ByteArray) (l : List GPrefab) : Int := if (l.any fun x => decide (x.Name = t)) = true then ((l.findIdx fun x => decide (x.Name = t) : Nat) : Int) else -1
theorem ixN_impl0 (t : ByteArray) : ∀ (l : List GPrefab) (i : Nat), p_slices_IndexFunc_impl_Prefab_impl_Prefab_l0 (fun x0_ => p_impl_prefabAt_1 x0_ t) l i = some (if (l.any fun x => decide (x.Name = t)) = true then .ret ((i + (l.findIdx fun x => decide (x.Name = t)) : Nat) : Int) else .out ())
  | [], i => by simp [p_slices_IndexFunc_impl_Prefab_impl_Prefab_l0]
  | y :: r, i => by
    have ih := ixN_impl0 t r (i + 1)
    rw [p_slices_IndexFunc_impl_Prefab_impl_Prefab_l0, p_impl_prefabAt_1, Option.bind_some]
    by_cases hy : y.Name = t
    · simp [hy, List.findIdx_cons]
    · rw [if_neg (by simpa using hy), ih]
      simp only [List.any_cons, hy, decide_false, Bool.false_or, List.findIdx_cons, cond_false]
      congr 1
      split
      · congr 1; omega
      · rfl
theorem ixN_impl (t : ByteArray) (l : List GPrefab) : p_impl_prefabAt l t = some (ixN t l) := by
  unfold p_impl_prefabAt p_slices_IndexFunc_impl_Prefab_impl_Prefab ixN
  rw [ixN_impl0, Option.bind_some]
  cases (l.any fun x => decide (x.Name = t)) <;> simp
theorem ixN_spec0 (t : ByteArray) : ∀ (l : List GPrefab) (i : Nat), p_spec_l26Prefab_l0 t l i = some (if (l.any fun x => decide (x.Name = t)) = true then .ret ((i + (l.findIdx fun x => decide (x.Name = t)) : Nat) : Int) else .out ())
  | [], i => by simp [p_spec_l26Prefab_l0]
  | y :: r, i => by
    have ih := ixN_spec0 t r (i + 1)
    rw [p_spec_l26Prefab_l0]
    by_cases hy : y.Name = t
    · rw [if_pos hy]; simp [hy, List.findIdx_cons]
    · rw [if_neg hy, ih]
      simp only [List.any_cons, hy, decide_false, Bool.false_or, List.findIdx_cons, cond_false]
      congr 1
      split
      · congr 1; omega
      · rfl
theorem ixN_spec (t : ByteArray) (l : List GPrefab) : p_spec_l26Prefab l t = some (ixN t l) := by
  unfold p_spec_l26Prefab ixN
  rw [ixN_spec0, Option.bind_some]
  cases (l.any fun x => decide (x.Name = t)) <;> simp
theorem ixN_cases (t : ByteArray) (l : List GPrefab) : ixN t l = -1 ∧ (∀ x ∈ l, x.Name ≠ t) ∨ ∃ k : Nat, ixN t l = (k : Int) ∧ k < l.length ∧ ∃ x, l[k]? = some x ∧ x.Name = t := by
  unfold ixN
  cases h : (l.any fun x => decide (x.Name = t)) with
  | false =>
    refine .inl ⟨by simp, fun x hx e => ?_⟩
    rw [List.any_eq_false] at h
    exact h x hx (by simpa using e)
  | true =>
    have hlt : (l.findIdx fun x => decide (x.Name = t)) < l.length := List.findIdx_lt_length.2 (by
      obtain ⟨x, hx, hx2⟩ := List.any_eq_true.1 h; exact ⟨x, hx, hx2⟩)
    have hg := List.findIdx_getElem (w := hlt)
    exact .inr ⟨_, by simp, hlt, _, List.getElem?_eq_getElem hlt, by simpa using hg⟩
theorem ixN_at {l : List GPrefab} {i : Nat} {x : GPrefab} (h : l[i]? = some x) : (ixN x.Name l = (i : Int)) ↔ ixN x.Name (l.take i) = -1 := by
  obtain ⟨hi, hx⟩ := List.getElem?_eq_some_iff.1 h
  have e : l = l.take i ++ (x :: l.drop (i + 1)) := by rw [← hx, ← List.drop_eq_getElem_cons hi, List.take_append_drop]
  have hany : (l.any fun y => decide (y.Name = x.Name)) = true := List.any_eq_true.2 ⟨x, List.mem_of_getElem? h, by simp⟩
  have hlt : (l.take i).length = i := by rw [List.length_take]; omega
  have h1 : ixN x.Name l = ((l.findIdx fun y => decide (y.Name = x.Name) : Nat) : Int) := by unfold ixN; rw [hany]; rfl
  have h2 : (l.findIdx fun y => decide (y.Name = x.Name)) = if ((l.take i).findIdx fun y => decide (y.Name = x.Name)) < (l.take i).length then (l.take i).findIdx fun y => decide (y.Name = x.Name) else (x :: l.drop (i + 1)).findIdx (fun y => decide (y.Name = x.Name)) + (l.take i).length := by
    conv => lhs; rw [e]
    exact List.findIdx_append
  rw [h1, h2]
  cases ha : ((l.take i).any fun y => decide (y.Name = x.Name)) with
  | true =>
    have hl : ((l.take i).findIdx fun y => decide (y.Name = x.Name)) < (l.take i).length := List.findIdx_lt_length.2 (by
      obtain ⟨z, hz, hz2⟩ := List.any_eq_true.1 ha; exact ⟨z, hz, hz2⟩)
    rw [if_pos hl]
    have : ixN x.Name (l.take i) = (((l.take i).findIdx fun y => decide (y.Name = x.Name) : Nat) : Int) := by unfold ixN; rw [ha]; rfl
    rw [this]
    constructor <;> intro hh <;> omega
  | false =>
    have hl : ¬ ((l.take i).findIdx fun y => decide (y.Name = x.Name)) < (l.take i).length := fun hh => by
      obtain ⟨z, hz, hz2⟩ := List.findIdx_lt_length.1 hh
      rw [List.any_eq_false] at ha
      exact ha z hz hz2
    rw [if_neg hl, List.findIdx_cons]
    have : ixN x.Name (l.take i) = -1 := by unfold ixN; rw [ha]; rfl
    rw [this]
    simp [hlt]
def dep (l : List GPrefab) (i : Nat) (nest : List Int) (x : GPrefab) : Option Int := if x.From = (⟨#[]⟩ : ByteArray) then some 1 else (if ixN x.From (l.take i) < 0 then none else some (nest.getD (ixN x.From (l.take i)).toNat 0 + 1))
def gpL (l : List GPrefab) : List GPrefab → Nat → List Int → Bool
  | [], _, _ => true
  | x :: r, i, nest => (dep l i nest x).elim false fun d => goodName x.Name && decide (ixN x.Name (l.take i) = -1) && decide (d ≤ 5) && goodP x.Props && gpL l r (i + 1) (nest ++ [d])
def okN (nest : List Int) : Prop := ∀ d ∈ nest, 1 ≤ d ∧ d ≤ 5
theorem okN_app {nest : List Int} {d : Int} (h : okN nest) (hd : 1 ≤ d ∧ d ≤ 5) : okN (nest ++ [d]) := fun y hy => by
  rcases List.mem_append.1 hy with hy | hy
  · exact h y hy
  · rw [List.mem_singleton.1 hy]; exact hd
theorem okN_get {nest : List Int} {k : Nat} (h : okN nest) (hk : k < nest.length) : 1 ≤ nest.getD k 0 ∧ nest.getD k 0 ≤ 5 := by
  rw [List.getD_eq_getElem?_getD, List.getElem?_eq_getElem hk]; exact h _ (List.getElem_mem hk)
def okPf (x : GPrefab) : Prop := x.Name.size ≤ 1048576 ∧ x.Props.length ≤ 1048576 ∧ ∀ y ∈ x.Props, y.Path.size ≤ 1048576
theorem gp_impl (l : List GPrefab) (hl : l.length ≤ 1048576) (hp : ∀ x ∈ l, okPf x) : ∀ (r : List GPrefab) (i : Nat) (nest : List Int), l.drop i = r → nest.length = i → okN nest → ∃ q, p_impl_GoodPrefabs_l0 l r i nest = some (if gpL l r i nest = true then .out q else .ret false)
  | [], i, nest, _, _, _ => ⟨nest, by simp [p_impl_GoodPrefabs_l0, gpL]⟩
  | x :: r, i, nest, h, hn, ho => by
    obtain ⟨h1, h2, h3⟩ := drop_cons h
    have hx := hp x (List.mem_of_getElem? h2)
    have j0 : ∀ d : Int, 1 ≤ d → ∃ q, p_impl_GoodPrefabs_j0 l nest x i (p_impl_GoodPrefabs_l0 l r) d = some (if (goodName x.Name && decide (ixN x.Name (l.take i) = -1) && decide (d ≤ 5) && goodP x.Props && gpL l r (i + 1) (nest ++ [d])) = true then .out q else .ret false) := fun d hd => by
      unfold p_impl_GoodPrefabs_j0
      rw [if_pos (by omega), if_pos (by have := hx.1; omega), ixN_impl, implProps x.Props hx.2.1 hx.2.2, Option.bind_some, Option.bind_some]
      cases hg : goodName x.Name with
      | false => exact ⟨[], by simp⟩
      | true =>
        by_cases c : ixN x.Name (l.take i) = -1
        · rw [if_pos rfl, if_pos ((ixN_at h2).2 c)]
          by_cases c2 : d > 5
          · rw [if_pos c2]; exact ⟨[], by simp; omega⟩
          · rw [if_neg c2]
            obtain ⟨q, ih⟩ := gp_impl l hl hp r (i + 1) (nest ++ [d]) h3 (by simp; omega) (okN_app ho ⟨hd, by omega⟩)
            rw [ih]
            refine ⟨q, ?_⟩
            have c3 : decide (d ≤ 5) = true := by simp; omega
            rw [c3]
            cases goodP x.Props <;> simp [c]
        · rw [if_pos rfl, if_neg (fun e => c ((ixN_at h2).1 e))]; exact ⟨[], by simp [c]⟩
    have eg : ∀ d, dep l i nest x = some d → gpL l (x :: r) i nest = (goodName x.Name && decide (ixN x.Name (l.take i) = -1) && decide (d ≤ 5) && goodP x.Props && gpL l r (i + 1) (nest ++ [d])) := fun d hd => by
      rw [gpL, hd]; rfl
    have en : dep l i nest x = none → gpL l (x :: r) i nest = false := fun hd => by rw [gpL, hd]; rfl
    rw [p_impl_GoodPrefabs_l0]
    by_cases c : x.From = (⟨#[]⟩ : ByteArray)
    · obtain ⟨q, e⟩ := j0 1 (by omega)
      rw [if_pos c, e, eg 1 (by unfold dep; rw [if_pos c])]; exact ⟨q, rfl⟩
    · rw [if_neg c, show slc l 0 (i : Int) = some (l.take i) from by unfold slc; rw [if_pos (by omega)]; simp, Option.bind_some, ixN_impl, Option.bind_some]
      rcases ixN_cases x.From (l.take i) with ⟨k1, _⟩ | ⟨k, k1, k2, _⟩
      · rw [if_pos (by omega), en (by unfold dep; rw [if_neg c, if_pos (by omega)])]; exact ⟨[], by simp⟩
      · have k3 : k < nest.length := by rw [List.length_take] at k2; omega
        have hgd := okN_get ho k3
        rw [if_neg (by omega), k1]
        have : idx nest (k : Int) = some (nest.getD k 0) := by unfold idx; rw [if_pos (by omega), Int.toNat_natCast, List.getD_eq_getElem?_getD, List.getElem?_eq_getElem k3]; rfl
        rw [this, Option.bind_some, wI _ (by omega) (by omega)]
        obtain ⟨q, e⟩ := j0 (nest.getD k 0 + 1) (by omega)
        rw [e, eg (nest.getD k 0 + 1) (by unfold dep; rw [if_neg c, if_neg (by omega), k1, Int.toNat_natCast])]; exact ⟨q, rfl⟩
theorem gp_spec (N : Nat) (l : List GPrefab) (hl : l.length ≤ 1048576) (hp : ∀ x ∈ l, okPf x) (hN : 1048577 < N) : ∀ (r : List GPrefab) (i : Nat) (nest deep : List Int), l.drop i = r → nest.length = i → deep.take i = nest → deep.length = l.length → okN nest → ∃ q, p_spec_GoodPrefabs_l0 N l r i deep = some (if gpL l r i nest = true then .out q else .ret false)
  | [], i, nest, deep, _, _, _, _, _ => ⟨deep, by simp [p_spec_GoodPrefabs_l0, gpL]⟩
  | x :: r, i, nest, deep, h, hn, ht, hdl, ho => by
    obtain ⟨h1, h2, h3⟩ := drop_cons h
    have hx := hp x (List.mem_of_getElem? h2)
    have e0 : slc l 0 (i : Int) = some (l.take i) := by unfold slc; rw [if_pos (by omega)]; simp
    have j0 : ∀ (d : Int) (dp : List Int), 1 ≤ d → dp.length = l.length → dp.take i = nest → dp[i]? = some d → ∃ q, p_spec_GoodPrefabs_j0 N l x i (p_spec_GoodPrefabs_l0 N l r) dp = some (if (goodName x.Name && decide (ixN x.Name (l.take i) = -1) && decide (d ≤ 5) && goodP x.Props && gpL l r (i + 1) (nest ++ [d])) = true then .out q else .ret false) := fun d dp hd hdp1 hdp2 hdp3 => by
      unfold p_spec_GoodPrefabs_j0
      have ei : idx dp (i : Int) = some d := by unfold idx; rw [if_pos (by omega), Int.toNat_natCast, hdp3]
      rw [if_pos (by have := hx.1; omega), e0, Option.bind_some, ixN_spec, ei, Option.bind_some, Option.bind_some, specProps N x.Props hx.2.1 hx.2.2 (fun y hy => by have := hx.2.2 y hy; omega), Option.bind_some]
      cases hg : goodName x.Name with
      | false => exact ⟨[], by simp⟩
      | true =>
        rw [if_pos rfl]
        rcases ixN_cases x.Name (l.take i) with ⟨k1, _⟩ | ⟨k, k1, k2, _⟩
        · rw [if_neg (by omega)]
          by_cases c2 : d > 5
          · rw [if_pos c2]; exact ⟨[], by simp; omega⟩
          · rw [if_neg c2]
            obtain ⟨q, ih⟩ := gp_spec N l hl hp hN r (i + 1) (nest ++ [d]) dp h3 (by simp; omega) (by rw [List.take_add_one, hdp2, hdp3]; rfl) hdp1 (okN_app ho ⟨hd, by omega⟩)
            rw [ih]
            refine ⟨q, ?_⟩
            have c3 : decide (d ≤ 5) = true := by simp; omega
            rw [c3]
            cases goodP x.Props <;> simp [k1]
        · rw [if_pos (by omega)]; exact ⟨[], by simp; omega⟩
    have eg : ∀ d, dep l i nest x = some d → gpL l (x :: r) i nest = (goodName x.Name && decide (ixN x.Name (l.take i) = -1) && decide (d ≤ 5) && goodP x.Props && gpL l r (i + 1) (nest ++ [d])) := fun d hd => by
      rw [gpL, hd]; rfl
    have en : dep l i nest x = none → gpL l (x :: r) i nest = false := fun hd => by rw [gpL, hd]; rfl
    have hid : i < deep.length := by omega
    rw [p_spec_GoodPrefabs_l0, show idx deep (i : Int) = some deep[i] from idx_of hid, Option.bind_some]
    by_cases c : x.From = (⟨#[]⟩ : ByteArray)
    · obtain ⟨q, e⟩ := j0 1 (deep.set i 1) (by omega) (by rw [List.length_set, hdl]) (by rw [List.take_set_of_le (Nat.le_refl _), ht]) (List.getElem?_set_self hid)
      rw [if_pos c, e, eg 1 (by unfold dep; rw [if_pos c])]; exact ⟨q, rfl⟩
    · rw [if_neg c, e0, Option.bind_some, ixN_spec, Option.bind_some]
      rcases ixN_cases x.From (l.take i) with ⟨k1, _⟩ | ⟨k, k1, k2, _⟩
      · rw [if_pos (by omega), en (by unfold dep; rw [if_neg c, if_pos (by omega)])]; exact ⟨[], by simp⟩
      · have k4 : k < i := by rw [List.length_take] at k2; omega
        have k3 : k < nest.length := by omega
        have hgd := okN_get ho k3
        have hk : deep[k]? = some (nest.getD k 0) := by
          rw [List.getD_eq_getElem?_getD, ← ht, List.getElem?_take_of_lt k4, List.getElem?_eq_getElem (by omega)]; rfl
        rw [if_neg (by omega), k1]
        have : idx (deep.set i 1) (k : Int) = some (nest.getD k 0) := by
          unfold idx; rw [if_pos (by omega), Int.toNat_natCast, List.getElem?_set_ne (by omega), hk]
        rw [this, Option.bind_some, wI _ (by omega) (by omega)]
        obtain ⟨q, e⟩ := j0 (nest.getD k 0 + 1) ((deep.set i 1).set i (nest.getD k 0 + 1)) (by omega) (by rw [List.length_set, List.length_set, hdl]) (by rw [List.take_set_of_le (Nat.le_refl _), List.take_set_of_le (Nat.le_refl _), ht]) (List.getElem?_set_self (by rw [List.length_set]; exact hid))
        rw [e, eg (nest.getD k 0 + 1) (by unfold dep; rw [if_neg c, if_neg (by omega), k1, Int.toNat_natCast])]; exact ⟨q, rfl⟩
def goodPf (l : List GPrefab) : Bool := decide (l.length ≤ 40) && gpL l l 0 []
theorem implPrefabs (l : List GPrefab) (hl : l.length ≤ 1048576) (hp : ∀ x ∈ l, okPf x) : p_impl_GoodPrefabs l = some (goodPf l) := by
  unfold p_impl_GoodPrefabs goodPf
  obtain ⟨q, e⟩ := gp_impl l hl hp l 0 [] rfl rfl (fun d hd => by simp at hd)
  rw [e, Option.bind_some]
  cases gpL l l 0 [] with
  | false => simp
  | true => simp; omega
theorem specPrefabs (N : Nat) (l : List GPrefab) (hl : l.length ≤ 1048576) (hp : ∀ x ∈ l, okPf x) (hN : 1048577 < N) : p_spec_GoodPrefabs N l = some (goodPf l) := by
  unfold p_spec_GoodPrefabs goodPf
  by_cases c : (l.length : Int) > 40
  · rw [if_pos c, show decide (l.length ≤ 40) = false by simp; omega]; rfl
  · rw [if_neg c, show mkl (l.length : Int) (0 : Int) = some (List.replicate l.length 0) from by unfold mkl; rw [if_pos (by omega)]; simp, Option.bind_some]
    obtain ⟨q, e⟩ := gp_spec N l hl hp hN l 0 [] (List.replicate l.length 0) rfl rfl rfl (by simp) (fun d hd => by simp at hd)
    rw [e, Option.bind_some, show decide (l.length ≤ 40) = true by simp; omega]
    cases gpL l l 0 [] <;> simp
end Go.Av
end
section
set_option linter.unusedSimpArgs false
set_option linter.unusedVariables false
set_option maxRecDepth 100000
namespace Go.Av
open Go.Proofs

/-- The digits that a mark is written with. -/
def mdig (k : Int) (out : ByteArray) : ByteArray := if h : 0 < k then mdig (k.tdiv 10) (strOf [IntKind.u8.wrap (IntKind.i64.wrap (48 + k.tmod 10))] ++ out) else out
termination_by k.toNat
decreasing_by
  have := Int.tdiv_eq_ediv_of_nonneg (a := k) (b := 10) (by omega)
  omega
def mtext (k : Int) : ByteArray := if k ≤ 0 then ⟨#[109, 48]⟩ else ⟨#[109]⟩ ++ mdig k ⟨#[]⟩
def mStr (x : ByteArray) (k : Int) : ByteArray := mtext k
end Go.Av
end
section
set_option linter.unusedSimpArgs false
set_option linter.unusedVariables false
set_option maxRecDepth 100000
set_option maxHeartbeats 1000000
namespace Go.Av
open Go.Proofs
/-! Prop -/
def wfProp (n : Nat) (x : GProp) : Prop := x.Path.size ≤ n ∧ x.Value.size ≤ n
def szProp (x : GProp) (left : Int) : Int := szStep (left - x.Path.size) fun left => szStep (left - x.Value.size) fun left => left
theorem szProp_ok : szOk szProp := fun x left h => szStep_le h (by omega) (fun left h => szStep_le h (by omega) (fun left h => Int.le_refl _))
theorem szProp_does (x : GProp) (left : Int) (h0 : 0 ≤ left) (h1 : left ≤ 1048576) (hx : wfProp 9223372036854775807 x) : Does Tryd.prog 15 [.agg (eProp x), I left] (I (szProp x left)) := by
  unfold wfProp at hx
  refine Does.walk (nt := 20) Tryd.func15 rfl rfl (by simp) (by decide) rfl (fun G0 X w0 pv => ?_)
  unfold szProp
  have hv0 : (left - (x.Path.size : Int) : Int) ≤ left := by omega
  have w0 : IntKind.i64.wrap (left - (x.Path.size : Int)) = left - (x.Path.size : Int) := wI _ (by omega) (by omega)
  have ff := And.intro @eProp_eq (And.intro @w0 (And.intro @Ty.nz9 (And.intro @Ty.ldA9 (And.intro @Ty.ldS9 (And.intro @Ty.sz9 (And.intro @Ty.szn9 (And.intro @Ty.fo38_0 (And.intro @Ty.fk38_0 (And.intro @Ty.fs38_0 (And.intro @Ty.fn38_0 (And.intro @Ty.fo38_1 (And.intro @Ty.fk38_1 (And.intro @Ty.fs38_1 (And.intro @Ty.fn38_1 @Ty.str9))))))))))))))
  try refine st_by ff ?_
  repeat' (first
    | exact trivial
    | (refine And.intro ?_ ?_; · (try clear ff; first | omega))
    | (refine ret_q1 rfl ?_; (try refine sr_by ff ?_); all_goals (try clear ff); all_goals (try exact trivial); all_goals ((rw [szStep_neg (by assumption)])))
    | (with_reducible refine CBC_eq (fun hp hd => ?_) (fun hp hd => ?_) <;> refine st_by (And.intro hd ff) ?_)
    | (with_reducible refine CBC_ne (fun hp hd => ?_) (fun hp hd => ?_) <;> refine st_by (And.intro hd ff) ?_)
    | (with_reducible refine CBC_decT ?_ (fun hd => ?_); (· try clear ff; first | assumption | omega); refine st_by (And.intro hd ff) ?_)
    | (with_reducible refine CBC_decF ?_ (fun hd => ?_); (· try clear ff; first | assumption | omega); refine st_by (And.intro hd ff) ?_)
    | (with_reducible refine CBC_dec (p := left - (x.Path.size : Int) < 0) (fun hp hd => ?_) (fun hp hd => ?_) <;> refine st_by (And.intro hd ff) ?_)
    | (with_reducible refine GQ_eq (fun hp hd => ?_) (fun hp hd => ?_) <;> refine st_by (And.intro hd ff) ?_)
    | (with_reducible refine GQ_ne (fun hp hd => ?_) (fun hp hd => ?_) <;> refine st_by (And.intro hd ff) ?_)
    | (with_reducible refine GQ_decT ?_ (fun hd => ?_); (· try clear ff; first | assumption | omega); refine st_by (And.intro hd ff) ?_)
    | (with_reducible refine GQ_decF ?_ (fun hd => ?_); (· try clear ff; first | assumption | omega); refine st_by (And.intro hd ff) ?_)
    | (with_reducible refine GQ_dec (p := left - (x.Path.size : Int) < 0) (fun hp hd => ?_) (fun hp hd => ?_) <;> refine st_by (And.intro hd ff) ?_)
    | (with_reducible refine GQ_ndT ?_ (fun hd => ?_); (· try clear ff; first | assumption | omega); refine st_by (And.intro hd ff) ?_)
    | (with_reducible refine GQ_ndF ?_ (fun hd => ?_); (· try clear ff; first | assumption | omega); refine st_by (And.intro hd ff) ?_)
    | (with_reducible refine GQ_nd (fun hp hd => ?_) (fun hp hd => ?_) <;> refine st_by (And.intro hd ff) ?_))
  all_goals try clear ff
  rw [szStep_pos (by assumption)]
  generalize hg0 : (left - (x.Path.size : Int) : Int) = v0 at *
  have hv1 : (v0 - (x.Value.size : Int) : Int) ≤ v0 := by omega
  have w1 : IntKind.i64.wrap (v0 - (x.Value.size : Int)) = v0 - (x.Value.size : Int) := wI _ (by omega) (by omega)
  have ff := And.intro @eProp_eq (And.intro @w1 (And.intro @Ty.nz9 (And.intro @Ty.ldA9 (And.intro @Ty.ldS9 (And.intro @Ty.sz9 (And.intro @Ty.szn9 (And.intro @Ty.fo38_0 (And.intro @Ty.fk38_0 (And.intro @Ty.fs38_0 (And.intro @Ty.fn38_0 (And.intro @Ty.fo38_1 (And.intro @Ty.fk38_1 (And.intro @Ty.fs38_1 (And.intro @Ty.fn38_1 @Ty.str9))))))))))))))
  try refine st_by ff ?_
  repeat' (first
    | exact trivial
    | (refine And.intro ?_ ?_; · (try clear ff; first | omega))
    | (refine ret_q1 rfl ?_; (try refine sr_by ff ?_); all_goals (try clear ff); all_goals (try exact trivial); all_goals ((first | rw [szStep_neg (by assumption)] | rw [szStep_pos (by assumption)])))
    | (with_reducible refine CBC_eq (fun hp hd => ?_) (fun hp hd => ?_) <;> refine st_by (And.intro hd ff) ?_)
    | (with_reducible refine CBC_ne (fun hp hd => ?_) (fun hp hd => ?_) <;> refine st_by (And.intro hd ff) ?_)
    | (with_reducible refine CBC_decT ?_ (fun hd => ?_); (· try clear ff; first | assumption | omega); refine st_by (And.intro hd ff) ?_)
    | (with_reducible refine CBC_decF ?_ (fun hd => ?_); (· try clear ff; first | assumption | omega); refine st_by (And.intro hd ff) ?_)
    | (with_reducible refine CBC_dec (fun hp hd => ?_) (fun hp hd => ?_) <;> refine st_by (And.intro hd ff) ?_)
    | (refine CBC_bool (fun hd => ?_) (fun hd => ?_) <;> refine st_by (And.intro hd ff) ?_)
    | (with_reducible refine GQ_eq (fun hp hd => ?_) (fun hp hd => ?_) <;> refine st_by (And.intro hd ff) ?_)
    | (with_reducible refine GQ_ne (fun hp hd => ?_) (fun hp hd => ?_) <;> refine st_by (And.intro hd ff) ?_)
    | (with_reducible refine GQ_decT ?_ (fun hd => ?_); (· try clear ff; first | assumption | omega); refine st_by (And.intro hd ff) ?_)
    | (with_reducible refine GQ_decF ?_ (fun hd => ?_); (· try clear ff; first | assumption | omega); refine st_by (And.intro hd ff) ?_)
    | (with_reducible refine GQ_dec (fun hp hd => ?_) (fun hp hd => ?_) <;> refine st_by (And.intro hd ff) ?_)
    | (with_reducible refine GQ_ndT ?_ (fun hd => ?_); (· try clear ff; first | assumption | omega); refine st_by (And.intro hd ff) ?_)
    | (with_reducible refine GQ_ndF ?_ (fun hd => ?_); (· try clear ff; first | assumption | omega); refine st_by (And.intro hd ff) ?_)
    | (with_reducible refine GQ_nd (fun hp hd => ?_) (fun hp hd => ?_) <;> refine st_by (And.intro hd ff) ?_)
    | (refine GQ_nb (fun hd => ?_) (fun hd => ?_) <;> refine st_by (And.intro hd ff) ?_)
    | (refine GQ_bool (fun hd => ?_) (fun hd => ?_) <;> refine st_by (And.intro hd ff) ?_))
  all_goals try clear ff
theorem toProp_does (x : GProp) : Does Tryd.prog 18 [.agg (eProp x)] (.agg (eProp x)) := by
  refine Does.walk (nt := 11) Tryd.func18 rfl rfl (by simp) (by decide) rfl (fun G0 X w0 pv => ?_)
  have ff := And.intro @eProp_eq (And.intro @Ty.nz9 (And.intro @Ty.ldA9 (And.intro @Ty.ldS9 (And.intro @Ty.sz9 (And.intro @Ty.szn9 (And.intro @Ty.nz39 (And.intro @Ty.ldA39 (And.intro @Ty.sz39 (And.intro @Ty.szn39 (And.intro @Ty.fo38_0 (And.intro @Ty.fk38_0 (And.intro @Ty.fs38_0 (And.intro @Ty.fn38_0 (And.intro @Ty.fo39_0 (And.intro @Ty.fk39_0 (And.intro @Ty.fs39_0 (And.intro @Ty.fn39_0 (And.intro @Ty.fo38_1 (And.intro @Ty.fk38_1 (And.intro @Ty.fs38_1 (And.intro @Ty.fn38_1 (And.intro @Ty.fo39_1 (And.intro @Ty.fk39_1 (And.intro @Ty.fs39_1 (And.intro @Ty.fn39_1 (And.intro @Ty.zv39 @Ty.ag39))))))))))))))))))))))))))
  try refine st_by ff ?_
  repeat' (first
    | exact trivial
    | (refine And.intro ?_ ?_; · (try clear ff; first | omega | decide))
    | (refine ret_q1 rfl ?_; (try refine sr_by ff ?_); all_goals (try clear ff); all_goals (try exact trivial); all_goals (skip))
    | (with_reducible refine CBC_eq (fun hp hd => ?_) (fun hp hd => ?_) <;> refine st_by (And.intro hd ff) ?_)
    | (with_reducible refine CBC_ne (fun hp hd => ?_) (fun hp hd => ?_) <;> refine st_by (And.intro hd ff) ?_)
    | (with_reducible refine CBC_decT ?_ (fun hd => ?_); (· try clear ff; first | assumption | omega); refine st_by (And.intro hd ff) ?_)
    | (with_reducible refine CBC_decF ?_ (fun hd => ?_); (· try clear ff; first | assumption | omega); refine st_by (And.intro hd ff) ?_)
    | (with_reducible refine CBC_dec (fun hp hd => ?_) (fun hp hd => ?_) <;> refine st_by (And.intro hd ff) ?_)
    | (refine CBC_bool (fun hd => ?_) (fun hd => ?_) <;> refine st_by (And.intro hd ff) ?_)
    | (with_reducible refine GQ_eq (fun hp hd => ?_) (fun hp hd => ?_) <;> refine st_by (And.intro hd ff) ?_)
    | (with_reducible refine GQ_ne (fun hp hd => ?_) (fun hp hd => ?_) <;> refine st_by (And.intro hd ff) ?_)
    | (with_reducible refine GQ_decT ?_ (fun hd => ?_); (· try clear ff; first | assumption | omega); refine st_by (And.intro hd ff) ?_)
    | (with_reducible refine GQ_decF ?_ (fun hd => ?_); (· try clear ff; first | assumption | omega); refine st_by (And.intro hd ff) ?_)
    | (with_reducible refine GQ_dec (fun hp hd => ?_) (fun hp hd => ?_) <;> refine st_by (And.intro hd ff) ?_)
    | (with_reducible refine GQ_ndT ?_ (fun hd => ?_); (· try clear ff; first | assumption | omega); refine st_by (And.intro hd ff) ?_)
    | (with_reducible refine GQ_ndF ?_ (fun hd => ?_); (· try clear ff; first | assumption | omega); refine st_by (And.intro hd ff) ?_)
    | (with_reducible refine GQ_nd (fun hp hd => ?_) (fun hp hd => ?_) <;> refine st_by (And.intro hd ff) ?_)
    | (refine GQ_nb (fun hd => ?_) (fun hd => ?_) <;> refine st_by (And.intro hd ff) ?_)
    | (refine GQ_bool (fun hd => ?_) (fun hd => ?_) <;> refine st_by (And.intro hd ff) ?_))
  all_goals try clear ff
theorem eqProp_does (x y : GProp) : Does Tryd.prog 21 [.agg (eProp x), .agg (eProp y)] (B (decide (x = y))) := by
  have hxy : decide (x = y) = decide (x.Path = y.Path ∧ x.Value = y.Value) := decide_eq_decide.2 (by cases x; cases y; simp)
  rw [hxy]
  refine Does.walk (nt := 15) Tryd.func21 rfl rfl (by simp) (by decide) rfl (fun G0 X w0 pv => ?_)
  have ff := And.intro @eProp_eq (And.intro @str_beq (And.intro @Ty.nz9 (And.intro @Ty.ldA9 (And.intro @Ty.ldS9 (And.intro @Ty.sz9 (And.intro @Ty.szn9 (And.intro @Ty.fo39_0 (And.intro @Ty.fk39_0 (And.intro @Ty.fs39_0 (And.intro @Ty.fn39_0 (And.intro @Ty.fo39_1 (And.intro @Ty.fk39_1 (And.intro @Ty.fs39_1 @Ty.fn39_1)))))))))))))
  try refine st_by ff ?_
  repeat' (first
    | exact trivial
    | (refine And.intro ?_ ?_; · (try clear ff; first | omega))
    | (refine ret_q1 rfl ?_; (try refine sr_by ff ?_); all_goals (try clear ff); all_goals (try exact trivial); all_goals (simp_all))
    | (with_reducible refine CBC_eq (fun hp hd => ?_) (fun hp hd => ?_) <;> refine st_by (And.intro hd ff) ?_)
    | (with_reducible refine CBC_ne (fun hp hd => ?_) (fun hp hd => ?_) <;> refine st_by (And.intro hd ff) ?_)
    | (with_reducible refine CBC_decT ?_ (fun hd => ?_); (· try clear ff; first | assumption | omega); refine st_by (And.intro hd ff) ?_)
    | (with_reducible refine CBC_decF ?_ (fun hd => ?_); (· try clear ff; first | assumption | omega); refine st_by (And.intro hd ff) ?_)
    | (with_reducible refine CBC_dec (fun hp hd => ?_) (fun hp hd => ?_) <;> refine st_by (And.intro hd ff) ?_)
    | (refine CBC_bool (fun hd => ?_) (fun hd => ?_) <;> refine st_by (And.intro hd ff) ?_)
    | (with_reducible refine GQ_eq (fun hp hd => ?_) (fun hp hd => ?_) <;> refine st_by (And.intro hd ff) ?_)
    | (with_reducible refine GQ_ne (fun hp hd => ?_) (fun hp hd => ?_) <;> refine st_by (And.intro hd ff) ?_)
    | (with_reducible refine GQ_decT ?_ (fun hd => ?_); (· try clear ff; first | assumption | omega); refine st_by (And.intro hd ff) ?_)
    | (with_reducible refine GQ_decF ?_ (fun hd => ?_); (· try clear ff; first | assumption | omega); refine st_by (And.intro hd ff) ?_)
    | (with_reducible refine GQ_dec (fun hp hd => ?_) (fun hp hd => ?_) <;> refine st_by (And.intro hd ff) ?_)
    | (with_reducible refine GQ_ndT ?_ (fun hd => ?_); (· try clear ff; first | assumption | omega); refine st_by (And.intro hd ff) ?_)
    | (with_reducible refine GQ_ndF ?_ (fun hd => ?_); (· try clear ff; first | assumption | omega); refine st_by (And.intro hd ff) ?_)
    | (with_reducible refine GQ_nd (fun hp hd => ?_) (fun hp hd => ?_) <;> refine st_by (And.intro hd ff) ?_)
    | (refine GQ_nb (fun hd => ?_) (fun hd => ?_) <;> refine st_by (And.intro hd ff) ?_)
    | (refine GQ_bool (fun hd => ?_) (fun hd => ?_) <;> refine st_by (And.intro hd ff) ?_))
  all_goals try clear ff
/-! []Prop -/
theorem szPropS_does (l : List GProp) (left : Int) (h0 : 0 ≤ left) (h1 : left ≤ 1048576) (hl : l.length ≤ 9223372036854775807) (hx : ∀ x ∈ l, wfProp 9223372036854775807 x) : Does Tryd.prog 5 [.row false 2 l.length (esProp l), I left] (I (szRow szProp l left)) := by
  have w1 : IntKind.i64.wrap (left - (l.length : Int)) = left - l.length := wI _ (by omega) (by omega)
  refine Does.walk (nt := 27) Tryd.func5 rfl rfl (by simp) (by decide) rfl (fun G0 X w0 pv => ?_)
  have ff := And.intro @w1 (And.intro @Ty.sl22 (And.intro @Ty.slz22 (And.intro @Ty.nz38 (And.intro @Ty.ldA38 (And.intro @Ty.sz38 @Ty.szn38)))))
  try refine st_by ff ?_
  repeat' (first
    | exact trivial
    | (refine And.intro ?_ ?_; · (try clear ff; first | omega))
    | (refine ret_q1 rfl ?_; (try refine sr_by ff ?_); all_goals (try clear ff); all_goals (try exact trivial); all_goals ((simp only [szRow]; first | rw [szStep_neg (by omega)] | rw [szStep_pos (by omega)])))
    | (with_reducible refine CBC_eq (fun hp hd => ?_) (fun hp hd => ?_) <;> refine st_by (And.intro hd ff) ?_)
    | (with_reducible refine CBC_ne (fun hp hd => ?_) (fun hp hd => ?_) <;> refine st_by (And.intro hd ff) ?_)
    | (with_reducible refine CBC_decT ?_ (fun hd => ?_); (· try clear ff; first | assumption | omega); refine st_by (And.intro hd ff) ?_)
    | (with_reducible refine CBC_decF ?_ (fun hd => ?_); (· try clear ff; first | assumption | omega); refine st_by (And.intro hd ff) ?_)
    | (with_reducible refine CBC_dec (fun hp hd => ?_) (fun hp hd => ?_) <;> refine st_by (And.intro hd ff) ?_)
    | (refine CBC_bool (fun hd => ?_) (fun hd => ?_) <;> refine st_by (And.intro hd ff) ?_)
    | (with_reducible refine GQ_eq (fun hp hd => ?_) (fun hp hd => ?_) <;> refine st_by (And.intro hd ff) ?_)
    | (with_reducible refine GQ_ne (fun hp hd => ?_) (fun hp hd => ?_) <;> refine st_by (And.intro hd ff) ?_)
    | (with_reducible refine GQ_decT ?_ (fun hd => ?_); (· try clear ff; first | assumption | omega); refine st_by (And.intro hd ff) ?_)
    | (with_reducible refine GQ_decF ?_ (fun hd => ?_); (· try clear ff; first | assumption | omega); refine st_by (And.intro hd ff) ?_)
    | (with_reducible refine GQ_dec (fun hp hd => ?_) (fun hp hd => ?_) <;> refine st_by (And.intro hd ff) ?_)
    | (with_reducible refine GQ_ndT ?_ (fun hd => ?_); (· try clear ff; first | assumption | omega); refine st_by (And.intro hd ff) ?_)
    | (with_reducible refine GQ_ndF ?_ (fun hd => ?_); (· try clear ff; first | assumption | omega); refine st_by (And.intro hd ff) ?_)
    | (with_reducible refine GQ_nd (fun hp hd => ?_) (fun hp hd => ?_) <;> refine st_by (And.intro hd ff) ?_)
    | (refine GQ_nb (fun hd => ?_) (fun hd => ?_) <;> refine st_by (And.intro hd ff) ?_)
    | (refine GQ_bool (fun hd => ?_) (fun hd => ?_) <;> refine st_by (And.intro hd ff) ?_))
  all_goals try clear ff
  have e0 : szRow szProp l left = szL szProp l (left - l.length) := by simp only [szRow]; rw [szStep_pos (by omega)]
  rw [e0]
  refine aw_loop (ι := Nat × Int) (fun z σ => (z.1 ≤ l.length ∧ 0 ≤ z.2 ∧ z.2 ≤ 1048576 ∧ szL szProp (l.drop z.1) z.2 = szL szProp l (left - l.length)) ∧ σ.t 0 = .row false 2 l.length (esProp l) ∧ σ.t 1 = I z.2 ∧ σ.t 5 = I z.1) (fun z => l.length - z.1) (0, left - l.length) ?_ ?_
  · (first | exact cl_by trivial | refine st_by trivial ?_)
    simp [w1]; omega
  · rintro ⟨i, a⟩ σ ⟨⟨h2, h3, h4, h5⟩, g0, g1, g5⟩
    simp only at h2 h3 h4 h5 g0 g1 g5
    by_cases hi : i < l.length
    · have w2 : IntKind.i64.wrap ((i : Int) + 1) = ((i + 1 : Nat) : Int) := wI _ (by omega) (by omega)
      have hle := szProp_ok l[i] a h3
      have hd0 := szL_drop (f := szProp) l i hi a
      have hx0 := hx l[i] (List.getElem_mem hi)
      have ff := And.intro @g0 (And.intro @g1 (And.intro @g5 (And.intro @w2 (And.intro @hi (And.intro ((esProp_drop l i hi)) (And.intro @esProp_len (And.intro @eProp_eq (And.intro @Ty.sl22 (And.intro @Ty.slz22 (And.intro @Ty.nz38 (And.intro @Ty.ldA38 (And.intro @Ty.sz38 @Ty.szn38))))))))))))
      try refine st_by ff ?_
      repeat' (first
        | exact trivial
        | (refine And.intro ?_ ?_; · (try clear ff; first | omega | (rw [List.length_append]; simp [esProp_len]; omega) | (simp [eProp]; done) | decide | (simp [esProp_len]; omega) | rfl))
        | (refine ret_q1 rfl ?_; (try refine sr_by ff ?_); all_goals (try clear ff); all_goals (try exact trivial); all_goals (first | (rw [← h5, hd0, szStep_neg (by first | assumption | omega)]; done) | (exfalso; omega)))
        | (with_reducible refine cq_call (szProp_does l[i] a h3 h4 hx0) ?_ ?_ ⟨?_, ?_⟩; (· first | rfl | exact cl_by ff); (· first | assumption | kernel_rfl); (· first | exact ca_by ff | (refine sa_by ff ?_; try clear ff; first | exact trivial | omega | (rw [List.length_append]; simp [esProp_len]; omega) | (simp [eProp]; done) | decide | (simp [esProp_len]; omega) | rfl)); refine st_by ff ?_)
        | (with_reducible refine CBC_eq (fun hp hd => ?_) (fun hp hd => ?_) <;> refine st_by (And.intro hd ff) ?_)
        | (with_reducible refine CBC_ne (fun hp hd => ?_) (fun hp hd => ?_) <;> refine st_by (And.intro hd ff) ?_)
        | (with_reducible refine CBC_decT ?_ (fun hd => ?_); (· try clear ff; first | assumption | omega); refine st_by (And.intro hd ff) ?_)
        | (with_reducible refine CBC_decF ?_ (fun hd => ?_); (· try clear ff; first | assumption | omega); refine st_by (And.intro hd ff) ?_)
        | (with_reducible refine CBC_dec (fun hp hd => ?_) (fun hp hd => ?_) <;> refine st_by (And.intro hd ff) ?_)
        | (refine CBC_bool (fun hd => ?_) (fun hd => ?_) <;> refine st_by (And.intro hd ff) ?_)
        | (with_reducible refine GQ_eq (fun hp hd => ?_) (fun hp hd => ?_) <;> refine st_by (And.intro hd ff) ?_)
        | (with_reducible refine GQ_ne (fun hp hd => ?_) (fun hp hd => ?_) <;> refine st_by (And.intro hd ff) ?_)
        | (with_reducible refine GQ_decT ?_ (fun hd => ?_); (· try clear ff; first | assumption | omega); refine st_by (And.intro hd ff) ?_)
        | (with_reducible refine GQ_decF ?_ (fun hd => ?_); (· try clear ff; first | assumption | omega); refine st_by (And.intro hd ff) ?_)
        | (with_reducible refine GQ_dec (fun hp hd => ?_) (fun hp hd => ?_) <;> refine st_by (And.intro hd ff) ?_)
        | (with_reducible refine GQ_ndT ?_ (fun hd => ?_); (· try clear ff; first | assumption | omega); refine st_by (And.intro hd ff) ?_)
        | (with_reducible refine GQ_ndF ?_ (fun hd => ?_); (· try clear ff; first | assumption | omega); refine st_by (And.intro hd ff) ?_)
        | (with_reducible refine GQ_nd (fun hp hd => ?_) (fun hp hd => ?_) <;> refine st_by (And.intro hd ff) ?_)
        | (refine GQ_nb (fun hd => ?_) (fun hd => ?_) <;> refine st_by (And.intro hd ff) ?_)
        | (refine GQ_bool (fun hd => ?_) (fun hd => ?_) <;> refine st_by (And.intro hd ff) ?_)
        | ((try clear ff); refine ⟨(i + 1, szProp l[i] a), ⟨⟨?_, ?_, ?_, ?_⟩, rfl, rfl⟩, ?_⟩; (· simp only; omega); (· simp only; omega); (· simp only; omega); (· simp only; rw [← h5, hd0, szStep_pos (by first | assumption | omega)]); (· simp only; omega)))
      all_goals try clear ff
    · have e1 : l.drop i = [] := List.drop_of_length_le (by omega)
      have ff := And.intro @g0 (And.intro @g1 (And.intro @g5 (And.intro @Ty.sl22 (And.intro @Ty.slz22 (And.intro @Ty.nz38 (And.intro @Ty.ldA38 (And.intro @Ty.sz38 @Ty.szn38)))))))
      try refine st_by ff ?_
      repeat' (first
        | exact trivial
        | (refine And.intro ?_ ?_; · (try clear ff; first | omega))
        | (refine ret_q1 rfl ?_; (try refine sr_by ff ?_); all_goals (try clear ff); all_goals (try exact trivial); all_goals (rw [← h5, e1]; rfl))
        | (with_reducible refine CBC_eq (fun hp hd => ?_) (fun hp hd => ?_) <;> refine st_by (And.intro hd ff) ?_)
        | (with_reducible refine CBC_ne (fun hp hd => ?_) (fun hp hd => ?_) <;> refine st_by (And.intro hd ff) ?_)
        | (with_reducible refine CBC_decT ?_ (fun hd => ?_); (· try clear ff; first | assumption | omega); refine st_by (And.intro hd ff) ?_)
        | (with_reducible refine CBC_decF ?_ (fun hd => ?_); (· try clear ff; first | assumption | omega); refine st_by (And.intro hd ff) ?_)
        | (with_reducible refine CBC_dec (fun hp hd => ?_) (fun hp hd => ?_) <;> refine st_by (And.intro hd ff) ?_)
        | (refine CBC_bool (fun hd => ?_) (fun hd => ?_) <;> refine st_by (And.intro hd ff) ?_)
        | (with_reducible refine GQ_eq (fun hp hd => ?_) (fun hp hd => ?_) <;> refine st_by (And.intro hd ff) ?_)
        | (with_reducible refine GQ_ne (fun hp hd => ?_) (fun hp hd => ?_) <;> refine st_by (And.intro hd ff) ?_)
        | (with_reducible refine GQ_decT ?_ (fun hd => ?_); (· try clear ff; first | assumption | omega); refine st_by (And.intro hd ff) ?_)
        | (with_reducible refine GQ_decF ?_ (fun hd => ?_); (· try clear ff; first | assumption | omega); refine st_by (And.intro hd ff) ?_)
        | (with_reducible refine GQ_dec (fun hp hd => ?_) (fun hp hd => ?_) <;> refine st_by (And.intro hd ff) ?_)
        | (with_reducible refine GQ_ndT ?_ (fun hd => ?_); (· try clear ff; first | assumption | omega); refine st_by (And.intro hd ff) ?_)
        | (with_reducible refine GQ_ndF ?_ (fun hd => ?_); (· try clear ff; first | assumption | omega); refine st_by (And.intro hd ff) ?_)
        | (with_reducible refine GQ_nd (fun hp hd => ?_) (fun hp hd => ?_) <;> refine st_by (And.intro hd ff) ?_)
        | (refine GQ_nb (fun hd => ?_) (fun hd => ?_) <;> refine st_by (And.intro hd ff) ?_)
        | (refine GQ_bool (fun hd => ?_) (fun hd => ?_) <;> refine st_by (And.intro hd ff) ?_))
      all_goals try clear ff
theorem toPropS_does (l : List GProp) (hl : l.length ≤ 1048576) : Does Tryd.prog 7 [.row false 2 l.length (esProp l)] (.row true 2 l.length (esProp l)) := by
  have hz := zRows (enc := eProp) (z := (⟨⟨#[]⟩, ⟨#[]⟩⟩ : GProp)) (zs := [.string ⟨#[]⟩, .string ⟨#[]⟩]) (by decide) rfl l.length
  refine Does.walk (nt := 23) Tryd.func7 rfl rfl (by simp) (by decide) rfl (fun G0 X w0 pv => ?_)
  have ff := And.intro @Ty.sl22 (And.intro @Ty.slz22 (And.intro @Ty.sl25 (And.intro @Ty.slz25 (And.intro @Ty.nz38 (And.intro @Ty.ldA38 (And.intro @Ty.sz38 (And.intro @Ty.szn38 (And.intro @Ty.nz39 (And.intro @Ty.ldA39 (And.intro @Ty.sz39 (And.intro @Ty.szn39 (And.intro @Ty.nze25 (And.intro @Ty.zok25 (And.intro @Ty.by25 @Ty.zs25))))))))))))))
  try refine st_by ff ?_
  repeat' (first
    | exact trivial
    | (refine And.intro ?_ ?_; · (try clear ff; first | omega | decide | rfl))
    | (refine ret_q1 rfl ?_; (try refine sr_by ff ?_); all_goals (try clear ff); all_goals (try exact trivial); all_goals (skip))
    | (with_reducible refine CBC_eq (fun hp hd => ?_) (fun hp hd => ?_) <;> refine st_by (And.intro hd ff) ?_)
    | (with_reducible refine CBC_ne (fun hp hd => ?_) (fun hp hd => ?_) <;> refine st_by (And.intro hd ff) ?_)
    | (with_reducible refine CBC_decT ?_ (fun hd => ?_); (· try clear ff; first | assumption | omega); refine st_by (And.intro hd ff) ?_)
    | (with_reducible refine CBC_decF ?_ (fun hd => ?_); (· try clear ff; first | assumption | omega); refine st_by (And.intro hd ff) ?_)
    | (with_reducible refine CBC_dec (fun hp hd => ?_) (fun hp hd => ?_) <;> refine st_by (And.intro hd ff) ?_)
    | (refine CBC_bool (fun hd => ?_) (fun hd => ?_) <;> refine st_by (And.intro hd ff) ?_)
    | (with_reducible refine GQ_eq (fun hp hd => ?_) (fun hp hd => ?_) <;> refine st_by (And.intro hd ff) ?_)
    | (with_reducible refine GQ_ne (fun hp hd => ?_) (fun hp hd => ?_) <;> refine st_by (And.intro hd ff) ?_)
    | (with_reducible refine GQ_decT ?_ (fun hd => ?_); (· try clear ff; first | assumption | omega); refine st_by (And.intro hd ff) ?_)
    | (with_reducible refine GQ_decF ?_ (fun hd => ?_); (· try clear ff; first | assumption | omega); refine st_by (And.intro hd ff) ?_)
    | (with_reducible refine GQ_dec (fun hp hd => ?_) (fun hp hd => ?_) <;> refine st_by (And.intro hd ff) ?_)
    | (with_reducible refine GQ_ndT ?_ (fun hd => ?_); (· try clear ff; first | assumption | omega); refine st_by (And.intro hd ff) ?_)
    | (with_reducible refine GQ_ndF ?_ (fun hd => ?_); (· try clear ff; first | assumption | omega); refine st_by (And.intro hd ff) ?_)
    | (with_reducible refine GQ_nd (fun hp hd => ?_) (fun hp hd => ?_) <;> refine st_by (And.intro hd ff) ?_)
    | (refine GQ_nb (fun hd => ?_) (fun hd => ?_) <;> refine st_by (And.intro hd ff) ?_)
    | (refine GQ_bool (fun hd => ?_) (fun hd => ?_) <;> refine st_by (And.intro hd ff) ?_))
  all_goals try clear ff
  refine aw_loop (ι := Nat) (fun i σ => i ≤ l.length ∧ σ.t 0 = .row false 2 l.length (esProp l) ∧ σ.t 4 = I i ∧ σ.t 3 = .sl 3 [] 0 l.length ∧ σ.m 3 = some (.row true 2 l.length (esProp (l.take i ++ List.replicate (l.length - i) ⟨⟨#[]⟩, ⟨#[]⟩⟩)))) (fun i => l.length - i) 0 ?_ ?_
  · (first | exact cl_by (And.intro @Ty.sl22 (And.intro @Ty.slz22 (And.intro @Ty.sl25 (And.intro @Ty.slz25 (And.intro @Ty.nz38 (And.intro @Ty.ldA38 (And.intro @Ty.sz38 (And.intro @Ty.szn38 (And.intro @Ty.nz39 (And.intro @Ty.ldA39 (And.intro @Ty.sz39 (And.intro @Ty.szn39 (And.intro @Ty.nze25 (And.intro @Ty.zok25 (And.intro @Ty.by25 @Ty.zs25))))))))))))))) | refine st_by (And.intro @Ty.sl22 (And.intro @Ty.slz22 (And.intro @Ty.sl25 (And.intro @Ty.slz25 (And.intro @Ty.nz38 (And.intro @Ty.ldA38 (And.intro @Ty.sz38 (And.intro @Ty.szn38 (And.intro @Ty.nz39 (And.intro @Ty.ldA39 (And.intro @Ty.sz39 (And.intro @Ty.szn39 (And.intro @Ty.nze25 (And.intro @Ty.zok25 (And.intro @Ty.by25 @Ty.zs25))))))))))))))) ?_)
    simp [esProp, hz]
  · rintro i σ ⟨h2, g0, g4, g3, m3⟩
    by_cases hi : i < l.length
    · have w2 : IntKind.i64.wrap ((i : Int) + 1) = ((i + 1 : Nat) : Int) := wI _ (by omega) (by omega)
      have hlen : (l.take i ++ List.replicate (l.length - i) (⟨⟨#[]⟩, ⟨#[]⟩⟩ : GProp)).length = l.length := by simp; omega
      have hset := take_rep_set l ⟨⟨#[]⟩, ⟨#[]⟩⟩ i hi
      have hsl := esProp_setL (l.take i ++ List.replicate (l.length - i) ⟨⟨#[]⟩, ⟨#[]⟩⟩) i l[i] (by omega)
      generalize l.take i ++ List.replicate (l.length - i) (⟨⟨#[]⟩, ⟨#[]⟩⟩ : GProp) = L at m3 hlen hset hsl
      rw [hset] at hsl
      have ff := And.intro @g0 (And.intro @g3 (And.intro @g4 (And.intro @m3 (And.intro @w2 (And.intro @hi (And.intro ((esProp_drop l i hi)) (And.intro @esProp_len (And.intro @eProp_eq (And.intro @esProp_len (And.intro @Ty.sl22 (And.intro @Ty.slz22 (And.intro @Ty.sl25 (And.intro @Ty.slz25 (And.intro @Ty.nz38 (And.intro @Ty.ldA38 (And.intro @Ty.sz38 (And.intro @Ty.szn38 (And.intro @Ty.nz39 (And.intro @Ty.ldA39 (And.intro @Ty.sz39 (And.intro @Ty.szn39 (And.intro @Ty.nze25 (And.intro @Ty.zok25 (And.intro @Ty.by25 @Ty.zs25))))))))))))))))))))))))
      try refine st_by ff ?_
      repeat' (first
        | exact trivial
        | (refine And.intro ?_ ?_; · (try clear ff; first | omega | (rw [List.length_append]; simp [esProp_len]; omega) | (simp [eProp]; done) | decide | (simp [esProp_len]; omega) | rfl | (simp [esProp_len, hlen]; omega)))
        | (refine ret_q1 rfl ?_; (try refine sr_by ff ?_); all_goals (try clear ff); all_goals (try exact trivial); all_goals (skip))
        | (with_reducible refine cq_call (toProp_does l[i]) ?_ ?_ ⟨?_, ?_⟩; (· first | rfl | exact cl_by ff); (· first | assumption | kernel_rfl); (· first | exact ca_by ff | (refine sa_by ff ?_; try clear ff; first | exact trivial | omega | (rw [List.length_append]; simp [esProp_len]; omega) | (simp [eProp]; done) | decide | (simp [esProp_len]; omega) | rfl | (simp [esProp_len, hlen]; omega))); refine st_by ff ?_)
        | (with_reducible refine CBC_eq (fun hp hd => ?_) (fun hp hd => ?_) <;> refine st_by (And.intro hd ff) ?_)
        | (with_reducible refine CBC_ne (fun hp hd => ?_) (fun hp hd => ?_) <;> refine st_by (And.intro hd ff) ?_)
        | (with_reducible refine CBC_decT ?_ (fun hd => ?_); (· try clear ff; first | assumption | omega); refine st_by (And.intro hd ff) ?_)
        | (with_reducible refine CBC_decF ?_ (fun hd => ?_); (· try clear ff; first | assumption | omega); refine st_by (And.intro hd ff) ?_)
        | (with_reducible refine CBC_dec (fun hp hd => ?_) (fun hp hd => ?_) <;> refine st_by (And.intro hd ff) ?_)
        | (refine CBC_bool (fun hd => ?_) (fun hd => ?_) <;> refine st_by (And.intro hd ff) ?_)
        | (with_reducible refine GQ_eq (fun hp hd => ?_) (fun hp hd => ?_) <;> refine st_by (And.intro hd ff) ?_)
        | (with_reducible refine GQ_ne (fun hp hd => ?_) (fun hp hd => ?_) <;> refine st_by (And.intro hd ff) ?_)
        | (with_reducible refine GQ_decT ?_ (fun hd => ?_); (· try clear ff; first | assumption | omega); refine st_by (And.intro hd ff) ?_)
        | (with_reducible refine GQ_decF ?_ (fun hd => ?_); (· try clear ff; first | assumption | omega); refine st_by (And.intro hd ff) ?_)
        | (with_reducible refine GQ_dec (fun hp hd => ?_) (fun hp hd => ?_) <;> refine st_by (And.intro hd ff) ?_)
        | (with_reducible refine GQ_ndT ?_ (fun hd => ?_); (· try clear ff; first | assumption | omega); refine st_by (And.intro hd ff) ?_)
        | (with_reducible refine GQ_ndF ?_ (fun hd => ?_); (· try clear ff; first | assumption | omega); refine st_by (And.intro hd ff) ?_)
        | (with_reducible refine GQ_nd (fun hp hd => ?_) (fun hp hd => ?_) <;> refine st_by (And.intro hd ff) ?_)
        | (refine GQ_nb (fun hd => ?_) (fun hd => ?_) <;> refine st_by (And.intro hd ff) ?_)
        | (refine GQ_bool (fun hd => ?_) (fun hd => ?_) <;> refine st_by (And.intro hd ff) ?_)
        | ((try clear ff); refine ⟨i + 1, ⟨?_, rfl, ?_⟩, ?_⟩; (· omega); (· first | (rw [← hsl]; rfl) | (simp only [← hsl, eProp]; rfl)); (· omega)))
      all_goals try clear ff
    · have e1 : l.take i ++ List.replicate (l.length - i) (⟨⟨#[]⟩, ⟨#[]⟩⟩ : GProp) = l := by rw [List.take_of_length_le (by omega)]; simp; omega
      rw [e1] at m3
      have ff := And.intro @g0 (And.intro @g3 (And.intro @g4 (And.intro @m3 (And.intro @Ty.sl22 (And.intro @Ty.slz22 (And.intro @Ty.sl25 (And.intro @Ty.slz25 (And.intro @Ty.nz38 (And.intro @Ty.ldA38 (And.intro @Ty.sz38 (And.intro @Ty.szn38 (And.intro @Ty.nz39 (And.intro @Ty.ldA39 (And.intro @Ty.sz39 (And.intro @Ty.szn39 (And.intro @Ty.nze25 (And.intro @Ty.zok25 (And.intro @Ty.by25 @Ty.zs25))))))))))))))))))
      try refine st_by ff ?_
      repeat' (first
        | exact trivial
        | (refine And.intro ?_ ?_; · (try clear ff; first | omega))
        | (refine ret_q1 rfl ?_; (try refine sr_by ff ?_); all_goals (try clear ff); all_goals (try exact trivial); all_goals (rfl))
        | (with_reducible refine CBC_eq (fun hp hd => ?_) (fun hp hd => ?_) <;> refine st_by (And.intro hd ff) ?_)
        | (with_reducible refine CBC_ne (fun hp hd => ?_) (fun hp hd => ?_) <;> refine st_by (And.intro hd ff) ?_)
        | (with_reducible refine CBC_decT ?_ (fun hd => ?_); (· try clear ff; first | assumption | omega); refine st_by (And.intro hd ff) ?_)
        | (with_reducible refine CBC_decF ?_ (fun hd => ?_); (· try clear ff; first | assumption | omega); refine st_by (And.intro hd ff) ?_)
        | (with_reducible refine CBC_dec (fun hp hd => ?_) (fun hp hd => ?_) <;> refine st_by (And.intro hd ff) ?_)
        | (refine CBC_bool (fun hd => ?_) (fun hd => ?_) <;> refine st_by (And.intro hd ff) ?_)
        | (with_reducible refine GQ_eq (fun hp hd => ?_) (fun hp hd => ?_) <;> refine st_by (And.intro hd ff) ?_)
        | (with_reducible refine GQ_ne (fun hp hd => ?_) (fun hp hd => ?_) <;> refine st_by (And.intro hd ff) ?_)
        | (with_reducible refine GQ_decT ?_ (fun hd => ?_); (· try clear ff; first | assumption | omega); refine st_by (And.intro hd ff) ?_)
        | (with_reducible refine GQ_decF ?_ (fun hd => ?_); (· try clear ff; first | assumption | omega); refine st_by (And.intro hd ff) ?_)
        | (with_reducible refine GQ_dec (fun hp hd => ?_) (fun hp hd => ?_) <;> refine st_by (And.intro hd ff) ?_)
        | (with_reducible refine GQ_ndT ?_ (fun hd => ?_); (· try clear ff; first | assumption | omega); refine st_by (And.intro hd ff) ?_)
        | (with_reducible refine GQ_ndF ?_ (fun hd => ?_); (· try clear ff; first | assumption | omega); refine st_by (And.intro hd ff) ?_)
        | (with_reducible refine GQ_nd (fun hp hd => ?_) (fun hp hd => ?_) <;> refine st_by (And.intro hd ff) ?_)
        | (refine GQ_nb (fun hd => ?_) (fun hd => ?_) <;> refine st_by (And.intro hd ff) ?_)
        | (refine GQ_bool (fun hd => ?_) (fun hd => ?_) <;> refine st_by (And.intro hd ff) ?_))
      all_goals try clear ff
theorem eqPropS_does (l k : List GProp) (hl : l.length ≤ 9223372036854775807) (hk : k.length ≤ 9223372036854775807) : Does Tryd.prog 9 [.row false 2 l.length (esProp l), .row false 2 k.length (esProp k)] (B (decide (l = k))) := by
  refine Does.walk (nt := 27) Tryd.func9 rfl rfl (by simp) (by decide) rfl (fun G0 X w0 pv => ?_)
  have ff := And.intro @Ty.sl25 (And.intro @Ty.slz25 (And.intro @Ty.nz39 (And.intro @Ty.ldA39 (And.intro @Ty.sz39 @Ty.szn39))))
  try refine st_by ff ?_
  repeat' (first
    | exact trivial
    | (refine And.intro ?_ ?_; · (try clear ff; first | omega))
    | (refine ret_q1 rfl ?_; (try refine sr_by ff ?_); all_goals (try clear ff); all_goals (try exact trivial); all_goals ((have : ¬ l = k := fun e => by subst e; omega); simp [this]))
    | (refine aw_drawn (id := 6) ?_ [[], [], [0, 1], [0, 1, 2], [], [], [4, 5], [4, 5, 6], [0, 1, 2, 3, 4, 5, 6, 7], [0, 1, 2, 3, 4, 5, 6, 7, 8]] 8 ?_ ?_; (· kernel_rfl); (· kernel_rfl); refine st_by ff ?_)
    | (with_reducible refine CBC_eq (fun hp hd => ?_) (fun hp hd => ?_) <;> refine st_by (And.intro hd ff) ?_)
    | (with_reducible refine CBC_ne (fun hp hd => ?_) (fun hp hd => ?_) <;> refine st_by (And.intro hd ff) ?_)
    | (with_reducible refine CBC_decT ?_ (fun hd => ?_); (· try clear ff; first | assumption | omega); refine st_by (And.intro hd ff) ?_)
    | (with_reducible refine CBC_decF ?_ (fun hd => ?_); (· try clear ff; first | assumption | omega); refine st_by (And.intro hd ff) ?_)
    | (with_reducible refine CBC_dec (fun hp hd => ?_) (fun hp hd => ?_) <;> refine st_by (And.intro hd ff) ?_)
    | (refine CBC_bool (fun hd => ?_) (fun hd => ?_) <;> refine st_by (And.intro hd ff) ?_)
    | (with_reducible refine GQ_eq (fun hp hd => ?_) (fun hp hd => ?_) <;> refine st_by (And.intro hd ff) ?_)
    | (with_reducible refine GQ_ne (fun hp hd => ?_) (fun hp hd => ?_) <;> refine st_by (And.intro hd ff) ?_)
    | (with_reducible refine GQ_decT ?_ (fun hd => ?_); (· try clear ff; first | assumption | omega); refine st_by (And.intro hd ff) ?_)
    | (with_reducible refine GQ_decF ?_ (fun hd => ?_); (· try clear ff; first | assumption | omega); refine st_by (And.intro hd ff) ?_)
    | (with_reducible refine GQ_dec (fun hp hd => ?_) (fun hp hd => ?_) <;> refine st_by (And.intro hd ff) ?_)
    | (with_reducible refine GQ_ndT ?_ (fun hd => ?_); (· try clear ff; first | assumption | omega); refine st_by (And.intro hd ff) ?_)
    | (with_reducible refine GQ_ndF ?_ (fun hd => ?_); (· try clear ff; first | assumption | omega); refine st_by (And.intro hd ff) ?_)
    | (with_reducible refine GQ_nd (fun hp hd => ?_) (fun hp hd => ?_) <;> refine st_by (And.intro hd ff) ?_)
    | (refine GQ_nb (fun hd => ?_) (fun hd => ?_) <;> refine st_by (And.intro hd ff) ?_)
    | (refine GQ_bool (fun hd => ?_) (fun hd => ?_) <;> refine st_by (And.intro hd ff) ?_)
    | (with_reducible refine GD_eq (fun hp hd => ?_) (fun hp hd => ?_) <;> refine st_by (And.intro hd ff) ?_)
    | (with_reducible refine GD_ne (fun hp hd => ?_) (fun hp hd => ?_) <;> refine st_by (And.intro hd ff) ?_)
    | (with_reducible refine GD_decT ?_ (fun hd => ?_); (· try clear ff; first | assumption | omega); refine st_by (And.intro hd ff) ?_)
    | (with_reducible refine GD_decF ?_ (fun hd => ?_); (· try clear ff; first | assumption | omega); refine st_by (And.intro hd ff) ?_)
    | (with_reducible refine GD_dec (fun hp hd => ?_) (fun hp hd => ?_) <;> refine st_by (And.intro hd ff) ?_)
    | (with_reducible refine GD_ndT ?_ (fun hd => ?_); (· try clear ff; first | assumption | omega); refine st_by (And.intro hd ff) ?_)
    | (with_reducible refine GD_ndF ?_ (fun hd => ?_); (· try clear ff; first | assumption | omega); refine st_by (And.intro hd ff) ?_)
    | (with_reducible refine GD_nd (fun hp hd => ?_) (fun hp hd => ?_) <;> refine st_by (And.intro hd ff) ?_)
    | (refine GD_nb (fun hd => ?_) (fun hd => ?_) <;> refine st_by (And.intro hd ff) ?_)
    | (refine GD_bool (fun hd => ?_) (fun hd => ?_) <;> refine st_by (And.intro hd ff) ?_))
  all_goals try clear ff
  have hlk : l.length = k.length := by omega
  refine aw_loop (ι := Nat) (fun i σ => (i ≤ l.length ∧ l.take i = k.take i) ∧ σ.t 0 = .row false 2 l.length (esProp l) ∧ σ.t 1 = .row false 2 k.length (esProp k) ∧ σ.t 5 = I i) (fun i => l.length - i) 0 ?_ ?_
  · (first | exact cl_by trivial | refine st_by trivial ?_)
    try simp
  · rintro i σ ⟨⟨h2, h3⟩, g0, g1, g5⟩
    by_cases hi : i < l.length
    · have hi' : i < k.length := by omega
      have w2 : IntKind.i64.wrap ((i : Int) + 1) = ((i + 1 : Nat) : Int) := wI _ (by omega) (by omega)
      have hne : ¬ l[i] = k[i] → ¬ l = k := fun h e => h (by subst e; rfl)
      have heq : l[i] = k[i] → l.take (i + 1) = k.take (i + 1) := fun h => by rw [List.take_succ_eq_append_getElem hi, List.take_succ_eq_append_getElem hi', h3, h]
      have ff := And.intro @g0 (And.intro @g1 (And.intro @g5 (And.intro @w2 (And.intro @hi (And.intro @hi' (And.intro ((esProp_drop l i hi)) (And.intro @esProp_len (And.intro @eProp_eq (And.intro ((esProp_drop k i hi')) (And.intro @str_beq (And.intro @Ty.sl25 (And.intro @Ty.slz25 (And.intro @Ty.nz39 (And.intro @Ty.ldA39 (And.intro @Ty.sz39 @Ty.szn39)))))))))))))))
      try refine st_by ff ?_
      repeat' (first
        | exact trivial
        | (refine And.intro ?_ ?_; · (try clear ff; first | omega | (rw [List.length_append]; simp [esProp_len]; omega) | (simp [eProp]; done) | decide | (simp [esProp_len]; omega) | rfl))
        | (refine ret_q1 rfl ?_; (try refine sr_by ff ?_); all_goals (try clear ff); all_goals (try exact trivial); all_goals (simp [hne (by simpa using hp)]))
        | (with_reducible refine cq_call (eqProp_does l[i] k[i]) ?_ ?_ ⟨?_, ?_⟩; (· first | rfl | exact cl_by ff); (· first | assumption | kernel_rfl); (· first | exact ca_by ff | (refine sa_by ff ?_; try clear ff; first | exact trivial | omega | (rw [List.length_append]; simp [esProp_len]; omega) | (simp [eProp]; done) | decide | (simp [esProp_len]; omega) | rfl)); refine st_by ff ?_)
        | (with_reducible refine cq_dcall (eqProp_does l[i] k[i]) ?_ ?_ ⟨?_, ?_⟩; (· first | rfl | exact cl_by ff); (· first | assumption | kernel_rfl); (· first | exact ca_by ff | (refine sa_by ff ?_; try clear ff; first | exact trivial | omega | (rw [List.length_append]; simp [esProp_len]; omega) | (simp [eProp]; done) | decide | (simp [esProp_len]; omega) | rfl)); refine st_by ff ?_)
        | (refine aw_drawn (id := 6) ?_ [[], [], [0, 1], [0, 1, 2], [], [], [4, 5], [4, 5, 6], [0, 1, 2, 3, 4, 5, 6, 7], [0, 1, 2, 3, 4, 5, 6, 7, 8]] 8 ?_ ?_; (· kernel_rfl); (· kernel_rfl); refine st_by ff ?_)
        | (with_reducible refine CBC_eq (fun hp hd => ?_) (fun hp hd => ?_) <;> refine st_by (And.intro hd ff) ?_)
        | (with_reducible refine CBC_ne (fun hp hd => ?_) (fun hp hd => ?_) <;> refine st_by (And.intro hd ff) ?_)
        | (with_reducible refine CBC_decT ?_ (fun hd => ?_); (· try clear ff; first | assumption | omega); refine st_by (And.intro hd ff) ?_)
        | (with_reducible refine CBC_decF ?_ (fun hd => ?_); (· try clear ff; first | assumption | omega); refine st_by (And.intro hd ff) ?_)
        | (with_reducible refine CBC_dec (fun hp hd => ?_) (fun hp hd => ?_) <;> refine st_by (And.intro hd ff) ?_)
        | (refine CBC_bool (fun hd => ?_) (fun hd => ?_) <;> refine st_by (And.intro hd ff) ?_)
        | (with_reducible refine GQ_eq (fun hp hd => ?_) (fun hp hd => ?_) <;> refine st_by (And.intro hd ff) ?_)
        | (with_reducible refine GQ_ne (fun hp hd => ?_) (fun hp hd => ?_) <;> refine st_by (And.intro hd ff) ?_)
        | (with_reducible refine GQ_decT ?_ (fun hd => ?_); (· try clear ff; first | assumption | omega); refine st_by (And.intro hd ff) ?_)
        | (with_reducible refine GQ_decF ?_ (fun hd => ?_); (· try clear ff; first | assumption | omega); refine st_by (And.intro hd ff) ?_)
        | (with_reducible refine GQ_dec (fun hp hd => ?_) (fun hp hd => ?_) <;> refine st_by (And.intro hd ff) ?_)
        | (with_reducible refine GQ_ndT ?_ (fun hd => ?_); (· try clear ff; first | assumption | omega); refine st_by (And.intro hd ff) ?_)
        | (with_reducible refine GQ_ndF ?_ (fun hd => ?_); (· try clear ff; first | assumption | omega); refine st_by (And.intro hd ff) ?_)
        | (with_reducible refine GQ_nd (fun hp hd => ?_) (fun hp hd => ?_) <;> refine st_by (And.intro hd ff) ?_)
        | (refine GQ_nb (fun hd => ?_) (fun hd => ?_) <;> refine st_by (And.intro hd ff) ?_)
        | (refine GQ_bool (fun hd => ?_) (fun hd => ?_) <;> refine st_by (And.intro hd ff) ?_)
        | (with_reducible refine GD_eq (fun hp hd => ?_) (fun hp hd => ?_) <;> refine st_by (And.intro hd ff) ?_)
        | (with_reducible refine GD_ne (fun hp hd => ?_) (fun hp hd => ?_) <;> refine st_by (And.intro hd ff) ?_)
        | (with_reducible refine GD_decT ?_ (fun hd => ?_); (· try clear ff; first | assumption | omega); refine st_by (And.intro hd ff) ?_)
        | (with_reducible refine GD_decF ?_ (fun hd => ?_); (· try clear ff; first | assumption | omega); refine st_by (And.intro hd ff) ?_)
        | (with_reducible refine GD_dec (fun hp hd => ?_) (fun hp hd => ?_) <;> refine st_by (And.intro hd ff) ?_)
        | (with_reducible refine GD_ndT ?_ (fun hd => ?_); (· try clear ff; first | assumption | omega); refine st_by (And.intro hd ff) ?_)
        | (with_reducible refine GD_ndF ?_ (fun hd => ?_); (· try clear ff; first | assumption | omega); refine st_by (And.intro hd ff) ?_)
        | (with_reducible refine GD_nd (fun hp hd => ?_) (fun hp hd => ?_) <;> refine st_by (And.intro hd ff) ?_)
        | (refine GD_nb (fun hd => ?_) (fun hd => ?_) <;> refine st_by (And.intro hd ff) ?_)
        | (refine GD_bool (fun hd => ?_) (fun hd => ?_) <;> refine st_by (And.intro hd ff) ?_)
        | ((try clear ff); refine ⟨i + 1, ⟨⟨?_, heq ?_⟩, rfl⟩, ?_⟩; (· omega); (· simpa using hp); (· omega)))
      all_goals try clear ff
    · have e1 : l = k := by rw [List.take_of_length_le (by omega), List.take_of_length_le (by omega)] at h3; exact h3
      have ff := And.intro @g0 (And.intro @g1 (And.intro @g5 (And.intro @Ty.sl25 (And.intro @Ty.slz25 (And.intro @Ty.nz39 (And.intro @Ty.ldA39 (And.intro @Ty.sz39 @Ty.szn39)))))))
      try refine st_by ff ?_
      repeat' (first
        | exact trivial
        | (refine And.intro ?_ ?_; · (try clear ff; first | omega))
        | (refine ret_q1 rfl ?_; (try refine sr_by ff ?_); all_goals (try clear ff); all_goals (try exact trivial); all_goals (simp [e1]))
        | (refine aw_drawn (id := 6) ?_ [[], [], [0, 1], [0, 1, 2], [], [], [4, 5], [4, 5, 6], [0, 1, 2, 3, 4, 5, 6, 7], [0, 1, 2, 3, 4, 5, 6, 7, 8]] 8 ?_ ?_; (· kernel_rfl); (· kernel_rfl); refine st_by ff ?_)
        | (with_reducible refine CBC_eq (fun hp hd => ?_) (fun hp hd => ?_) <;> refine st_by (And.intro hd ff) ?_)
        | (with_reducible refine CBC_ne (fun hp hd => ?_) (fun hp hd => ?_) <;> refine st_by (And.intro hd ff) ?_)
        | (with_reducible refine CBC_decT ?_ (fun hd => ?_); (· try clear ff; first | assumption | omega); refine st_by (And.intro hd ff) ?_)
        | (with_reducible refine CBC_decF ?_ (fun hd => ?_); (· try clear ff; first | assumption | omega); refine st_by (And.intro hd ff) ?_)
        | (with_reducible refine CBC_dec (fun hp hd => ?_) (fun hp hd => ?_) <;> refine st_by (And.intro hd ff) ?_)
        | (refine CBC_bool (fun hd => ?_) (fun hd => ?_) <;> refine st_by (And.intro hd ff) ?_)
        | (with_reducible refine GQ_eq (fun hp hd => ?_) (fun hp hd => ?_) <;> refine st_by (And.intro hd ff) ?_)
        | (with_reducible refine GQ_ne (fun hp hd => ?_) (fun hp hd => ?_) <;> refine st_by (And.intro hd ff) ?_)
        | (with_reducible refine GQ_decT ?_ (fun hd => ?_); (· try clear ff; first | assumption | omega); refine st_by (And.intro hd ff) ?_)
        | (with_reducible refine GQ_decF ?_ (fun hd => ?_); (· try clear ff; first | assumption | omega); refine st_by (And.intro hd ff) ?_)
        | (with_reducible refine GQ_dec (fun hp hd => ?_) (fun hp hd => ?_) <;> refine st_by (And.intro hd ff) ?_)
        | (with_reducible refine GQ_ndT ?_ (fun hd => ?_); (· try clear ff; first | assumption | omega); refine st_by (And.intro hd ff) ?_)
        | (with_reducible refine GQ_ndF ?_ (fun hd => ?_); (· try clear ff; first | assumption | omega); refine st_by (And.intro hd ff) ?_)
        | (with_reducible refine GQ_nd (fun hp hd => ?_) (fun hp hd => ?_) <;> refine st_by (And.intro hd ff) ?_)
        | (refine GQ_nb (fun hd => ?_) (fun hd => ?_) <;> refine st_by (And.intro hd ff) ?_)
        | (refine GQ_bool (fun hd => ?_) (fun hd => ?_) <;> refine st_by (And.intro hd ff) ?_)
        | (with_reducible refine GD_eq (fun hp hd => ?_) (fun hp hd => ?_) <;> refine st_by (And.intro hd ff) ?_)
        | (with_reducible refine GD_ne (fun hp hd => ?_) (fun hp hd => ?_) <;> refine st_by (And.intro hd ff) ?_)
        | (with_reducible refine GD_decT ?_ (fun hd => ?_); (· try clear ff; first | assumption | omega); refine st_by (And.intro hd ff) ?_)
        | (with_reducible refine GD_decF ?_ (fun hd => ?_); (· try clear ff; first | assumption | omega); refine st_by (And.intro hd ff) ?_)
        | (with_reducible refine GD_dec (fun hp hd => ?_) (fun hp hd => ?_) <;> refine st_by (And.intro hd ff) ?_)
        | (with_reducible refine GD_ndT ?_ (fun hd => ?_); (· try clear ff; first | assumption | omega); refine st_by (And.intro hd ff) ?_)
        | (with_reducible refine GD_ndF ?_ (fun hd => ?_); (· try clear ff; first | assumption | omega); refine st_by (And.intro hd ff) ?_)
        | (with_reducible refine GD_nd (fun hp hd => ?_) (fun hp hd => ?_) <;> refine st_by (And.intro hd ff) ?_)
        | (refine GD_nb (fun hd => ?_) (fun hd => ?_) <;> refine st_by (And.intro hd ff) ?_)
        | (refine GD_bool (fun hd => ?_) (fun hd => ?_) <;> refine st_by (And.intro hd ff) ?_))
      all_goals try clear ff
end Go.Av
end
