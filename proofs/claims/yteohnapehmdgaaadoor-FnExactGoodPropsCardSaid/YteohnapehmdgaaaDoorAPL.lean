/- Texts in order; lists that rise by a key; the search by halves. Plain: no program in sight. -/
import Derived.Test.YteohnapehmdgaaaDoorAPg
set_option linter.unusedSimpArgs false
set_option linter.unusedVariables false
/-! Texts in order; lists that rise by a key; the search by halves. Plain: no program in sight. -/
namespace Go.Av
def blt (a b : ByteArray) : Bool := Op.bytesLess a.toList b.toList
/-! ### Lists that rise by a key -/
section
variable {α : Type} {key : α → ByteArray}
/-- The list rises. -/
def Rise (key : α → ByteArray) : List α → Prop
  | [] => True
  | x :: l => (∀ y ∈ l, blt (key x) (key y) = true) ∧ Rise key l
/-- Where a key stands or would stand. -/
def spot (key : α → ByteArray) (l : List α) (t : ByteArray) : Nat := (l.takeWhile fun x => blt (key x) t).length
/-- The one element with a key. -/
def hasK (key : α → ByteArray) [DecidableEq ByteArray] (l : List α) (t : ByteArray) : Bool := l.any fun x => decide (key x = t)
end
/-! ### The search by halves -/
def mid (i j : Int) : Int := IntKind.i64.wrap (Int.fdiv (IntKind.u64.wrap (IntKind.i64.wrap (i + j))) (2 ^ (min (1 : Int).toNat IntKind.u64.bits)))
def bsG {α : Type} (x : List α) (t : ByteArray) (f : α → ByteArray → Option Int) : Nat → Int → Int → Option (Int × Int)
  | 0, _, _ => none
  | n + 1, i, j => if i < j then ((idx x (mid i j)).bind fun a => (f a t).bind fun v => if v < 0 then bsG x t f n (IntKind.i64.wrap (mid i j + 1)) j else bsG x t f n i (mid i j)) else some (i, j)
/-- The whole search: where the key stands or would stand, and whether it is there. -/
def bsW {α : Type} (N : Nat) (x : List α) (t : ByteArray) (f : α → ByteArray → Option Int) : Option (Int × Bool) :=
  (bsG x t f N 0 (x.length : Int)).bind fun q => match q with | (i, j) => (if i < (x.length : Int) then ((idx x i).bind fun a => (f a t).bind fun v => some (i, (v == 0))) else some (i, false))
end Go.Av
