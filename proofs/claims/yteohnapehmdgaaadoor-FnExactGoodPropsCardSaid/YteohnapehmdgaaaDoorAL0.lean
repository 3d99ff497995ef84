/- Contracts of functions of this seat, each for every argument within its bounds. -/
import Derived.Test.YteohnapehmdgaaaDoorAP1
set_option linter.unusedSimpArgs false
set_option linter.unusedVariables false
set_option maxRecDepth 100000
namespace Go.Av
open Go.Proofs

/-- The digits that a mark is written with. -/
def mdig (k : Int) (out : ByteArray) : ByteArray := if h : 0 < k then mdig (k.tdiv 10) (strOf [IntKind.u8.wrap (IntKind.i64.wrap (48 + k.tmod 10))] ++ out) else out
termination_by k.toNat
decreasing_by
  have := Int.tdiv_eq_ediv_of_nonneg (a := k) (b := 10) (by omega)
  omega
def mtext (k : Int) : ByteArray := if k ≤ 0 then ⟨#[109, 48]⟩ else ⟨#[109]⟩ ++ mdig k ⟨#[]⟩
def mStr (x : ByteArray) (k : Int) : ByteArray := mtext k
end Go.Av
