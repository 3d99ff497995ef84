/- What a call gives back, however many results it has; places that were lent to it. -/
import Derived.Test.YteohnapehmdgaaaDoorAYd
set_option linter.unusedSimpArgs false
set_option linter.unusedVariables false
/-! What a call gives back, however many results it has; places that were lent to it. -/
namespace Go.Av
def regsQ : List AV → Nat → ASt → Prop
  | [], _, _ => True
  | a :: l, r, s => s.m r = some a ∧ regsQ l (r + 1) s
def rvQ (P : Program) (s : ASt) (k : List AV → Prop) : List ResultVar → List AV → Prop
  | [], acc => k acc
  | x :: l, acc => match rview P s x with
    | some v => rvQ P s k l (acc ++ [v])
    | none => False
def retXCq (res : AV) (m' : List AV) : Option (AV × ASt) → Prop
  | some (A, s') => A = res ∧ regsQ m' 1000 s'
  | none => False
def retXq1 (s : ASt) (res : AV) (m' : List AV) : Option AV → Prop
  | some v => retXCq res m' (closeV s v)
  | none => False
def retXCsq (res : List AV) (m' : List AV) : Option (List AV × ASt) → Prop
  | some (A, s') => A = res ∧ regsQ m' 1000 s'
  | none => False
section
variable {P : Program} {s : ASt} {k : List AV → Prop} {l : List ResultVar} {acc : List AV} {a : AV} {r : Nat} {m' : List AV}
theorem rvQ_nil : rvQ P s k [] acc = k acc := nrfl rfl
theorem rvQ_tmp {t : Nat} : rvQ P s k (.tmp t :: l) acc = rvQ P s k l (acc ++ [s.t t]) := nrfl rfl
theorem rvQ_cell {t : Nat} {ty : TypeId} : rvQ P s k (.cell t ty :: l) acc = (match viewOf P ty s (s.t t) with
    | some v => rvQ P s k l (acc ++ [v])
    | none => False) := nrfl rfl
theorem regsQ_nil : regsQ [] r s = True := nrfl rfl
theorem regsQ_cons : regsQ (a :: m') r s = (s.m r = some a ∧ regsQ m' (r + 1) s) := nrfl rfl
end
end Go.Av
