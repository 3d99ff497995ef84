/- Calls, as the walk meets them: the result kept, own memory lent. -/
import Derived.Test.YteohnapehmdgaaaDoorAZzM
import Derived.Test.YteohnapehmdgaaaDoorAZzM
set_option linter.unusedSimpArgs false
set_option linter.unusedVariables false
/-! Calls, as the walk meets them: the result kept, own memory lent. -/
namespace Go.Av
section
variable {P : Program} {G0 X : Nat → Prop} {w0 : World} {nt : Nat} {pv : Nat → Option Value} {s : ASt} {R : ASt → Prop} {d : Nat} {t : TypeId} {pos : String} {after : Array Edge} {g : Option (Nat × Bool)} {fo : Operand} {xs : List Operand} {ts : Array TypeId} {f : FuncId} {caps as : List AV} {res v : AV}
/-- The result stays the caller's own. -/
theorem opq_own (hd : Does P f as res) (he : entB P f = true) (hf : s.ev fo = .fn f caps) (ha : xs.map s.ev ++ caps = as) (hn : d < nt) (hr : AV.noRefs as = true) (hv : openV d [] res = v) (h : R (s.new d v res)) :
    opq ⟨P, G0, X, w0, nt, pv⟩ ⟨some d, .call { callee := .value fo, args := xs.toArray, argTypes := ts }, t, pos, after, g⟩ R s := by
  subst hv
  exact LJ.of_q (q_callOwn (E := ⟨P, G0, X, w0, nt, pv⟩) hn hf he ha hr hd) h
def lendQ (as : List AV) : Option (List AV) → Prop
  | some bs => bs = as
  | none => False
theorem lend_some {o : Option (List AV)} (h : lendQ as o) : o = some as := by
  cases o with
  | none => exact h.elim
  | some b => exact congrArg some h
/-- Own memory is lent; the result is read alone from here on. -/
theorem opq_lend (hd : Does P f as res) (he : entB P f = true) (hf : s.ev fo = .fn f caps) (ha : lendQ as (borrowVs s (xs.map s.ev ++ caps))) (hn : d < nt) (hp : pureV res = true) (hv : res.share = v) (h : R (s.set d v)) :
    opq ⟨P, G0, X, w0, nt, pv⟩ ⟨some d, .call { callee := .value fo, args := xs.toArray, argTypes := ts }, t, pos, after, g⟩ R s := by
  subst hv
  exact l_callSh (E := ⟨P, G0, X, w0, nt, pv⟩) hn hf he (lend_some ha) hd hp h
end
end Go.Av
