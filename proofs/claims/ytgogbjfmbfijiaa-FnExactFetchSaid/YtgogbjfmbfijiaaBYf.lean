/- Calls of functions for which the model stands in. -/
import Derived.Test.YtgogbjfmbfijiaaBYe
import Derived.Lib.Bytealg
set_option linter.unusedSimpArgs false
set_option linter.unusedVariables false
/-! Calls of functions for which the model stands in. -/
namespace Go.Av
def ExtV (P : Program) (f : FuncId) (vs : List Value) (v : Value) : Prop := ∀ w, (callFunc f vs.toArray).run P w = .ok (.value v) w
theorem q_ext {E : Env} {s : ASt} {d : Nat} {t : TypeId} {pos : String} {after : Array Edge} {g : Option (Nat × Bool)} {fo : Operand} {f : FuncId} {xs : List Operand} {ts : Array TypeId} {vs : List Value} {v : Value} (hn : d < E.nt) (hx : ExtV E.P f vs v) (hf : s.ev fo = .fn f [])
    (ha : xs.map s.ev = vs.map .lit) : QJ E ⟨some d, .call { callee := .value fo, args := xs.toArray, argTypes := ts }, t, pos, after, g⟩ s (.lit v) none :=
  .val rfl hn fun s' M G a w hle hX => by
    have hfv := hX.evLe hle fo
    rw [hf] at hfv
    have hargs : xs.map a.eval = vs := by
      refine List.ext_getElem? (fun i => ?_)
      have hi : (xs.map s.ev)[i]? = (vs.map AV.lit)[i]? := by rw [ha]
      rw [List.getElem?_map, List.getElem?_map] at hi
      rw [List.getElem?_map]
      cases hx' : xs[i]? with
      | none => rw [hx'] at hi; cases hv' : vs[i]? with
        | none => rfl
        | some u => rw [hv'] at hi; simp at hi
      | some x => rw [hx'] at hi; cases hv' : vs[i]? with
        | none => rw [hv'] at hi; simp at hi
        | some u =>
          rw [hv'] at hi
          simp only [Option.map_some, Option.some.injEq] at hi ⊢
          exact hX.lit hle hi
    generalize hfe : a.eval fo = fv at hfv
    cases hfv with
    | fn _ _ us hul huv =>
      have hus : us = [] := List.eq_nil_of_length_eq_zero (by simpa using hul)
      subst hus
      refine ⟨v, w, ?_, Ext.refl _ _, .lit v⟩
      simp [execOp, resolve, hfe, Deferred.ofValue, invoke, hargs, hx w]
theorem cq_ext {P : Program} {G0 X : Nat → Prop} {w0 : World} {nt : Nat} {pv : Nat → Option Value} {s : ASt} {R : ASt → Prop} {d : Nat} {t : TypeId} {pos : String} {after : Array Edge} {g : Option (Nat × Bool)} {fo : Operand} {xs : List Operand} {ts : Array TypeId} {f : FuncId} {vs : List Value} {v : Value}
    (hx : ExtV P f vs v) (h : (s.ev fo = .fn f [] ∧ xs.map s.ev = vs.map .lit ∧ d < nt) ∧ R (s.set d (.lit v))) :
    opq ⟨P, G0, X, w0, nt, pv⟩ ⟨some d, .call { callee := .value fo, args := xs.toArray, argTypes := ts }, t, pos, after, g⟩ R s :=
  LJ.of_q (q_ext (E := ⟨P, G0, X, w0, nt, pv⟩) h.1.2.2 hx h.1.1 h.1.2.1) h.2
/-- How two texts stand to each other: -1, 0, 1. -/
def cmpB (a b : ByteArray) : Int := Lib.compareBytes a.data.toList b.data.toList
theorem ext_cmp {P : Program} {f : FuncId} {fn : Func} (hf : P.funcs[f]? = some fn) (hname : (fn.name == "runtime.NumGoroutine") = false) (hb : fn.body.isNone = true) (hn : Extern.findNext fn = none) (he : Extern.find fn = some Extern.BytealgCompare.compare) (a b : ByteArray) :
    ExtV P f [.string a, .string b] (.int .i64 (cmpB a b)) := fun w => by
  rw [run_callFunc_extern hf hname hb hn he, Lib.run_compareString]; rfl
end Go.Av
