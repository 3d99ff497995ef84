/- Calls that change places of the caller's, as the walk meets them; contracts of such functions. -/
import Derived.Test.YteohnapehmdgaaaDoorAZzU
set_option linter.unusedSimpArgs false
set_option linter.unusedVariables false
/-! Calls that change places of the caller's, as the walk meets them; contracts of such functions. -/
namespace Go.Av
mutual
theorem openV_free (r : Nat) : ∀ (p : List Nat) (a : AV), a.noRef = true → openV r p a = a
  | p, .lit v, _ => rfl
  | p, .junk, _ => rfl
  | p, .row false _ _ _, _ => rfl
  | p, .row true _ _ _, h => by simp [AV.noRef] at h
  | p, .box false _, _ => rfl
  | p, .box true _, h => by simp [AV.noRef] at h
  | p, .fn _ _, _ => rfl
  | p, .sl _ _ _ _, h => by simp [AV.noRef] at h
  | p, .ptr _ _ _, h => by simp [AV.noRef] at h
  | p, .agg cs, h => by simp only [openV]; rw [openVs_free r p 0 cs (by simpa [AV.noRef] using h)]
  | p, .tup cs, h => by simp only [openV]; rw [openVs_free r p 0 cs (by simpa [AV.noRef] using h)]
theorem openVs_free (r : Nat) : ∀ (p : List Nat) (o : Nat) (cs : List AV), AV.noRefs cs = true → openVs r p o cs = cs
  | p, o, [], _ => rfl
  | p, o, c :: l, h => by
    simp only [AV.noRefs, Bool.and_eq_true] at h
    simp only [openVs]
    rw [openV_free r _ c h.1, openVs_free r p (o + 1) l h.2]
end
theorem Sat.free {w : World} {G : Nat → Prop} {T : HT} {m : Nat → Option HT} (h : Sat w G T) (hr : T.erase.noRef = true) : VR w G m T.erase T.value := by
  have := h.opened (M := fun _ => some T) (r := 0) (T0 := T) rfl (p := []) rfl
  rw [openV_free 0 [] _ hr] at this
  exact this.free hr
section
variable {E : Env} {s : ASt} {d : Nat} {t : TypeId} {pos : String} {after : Array Edge} {g : Option (Nat × Bool)} {R : ASt → Prop} {fo : Operand} {f : FuncId} {caps : List AV} {xs : List Operand} {ts : Array TypeId} {args m m' : List AV} {res : AV} {pl : List (Nat × List Nat)}
end

section
variable {P : Program} {G0 X : Nat → Prop} {w0 : World} {nt : Nat} {pv : Nat → Option Value} {s : ASt} {R : ASt → Prop} {d : Nat} {t : TypeId} {pos : String} {after : Array Edge} {g : Option (Nat × Bool)} {fo : Operand} {xs : List Operand} {ts : Array TypeId} {f : FuncId} {caps args m m' : List AV} {res v : AV} {pl : List (Nat × List Nat)}
/-- A slot that holds a lent row's own value names the region again. -/
theorem opq_relit {E : Env} {o : Oper} {i r sz n : Nat} {c : Value} {cs : List AV} (hi : s.t i = .lit c) (hp : E.pv r = some c) (hm : s.m r = some (.row true sz n cs)) (h : opq E o R ⟨fun j => if j = i then .sl r [] 0 n else s.t j, s.m⟩) : opq E o R s := by
  rintro a w ⟨M, G, hX⟩
  refine h a w ⟨M, G, hX.er, hX.sat, hX.nd, hX.dj, hX.own, hX.gd, hX.g0, fun j => ?_, hX.ext, hX.df, hX.nt, hX.n1, hX.pv⟩
  simp only
  split
  · rename_i e; subst e
    have hv := hX.sl j
    rw [hi] at hv
    have hv := hv.litv
    obtain ⟨_, T, h1, h2⟩ := hX.pv r c hp
    rw [hv, ← h2]
    have he := hX.er r
    rw [hm, h1] at he
    simp only [Option.map_some, Option.some.injEq] at he
    have := (hX.sat r T h1).opened (M := M) h1 (p := []) rfl
    rw [← he] at this
    exact this
  · exact hX.sl j
end
theorem swap_t {s : ASt} {rep : Nat → Option (List Nat)} {new : Nat → AV} {i : Nat} : (s.swap rep new).t i = (s.t i).mapRef (swapF rep) := nrfl rfl
theorem swap_m {s : ASt} {rep : Nat → Option (List Nat)} {new : Nat → AV} {r : Nat} : (s.swap rep new).m r = match rep r with
  | some p => (s.m r).map (·.upd p (new r))
  | none => s.m r := nrfl rfl

/-! ### Contracts -/
mutual
/-- An argument that is a struct: the lent rows in it as the values that they are. -/
def litA (vals : List Value) : AV → AV
  | .sl r p o n => match regs vals r with
    | some v => .lit v
    | none => .junk
  | .ptr r p o => match regs vals r with
    | some v => .lit v
    | none => .junk
  | .agg cs => .agg (litAs vals cs)
  | a => a
def litAs (vals : List Value) : List AV → List AV
  | [] => []
  | c :: l => litA vals c :: litAs vals l
end
mutual
/-- Does it name whole regions alone? -/
def fullA (m : List AV) : AV → Prop
  | .sl r p o n => p = [] ∧ o = 0 ∧ (match regs m r with | some (.row true _ n' _) => n = n' | _ => False)
  | .ptr r p o => p = [] ∧ o = 0 ∧ (match regs m r with | some (.box true _) => True | _ => False)
  | .agg cs => fullAs m cs
  | _ => True
def fullAs (m : List AV) : List AV → Prop
  | [] => True
  | c :: l => fullA m c ∧ fullAs m l
end
def litArg (vals : List Value) : AV → AV
  | .agg cs => .agg (litAs vals cs)
  | a => a
def fullArg (m : List AV) : AV → Prop
  | .agg cs => fullAs m cs
  | _ => True

def retX2 (s : ASt) (res : List AV) (m' : List AV) : Option AV → Option AV → Prop
  | some v, some v' => (match closeVs s [v, v'] with
    | some (A, s') => A = res ∧ regsOk m' s'
    | none => False)
  | _, _ => False
/-! ### Decisions -/
section
variable {E : Env} {K : AX → ASt → Prop} {R A B : ASt → Prop} {s : ASt} {o : Oper} {c : Bool}
theorem CBC_dec {p : Prop} [Decidable p] (h1 : p → decide p = true → CBC (.lit (.bool (decide p))) A B s) (h2 : ¬ p → decide p = false → CBC (.lit (.bool (decide p))) A B s) : CBC (.lit (.bool (decide p))) A B s := by
  by_cases hp : p
  · exact h1 hp (decide_eq_true hp)
  · exact h2 hp (decide_eq_false hp)
theorem CBC_eq {α : Type} [BEq α] [LawfulBEq α] {x y : α} (h1 : x = y → (x == y) = true → CBC (.lit (.bool (x == y))) A B s) (h2 : ¬ x = y → (x == y) = false → CBC (.lit (.bool (x == y))) A B s) : CBC (.lit (.bool (x == y))) A B s := by
  cases hp : x == y
  · rw [hp] at h2; exact h2 (by simpa using hp) rfl
  · rw [hp] at h1; exact h1 (by simpa using hp) rfl
theorem CBC_ne {α : Type} [BEq α] [LawfulBEq α] {x y : α} (h1 : ¬ x = y → (x != y) = true → CBC (.lit (.bool (x != y))) A B s) (h2 : x = y → (x != y) = false → CBC (.lit (.bool (x != y))) A B s) : CBC (.lit (.bool (x != y))) A B s := by
  cases hp : x != y
  · rw [hp] at h2; exact h2 (by simpa using hp) rfl
  · rw [hp] at h1; exact h1 (by simpa using hp) rfl
theorem CBC_bool (h1 : c = true → CBC (.lit (.bool c)) A B s) (h2 : c = false → CBC (.lit (.bool c)) A B s) : CBC (.lit (.bool c)) A B s := by
  cases c
  · exact h2 rfl
  · exact h1 rfl
theorem GQ_dec {p : Prop} [Decidable p] {b : Bool} (h1 : p → decide p = true → GQ E (.lit (.bool (decide p))) b o R s) (h2 : ¬ p → decide p = false → GQ E (.lit (.bool (decide p))) b o R s) : GQ E (.lit (.bool (decide p))) b o R s := by
  by_cases hp : p
  · exact h1 hp (decide_eq_true hp)
  · exact h2 hp (decide_eq_false hp)
theorem GQ_eq {α : Type} [BEq α] [LawfulBEq α] {x y : α} {b : Bool} (h1 : x = y → (x == y) = true → GQ E (.lit (.bool (x == y))) b o R s) (h2 : ¬ x = y → (x == y) = false → GQ E (.lit (.bool (x == y))) b o R s) : GQ E (.lit (.bool (x == y))) b o R s := by
  cases hp : x == y
  · rw [hp] at h2; exact h2 (by simpa using hp) rfl
  · rw [hp] at h1; exact h1 (by simpa using hp) rfl
theorem GQ_ne {α : Type} [BEq α] [LawfulBEq α] {x y : α} {b : Bool} (h1 : ¬ x = y → (x != y) = true → GQ E (.lit (.bool (x != y))) b o R s) (h2 : x = y → (x != y) = false → GQ E (.lit (.bool (x != y))) b o R s) : GQ E (.lit (.bool (x != y))) b o R s := by
  cases hp : x != y
  · rw [hp] at h2; exact h2 (by simpa using hp) rfl
  · rw [hp] at h1; exact h1 (by simpa using hp) rfl
theorem GQ_bool {b : Bool} (h1 : c = true → GQ E (.lit (.bool c)) b o R s) (h2 : c = false → GQ E (.lit (.bool c)) b o R s) : GQ E (.lit (.bool c)) b o R s := by
  cases c
  · exact h2 rfl
  · exact h1 rfl
theorem GQ_nb {b : Bool} (h1 : c = true → GQ E (.lit (.bool !c)) b o R s) (h2 : c = false → GQ E (.lit (.bool !c)) b o R s) : GQ E (.lit (.bool !c)) b o R s := by
  cases c
  · exact h2 rfl
  · exact h1 rfl
theorem GQ_nd {p : Prop} [Decidable p] {b : Bool} (h1 : p → decide p = true → GQ E (.lit (.bool !(decide p))) b o R s) (h2 : ¬ p → decide p = false → GQ E (.lit (.bool !(decide p))) b o R s) : GQ E (.lit (.bool !(decide p))) b o R s := by
  by_cases hp : p
  · exact h1 hp (decide_eq_true hp)
  · exact h2 hp (decide_eq_false hp)
theorem GD_dec {R : Option AV → ASt → Prop} {p : Prop} [Decidable p] {b : Bool} (h1 : p → decide p = true → GD E (.lit (.bool (decide p))) b o R s) (h2 : ¬ p → decide p = false → GD E (.lit (.bool (decide p))) b o R s) : GD E (.lit (.bool (decide p))) b o R s := by
  by_cases hp : p
  · exact h1 hp (decide_eq_true hp)
  · exact h2 hp (decide_eq_false hp)
theorem GD_eq {R : Option AV → ASt → Prop} {α : Type} [BEq α] [LawfulBEq α] {x y : α} {b : Bool} (h1 : x = y → (x == y) = true → GD E (.lit (.bool (x == y))) b o R s) (h2 : ¬ x = y → (x == y) = false → GD E (.lit (.bool (x == y))) b o R s) : GD E (.lit (.bool (x == y))) b o R s := by
  cases hp : x == y
  · rw [hp] at h2; exact h2 (by simpa using hp) rfl
  · rw [hp] at h1; exact h1 (by simpa using hp) rfl
theorem GD_ne {R : Option AV → ASt → Prop} {α : Type} [BEq α] [LawfulBEq α] {x y : α} {b : Bool} (h1 : ¬ x = y → (x != y) = true → GD E (.lit (.bool (x != y))) b o R s) (h2 : x = y → (x != y) = false → GD E (.lit (.bool (x != y))) b o R s) : GD E (.lit (.bool (x != y))) b o R s := by
  cases hp : x != y
  · rw [hp] at h2; exact h2 (by simpa using hp) rfl
  · rw [hp] at h1; exact h1 (by simpa using hp) rfl
theorem GD_bool {R : Option AV → ASt → Prop} {b : Bool} (h1 : c = true → GD E (.lit (.bool c)) b o R s) (h2 : c = false → GD E (.lit (.bool c)) b o R s) : GD E (.lit (.bool c)) b o R s := by
  cases c
  · exact h2 rfl
  · exact h1 rfl
theorem GD_nb {R : Option AV → ASt → Prop} {b : Bool} (h1 : c = true → GD E (.lit (.bool !c)) b o R s) (h2 : c = false → GD E (.lit (.bool !c)) b o R s) : GD E (.lit (.bool !c)) b o R s := by
  cases c
  · exact h2 rfl
  · exact h1 rfl
theorem GD_nd {R : Option AV → ASt → Prop} {p : Prop} [Decidable p] {b : Bool} (h1 : p → decide p = true → GD E (.lit (.bool !(decide p))) b o R s) (h2 : ¬ p → decide p = false → GD E (.lit (.bool !(decide p))) b o R s) : GD E (.lit (.bool !(decide p))) b o R s := by
  by_cases hp : p
  · exact h1 hp (decide_eq_true hp)
  · exact h2 hp (decide_eq_false hp)
end
theorem ren_t {s : ASt} {r d i : Nat} {v : AV} : (s.ren r d v).t i = if i = d then v else (s.t i).mapRef (renF r d) := nrfl rfl
theorem ren_m {s : ASt} {r d q : Nat} {v : AV} : (s.ren r d v).m q = if q = d then s.m r else if q = r then none else s.m q := nrfl rfl
theorem retXK_rt {E : Env} {fn : Func} {res : AV} {m' : List AV} {s : ASt} : retXK E fn res m' .rt s = RetX E fn res m' s := nrfl rfl
theorem retXK_nm {E : Env} {fn : Func} {res : AV} {m' : List AV} {s : ASt} : retXK E fn res m' .nm s = RetX E fn res m' s := nrfl rfl
theorem startX_t {args m : List AV} {i : Nat} : (startX args m).t i = args.getD i .junk := by simp [startX, List.getD]
theorem startX_m {args m : List AV} {r : Nat} : (startX args m).m r = regs m r := nrfl rfl

/-! ### Calls, with all that is asked in one fact -/
def fnId : AV → Option FuncId
  | .fn f _ => some f
  | _ => none
def capsOf : AV → List AV
  | .fn _ cs => cs
  | _ => []
theorem fn_of {v : AV} {f : FuncId} (h : fnId v = some f) : v = .fn f (capsOf v) := by
  cases v <;> simp_all [fnId, capsOf]
section
variable {P : Program} {G0 X : Nat → Prop} {w0 : World} {nt : Nat} {pv : Nat → Option Value} {s : ASt} {R : ASt → Prop} {d : Nat} {t : TypeId} {pos : String} {after : Array Edge} {g : Option (Nat × Bool)} {fo : Operand} {xs : List Operand} {ts : Array TypeId} {f : FuncId} {args as m m' : List AV} {res : AV}
theorem cq_call (hd : Does P f as res) (hf : fnId (s.ev fo) = some f) (he : entB P f = true) (h : (xs.map s.ev ++ capsOf (s.ev fo) = as ∧ d < nt ∧ AV.noRefs as = true) ∧ R (s.set d res.share)) :
    opq ⟨P, G0, X, w0, nt, pv⟩ ⟨some d, .call { callee := .value fo, args := xs.toArray, argTypes := ts }, t, pos, after, g⟩ R s :=
  opq_call hd he (fn_of hf) h.1.1 h.1.2.1 h.1.2.2 rfl h.2
theorem cq_dcall {R : Option AV → ASt → Prop} (hd : Does P f as res) (hf : fnId (s.ev fo) = some f) (he : entB P f = true) (h : (xs.map s.ev ++ capsOf (s.ev fo) = as ∧ d < nt ∧ AV.noRefs as = true) ∧ R none (s.set d res.share)) :
    dop ⟨P, G0, X, w0, nt, pv⟩ ⟨some d, .call { callee := .value fo, args := xs.toArray, argTypes := ts }, t, pos, after, g⟩ R s :=
  dop_call hd he (fn_of hf) h.1.1 h.1.2.1 h.1.2.2 rfl h.2
theorem cq_own (hd : Does P f as res) (hf : fnId (s.ev fo) = some f) (he : entB P f = true) (h : (xs.map s.ev ++ capsOf (s.ev fo) = as ∧ d < nt ∧ AV.noRefs as = true) ∧ R (s.new d (openV d [] res) res)) :
    opq ⟨P, G0, X, w0, nt, pv⟩ ⟨some d, .call { callee := .value fo, args := xs.toArray, argTypes := ts }, t, pos, after, g⟩ R s :=
  opq_own hd he (fn_of hf) h.1.1 h.1.2.1 h.1.2.2 rfl h.2
theorem cq_lend (hd : Does P f as res) (hf : fnId (s.ev fo) = some f) (he : entB P f = true) (h : (lendQ as (borrowVs s (xs.map s.ev ++ capsOf (s.ev fo))) ∧ d < nt ∧ pureV res = true) ∧ R (s.set d res.share)) :
    opq ⟨P, G0, X, w0, nt, pv⟩ ⟨some d, .call { callee := .value fo, args := xs.toArray, argTypes := ts }, t, pos, after, g⟩ R s :=
  opq_lend hd he (fn_of hf) h.1.1 h.1.2.1 h.1.2.2 rfl h.2
end

section
variable {E : Env} {R A B : ASt → Prop} {s : ASt} {o : Oper} {p : Prop} [Decidable p] {b : Bool}
theorem CBC_decT (hp : p) (h : decide p = true → CBC (.lit (.bool (decide p))) A B s) : CBC (.lit (.bool (decide p))) A B s := h (decide_eq_true hp)
theorem CBC_decF (hp : ¬ p) (h : decide p = false → CBC (.lit (.bool (decide p))) A B s) : CBC (.lit (.bool (decide p))) A B s := h (decide_eq_false hp)
theorem GQ_decT (hp : p) (h : decide p = true → GQ E (.lit (.bool (decide p))) b o R s) : GQ E (.lit (.bool (decide p))) b o R s := h (decide_eq_true hp)
theorem GQ_decF (hp : ¬ p) (h : decide p = false → GQ E (.lit (.bool (decide p))) b o R s) : GQ E (.lit (.bool (decide p))) b o R s := h (decide_eq_false hp)
theorem GQ_ndT (hp : p) (h : decide p = true → GQ E (.lit (.bool (!(decide p)))) b o R s) : GQ E (.lit (.bool (!(decide p)))) b o R s := h (decide_eq_true hp)
theorem GQ_ndF (hp : ¬ p) (h : decide p = false → GQ E (.lit (.bool (!(decide p)))) b o R s) : GQ E (.lit (.bool (!(decide p)))) b o R s := h (decide_eq_false hp)
theorem GD_decT {R : Option AV → ASt → Prop} (hp : p) (h : decide p = true → GD E (.lit (.bool (decide p))) b o R s) : GD E (.lit (.bool (decide p))) b o R s := h (decide_eq_true hp)
theorem GD_decF {R : Option AV → ASt → Prop} (hp : ¬ p) (h : decide p = false → GD E (.lit (.bool (decide p))) b o R s) : GD E (.lit (.bool (decide p))) b o R s := h (decide_eq_false hp)
theorem GD_ndT {R : Option AV → ASt → Prop} (hp : p) (h : decide p = true → GD E (.lit (.bool (!(decide p)))) b o R s) : GD E (.lit (.bool (!(decide p)))) b o R s := h (decide_eq_true hp)
theorem GD_ndF {R : Option AV → ASt → Prop} (hp : ¬ p) (h : decide p = false → GD E (.lit (.bool (!(decide p)))) b o R s) : GD E (.lit (.bool (!(decide p)))) b o R s := h (decide_eq_false hp)
end
end Go.Av
