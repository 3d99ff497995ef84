/- Code and its operations, over the state of a call. -/
import Derived.Test.YteohnapehmdgaaaDoorAZzC
import Derived.Orders
set_option linter.unusedSimpArgs false
set_option linter.unusedVariables false
/-! Code and its operations, over the state of a call. -/
namespace Go.Av

inductive AX where
  | nm | rt | ex (id : Nat)

def Post (E : Env) (K : AX → ASt → Prop) : Exit → Act → World → Prop
  | .normal, a, w => ∃ s, Rel E s a w ∧ K .nm s
  | .ret, a, w => ∃ s, Rel E s a w ∧ K .rt s
  | .exit id, a, w => ∃ s, Rel E s a w ∧ K (.ex id) s
  | _, _, _ => False

def AWP (E : Env) (c : Code) (K : AX → ASt → Prop) (s : ASt) : Prop := ∀ a w, Rel E s a w → c.wp E.P (Post E K) a w

def thenK (k : ASt → Prop) (K : AX → ASt → Prop) : AX → ASt → Prop
  | .nm, s => k s
  | e, s => K e s
def blockK (id : Nat) (K : AX → ASt → Prop) : AX → ASt → Prop
  | .ex i, s => if i = id then K .nm s else K (.ex i) s
  | e, s => K e s

theorem AWP.mono {E : Env} {c : Code} {K K' : AX → ASt → Prop} {s : ASt} (h : AWP E c K s) (hk : ∀ e s, K e s → K' e s) : AWP E c K' s := fun a w hr =>
  wp_mono (h a w hr) (fun e a' w' hp => by
    cases e <;> first | exact hp | (obtain ⟨s', h1, h2⟩ := hp; exact ⟨s', h1, hk _ _ h2⟩))

theorem AWP.skip {E : Env} {K : AX → ASt → Prop} {s : ASt} (h : K .nm s) : AWP E .skip K s := fun a w hr => wp_skip ⟨s, hr, h⟩
theorem AWP.ret {E : Env} {K : AX → ASt → Prop} {s : ASt} (h : K .rt s) : AWP E .ret K s := fun a w hr => wp_ret ⟨s, hr, h⟩
theorem AWP.exit {E : Env} {K : AX → ASt → Prop} {s : ASt} {id : Nat} (h : K (.ex id) s) : AWP E (.exit id) K s := fun a w hr => wp_exit ⟨s, hr, h⟩
theorem AWP.label {E : Env} {K : AX → ASt → Prop} {s : ASt} {l : Nat} (h : K .nm s) : AWP E (.label l) K s := fun a w hr => wp_label ⟨s, hr, h⟩

theorem AWP.seq {E : Env} {x y : Code} {K : AX → ASt → Prop} {s : ASt} (h : AWP E x (thenK (AWP E y K) K) s) : AWP E (.seq x y) K s := fun a w hr =>
  wp_seq (wp_mono (h a w hr) (fun e a' w' hp => by
    cases e <;> first | exact hp | (obtain ⟨s', h1, h2⟩ := hp; exact h2 a' w' h1)))

theorem AWP.block {E : Env} {c : Code} {id : Nat} {K : AX → ASt → Prop} {s : ASt} (h : AWP E c (blockK id K) s) : AWP E (.block id c) K s := fun a w hr =>
  wp_block (wp_mono (h a w hr) (fun e a' w' hp => by
    cases e with
    | exit i =>
      obtain ⟨s', h1, h2⟩ := hp
      simp only [blockK] at h2
      simp only [Exit.inBlock]
      split
      · rename_i e; rw [if_pos e] at h2; exact ⟨s', h1, h2⟩
      · rename_i e; rw [if_neg e] at h2; exact ⟨s', h1, h2⟩
    | _ => exact hp))

theorem VR.bool {w : World} {G : Nat → Prop} {m : Nat → Option HT} {v u : Value} (h : VR w G m (.lit v) u) : u = v := by cases h; rfl

theorem AWP.cond {E : Env} {c : Operand} {x y : Code} {K : AX → ASt → Prop} {s : ASt} {b : Bool} (hc : s.ev c = .lit (.bool b)) (hx : b = true → AWP E x K s) (hy : b = false → AWP E y K s) :
    AWP E (.cond c x y) K s := fun a w hr => by
  obtain ⟨M, G, h⟩ := hr
  have he := h.ev c
  rw [hc] at he
  exact wp_cond_split he.bool (fun e => hx e a w ⟨M, G, h⟩) (fun e => hy e a w ⟨M, G, h⟩)

/-- A loop: 'I i s': what holds at a round's head; 'mu' falls. -/
theorem AWP.loop {E : Env} {c : Code} {K : AX → ASt → Prop} {ι : Type} (I : ι → ASt → Prop) (mu : ι → Nat) {s : ASt} (i : ι) (h0 : I i s)
    (round : ∀ i s, I i s → AWP E c (thenK (fun s' => ∃ j, I j s' ∧ mu j < mu i) K) s) : AWP E (.loop c) K s := fun a w hr => by
  intro b k cs
  have key : ∀ n i s a w, mu i = n → I i s → Rel E s a w →
      ∃ e a' w', Post E K e a' w' ∧ Arrives E.P (lone (b.at a (.code c :: .inLoop c :: k)) cs w) b k cs e a' w' := by
    intro n
    induction n using Nat.strongRecOn with
    | _ n ih =>
      intro i s a w hn hI hr
      obtain ⟨e, a₁, w₁, hq, harr⟩ := round i s hI a w hr b (.inLoop c :: k) cs
      cases e with
      | normal =>
        obtain ⟨s', hr', j, hI', hlt⟩ := hq
        obtain ⟨e₂, a₂, w₂, hq₂, harr₂⟩ := ih (mu j) (hn ▸ hlt) j s' a₁ w₁ rfl hI' hr'
        exact ⟨e₂, a₂, w₂, hq₂, .of_steps (Steps.trans harr (.one step_inLoop)) harr₂⟩
      | exit id => exact ⟨.exit id, a₁, w₁, (show Post E K (.exit id) a₁ w₁ from hq), .pass (x := .inLoop c) rfl (fun _ _ => .inl (by simp)) harr⟩
      | goto l => exact hq.elim
      | ret => exact ⟨.ret, a₁, w₁, (show Post E K .ret a₁ w₁ from hq), .pass (x := .inLoop c) rfl (fun _ _ => .inl (by simp)) harr⟩
      | panic ch => exact hq.elim
      | outgrown => exact hq.elim
  obtain ⟨e, a', w', hq, harr⟩ := key _ i s a w rfl h0 hr
  exact ⟨e, a', w', hq, .of_steps (.one step_loop) harr⟩

/-! ### Operations -/
def No : Exit → Act → World → Prop := fun _ _ _ => False
def put (s : ASt) (d : Option Tmp) (v : AV) : Option AV → ASt
  | none => match d with
    | some d => s.set d v
    | none => s
  | some T => match d with
    | some d => s.new d v T
    | none => s

structure Le (s s' : ASt) : Prop where
  t : ∀ i, s.t i = .junk ∨ s'.t i = s.t i
  m : ∀ r T, s.m r = some T → s'.m r = some T
theorem Le.refl (s : ASt) : Le s s := ⟨fun _ => .inr rfl, fun _ _ h => h⟩
theorem Le.ev {s s' : ASt} (h : Le s s') {x : Operand} {A : AV} (hx : s.ev x = A) (hA : A ≠ .junk) : s'.ev x = A := by
  cases x with
  | tmp t => exact ((h.t t).resolve_left (fun e => hA (hx ▸ e))).trans hx
  | const v => exact hx
  | global g => exact hx
  | func f => exact hx

/-- A quiet operation: it gives a value (and memory of its own), and turns nothing else. -/
def QJ (E : Env) (o : Oper) (s : ASt) (v : AV) (T : Option AV) : Prop :=
  ∀ s', Le s s' → ∀ a w, Rel E s' a w → o.wp E.P a w (fun a' w' => Rel E (put s' o.dst v T) a' w') No
/-- Any operation. -/
def LJ (E : Env) (o : Oper) (s : ASt) (k : ASt → Prop) : Prop :=
  ∀ a w, Rel E s a w → o.wp E.P a w (fun a' w' => ∃ s', Rel E s' a' w' ∧ k s') No
theorem LJ.of_q {E : Env} {o : Oper} {s : ASt} {v : AV} {T : Option AV} {k : ASt → Prop} (h : QJ E o s v T) (hk : k (put s o.dst v T)) : LJ E o s k := fun a w hr =>
  Oper.wp_mono (fun a' w' hr' => ⟨_, hr', hk⟩) (h s (Le.refl s) a w hr)

def NK (E : Env) (k : ASt → Prop) : Exit → Act → World → Prop := fun e a w => e = .normal ∧ ∃ s, Rel E s a w ∧ k s
/-- The operations 'l' of a region, in the text's order. -/
def Seq (E : Env) (ops : Array Oper) (l : List Oper) (k : ASt → Prop) (s : ASt) : Prop := ∀ a w, Rel E s a w → wpList E.P ops (NK E k) l a w

theorem Oper.wp_both {P : Program} {o : Oper} {a : Act} {w : World} {K K' : Act → World → Prop} {Q : Exit → Act → World → Prop} (h : ∀ a w, K a w → K' a w) (hh : o.wp P a w K No) : o.wp P a w K' Q := by
  unfold Oper.wp at *
  generalize (execOp a.eval o).run P w = r at *
  cases r with
  | ok n w' =>
    cases n <;> simp only [Oper.upon] at hh ⊢ <;>
      first
        | exact h _ _ hh
        | exact hh
        | exact Calls.mono hh (fun e w'' he => by cases e <;> first | exact h _ _ he | exact he.elim | (obtain ⟨_, _, he⟩ := he; exact he.elim))
        | exact Rows.mono hh (fun _ _ he => h _ _ he)
  | halt x w' => cases x <;> simp only [Oper.upon] at hh ⊢ <;> exact hh.elim

theorem Seq.nil {E : Env} {ops : Array Oper} {k : ASt → Prop} {s : ASt} (h : k s) : Seq E ops [] k s := fun a w hr => ⟨rfl, s, hr, h⟩
theorem Seq.cons {E : Env} {ops : Array Oper} {o : Oper} {rest : List Oper} {k : ASt → Prop} {s : ASt} (hg : o.guard = none) (h : LJ E o s (Seq E ops rest k)) : Seq E ops (o :: rest) k s := fun a w hr => by
  unfold wpList
  rw [if_pos (by simp [Region.wanted, hg])]
  exact .inl (Oper.wp_both (fun a' w' ⟨s', h1, h2⟩ => h2 a' w' h1) (h a w hr))

theorem yielded_of {ops : Array Oper} {a : Act} {j d : Nat} {b : Bool} (hd : (ops[j]?).bind (·.dst) = some d) (h : a.tmps.getD d undef = .bool b) : yielded ops a.tmps j = some b := by
  have : a.tmps[d]? = some (.bool b) := by
    rw [Array.getD_eq_getD_getElem?] at h
    cases hx : a.tmps[d]? with
    | none => rw [hx] at h; simp [undef] at h
    | some v => rw [hx] at h; simpa using h
  simp [yielded, hd, this]

theorem yielded_not {ops : Array Oper} {a : Act} {j d : Nat} {b : Bool} {c : Value} (hd : (ops[j]?).bind (·.dst) = some d) (h : a.tmps.getD d undef = c) (hc : c ≠ .bool b) : (yielded ops a.tmps j == some b) = false := by
  rw [Array.getD_eq_getD_getElem?] at h
  unfold yielded
  rw [hd, Option.bind_some]
  cases hx : a.tmps[d]? with
  | none => rfl
  | some v =>
    rw [hx] at h
    simp only [Option.getD_some] at h
    subst h
    cases v <;> simp_all
theorem VR.litv {w : World} {G : Nat → Prop} {m : Nat → Option HT} {c v : Value} (h : VR w G m (.lit c) v) : v = c := by cases h; rfl

theorem Seq.yes {E : Env} {ops : Array Oper} {o : Oper} {rest : List Oper} {k : ASt → Prop} {s : ASt} {j d : Nat} {b : Bool} (hg : o.guard = some (j, b)) (hd : (ops[j]?).bind (·.dst) = some d)
    (hb : s.t d = .lit (.bool b)) (h : LJ E o s (Seq E ops rest k)) : Seq E ops (o :: rest) k s := fun a w hr => by
  unfold wpList
  obtain ⟨M, G, hr'⟩ := hr
  have hv := hr'.sl d
  rw [hb] at hv
  rw [if_pos (by simp [Region.wanted, hg, yielded_of hd hv.bool])]
  exact .inl (Oper.wp_both (fun a' w' ⟨s', h1, h2⟩ => h2 a' w' h1) (h a w ⟨M, G, hr'⟩))

theorem RelX.undef {E : Env} {M : Nat → Option HT} {G : Nat → Prop} {s : ASt} {a : Act} {w : World} (h : RelX E M G s a w) (d : Option Tmp) (hd : ∀ x, d = some x → x < E.nt) : RelX E M G (put s d (.lit Go.undef) none) (a.put d Go.undef) w := by
  cases d with
  | none => exact h
  | some x => exact h.set (hd x rfl) (Ext.refl _ _) (.lit _)

theorem Seq.no {E : Env} {ops : Array Oper} {o : Oper} {rest : List Oper} {k : ASt → Prop} {s : ASt} {j d : Nat} {b : Bool} {c : Value} (hg : o.guard = some (j, b)) (hd : (ops[j]?).bind (·.dst) = some d)
    (hb : s.t d = .lit c) (hbc : c ≠ .bool b) (hn : ∀ x, o.dst = some x → x < E.nt) (h : Seq E ops rest k (put s o.dst (.lit Go.undef) none)) : Seq E ops (o :: rest) k s := fun a w hr => by
  unfold wpList
  obtain ⟨M, G, hr'⟩ := hr
  have hv := hr'.sl d
  rw [hb] at hv
  rw [if_neg (by simp [Region.wanted, hg, yielded_not hd hv.litv hbc])]
  exact h _ w ⟨M, G, hr'.undef o.dst hn⟩

theorem AWP.region {E : Env} {id : Nat} {l : List Oper} {K : AX → ASt → Prop} {s : ASt} (h : Seq E l.toArray l (K .nm) s) : AWP E (.region id l.toArray false) K s := fun a w hr =>
  wp_mono (wp_region_lit (h a w hr)) (fun e a' w' hp => by obtain ⟨rfl, s', h1, h2⟩ := hp; exact ⟨s', h1, h2⟩)

end Go.Av
