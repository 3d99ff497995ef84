/- The state of a call, as the proofs see it, and how it stands to the machine's. -/
import Derived.Test.YteohnapehmdgaaaDoorAZzA
set_option linter.unusedSimpArgs false
set_option linter.unusedVariables false
/-! The state of a call, as the proofs see it, and how it stands to the machine's. -/
namespace Go.Av

mutual
def AV.mapRef (f : Nat → List Nat → Option (Nat × List Nat)) : AV → AV
  | .sl r p off len => match f r p with
    | some (r', p') => .sl r' p' off len
    | none => .junk
  | .ptr r p o => match f r p with
    | some (r', p') => .ptr r' p' o
    | none => .junk
  | .agg cs => .agg (AV.mapRefs f cs)
  | .tup cs => .tup (AV.mapRefs f cs)
  | .fn g cs => .fn g (AV.mapRefs f cs)
  | .lit v => .lit v
  | .row o sz n cs => .row o sz n cs
  | .box o cs => .box o cs
  | .junk => .junk
def AV.mapRefs (f : Nat → List Nat → Option (Nat × List Nat)) : List AV → List AV
  | [] => []
  | c :: r => AV.mapRef f c :: AV.mapRefs f r
end
theorem AV.mapRefs_eq (f : Nat → List Nat → Option (Nat × List Nat)) (cs : List AV) : AV.mapRefs f cs = cs.map (AV.mapRef f) := by
  induction cs with
  | nil => simp [AV.mapRefs]
  | cons c r ih => simp [AV.mapRefs, ih]

/-- Refs to region 'r' at or under the place 'p' go. -/
def killF (r : Nat) (p : List Nat) : Nat → List Nat → Option (Nat × List Nat) := fun r' p' => if r' = r ∧ p.isPrefixOf p' = true then none else some (r', p')
/-- Region 'r' is now called 'x'; what was called 'x' is gone. -/
def renF (r x : Nat) : Nat → List Nat → Option (Nat × List Nat) := fun r' p' => if r' = r then some (x, p') else if r' = x then none else some (r', p')

theorem hd_row {N : HT} {b sz n cap : Nat} (h : N.hd = .row b sz n cap []) : ∃ cs, N = .row b sz n cap cs := by
  cases N with
  | row => simp only [HT.hd, HT.row.injEq] at h; obtain ⟨rfl, rfl, rfl, rfl, _⟩ := h; exact ⟨_, rfl⟩
  | _ => simp [HT.hd] at h
theorem hd_nilrow {N : HT} {sz : Nat} (h : N.hd = .nilrow sz) : N = .nilrow sz := by
  cases N with
  | nilrow => simp only [HT.hd] at h; exact h
  | _ => simp [HT.hd] at h
theorem hd_box {N : HT} {b : Nat} (h : N.hd = .box b []) : ∃ cs, N = .box b cs := by
  cases N with
  | box => simp only [HT.hd, HT.box.injEq] at h; obtain ⟨rfl, _⟩ := h; exact ⟨_, rfl⟩
  | _ => simp [HT.hd] at h

theorem VR.mapRef {w : World} {G : Nat → Prop} {m m' : Nat → Option HT} {f : Nat → List Nat → Option (Nat × List Nat)} {a : AV} {v : Value} (h : VR w G m a v)
    (hm : ∀ r p r' p', f r p = some (r', p') → ∀ T' N', m' r' = some T' → T'.at_ p' = some N' → N'.isMem = true → ∃ T N, m r = some T ∧ T.at_ p = some N ∧ N.hd = N'.hd) : VR w G m' (a.mapRef f) v := by
  induction h with
  | lit v => simp only [AV.mapRef]; exact .lit v
  | junk v => simp only [AV.mapRef]; exact .junk v
  | row0 sz A c => simp only [AV.mapRef]; exact .row0 sz A c
  | row sz n c b off cs us C e fr h1 h2 h3 h4 h5 h6 h7 h8 _ => simp only [AV.mapRef]; exact .row sz n c b off cs us C e fr h1 h2 h3 h4 h5 h6 h7 h8
  | box b off cs us C e fr h1 h2 h6 h7 h8 _ => simp only [AV.mapRef]; exact .box b off cs us C e fr h1 h2 h6 h7 h8
  | agg cs us hl _ ih =>
    simp only [AV.mapRef, AV.mapRefs_eq]
    refine .agg _ us (by simpa using hl) (fun i a u x y => ?_)
    rw [List.getElem?_map] at x
    cases hc : cs[i]? with
    | none => simp [hc] at x
    | some c => simp only [hc, Option.map_some, Option.some.injEq] at x; subst x; exact ih i c u hc y hm
  | tup cs us hl _ ih =>
    simp only [AV.mapRef, AV.mapRefs_eq]
    refine .tup _ us (by simpa using hl) (fun i a u x y => ?_)
    rw [List.getElem?_map] at x
    cases hc : cs[i]? with
    | none => simp [hc] at x
    | some c => simp only [hc, Option.map_some, Option.some.injEq] at x; subst x; exact ih i c u hc y hm
  | fn g cs us hl _ ih =>
    simp only [AV.mapRef, AV.mapRefs_eq]
    refine .fn g _ us (by simpa using hl) (fun i a u x y => ?_)
    rw [List.getElem?_map] at x
    cases hc : cs[i]? with
    | none => simp [hc] at x
    | some c => simp only [hc, Option.map_some, Option.some.injEq] at x; subst x; exact ih i c u hc y hm
  | sl r p off len v h h0 =>
    simp only [AV.mapRef]
    cases hf : f r p with
    | none => exact .junk v
    | some q =>
      obtain ⟨r', p'⟩ := q
      refine .sl r' p' off len v (fun T' hT' b sz n cap cs hN hle => ?_) (fun T' hT' sz hN hle => ?_)
      · obtain ⟨T, N, h1, h2, h3⟩ := hm r p r' p' hf T' _ hT' hN rfl
        obtain ⟨cs', rfl⟩ := hd_row h3
        exact h T h1 b sz n cap cs' h2 hle
      · obtain ⟨T, N, h1, h2, h3⟩ := hm r p r' p' hf T' _ hT' hN rfl
        obtain rfl := hd_nilrow h3
        exact h0 T h1 sz h2 hle
  | ptr r p o v h h' =>
    simp only [AV.mapRef]
    cases hf : f r p with
    | none => exact .junk v
    | some q =>
      obtain ⟨r', p'⟩ := q
      refine .ptr r' p' o v (fun T' hT' b sz n cap cs hN => ?_) (fun T' hT' b cs hN => ?_)
      · obtain ⟨T, N, h1, h2, h3⟩ := hm r p r' p' hf T' _ hT' hN rfl
        obtain ⟨cs', rfl⟩ := hd_row h3
        exact h T h1 b sz n cap cs' h2
      · obtain ⟨T, N, h1, h2, h3⟩ := hm r p r' p' hf T' _ hT' hN rfl
        obtain ⟨cs', rfl⟩ := hd_box h3
        exact h' T h1 b cs' h2

/-- The same, where no ref is told anew. -/
theorem VR.heads {w : World} {G : Nat → Prop} {m m' : Nat → Option HT} {a : AV} {v : Value} (h : VR w G m a v)
    (hm : ∀ r p T' N', m' r = some T' → T'.at_ p = some N' → N'.isMem = true → ∃ T N, m r = some T ∧ T.at_ p = some N ∧ N.hd = N'.hd) : VR w G m' a v := by
  induction h with
  | lit v => exact .lit v
  | junk v => exact .junk v
  | row0 sz A c => exact .row0 sz A c
  | row sz n c b off cs us C e fr h1 h2 h3 h4 h5 h6 h7 h8 _ => exact .row sz n c b off cs us C e fr h1 h2 h3 h4 h5 h6 h7 h8
  | box b off cs us C e fr h1 h2 h6 h7 h8 _ => exact .box b off cs us C e fr h1 h2 h6 h7 h8
  | agg cs us hl _ ih => exact .agg cs us hl (fun i a u x y => ih i a u x y hm)
  | tup cs us hl _ ih => exact .tup cs us hl (fun i a u x y => ih i a u x y hm)
  | fn f cs us hl _ ih => exact .fn f cs us hl (fun i a u x y => ih i a u x y hm)
  | sl r p off len v h h0 =>
    refine .sl r p off len v (fun T' hT' b sz n cap cs hN hle => ?_) (fun T' hT' sz hN hle => ?_)
    · obtain ⟨T, N, h1, h2, h3⟩ := hm r p T' _ hT' hN rfl
      obtain ⟨cs', rfl⟩ := hd_row h3
      exact h T h1 b sz n cap cs' h2 hle
    · obtain ⟨T, N, h1, h2, h3⟩ := hm r p T' _ hT' hN rfl
      obtain rfl := hd_nilrow h3
      exact h0 T h1 sz h2 hle
  | ptr r p o v h h' =>
    refine .ptr r p o v (fun T' hT' b sz n cap cs hN => ?_) (fun T' hT' b cs hN => ?_)
    · obtain ⟨T, N, h1, h2, h3⟩ := hm r p T' _ hT' hN rfl
      obtain ⟨cs', rfl⟩ := hd_row h3
      exact h T h1 b sz n cap cs' h2
    · obtain ⟨T, N, h1, h2, h3⟩ := hm r p T' _ hT' hN rfl
      obtain ⟨cs', rfl⟩ := hd_box h3
      exact h' T h1 b cs' h2

structure ASt where
  t : Nat → AV
  m : Nat → Option AV

/-- A call's own place in the world: its program, the blocks that nobody writes and those that it may write, the world as it began, how many slots it has. -/
structure Env where
  P : Program
  G0 : Nat → Prop
  X : Nat → Prop
  w0 : World
  nt : Nat
  pv : Nat → Option Value

structure Ext (X : Nat → Prop) (w w' : World) : Prop where
  os : w'.os = w.os
  tape : w'.tape = w.tape
  output : w'.output = w.output
  size : w.heap.size ≤ w'.heap.size
  block : ∀ k, k < w.heap.size → ¬ X k → w'.heap[k]? = w.heap[k]?

theorem Ext.refl (X : Nat → Prop) (w : World) : Ext X w w := ⟨rfl, rfl, rfl, Nat.le_refl _, fun _ _ _ => rfl⟩
theorem Ext.trans {X Y : Nat → Prop} {a b c : World} (h : Ext X a b) (k : Ext Y b c) (hY : ∀ i, i < a.heap.size → Y i → X i) : Ext X a c :=
  ⟨k.os.trans h.os, k.tape.trans h.tape, k.output.trans h.output, Nat.le_trans h.size k.size, fun i hi hx => (k.block i (Nat.lt_of_lt_of_le hi h.size) (fun hy => hx (hY i hi hy))).trans (h.block i hi hx)⟩

structure RelX (E : Env) (M : Nat → Option HT) (G : Nat → Prop) (s : ASt) (a : Act) (w : World) : Prop where
  er : ∀ r, s.m r = (M r).map HT.erase
  sat : ∀ r T, M r = some T → Sat w G T
  nd : ∀ r T, M r = some T → T.blocks.Nodup
  dj : ∀ r r' T T', r ≠ r' → M r = some T → M r' = some T' → ∀ x, x ∈ T.blocks → x ∉ T'.blocks
  own : ∀ r T, M r = some T → ∀ x ∈ T.blocks, x < w.heap.size ∧ ¬ G x ∧ (E.w0.heap.size ≤ x ∨ E.X x)
  gd : ∀ x, G x → x < w.heap.size ∧ (E.G0 x ∨ E.w0.heap.size ≤ x)
  g0 : ∀ x, E.G0 x → G x
  sl : ∀ i, VR w G M (s.t i) (a.tmps.getD i undef)
  ext : Ext E.X E.w0 w
  df : a.defers = []
  nt : a.tmps.size = E.nt
  n1 : E.nt ≤ 1000
  pv : ∀ r v, E.pv r = some v → 1000 ≤ r ∧ ∃ T, M r = some T ∧ T.value = v

def Rel (E : Env) (s : ASt) (a : Act) (w : World) : Prop := ∃ M G, RelX E M G s a w

def ASt.set (s : ASt) (d : Nat) (v : AV) : ASt := ⟨fun i => if i = d then v else s.t i, s.m⟩
def ASt.new (s : ASt) (d : Nat) (v T : AV) : ASt := ⟨fun i => if i = d then v else (s.t i).mapRef (killF d []), fun r => if r = d then some T else s.m r⟩
def ASt.updM (s : ASt) (r : Nat) (p : List Nat) (T : AV) : ASt := ⟨s.t, fun q => if q = r then (s.m r).map (·.upd p T) else s.m q⟩
def ASt.mapT (s : ASt) (f : Nat → List Nat → Option (Nat × List Nat)) : ASt := ⟨fun i => (s.t i).mapRef f, s.m⟩
def ASt.ev (s : ASt) : Operand → AV
  | .tmp t => s.t t
  | .const v => .lit v
  | .global _ => .junk
  | .func f => .fn f []

theorem RelX.ev {E : Env} {M : Nat → Option HT} {G : Nat → Prop} {s : ASt} {a : Act} {w : World} (h : RelX E M G s a w) (x : Operand) : VR w G M (s.ev x) (a.eval x) := by
  cases x with
  | tmp t => exact h.sl t
  | const v => exact .lit v
  | global g => exact .junk _
  | func f => exact .fn f [] [] rfl (fun i a u x y => by simp at x)

theorem put_some (a : Act) (d : Nat) (v : Value) : a.put (some d) v = { a with tmps := a.tmps.setIfInBounds d v } := rfl
theorem put_getD (a : Act) (d i : Nat) (v : Value) (hd : d < a.tmps.size) : (a.put (some d) v).tmps.getD i undef = if i = d then v else a.tmps.getD i undef := by
  simp only [put_some, Array.getD_eq_getD_getElem?, Array.getElem?_setIfInBounds]
  by_cases h : i = d
  · subst h; simp [hd]
  · simp [h, Ne.symm h]

/-- A value comes into a slot; the world may have grown. -/
theorem RelX.set {E : Env} {M : Nat → Option HT} {G : Nat → Prop} {s : ASt} {a : Act} {w w' : World} (h : RelX E M G s a w) {d : Nat} (hd : d < E.nt) {v : AV} {u : Value}
    (hw : Ext (fun _ => False) w w') (hv : VR w' G M v u) : RelX E M G (s.set d v) (a.put (some d) u) w' := by
  have hb : ∀ b, b < w.heap.size → w'.heap[b]? = w.heap[b]? := fun b hb => hw.block b hb (fun h => h)
  refine ⟨h.er, fun r T hT => (h.sat r T hT).congr (fun b hx => hb b (h.own r T hT b hx).1) (fun b hx => hb b (h.gd b hx).1) (fun _ hx => hx), h.nd, h.dj, fun r T hT x hx => ?_, fun x hx => ?_, h.g0, fun i => ?_, ?_, h.df, ?_, h.n1, h.pv⟩
  · obtain ⟨h1, h2, h3⟩ := h.own r T hT x hx
    exact ⟨Nat.lt_of_lt_of_le h1 hw.size, h2, h3⟩
  · obtain ⟨h1, h2⟩ := h.gd x hx
    exact ⟨Nat.lt_of_lt_of_le h1 hw.size, h2⟩
  · rw [put_getD a d i u (by rw [h.nt]; exact hd)]
    simp only [ASt.set]
    split
    · exact hv
    · exact (h.sl i).congr (fun b hx => hb b (h.gd b hx).1) (fun _ hx => hx)
  · exact h.ext.trans hw (fun i _ hi => hi.elim)
  · simp [put_some, h.nt]

end Go.Av
