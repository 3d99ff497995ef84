/- Contracts of functions that change what belongs to their arguments: regions from number 1000 on are the caller's. -/
import Derived.Test.YteohnapehmdgaaaDoorAZzS
set_option linter.unusedSimpArgs false
set_option linter.unusedVariables false
/-! Contracts of functions that change what belongs to their arguments: regions from number 1000 on are the caller's. -/
namespace Go.Av
def regs {α : Type} (l : List α) : Nat → Option α := fun r => if 1000 ≤ r then l[r - 1000]? else none
def startX (args m : List AV) : ASt := ⟨fun i => (args[i]?).getD .junk, regs m⟩

/-- Called with these, the callee's regions being 'm', it comes back with 'res', and they are 'm''. -/
def DoesX (P : Program) (f : FuncId) (args m : List AV) (res : AV) (m' : List AV) : Prop :=
  ∀ (w : World) (G : Nat → Prop) (Ts : List HT) (vs : List Value), (∀ x, G x → x < w.heap.size) → HT.erases Ts = m → (∀ K ∈ Ts, Sat w G K) → (Ts.flatMap HT.blocks).Nodup → (∀ x ∈ Ts.flatMap HT.blocks, x < w.heap.size ∧ ¬ G x) →
    vs.length = args.length → (∀ (i : Nat) (a : AV) (v : Value), args[i]? = some a → vs[i]? = some v → VR w G (regs Ts) a v) →
    Calls P f vs.toArray w fun e w' => ∃ (T : HT) (Ts' : List HT), e = .returned T.value ∧ T.erase = res ∧ HT.erases Ts' = m' ∧ HT.values Ts' = HT.values Ts ∧ Ext (fun x => x ∈ Ts.flatMap HT.blocks) w w' ∧
      (T.blocks ++ Ts'.flatMap HT.blocks).Nodup ∧ (∀ x ∈ T.blocks ++ Ts'.flatMap HT.blocks, (x ∈ Ts.flatMap HT.blocks ∨ w.heap.size ≤ x) ∧ x < w'.heap.size) ∧
      ∃ G' : Nat → Prop, (∀ x, G x → G' x) ∧ (∀ x, G' x → G x ∨ (w.heap.size ≤ x ∧ x < w'.heap.size)) ∧ (∀ x ∈ T.blocks ++ Ts'.flatMap HT.blocks, ¬ G' x) ∧ Sat w' G' T ∧ ∀ K ∈ Ts', Sat w' G' K

def RetX (E : Env) (fn : Func) (res : AV) (m' : List AV) (s : ASt) : Prop :=
  ∀ M G a w, RelX E M G s a w → ∃ (T : HT) (M' : Nat → Option HT) (s' : ASt), (results fn a.tmps).run E.P w = .ok T.value w ∧ T.erase = res ∧ Sat w G T ∧ T.blocks.Nodup ∧
    (∀ x ∈ T.blocks, (∀ q T', M' q = some T' → x ∉ T'.blocks) ∧ x < w.heap.size ∧ ¬ G x ∧ (E.w0.heap.size ≤ x ∨ E.X x)) ∧ RelX E M' G s' a w ∧ ∀ j, j < m'.length → s'.m (1000 + j) = m'[j]?
def retXK (E : Env) (fn : Func) (res : AV) (m' : List AV) : AX → ASt → Prop
  | .nm, s => RetX E fn res m' s
  | .rt, s => RetX E fn res m' s
  | _, _ => False

theorem regs_blocks {Ts : List HT} {r : Nat} {T : HT} (h : regs Ts r = some T) : T ∈ Ts := by
  unfold regs at h
  split at h
  · exact List.mem_of_getElem? h
  · cases h

theorem flat_nodup : ∀ (l : List HT), (l.flatMap HT.blocks).Nodup → ∀ (i : Nat) (T : HT), l[i]? = some T → T.blocks.Nodup ∧ ∀ (j : Nat) (T' : HT), i ≠ j → l[j]? = some T' → ∀ x ∈ T.blocks, x ∉ T'.blocks
  | [], _, i, T, h => by simp at h
  | c :: r, hnd, i, T, h => by
    rw [List.flatMap_cons, List.nodup_append] at hnd
    obtain ⟨h1, h2, h3⟩ := hnd
    cases i with
    | zero =>
      simp only [List.getElem?_cons_zero, Option.some.injEq] at h
      subst h
      refine ⟨h1, fun j T' hj hT' x hx hx' => ?_⟩
      cases j with
      | zero => exact hj rfl
      | succ j => exact h3 x hx x (List.mem_flatMap.2 ⟨T', List.mem_of_getElem? (by simpa using hT'), hx'⟩) rfl
    | succ i =>
      simp only [List.getElem?_cons_succ] at h
      obtain ⟨g1, g2⟩ := flat_nodup r h2 i T h
      refine ⟨g1, fun j T' hj hT' x hx hx' => ?_⟩
      cases j with
      | zero =>
        simp only [List.getElem?_cons_zero, Option.some.injEq] at hT'
        subst hT'
        exact h3 x hx' x (List.mem_flatMap.2 ⟨T, List.mem_of_getElem? h, hx⟩) rfl
      | succ j => exact g2 j T' (by omega) (by simpa using hT') x hx hx'
theorem nodup_flat : ∀ (l : List HT), (∀ (i : Nat) (T : HT), l[i]? = some T → T.blocks.Nodup ∧ ∀ (j : Nat) (T' : HT), i ≠ j → l[j]? = some T' → ∀ x ∈ T.blocks, x ∉ T'.blocks) → (l.flatMap HT.blocks).Nodup
  | [], _ => by simp
  | c :: r, h => by
    rw [List.flatMap_cons, List.nodup_append]
    refine ⟨(h 0 c rfl).1, nodup_flat r (fun i T hT => ⟨(h (i + 1) T (by simpa using hT)).1, fun j T' hij hT' => (h (i + 1) T (by simpa using hT)).2 (j + 1) T' (by omega) (by simpa using hT')⟩), fun x hx y hy e => ?_⟩
    subst e
    obtain ⟨T, hT, hxT⟩ := List.mem_flatMap.1 hy
    obtain ⟨j, hj⟩ := List.getElem?_of_mem hT
    exact (h 0 c rfl).2 (j + 1) T (by omega) (by simpa using hj) x hx hxT

theorem DoesX.of {P : Program} {f : FuncId} {fn : Func} {c : Code} {args m : List AV} {res : AV} {m' : List AV} (hf : P.funcs[f]? = some fn) (hb : fn.body = some c) (hn : args.length ≤ fn.ntmps) (hn1 : fn.ntmps ≤ 1000) (hmm : m'.length = m.length)
    (h : ∀ E : Env, E.P = P → E.nt = fn.ntmps → AWP E c (retXK E fn res m') (startX args m)) : DoesX P f args m res m' := by
  intro w G Ts vs hG hm hsat hnd hown hl hv
  refine calls_of_wp hf hb ?_
  let E : Env := ⟨P, G, fun x => x ∈ Ts.flatMap HT.blocks, w, fn.ntmps, fun r => (regs Ts r).map HT.value⟩
  have hsize : (vs.toArray ++ Array.replicate (fn.ntmps - vs.toArray.size) undef).size = fn.ntmps := by simp; omega
  have hmem : ∀ {r T}, regs Ts r = some T → ∀ x ∈ T.blocks, x ∈ Ts.flatMap HT.blocks := fun hr x hx => List.mem_flatMap.2 ⟨_, regs_blocks hr, hx⟩
  have hndT : ∀ T ∈ Ts, T.blocks.Nodup := fun T hT => by
    obtain ⟨i, hi⟩ := List.getElem?_of_mem hT
    exact (flat_nodup Ts hnd i T hi).1
  have hdj : ∀ (i j : Nat) (T T' : HT), i ≠ j → Ts[i]? = some T → Ts[j]? = some T' → ∀ x ∈ T.blocks, x ∉ T'.blocks := fun i j T T' hij hi hj => (flat_nodup Ts hnd i T hi).2 j T' hij hj
  have hX : RelX E (regs Ts) G (startX args m) { tmps := vs.toArray ++ Array.replicate (fn.ntmps - vs.toArray.size) undef, defers := [] } w := by
    refine ⟨fun r => ?_, fun r T hT => hsat T (regs_blocks hT), fun r T hT => hndT T (regs_blocks hT), fun r r' T T' hr hT hT' => ?_, fun r T hT x hx => ⟨(hown x (hmem hT x hx)).1, (hown x (hmem hT x hx)).2, .inr (hmem hT x hx)⟩, fun x hx => ⟨hG x hx, .inl hx⟩, fun x hx => hx, fun i => ?_, Ext.refl _ _, rfl, hsize, hn1, fun r v hv => ?_⟩
    · simp only [startX, regs, ← hm, HT.erases_eq]
      split
      · rw [List.getElem?_map]
      · rfl
    · unfold regs at hT hT'
      split at hT
      · split at hT'
        · exact hdj _ _ T T' (by omega) hT hT'
        · cases hT'
      · cases hT
    · simp only [startX]
      cases ha : args[i]? with
      | none => exact .junk _
      | some a =>
        have hi : i < vs.length := by rw [hl]; exact (List.getElem?_eq_some_iff.1 ha).1
        have : (vs.toArray ++ Array.replicate (fn.ntmps - vs.toArray.size) undef).getD i undef = vs[i] := by
          rw [Array.getD_eq_getD_getElem?, Array.getElem?_append_left (by simpa using hi)]
          simp [hi]
        rw [this]
        simp only [Option.getD_some]
        exact hv i a _ ha (List.getElem?_eq_getElem hi)
    · simp only [E] at hv
      cases hr : regs Ts r with
      | none => rw [hr] at hv; cases hv
      | some T =>
        rw [hr] at hv
        simp only [Option.map_some, Option.some.injEq] at hv
        refine ⟨?_, T, rfl, hv⟩
        unfold regs at hr
        split at hr
        · assumption
        · cases hr
  have hml : m'.length = Ts.length := by rw [hmm, ← hm, HT.erases_eq, List.length_map]
  have hret : ∀ s a w', Rel E s a w' → RetX E fn res m' s → a.defers = [] ∧ ∃ v, (results fn a.tmps).run P w' = .ok v w' ∧ ∃ (T : HT) (Ts' : List HT), Ending.returned v = .returned T.value ∧ T.erase = res ∧ HT.erases Ts' = m' ∧ HT.values Ts' = HT.values Ts ∧ Ext (fun x => x ∈ Ts.flatMap HT.blocks) w w' ∧
      (T.blocks ++ Ts'.flatMap HT.blocks).Nodup ∧ (∀ x ∈ T.blocks ++ Ts'.flatMap HT.blocks, (x ∈ Ts.flatMap HT.blocks ∨ w.heap.size ≤ x) ∧ x < w'.heap.size) ∧
      ∃ G' : Nat → Prop, (∀ x, G x → G' x) ∧ (∀ x, G' x → G x ∨ (w.heap.size ≤ x ∧ x < w'.heap.size)) ∧ (∀ x ∈ T.blocks ++ Ts'.flatMap HT.blocks, ¬ G' x) ∧ Sat w' G' T ∧ ∀ K ∈ Ts', Sat w' G' K := by
    rintro s a w' ⟨M0, G', hX0⟩ hr
    obtain ⟨T, M', s', h1, h2, h3, h4, h5, hX', h6⟩ := hr M0 G' a w' hX0
    have hK : ∀ j, j < Ts.length → ∃ K, M' (1000 + j) = some K ∧ some K.value = (Ts[j]?).map HT.value := fun j hj => by
      have he : E.pv (1000 + j) = some (Ts[j].value) := by
        show (regs Ts (1000 + j)).map HT.value = _
        simp [regs, List.getElem?_eq_getElem hj]
      obtain ⟨_, K, k1, k2⟩ := hX'.pv _ _ he
      exact ⟨K, k1, by rw [k2, List.getElem?_eq_getElem hj]; rfl⟩
    let Ts' := (List.range Ts.length).map fun j => (M' (1000 + j)).getD default
    have hget : ∀ (j : Nat) (K : HT), Ts'[j]? = some K → j < Ts.length ∧ M' (1000 + j) = some K := fun j K hj => by
      have hjl : j < Ts.length := by
        have := (List.getElem?_eq_some_iff.1 hj).1
        simpa [Ts'] using this
      obtain ⟨K', k1, _⟩ := hK j hjl
      simp only [Ts', List.getElem?_map, List.getElem?_range hjl, Option.map_some, k1, Option.getD_some, Option.some.injEq] at hj
      exact ⟨hjl, by rw [k1, hj]⟩
    have hlen : Ts'.length = Ts.length := by simp [Ts']
    have hgets : ∀ j, j < Ts.length → ∃ K, Ts'[j]? = some K ∧ M' (1000 + j) = some K ∧ some K.value = (Ts[j]?).map HT.value := fun j hj => by
      obtain ⟨K, k1, k2⟩ := hK j hj
      exact ⟨K, by simp [Ts', hj, k1], k1, k2⟩
    clear_value Ts'
    have hmemK : ∀ x ∈ Ts'.flatMap HT.blocks, ∃ q K, M' q = some K ∧ x ∈ K.blocks := fun x hx => by
      obtain ⟨K, hK1, hK2⟩ := List.mem_flatMap.1 hx
      obtain ⟨j, hj⟩ := List.getElem?_of_mem hK1
      exact ⟨_, K, (hget j K hj).2, hK2⟩
    refine ⟨hX'.df, T.value, h1, T, Ts', rfl, h2, ?_, ?_, hX'.ext, ?_, fun x hx => ?_, G', hX'.g0, fun x hx => (hX'.gd x hx).2.imp id (fun h => ⟨h, (hX'.gd x hx).1⟩), fun x hx => ?_, h3, fun K hK1 => ?_⟩
    · rw [HT.erases_eq]
      apply List.ext_getElem?
      intro j
      by_cases hj : j < Ts.length
      · obtain ⟨K, k1, k2, _⟩ := hgets j hj
        rw [List.getElem?_map, k1, ← h6 j (by omega), hX'.er, k2]
      · rw [List.getElem?_eq_none (by simp [hlen]; omega), List.getElem?_eq_none (by omega)]
    · rw [HT.values_eq, HT.values_eq]
      apply List.ext_getElem?
      intro j
      by_cases hj : j < Ts.length
      · obtain ⟨K, k1, _, k3⟩ := hgets j hj
        rw [List.getElem?_map, List.getElem?_map, k1, ← k3]; rfl
      · rw [List.getElem?_eq_none (by simp [hlen]; omega), List.getElem?_eq_none (by simp; omega)]
    · rw [List.nodup_append]
      refine ⟨h4, nodup_flat Ts' (fun i K hi => ⟨hX'.nd _ K (hget i K hi).2, fun j K' hij hj => hX'.dj _ _ K K' (by omega) (hget i K hi).2 (hget j K' hj).2⟩), fun x hx y hy e => ?_⟩
      subst e
      obtain ⟨q, K, k1, k2⟩ := hmemK x hy
      exact (h5 x hx).1 q K k1 k2
    · rcases List.mem_append.1 hx with hx | hx
      · exact ⟨(h5 x hx).2.2.2.symm, (h5 x hx).2.1⟩
      · obtain ⟨q, K, k1, k2⟩ := hmemK x hx
        have := hX'.own q K k1 x k2
        exact ⟨this.2.2.symm, this.1⟩
    · rcases List.mem_append.1 hx with hx | hx
      · exact (h5 x hx).2.2.1
      · obtain ⟨q, K, k1, k2⟩ := hmemK x hx
        exact (hX'.own q K k1 x k2).2.1
    · obtain ⟨j, hj⟩ := List.getElem?_of_mem hK1
      exact hX'.sat _ K (hget j K hj).2
  refine wp_mono (h E rfl rfl _ w ⟨_, _, hX⟩) (fun e a w' hp => ?_)
  cases e with
  | normal => obtain ⟨s, h1, h2⟩ := hp; exact hret s a w' h1 h2
  | ret => obtain ⟨s, h1, h2⟩ := hp; exact hret s a w' h1 h2
  | exit i => obtain ⟨s, h1, h2⟩ := hp; exact h2.elim
  | goto l => exact hp.elim
  | panic ch => exact hp.elim
  | outgrown => exact hp.elim
def regsOk (m' : List AV) (s : ASt) : Prop := ∀ j, j < m'.length → s.m (1000 + j) = m'[j]?
def retXC (res : AV) (m' : List AV) : Option (AV × ASt) → Prop
  | some (A, s') => A = res ∧ regsOk m' s'
  | none => False
def retX1 (s : ASt) (res : AV) (m' : List AV) : Option AV → Prop
  | some v => retXC res m' (closeV s v)
  | none => False
theorem DoesX.walk {P : Program} {f : FuncId} {fn : Func} {c : Code} {args m m' : List AV} {res : AV} {nt : Nat} (hf : P.funcs[f]? = some fn) (hb : fn.body = some c) (hnt : fn.ntmps = nt) (hn : args.length ≤ nt) (hn1 : nt ≤ 1000) (hmm : m'.length = m.length)
    (h : ∀ (G0 X : Nat → Prop) (w0 : World) (pv : Nat → Option Value), aw ⟨P, G0, X, w0, nt, pv⟩ c (retXK ⟨P, G0, X, w0, nt, pv⟩ fn res m') (startX args m)) : DoesX P f args m res m' :=
  DoesX.of hf hb (by omega) (by omega) hmm (fun E e1 e2 => by
    obtain ⟨P', G0, X, w0, nt', pv⟩ := E
    simp only at e1 e2
    subst e1
    rw [hnt] at e2
    subst e2
    exact aw_sound (h G0 X w0 pv))
end Go.Av
