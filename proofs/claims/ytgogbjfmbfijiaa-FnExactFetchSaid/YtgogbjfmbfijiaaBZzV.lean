/- Calls that change places of the caller's, as the walk meets them; contracts of such functions. -/
import Derived.Test.YtgogbjfmbfijiaaBZzU
set_option linter.unusedSimpArgs false
set_option linter.unusedVariables false
/-! Calls that change places of the caller's, as the walk meets them; contracts of such functions. -/
namespace Go.Av
mutual
theorem openV_free (r : Nat) : ∀ (p : List Nat) (a : AV), a.noRef = true → openV r p a = a
  | p, .lit v, _ => rfl
  | p, .junk, _ => rfl
  | p, .row false _ _ _, _ => rfl
  | p, .row true _ _ _, h => by simp [AV.noRef] at h
  | p, .box false _, _ => rfl
  | p, .box true _, h => by simp [AV.noRef] at h
  | p, .fn _ _, _ => rfl
  | p, .sl _ _ _ _, h => by simp [AV.noRef] at h
  | p, .ptr _ _ _, h => by simp [AV.noRef] at h
  | p, .agg cs, h => by simp only [openV]; rw [openVs_free r p 0 cs (by simpa [AV.noRef] using h)]
  | p, .tup cs, h => by simp only [openV]; rw [openVs_free r p 0 cs (by simpa [AV.noRef] using h)]
theorem openVs_free (r : Nat) : ∀ (p : List Nat) (o : Nat) (cs : List AV), AV.noRefs cs = true → openVs r p o cs = cs
  | p, o, [], _ => rfl
  | p, o, c :: l, h => by
    simp only [AV.noRefs, Bool.and_eq_true] at h
    simp only [openVs]
    rw [openV_free r _ c h.1, openVs_free r p (o + 1) l h.2]
end
theorem Sat.free {w : World} {G : Nat → Prop} {T : HT} {m : Nat → Option HT} (h : Sat w G T) (hr : T.erase.noRef = true) : VR w G m T.erase T.value := by
  have := h.opened (M := fun _ => some T) (r := 0) (T0 := T) rfl (p := []) rfl
  rw [openV_free 0 [] _ hr] at this
  exact this.free hr
section
variable {E : Env} {s : ASt} {d : Nat} {t : TypeId} {pos : String} {after : Array Edge} {g : Option (Nat × Bool)} {R : ASt → Prop} {fo : Operand} {f : FuncId} {caps : List AV} {xs : List Operand} {ts : Array TypeId} {args m m' : List AV} {res : AV} {pl : List (Nat × List Nat)}
theorem l_callX (hn : d < E.nt) (hf : s.ev fo = .fn f caps) (he : entB E.P f = true)
    (ha : xs.map s.ev ++ caps = AV.mapRefs (renP pl) args) (hd : DoesX E.P f args m res m') (hm : lentOk s pl m) (hpl : (pl.map Prod.fst).Nodup) (hh : hdsOk m m' = true)
    (hR : R ((s.swap (repP pl) (newA pl m')).new d (openV d [] res) res)) : LJ E ⟨some d, .call { callee := .value fo, args := xs.toArray, argTypes := ts }, t, pos, after, g⟩ s R := by
  rintro a w ⟨M, G, hX⟩
  refine callX_core hf he ha hd hm hpl hh hX (fun T M' w' G' h1 h2 h3 h4 h5 => ?_)
  subst h1
  exact ⟨_, ⟨_, G', RelX.new2 h2 hn ⟨rfl, rfl, rfl, Nat.le_refl _, fun _ _ _ => rfl⟩ h5 h3 h4 (h5.opened (M := updF M' d (some T)) (T0 := T) (by simp [updF]) rfl)⟩, hR⟩
/-- The result names no memory. -/
theorem l_callXs (hn : d < E.nt) (hf : s.ev fo = .fn f caps) (he : entB E.P f = true)
    (ha : xs.map s.ev ++ caps = AV.mapRefs (renP pl) args) (hd : DoesX E.P f args m res m') (hm : lentOk s pl m) (hpl : (pl.map Prod.fst).Nodup) (hh : hdsOk m m' = true) (hr : res.noRef = true)
    (hR : R ((s.swap (repP pl) (newA pl m')).set d res)) : LJ E ⟨some d, .call { callee := .value fo, args := xs.toArray, argTypes := ts }, t, pos, after, g⟩ s R := by
  rintro a w ⟨M, G, hX⟩
  refine callX_core hf he ha hd hm hpl hh hX (fun T M' w' G' h1 h2 h3 h4 h5 => ?_)
  subst h1
  refine ⟨_, ⟨_, G', h2.set hn (Ext.refl _ _) ?_⟩, hR⟩
  exact h5.free hr
end

section
variable {P : Program} {G0 X : Nat → Prop} {w0 : World} {nt : Nat} {pv : Nat → Option Value} {s : ASt} {R : ASt → Prop} {d : Nat} {t : TypeId} {pos : String} {after : Array Edge} {g : Option (Nat × Bool)} {fo : Operand} {xs : List Operand} {ts : Array TypeId} {f : FuncId} {caps args m m' : List AV} {res v : AV} {pl : List (Nat × List Nat)}
/-- Places are lent to a callee that changes what lies there; the result is the caller's own. -/
theorem opq_callX (pl : List (Nat × List Nat)) (hd : DoesX P f args m res m') (he : entB P f = true) (hf : s.ev fo = .fn f caps) (ha : xs.map s.ev ++ caps = AV.mapRefs (renP pl) args) (hm : lentOk s pl m) (hn : d < nt) (hpl : (pl.map Prod.fst).Nodup) (hh : hdsOk m m' = true) (hv : openV d [] res = v)
    (h : R ((s.swap (repP pl) (newA pl m')).new d v res)) :
    opq ⟨P, G0, X, w0, nt, pv⟩ ⟨some d, .call { callee := .value fo, args := xs.toArray, argTypes := ts }, t, pos, after, g⟩ R s := by
  subst hv; exact l_callX (E := ⟨P, G0, X, w0, nt, pv⟩) hn hf he ha hd hm hpl hh h
/-- The result names no memory. -/
theorem opq_callXs (pl : List (Nat × List Nat)) (hd : DoesX P f args m res m') (he : entB P f = true) (hf : s.ev fo = .fn f caps) (ha : xs.map s.ev ++ caps = AV.mapRefs (renP pl) args) (hm : lentOk s pl m) (hn : d < nt) (hpl : (pl.map Prod.fst).Nodup) (hh : hdsOk m m' = true) (hr : res.noRef = true)
    (h : R ((s.swap (repP pl) (newA pl m')).set d res)) :
    opq ⟨P, G0, X, w0, nt, pv⟩ ⟨some d, .call { callee := .value fo, args := xs.toArray, argTypes := ts }, t, pos, after, g⟩ R s :=
  l_callXs (E := ⟨P, G0, X, w0, nt, pv⟩) hn hf he ha hd hm hpl hh hr h
/-- A slot that holds a lent row's own value names the region again. -/
theorem opq_relit {E : Env} {o : Oper} {i r sz n : Nat} {c : Value} {cs : List AV} (hi : s.t i = .lit c) (hp : E.pv r = some c) (hm : s.m r = some (.row true sz n cs)) (h : opq E o R ⟨fun j => if j = i then .sl r [] 0 n else s.t j, s.m⟩) : opq E o R s := by
  rintro a w ⟨M, G, hX⟩
  refine h a w ⟨M, G, hX.er, hX.sat, hX.nd, hX.dj, hX.own, hX.gd, hX.g0, fun j => ?_, hX.ext, hX.df, hX.nt, hX.n1, hX.pv⟩
  simp only
  split
  · rename_i e; subst e
    have hv := hX.sl j
    rw [hi] at hv
    have hv := hv.litv
    obtain ⟨_, T, h1, h2⟩ := hX.pv r c hp
    rw [hv, ← h2]
    have he := hX.er r
    rw [hm, h1] at he
    simp only [Option.map_some, Option.some.injEq] at he
    have := (hX.sat r T h1).opened (M := M) h1 (p := []) rfl
    rw [← he] at this
    exact this
  · exact hX.sl j
end
theorem swap_t {s : ASt} {rep : Nat → Option (List Nat)} {new : Nat → AV} {i : Nat} : (s.swap rep new).t i = (s.t i).mapRef (swapF rep) := nrfl rfl
theorem swap_m {s : ASt} {rep : Nat → Option (List Nat)} {new : Nat → AV} {r : Nat} : (s.swap rep new).m r = match rep r with
  | some p => (s.m r).map (·.upd p (new r))
  | none => s.m r := nrfl rfl

/-! ### Contracts -/
mutual
/-- An argument that is a struct: the lent rows in it as the values that they are. -/
def litA (vals : List Value) : AV → AV
  | .sl r p o n => match regs vals r with
    | some v => .lit v
    | none => .junk
  | .ptr r p o => match regs vals r with
    | some v => .lit v
    | none => .junk
  | .agg cs => .agg (litAs vals cs)
  | a => a
def litAs (vals : List Value) : List AV → List AV
  | [] => []
  | c :: l => litA vals c :: litAs vals l
end
mutual
/-- Does it name whole regions alone? -/
def fullA (m : List AV) : AV → Prop
  | .sl r p o n => p = [] ∧ o = 0 ∧ (match regs m r with | some (.row true _ n' _) => n = n' | _ => False)
  | .ptr r p o => p = [] ∧ o = 0 ∧ (match regs m r with | some (.box true _) => True | _ => False)
  | .agg cs => fullAs m cs
  | _ => True
def fullAs (m : List AV) : List AV → Prop
  | [] => True
  | c :: l => fullA m c ∧ fullAs m l
end
def litArg (vals : List Value) : AV → AV
  | .agg cs => .agg (litAs vals cs)
  | a => a
def fullArg (m : List AV) : AV → Prop
  | .agg cs => fullAs m cs
  | _ => True

mutual
theorem litA_val {w : World} {G : Nat → Prop} {Ts : List HT} (hs : ∀ K ∈ Ts, Sat w G K) : ∀ (a : AV) {v : Value}, fullA (HT.erases Ts) a → VR w G (regs Ts) a v → VR w G (regs Ts) (litA (HT.values Ts) a) v
  | .sl r p o n, v, hf, hv => by
    simp only [fullA] at hf
    obtain ⟨rfl, rfl, hf⟩ := hf
    simp only [litA]
    cases hr : regs Ts r with
    | none =>
      have : regs (HT.values Ts) r = none := by
        unfold regs at hr ⊢
        split at hr
        · simp only [*, if_true, HT.values_eq, List.getElem?_map, Option.map_none]
        · simp [*]
      rw [this]; exact .junk v
    | some T =>
      have h1 : regs (HT.values Ts) r = some T.value := by
        unfold regs at hr ⊢
        split at hr
        · simp only [*, if_true, HT.values_eq, List.getElem?_map, Option.map_some]
        · cases hr
      have h2 : regs (HT.erases Ts) r = some T.erase := by
        unfold regs at hr ⊢
        split at hr
        · simp only [*, if_true, HT.erases_eq, List.getElem?_map, Option.map_some]
        · cases hr
      rw [h1]; rw [h2] at hf
      simp only
      have hsat := hs T (regs_blocks hr)
      cases hv with
      | sl _ _ _ _ _ h h0 =>
        cases hsat with
        | row b sz n' cap cs C e g1 g2 g3 g4 g5 g6 g7 g8 =>
          simp only [HT.erase] at hf
          subst hf
          obtain ⟨A, c, e1, e2, e3, e4, e5⟩ := h _ hr b sz n cap cs rfl (by omega)
          obtain ⟨rfl, rfl⟩ := e5 rfl
          subst e1
          exact .lit _
        | nilrow sz =>
          simp only [HT.erase] at hf
          subst hf
          have := h0 _ hr sz rfl (by omega)
          subst this
          exact .lit _
        | leaf a u ha _ => cases a with
          | row o _ _ _ => cases o <;> simp_all [HT.erase, AV.leafOk]
          | _ => simp_all [HT.erase, AV.leafOk]
        | box => simp [HT.erase] at hf
        | agg => simp [HT.erase] at hf
        | tup => simp [HT.erase] at hf
  | .ptr r p o, v, hf, hv => by
    simp only [fullA] at hf
    obtain ⟨rfl, rfl, hf⟩ := hf
    simp only [litA]
    cases hr : regs Ts r with
    | none =>
      have : regs (HT.values Ts) r = none := by
        unfold regs at hr ⊢
        split at hr
        · simp only [*, if_true, HT.values_eq, List.getElem?_map, Option.map_none]
        · simp [*]
      rw [this]; exact .junk v
    | some T =>
      have h1 : regs (HT.values Ts) r = some T.value := by
        unfold regs at hr ⊢
        split at hr
        · simp only [*, if_true, HT.values_eq, List.getElem?_map, Option.map_some]
        · cases hr
      have h2 : regs (HT.erases Ts) r = some T.erase := by
        unfold regs at hr ⊢
        split at hr
        · simp only [*, if_true, HT.erases_eq, List.getElem?_map, Option.map_some]
        · cases hr
      rw [h1]; rw [h2] at hf
      simp only
      have hsat := hs T (regs_blocks hr)
      cases hv with
      | ptr _ _ _ _ h h0 =>
        cases hsat with
        | box b cs C e g1 g2 g7 g8 =>
          have := h0 _ hr b cs rfl
          subst this
          exact .lit _
        | row => simp [HT.erase] at hf
        | nilrow => simp [HT.erase] at hf
        | leaf a u ha _ => cases a with
          | box o _ => cases o <;> simp_all [HT.erase, AV.leafOk]
          | _ => simp_all [HT.erase, AV.leafOk]
        | agg => simp [HT.erase] at hf
        | tup => simp [HT.erase] at hf
  | .agg cs, v, hf, hv => by
    simp only [litA]
    cases hv with
    | agg _ us hl h => exact .agg _ us (by rw [hl, litAs_len]) (fun i a u hi hu => litAs_val hs cs i a u (by simpa [fullA] using hf) hi (fun b hb => h i b u hb hu))
  | .lit _, v, _, hv => by simpa only [litA] using hv
  | .row _ _ _ _, v, _, hv => by simpa only [litA] using hv
  | .box _ _, v, _, hv => by simpa only [litA] using hv
  | .tup _, v, _, hv => by simpa only [litA] using hv
  | .fn _ _, v, _, hv => by simpa only [litA] using hv
  | .junk, v, _, hv => by simpa only [litA] using hv
theorem litAs_val {w : World} {G : Nat → Prop} {Ts : List HT} (hs : ∀ K ∈ Ts, Sat w G K) : ∀ (cs : List AV) (i : Nat) (a : AV) (u : Value), fullAs (HT.erases Ts) cs → (litAs (HT.values Ts) cs)[i]? = some a → (∀ b, cs[i]? = some b → VR w G (regs Ts) b u) → VR w G (regs Ts) a u
  | [], i, a, u, _, h, _ => by simp [litAs] at h
  | c :: l, 0, a, u, hf, h, hb => by
    simp only [litAs, List.getElem?_cons_zero, Option.some.injEq] at h; subst h
    simp only [fullAs] at hf
    exact litA_val hs c hf.1 (hb c rfl)
  | c :: l, i + 1, a, u, hf, h, hb => by
    simp only [fullAs] at hf
    exact litAs_val hs l i a u hf.2 (by simpa [litAs] using h) (fun b h' => hb b (by simpa using h'))
theorem litAs_len {vals : List Value} : ∀ {cs : List AV}, (litAs vals cs).length = cs.length
  | [] => rfl
  | c :: l => by simp [litAs, litAs_len (cs := l)]
end

theorem litArg_val {w : World} {G : Nat → Prop} {Ts : List HT} (hs : ∀ K ∈ Ts, Sat w G K) (a : AV) {v : Value} (hf : fullArg (HT.erases Ts) a) (hv : VR w G (regs Ts) a v) : VR w G (regs Ts) (litArg (HT.values Ts) a) v := by
  cases a with
  | agg cs =>
    have := litA_val hs (.agg cs) (v := v) (by simpa only [fullA, fullArg] using hf) hv
    simpa only [litA, litArg] using this
  | _ => simpa only [litArg] using hv
theorem regs_map {Ts : List HT} {r : Nat} : regs (HT.values Ts) r = (regs Ts r).map HT.value := by
  unfold regs
  split
  · rw [HT.values_eq, List.getElem?_map]
  · rfl
theorem DoesX.ofL {P : Program} {f : FuncId} {fn : Func} {c : Code} {args m : List AV} {res : AV} {m' : List AV} (hf : P.funcs[f]? = some fn) (hb : fn.body = some c) (hn : args.length ≤ fn.ntmps) (hn1 : fn.ntmps ≤ 1000) (hmm : m'.length = m.length)
    (hfull : ∀ a ∈ args, fullArg m a) (hfit : fitCs m = true)
    (h : ∀ (E : Env) (vals : List Value), E.P = P → E.nt = fn.ntmps → vals.length = m.length → (∀ v ∈ vals, v.oneCell' = true) → E.pv = regs vals → AWP E c (retXK E fn res m') (startX (args.map (litArg vals)) m)) : DoesX P f args m res m' := by
  intro w G Ts vs hG hm hsat hnd hown hl hv
  refine calls_of_wp hf hb ?_
  let E : Env := ⟨P, G, fun x => x ∈ Ts.flatMap HT.blocks, w, fn.ntmps, regs (HT.values Ts)⟩
  have hsize : (vs.toArray ++ Array.replicate (fn.ntmps - vs.toArray.size) undef).size = fn.ntmps := by simp; omega
  have hmem : ∀ {r T}, regs Ts r = some T → ∀ x ∈ T.blocks, x ∈ Ts.flatMap HT.blocks := fun hr x hx => List.mem_flatMap.2 ⟨_, regs_blocks hr, hx⟩
  have hndT : ∀ T ∈ Ts, T.blocks.Nodup := fun T hT => by
    obtain ⟨i, hi⟩ := List.getElem?_of_mem hT
    exact (flat_nodup Ts hnd i T hi).1
  have hdj : ∀ (i j : Nat) (T T' : HT), i ≠ j → Ts[i]? = some T → Ts[j]? = some T' → ∀ x ∈ T.blocks, x ∉ T'.blocks := fun i j T T' hij hi hj => (flat_nodup Ts hnd i T hi).2 j T' hij hj
  have hX : RelX E (regs Ts) G (startX (args.map (litArg (HT.values Ts))) m) { tmps := vs.toArray ++ Array.replicate (fn.ntmps - vs.toArray.size) undef, defers := [] } w := by
    refine ⟨fun r => ?_, fun r T hT => hsat T (regs_blocks hT), fun r T hT => hndT T (regs_blocks hT), fun r r' T T' hr hT hT' => ?_, fun r T hT x hx => ⟨(hown x (hmem hT x hx)).1, (hown x (hmem hT x hx)).2, .inr (hmem hT x hx)⟩, fun x hx => ⟨hG x hx, .inl hx⟩, fun x hx => hx, fun i => ?_, Ext.refl _ _, rfl, hsize, hn1, fun r v hv => ?_⟩
    · simp only [startX, regs, ← hm, HT.erases_eq]
      split
      · rw [List.getElem?_map]
      · rfl
    · unfold regs at hT hT'
      split at hT
      · split at hT'
        · exact hdj _ _ T T' (by omega) hT hT'
        · cases hT'
      · cases hT
    · simp only [startX]
      rw [List.getElem?_map]
      cases ha : args[i]? with
      | none => exact .junk _
      | some a =>
        have hi : i < vs.length := by rw [hl]; exact (List.getElem?_eq_some_iff.1 ha).1
        have : (vs.toArray ++ Array.replicate (fn.ntmps - vs.toArray.size) undef).getD i undef = vs[i] := by
          rw [Array.getD_eq_getD_getElem?, Array.getElem?_append_left (by simpa using hi)]
          simp [hi]
        rw [this]
        simp only [Option.map_some, Option.getD_some]
        exact litArg_val hsat a (by rw [hm]; exact hfull a (List.mem_of_getElem? ha)) (hv i a _ ha (List.getElem?_eq_getElem hi))
    · simp only [E, regs_map] at hv
      cases hr : regs Ts r with
      | none => rw [hr] at hv; cases hv
      | some T =>
        rw [hr] at hv
        simp only [Option.map_some, Option.some.injEq] at hv
        refine ⟨?_, T, rfl, hv⟩
        unfold regs at hr
        split at hr
        · assumption
        · cases hr
  have hml : m'.length = Ts.length := by rw [hmm, ← hm, HT.erases_eq, List.length_map]
  have hret : ∀ s a w', Rel E s a w' → RetX E fn res m' s → a.defers = [] ∧ ∃ v, (results fn a.tmps).run P w' = .ok v w' ∧ ∃ (T : HT) (Ts' : List HT), Ending.returned v = .returned T.value ∧ T.erase = res ∧ HT.erases Ts' = m' ∧ HT.values Ts' = HT.values Ts ∧ Ext (fun x => x ∈ Ts.flatMap HT.blocks) w w' ∧
      (T.blocks ++ Ts'.flatMap HT.blocks).Nodup ∧ (∀ x ∈ T.blocks ++ Ts'.flatMap HT.blocks, (x ∈ Ts.flatMap HT.blocks ∨ w.heap.size ≤ x) ∧ x < w'.heap.size) ∧
      ∃ G' : Nat → Prop, (∀ x, G x → G' x) ∧ (∀ x, G' x → G x ∨ (w.heap.size ≤ x ∧ x < w'.heap.size)) ∧ (∀ x ∈ T.blocks ++ Ts'.flatMap HT.blocks, ¬ G' x) ∧ Sat w' G' T ∧ ∀ K ∈ Ts', Sat w' G' K := by
    rintro s a w' ⟨M0, G', hX0⟩ hr
    obtain ⟨T, M', s', h1, h2, h3, h4, h5, hX', h6⟩ := hr M0 G' a w' hX0
    have hK : ∀ j, j < Ts.length → ∃ K, M' (1000 + j) = some K ∧ some K.value = (Ts[j]?).map HT.value := fun j hj => by
      have he : E.pv (1000 + j) = some (Ts[j].value) := by
        show regs (HT.values Ts) (1000 + j) = _
        rw [regs_map]
        simp [regs, List.getElem?_eq_getElem hj]
      obtain ⟨_, K, k1, k2⟩ := hX'.pv _ _ he
      exact ⟨K, k1, by rw [k2, List.getElem?_eq_getElem hj]; rfl⟩
    let Ts' := (List.range Ts.length).map fun j => (M' (1000 + j)).getD default
    have hget : ∀ (j : Nat) (K : HT), Ts'[j]? = some K → j < Ts.length ∧ M' (1000 + j) = some K := fun j K hj => by
      have hjl : j < Ts.length := by
        have := (List.getElem?_eq_some_iff.1 hj).1
        simpa [Ts'] using this
      obtain ⟨K', k1, _⟩ := hK j hjl
      simp only [Ts', List.getElem?_map, List.getElem?_range hjl, Option.map_some, k1, Option.getD_some, Option.some.injEq] at hj
      exact ⟨hjl, by rw [k1, hj]⟩
    have hlen : Ts'.length = Ts.length := by simp [Ts']
    have hgets : ∀ j, j < Ts.length → ∃ K, Ts'[j]? = some K ∧ M' (1000 + j) = some K ∧ some K.value = (Ts[j]?).map HT.value := fun j hj => by
      obtain ⟨K, k1, k2⟩ := hK j hj
      exact ⟨K, by simp [Ts', hj, k1], k1, k2⟩
    clear_value Ts'
    have hmemK : ∀ x ∈ Ts'.flatMap HT.blocks, ∃ q K, M' q = some K ∧ x ∈ K.blocks := fun x hx => by
      obtain ⟨K, hK1, hK2⟩ := List.mem_flatMap.1 hx
      obtain ⟨j, hj⟩ := List.getElem?_of_mem hK1
      exact ⟨_, K, (hget j K hj).2, hK2⟩
    refine ⟨hX'.df, T.value, h1, T, Ts', rfl, h2, ?_, ?_, hX'.ext, ?_, fun x hx => ?_, G', hX'.g0, fun x hx => (hX'.gd x hx).2.imp id (fun h => ⟨h, (hX'.gd x hx).1⟩), fun x hx => ?_, h3, fun K hK1 => ?_⟩
    · rw [HT.erases_eq]
      apply List.ext_getElem?
      intro j
      by_cases hj : j < Ts.length
      · obtain ⟨K, k1, k2, _⟩ := hgets j hj
        rw [List.getElem?_map, k1, ← h6 j (by omega), hX'.er, k2]
      · rw [List.getElem?_eq_none (by simp [hlen]; omega), List.getElem?_eq_none (by omega)]
    · rw [HT.values_eq, HT.values_eq]
      apply List.ext_getElem?
      intro j
      by_cases hj : j < Ts.length
      · obtain ⟨K, k1, _, k3⟩ := hgets j hj
        rw [List.getElem?_map, List.getElem?_map, k1, ← k3]; rfl
      · rw [List.getElem?_eq_none (by simp [hlen]; omega), List.getElem?_eq_none (by simp; omega)]
    · rw [List.nodup_append]
      refine ⟨h4, nodup_flat Ts' (fun i K hi => ⟨hX'.nd _ K (hget i K hi).2, fun j K' hij hj => hX'.dj _ _ K K' (by omega) (hget i K hi).2 (hget j K' hj).2⟩), fun x hx y hy e => ?_⟩
      subst e
      obtain ⟨q, K, k1, k2⟩ := hmemK x hy
      exact (h5 x hx).1 q K k1 k2
    · rcases List.mem_append.1 hx with hx | hx
      · exact ⟨(h5 x hx).2.2.2.symm, (h5 x hx).2.1⟩
      · obtain ⟨q, K, k1, k2⟩ := hmemK x hx
        have := hX'.own q K k1 x k2
        exact ⟨this.2.2.symm, this.1⟩
    · rcases List.mem_append.1 hx with hx | hx
      · exact (h5 x hx).2.2.1
      · obtain ⟨q, K, k1, k2⟩ := hmemK x hx
        exact (hX'.own q K k1 x k2).2.1
    · obtain ⟨j, hj⟩ := List.getElem?_of_mem hK1
      exact hX'.sat _ K (hget j K hj).2
  refine wp_mono (h E (HT.values Ts) rfl rfl (by rw [← hm, HT.erases_eq, HT.values_eq]; simp) (fun v hv => by
    rw [HT.values_eq] at hv
    obtain ⟨K, hK, rfl⟩ := List.mem_map.1 hv
    exact (fit_val (hsat K hK) (fitCs_mem.1 hfit _ (by rw [← hm, HT.erases_eq]; exact List.mem_map.2 ⟨K, hK, rfl⟩))).1) rfl _ w ⟨_, _, hX⟩) (fun e a w' hp => ?_)
  cases e with
  | normal => obtain ⟨s, h1, h2⟩ := hp; exact hret s a w' h1 h2
  | ret => obtain ⟨s, h1, h2⟩ := hp; exact hret s a w' h1 h2
  | exit i => obtain ⟨s, h1, h2⟩ := hp; exact h2.elim
  | goto l => exact hp.elim
  | panic ch => exact hp.elim
  | outgrown => exact hp.elim

theorem DoesX.walkL {P : Program} {f : FuncId} {fn : Func} {c : Code} {args m m' : List AV} {res : AV} {nt : Nat} (hf : P.funcs[f]? = some fn) (hb : fn.body = some c) (hnt : fn.ntmps = nt) (hn : args.length ≤ nt) (hn1 : nt ≤ 1000) (hmm : m'.length = m.length) (hfull : ∀ a ∈ args, fullArg m a) (hfit : fitCs m = true)
    (h : ∀ (G0 X : Nat → Prop) (w0 : World) (vals : List Value), vals.length = m.length → (∀ v ∈ vals, v.oneCell' = true) → aw ⟨P, G0, X, w0, nt, regs vals⟩ c (retXK ⟨P, G0, X, w0, nt, regs vals⟩ fn res m') (startX (args.map (litArg vals)) m)) : DoesX P f args m res m' :=
  DoesX.ofL hf hb (by omega) (by omega) hmm hfull hfit (fun E vals e1 e2 e3 e5 e4 => by
    obtain ⟨P', G0, X, w0, nt', pv⟩ := E
    simp only at e1 e2 e4
    subst e1
    rw [hnt] at e2
    subst e2
    subst e4
    exact aw_sound (h G0 X w0 vals e3 e5))
theorem len1 {α : Type} {l : List α} {x : AV} (h : l.length = [x].length) : ∃ a, l = [a] := by
  match l, h with
  | [a], _ => exact ⟨a, rfl⟩
theorem len2 {α : Type} {l : List α} {x y : AV} (h : l.length = [x, y].length) : ∃ a b, l = [a, b] := by
  match l, h with
  | [a, b], _ => exact ⟨a, b, rfl⟩

def retX2 (s : ASt) (res : List AV) (m' : List AV) : Option AV → Option AV → Prop
  | some v, some v' => (match closeVs s [v, v'] with
    | some (A, s') => A = res ∧ regsOk m' s'
    | none => False)
  | _, _ => False
/-! ### Decisions -/
section
variable {E : Env} {K : AX → ASt → Prop} {R A B : ASt → Prop} {s : ASt} {o : Oper} {c : Bool}
theorem CBC_dec {p : Prop} [Decidable p] (h1 : p → decide p = true → CBC (.lit (.bool (decide p))) A B s) (h2 : ¬ p → decide p = false → CBC (.lit (.bool (decide p))) A B s) : CBC (.lit (.bool (decide p))) A B s := by
  by_cases hp : p
  · exact h1 hp (decide_eq_true hp)
  · exact h2 hp (decide_eq_false hp)
theorem CBC_eq {α : Type} [BEq α] [LawfulBEq α] {x y : α} (h1 : x = y → (x == y) = true → CBC (.lit (.bool (x == y))) A B s) (h2 : ¬ x = y → (x == y) = false → CBC (.lit (.bool (x == y))) A B s) : CBC (.lit (.bool (x == y))) A B s := by
  cases hp : x == y
  · rw [hp] at h2; exact h2 (by simpa using hp) rfl
  · rw [hp] at h1; exact h1 (by simpa using hp) rfl
theorem CBC_ne {α : Type} [BEq α] [LawfulBEq α] {x y : α} (h1 : ¬ x = y → (x != y) = true → CBC (.lit (.bool (x != y))) A B s) (h2 : x = y → (x != y) = false → CBC (.lit (.bool (x != y))) A B s) : CBC (.lit (.bool (x != y))) A B s := by
  cases hp : x != y
  · rw [hp] at h2; exact h2 (by simpa using hp) rfl
  · rw [hp] at h1; exact h1 (by simpa using hp) rfl
theorem CBC_bool (h1 : c = true → CBC (.lit (.bool c)) A B s) (h2 : c = false → CBC (.lit (.bool c)) A B s) : CBC (.lit (.bool c)) A B s := by
  cases c
  · exact h2 rfl
  · exact h1 rfl
theorem GQ_dec {p : Prop} [Decidable p] {b : Bool} (h1 : p → decide p = true → GQ E (.lit (.bool (decide p))) b o R s) (h2 : ¬ p → decide p = false → GQ E (.lit (.bool (decide p))) b o R s) : GQ E (.lit (.bool (decide p))) b o R s := by
  by_cases hp : p
  · exact h1 hp (decide_eq_true hp)
  · exact h2 hp (decide_eq_false hp)
theorem GQ_eq {α : Type} [BEq α] [LawfulBEq α] {x y : α} {b : Bool} (h1 : x = y → (x == y) = true → GQ E (.lit (.bool (x == y))) b o R s) (h2 : ¬ x = y → (x == y) = false → GQ E (.lit (.bool (x == y))) b o R s) : GQ E (.lit (.bool (x == y))) b o R s := by
  cases hp : x == y
  · rw [hp] at h2; exact h2 (by simpa using hp) rfl
  · rw [hp] at h1; exact h1 (by simpa using hp) rfl
theorem GQ_ne {α : Type} [BEq α] [LawfulBEq α] {x y : α} {b : Bool} (h1 : ¬ x = y → (x != y) = true → GQ E (.lit (.bool (x != y))) b o R s) (h2 : x = y → (x != y) = false → GQ E (.lit (.bool (x != y))) b o R s) : GQ E (.lit (.bool (x != y))) b o R s := by
  cases hp : x != y
  · rw [hp] at h2; exact h2 (by simpa using hp) rfl
  · rw [hp] at h1; exact h1 (by simpa using hp) rfl
theorem GQ_bool {b : Bool} (h1 : c = true → GQ E (.lit (.bool c)) b o R s) (h2 : c = false → GQ E (.lit (.bool c)) b o R s) : GQ E (.lit (.bool c)) b o R s := by
  cases c
  · exact h2 rfl
  · exact h1 rfl
theorem GQ_nb {b : Bool} (h1 : c = true → GQ E (.lit (.bool !c)) b o R s) (h2 : c = false → GQ E (.lit (.bool !c)) b o R s) : GQ E (.lit (.bool !c)) b o R s := by
  cases c
  · exact h2 rfl
  · exact h1 rfl
theorem GQ_nd {p : Prop} [Decidable p] {b : Bool} (h1 : p → decide p = true → GQ E (.lit (.bool !(decide p))) b o R s) (h2 : ¬ p → decide p = false → GQ E (.lit (.bool !(decide p))) b o R s) : GQ E (.lit (.bool !(decide p))) b o R s := by
  by_cases hp : p
  · exact h1 hp (decide_eq_true hp)
  · exact h2 hp (decide_eq_false hp)
theorem GD_dec {R : Option AV → ASt → Prop} {p : Prop} [Decidable p] {b : Bool} (h1 : p → decide p = true → GD E (.lit (.bool (decide p))) b o R s) (h2 : ¬ p → decide p = false → GD E (.lit (.bool (decide p))) b o R s) : GD E (.lit (.bool (decide p))) b o R s := by
  by_cases hp : p
  · exact h1 hp (decide_eq_true hp)
  · exact h2 hp (decide_eq_false hp)
theorem GD_eq {R : Option AV → ASt → Prop} {α : Type} [BEq α] [LawfulBEq α] {x y : α} {b : Bool} (h1 : x = y → (x == y) = true → GD E (.lit (.bool (x == y))) b o R s) (h2 : ¬ x = y → (x == y) = false → GD E (.lit (.bool (x == y))) b o R s) : GD E (.lit (.bool (x == y))) b o R s := by
  cases hp : x == y
  · rw [hp] at h2; exact h2 (by simpa using hp) rfl
  · rw [hp] at h1; exact h1 (by simpa using hp) rfl
theorem GD_ne {R : Option AV → ASt → Prop} {α : Type} [BEq α] [LawfulBEq α] {x y : α} {b : Bool} (h1 : ¬ x = y → (x != y) = true → GD E (.lit (.bool (x != y))) b o R s) (h2 : x = y → (x != y) = false → GD E (.lit (.bool (x != y))) b o R s) : GD E (.lit (.bool (x != y))) b o R s := by
  cases hp : x != y
  · rw [hp] at h2; exact h2 (by simpa using hp) rfl
  · rw [hp] at h1; exact h1 (by simpa using hp) rfl
theorem GD_bool {R : Option AV → ASt → Prop} {b : Bool} (h1 : c = true → GD E (.lit (.bool c)) b o R s) (h2 : c = false → GD E (.lit (.bool c)) b o R s) : GD E (.lit (.bool c)) b o R s := by
  cases c
  · exact h2 rfl
  · exact h1 rfl
theorem GD_nb {R : Option AV → ASt → Prop} {b : Bool} (h1 : c = true → GD E (.lit (.bool !c)) b o R s) (h2 : c = false → GD E (.lit (.bool !c)) b o R s) : GD E (.lit (.bool !c)) b o R s := by
  cases c
  · exact h2 rfl
  · exact h1 rfl
theorem GD_nd {R : Option AV → ASt → Prop} {p : Prop} [Decidable p] {b : Bool} (h1 : p → decide p = true → GD E (.lit (.bool !(decide p))) b o R s) (h2 : ¬ p → decide p = false → GD E (.lit (.bool !(decide p))) b o R s) : GD E (.lit (.bool !(decide p))) b o R s := by
  by_cases hp : p
  · exact h1 hp (decide_eq_true hp)
  · exact h2 hp (decide_eq_false hp)
end
theorem ren_t {s : ASt} {r d i : Nat} {v : AV} : (s.ren r d v).t i = if i = d then v else (s.t i).mapRef (renF r d) := nrfl rfl
theorem ren_m {s : ASt} {r d q : Nat} {v : AV} : (s.ren r d v).m q = if q = d then s.m r else if q = r then none else s.m q := nrfl rfl
theorem retXK_rt {E : Env} {fn : Func} {res : AV} {m' : List AV} {s : ASt} : retXK E fn res m' .rt s = RetX E fn res m' s := nrfl rfl
theorem retXK_nm {E : Env} {fn : Func} {res : AV} {m' : List AV} {s : ASt} : retXK E fn res m' .nm s = RetX E fn res m' s := nrfl rfl
theorem startX_t {args m : List AV} {i : Nat} : (startX args m).t i = args.getD i .junk := by simp [startX, List.getD]
theorem startX_m {args m : List AV} {r : Nat} : (startX args m).m r = regs m r := nrfl rfl

/-! ### Calls, with all that is asked in one fact -/
def fnId : AV → Option FuncId
  | .fn f _ => some f
  | _ => none
def capsOf : AV → List AV
  | .fn _ cs => cs
  | _ => []
theorem fn_of {v : AV} {f : FuncId} (h : fnId v = some f) : v = .fn f (capsOf v) := by
  cases v <;> simp_all [fnId, capsOf]
section
variable {P : Program} {G0 X : Nat → Prop} {w0 : World} {nt : Nat} {pv : Nat → Option Value} {s : ASt} {R : ASt → Prop} {d : Nat} {t : TypeId} {pos : String} {after : Array Edge} {g : Option (Nat × Bool)} {fo : Operand} {xs : List Operand} {ts : Array TypeId} {f : FuncId} {args as m m' : List AV} {res : AV}
theorem cq_call (hd : Does P f as res) (hf : fnId (s.ev fo) = some f) (he : entB P f = true) (h : (xs.map s.ev ++ capsOf (s.ev fo) = as ∧ d < nt ∧ AV.noRefs as = true) ∧ R (s.set d res.share)) :
    opq ⟨P, G0, X, w0, nt, pv⟩ ⟨some d, .call { callee := .value fo, args := xs.toArray, argTypes := ts }, t, pos, after, g⟩ R s :=
  opq_call hd he (fn_of hf) h.1.1 h.1.2.1 h.1.2.2 rfl h.2
theorem cq_dcall {R : Option AV → ASt → Prop} (hd : Does P f as res) (hf : fnId (s.ev fo) = some f) (he : entB P f = true) (h : (xs.map s.ev ++ capsOf (s.ev fo) = as ∧ d < nt ∧ AV.noRefs as = true) ∧ R none (s.set d res.share)) :
    dop ⟨P, G0, X, w0, nt, pv⟩ ⟨some d, .call { callee := .value fo, args := xs.toArray, argTypes := ts }, t, pos, after, g⟩ R s :=
  dop_call hd he (fn_of hf) h.1.1 h.1.2.1 h.1.2.2 rfl h.2
/-- In a region whose order is drawn: the result stays the caller's own. -/
theorem cq_down {R : Option AV → ASt → Prop} (hd : Does P f as res) (hf : fnId (s.ev fo) = some f) (he : entB P f = true) (h : (xs.map s.ev ++ capsOf (s.ev fo) = as ∧ d < nt ∧ AV.noRefs as = true ∧ moV res = none) ∧ R (some res) (s.new d (openV d [] res) res)) :
    dop ⟨P, G0, X, w0, nt, pv⟩ ⟨some d, .call { callee := .value fo, args := xs.toArray, argTypes := ts }, t, pos, after, g⟩ R s :=
  ⟨d, _, some res, rfl, h.1.2.2.2, q_callOwn (E := ⟨P, G0, X, w0, nt, pv⟩) h.1.2.1 (fn_of hf) he h.1.1 h.1.2.2.1 hd, h.2⟩
theorem cq_own (hd : Does P f as res) (hf : fnId (s.ev fo) = some f) (he : entB P f = true) (h : (xs.map s.ev ++ capsOf (s.ev fo) = as ∧ d < nt ∧ AV.noRefs as = true) ∧ R (s.new d (openV d [] res) res)) :
    opq ⟨P, G0, X, w0, nt, pv⟩ ⟨some d, .call { callee := .value fo, args := xs.toArray, argTypes := ts }, t, pos, after, g⟩ R s :=
  opq_own hd he (fn_of hf) h.1.1 h.1.2.1 h.1.2.2 rfl h.2
theorem cq_lend (hd : Does P f as res) (hf : fnId (s.ev fo) = some f) (he : entB P f = true) (h : (lendQ as (borrowVs s (xs.map s.ev ++ capsOf (s.ev fo))) ∧ d < nt ∧ pureV res = true) ∧ R (s.set d res.share)) :
    opq ⟨P, G0, X, w0, nt, pv⟩ ⟨some d, .call { callee := .value fo, args := xs.toArray, argTypes := ts }, t, pos, after, g⟩ R s :=
  opq_lend hd he (fn_of hf) h.1.1 h.1.2.1 h.1.2.2 rfl h.2
theorem cq_lendOwn (hd : Does P f as res) (hf : fnId (s.ev fo) = some f) (he : entB P f = true) (h : (lendQ as (borrowVs s (xs.map s.ev ++ capsOf (s.ev fo))) ∧ d < nt ∧ pureV res = true) ∧ R (s.new d (openV d [] res) res)) :
    opq ⟨P, G0, X, w0, nt, pv⟩ ⟨some d, .call { callee := .value fo, args := xs.toArray, argTypes := ts }, t, pos, after, g⟩ R s :=
  opq_lendOwn hd he (fn_of hf) h.1.1 h.1.2.1 h.1.2.2 rfl h.2
theorem cq_X (pl : List (Nat × List Nat)) (hd : DoesX P f args m res m') (hf : fnId (s.ev fo) = some f) (he : entB P f = true) (hpl : (pl.map Prod.fst).Nodup)
    (h : (xs.map s.ev ++ capsOf (s.ev fo) = AV.mapRefs (renP pl) args ∧ lentOk s pl m ∧ d < nt ∧ hdsOk m m' = true) ∧ R ((s.swap (repP pl) (newA pl m')).new d (openV d [] res) res)) :
    opq ⟨P, G0, X, w0, nt, pv⟩ ⟨some d, .call { callee := .value fo, args := xs.toArray, argTypes := ts }, t, pos, after, g⟩ R s :=
  opq_callX pl hd he (fn_of hf) h.1.1 h.1.2.1 h.1.2.2.1 hpl h.1.2.2.2 rfl h.2
theorem cq_Xs (pl : List (Nat × List Nat)) (hd : DoesX P f args m res m') (hf : fnId (s.ev fo) = some f) (he : entB P f = true) (hpl : (pl.map Prod.fst).Nodup)
    (h : (xs.map s.ev ++ capsOf (s.ev fo) = AV.mapRefs (renP pl) args ∧ lentOk s pl m ∧ d < nt ∧ hdsOk m m' = true ∧ res.noRef = true) ∧ R ((s.swap (repP pl) (newA pl m')).set d res)) :
    opq ⟨P, G0, X, w0, nt, pv⟩ ⟨some d, .call { callee := .value fo, args := xs.toArray, argTypes := ts }, t, pos, after, g⟩ R s :=
  opq_callXs pl hd he (fn_of hf) h.1.1 h.1.2.1 h.1.2.2.1 hpl h.1.2.2.2.1 h.1.2.2.2.2 h.2
end

section
variable {E : Env} {R A B : ASt → Prop} {s : ASt} {o : Oper} {p : Prop} [Decidable p] {b : Bool}
theorem CBC_decT (hp : p) (h : decide p = true → CBC (.lit (.bool (decide p))) A B s) : CBC (.lit (.bool (decide p))) A B s := h (decide_eq_true hp)
theorem CBC_decF (hp : ¬ p) (h : decide p = false → CBC (.lit (.bool (decide p))) A B s) : CBC (.lit (.bool (decide p))) A B s := h (decide_eq_false hp)
theorem GQ_decT (hp : p) (h : decide p = true → GQ E (.lit (.bool (decide p))) b o R s) : GQ E (.lit (.bool (decide p))) b o R s := h (decide_eq_true hp)
theorem GQ_decF (hp : ¬ p) (h : decide p = false → GQ E (.lit (.bool (decide p))) b o R s) : GQ E (.lit (.bool (decide p))) b o R s := h (decide_eq_false hp)
theorem GQ_ndT (hp : p) (h : decide p = true → GQ E (.lit (.bool (!(decide p)))) b o R s) : GQ E (.lit (.bool (!(decide p)))) b o R s := h (decide_eq_true hp)
theorem GQ_ndF (hp : ¬ p) (h : decide p = false → GQ E (.lit (.bool (!(decide p)))) b o R s) : GQ E (.lit (.bool (!(decide p)))) b o R s := h (decide_eq_false hp)
theorem GD_decT {R : Option AV → ASt → Prop} (hp : p) (h : decide p = true → GD E (.lit (.bool (decide p))) b o R s) : GD E (.lit (.bool (decide p))) b o R s := h (decide_eq_true hp)
theorem GD_decF {R : Option AV → ASt → Prop} (hp : ¬ p) (h : decide p = false → GD E (.lit (.bool (decide p))) b o R s) : GD E (.lit (.bool (decide p))) b o R s := h (decide_eq_false hp)
theorem GD_ndT {R : Option AV → ASt → Prop} (hp : p) (h : decide p = true → GD E (.lit (.bool (!(decide p)))) b o R s) : GD E (.lit (.bool (!(decide p)))) b o R s := h (decide_eq_true hp)
theorem GD_ndF {R : Option AV → ASt → Prop} (hp : ¬ p) (h : decide p = false → GD E (.lit (.bool (!(decide p)))) b o R s) : GD E (.lit (.bool (!(decide p)))) b o R s := h (decide_eq_false hp)
end
end Go.Av
