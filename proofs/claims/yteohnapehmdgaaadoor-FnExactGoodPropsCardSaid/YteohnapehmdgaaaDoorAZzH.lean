/- A value taken out of a call's state; contracts of functions; calls. -/
import Derived.Test.YteohnapehmdgaaaDoorAZzG
set_option linter.unusedSimpArgs false
set_option linter.unusedVariables false
/-! A value taken out of a call's state; contracts of functions; calls. -/
namespace Go.Av

/-- What names no place of the call's own stands by itself. -/
theorem VR.tree {w : World} {G : Nat → Prop} {m : Nat → Option HT} {v : AV} {u : Value} (h : VR w G m v u) (hr : v.noRef = true) : ∃ T : HT, T.value = u ∧ T.erase = v ∧ T.blocks = [] ∧ Sat w G T := by
  have list : ∀ (m : Nat → Option HT) (cs : List AV) (us : List Value), us.length = cs.length → (∀ (i : Nat) (a : AV) (u : Value), cs[i]? = some a → us[i]? = some u → ∃ T : HT, T.value = u ∧ T.erase = a ∧ T.blocks = [] ∧ Sat w G T) →
      ∃ Ts : List HT, HT.values Ts = us ∧ HT.erases Ts = cs ∧ HT.blockss Ts = [] ∧ ∀ (i : Nat) (T : HT), Ts[i]? = some T → Sat w G T := by
    intro m cs
    induction cs with
    | nil => intro us hl _; have : us = [] := by simpa using hl
             subst this; exact ⟨[], by simp [HT.values], by simp [HT.erases], by simp [HT.blockss], by simp⟩
    | cons c r ih =>
      intro us hl hh
      cases us with
      | nil => simp at hl
      | cons u us =>
        obtain ⟨T, h1, h2, h3, h4⟩ := hh 0 c u rfl rfl
        obtain ⟨Ts, e1, e2, e3, e4⟩ := ih us (by simpa using hl) (fun i a v ha hv => hh (i + 1) a v (by simpa using ha) (by simpa using hv))
        refine ⟨T :: Ts, by simp [HT.values, h1, e1], by simp [HT.erases, h2, e2], by simp [HT.blockss, h3, e3], fun i T' hT' => ?_⟩
        cases i with
        | zero => simp at hT'; exact hT' ▸ h4
        | succ i => exact e4 i T' (by simpa using hT')
  induction h with
  | lit v => exact ⟨.leaf (.lit v) v, rfl, rfl, rfl, .leaf _ _ rfl (.lit v)⟩
  | junk v => exact ⟨.leaf .junk v, rfl, rfl, rfl, .leaf _ _ rfl (.junk v)⟩
  | row0 sz A c => exact ⟨.leaf _ _, rfl, rfl, rfl, .leaf _ _ rfl (.row0 sz A c)⟩
  | row sz n c b off cs us C e fr h1 h2 h3 h4 h5 h6 h7 h8 _ => exact ⟨.leaf _ _, rfl, rfl, rfl, .leaf _ _ rfl (.row sz n c b off cs us C e fr h1 h2 h3 h4 h5 h6 h7 h8)⟩
  | box b off cs us C e fr h1 h2 h6 h7 h8 _ => exact ⟨.leaf _ _, rfl, rfl, rfl, .leaf _ _ rfl (.box b off cs us C e fr h1 h2 h6 h7 h8)⟩
  | @agg m cs us hl _ ih =>
    obtain ⟨Ts, e1, e2, e3, e4⟩ := list m cs us hl (fun i a u x y => ih i a u x y (AV.noRefs_mem.1 (by simpa [AV.noRef] using hr) a (List.mem_of_getElem? x)))
    exact ⟨.agg Ts, by simp [HT.value, e1], by simp [HT.erase, e2], by simp [HT.blocks, e3], .agg Ts e4⟩
  | @tup m cs us hl _ ih =>
    obtain ⟨Ts, e1, e2, e3, e4⟩ := list m cs us hl (fun i a u x y => ih i a u x y (AV.noRefs_mem.1 (by simpa [AV.noRef] using hr) a (List.mem_of_getElem? x)))
    exact ⟨.tup Ts, by simp [HT.value, e1], by simp [HT.erase, e2], by simp [HT.blocks, e3], .tup Ts e4⟩
  | fn f cs us hl h ih =>
    have hr' : AV.noRefs cs = true := by simpa [AV.noRef] using hr
    exact ⟨.leaf _ _, rfl, rfl, rfl, .leaf _ _ (by simpa [AV.leafOk] using hr') (.fn f cs us hl (fun i a u x y => (h i a u x y).free (AV.noRefs_mem.1 hr' a (List.mem_of_getElem? x))))⟩
  | sl => simp [AV.noRef] at hr
  | ptr => simp [AV.noRef] at hr

/-- A value is taken out of the state, with all that belongs to it. -/
def CloseJ (E : Env) (s : ASt) (v A : AV) (s' : ASt) : Prop :=
  ∀ M G a w, RelX E M G s a w → ∀ u, VR w G M v u → ∃ M' T, RelX E M' G s' a w ∧ HT.value T = u ∧ HT.erase T = A ∧ Sat w G T ∧ T.blocks.Nodup ∧
    (∀ x ∈ T.blocks, (∃ q0 T0, M q0 = some T0 ∧ x ∈ T0.blocks) ∧ (∀ q T', M' q = some T' → x ∉ T'.blocks) ∧ x < w.heap.size ∧ ¬ G x ∧ (E.w0.heap.size ≤ x ∨ E.X x)) ∧ (∀ v u, VR w G M v u → VR w G M' v u) ∧
    (∀ q T', M' q = some T' → ∀ x ∈ T'.blocks, ∃ q0 T0, M q0 = some T0 ∧ x ∈ T0.blocks)
def CloseLJ (E : Env) (s : ASt) (vs As : List AV) (s' : ASt) : Prop :=
  ∀ M G a w, RelX E M G s a w → ∀ us : List Value, us.length = vs.length → (∀ (i : Nat) (v : AV) (u : Value), vs[i]? = some v → us[i]? = some u → VR w G M v u) → ∃ M' Ts, RelX E M' G s' a w ∧ HT.values Ts = us ∧ HT.erases Ts = As ∧
    (∀ (i : Nat) (T : HT), Ts[i]? = some T → Sat w G T) ∧ (HT.blockss Ts).Nodup ∧
    (∀ x ∈ HT.blockss Ts, (∃ q0 T0, M q0 = some T0 ∧ x ∈ T0.blocks) ∧ (∀ q T', M' q = some T' → x ∉ T'.blocks) ∧ x < w.heap.size ∧ ¬ G x ∧ (E.w0.heap.size ≤ x ∨ E.X x)) ∧ (∀ v u, VR w G M v u → VR w G M' v u) ∧
    (∀ q T', M' q = some T' → ∀ x ∈ T'.blocks, ∃ q0 T0, M q0 = some T0 ∧ x ∈ T0.blocks)

theorem close_free {E : Env} {s : ASt} {v : AV} (h : v.noRef = true) : CloseJ E s v v s := fun M G a w hX u hv => by
  obtain ⟨T, h1, h2, h3, h4⟩ := hv.tree h
  exact ⟨M, T, hX, h1, h2, h4, by simp [h3], by simp [h3], fun _ _ h => h, fun q T' hq x hx => ⟨q, T', hq, hx⟩⟩

theorem close_nil {E : Env} {s : ASt} : CloseLJ E s [] [] s := fun M G a w hX us hl hv => by
  have : us = [] := by simpa using hl
  subst this
  exact ⟨M, [], hX, by simp [HT.values], by simp [HT.erases], by simp, by simp [HT.blockss], by simp [HT.blockss], fun _ _ h => h, fun q T' hq x hx => ⟨q, T', hq, hx⟩⟩
theorem close_cons {E : Env} {s s' s'' : ASt} {v A : AV} {vs As : List AV} (h : CloseJ E s v A s') (hs : CloseLJ E s' vs As s'') : CloseLJ E s (v :: vs) (A :: As) s'' := fun M G a w hX us hl hv => by
  cases us with
  | nil => simp at hl
  | cons u us =>
    obtain ⟨M1, T, hX1, e1, e2, e3, e4, e5, e6, e7⟩ := h M G a w hX u (hv 0 v u rfl rfl)
    obtain ⟨M2, Ts, hX2, f1, f2, f3, f4, f5, f6, f7⟩ := hs M1 G a w hX1 us (by simpa using hl) (fun i v' u' h1 h2 => e6 _ _ (hv (i + 1) v' u' (by simpa using h1) (by simpa using h2)))
    refine ⟨M2, T :: Ts, hX2, by simp [HT.values, e1, f1], by simp [HT.erases, e2, f2], fun i T' hT' => ?_, ?_, fun x hx => ?_, fun v u h => f6 _ _ (e6 _ _ h), fun q T' hq x hx => ?_⟩
    · cases i with
      | zero => simp at hT'; exact hT' ▸ e3
      | succ i => exact f3 i T' (by simpa using hT')
    · simp only [HT.blockss, List.nodup_append]
      refine ⟨e4, f4, fun x hx y hy hxy => ?_⟩
      subst hxy
      -- what the rest took lay in a region of M1
      obtain ⟨q0, T0, h1, h2⟩ := (f5 x hy).1
      exact (e5 x hx).2.1 q0 T0 h1 h2
    · simp only [HT.blockss, List.mem_append] at hx
      rcases hx with hx | hx
      · refine ⟨(e5 x hx).1, fun q T' hq hx' => ?_, (e5 x hx).2.2⟩
        obtain ⟨q0, T0, h1, h2⟩ := f7 q T' hq x hx'
        exact (e5 x hx).2.1 q0 T0 h1 h2
      · obtain ⟨⟨q0, T0, h1, h2⟩, h3⟩ := f5 x hx
        exact ⟨e7 q0 T0 h1 x h2, h3⟩
    · obtain ⟨q1, T1, h1, h2⟩ := f7 q T' hq x hx
      exact e7 q1 T1 h1 x h2


theorem take_some {α : Type} {l : List α} {n i : Nat} {a : α} (h : (l.take n)[i]? = some a) : l[i]? = some a := by
  rw [List.getElem?_take] at h
  split at h
  · exact h
  · cases h
/-- A row of the call's own, whole or its beginning. -/
theorem close_sl {E : Env} {s : ASt} {r : Nat} {p : List Nat} {len : Nat} {A : AV} {sz n : Nat} {cs : List AV} (hm : s.m r = some A) (hp : A.at_ p = some (.row true sz n cs)) (hl : len ≤ n) :
    CloseJ E s (.sl r p 0 len) (.row true sz len (cs.take (len * sz))) (s.updM r p .junk) := fun M G a w hX u hv => by
  have hr := hX.er r
  rw [hm] at hr
  cases hMr : M r with
  | none => rw [hMr] at hr; cases hr
  | some T =>
    rw [hMr, Option.map_some, Option.some.injEq] at hr
    subst hr
    have hsT := hX.sat r T hMr
    obtain ⟨N, hN, heN⟩ := erase_at p hsT hp
    obtain ⟨h1, h2, h3, h4⟩ := hX.take hMr hN
    have hmono : ∀ v u, VR w G M v u → VR w G (updF M r (some (T.upd p (.leaf .junk N.value)))) v u := fun v u h => h.heads (fun q p' T' M' hT' hM' hm' => by
      simp only [updF] at hT'
      split at hT'
      · rename_i e; subst e; cases hT'
        obtain ⟨M1, g1, g2⟩ := Heads.upd p hN (Heads.leaf (fun _ => False) N .junk N.value) p' M' (by simp) hM' hm'
        exact ⟨T, M1, hMr, g1, g2⟩
      · exact ⟨T', M', hT', hM', rfl⟩)
    have hback : ∀ q T', updF M r (some (T.upd p (.leaf .junk N.value))) q = some T' → ∀ x ∈ T'.blocks, ∃ q0 T0, M q0 = some T0 ∧ x ∈ T0.blocks := fun q T' hq x hx => by
      simp only [updF] at hq
      split at hq
      · cases hq
        rcases mem_blocks_upd p hN (hX.nd r T hMr) x hx with g | ⟨g, _⟩
        · simp [HT.blocks] at g
        · exact ⟨r, T, hMr, g⟩
      · exact ⟨q, T', hq, hx⟩
    cases N with
    | row b sz' n' cap cs' =>
      simp only [HT.erase, AV.row.injEq, true_and, HT.erases_eq] at heN
      obtain ⟨rfl, rfl, rfl⟩ := heN
      cases hv with
      | sl _ _ _ _ _ h h0 =>
        obtain ⟨Ad, c, rfl, hlc, hcap, hA, hA0⟩ := h T hMr b sz' n' cap cs' hN (by omega)
        obtain ⟨rfl, rfl⟩ := hA0 rfl
        cases h2 with
        | row _ _ _ _ _ C e g1 g2 g3 g4 g5 g6 g7 g8 =>
          have hlen : len * sz' ≤ cs'.length := by rw [g2]; exact Nat.mul_le_mul_right _ hl
          have hsub : ∀ x ∈ HT.blockss (cs'.take (len * sz')), x ∈ HT.blockss cs' := fun x hx => by
            rw [HT.blockss_eq, List.mem_flatMap] at hx ⊢
            obtain ⟨y, hy, hxy⟩ := hx
            exact ⟨y, List.mem_of_mem_take hy, hxy⟩
          have hnd : (HT.blockss (cs'.take (len * sz'))).Nodup := by
            have hnd' : (HT.blockss cs').Nodup := (List.nodup_cons.1 (by simpa only [HT.blocks] using h3)).2
            rw [HT.blockss_eq] at hnd' ⊢
            rw [← List.take_append_drop (len * sz') cs', List.flatMap_append] at hnd'
            exact (List.nodup_append.1 hnd').1
          refine ⟨_, .row b sz' len c (cs'.take (len * sz')), h1, rfl, ?_, ?_, ?_, fun x hx => ?_, hmono, hback⟩
          · simp only [HT.erase, HT.erases_eq, List.map_take]
          · refine .row b sz' len c _ C e g1 ?_ (by omega) g4 g5 g6 (fun i T' hT' => ?_) (fun i T' hT' => ?_)
            · rw [List.length_take]; omega
            · exact g7 i T' (take_some hT')
            · exact g8 i T' (take_some hT')
          · simp only [HT.blocks, List.nodup_cons]
            refine ⟨fun hx => ?_, hnd⟩
            have := (List.nodup_cons.1 (by simpa only [HT.blocks] using h3)).1
            exact this (hsub _ hx)
          · have hx' : x ∈ (HT.row b sz' n' c cs').blocks := by
              simp only [HT.blocks, List.mem_cons] at hx ⊢
              exact hx.imp id (hsub x)
            exact ⟨⟨r, T, hMr, at_blocks p hN x hx'⟩, h4 x hx'⟩
    | nilrow sz' =>
      simp only [HT.erase, AV.row.injEq, true_and] at heN
      obtain ⟨rfl, rfl, rfl⟩ := heN
      cases hv with
      | sl _ _ _ _ _ h h0 =>
        have hl0 : len = 0 := by omega
        subst hl0
        obtain rfl := h0 T hMr sz' hN (by omega)
        exact ⟨_, .nilrow sz', h1, rfl, by simp [HT.erase], .nilrow sz', by simp [HT.blocks], by simp [HT.blocks], hmono, hback⟩
    | leaf a' v' =>
      simp only [HT.erase] at heN
      subst heN
      cases h2 with
      | leaf _ _ ha _ => simp [AV.leafOk] at ha
    | box => simp [HT.erase] at heN
    | agg => simp [HT.erase] at heN
    | tup => simp [HT.erase] at heN

theorem close_agg {E : Env} {s s' : ASt} {vs As : List AV} (h : CloseLJ E s vs As s') : CloseJ E s (.agg vs) (.agg As) s' := fun M G a w hX u hv => by
  cases hv with
  | agg _ us hl hv =>
    obtain ⟨M', Ts, h1, h2, h3, h4, h5, h6, h7, h8⟩ := h M G a w hX us hl hv
    exact ⟨M', .agg Ts, h1, by simp [HT.value, h2], by simp [HT.erase, h3], .agg Ts h4, by simpa [HT.blocks] using h5, by simpa [HT.blocks] using h6, h7, h8⟩
theorem close_tup {E : Env} {s s' : ASt} {vs As : List AV} (h : CloseLJ E s vs As s') : CloseJ E s (.tup vs) (.tup As) s' := fun M G a w hX u hv => by
  cases hv with
  | tup _ us hl hv =>
    obtain ⟨M', Ts, h1, h2, h3, h4, h5, h6, h7, h8⟩ := h M G a w hX us hl hv
    exact ⟨M', .tup Ts, h1, by simp [HT.value, h2], by simp [HT.erase, h3], .tup Ts h4, by simpa [HT.blocks] using h5, by simpa [HT.blocks] using h6, h7, h8⟩


/-! ### Contracts -/
/-- Called with these, the function comes back with that; it turns nothing that was there. -/
def Does (P : Program) (f : FuncId) (args : List AV) (res : AV) : Prop :=
  ∀ (w : World) (G : Nat → Prop) (vs : List Value), (∀ x, G x → x < w.heap.size) → vs.length = args.length →
    (∀ (i : Nat) (a : AV) (v : Value), args[i]? = some a → vs[i]? = some v → VR w G none_ a v) →
    Calls P f vs.toArray w fun e w' => ∃ T : HT, e = .returned T.value ∧ T.erase = res ∧ Ext (fun _ => False) w w' ∧ T.blocks.Nodup ∧ (∀ x ∈ T.blocks, w.heap.size ≤ x ∧ x < w'.heap.size) ∧
      ∃ G' : Nat → Prop, (∀ x, G x → G' x) ∧ (∀ x, G' x → G x ∨ (w.heap.size ≤ x ∧ x < w'.heap.size)) ∧ (∀ x ∈ T.blocks, ¬ G' x) ∧ Sat w' G' T

/-- What stands in the result slots, taken out. -/
def RetJ (E : Env) (fn : Func) (res : AV) (s : ASt) : Prop :=
  ∀ M G a w, RelX E M G s a w → ∃ T : HT, (results fn a.tmps).run E.P w = .ok T.value w ∧ T.erase = res ∧ Sat w G T ∧ T.blocks.Nodup ∧
    (∀ x ∈ T.blocks, x < w.heap.size ∧ ¬ G x ∧ (E.w0.heap.size ≤ x ∨ E.X x))

def startT (args : List AV) : ASt := ⟨fun i => (args[i]?).getD .junk, fun _ => none⟩
def retK (E : Env) (fn : Func) (res : AV) : AX → ASt → Prop
  | .nm, s => RetJ E fn res s
  | .rt, s => RetJ E fn res s
  | _, _ => False

theorem Does.of {P : Program} {f : FuncId} {fn : Func} {c : Code} {args : List AV} {res : AV} (hf : P.funcs[f]? = some fn) (hb : fn.body = some c) (hn : args.length ≤ fn.ntmps) (hn1 : fn.ntmps ≤ 1000) (hfree : ∀ a ∈ args, a.noRef = true)
    (h : ∀ E : Env, E.P = P → E.nt = fn.ntmps → AWP E c (retK E fn res) (startT args)) : Does P f args res := by
  intro w G vs hG hl hv
  refine calls_of_wp hf hb ?_
  let E : Env := ⟨P, G, fun _ => False, w, fn.ntmps, fun _ => none⟩
  have hsize : (vs.toArray ++ Array.replicate (fn.ntmps - vs.toArray.size) undef).size = fn.ntmps := by simp; omega
  have hX : RelX E none_ G (startT args) { tmps := vs.toArray ++ Array.replicate (fn.ntmps - vs.toArray.size) undef, defers := [] } w := by
    refine ⟨fun r => rfl, fun r T hT => (by cases hT), fun r T hT => (by cases hT), fun r r' T T' _ hT => (by cases hT), fun r T hT => (by cases hT), fun x hx => ⟨hG x hx, .inl hx⟩, fun x hx => hx, fun i => ?_, Ext.refl _ _, rfl, hsize, hn1, fun r v hv => (by cases hv)⟩
    simp only [startT]
    cases ha : args[i]? with
    | none => exact .junk _
    | some a =>
      have hi : i < vs.length := by rw [hl]; exact (List.getElem?_eq_some_iff.1 ha).1
      have : (vs.toArray ++ Array.replicate (fn.ntmps - vs.toArray.size) undef).getD i undef = vs[i] := by
        rw [Array.getD_eq_getD_getElem?, Array.getElem?_append_left (by simpa using hi)]
        simp [hi]
      rw [this]
      simp only [Option.getD_some]
      exact hv i a _ ha (List.getElem?_eq_getElem hi)
  have hret : ∀ s a w', Rel E s a w' → RetJ E fn res s → a.defers = [] ∧ ∃ v, (results fn a.tmps).run P w' = .ok v w' ∧ ∃ T : HT, Ending.returned v = .returned T.value ∧ T.erase = res ∧ Ext (fun _ => False) w w' ∧ T.blocks.Nodup ∧ (∀ x ∈ T.blocks, w.heap.size ≤ x ∧ x < w'.heap.size) ∧
      ∃ G' : Nat → Prop, (∀ x, G x → G' x) ∧ (∀ x, G' x → G x ∨ (w.heap.size ≤ x ∧ x < w'.heap.size)) ∧ (∀ x ∈ T.blocks, ¬ G' x) ∧ Sat w' G' T := by
    rintro s a w' ⟨M', G', hX'⟩ hr
    obtain ⟨T, h1, h2, h3, h4, h5⟩ := hr M' G' a w' hX'
    exact ⟨hX'.df, T.value, h1, T, rfl, h2, hX'.ext, h4, fun x hx => ⟨(h5 x hx).2.2.resolve_right (fun h => h), (h5 x hx).1⟩, G', hX'.g0, fun x hx => (hX'.gd x hx).2.imp id (fun h => ⟨h, (hX'.gd x hx).1⟩), fun x hx => (h5 x hx).2.1, h3⟩
  refine wp_mono (h E rfl rfl _ w ⟨_, _, hX⟩) (fun e a w' hp => ?_)
  cases e with
  | normal => obtain ⟨s, h1, h2⟩ := hp; exact hret s a w' h1 h2
  | ret => obtain ⟨s, h1, h2⟩ := hp; exact hret s a w' h1 h2
  | exit i => obtain ⟨s, h1, h2⟩ := hp; exact h2.elim
  | goto l => exact hp.elim
  | panic ch => exact hp.elim
  | outgrown => exact hp.elim

end Go.Av
