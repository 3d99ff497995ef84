/- Calls. -/
import Derived.Test.YteohnapehmdgaaaDoorAZzH
set_option linter.unusedSimpArgs false
set_option linter.unusedVariables false
/-! Calls. -/
namespace Go.Av

mutual
/-- What nobody will write any more. -/
def AV.share : AV → AV
  | .row _ sz n cs => .row false sz n (AV.shares cs)
  | .box _ cs => .box false (AV.shares cs)
  | .agg cs => .agg (AV.shares cs)
  | .tup cs => .tup (AV.shares cs)
  | .fn f cs => .fn f cs
  | .lit v => .lit v
  | .junk => .junk
  | .sl r p o l => .sl r p o l
  | .ptr r p o => .ptr r p o
def AV.shares : List AV → List AV
  | [] => []
  | c :: r => AV.share c :: AV.shares r
end
theorem AV.shares_eq (cs : List AV) : AV.shares cs = cs.map AV.share := by
  induction cs with
  | nil => simp [AV.shares]
  | cons c r ih => simp [AV.shares, ih]

/-- A leaf holds what is shared to the bottom. -/
theorem VR.shared {w : World} {G : Nat → Prop} {m : Nat → Option HT} {v : AV} {u : Value} (h : VR w G m v u) (hr : v.noRef = true) : VR w G m v.share u ∧ v.share.noRef = true := by
  induction h with
  | lit v => exact ⟨by simp only [AV.share]; exact .lit v, rfl⟩
  | junk v => exact ⟨by simp only [AV.share]; exact .junk v, rfl⟩
  | row0 sz A c => exact ⟨by simp only [AV.share, AV.shares]; exact .row0 sz A c, by simp [AV.share, AV.noRef]⟩
  | row sz n c b off cs us C e fr h1 h2 h3 h4 h5 h6 h7 h8 ih =>
    refine ⟨?_, by simp [AV.share, AV.noRef]⟩
    simp only [AV.share, AV.shares_eq]
    refine .row sz n c b off _ us C e fr h1 h2 (by simpa using h3) h4 h5 (by simpa using h6) (fun a ha => ?_) (fun i a ha => ?_)
    · rw [List.mem_map] at ha
      obtain ⟨y, hy, rfl⟩ := ha
      obtain ⟨i, hi⟩ := List.getElem?_of_mem hy
      exact (ih i y hi (h7 y hy)).2
    · rw [List.getElem?_map] at ha
      cases hc : cs[i]? with
      | none => simp [hc] at ha
      | some y => simp only [hc, Option.map_some, Option.some.injEq] at ha; subst ha; exact (ih i y hc (h7 y (List.mem_of_getElem? hc))).1
  | box b off cs us C e fr h1 h2 h6 h7 h8 ih =>
    refine ⟨?_, by simp [AV.share, AV.noRef]⟩
    simp only [AV.share, AV.shares_eq]
    refine .box b off _ us C e fr h1 h2 (by simpa using h6) (fun a ha => ?_) (fun i a ha => ?_)
    · rw [List.mem_map] at ha
      obtain ⟨y, hy, rfl⟩ := ha
      obtain ⟨i, hi⟩ := List.getElem?_of_mem hy
      exact (ih i y hi (h7 y hy)).2
    · rw [List.getElem?_map] at ha
      cases hc : cs[i]? with
      | none => simp [hc] at ha
      | some y => simp only [hc, Option.map_some, Option.some.injEq] at ha; subst ha; exact (ih i y hc (h7 y (List.mem_of_getElem? hc))).1
  | agg cs us hl _ ih =>
    have hr' : AV.noRefs cs = true := by simpa [AV.noRef] using hr
    have hm := AV.noRefs_mem.1 hr'
    simp only [AV.share, AV.shares_eq]
    refine ⟨.agg _ us (by simpa using hl) (fun i a u x y => ?_), ?_⟩
    · rw [List.getElem?_map] at x
      cases hc : cs[i]? with
      | none => simp [hc] at x
      | some z => simp only [hc, Option.map_some, Option.some.injEq] at x; subst x; exact (ih i z u hc y (hm z (List.mem_of_getElem? hc))).1
    · simp only [AV.noRef]
      refine AV.noRefs_mem.2 (fun a ha => ?_)
      rw [List.mem_map] at ha
      obtain ⟨y, hy, rfl⟩ := ha
      obtain ⟨i, hi⟩ := List.getElem?_of_mem hy
      have hiu : i < us.length := by have := (List.getElem?_eq_some_iff.1 hi).1; omega
      exact (ih i y us[i] hi (List.getElem?_eq_getElem hiu) (hm y hy)).2
  | tup cs us hl _ ih =>
    have hr' : AV.noRefs cs = true := by simpa [AV.noRef] using hr
    have hm := AV.noRefs_mem.1 hr'
    simp only [AV.share, AV.shares_eq]
    refine ⟨.tup _ us (by simpa using hl) (fun i a u x y => ?_), ?_⟩
    · rw [List.getElem?_map] at x
      cases hc : cs[i]? with
      | none => simp [hc] at x
      | some z => simp only [hc, Option.map_some, Option.some.injEq] at x; subst x; exact (ih i z u hc y (hm z (List.mem_of_getElem? hc))).1
    · simp only [AV.noRef]
      refine AV.noRefs_mem.2 (fun a ha => ?_)
      rw [List.mem_map] at ha
      obtain ⟨y, hy, rfl⟩ := ha
      obtain ⟨i, hi⟩ := List.getElem?_of_mem hy
      have hiu : i < us.length := by have := (List.getElem?_eq_some_iff.1 hi).1; omega
      exact (ih i y us[i] hi (List.getElem?_eq_getElem hiu) (hm y hy)).2
  | fn f cs us hl h ih => exact ⟨by simp only [AV.share]; exact .fn f cs us hl h, by simpa [AV.share] using hr⟩
  | sl => simp [AV.noRef] at hr
  | ptr => simp [AV.noRef] at hr

theorem leafOk_noRef {a : AV} (h : a.leafOk = true) : a.noRef = true := by
  cases a with
  | row o sz n cs => cases o <;> simp_all [AV.leafOk, AV.noRef]
  | box o cs => cases o <;> simp_all [AV.leafOk, AV.noRef]
  | fn f cs => simpa [AV.leafOk, AV.noRef] using h
  | _ => simp_all [AV.leafOk, AV.noRef]

/-- All that belongs to a tree is given up for good: it then reads as what nobody writes. -/
theorem Sat.share {w : World} {G G' : Nat → Prop} {T : HT} (h : Sat w G T) (hG : ∀ x, G x → G' x) (hb : ∀ x ∈ T.blocks, G' x) (m : Nat → Option HT) : VR w G' m T.erase.share T.value ∧ T.erase.share.noRef = true := by
  induction h generalizing m with
  | leaf a v ha h =>
    have hr := leafOk_noRef ha
    exact (((h.congr (fun _ _ => rfl) hG).free hr).shared hr)
  | row b sz n cap cs C e h1 h2 h3 h4 h5 h6 h7 h8 ih =>
    simp only [HT.blocks, HT.blockss_eq, List.mem_cons, List.mem_flatMap] at hb
    refine ⟨?_, by simp [HT.erase, AV.share, AV.noRef]⟩
    simp only [HT.erase, HT.erases_eq, AV.share, AV.shares_eq, HT.value]
    refine .row sz n cap b 0 _ (fun i => C.getD i undef) C e (0, 0) (hb b (.inl rfl)) h1 (by simpa using h2) h3 (by omega) (fun i hi => ?_) (fun a ha => ?_) (fun i a ha => ?_)
    · have hi' : i < cs.length := by simpa using hi
      have := h7 i cs[i] (List.getElem?_eq_getElem hi')
      simp [this]
    · rw [List.mem_map] at ha
      obtain ⟨y, hy, rfl⟩ := ha
      rw [List.mem_map] at hy
      obtain ⟨z, hz, rfl⟩ := hy
      obtain ⟨i, hi⟩ := List.getElem?_of_mem hz
      exact (ih i z hi (fun x hx => hb x (.inr ⟨z, hz, hx⟩)) m).2
    · rw [List.getElem?_map, List.getElem?_map] at ha
      cases hc : cs[i]? with
      | none => simp [hc] at ha
      | some z =>
        simp only [hc, Option.map_some, Option.some.injEq] at ha; subst ha
        have := h7 i z hc
        simp only [Array.getD_eq_getD_getElem?, this, Option.getD_some]
        exact (ih i z hc (fun x hx => hb x (.inr ⟨z, List.mem_of_getElem? hc, hx⟩)) _).1
  | nilrow sz => exact ⟨by simp only [HT.erase, AV.share, AV.shares, HT.value]; exact .row0 sz none 0, by simp [HT.erase, AV.share, AV.noRef]⟩
  | box b cs C e h1 h2 h7 h8 ih =>
    simp only [HT.blocks, HT.blockss_eq, List.mem_cons, List.mem_flatMap] at hb
    refine ⟨?_, by simp [HT.erase, AV.share, AV.noRef]⟩
    simp only [HT.erase, HT.erases_eq, AV.share, AV.shares_eq, HT.value]
    refine .box b 0 _ (fun i => C.getD i undef) C e (0, 0) (hb b (.inl rfl)) h1 (fun i hi => ?_) (fun a ha => ?_) (fun i a ha => ?_)
    · have hi' : i < cs.length := by simpa using hi
      have := h7 i cs[i] (List.getElem?_eq_getElem hi')
      simp [this]
    · rw [List.mem_map] at ha
      obtain ⟨y, hy, rfl⟩ := ha
      rw [List.mem_map] at hy
      obtain ⟨z, hz, rfl⟩ := hy
      obtain ⟨i, hi⟩ := List.getElem?_of_mem hz
      exact (ih i z hi (fun x hx => hb x (.inr ⟨z, hz, hx⟩)) m).2
    · rw [List.getElem?_map, List.getElem?_map] at ha
      cases hc : cs[i]? with
      | none => simp [hc] at ha
      | some z =>
        simp only [hc, Option.map_some, Option.some.injEq] at ha; subst ha
        have := h7 i z hc
        simp only [Array.getD_eq_getD_getElem?, this, Option.getD_some]
        exact (ih i z hc (fun x hx => hb x (.inr ⟨z, List.mem_of_getElem? hc, hx⟩)) _).1
  | agg cs h8 ih =>
    simp only [HT.blocks, HT.blockss_eq, List.mem_flatMap] at hb
    simp only [HT.erase, HT.erases_eq, AV.share, AV.shares_eq, HT.value, HT.values_eq, AV.noRef]
    refine ⟨.agg _ _ (by simp) (fun i a u x y => ?_), AV.noRefs_mem.2 (fun a ha => ?_)⟩
    · rw [List.getElem?_map, List.getElem?_map] at x
      rw [List.getElem?_map] at y
      cases hc : cs[i]? with
      | none => simp [hc] at x
      | some z =>
        simp only [hc, Option.map_some, Option.some.injEq] at x y; subst x; subst y
        exact (ih i z hc (fun x hx => hb x ⟨z, List.mem_of_getElem? hc, hx⟩) m).1
    · rw [List.mem_map] at ha
      obtain ⟨y, hy, rfl⟩ := ha
      rw [List.mem_map] at hy
      obtain ⟨z, hz, rfl⟩ := hy
      obtain ⟨i, hi⟩ := List.getElem?_of_mem hz
      exact (ih i z hi (fun x hx => hb x ⟨z, hz, hx⟩) m).2
  | tup cs h8 ih =>
    simp only [HT.blocks, HT.blockss_eq, List.mem_flatMap] at hb
    simp only [HT.erase, HT.erases_eq, AV.share, AV.shares_eq, HT.value, HT.values_eq, AV.noRef]
    refine ⟨.tup _ _ (by simp) (fun i a u x y => ?_), AV.noRefs_mem.2 (fun a ha => ?_)⟩
    · rw [List.getElem?_map, List.getElem?_map] at x
      rw [List.getElem?_map] at y
      cases hc : cs[i]? with
      | none => simp [hc] at x
      | some z =>
        simp only [hc, Option.map_some, Option.some.injEq] at x y; subst x; subst y
        exact (ih i z hc (fun x hx => hb x ⟨z, List.mem_of_getElem? hc, hx⟩) m).1
    · rw [List.mem_map] at ha
      obtain ⟨y, hy, rfl⟩ := ha
      rw [List.mem_map] at hy
      obtain ⟨z, hz, rfl⟩ := hy
      obtain ⟨i, hi⟩ := List.getElem?_of_mem hz
      exact (ih i z hi (fun x hx => hb x ⟨z, hz, hx⟩) m).2

/-- A value comes into a slot; the world has grown, and some of what is new is for all. -/
theorem RelX.setG {E : Env} {M : Nat → Option HT} {G G' : Nat → Prop} {s : ASt} {a : Act} {w w' : World} (h : RelX E M G s a w) {d : Nat} (hd : d < E.nt) {v : AV} {u : Value}
    (hw : Ext (fun _ => False) w w') (hGG : ∀ x, G x → G' x) (hG' : ∀ x, G' x → G x ∨ (w.heap.size ≤ x ∧ x < w'.heap.size)) (hv : VR w' G' M v u) : RelX E M G' (s.set d v) (a.put (some d) u) w' := by
  have hb : ∀ b, b < w.heap.size → w'.heap[b]? = w.heap[b]? := fun b hb => hw.block b hb (fun h => h)
  refine ⟨h.er, fun r T hT => (h.sat r T hT).congr (fun b hx => hb b (h.own r T hT b hx).1) (fun b hx => hb b (h.gd b hx).1) hGG, h.nd, h.dj, fun r T hT x hx => ?_, fun x hx => ?_, fun x hx => hGG x (h.g0 x hx), fun i => ?_, ?_, h.df, ?_, h.n1, h.pv⟩
  · obtain ⟨h1, h2, h3⟩ := h.own r T hT x hx
    exact ⟨Nat.lt_of_lt_of_le h1 hw.size, fun hg => (hG' x hg).elim h2 (fun h4 => by omega), h3⟩
  · rcases hG' x hx with hg | ⟨h1, h2⟩
    · obtain ⟨h1, h2⟩ := h.gd x hg
      exact ⟨Nat.lt_of_lt_of_le h1 hw.size, h2⟩
    · exact ⟨h2, .inr (Nat.le_trans h.ext.size h1)⟩
  · rw [put_getD a d i u (by rw [h.nt]; exact hd)]
    simp only [ASt.set]
    split
    · exact hv
    · exact (h.sl i).congr (fun b hx => hb b (h.gd b hx).1) hGG
  · exact h.ext.trans hw (fun i _ hi => hi.elim)
  · simp [put_some, h.nt]

/-- Has the function a text of its own? -/
def entB (P : Program) (f : FuncId) : Bool := match P.funcs[f]? with
  | some fn => fn.name != "runtime.NumGoroutine" && fn.body.isSome
  | none => false
theorem callFunc_of {P : Program} {f : FuncId} (h : entB P f = true) (args : Array Value) (w : World) : (callFunc f args).run P w = .ok (.enter f args) w := by
  unfold entB at h
  split at h
  · rename_i fn hf
    simp only [Bool.and_eq_true, bne_iff_ne, ne_eq] at h
    obtain ⟨h1, h2⟩ := h
    have hb : fn.body.isNone = false := by cases hb : fn.body <;> simp_all
    simp [callFunc, hf, h1, hb]
    intro hn; simp [hn] at h2
  · cases h

section
variable {E : Env} {s : ASt} {d : Nat} {t : TypeId} {pos : String} {after : Array Edge} {g : Option (Nat × Bool)}

theorem args_vr {M : Nat → Option HT} {G : Nat → Prop} {s' : ASt} {a : Act} {w : World} (hX : RelX E M G s' a w) (hle : Le s s') (xs : List Operand) (as : List AV) (ha : xs.map s.ev = as) (hr : AV.noRefs as = true) :
    (xs.map a.eval).length = as.length ∧ ∀ (i : Nat) (A : AV) (v : Value), as[i]? = some A → (xs.map a.eval)[i]? = some v → VR w G none_ A v := by
  subst ha
  refine ⟨by simp, fun i A v h1 h2 => ?_⟩
  have hA := AV.noRefs_mem.1 hr A (List.mem_of_getElem? h1)
  rw [List.getElem?_map] at h1 h2
  cases hx : xs[i]? with
  | none => simp [hx] at h1
  | some x =>
    simp only [hx, Option.map_some, Option.some.injEq] at h1 h2
    subst h1; subst h2
    exact (hX.evLe hle x).free hA

/-- A call of a function by its contract; what it gives is for all to read. -/
theorem q_call {fo : Operand} {f : FuncId} {caps : List AV} {xs : List Operand} {ts : Array TypeId} {as : List AV} {res : AV} (hn : d < E.nt) (hf : s.ev fo = .fn f caps) (he : entB E.P f = true) (ha : xs.map s.ev ++ caps = as) (hr : AV.noRefs as = true)
    (hd : Does E.P f as res) : QJ E ⟨some d, .call { callee := .value fo, args := xs.toArray, argTypes := ts }, t, pos, after, g⟩ s res.share none := by
  rintro s' hle a w ⟨M, G, hX⟩
  have hcl : ∀ l1 l2 : List AV, AV.noRefs (l1 ++ l2) = true → AV.noRefs l1 = true ∧ AV.noRefs l2 = true := fun l1 l2 h => by
    rw [AV.noRefs_mem] at h; exact ⟨AV.noRefs_mem.2 fun a ha => h a (by simp [ha]), AV.noRefs_mem.2 fun a ha => h a (by simp [ha])⟩
  obtain ⟨hr1, hr2⟩ := hcl _ _ (by rw [ha]; exact hr)
  obtain ⟨hl, hv⟩ := args_vr hX hle xs _ rfl hr1
  have hfv := hX.evLe hle fo
  rw [hf] at hfv
  generalize hfe : a.eval fo = fv at hfv
  cases hfv with
  | fn _ _ us hul huv =>
    have hrun : (execOp a.eval ⟨some d, .call { callee := .value fo, args := xs.toArray, argTypes := ts }, t, pos, after, g⟩).run E.P w = .ok (.enter f (xs.map a.eval ++ us).toArray) w := by
      simp [execOp, resolve, hfe, Deferred.ofValue, invoke, callFunc_of he]
    unfold Oper.wp
    rw [hrun]
    simp only [Oper.upon]
    refine (hd w G (xs.map a.eval ++ us) (fun x hx => (hX.gd x hx).1) (by rw [← ha]; simp [hul]) (fun i A v h1 h2 => ?_)).mono ?_
    · rw [← ha] at h1
      by_cases hi : i < (xs.map s.ev).length
      · rw [List.getElem?_append_left hi] at h1
        rw [List.getElem?_append_left (by simpa using hi)] at h2
        exact hv i A v h1 h2
      · rw [List.getElem?_append_right (by omega)] at h1
        rw [List.getElem?_append_right (by simpa using hi)] at h2
        simp only [List.length_map] at h1 h2
        exact (huv _ A v h1 h2).free (AV.noRefs_mem.1 hr2 A (List.mem_of_getElem? h1))
    · rintro e w' ⟨T, rfl, rfl, hw, hnd, hb, G', hGG, hG', hnG, hT⟩
      simp only [put]
      refine ⟨M, fun x => G' x ∨ x ∈ T.blocks, hX.setG hn hw (fun x hx => .inl (hGG x hx)) (fun x hx => hx.elim (hG' x) (fun h => .inr (hb x h))) (hT.share (fun x hx => .inl hx) (fun x hx => .inr hx) M).1⟩
end

end Go.Av
