/- Values built out of parts; rows written out; slices of slices; regions called anew. -/
import Derived.Test.YteohnapehmdgaaaDoorAZzW

import Derived.Laws.Tables
set_option linter.unusedSimpArgs false
set_option linter.unusedVariables false
/-! Values built out of parts; rows written out; slices of slices; regions called anew. -/
namespace Go.Av

/-! ### fill -/
theorem zip_set (off : Nat) : ∀ (vs : List Value) (j : Nat) (C : Array Value), off + j + vs.length ≤ C.size →
    ((vs.zipIdx j).foldl (fun (cs : Array Value) (p : Value × Nat) => cs.setIfInBounds (off + p.2) p.1) C).toList = setL C.toList (off + j) vs
  | [], j, C, h => by simp [setL]
  | v :: r, j, C, h => by
    simp only [List.zipIdx_cons, List.foldl_cons]
    rw [zip_set off r (j + 1) _ (by simp only [List.length_cons] at h; simp; omega)]
    have h1 : off + j < C.toList.length := by simp only [List.length_cons] at h; simp; omega
    simp only [setL, Array.toList_setIfInBounds, List.length_cons]
    have e1 : List.take (off + (j + 1)) (C.toList.set (off + j) v) = List.take (off + j) C.toList ++ [v] := by
      rw [← Nat.add_assoc, List.take_succ_eq_append_getElem (by simpa using h1)]
      congr 1
      · rw [List.take_set_of_le (Nat.le_refl _)]
      · simp
    have e2 : List.drop (off + (j + 1) + r.length) (C.toList.set (off + j) v) = List.drop (off + j + (r.length + 1)) C.toList := by
      rw [List.drop_set_of_lt (by omega)]
      congr 1; omega
    rw [e1, e2]
    simp
def fillL (pl : Nat → Option (Nat × Nat)) : List Value → List (Nat × List Value) → Option (List Value)
  | cs, [] => some cs
  | cs, (i, vs) :: rest => match pl i with
    | some (off, size) => if vs.length = size ∧ off + size ≤ cs.length then fillL pl (setL cs off vs) rest else none
    | none => none
theorem fill_L (pl : Nat → Option (Nat × Nat)) : ∀ (parts : List (Nat × Value)) (C : Array Value) (r : List Value), fillL pl C.toList (parts.map fun p => (p.1, p.2.cells.toList)) = some r →
    ∃ C', Instr.fill pl C parts = some C' ∧ C'.toList = r
  | [], C, r, h => by simp only [List.map_nil, fillL, Option.some.injEq] at h; exact ⟨C, rfl, h⟩
  | (i, v) :: rest, C, r, h => by
    simp only [List.map_cons, fillL] at h
    split at h
    · rename_i off size hp
      split at h
      · rename_i hc
        obtain ⟨h1, h2⟩ := hc
        simp only [Array.length_toList] at h1 h2
        have hz := zip_set off v.cells.toList 0 C (by simp; omega)
        simp only [Nat.add_zero] at hz
        rw [← hz] at h
        obtain ⟨C', k1, k2⟩ := fill_L pl rest _ r h
        refine ⟨C', ?_, k2⟩
        simp only [Instr.fill, hp]
        rw [if_neg (by simp; omega)]
        rw [← k1]
        congr 1
        rw [← Array.foldl_toList]
        simp
      · cases h
    · cases h
/-- The same over abstract values. -/
def fillA (pl : Nat → Option (Nat × Nat)) : List AV → List (Nat × List AV) → Option (List AV)
  | cs, [] => some cs
  | cs, (i, vs) :: rest => match pl i with
    | some (off, size) => if vs.length = size ∧ off + size ≤ cs.length then fillA pl (setL cs off vs) rest else none
    | none => none
def VRs (w : World) (G : Nat → Prop) (m : Nat → Option HT) (as : List AV) (us : List Value) : Prop := us.length = as.length ∧ ∀ (i : Nat) (a : AV) (u : Value), as[i]? = some a → us[i]? = some u → VR w G m a u
theorem VRs.setL {w : World} {G : Nat → Prop} {m : Nat → Option HT} {as bs : List AV} {us vs : List Value} {o : Nat} (h : VRs w G m as us) (k : VRs w G m bs vs) (ho : o + bs.length ≤ as.length) : VRs w G m (setL as o bs) (setL us o vs) := by
  refine ⟨by rw [setL_len (by rw [k.1, h.1]; exact ho), setL_len ho]; exact h.1, fun i a u h1 h2 => ?_⟩
  rw [setL_get ho] at h1
  rw [setL_get (by rw [k.1, h.1]; exact ho), k.1] at h2
  split at h1
  · rename_i hc
    rw [if_pos hc] at h2
    exact k.2 _ a u h1 h2
  · rename_i hc
    rw [if_neg hc] at h2
    exact h.2 _ a u h1 h2
theorem fill_VR {w : World} {G : Nat → Prop} {m : Nat → Option HT} (pl : Nat → Option (Nat × Nat)) : ∀ (pa : List (Nat × List AV)) (pv : List (Nat × List Value)) (as : List AV) (us : List Value) (r : List AV), VRs w G m as us → pa.map Prod.fst = pv.map Prod.fst →
    (∀ (i : Nat) a v, pa[i]? = some a → pv[i]? = some v → VRs w G m a.2 v.2) → fillA pl as pa = some r → ∃ r', fillL pl us pv = some r' ∧ VRs w G m r r'
  | [], [], as, us, r, h, _, _, hf => by simp only [fillA, Option.some.injEq] at hf; subst hf; exact ⟨us, rfl, h⟩
  | [], _ :: _, as, us, r, h, he, _, hf => by simp at he
  | _ :: _, [], as, us, r, h, he, _, hf => by simp at he
  | (i, a) :: pa, (j, v) :: pv, as, us, r, h, he, hp, hf => by
    simp only [List.map_cons, List.cons.injEq] at he
    obtain ⟨rfl, he⟩ := he
    have h0 := hp 0 _ _ rfl rfl
    simp only at h0
    simp only [fillA] at hf
    split at hf
    · rename_i off size hpl
      split at hf
      · rename_i hc
        simp only [fillL, hpl]
        rw [if_pos ⟨by rw [h0.1]; exact hc.1, by rw [h.1]; exact hc.2⟩]
        exact fill_VR pl pa pv _ _ r (h.setL h0 (by omega)) he (fun i a v h1 h2 => hp (i + 1) a v h1 h2) hf
      · cases hf
    · cases hf

/-! ### build -/
def plT (P : Program) (t : TypeId) (i : Nat) : Option (Nat × Nat) := match P.underlying t with
  | some (.struct fs) => (fs[i]?).bind fun f => (szT P f.type).map fun n => (f.offset, n)
  | some (.array _ e) => (szT P e).map fun n => (i * n, n)
  | _ => none
def bdOk (P : Program) (t : TypeId) : Bool := match P.info? t, P.underlying t with
  | some it, some (.array _ e) => (P.info? e).isSome && it.zero.isSome
  | some it, some (.struct fs) => (fs.toList.mapM (fun f => (P.info? f.type).map fun i => (f.offset, i.size))).isSome && it.zero.isSome
  | _, _ => false
theorem places_get {P : Program} : ∀ (fs : List Field) (places : List (Nat × Nat)) (i : Nat), fs.mapM (fun f => (P.info? f.type).map fun i => (f.offset, i.size)) = some places → places[i]? = (fs[i]?).bind fun f => (szT P f.type).map fun n => (f.offset, n)
  | [], places, i, h => by simp at h; subst h; simp
  | f :: fs, places, i, h => by
    simp only [List.mapM_cons, Option.bind_eq_bind, Option.pure_def] at h
    cases hi : P.info? f.type with
    | none => simp [hi] at h
    | some ii =>
      cases hr : fs.mapM (fun f => (P.info? f.type).map fun i => (f.offset, i.size)) with
      | none => simp [hi, hr] at h
      | some rest =>
        simp [hi, hr] at h
        subst h
        cases i with
        | zero => simp [szT, hi]
        | succ i => simpa using places_get fs rest i hr
theorem built_of {P : Program} {t : TypeId} {zs : List Value} (h : bdOk P t = true) (hz : zvT P t = some zs) (parts : List (Nat × Value)) {r : List Value} (hf : fillL (plT P t) zs (parts.map fun p => (p.1, p.2.cells.toList)) = some r) :
    ∃ C, P.built t parts = some C ∧ C.toList = r := by
  unfold bdOk at h
  unfold zvT at hz
  cases hit : P.info? t with
  | none => simp [hit] at h
  | some it =>
    rw [hit] at hz
    simp only at hz
    cases hzz : it.zero with
    | none => rw [hzz] at hz; cases hz
    | some z =>
      rw [hzz] at hz
      simp only [Option.map_some, Option.some.injEq] at hz
      subst hz
      cases hu : P.underlying t with
      | none => simp [hit, hu] at h
      | some dd =>
        cases dd with
        | array n e =>
          simp only [hit, hu, hzz, Option.isSome_some, Bool.and_true] at h
          obtain ⟨ie, hie⟩ := Option.isSome_iff_exists.1 h
          have hpl : plT P t = fun i => some (i * ie.size, ie.size) := by funext i; simp [plT, hu, szT, hie]
          rw [hpl] at hf
          simp only [Program.built, hit, hu, hzz, hie]
          exact fill_L _ parts z.cells r hf
        | struct fs =>
          simp only [hit, hu, hzz, Option.isSome_some, Bool.and_true] at h
          obtain ⟨places, hp⟩ := Option.isSome_iff_exists.1 h
          have hpl : plT P t = fun i => places[i]? := by
            funext i
            simp only [plT, hu]
            rw [places_get _ _ i hp]
            simp
          rw [hpl] at hf
          simp only [Program.built, hit, hu, hzz, hp]
          have := fill_L _ parts z.cells r hf
          simpa using this
        | _ => simp [hit, hu] at h

def rowAny (s : ASt) (r : Nat) (p : List Nat) (m : Nat) : Prop := ∃ sz n cs, nodeOf s r p = some (.row true sz n cs) ∧ m ≤ n
/-- Is it of a known number of cells? -/
def cellOk (s : ASt) : AV → Prop
  | .lit v => v.oneCell' = true
  | .row false _ _ _ => True
  | .box false _ => True
  | .fn _ _ => True
  | .agg _ => True
  | .sl r p off len => rowAny s r p (off + len)
  | .ptr r p _ => memN (nodeOf s r p) = true ∧ (cellsOf (nodeOf s r p)).length ≠ 0
  | _ => False
theorem cells_val {E : Env} {M : Nat → Option HT} {G : Nat → Prop} {s : ASt} {a : Act} {w : World} (hX : RelX E M G s a w) {v : AV} {u : Value} (hv : VR w G M v u) (hc : cellOk s v) : VRs w G M v.parts u.cells.toList := by
  have one : v.parts = [v] → u.cells = #[u] → VRs w G M v.parts u.cells.toList := fun h1 h2 => by
    rw [h1, h2]
    refine ⟨rfl, fun i a x e1 e2 => ?_⟩
    cases i with
    | zero => simp only [List.getElem?_cons_zero, Option.some.injEq] at e1 e2; subst e1; subst e2; exact hv
    | succ i => simp at e1
  cases v with
  | lit c =>
    have := hv.litv; subst this
    refine one rfl ?_
    simp only [cellOk] at hc
    cases u <;> simp_all [Value.oneCell', Value.cells]
  | row o sz n cs => cases o with
    | false =>
      refine one rfl ?_
      cases hv <;> rfl
    | true => simp [cellOk] at hc
  | box o cs => cases o with
    | false =>
      refine one rfl ?_
      cases hv; rfl
    | true => simp [cellOk] at hc
  | fn f cs =>
    refine one rfl ?_
    cases hv; rfl
  | agg cs =>
    cases hv with
    | agg _ us hl h => exact ⟨by simpa [AV.parts, Value.cells] using hl, fun i a x e1 e2 => h i a x (by simpa [AV.parts] using e1) (by simpa [Value.cells] using e2)⟩
  | sl r p off len =>
    obtain ⟨sz, n, cs, h1, h2⟩ := hc
    obtain ⟨A, c, h3, _⟩ := sl_val hX hv h1 h2
    exact one rfl (by rw [h3]; rfl)
  | ptr r p o =>
    simp only [cellOk] at hc
    cases hA : nodeOf s r p with
    | none => rw [hA] at hc; simp [memN] at hc
    | some A =>
      rw [hA] at hc
      obtain ⟨T, N, k1, k2, rfl, _, hsN⟩ := nodeOf_spec hX hA
      rcases memN_spec hsN hc.1 with ⟨sz, rfl⟩ | ⟨b, C, e, h1, _⟩
      · simp [HT.erase, cellsOf] at hc
      · have := ptr_val hX hv k1 k2 h1
        exact one rfl (by rw [this]; rfl)
  | tup cs => simp [cellOk] at hc
  | junk => simp [cellOk] at hc
theorem Le.cellOk {s s' : ASt} (h : Le s s') {v : AV} (hc : cellOk s v) : cellOk s' v := by
  cases v with
  | sl r p off len =>
    obtain ⟨sz, n, cs, h1, h2⟩ := hc
    exact ⟨sz, n, cs, h.node h1, h2⟩
  | ptr r p o =>
    simp only [Av.cellOk] at hc ⊢
    cases hA : nodeOf s r p with
    | none => rw [hA] at hc; simp [memN] at hc
    | some A => rw [hA] at hc; rw [h.node hA]; exact hc
  | row o sz n cs => cases o <;> exact hc
  | box o cs => cases o <;> exact hc
  | _ => exact hc
section
variable {E : Env} {s s1 : ASt} {d : Nat} {x y : Operand} {t ty xt : TypeId} {pos : String} {after : Array Edge} {g : Option (Nat × Bool)} {R : ASt → Prop}
theorem parts_VR {M : Nat → Option HT} {G : Nat → Prop} {a : Act} {w : World} {s' : ASt} (hX : RelX E M G s' a w) (hle : Le s s') (parts : List (Nat × Operand)) (hc : ∀ p ∈ parts, cellOk s (s.ev p.2)) :
    ∀ (i : Nat) (p : Nat × List AV) (v : Nat × List Value), (parts.map fun p => (p.1, (s.ev p.2).parts))[i]? = some p → ((parts.map fun p => (p.1, a.eval p.2)).map fun p => (p.1, p.2.cells.toList))[i]? = some v → VRs w G M p.2 v.2 := fun i p v h1 h2 => by
  rw [List.map_map, List.getElem?_map] at h2
  rw [List.getElem?_map] at h1
  cases hp : parts[i]? with
  | none => rw [hp] at h1; cases h1
  | some q =>
    rw [hp] at h1 h2
    simp only [Option.map_some, Option.some.injEq, Function.comp] at h1 h2
    subst h1; subst h2
    have := hc q (List.mem_of_getElem? hp)
    exact cells_val hX (hX.evLe hle q.2) (hle.cellOk this)
theorem q_build {parts : List (Nat × Operand)} {zs : List Value} {r : List AV} (hn : d < E.nt) (hb : bdOk E.P xt = true) (hz : zvT E.P xt = some zs) (hc : ∀ p ∈ parts, cellOk s (s.ev p.2))
    (hf : fillA (plT E.P xt) (zs.map .lit) (parts.map fun p => (p.1, (s.ev p.2).parts)) = some r) :
    QJ E ⟨some d, .build xt parts.toArray, t, pos, after, g⟩ s (.agg r) none :=
  .val rfl hn fun s' M G a w hle hX => by
    have hzs : VRs w G M (zs.map AV.lit) zs := ⟨by simp, fun i a u h1 h2 => by
      rw [List.getElem?_map, h2] at h1
      simp only [Option.map_some, Option.some.injEq] at h1
      subst h1; exact .lit u⟩
    obtain ⟨us, h1, h2⟩ := fill_VR (plT E.P xt) _ ((parts.map fun p => (p.1, a.eval p.2)).map fun p => (p.1, p.2.cells.toList)) _ _ r hzs (by simp) (parts_VR hX hle parts hc) hf
    obtain ⟨C, h3, h4⟩ := built_of hb hz (parts.map fun p => (p.1, a.eval p.2)) h1
    refine ⟨.agg C, w, ?_, Ext.refl _ _, ?_⟩
    · have := run_build (P := E.P) w xt (parts.map fun p => (p.1, a.eval p.2)).toArray C (by simpa using h3)
      simp only [execOp, List.map_toArray, Sem.run_bind, this, Result.andThen_ok]
      rfl
    · have e : C = us.toArray := by rw [← h4]
      rw [e]
      exact .agg r us h2.1 h2.2
end
end Go.Av
