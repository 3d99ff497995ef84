/- The walk through a region whose order is drawn; calls, loops, returns. -/
import Derived.Test.YteohnapehmdgaaaDoorAZzJ
import Derived.IntWalk
set_option linter.unusedSimpArgs false
set_option linter.unusedVariables false
/-! The walk through a region whose order is drawn; calls, loops, returns. -/
namespace Go.Av

def memB : List Nat → Nat → Bool
  | [], _ => false
  | x :: r, i => if x = i then true else memB r i
theorem memB_contains (l : List Nat) (i : Nat) : memB l i = l.contains i := by
  induction l with
  | nil => rfl
  | cons x r ih =>
    simp only [memB, List.contains_cons, ih]
    by_cases h : x = i
    · subst h; simp
    · have : (i == x) = false := by simpa using fun e => h e.symm
      simp [h, this]
def dOf : Option Tmp → Nat
  | some d => d
  | none => 0
def noUp (r : Nat) (ds : List (Option Tmp)) (outs : List (AV × Option AV)) : Bool := (upd r (fun _ => true) ds outs 0).isNone
def tkC (T : List (List Nat)) (ds : List (Option Tmp)) (i : Nat) (outs : List (AV × Option AV)) : Option (AV × Nat) → Prop
  | none => True
  | some p => upOk T ds p.2 i = true ∧ noUp p.2 ds outs = true
/-- The mark of a region that is made while another is taken in. -/
def unL : List AV → Option AV
  | [T] => some T
  | _ => none
def moV : AV → Option AV
  | .fn f cs => if f = 999999 then unL cs else none
  | .lit _ => none
  | .junk => none
  | .row _ _ _ _ => none
  | .box _ _ => none
  | .sl _ _ _ _ => none
  | .ptr _ _ _ => none
  | .agg _ => none
  | .tup _ => none
def unO : Option AV → Option AV
  | some a => moV a
  | none => none
def tkO (T : AV) : Option AV := some (.fn 999999 [T])
theorem unO_mark {T : AV} : unO (tkO T) = some T := rfl
def dnx1 (T : List (List Nat)) (ds : List (Option Tmp)) (i : Nat) (outs : List (AV × Option AV)) (next : List (AV × Option AV) → Prop) (mo : Option AV) (v : AV) : Option AV → Prop
  | some Tn => (okV ds (T.getD i []) i v = true ∧ tkC T ds i outs (tkV v)) ∧ next (outs ++ [(v, some Tn)])
  | none => (okV ds (T.getD i []) i v = true ∧ tkV v = none) ∧ next (outs ++ [(v, mo)])
def dnx (T : List (List Nat)) (ds : List (Option Tmp)) (i d : Nat) (outs : List (AV × Option AV)) (next : List (AV × Option AV) → Prop) (mo : Option AV) (s : ASt) : Prop := dnx1 T ds i outs next mo (s.t d) (unO mo)
/-- Does 'qv' take it, and does it make no memory? -/
def quietOp : Op → Bool
  | .move _ | .assign _ | .pick .. | .binOp .. | .unOp .. | .convert .. | .indexAddr .. | .index .. | .fieldAddr .. | .load .. | .nilCheck _ | .field .. | .extract .. => true
  | .build _ ⟨_⟩ => true
  | .slice _ _ _ _ none => true
  | .makeFunc (.func _) ⟨[]⟩ _ => true
  | .call { callee := .builtin .len, args := ⟨[_]⟩, argTypes := ⟨[_]⟩ } => true
  | .call { callee := .builtin .max, args := ⟨[_, _]⟩, .. } => true
  | .call { callee := .builtin .min, args := ⟨[_, _]⟩, .. } => true
  | _ => false
/-- An operation that is a call. -/
def dop (E : Env) (o : Oper) (R : Option AV → ASt → Prop) (s : ASt) : Prop := ∃ d v mo, o.dst = some d ∧ unO mo = none ∧ QJ E o s v mo ∧ R mo (put s (some d) v mo)
def dalloc (P : Program) (t : TypeId) (d : Nat) (R : Option AV → ASt → Prop) (s : ASt) : Prop := match zvT P t with
  | some zs => R (some (.box true (nilTs (nzT P t) (zs.map .lit)))) (s.new d (.ptr d [] 0) (.box true (nilTs (nzT P t) (zs.map .lit))))
  | none => False
def dmk (P : Program) (t : TypeId) (x y : AV) (R : Option AV → ASt → Prop) (s : ASt) (d : Nat) : Prop := match x, y with
  | .lit (.int _ n), .lit (.int _ m) => (zOk P t = true ∧ 0 ≤ n ∧ m = n ∧ (byN P t : Int) * n ≤ 281474976710656 ∧ n ≤ 9223372036854775807) ∧ R (some (.row true (zsN P t).length n.toNat (nilRq (nzE P t) n.toNat ((zCells (zsN P t) n.toNat).map .lit)))) (s.new d (.sl d [] 0 n.toNat) (.row true (zsN P t).length n.toNat (nilRq (nzE P t) n.toNat ((zCells (zsN P t) n.toNat).map .lit))))
  | _, _ => False
/-- The first region among values. -/
def splitS : List AV → Option (List AV × Nat × Nat × List AV)
  | [] => none
  | a :: l => match a with
    | .sl r [] 0 n => some ([], r, n, l)
    | a => match splitS l with
      | some (p, r, n, q) => some (a :: p, r, n, q)
      | none => none
theorem splitS_spec : ∀ {l p q : List AV} {r n : Nat}, splitS l = some (p, r, n, q) → l = p ++ .sl r [] 0 n :: q
  | [], p, q, r, n, h => by simp [splitS] at h
  | a :: l, p, q, r, n, h => by
    simp only [splitS] at h
    split at h
    · simp only [Option.some.injEq, Prod.mk.injEq] at h
      obtain ⟨rfl, rfl, rfl, rfl⟩ := h; rfl
    · split at h
      · rename_i p' r' n' q' h'
        simp only [Option.some.injEq, Prod.mk.injEq] at h
        obtain ⟨rfl, rfl, rfl, rfl⟩ := h
        rw [splitS_spec h']; rfl
      · cases h
def dbs2 (P : Program) (t : TypeId) (d len : Nat) (R : Option AV → ASt → Prop) (s : ASt) (pre : List AV) (x n : Nat) (post : List AV) : Option AV → Prop
  | some (.row true sz n' cs) => (n = n' ∧ leafCs pre = true ∧ fitCs pre = true ∧ leafCs post = true ∧ fitCs post = true ∧ x ≠ d) ∧ R (tkO (.row true (slSz P t) len (nilRs (nzE P t) len (pre ++ .row true sz n' cs :: post)))) (s.set d (tkM (.sl d [] 0 len) x))
  | _ => False
def dbs1 (P : Program) (t : TypeId) (d len : Nat) (R : Option AV → ASt → Prop) (s : ASt) (As : List AV) : Option (List AV × Nat × Nat × List AV) → Prop
  | some (pre, x, n, post) => dbs2 P t d len R s pre x n post (s.m x)
  | none => (leafCs As = true ∧ fitCs As = true) ∧ R (some (.row true (slSz P t) len (nilRs (nzE P t) len As))) (s.new d (.sl d [] 0 len) (.row true (slSz P t) len (nilRs (nzE P t) len As)))
def dbs (P : Program) (t : TypeId) (len : Nat) (parts : List (Nat × Operand)) (g : Option (Nat × Bool)) (R : Option AV → ASt → Prop) (s : ASt) (d : Nat) : Prop :=
  (g = none ∧ zOk P t = true ∧ parts.length = len ∧ len * slSz P t ≤ 16777216 ∧ bsOk s (slSz P t) 0 parts) ∧ dbs1 P t d len R s (bsA s parts) (splitS (bsA s parts))
def dmem (E : Env) (o : Oper) (d : Nat) (R : Option AV → ASt → Prop) (s : ASt) : Prop := match o.op with
  | .alloc t => d < E.nt ∧ dalloc E.P t d R s
  | .makeSlice t x y => d < E.nt ∧ dmk E.P t (s.ev x) (s.ev y) R s d
  | .buildSlice t len ⟨parts⟩ => d < E.nt ∧ dbs E.P t len parts o.guard R s d
  | _ => dop E o R s
def dq1 (E : Env) (o : Oper) (R : Option AV → ASt → Prop) (s : ASt) : Prop := if quietOp o.op = true then (match o.dst with
    | some d => qv E o d (R none) s
    | none => False) else (match o.dst with
    | some d => dmem E o d R s
    | none => False)
def GD (E : Env) (v : AV) (b : Bool) (o : Oper) (R : Option AV → ASt → Prop) (s : ASt) : Prop := ∃ c, v = .lit c ∧ ((c = .bool b ∧ dq1 E o R s) ∨ (c ≠ .bool b ∧ o.dst.isSome = true ∧ R none (s.set (dOf o.dst) (.lit Go.undef))))
theorem new_boxN {E : Env} {M : Nat → Option HT} {G : Nat → Prop} {s' : ASt} {a : Act} {w : World} {d : Nat} (hX : RelX E M G s' a w) (e : TypeId) (vs As : List AV) (us : List Value) (hl : us.length = vs.length) (hN : NilLes vs As)
    (h : ∀ (i : Nat) (v : AV) (u : Value), vs[i]? = some v → us[i]? = some u → Sat w G (.leaf v u)) :
    ∃ T : HT, T.erase = .box true As ∧ Sat (w.alloc (.cells us.toArray e)) G T ∧ T.blocks.Nodup ∧ (∀ x ∈ T.blocks, w.heap.size ≤ x ∧ x < (w.alloc (.cells us.toArray e)).heap.size ∧ ¬ G x) ∧ T.value = .pointer (some ⟨w.heap.size, 0, none⟩) ∧
      VR (w.alloc (.cells us.toArray e)) G (updF M d (some T)) (.ptr d [] 0) (.pointer (some ⟨w.heap.size, 0, none⟩)) := by
  obtain ⟨Ks0, h1, h2, h3, h4, h5⟩ := leaves vs us hl h
  have hs : ∀ K ∈ Ks0, Sat w G K := fun K hK => by obtain ⟨i, hi⟩ := List.mem_iff_getElem?.1 hK; exact (h5 i K hi).1
  obtain ⟨Ks, f1, f2, f3, f4⟩ := nilUps Ks0 As hs (by rw [h2]; exact hN)
  have fb : ∀ K ∈ Ks, ∀ b ∈ K.blocks, False := fun K hK b hb => by
    have : b ∈ HT.blockss Ks := by rw [HT.blockss_eq]; exact List.mem_flatMap.2 ⟨K, hK, hb⟩
    rw [f3, h3] at this; cases this
  have fl : Ks.length = us.length := by
    have e : (HT.values Ks).length = (HT.values Ks0).length := by rw [f2]
    rw [HT.values_eq, HT.values_eq, List.length_map, List.length_map] at e
    rw [e, h4, hl]
  have fv : ∀ (i : Nat) (K : HT), Ks[i]? = some K → us[i]? = some K.value := fun i K hK => by
    have e : (HT.values Ks)[i]? = (HT.values Ks0)[i]? := by rw [f2]
    rw [HT.values_eq, HT.values_eq, List.getElem?_map, List.getElem?_map, hK] at e
    cases h0 : Ks0[i]? with
    | none => rw [h0] at e; simp at e
    | some K0 => rw [h0] at e; simp at e; rw [e]; exact (h5 i K0 h0).2
  refine ⟨.box w.heap.size Ks, by simp [HT.erase, f1], ?_, by simp [HT.blocks, f3, h3], fun x hx => ?_, rfl, ?_⟩
  · have hG : ∀ b, G b → (w.alloc (.cells us.toArray e)).heap[b]? = w.heap[b]? := fun b hb => (alloc_ext w _).block b (hX.gd b hb).1 (fun h => h)
    refine .box _ _ us.toArray e (alloc_new w _) (by simp [fl]) (fun i K hK => by simpa using fv i K hK) (fun i K hK => (f4 K (List.mem_of_getElem? hK)).congr (fun b hb => (fb K (List.mem_of_getElem? hK) b hb).elim) hG (fun _ h => h))
  · simp only [HT.blocks, f3, h3, List.mem_singleton] at hx
    subst hx
    exact ⟨Nat.le_refl _, by simp, fun hg => Nat.lt_irrefl _ (hX.gd _ hg).1⟩
  · refine .ptr _ _ _ _ (fun T' hT' b' sz' n' cap' cs' hN' => ?_) (fun T' hT' b' cs' hN' => ?_)
    · simp only [updF, if_true, Option.some.injEq] at hT'; subst hT'
      simp [HT.at_] at hN'
    · simp only [updF, if_true, Option.some.injEq] at hT'; subst hT'
      simp only [HT.at_, Option.some.injEq, HT.box.injEq] at hN'
      obtain ⟨rfl, rfl⟩ := hN'
      rfl
theorem q_alloc {E : Env} {s : ASt} {d : Nat} {t xt : TypeId} {pos : String} {after : Array Edge} {g : Option (Nat × Bool)} {zs : List Value} (hd : d < E.nt) (hz : zvT E.P xt = some zs) : QJ E ⟨some d, .alloc xt, t, pos, after, g⟩ s (.ptr d [] 0) (some (.box true (nilTs (nzT E.P xt) (zs.map .lit)))) :=
  .mem rfl hd fun s' M G a w hle hX => by
    obtain ⟨z, h1, h2⟩ := run_zero (P := E.P) hz w
    obtain ⟨T, g1, g2, g3, g4, g5, g6⟩ := new_boxN (d := d) hX xt (zs.map .lit) _ zs (by simp) (nilTs_le (nzT E.P xt) _) (fun j v u hv hu => by
      rw [List.getElem?_map, hu] at hv
      simp only [Option.map_some, Option.some.injEq] at hv
      subst hv
      exact .leaf _ _ rfl (.lit _))
    refine ⟨_, _, G, T, ?_, alloc_ext _ _, fun _ h => h, fun _ h => .inl h, g1, g2, g3, g4, g6⟩
    simp only [← h2, Array.toArray_toList]
    simp [execOp, Instr.alloc, newVar, newRow, h1]
def dst1 (E : Env) (da : List (Option Tmp)) (o : Oper) (R : Option AV → ASt → Prop) (s : ASt) : Prop := match o.guard with
  | none => dq1 E o R s
  | some (j, b) => match da[j]? with
    | some (some d') => GD E (s.t d') b o R s
    | _ => False
/-- A store into what was made in the region. -/
def dstoreQ (P : Program) (t : TypeId) (x v : AV) (T : List (List Nat)) (ds : List (Option Tmp)) (outs : List (AV × Option AV)) (next : List (AV × Option AV) → Prop) (s : ASt) : Prop := match x with
  | .ptr r [] o => (leafCs v.parts = true ∧ fitCs v.parts = true ∧ szT P t = some v.parts.length ∧ 0 < v.parts.length ∧ memN (s.m r) = true ∧ o + v.parts.length ≤ (cellsOf (s.m r)).length ∧ upOk T ds r outs.length = true ∧ noUp r ds outs = true) ∧ next (outs ++ [(.ptr r [] 0, some (setNs o v.parts (s.m r)))])
  | _ => False
def dstep (E : Env) (da : List (Option Tmp)) (T : List (List Nat)) (ds : List (Option Tmp)) (o : Oper) (outs : List (AV × Option AV)) (next : List (AV × Option AV) → Prop) (s : ASt) : Prop := match o.dst with
  | some d => dst1 E da o (dnx T ds outs.length d outs next) s
  | none => match o.op, o.guard with
    | .store t x y, none => dstoreQ E.P t (s.ev x) (s.ev y) T ds outs next s
    | _, _ => False
theorem closeVs_leaf {s : ASt} : ∀ {vs : List AV}, leafCs vs = true → fitCs vs = true → closeVs s vs = some (vs, s)
  | [], _, _ => rfl
  | v :: vs, h, hf => by
    simp only [leafCs, fitCs, Bool.and_eq_true] at h hf
    have hv : closeV s v = some (v, s) := by
      cases v with
      | row o _ _ _ => cases o <;> simp_all [AV.leafOk, closeV]
      | box o _ => cases o <;> simp_all [AV.leafOk, closeV]
      | junk => simp [fitC] at hf
      | _ => simp_all [AV.leafOk, closeV]
    simp only [closeVs, hv, closeVs_leaf h.2 hf.2]
def dq (E : Env) (da : List (Option Tmp)) (T : List (List Nat)) (s : ASt) (ds : List (Option Tmp)) (tail : ASt → Prop) : List Oper → (List (AV × Option AV) → Prop)
  | [] => fun outs => tail (SV s ds outs fun _ => true)
  | o :: rest => fun outs => dstep E da T ds o outs (dq E da T s ds tail rest) (SV s ds outs (memB (T.getD outs.length [])))

theorem closeVs_pre {s : ASt} : ∀ {pre vs : List AV}, leafCs pre = true → fitCs pre = true → closeVs s (pre ++ vs) = (closeVs s vs).map (fun p => (pre ++ p.1, p.2))
  | [], vs, _, _ => by cases h : closeVs s vs <;> simp [h]
  | v :: pre, vs, h, hf => by
    simp only [leafCs, fitCs, Bool.and_eq_true] at h hf
    have hv : closeV s v = some (v, s) := by
      cases v with
      | row o _ _ _ => cases o <;> simp_all [AV.leafOk, closeV]
      | box o _ => cases o <;> simp_all [AV.leafOk, closeV]
      | junk => simp [fitC] at hf
      | _ => simp_all [AV.leafOk, closeV]
    simp only [List.cons_append, closeVs, hv]
    rw [closeVs_pre h.2 hf.2]
    cases closeVs s vs <;> simp
theorem bsOk_le {s s' : ASt} (h : Le s s') {sz : Nat} : ∀ (k : Nat) (l : List (Nat × Operand)), bsOk s sz k l → bsOk s' sz k l ∧ bsA s' l = bsA s l
  | k, [], _ => ⟨trivial, rfl⟩
  | k, (i, x) :: l, hb => by
    obtain ⟨⟨h1, h2, h3⟩, h4⟩ := hb
    have hj : s.ev x ≠ .junk := fun e => by rw [e] at h2; exact h2
    have he : s'.ev x = s.ev x := h.ev rfl hj
    obtain ⟨k1, k2⟩ := bsOk_le h (k + 1) l h4
    exact ⟨⟨⟨h1, by rw [he]; exact h.cellOk h2, by rw [he]; exact h3⟩, k1⟩, by simp only [bsA, he, k2]⟩
theorem tj_bs {E : Env} {s : ASt} {d : Nat} {t xt : TypeId} {pos : String} {after : Array Edge} {len : Nat} {parts : List (Nat × Operand)} {pre post : List AV} {x n sz' : Nat} {cs : List AV} (hd : d < E.nt) (h1 : zOk E.P xt = true) (hlen : parts.length = len) (h3 : len * slSz E.P xt ≤ 16777216) (h4 : bsOk s (slSz E.P xt) 0 parts)
    (hp : splitS (bsA s parts) = some (pre, x, n, post)) (hm : s.m x = some (.row true sz' n cs)) (l1 : leafCs pre = true) (l2 : fitCs pre = true) (l3 : leafCs post = true) (l4 : fitCs post = true) (hxd : x ≠ d) :
    TJ E ⟨some d, .buildSlice xt len parts.toArray, t, pos, after, none⟩ s d (.sl d [] 0 len) (.row true (slSz E.P xt) len (nilRs (nzE E.P xt) len (pre ++ .row true sz' n cs :: post))) x := by
  subst hlen
  refine ⟨by rw [hm]; rfl, hxd, fun s' hle a w hr => ?_⟩
  obtain ⟨z1, z2, z3, z4⟩ := of_zOk h1
  rw [z3] at h3 h4 ⊢
  obtain ⟨hb', hA⟩ := bsOk_le hle 0 parts h4
  have hm' := hle.m x _ hm
  have hc : closeVs s' (bsA s' parts) = some (pre ++ .row true sz' n cs :: post, s'.updM x [] .junk) := by
    rw [hA, splitS_spec hp, closeVs_pre l1 l2]
    have hv : closeV s' (.sl x [] 0 n) = some (.row true sz' n cs, s'.updM x [] .junk) := by
      simp only [closeV, nodeOf_nil, hm', and_self, if_true]
    simp only [closeVs, hv, closeVs_leaf l3 l4, Option.map_some]
  have := l_buildSlice (R := fun s2 => s2 = (s'.updM x [] .junk).new d (.sl d [] 0 parts.length) (.row true (zsN E.P xt).length parts.length (nilRs (nzE E.P xt) parts.length (pre ++ .row true sz' n cs :: post)))) (E := E) (t := t) (pos := pos) (after := after) (g := none) (nilRs_le _ _ _) hd z1 z2 hb' h3 hc rfl a w hr
  exact Oper.wp_both (fun a' w' ⟨s2, k1, k2⟩ => k2 ▸ k1) this
theorem qj_bs {E : Env} {s : ASt} {d : Nat} {t xt : TypeId} {pos : String} {after : Array Edge} {len : Nat} {parts : List (Nat × Operand)} (hd : d < E.nt) (h1 : zOk E.P xt = true) (hlen : parts.length = len) (h3 : len * slSz E.P xt ≤ 16777216) (h4 : bsOk s (slSz E.P xt) 0 parts) (l1 : leafCs (bsA s parts) = true) (l2 : fitCs (bsA s parts) = true) :
    QJ E ⟨some d, .buildSlice xt len parts.toArray, t, pos, after, none⟩ s (.sl d [] 0 len) (some (.row true (slSz E.P xt) len (nilRs (nzE E.P xt) len (bsA s parts)))) := by
  subst hlen
  intro s' hle a w hr
  obtain ⟨z1, z2, z3, z4⟩ := of_zOk h1
  rw [z3] at h3 h4 ⊢
  obtain ⟨hb', hA⟩ := bsOk_le hle 0 parts h4
  have hc : closeVs s' (bsA s' parts) = some (bsA s parts, s') := by rw [hA]; exact closeVs_leaf l1 l2
  have := l_buildSlice (R := fun s2 => s2 = s'.new d (.sl d [] 0 parts.length) (.row true (zsN E.P xt).length parts.length (nilRs (nzE E.P xt) parts.length (bsA s parts)))) (E := E) (t := t) (pos := pos) (after := after) (g := none) (nilRs_le _ _ _) hd z1 z2 hb' h3 hc rfl a w hr
  exact Oper.wp_both (fun a' w' ⟨s2, k1, k2⟩ => by rw [k2] at k1; exact k1) this
theorem of_dq1 {E : Env} {o : Oper} {R : Option AV → ASt → Prop} {s : ASt} (h : dq1 E o R s) : (∃ d v mo, o.dst = some d ∧ unO mo = none ∧ QJ E o s v mo ∧ R mo (put s (some d) v mo)) ∨ (∃ d v Tn x, o.dst = some d ∧ o.guard = none ∧ TJ E o s d v Tn x ∧ R (tkO Tn) (s.set d (tkM v x))) := by
  unfold dq1 at h
  split at h
  · rename_i hq
    refine .inl ?_
    split at h
    · rename_i d hd
      obtain ⟨d0, op, t, pos, after, g⟩ := o
      simp only at hd hq
      subst hd
      have fin : (∃ v, QJ E ⟨some d, op, t, pos, after, g⟩ s v none ∧ R none (s.set d v)) → ∃ d' v mo, some d = some d' ∧ unO mo = none ∧ QJ E ⟨some d, op, t, pos, after, g⟩ s v mo ∧ R mo (put s (some d') v mo) := fun ⟨v, h1, h2⟩ => ⟨d, v, none, rfl, rfl, h1, h2⟩
      unfold qv at h
      split at h
      · rename_i e; simp only at e; subst e; exact fin ⟨_, q_move h.1, h.2⟩
      · rename_i e; simp only at e; subst e; exact fin ⟨_, q_assign h.1, h.2⟩
      · rename_i e; simp only at e; subst e; exact fin (of_pick h.1 h.2)
      · rename_i e; simp only at e; subst e; exact fin (of_bin h.1 h.2)
      · rename_i e; simp only at e; subst e; exact fin (of_un h.1 h.2)
      · rename_i e; simp only at e; subst e; exact fin (of_conv h.1 h.2)
      · rename_i e; simp only at e; subst e; exact fin (of_len h.1 h.2)
      · rename_i e; simp only at e; subst e; exact fin (of_max h.1 h.2)
      · rename_i e; simp only at e; subst e; exact fin (of_min h.1 h.2)
      · rename_i e; simp only at e; subst e; exact fin (of_indexAddr h.1 h.2)
      · rename_i e; simp only at e; subst e; exact fin (of_index h.1 h.2)
      · rename_i e; simp only at e; subst e; exact fin (of_fieldAddr h.1 h.2)
      · rename_i e; simp only at e; subst e; exact fin (of_load h.1 h.2)
      · rename_i e; simp only at e; subst e; exact fin (of_nck h.1 h.2)
      · rename_i e; simp only at e; subst e; exact fin (of_field h.1 h.2)
      · rename_i e; simp only at e; subst e; exact fin (of_extract h.1 h.2)
      · rename_i e; simp only at e; subst e; exact fin ⟨_, q_makeFunc h.1, h.2⟩
      · rename_i e; simp only at e; subst e; simp [quietOp] at hq
      · rename_i e; simp only at e; subst e; simp [quietOp] at hq
      · rename_i e; simp only at e; subst e; simp [quietOp] at hq
      · rename_i e; simp only at e; subst e; exact fin (of_build h.1 h.2)
      · rename_i e; simp only at e; subst e; simp [quietOp] at hq
      · rename_i e; simp only at e; subst e; exact fin (of_slice h.1 h.2)
      · rename_i e; simp only at e; subst e; simp [quietOp] at hq
      · rename_i h1 h2 h3 h4 h5 h6 h7 h8 h9 h10 h11 h12 h13 h14 h15 h16 h17 h18 h19 h20 h21 h22 h23 h24
        exfalso
        simp only at h1 h2 h3 h4 h5 h6 h7 h8 h9 h10 h11 h12 h13 h14 h15 h16 h17 h18 h19 h20 h21 h22 h23 h24
        unfold quietOp at hq
        split at hq
        · exact h1 _ rfl
        · exact h2 _ rfl
        · exact h3 _ _ _ rfl
        · exact h4 _ _ _ _ _ rfl
        · exact h5 _ _ _ rfl
        · exact h6 _ _ _ rfl
        · exact h10 _ _ _ rfl
        · exact h11 _ _ _ rfl
        · exact h12 _ _ _ rfl
        · exact h13 _ _ rfl
        · exact h14 _ rfl
        · exact h15 _ _ _ rfl
        · exact h16 _ _ rfl
        · exact h21 _ _ rfl
        · exact h23 _ _ _ _ rfl
        · rename_i a; obtain ⟨a⟩ := a; exact h17 _ _ rfl
        · exact h7 _ _ rfl
        · exact h8 _ _ _ rfl
        · exact h9 _ _ _ rfl
        · cases hq
    · exact h.elim
  · split at h
    · rename_i d hd
      obtain ⟨d0, op, t, pos, after, g⟩ := o
      simp only at hd
      subst hd
      unfold dmem at h
      split at h
      · rename_i xt e
        simp only at e; subst e
        obtain ⟨h1, h2⟩ := h
        unfold dalloc at h2
        split at h2
        · rename_i zs hz
          exact .inl ⟨d, _, _, rfl, rfl, q_alloc h1 hz, h2⟩
        · exact h2.elim
      · rename_i xt x y e
        simp only at e; subst e
        obtain ⟨h1, h⟩ := h
        unfold dmk at h
        split at h
        · rename_i k n k' m h3 h4
          obtain ⟨⟨z1, z2, rfl, z3, z4⟩, h5⟩ := h
          obtain ⟨n, rfl⟩ := Int.eq_ofNat_of_zero_le z2
          have : ∃ zs b, zcT E.P xt = some (zs, b) ∧ zsN E.P xt = zs ∧ byN E.P xt = b ∧ 0 < zs.length ∧ zs.all (·.oneCell') = true := by
            unfold zOk at z1
            split at z1
            · rename_i zs b e
              simp only [Bool.and_eq_true, decide_eq_true_eq] at z1
              exact ⟨zs, b, e, by simp [zsN, e], by simp [byN, e], z1.1, z1.2⟩
            · cases z1
          obtain ⟨zs, b, e1, e2, e3, e4, e5⟩ := this
          rw [e2] at h5
          rw [e3] at z3
          exact .inl ⟨d, _, _, rfl, rfl, q_makeN (nilRq_le _ _ _) h1 e1 h3 h4 e4 (by have : ((b * n : Nat) : Int) ≤ 281474976710656 := (by rw [Int.natCast_mul]; exact z3); omega) (by omega), h5⟩
        · exact h.elim
      · rename_i xt len parts e
        simp only at e; subst e
        obtain ⟨h1, ⟨rfl, g1, g2, g3, g4⟩, h⟩ := h
        unfold dbs1 at h
        split at h
        · rename_i pre x n post hp
          unfold dbs2 at h
          split at h
          · rename_i sz n' cs hm
            obtain ⟨⟨rfl, k1, k2, k3, k4, k5⟩, h⟩ := h
            exact .inr ⟨d, _, _, x, rfl, rfl, tj_bs h1 g1 g2 g3 g4 hp hm k1 k2 k3 k4 k5, h⟩
          · exact h.elim
        · obtain ⟨⟨k1, k2⟩, h⟩ := h
          exact .inl ⟨d, _, some _, rfl, rfl, qj_bs h1 g1 g2 g3 g4 k1 k2, h⟩
      · exact .inl h
    · exact h.elim

theorem uj_store {E : Env} {s : ASt} {x y : Operand} {t xt : TypeId} {pos : String} {after : Array Edge} {r o : Nat} (hx : s.ev x = .ptr r [] o) (h1 : leafCs (s.ev y).parts = true) (h2 : fitCs (s.ev y).parts = true) (h3 : szT E.P xt = some (s.ev y).parts.length) (h4 : 0 < (s.ev y).parts.length)
    (h5 : memN (s.m r) = true) (h6 : o + (s.ev y).parts.length ≤ (cellsOf (s.m r)).length) : UJ E ⟨none, .store xt x y, t, pos, after, none⟩ s r (setNs o (s.ev y).parts (s.m r)) := by
  obtain ⟨A, hA⟩ : ∃ A, s.m r = some A := by
    cases hm : s.m r with
    | none => rw [hm] at h5; cases h5
    | some A => exact ⟨A, rfl⟩
  refine ⟨by rw [hA]; rfl, fun s' hle a w hr => ?_⟩
  have hA' := hle.m r A hA
  have hx' := hle.ev hx (by simp)
  have hyj : s.ev y ≠ .junk := fun e => by
    rw [e] at h1 h2; simp [AV.parts, fitCs, fitC] at h2
  have hy' := hle.ev rfl hyj
  have := l_storeTree (NilLes.refl _) (E := E) (s := s') (s1 := s') (x := x) (y := y) (t := t) (xt := xt) (pos := pos) (after := after) (g := none) (R := fun s2 => s2 = s'.updM r [] (setNs o (s.ev y).parts (s.m r))) (As := (s.ev y).parts) hx' (by rw [hy']; exact closeVs_leaf h1 h2) h2 h3 h4
    (by rw [nodeOf_nil, hA', ← hA]; exact h5) (by rw [nodeOf_nil, hA', ← hA]; exact h6) (by rw [if_pos h1, nodeOf_nil, hA', hA]) a w hr
  exact Oper.wp_both (fun a' w' ⟨s2, k1, k2⟩ => k2 ▸ k1) this
theorem dq_sound {E : Env} {ops : Array Oper} {T : List (List Nat)} {s : ASt} {ds : List (Option Tmp)} {tail : ASt → Prop} : ∀ {l : List Oper} {outs : List (AV × Option AV)}, dq E (ops.toList.map (·.dst)) T s ds tail l outs → DQ E ops T s ds tail l outs
  | [], outs, h => h
  | o :: rest, outs, h => by
    have hB : memB (T.getD outs.length []) = (T.getD outs.length []).contains := by funext i; exact memB_contains _ i
    simp only [dq, dstep] at h
    rw [hB] at h
    split at h
    · rename_i d0 hd0
      simp only [dst1] at h
      have fin : ∀ (d : Nat) v mo, o.dst = some d → unO mo = none → QG E ops o (SV s ds outs (T.getD outs.length []).contains) v mo → dnx T ds outs.length d0 outs (dq E (ops.toList.map (·.dst)) T s ds tail rest) mo (put (SV s ds outs (T.getD outs.length []).contains) (some d) v mo) →
          DQ E ops T s ds tail (o :: rest) outs := fun d v mo hd hu hq hn => by
        rw [hd0] at hd; cases hd
        have hpt : (put (SV s ds outs (T.getD outs.length []).contains) (some d0) v mo).t d0 = v := by cases mo <;> simp [put, set_t, new_t]
        simp only [dnx, hpt, hu, dnx1] at hn
        exact .inl ⟨v, mo, by rw [hd0]; rfl, hq, hn.1, dq_sound hn.2⟩
      have fin2 : ∀ (d : Nat) v Tn x, o.dst = some d → o.guard = none → TJ E o (SV s ds outs (T.getD outs.length []).contains) d v Tn x → dnx T ds outs.length d0 outs (dq E (ops.toList.map (·.dst)) T s ds tail rest) (tkO Tn) ((SV s ds outs (T.getD outs.length []).contains).set d (tkM v x)) →
          DQ E ops T s ds tail (o :: rest) outs := fun d v Tn x hd hg hq hn => by
        rw [hd0] at hd; cases hd
        simp only [dnx, set_t, if_true, unO_mark, dnx1, tkV_mark, tkC] at hn
        obtain ⟨⟨n1, n2, n3⟩, n4⟩ := hn
        refine .inr (.inl ⟨d0, v, Tn, x, hd0, hg, hq, ?_, n2, fun k T'' hk hu => ?_, dq_sound n4⟩)
        · unfold okV tkM at n1
          simp only [AV.allRef, AV.allRefs, Bool.and_eq_true] at n1
          exact n1.1
        · unfold noUp at n3
          rw [Option.isNone_iff_eq_none] at n3
          exact upd_ne (B := fun _ => true) (n := 0) hu rfl n3
      split at h
      · rename_i hg
        rcases of_dq1 h with ⟨d, v, mo, h1, hu, h2, h3⟩ | ⟨d, v, Tn, x, h1, h2, h3, h4⟩
        · exact fin d v mo h1 hu (.inl ⟨hg, h2⟩) h3
        · exact fin2 d v Tn x h1 h2 h3 h4
      · rename_i j b hg
        split at h
        · rename_i d' hd
          have hd : (ops[j]?).bind (·.dst) = some d' := by
            rw [List.getElem?_map, Array.getElem?_toList] at hd
            cases hx : ops[j]? with
            | none => simp [hx] at hd
            | some o' => simp only [hx, Option.map_some, Option.some.injEq] at hd; simp [hd]
          obtain ⟨c, hc, h1⟩ := h
          rcases h1 with ⟨rfl, h1⟩ | ⟨hcb, h1⟩
          · rcases of_dq1 h1 with ⟨d, v, mo, g1, gu, g2, g3⟩ | ⟨d, v, Tn, x, g1, g2, g3, g4⟩
            · exact fin d v mo g1 gu (.inr (.inl ⟨j, b, d', hg, hd, hc, g2⟩)) g3
            · rw [hg] at g2; cases g2
          · have h2 := h1.2
            have : dOf o.dst = d0 := by rw [hd0]; rfl
            exact fin d0 (.lit Go.undef) none hd0 rfl (.inr (.inr ⟨j, b, c, d', hg, hd, hc, hcb, rfl, rfl⟩)) (by rw [this] at h2; exact h2)
        · exact h.elim
    · rename_i hd0
      split at h
      · rename_i xt x y hop hg
        obtain ⟨d1, op, ty, pos, after, g⟩ := o
        simp only at hd0 hop hg
        subst hd0; subst hop; subst hg
        unfold dstoreQ at h
        split at h
        · rename_i r off hx
          obtain ⟨⟨h1, h2, h3, h4, h5, h6, h7, h8⟩, h9⟩ := h
          refine .inr (.inr ⟨r, _, rfl, rfl, uj_store hx h1 h2 h3 h4 h5 h6, h7, fun k T'' hk hu => ?_, dq_sound h9⟩)
          unfold noUp at h8
          rw [Option.isNone_iff_eq_none] at h8
          exact upd_ne (B := fun _ => true) (n := 0) hu rfl h8
        · exact h.elim
      · exact h.elim

/-- A region whose order is drawn. 'T': what must have been carried out before each operation; the first 'q' are quiet. -/
theorem aw_drawn {E : Env} {id : Nat} {l : List Oper} {K : AX → ASt → Prop} {s : ASt} (hm : E.P.follows .mixedOrders = true) (T : List (List Nat)) (q : Nat) (hc : chk l T q E.nt = true)
    (h : dq E (l.map (·.dst)) T s ((l.take q).map (·.dst)) (sq E (l.map (·.dst)) (l.drop q) (K .nm)) (l.take q) []) : aw E (.region id l.toArray true) K s := by
  refine (AWP.drawn hm T q hc ?_ : AWP E (.region id l.toArray true) K s)
  have htail : ∀ s, sq E (l.map (·.dst)) (l.drop q) (K .nm) s → Seq E l.toArray (l.drop q) (K .nm) s := fun s h => sq_sound h
  have mono : ∀ (l' : List Oper) outs, dq E (l.map (·.dst)) T s ((l.take q).map (·.dst)) (sq E (l.map (·.dst)) (l.drop q) (K .nm)) l' outs → DQ E l.toArray T s ((l.take q).map (·.dst)) (sq E (l.map (·.dst)) (l.drop q) (K .nm)) l' outs := fun l' outs h => dq_sound (ops := l.toArray) h
  have mono2 : ∀ (l' : List Oper) outs, DQ E l.toArray T s ((l.take q).map (·.dst)) (sq E (l.map (·.dst)) (l.drop q) (K .nm)) l' outs → DQ E l.toArray T s ((l.take q).map (·.dst)) (Seq E l.toArray (l.drop q) (K .nm)) l' outs := by
    intro l'
    induction l' with
    | nil => intro outs h; exact htail _ h
    | cons o r ih =>
      intro outs h
      rcases h with ⟨v, Tn, h0, h1, h2, h3⟩ | ⟨d, v, Tn, x, h0, h1, h2, h3, h4, h5, h6⟩ | ⟨x, T', h0, h1, h2, h3, h4, h5⟩
      · exact .inl ⟨v, Tn, h0, h1, h2, ih _ h3⟩
      · exact .inr (.inl ⟨d, v, Tn, x, h0, h1, h2, h3, h4, h5, ih _ h6⟩)
      · exact .inr (.inr ⟨x, T', h0, h1, h2, h3, h4, ih _ h5⟩)
  exact mono2 _ _ (mono _ _ h)

section
variable {E : Env} {R : Option AV → ASt → Prop} {s : ASt} {da ds : List (Option Tmp)} {T : List (List Nat)} {tail : ASt → Prop} {outs : List (AV × Option AV)}
theorem dq_nil : dq E da T s ds tail [] outs = tail (SV s ds outs fun _ => true) := nrfl rfl
theorem dq_none {d : Tmp} {op : Op} {t : TypeId} {pos : String} {after : Array Edge} {rest : List Oper} : dq E da T s ds tail (⟨some d, op, t, pos, after, none⟩ :: rest) outs =
    dq1 E ⟨some d, op, t, pos, after, none⟩ (dnx T ds outs.length d outs (dq E da T s ds tail rest)) (SV s ds outs (memB (T.getD outs.length []))) := nrfl rfl
theorem dq_some {d : Tmp} {op : Op} {t : TypeId} {pos : String} {after : Array Edge} {rest : List Oper} {j : Nat} {b : Bool} : dq E da T s ds tail (⟨some d, op, t, pos, after, some (j, b)⟩ :: rest) outs = match da[j]? with
    | some (some d') => GD E ((SV s ds outs (memB (T.getD outs.length []))).t d') b ⟨some d, op, t, pos, after, some (j, b)⟩ (dnx T ds outs.length d outs (dq E da T s ds tail rest)) (SV s ds outs (memB (T.getD outs.length [])))
    | _ => False := nrfl rfl
theorem dq_store {xt : TypeId} {x y : Operand} {t : TypeId} {pos : String} {after : Array Edge} {rest : List Oper} : dq E da T s ds tail (⟨none, .store xt x y, t, pos, after, none⟩ :: rest) outs =
    dstoreQ E.P xt ((SV s ds outs (memB (T.getD outs.length []))).ev x) ((SV s ds outs (memB (T.getD outs.length []))).ev y) T ds outs (dq E da T s ds tail rest) (SV s ds outs (memB (T.getD outs.length []))) := nrfl rfl
theorem SV_t {x : Nat} {B : Nat → Bool} : (SV s ds outs B).t x = match wh x ds 0 with
    | some i => if B i = true then (match outs[i]? with | some o => outV o.1 | none => .junk) else .junk
    | none => (s.t x).mapRef (killL ds) := nrfl rfl
theorem SV_m {x : Nat} {B : Nat → Bool} : (SV s ds outs B).m x = match wh x ds 0 with
    | some i => if B i = true then pickU (upd x B ds outs 0) (match outs[i]? with | some o => o.2 | none => none) else none
    | none => s.m x := nrfl rfl
theorem GD_same {b : Bool} {o : Oper} : GD E (.lit (.bool b)) b o R s = dq1 E o R s :=
  propext ⟨fun ⟨c, h1, h2⟩ => by
    simp only [AV.lit.injEq] at h1
    subst h1
    rcases h2 with h | h
    · exact h.2
    · exact absurd rfl h.1, fun h => ⟨_, rfl, .inl ⟨rfl, h⟩⟩⟩
theorem GD_not {c : Value} {b : Bool} {o : Oper} (hc : c ≠ .bool b) : GD E (.lit c) b o R s = (o.dst.isSome = true ∧ R none (s.set (dOf o.dst) (.lit Go.undef))) :=
  propext ⟨fun ⟨c', h1, h2⟩ => by
    simp only [AV.lit.injEq] at h1
    subst h1
    rcases h2 with h | h
    · exact absurd h.1 hc
    · exact h.2, fun h => ⟨_, rfl, .inr ⟨hc, h⟩⟩⟩
theorem GD_tf {o : Oper} : GD E (.lit (.bool true)) false o R s = (o.dst.isSome = true ∧ R none (s.set (dOf o.dst) (.lit Go.undef))) := GD_not (by simp)
theorem GD_ft {o : Oper} : GD E (.lit (.bool false)) true o R s = (o.dst.isSome = true ∧ R none (s.set (dOf o.dst) (.lit Go.undef))) := GD_not (by simp)
theorem GD_undef {b : Bool} {o : Oper} : GD E (.lit Go.undef) b o R s = (o.dst.isSome = true ∧ R none (s.set (dOf o.dst) (.lit Go.undef))) := GD_not (by simp [Go.undef])
end

section
variable {E : Env} {K : AX → ASt → Prop} {R : ASt → Prop} {s : ASt}
/-- A call in a region in the text's order. -/
theorem opq_call {P : Program} {G0 X : Nat → Prop} {w0 : World} {nt : Nat} {pv : Nat → Option Value} {d : Nat} {t : TypeId} {pos : String} {after : Array Edge} {g : Option (Nat × Bool)} {fo : Operand} {xs : List Operand} {ts : Array TypeId} {f : FuncId} {caps as : List AV} {res v : AV}
    (hd : Does P f as res) (he : entB P f = true) (hf : s.ev fo = .fn f caps) (ha : xs.map s.ev ++ caps = as) (hn : d < nt) (hr : AV.noRefs as = true) (hv : res.share = v) (h : R (s.set d v)) :
    opq ⟨P, G0, X, w0, nt, pv⟩ ⟨some d, .call { callee := .value fo, args := xs.toArray, argTypes := ts }, t, pos, after, g⟩ R s := by
  subst hv
  exact LJ.of_q (q_call (E := ⟨P, G0, X, w0, nt, pv⟩) hn hf he ha hr hd) h
theorem dop_call {R : Option AV → ASt → Prop} {P : Program} {G0 X : Nat → Prop} {w0 : World} {nt : Nat} {pv : Nat → Option Value} {d : Nat} {t : TypeId} {pos : String} {after : Array Edge} {g : Option (Nat × Bool)} {fo : Operand} {xs : List Operand} {ts : Array TypeId} {f : FuncId} {caps as : List AV} {res v : AV}
    (hd : Does P f as res) (he : entB P f = true) (hf : s.ev fo = .fn f caps) (ha : xs.map s.ev ++ caps = as) (hn : d < nt) (hr : AV.noRefs as = true) (hv : res.share = v) (h : R none (s.set d v)) :
    dop ⟨P, G0, X, w0, nt, pv⟩ ⟨some d, .call { callee := .value fo, args := xs.toArray, argTypes := ts }, t, pos, after, g⟩ R s := by
  subst hv
  exact ⟨d, _, none, rfl, rfl, q_call (E := ⟨P, G0, X, w0, nt, pv⟩) hn hf he ha hr hd, h⟩

theorem aw_loop {c : Code} {ι : Type} (I : ι → ASt → Prop) (mu : ι → Nat) (i : ι) (h0 : I i s)
    (round : ∀ i s, I i s → aw E c (thenK (fun s' => ∃ j, I j s' ∧ mu j < mu i) K) s) : aw E (.loop c) K s := AWP.loop I mu i h0 (fun i s h => aw_sound (round i s h))

theorem retK_rt {fn : Func} {res : AV} : retK E fn res .rt s = RetJ E fn res s := nrfl rfl
theorem retK_nm {fn : Func} {res : AV} : retK E fn res .nm s = RetJ E fn res s := nrfl rfl
/-- A contract from the walk. -/
theorem Does.walk {P : Program} {f : FuncId} {fn : Func} {c : Code} {args : List AV} {res : AV} {nt : Nat} (hf : P.funcs[f]? = some fn) (hb : fn.body = some c) (hnt : fn.ntmps = nt) (hn : args.length ≤ nt) (hn1 : nt ≤ 1000) (hfree : AV.noRefs args = true)
    (h : ∀ (G0 : Nat → Prop) (X : Nat → Prop) (w0 : World) (pv : Nat → Option Value), aw ⟨P, G0, X, w0, nt, pv⟩ c (retK ⟨P, G0, X, w0, nt, pv⟩ fn res) (startT args)) : Does P f args res := by
  subst hnt
  refine Does.of hf hb hn hn1 (AV.noRefs_mem.1 hfree) ?_
  rintro ⟨P', G0, X, w0, nt, pv⟩ rfl rfl
  exact aw_sound (h G0 X w0 pv)
theorem wI (n : Int) (h1 : -9223372036854775808 ≤ n) (h2 : n ≤ 9223372036854775807) : IntKind.wrap .i64 n = n := IntWalk.i64_in n ⟨h1, h2⟩
end

theorem mapT_t {s : ASt} {f : Nat → List Nat → Option (Nat × List Nat)} {i : Nat} : (s.mapT f).t i = (s.t i).mapRef f := nrfl rfl
theorem mapT_m {s : ASt} {f : Nat → List Nat → Option (Nat × List Nat)} {r : Nat} : (s.mapT f).m r = s.m r := nrfl rfl
theorem nodeOf_cons {s : ASt} {r i : Nat} {p : List Nat} : nodeOf s r (i :: p) = (s.m r).bind (fun a => a.at_ (i :: p)) := nrfl rfl

def rowInM : Option AV → Nat → Nat → Prop
  | some (.row true sz n _), sz', m => sz = sz' ∧ m ≤ n
  | _, _, _ => False
def rowAnyM : Option AV → Nat → Prop
  | some (.row true _ n _), m => m ≤ n
  | _, _ => False
theorem rowIn_eq {s : ASt} {r sz m : Nat} {p : List Nat} : rowIn s r p sz m = rowInM (nodeOf s r p) sz m := by
  apply propext
  unfold rowIn
  constructor
  · rintro ⟨n, cs, h, hm⟩; rw [h]; exact ⟨rfl, hm⟩
  · intro h
    generalize nodeOf s r p = N at *
    cases N with
    | none => exact h.elim
    | some A =>
      cases A with
      | row o a n cs =>
        cases o with
        | false => exact h.elim
        | true => exact ⟨n, cs, by rw [h.1], h.2⟩
      | _ => exact h.elim
theorem rowAny_eq {s : ASt} {r m : Nat} {p : List Nat} : rowAny s r p m = rowAnyM (nodeOf s r p) m := by
  apply propext
  unfold rowAny
  constructor
  · rintro ⟨sz, n, cs, h, hm⟩; rw [h]; exact hm
  · intro h
    generalize nodeOf s r p = N at *
    cases N with
    | none => exact h.elim
    | some A =>
      cases A with
      | row o a n cs =>
        cases o with
        | false => exact h.elim
        | true => exact ⟨a, n, cs, rfl, h⟩
      | _ => exact h.elim

def retC (res : AV) : Option (AV × ASt) → Prop
  | some (A, _) => A = res
  | none => False
def retCs (res : List AV) : Option (List AV × ASt) → Prop
  | some (A, _) => A = res
  | none => False
def retQ1 (s : ASt) (res : AV) : Option AV → Prop
  | some v => retC res (closeV s v)
  | none => False
def retQ2 (s : ASt) (res : List AV) : Option AV → Option AV → Prop
  | some v, some v' => retCs res (closeVs s [v, v'])
  | _, _ => False
def retQ3 (s : ASt) (res : List AV) : Option AV → Option AV → Option AV → Prop
  | some v, some v', some v'' => retCs res (closeVs s [v, v', v''])
  | _, _, _ => False
theorem ret_q1 {E : Env} {fn : Func} {res : AV} {s : ASt} {x : ResultVar} (hr : fn.results = #[x]) (h : retQ1 s res (rview E.P s x)) : RetJ E fn res s := by
  unfold retQ1 at h
  split at h
  · rename_i v hv
    unfold retC at h
    split at h
    · rename_i A s' hc; subst h; exact ret_v1 hr hv hc
    · exact h.elim
  · exact h.elim
section
variable {E : Env} {R : Option AV → ASt → Prop} {s : ASt} {d : Nat} {t : TypeId} {pos : String} {after : Array Edge} {g : Option (Nat × Bool)}
theorem dq_move {x : Operand} : dq1 E ⟨some d, .move x, t, pos, after, g⟩ R s = (d < E.nt ∧ R none (s.set d (s.ev x))) := nrfl rfl
theorem dq_pick {c x y : Operand} : dq1 E ⟨some d, .pick c x y, t, pos, after, g⟩ R s = (d < E.nt ∧ pickQ (s.ev c) (s.ev x) (s.ev y) (R none) s d) := nrfl rfl
theorem dq_bin {op : BinOp} {x y : Operand} {xt yt : TypeId} : dq1 E ⟨some d, .binOp op xt x y yt, t, pos, after, g⟩ R s = (d < E.nt ∧ binQ E.P op xt (s.ev x) (s.ev y) (R none) s d) := nrfl rfl
theorem dq_un {op : UnOp} {x : Operand} {xt : TypeId} : dq1 E ⟨some d, .unOp op xt x, t, pos, after, g⟩ R s = (d < E.nt ∧ unQ op (s.ev x) (R none) s d) := nrfl rfl
theorem dq_conv {a b : TypeId} {x : Operand} : dq1 E ⟨some d, .convert a b x, t, pos, after, g⟩ R s = (d < E.nt ∧ convQ E.P a b (s.ev x) (R none) s d) := nrfl rfl
theorem dq_len {x : Operand} {xt : TypeId} : dq1 E ⟨some d, .call { callee := .builtin .len, args := #[x], argTypes := #[xt] }, t, pos, after, g⟩ R s = (d < E.nt ∧ lenQ E.P xt (s.ev x) (R none) s d) := nrfl rfl
theorem dq_max {x y : Operand} {ts : Array TypeId} : dq1 E ⟨some d, .call { callee := .builtin .max, args := #[x, y], argTypes := ts }, t, pos, after, g⟩ R s = (d < E.nt ∧ maxQ (s.ev x) (s.ev y) (R none) s d) := nrfl rfl
theorem dq_min {x y : Operand} {ts : Array TypeId} : dq1 E ⟨some d, .call { callee := .builtin .min, args := #[x, y], argTypes := ts }, t, pos, after, g⟩ R s = (d < E.nt ∧ minQ (s.ev x) (s.ev y) (R none) s d) := nrfl rfl
theorem dq_indexAddr {x y : Operand} {xt : TypeId} : dq1 E ⟨some d, .indexAddr xt x y, t, pos, after, g⟩ R s = (d < E.nt ∧ indexAddrQ E.P xt (s.ev x) (s.ev y) (R none) s d) := nrfl rfl
theorem dq_index {x y : Operand} {xt : TypeId} : dq1 E ⟨some d, .index xt x y, t, pos, after, g⟩ R s = (d < E.nt ∧ indexQ E.P xt (s.ev x) (s.ev y) (R none) s d) := nrfl rfl
theorem dq_fieldAddr {x : Operand} {xt : TypeId} {f : Nat} : dq1 E ⟨some d, .fieldAddr xt x f, t, pos, after, g⟩ R s = (d < E.nt ∧ fieldAddrQ E.P xt (s.ev x) f (R none) s d) := nrfl rfl
theorem dq_load {x : Operand} {xt : TypeId} : dq1 E ⟨some d, .load xt x, t, pos, after, g⟩ R s = (d < E.nt ∧ loadQ E.P xt (s.ev x) (R none) s d) := nrfl rfl
theorem dq_nck {x : Operand} : dq1 E ⟨some d, .nilCheck x, t, pos, after, g⟩ R s = (d < E.nt ∧ nilQ (s.ev x) (R none) s d) := nrfl rfl
theorem dq_field {x : Operand} {xt : TypeId} {f : Nat} : dq1 E ⟨some d, .field xt x f, t, pos, after, g⟩ R s = (d < E.nt ∧ fieldQ E.P xt (s.ev x) f (R none) s d) := nrfl rfl
theorem dq_extract {x : Operand} {i : Nat} : dq1 E ⟨some d, .extract x i, t, pos, after, g⟩ R s = (d < E.nt ∧ extractQ (s.ev x) i (R none) s d) := nrfl rfl
theorem dq_makeFunc {f : FuncId} {caps : List Operand} : dq1 E ⟨some d, .makeFunc (.func f) #[] caps.toArray, t, pos, after, g⟩ R s = (d < E.nt ∧ R none (s.set d (.fn f (caps.map s.ev)))) := nrfl rfl
theorem dq_build {xt : TypeId} {parts : List (Nat × Operand)} : dq1 E ⟨some d, .build xt parts.toArray, t, pos, after, g⟩ R s = (d < E.nt ∧ buildQ E.P xt parts (R none) s d) := nrfl rfl
theorem dq_slice {x : Operand} {xt : TypeId} {lo hi : Option Operand} : dq1 E ⟨some d, .slice xt x lo hi none, t, pos, after, g⟩ R s = (d < E.nt ∧ sliceQ E.P xt (s.ev x) lo hi (R none) s d) := nrfl rfl
theorem dq_assign {x : Operand} : dq1 E ⟨some d, .assign x, t, pos, after, g⟩ R s = (d < E.nt ∧ R none (s.set d (s.ev x))) := nrfl rfl
theorem dq_call {fo : Operand} {xs : List Operand} {ts : Array TypeId} : dq1 E ⟨some d, .call { callee := .value fo, args := xs.toArray, argTypes := ts }, t, pos, after, g⟩ R s = dop E ⟨some d, .call { callee := .value fo, args := xs.toArray, argTypes := ts }, t, pos, after, g⟩ R s := nrfl rfl
theorem dq_alloc {xt : TypeId} : dq1 E ⟨some d, .alloc xt, t, pos, after, g⟩ R s = (d < E.nt ∧ dalloc E.P xt d R s) := nrfl rfl
theorem dq_make {xt : TypeId} {x y : Operand} : dq1 E ⟨some d, .makeSlice xt x y, t, pos, after, g⟩ R s = (d < E.nt ∧ dmk E.P xt (s.ev x) (s.ev y) R s d) := nrfl rfl
end

/-! ### What the walk needs of regions that are taken in -/
theorem tkV_lit {v : Value} : tkV (.lit v) = none := nrfl rfl
theorem outV_lit {v : Value} : outV (.lit v) = (.lit v) := nrfl rfl
theorem moV_lit {v : Value} : moV (.lit v) = none := nrfl rfl
theorem tkV_junk  : tkV .junk = none := nrfl rfl
theorem outV_junk  : outV .junk = .junk := nrfl rfl
theorem moV_junk  : moV .junk = none := nrfl rfl
theorem tkV_row {o : Bool} {sz n : Nat} {cs : List AV} : tkV (.row o sz n cs) = none := nrfl rfl
theorem outV_row {o : Bool} {sz n : Nat} {cs : List AV} : outV (.row o sz n cs) = (.row o sz n cs) := nrfl rfl
theorem moV_row {o : Bool} {sz n : Nat} {cs : List AV} : moV (.row o sz n cs) = none := nrfl rfl
theorem tkV_box {o : Bool} {cs : List AV} : tkV (.box o cs) = none := nrfl rfl
theorem outV_box {o : Bool} {cs : List AV} : outV (.box o cs) = (.box o cs) := nrfl rfl
theorem moV_box {o : Bool} {cs : List AV} : moV (.box o cs) = none := nrfl rfl
theorem tkV_sl {r o n : Nat} {p : List Nat} : tkV (.sl r p o n) = none := nrfl rfl
theorem outV_sl {r o n : Nat} {p : List Nat} : outV (.sl r p o n) = (.sl r p o n) := nrfl rfl
theorem moV_sl {r o n : Nat} {p : List Nat} : moV (.sl r p o n) = none := nrfl rfl
theorem tkV_ptr {r o : Nat} {p : List Nat} : tkV (.ptr r p o) = none := nrfl rfl
theorem outV_ptr {r o : Nat} {p : List Nat} : outV (.ptr r p o) = (.ptr r p o) := nrfl rfl
theorem moV_ptr {r o : Nat} {p : List Nat} : moV (.ptr r p o) = none := nrfl rfl
theorem tkV_agg {cs : List AV} : tkV (.agg cs) = none := nrfl rfl
theorem outV_agg {cs : List AV} : outV (.agg cs) = (.agg cs) := nrfl rfl
theorem moV_agg {cs : List AV} : moV (.agg cs) = none := nrfl rfl
theorem tkV_tup {cs : List AV} : tkV (.tup cs) = none := nrfl rfl
theorem outV_tup {cs : List AV} : outV (.tup cs) = (.tup cs) := nrfl rfl
theorem moV_tup {cs : List AV} : moV (.tup cs) = none := nrfl rfl
theorem tkV_fn {f : FuncId} {cs : List AV} (h : ¬ f = 999999) : tkV (.fn f cs) = none := by simp [tkV, h]
theorem outV_fn {f : FuncId} {cs : List AV} (h : ¬ f = 999999) : outV (.fn f cs) = .fn f cs := by simp [outV, tkV, h]
theorem moV_fn {f : FuncId} {cs : List AV} (h : ¬ f = 999999) : moV (.fn f cs) = none := by simp [moV, h]
theorem unO_none : unO none = none := nrfl rfl
theorem unO_some {a : AV} : unO (some a) = moV a := nrfl rfl
theorem updOne_st {x r i : Nat} {p : List Nat} {T : AV} : updOne x none (.ptr r p i, some T) = if r = x then some T else none := nrfl rfl
theorem updOne_tu {x : Nat} {l Ts : List AV} : updOne x none (.tup l, some (.tup Ts)) = upL x l Ts := nrfl rfl
theorem upL_nil {x : Nat} {Ts : List AV} : upL x [] Ts = none := nrfl rfl
theorem upL_cons {x r i : Nat} {p : List Nat} {T : AV} {l Ts : List AV} : upL x (.ptr r p i :: l) (T :: Ts) = if r = x then some T else upL x l Ts := nrfl rfl
theorem updOne_sm {x : Nat} {d : Tmp} {a T : AV} : updOne x (some d) (a, some T) = (match tkV a with
    | some p => if p.2 = x then some .junk else none
    | none => none) := nrfl rfl
theorem updOne_sn {x : Nat} {d : Tmp} {a : AV} : updOne x (some d) (a, none) = none := nrfl rfl
theorem allRef_mark {f : Nat → Bool} {v : AV} {x : Nat} : AV.allRef f (tkM v x) = (AV.allRef f v && AV.allRef f (.ptr x [] 0)) := by simp [tkM, AV.allRef, AV.allRefs]
theorem splitS_nil : splitS [] = none := nrfl rfl
theorem splitS_sl {r n : Nat} {l : List AV} : splitS (.sl r [] 0 n :: l) = some ([], r, n, l) := nrfl rfl
theorem splitS_lit {v : Value} {l : List AV} : splitS ((.lit v) :: l) = (match splitS l with
    | some (p, r, n, q) => some ((.lit v) :: p, r, n, q)
    | none => none) := nrfl rfl
theorem splitS_row {o : Bool} {sz m : Nat} {cs : List AV} {l : List AV} : splitS ((.row o sz m cs) :: l) = (match splitS l with
    | some (p, r, n, q) => some ((.row o sz m cs) :: p, r, n, q)
    | none => none) := nrfl rfl
theorem splitS_box {o : Bool} {cs : List AV} {l : List AV} : splitS ((.box o cs) :: l) = (match splitS l with
    | some (p, r, n, q) => some ((.box o cs) :: p, r, n, q)
    | none => none) := nrfl rfl
section
variable {T : List (List Nat)} {ds : List (Option Tmp)} {i : Nat} {outs : List (AV × Option AV)} {next : List (AV × Option AV) → Prop} {mo : Option AV} {v : AV}
theorem dnx1_n : dnx1 T ds i outs next mo v none = ((okV ds (T.getD i []) i v = true ∧ tkV v = none) ∧ next (outs ++ [(v, mo)])) := nrfl rfl
theorem dnx1_s {Tn : AV} : dnx1 T ds i outs next mo v (some Tn) = ((okV ds (T.getD i []) i v = true ∧ tkC T ds i outs (tkV v)) ∧ next (outs ++ [(v, some Tn)])) := nrfl rfl
theorem tkC_n : tkC T ds i outs none = True := nrfl rfl
theorem tkC_s {p : AV × Nat} : tkC T ds i outs (some p) = (upOk T ds p.2 i = true ∧ noUp p.2 ds outs = true) := nrfl rfl
end
theorem dq_bs {E : Env} {s : ASt} {R : Option AV → ASt → Prop} {d len : Nat} {t xt : TypeId} {pos : String} {after : Array Edge} {g : Option (Nat × Bool)} {parts : List (Nat × Operand)} : dq1 E ⟨some d, .buildSlice xt len parts.toArray, t, pos, after, g⟩ R s = (d < E.nt ∧ dbs E.P xt len parts g R s d) := nrfl rfl
theorem dbs1_n {P : Program} {t : TypeId} {d len : Nat} {R : Option AV → ASt → Prop} {s : ASt} {As : List AV} : dbs1 P t d len R s As none = ((leafCs As = true ∧ fitCs As = true) ∧ R (some (.row true (slSz P t) len (nilRs (nzE P t) len As))) (s.new d (.sl d [] 0 len) (.row true (slSz P t) len (nilRs (nzE P t) len As)))) := nrfl rfl
theorem dbs1_s {P : Program} {t : TypeId} {d len x n : Nat} {R : Option AV → ASt → Prop} {s : ASt} {As pre post : List AV} : dbs1 P t d len R s As (some (pre, x, n, post)) = dbs2 P t d len R s pre x n post (s.m x) := nrfl rfl
theorem dbs2_s {P : Program} {t : TypeId} {d len x n sz n' : Nat} {R : Option AV → ASt → Prop} {s : ASt} {pre post cs : List AV} : dbs2 P t d len R s pre x n post (some (.row true sz n' cs)) = ((n = n' ∧ leafCs pre = true ∧ fitCs pre = true ∧ leafCs post = true ∧ fitCs post = true ∧ x ≠ d) ∧ R (tkO (.row true (slSz P t) len (nilRs (nzE P t) len (pre ++ .row true sz n' cs :: post)))) (s.set d (tkM (.sl d [] 0 len) x))) := nrfl rfl
end Go.Av
