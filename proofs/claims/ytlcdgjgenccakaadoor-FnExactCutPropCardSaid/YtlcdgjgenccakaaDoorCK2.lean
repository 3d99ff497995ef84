/- The walk through a region whose order is drawn; calls, loops, returns. -/
import Derived.Test.YtlcdgjgenccakaaDoorCK1
import Derived.IntWalk
import Derived.ProofKit
import Derived.ShutString
import Derived.Lib.Bytealg
section
set_option linter.unusedSimpArgs false
set_option linter.unusedVariables false
/-! The walk through a region whose order is drawn; calls, loops, returns. -/
namespace Go.Av

def memB : List Nat → Nat → Bool
  | [], _ => false
  | x :: r, i => if x = i then true else memB r i
theorem memB_contains (l : List Nat) (i : Nat) : memB l i = l.contains i := by
  induction l with
  | nil => rfl
  | cons x r ih =>
    simp only [memB, List.contains_cons, ih]
    by_cases h : x = i
    · subst h; simp
    · have : (i == x) = false := by simpa using fun e => h e.symm
      simp [h, this]
def dOf : Option Tmp → Nat
  | some d => d
  | none => 0
def noUp (r : Nat) (ds : List (Option Tmp)) (outs : List (AV × Option AV)) : Bool := (upd r (fun _ => true) ds outs 0).isNone
def tkC (T : List (List Nat)) (ds : List (Option Tmp)) (i : Nat) (outs : List (AV × Option AV)) : Option (AV × Nat) → Prop
  | none => True
  | some p => upOk T ds p.2 i = true ∧ noUp p.2 ds outs = true
/-- The mark of a region that is made while another is taken in. -/
def unL : List AV → Option AV
  | [T] => some T
  | _ => none
def moV : AV → Option AV
  | .fn f cs => if f = 999999 then unL cs else none
  | .lit _ => none
  | .junk => none
  | .row _ _ _ _ => none
  | .box _ _ => none
  | .sl _ _ _ _ => none
  | .ptr _ _ _ => none
  | .agg _ => none
  | .tup _ => none
def unO : Option AV → Option AV
  | some a => moV a
  | none => none
def tkO (T : AV) : Option AV := some (.fn 999999 [T])
theorem unO_mark {T : AV} : unO (tkO T) = some T := rfl
def dnx1 (T : List (List Nat)) (ds : List (Option Tmp)) (i : Nat) (outs : List (AV × Option AV)) (next : List (AV × Option AV) → Prop) (mo : Option AV) (v : AV) : Option AV → Prop
  | some Tn => (okV ds (T.getD i []) i v = true ∧ tkC T ds i outs (tkV v)) ∧ next (outs ++ [(v, some Tn)])
  | none => (okV ds (T.getD i []) i v = true ∧ tkV v = none) ∧ next (outs ++ [(v, mo)])
def dnx (T : List (List Nat)) (ds : List (Option Tmp)) (i d : Nat) (outs : List (AV × Option AV)) (next : List (AV × Option AV) → Prop) (mo : Option AV) (s : ASt) : Prop := dnx1 T ds i outs next mo (s.t d) (unO mo)
/-- Does 'qv' take it, and does it make no memory? -/
def quietOp : Op → Bool
  | .move _ | .assign _ | .pick .. | .binOp .. | .unOp .. | .convert .. | .indexAddr .. | .index .. | .fieldAddr .. | .load .. | .nilCheck _ | .field .. | .extract .. => true
  | .build _ ⟨_⟩ => true
  | .slice _ _ _ _ none => true
  | .makeFunc (.func _) ⟨[]⟩ _ => true
  | .call { callee := .builtin .len, args := ⟨[_]⟩, argTypes := ⟨[_]⟩ } => true
  | .call { callee := .builtin .max, args := ⟨[_, _]⟩, .. } => true
  | .call { callee := .builtin .min, args := ⟨[_, _]⟩, .. } => true
  | _ => false
/-- An operation that is a call. -/
def dop (E : Env) (o : Oper) (R : Option AV → ASt → Prop) (s : ASt) : Prop := ∃ d v mo, o.dst = some d ∧ unO mo = none ∧ QJ E o s v mo ∧ R mo (put s (some d) v mo)
def dalloc (P : Program) (t : TypeId) (d : Nat) (R : Option AV → ASt → Prop) (s : ASt) : Prop := match zvT P t with
  | some zs => R (some (.box true (nilTs (nzT P t) (zs.map .lit)))) (s.new d (.ptr d [] 0) (.box true (nilTs (nzT P t) (zs.map .lit))))
  | none => False
def dmk (P : Program) (t : TypeId) (x y : AV) (R : Option AV → ASt → Prop) (s : ASt) (d : Nat) : Prop := match x, y with
  | .lit (.int _ n), .lit (.int _ m) => (zOk P t = true ∧ 0 ≤ n ∧ m = n ∧ (byN P t : Int) * n ≤ 281474976710656 ∧ n ≤ 9223372036854775807) ∧ R (some (.row true (zsN P t).length n.toNat (nilRq (nzE P t) n.toNat ((zCells (zsN P t) n.toNat).map .lit)))) (s.new d (.sl d [] 0 n.toNat) (.row true (zsN P t).length n.toNat (nilRq (nzE P t) n.toNat ((zCells (zsN P t) n.toNat).map .lit))))
  | _, _ => False
/-- The first region among values. -/
def splitS : List AV → Option (List AV × Nat × Nat × List AV)
  | [] => none
  | a :: l => match a with
    | .sl r [] 0 n => some ([], r, n, l)
    | a => match splitS l with
      | some (p, r, n, q) => some (a :: p, r, n, q)
      | none => none
theorem splitS_spec : ∀ {l p q : List AV} {r n : Nat}, splitS l = some (p, r, n, q) → l = p ++ .sl r [] 0 n :: q
  | [], p, q, r, n, h => by simp [splitS] at h
  | a :: l, p, q, r, n, h => by
    simp only [splitS] at h
    split at h
    · simp only [Option.some.injEq, Prod.mk.injEq] at h
      obtain ⟨rfl, rfl, rfl, rfl⟩ := h; rfl
    · split at h
      · rename_i p' r' n' q' h'
        simp only [Option.some.injEq, Prod.mk.injEq] at h
        obtain ⟨rfl, rfl, rfl, rfl⟩ := h
        rw [splitS_spec h']; rfl
      · cases h
def dbs2 (P : Program) (t : TypeId) (d len : Nat) (R : Option AV → ASt → Prop) (s : ASt) (pre : List AV) (x n : Nat) (post : List AV) : Option AV → Prop
  | some (.row true sz n' cs) => (n = n' ∧ leafCs pre = true ∧ fitCs pre = true ∧ leafCs post = true ∧ fitCs post = true ∧ x ≠ d) ∧ R (tkO (.row true (slSz P t) len (nilRs (nzE P t) len (pre ++ .row true sz n' cs :: post)))) (s.set d (tkM (.sl d [] 0 len) x))
  | _ => False
def dbs1 (P : Program) (t : TypeId) (d len : Nat) (R : Option AV → ASt → Prop) (s : ASt) (As : List AV) : Option (List AV × Nat × Nat × List AV) → Prop
  | some (pre, x, n, post) => dbs2 P t d len R s pre x n post (s.m x)
  | none => (leafCs As = true ∧ fitCs As = true) ∧ R (some (.row true (slSz P t) len (nilRs (nzE P t) len As))) (s.new d (.sl d [] 0 len) (.row true (slSz P t) len (nilRs (nzE P t) len As)))
def dbs (P : Program) (t : TypeId) (len : Nat) (parts : List (Nat × Operand)) (g : Option (Nat × Bool)) (R : Option AV → ASt → Prop) (s : ASt) (d : Nat) : Prop :=
  (g = none ∧ zOk P t = true ∧ parts.length = len ∧ len * slSz P t ≤ 16777216 ∧ bsOk s (slSz P t) 0 parts) ∧ dbs1 P t d len R s (bsA s parts) (splitS (bsA s parts))
/-- An append that takes in a row which was made in the same drawn region, of a row that is shared. -/
def dap2 (P : Program) (t : TypeId) (d x k sz m : Nat) (es : List AV) (R : Option AV → ASt → Prop) (s : ASt) : Option AV → Prop
  | some (.row true sz' n cs) => (appOk P t k m ∧ k = n ∧ sz' = slSz P t ∧ sz = slSz P t ∧ cs.length = n * sz' ∧ leafCs es = true ∧ fitCs es = true ∧ x ≠ d) ∧ R (tkO (.row true (slSz P t) (k + m) (cs ++ es))) (s.set d (tkM (.sl d [] 0 (k + m)) x))
  | _ => False
/-- An append of a row that is one's own and stays, to a row which was made in the same drawn region. -/
def dap3 (P : Program) (t : TypeId) (d x k m : Nat) (R : Option AV → ASt → Prop) (s : ASt) : Option AV → Option AV → Prop
  | some (.row true sz n2 es), some (.row true sz' n cs) => (appOk P t k m ∧ k = n ∧ m = n2 ∧ sz' = slSz P t ∧ sz = slSz P t ∧ es.length = n2 * sz ∧ cs.length = n * sz' ∧ leafCs es = true ∧ fitCs es = true ∧ x ≠ d) ∧ R (tkO (.row true (slSz P t) (k + m) (cs ++ es))) (s.set d (tkM (.sl d [] 0 (k + m)) x))
  | _, _ => False
def dap (E : Env) (o : Oper) (t : TypeId) (d : Nat) (R : Option AV → ASt → Prop) (s : ASt) (x y : AV) : Prop := match x, y with
  | .sl r [] 0 k, .row false sz m es => o.guard = none ∧ dap2 E.P t d r k sz m es R s (s.m r)
  | .sl r [] 0 k, .sl r2 [] 0 m => o.guard = none ∧ r2 ≠ r ∧ dap3 E.P t d r k m R s (s.m r2) (s.m r)
  | _, _ => dop E o R s
def dmem (E : Env) (o : Oper) (d : Nat) (R : Option AV → ASt → Prop) (s : ASt) : Prop := match o.op with
  | .call { callee := .builtin .append, args := ⟨[x, y]⟩, argTypes := ⟨[t, t']⟩ } => (d < E.nt ∧ t' = t) ∧ dap E o t d R s (s.ev x) (s.ev y)
  | .alloc t => d < E.nt ∧ dalloc E.P t d R s
  | .makeSlice t x y => d < E.nt ∧ dmk E.P t (s.ev x) (s.ev y) R s d
  | .buildSlice t len ⟨parts⟩ => d < E.nt ∧ dbs E.P t len parts o.guard R s d
  | _ => dop E o R s
def dq1 (E : Env) (o : Oper) (R : Option AV → ASt → Prop) (s : ASt) : Prop := if quietOp o.op = true then (match o.dst with
    | some d => qv E o d (R none) s
    | none => False) else (match o.dst with
    | some d => dmem E o d R s
    | none => False)
def GD (E : Env) (v : AV) (b : Bool) (o : Oper) (R : Option AV → ASt → Prop) (s : ASt) : Prop := ∃ c, v = .lit c ∧ ((c = .bool b ∧ dq1 E o R s) ∨ (c ≠ .bool b ∧ o.dst.isSome = true ∧ R none (s.set (dOf o.dst) (.lit Go.undef))))
theorem new_boxN {E : Env} {M : Nat → Option HT} {G : Nat → Prop} {s' : ASt} {a : Act} {w : World} {d : Nat} (hX : RelX E M G s' a w) (e : TypeId) (vs As : List AV) (us : List Value) (hl : us.length = vs.length) (hN : NilLes vs As)
    (h : ∀ (i : Nat) (v : AV) (u : Value), vs[i]? = some v → us[i]? = some u → Sat w G (.leaf v u)) :
    ∃ T : HT, T.erase = .box true As ∧ Sat (w.alloc (.cells us.toArray e)) G T ∧ T.blocks.Nodup ∧ (∀ x ∈ T.blocks, w.heap.size ≤ x ∧ x < (w.alloc (.cells us.toArray e)).heap.size ∧ ¬ G x) ∧ T.value = .pointer (some ⟨w.heap.size, 0, none⟩) ∧
      VR (w.alloc (.cells us.toArray e)) G (updF M d (some T)) (.ptr d [] 0) (.pointer (some ⟨w.heap.size, 0, none⟩)) := by
  obtain ⟨Ks0, h1, h2, h3, h4, h5⟩ := leaves vs us hl h
  have hs : ∀ K ∈ Ks0, Sat w G K := fun K hK => by obtain ⟨i, hi⟩ := List.mem_iff_getElem?.1 hK; exact (h5 i K hi).1
  obtain ⟨Ks, f1, f2, f3, f4⟩ := nilUps Ks0 As hs (by rw [h2]; exact hN)
  have fb : ∀ K ∈ Ks, ∀ b ∈ K.blocks, False := fun K hK b hb => by
    have : b ∈ HT.blockss Ks := by rw [HT.blockss_eq]; exact List.mem_flatMap.2 ⟨K, hK, hb⟩
    rw [f3, h3] at this; cases this
  have fl : Ks.length = us.length := by
    have e : (HT.values Ks).length = (HT.values Ks0).length := by rw [f2]
    rw [HT.values_eq, HT.values_eq, List.length_map, List.length_map] at e
    rw [e, h4, hl]
  have fv : ∀ (i : Nat) (K : HT), Ks[i]? = some K → us[i]? = some K.value := fun i K hK => by
    have e : (HT.values Ks)[i]? = (HT.values Ks0)[i]? := by rw [f2]
    rw [HT.values_eq, HT.values_eq, List.getElem?_map, List.getElem?_map, hK] at e
    cases h0 : Ks0[i]? with
    | none => rw [h0] at e; simp at e
    | some K0 => rw [h0] at e; simp at e; rw [e]; exact (h5 i K0 h0).2
  refine ⟨.box w.heap.size Ks, by simp [HT.erase, f1], ?_, by simp [HT.blocks, f3, h3], fun x hx => ?_, rfl, ?_⟩
  · have hG : ∀ b, G b → (w.alloc (.cells us.toArray e)).heap[b]? = w.heap[b]? := fun b hb => (alloc_ext w _).block b (hX.gd b hb).1 (fun h => h)
    refine .box _ _ us.toArray e (alloc_new w _) (by simp [fl]) (fun i K hK => by simpa using fv i K hK) (fun i K hK => (f4 K (List.mem_of_getElem? hK)).congr (fun b hb => (fb K (List.mem_of_getElem? hK) b hb).elim) hG (fun _ h => h))
  · simp only [HT.blocks, f3, h3, List.mem_singleton] at hx
    subst hx
    exact ⟨Nat.le_refl _, by simp, fun hg => Nat.lt_irrefl _ (hX.gd _ hg).1⟩
  · refine .ptr _ _ _ _ (fun T' hT' b' sz' n' cap' cs' hN' => ?_) (fun T' hT' b' cs' hN' => ?_)
    · simp only [updF, if_true, Option.some.injEq] at hT'; subst hT'
      simp [HT.at_] at hN'
    · simp only [updF, if_true, Option.some.injEq] at hT'; subst hT'
      simp only [HT.at_, Option.some.injEq, HT.box.injEq] at hN'
      obtain ⟨rfl, rfl⟩ := hN'
      rfl
theorem q_alloc {E : Env} {s : ASt} {d : Nat} {t xt : TypeId} {pos : String} {after : Array Edge} {g : Option (Nat × Bool)} {zs : List Value} (hd : d < E.nt) (hz : zvT E.P xt = some zs) : QJ E ⟨some d, .alloc xt, t, pos, after, g⟩ s (.ptr d [] 0) (some (.box true (nilTs (nzT E.P xt) (zs.map .lit)))) :=
  .mem rfl hd fun s' M G a w hle hX => by
    obtain ⟨z, h1, h2⟩ := run_zero (P := E.P) hz w
    obtain ⟨T, g1, g2, g3, g4, g5, g6⟩ := new_boxN (d := d) hX xt (zs.map .lit) _ zs (by simp) (nilTs_le (nzT E.P xt) _) (fun j v u hv hu => by
      rw [List.getElem?_map, hu] at hv
      simp only [Option.map_some, Option.some.injEq] at hv
      subst hv
      exact .leaf _ _ rfl (.lit _))
    refine ⟨_, _, G, T, ?_, alloc_ext _ _, fun _ h => h, fun _ h => .inl h, g1, g2, g3, g4, g6⟩
    simp only [← h2, Array.toArray_toList]
    simp [execOp, Instr.alloc, newVar, newRow, h1]
def dst1 (E : Env) (da : List (Option Tmp)) (o : Oper) (R : Option AV → ASt → Prop) (s : ASt) : Prop := match o.guard with
  | none => dq1 E o R s
  | some (j, b) => match da[j]? with
    | some (some d') => GD E (s.t d') b o R s
    | _ => False
/-- A store into what was made in the region. -/
def dstoreQ (P : Program) (t : TypeId) (x v : AV) (T : List (List Nat)) (ds : List (Option Tmp)) (outs : List (AV × Option AV)) (next : List (AV × Option AV) → Prop) (s : ASt) : Prop := match x with
  | .ptr r [] o => (leafCs v.parts = true ∧ fitCs v.parts = true ∧ szT P t = some v.parts.length ∧ 0 < v.parts.length ∧ memN (s.m r) = true ∧ o + v.parts.length ≤ (cellsOf (s.m r)).length ∧ upOk T ds r outs.length = true ∧ noUp r ds outs = true) ∧ next (outs ++ [(.ptr r [] 0, some (setNs o v.parts (s.m r)))])
  | _ => False
def dstep (E : Env) (da : List (Option Tmp)) (T : List (List Nat)) (ds : List (Option Tmp)) (o : Oper) (outs : List (AV × Option AV)) (next : List (AV × Option AV) → Prop) (s : ASt) : Prop := match o.dst with
  | some d => dst1 E da o (dnx T ds outs.length d outs next) s
  | none => match o.op, o.guard with
    | .store t x y, none => dstoreQ E.P t (s.ev x) (s.ev y) T ds outs next s
    | _, _ => False
theorem closeVs_leaf {s : ASt} : ∀ {vs : List AV}, leafCs vs = true → fitCs vs = true → closeVs s vs = some (vs, s)
  | [], _, _ => rfl
  | v :: vs, h, hf => by
    simp only [leafCs, fitCs, Bool.and_eq_true] at h hf
    have hv : closeV s v = some (v, s) := by
      cases v with
      | row o _ _ _ => cases o <;> simp_all [AV.leafOk, closeV]
      | box o _ => cases o <;> simp_all [AV.leafOk, closeV]
      | junk => simp [fitC] at hf
      | _ => simp_all [AV.leafOk, closeV]
    simp only [closeVs, hv, closeVs_leaf h.2 hf.2]
def dq (E : Env) (da : List (Option Tmp)) (T : List (List Nat)) (s : ASt) (ds : List (Option Tmp)) (tail : ASt → Prop) : List Oper → (List (AV × Option AV) → Prop)
  | [] => fun outs => tail (SV s ds outs fun _ => true)
  | o :: rest => fun outs => dstep E da T ds o outs (dq E da T s ds tail rest) (SV s ds outs (memB (T.getD outs.length [])))

theorem closeVs_pre {s : ASt} : ∀ {pre vs : List AV}, leafCs pre = true → fitCs pre = true → closeVs s (pre ++ vs) = (closeVs s vs).map (fun p => (pre ++ p.1, p.2))
  | [], vs, _, _ => by cases h : closeVs s vs <;> simp [h]
  | v :: pre, vs, h, hf => by
    simp only [leafCs, fitCs, Bool.and_eq_true] at h hf
    have hv : closeV s v = some (v, s) := by
      cases v with
      | row o _ _ _ => cases o <;> simp_all [AV.leafOk, closeV]
      | box o _ => cases o <;> simp_all [AV.leafOk, closeV]
      | junk => simp [fitC] at hf
      | _ => simp_all [AV.leafOk, closeV]
    simp only [List.cons_append, closeVs, hv]
    rw [closeVs_pre h.2 hf.2]
    cases closeVs s vs <;> simp
theorem bsOk_le {s s' : ASt} (h : Le s s') {sz : Nat} : ∀ (k : Nat) (l : List (Nat × Operand)), bsOk s sz k l → bsOk s' sz k l ∧ bsA s' l = bsA s l
  | k, [], _ => ⟨trivial, rfl⟩
  | k, (i, x) :: l, hb => by
    obtain ⟨⟨h1, h2, h3⟩, h4⟩ := hb
    have hj : s.ev x ≠ .junk := fun e => by rw [e] at h2; exact h2
    have he : s'.ev x = s.ev x := h.ev rfl hj
    obtain ⟨k1, k2⟩ := bsOk_le h (k + 1) l h4
    exact ⟨⟨⟨h1, by rw [he]; exact h.cellOk h2, by rw [he]; exact h3⟩, k1⟩, by simp only [bsA, he, k2]⟩
theorem tj_bs {E : Env} {s : ASt} {d : Nat} {t xt : TypeId} {pos : String} {after : Array Edge} {len : Nat} {parts : List (Nat × Operand)} {pre post : List AV} {x n sz' : Nat} {cs : List AV} (hd : d < E.nt) (h1 : zOk E.P xt = true) (hlen : parts.length = len) (h3 : len * slSz E.P xt ≤ 16777216) (h4 : bsOk s (slSz E.P xt) 0 parts)
    (hp : splitS (bsA s parts) = some (pre, x, n, post)) (hm : s.m x = some (.row true sz' n cs)) (l1 : leafCs pre = true) (l2 : fitCs pre = true) (l3 : leafCs post = true) (l4 : fitCs post = true) (hxd : x ≠ d) :
    TJ E ⟨some d, .buildSlice xt len parts.toArray, t, pos, after, none⟩ s d (.sl d [] 0 len) (.row true (slSz E.P xt) len (nilRs (nzE E.P xt) len (pre ++ .row true sz' n cs :: post))) x := by
  subst hlen
  refine ⟨by rw [hm]; rfl, hxd, fun s' hle a w hr => ?_⟩
  obtain ⟨z1, z2, z3, z4⟩ := of_zOk h1
  rw [z3] at h3 h4 ⊢
  obtain ⟨hb', hA⟩ := bsOk_le hle 0 parts h4
  have hm' := hle.m x _ hm
  have hc : closeVs s' (bsA s' parts) = some (pre ++ .row true sz' n cs :: post, s'.updM x [] .junk) := by
    rw [hA, splitS_spec hp, closeVs_pre l1 l2]
    have hv : closeV s' (.sl x [] 0 n) = some (.row true sz' n cs, s'.updM x [] .junk) := by
      simp only [closeV, nodeOf_nil, hm', and_self, if_true]
    simp only [closeVs, hv, closeVs_leaf l3 l4, Option.map_some]
  have := l_buildSlice (R := fun s2 => s2 = (s'.updM x [] .junk).new d (.sl d [] 0 parts.length) (.row true (zsN E.P xt).length parts.length (nilRs (nzE E.P xt) parts.length (pre ++ .row true sz' n cs :: post)))) (E := E) (t := t) (pos := pos) (after := after) (g := none) (nilRs_le _ _ _) hd z1 z2 hb' h3 hc rfl a w hr
  exact Oper.wp_both (fun a' w' ⟨s2, k1, k2⟩ => k2 ▸ k1) this
theorem qj_bs {E : Env} {s : ASt} {d : Nat} {t xt : TypeId} {pos : String} {after : Array Edge} {len : Nat} {parts : List (Nat × Operand)} (hd : d < E.nt) (h1 : zOk E.P xt = true) (hlen : parts.length = len) (h3 : len * slSz E.P xt ≤ 16777216) (h4 : bsOk s (slSz E.P xt) 0 parts) (l1 : leafCs (bsA s parts) = true) (l2 : fitCs (bsA s parts) = true) :
    QJ E ⟨some d, .buildSlice xt len parts.toArray, t, pos, after, none⟩ s (.sl d [] 0 len) (some (.row true (slSz E.P xt) len (nilRs (nzE E.P xt) len (bsA s parts)))) := by
  subst hlen
  intro s' hle a w hr
  obtain ⟨z1, z2, z3, z4⟩ := of_zOk h1
  rw [z3] at h3 h4 ⊢
  obtain ⟨hb', hA⟩ := bsOk_le hle 0 parts h4
  have hc : closeVs s' (bsA s' parts) = some (bsA s parts, s') := by rw [hA]; exact closeVs_leaf l1 l2
  have := l_buildSlice (R := fun s2 => s2 = s'.new d (.sl d [] 0 parts.length) (.row true (zsN E.P xt).length parts.length (nilRs (nzE E.P xt) parts.length (bsA s parts)))) (E := E) (t := t) (pos := pos) (after := after) (g := none) (nilRs_le _ _ _) hd z1 z2 hb' h3 hc rfl a w hr
  exact Oper.wp_both (fun a' w' ⟨s2, k1, k2⟩ => by rw [k2] at k1; exact k1) this
theorem tj_app {E : Env} {s : ASt} {d : Nat} {t xt : TypeId} {pos : String} {after : Array Edge} {x y : Operand} {r k sz sz' m : Nat} {cs es : List AV} (hd : d < E.nt) (hx : s.ev x = .sl r [] 0 k) (hy : s.ev y = .row false sz m es) (hm : s.m r = some (.row true sz' k cs))
    (ok : appOk E.P xt k m) (h1 : sz' = slSz E.P xt) (h2 : sz = slSz E.P xt) (hl : cs.length = k * sz') (l1 : leafCs es = true) (l2 : fitCs es = true) (hrd : r ≠ d) :
    TJ E ⟨some d, .call { callee := .builtin .append, args := #[x, y], argTypes := #[xt, xt] }, t, pos, after, none⟩ s d (.sl d [] 0 (k + m)) (.row true (slSz E.P xt) (k + m) (cs ++ es)) r := by
  refine ⟨by rw [hm]; rfl, hrd, fun s' hle a w hr => ?_⟩
  have hm' := hle.m r _ hm
  have hx' := hle.ev hx (by simp)
  have hy' := hle.ev hy (by simp)
  have h : appQ E.P xt (s'.ev x) (s'.ev y) (fun s2 => s2 = (s'.updM r [] .junk).new d (.sl d [] 0 (k + m)) (.row true (slSz E.P xt) (k + m) (cs ++ es))) s' d := by
    rw [hx', hy']
    show appA E.P xt r [] 0 k _ _ s' d (nodeOf s' r [])
    rw [nodeOf_nil, hm']
    refine ⟨⟨rfl, h1, Nat.le_refl _, hl⟩, ?_⟩
    simp only [appC, appB, if_true]
    exact ⟨⟨ok, h2, l1, l2⟩, trivial⟩
  have := of_append (t := t) (pos := pos) (after := after) (g := none) hd h a w hr
  exact Oper.wp_both (fun a' w' ⟨s2, k1, k2⟩ => k2 ▸ k1) this
theorem tj_app2 {E : Env} {s : ASt} {d : Nat} {t xt : TypeId} {pos : String} {after : Array Edge} {x y : Operand} {r r2 k sz sz' m : Nat} {cs es : List AV} (hd : d < E.nt) (hx : s.ev x = .sl r [] 0 k) (hy : s.ev y = .sl r2 [] 0 m) (hne : r2 ≠ r) (hm2 : s.m r2 = some (.row true sz m es)) (hm : s.m r = some (.row true sz' k cs))
    (ok : appOk E.P xt k m) (h1 : sz' = slSz E.P xt) (h2 : sz = slSz E.P xt) (hl2 : es.length = m * sz) (hl : cs.length = k * sz') (l1 : leafCs es = true) (l2 : fitCs es = true) (hrd : r ≠ d) :
    TJ E ⟨some d, .call { callee := .builtin .append, args := #[x, y], argTypes := #[xt, xt] }, t, pos, after, none⟩ s d (.sl d [] 0 (k + m)) (.row true (slSz E.P xt) (k + m) (cs ++ es)) r := by
  refine ⟨by rw [hm]; rfl, hrd, fun s' hle a w hr => ?_⟩
  have hm' := hle.m r _ hm
  have hm2' := hle.m r2 _ hm2
  have hx' := hle.ev hx (by simp)
  have hy' := hle.ev hy (by simp)
  have h : appQ E.P xt (s'.ev x) (s'.ev y) (fun s2 => s2 = (s'.updM r [] .junk).new d (.sl d [] 0 (k + m)) (.row true (slSz E.P xt) (k + m) (cs ++ es))) s' d := by
    rw [hx', hy']
    show appA E.P xt r [] 0 k _ _ s' d (nodeOf s' r [])
    rw [nodeOf_nil, hm']
    refine ⟨⟨rfl, h1, Nat.le_refl _, hl⟩, ?_⟩
    simp only [appC]
    rw [if_neg (fun h => hne h.2.1)]
    show appRow _ _ r2 [] 0 m k _ _ _ _ (nodeOf s' r2 [])
    rw [nodeOf_nil, hm2']
    refine ⟨⟨ok, h2, by omega, by simpa using l2, hl2⟩, ?_⟩
    simp [l1]
  have := of_append (t := t) (pos := pos) (after := after) (g := none) hd h a w hr
  exact Oper.wp_both (fun a' w' ⟨s2, k1, k2⟩ => k2 ▸ k1) this
theorem of_dq1 {E : Env} {o : Oper} {R : Option AV → ASt → Prop} {s : ASt} (h : dq1 E o R s) : (∃ d v mo, o.dst = some d ∧ unO mo = none ∧ QJ E o s v mo ∧ R mo (put s (some d) v mo)) ∨ (∃ d v Tn x, o.dst = some d ∧ o.guard = none ∧ TJ E o s d v Tn x ∧ R (tkO Tn) (s.set d (tkM v x))) := by
  unfold dq1 at h
  split at h
  · rename_i hq
    refine .inl ?_
    split at h
    · rename_i d hd
      obtain ⟨d0, op, t, pos, after, g⟩ := o
      simp only at hd hq
      subst hd
      have fin : (∃ v, QJ E ⟨some d, op, t, pos, after, g⟩ s v none ∧ R none (s.set d v)) → ∃ d' v mo, some d = some d' ∧ unO mo = none ∧ QJ E ⟨some d, op, t, pos, after, g⟩ s v mo ∧ R mo (put s (some d') v mo) := fun ⟨v, h1, h2⟩ => ⟨d, v, none, rfl, rfl, h1, h2⟩
      unfold qv at h
      split at h
      · rename_i e; simp only at e; subst e; exact fin ⟨_, q_move h.1, h.2⟩
      · rename_i e; simp only at e; subst e; exact fin ⟨_, q_assign h.1, h.2⟩
      · rename_i e; simp only at e; subst e; exact fin (of_pick h.1 h.2)
      · rename_i e; simp only at e; subst e; exact fin (of_bin h.1 h.2)
      · rename_i e; simp only at e; subst e; exact fin (of_un h.1 h.2)
      · rename_i e; simp only at e; subst e; exact fin (of_conv h.1 h.2)
      · rename_i e; simp only at e; subst e; exact fin (of_len h.1 h.2)
      · rename_i e; simp only at e; subst e; exact fin (of_max h.1 h.2)
      · rename_i e; simp only at e; subst e; exact fin (of_min h.1 h.2)
      · rename_i e; simp only at e; subst e; exact fin (of_indexAddr h.1 h.2)
      · rename_i e; simp only at e; subst e; exact fin (of_index h.1 h.2)
      · rename_i e; simp only at e; subst e; exact fin (of_fieldAddr h.1 h.2)
      · rename_i e; simp only at e; subst e; exact fin (of_load h.1 h.2)
      · rename_i e; simp only at e; subst e; exact fin (of_nck h.1 h.2)
      · rename_i e; simp only at e; subst e; exact fin (of_field h.1 h.2)
      · rename_i e; simp only at e; subst e; exact fin (of_extract h.1 h.2)
      · rename_i e; simp only at e; subst e; exact fin ⟨_, q_makeFunc h.1, h.2⟩
      · rename_i e; simp only at e; subst e; simp [quietOp] at hq
      · rename_i e; simp only at e; subst e; simp [quietOp] at hq
      · rename_i e; simp only at e; subst e; simp [quietOp] at hq
      · rename_i e; simp only at e; subst e; exact fin (of_build h.1 h.2)
      · rename_i e; simp only at e; subst e; simp [quietOp] at hq
      · rename_i e; simp only at e; subst e; exact fin (of_slice h.1 h.2)
      · rename_i e; simp only at e; subst e; simp [quietOp] at hq
      · rename_i h1 h2 h3 h4 h5 h6 h7 h8 h9 h10 h11 h12 h13 h14 h15 h16 h17 h18 h19 h20 h21 h22 h23 h24
        exfalso
        simp only at h1 h2 h3 h4 h5 h6 h7 h8 h9 h10 h11 h12 h13 h14 h15 h16 h17 h18 h19 h20 h21 h22 h23 h24
        unfold quietOp at hq
        split at hq
        · exact h1 _ rfl
        · exact h2 _ rfl
        · exact h3 _ _ _ rfl
        · exact h4 _ _ _ _ _ rfl
        · exact h5 _ _ _ rfl
        · exact h6 _ _ _ rfl
        · exact h10 _ _ _ rfl
        · exact h11 _ _ _ rfl
        · exact h12 _ _ _ rfl
        · exact h13 _ _ rfl
        · exact h14 _ rfl
        · exact h15 _ _ _ rfl
        · exact h16 _ _ rfl
        · exact h21 _ _ rfl
        · exact h23 _ _ _ _ rfl
        · rename_i a; obtain ⟨a⟩ := a; exact h17 _ _ rfl
        · exact h7 _ _ rfl
        · exact h8 _ _ _ rfl
        · exact h9 _ _ _ rfl
        · cases hq
    · exact h.elim
  · split at h
    · rename_i d hd
      obtain ⟨d0, op, t, pos, after, g⟩ := o
      simp only at hd
      subst hd
      unfold dmem at h
      split at h
      · rename_i x y xt xt' e
        simp only at e; subst e
        obtain ⟨⟨h1, rfl⟩, h⟩ := h
        unfold dap at h
        split at h
        · rename_i r k sz m es hx hy
          obtain ⟨hg, h⟩ := h
          simp only at hg; subst hg
          unfold dap2 at h
          split at h
          · rename_i sz' n cs hm
            obtain ⟨⟨k1, rfl, k2, k3, k4, k5, k6, k7⟩, h⟩ := h
            exact .inr ⟨d, _, _, r, rfl, rfl, tj_app h1 hx hy hm k1 k2 k3 k4 k5 k6 k7, h⟩
          · exact h.elim
        · rename_i r k r2 m hx hy
          obtain ⟨hg, hne, h⟩ := h
          simp only at hg; subst hg
          unfold dap3 at h
          split at h
          · rename_i sz n2 es sz' n cs hm2 hm
            obtain ⟨⟨k1, rfl, rfl, k2, k3, k4, k5, k6, k7, k8⟩, h⟩ := h
            exact .inr ⟨d, _, _, r, rfl, rfl, tj_app2 h1 hx hy hne hm2 hm k1 k2 k3 k4 k5 k6 k7 k8, h⟩
          · exact h.elim
        · exact .inl h
      · rename_i xt e
        simp only at e; subst e
        obtain ⟨h1, h2⟩ := h
        unfold dalloc at h2
        split at h2
        · rename_i zs hz
          exact .inl ⟨d, _, _, rfl, rfl, q_alloc h1 hz, h2⟩
        · exact h2.elim
      · rename_i xt x y e
        simp only at e; subst e
        obtain ⟨h1, h⟩ := h
        unfold dmk at h
        split at h
        · rename_i k n k' m h3 h4
          obtain ⟨⟨z1, z2, rfl, z3, z4⟩, h5⟩ := h
          obtain ⟨n, rfl⟩ := Int.eq_ofNat_of_zero_le z2
          have : ∃ zs b, zcT E.P xt = some (zs, b) ∧ zsN E.P xt = zs ∧ byN E.P xt = b ∧ 0 < zs.length ∧ zs.all (·.oneCell') = true := by
            unfold zOk at z1
            split at z1
            · rename_i zs b e
              simp only [Bool.and_eq_true, decide_eq_true_eq] at z1
              exact ⟨zs, b, e, by simp [zsN, e], by simp [byN, e], z1.1, z1.2⟩
            · cases z1
          obtain ⟨zs, b, e1, e2, e3, e4, e5⟩ := this
          rw [e2] at h5
          rw [e3] at z3
          exact .inl ⟨d, _, _, rfl, rfl, q_makeN (nilRq_le _ _ _) h1 e1 h3 h4 e4 (by have : ((b * n : Nat) : Int) ≤ 281474976710656 := (by rw [Int.natCast_mul]; exact z3); omega) (by omega), h5⟩
        · exact h.elim
      · rename_i xt len parts e
        simp only at e; subst e
        obtain ⟨h1, ⟨rfl, g1, g2, g3, g4⟩, h⟩ := h
        unfold dbs1 at h
        split at h
        · rename_i pre x n post hp
          unfold dbs2 at h
          split at h
          · rename_i sz n' cs hm
            obtain ⟨⟨rfl, k1, k2, k3, k4, k5⟩, h⟩ := h
            exact .inr ⟨d, _, _, x, rfl, rfl, tj_bs h1 g1 g2 g3 g4 hp hm k1 k2 k3 k4 k5, h⟩
          · exact h.elim
        · obtain ⟨⟨k1, k2⟩, h⟩ := h
          exact .inl ⟨d, _, some _, rfl, rfl, qj_bs h1 g1 g2 g3 g4 k1 k2, h⟩
      · exact .inl h
    · exact h.elim

theorem uj_store {E : Env} {s : ASt} {x y : Operand} {t xt : TypeId} {pos : String} {after : Array Edge} {r o : Nat} (hx : s.ev x = .ptr r [] o) (h1 : leafCs (s.ev y).parts = true) (h2 : fitCs (s.ev y).parts = true) (h3 : szT E.P xt = some (s.ev y).parts.length) (h4 : 0 < (s.ev y).parts.length)
    (h5 : memN (s.m r) = true) (h6 : o + (s.ev y).parts.length ≤ (cellsOf (s.m r)).length) : UJ E ⟨none, .store xt x y, t, pos, after, none⟩ s r (setNs o (s.ev y).parts (s.m r)) := by
  obtain ⟨A, hA⟩ : ∃ A, s.m r = some A := by
    cases hm : s.m r with
    | none => rw [hm] at h5; cases h5
    | some A => exact ⟨A, rfl⟩
  refine ⟨by rw [hA]; rfl, fun s' hle a w hr => ?_⟩
  have hA' := hle.m r A hA
  have hx' := hle.ev hx (by simp)
  have hyj : s.ev y ≠ .junk := fun e => by
    rw [e] at h1 h2; simp [AV.parts, fitCs, fitC] at h2
  have hy' := hle.ev rfl hyj
  have := l_storeTree (NilLes.refl _) (E := E) (s := s') (s1 := s') (x := x) (y := y) (t := t) (xt := xt) (pos := pos) (after := after) (g := none) (R := fun s2 => s2 = s'.updM r [] (setNs o (s.ev y).parts (s.m r))) (As := (s.ev y).parts) hx' (by rw [hy']; exact closeVs_leaf h1 h2) h2 h3 h4
    (by rw [nodeOf_nil, hA', ← hA]; exact h5) (by rw [nodeOf_nil, hA', ← hA]; exact h6) (by rw [if_pos h1, nodeOf_nil, hA', hA]) a w hr
  exact Oper.wp_both (fun a' w' ⟨s2, k1, k2⟩ => k2 ▸ k1) this
theorem dq_sound {E : Env} {ops : Array Oper} {T : List (List Nat)} {s : ASt} {ds : List (Option Tmp)} {tail : ASt → Prop} : ∀ {l : List Oper} {outs : List (AV × Option AV)}, dq E (ops.toList.map (·.dst)) T s ds tail l outs → DQ E ops T s ds tail l outs
  | [], outs, h => h
  | o :: rest, outs, h => by
    have hB : memB (T.getD outs.length []) = (T.getD outs.length []).contains := by funext i; exact memB_contains _ i
    simp only [dq, dstep] at h
    rw [hB] at h
    split at h
    · rename_i d0 hd0
      simp only [dst1] at h
      have fin : ∀ (d : Nat) v mo, o.dst = some d → unO mo = none → QG E ops o (SV s ds outs (T.getD outs.length []).contains) v mo → dnx T ds outs.length d0 outs (dq E (ops.toList.map (·.dst)) T s ds tail rest) mo (put (SV s ds outs (T.getD outs.length []).contains) (some d) v mo) →
          DQ E ops T s ds tail (o :: rest) outs := fun d v mo hd hu hq hn => by
        rw [hd0] at hd; cases hd
        have hpt : (put (SV s ds outs (T.getD outs.length []).contains) (some d0) v mo).t d0 = v := by cases mo <;> simp [put, set_t, new_t]
        simp only [dnx, hpt, hu, dnx1] at hn
        exact .inl ⟨v, mo, by rw [hd0]; rfl, hq, hn.1, dq_sound hn.2⟩
      have fin2 : ∀ (d : Nat) v Tn x, o.dst = some d → o.guard = none → TJ E o (SV s ds outs (T.getD outs.length []).contains) d v Tn x → dnx T ds outs.length d0 outs (dq E (ops.toList.map (·.dst)) T s ds tail rest) (tkO Tn) ((SV s ds outs (T.getD outs.length []).contains).set d (tkM v x)) →
          DQ E ops T s ds tail (o :: rest) outs := fun d v Tn x hd hg hq hn => by
        rw [hd0] at hd; cases hd
        simp only [dnx, set_t, if_true, unO_mark, dnx1, tkV_mark, tkC] at hn
        obtain ⟨⟨n1, n2, n3⟩, n4⟩ := hn
        refine .inr (.inl ⟨d0, v, Tn, x, hd0, hg, hq, ?_, n2, fun k T'' hk hu => ?_, dq_sound n4⟩)
        · unfold okV tkM at n1
          simp only [AV.allRef, AV.allRefs, Bool.and_eq_true] at n1
          exact n1.1
        · unfold noUp at n3
          rw [Option.isNone_iff_eq_none] at n3
          exact upd_ne (B := fun _ => true) (n := 0) hu rfl n3
      split at h
      · rename_i hg
        rcases of_dq1 h with ⟨d, v, mo, h1, hu, h2, h3⟩ | ⟨d, v, Tn, x, h1, h2, h3, h4⟩
        · exact fin d v mo h1 hu (.inl ⟨hg, h2⟩) h3
        · exact fin2 d v Tn x h1 h2 h3 h4
      · rename_i j b hg
        split at h
        · rename_i d' hd
          have hd : (ops[j]?).bind (·.dst) = some d' := by
            rw [List.getElem?_map, Array.getElem?_toList] at hd
            cases hx : ops[j]? with
            | none => simp [hx] at hd
            | some o' => simp only [hx, Option.map_some, Option.some.injEq] at hd; simp [hd]
          obtain ⟨c, hc, h1⟩ := h
          rcases h1 with ⟨rfl, h1⟩ | ⟨hcb, h1⟩
          · rcases of_dq1 h1 with ⟨d, v, mo, g1, gu, g2, g3⟩ | ⟨d, v, Tn, x, g1, g2, g3, g4⟩
            · exact fin d v mo g1 gu (.inr (.inl ⟨j, b, d', hg, hd, hc, g2⟩)) g3
            · rw [hg] at g2; cases g2
          · have h2 := h1.2
            have : dOf o.dst = d0 := by rw [hd0]; rfl
            exact fin d0 (.lit Go.undef) none hd0 rfl (.inr (.inr ⟨j, b, c, d', hg, hd, hc, hcb, rfl, rfl⟩)) (by rw [this] at h2; exact h2)
        · exact h.elim
    · rename_i hd0
      split at h
      · rename_i xt x y hop hg
        obtain ⟨d1, op, ty, pos, after, g⟩ := o
        simp only at hd0 hop hg
        subst hd0; subst hop; subst hg
        unfold dstoreQ at h
        split at h
        · rename_i r off hx
          obtain ⟨⟨h1, h2, h3, h4, h5, h6, h7, h8⟩, h9⟩ := h
          refine .inr (.inr ⟨r, _, rfl, rfl, uj_store hx h1 h2 h3 h4 h5 h6, h7, fun k T'' hk hu => ?_, dq_sound h9⟩)
          unfold noUp at h8
          rw [Option.isNone_iff_eq_none] at h8
          exact upd_ne (B := fun _ => true) (n := 0) hu rfl h8
        · exact h.elim
      · exact h.elim

/-- A region whose order is drawn. 'T': what must have been carried out before each operation; the first 'q' are quiet. -/
theorem aw_drawn {E : Env} {id : Nat} {l : List Oper} {K : AX → ASt → Prop} {s : ASt} (hm : E.P.follows .mixedOrders = true) (T : List (List Nat)) (q : Nat) (hc : chk l T q E.nt = true)
    (h : dq E (l.map (·.dst)) T s ((l.take q).map (·.dst)) (sq E (l.map (·.dst)) (l.drop q) (K .nm)) (l.take q) []) : aw E (.region id l.toArray true) K s := by
  refine (AWP.drawn hm T q hc ?_ : AWP E (.region id l.toArray true) K s)
  have htail : ∀ s, sq E (l.map (·.dst)) (l.drop q) (K .nm) s → Seq E l.toArray (l.drop q) (K .nm) s := fun s h => sq_sound h
  have mono : ∀ (l' : List Oper) outs, dq E (l.map (·.dst)) T s ((l.take q).map (·.dst)) (sq E (l.map (·.dst)) (l.drop q) (K .nm)) l' outs → DQ E l.toArray T s ((l.take q).map (·.dst)) (sq E (l.map (·.dst)) (l.drop q) (K .nm)) l' outs := fun l' outs h => dq_sound (ops := l.toArray) h
  have mono2 : ∀ (l' : List Oper) outs, DQ E l.toArray T s ((l.take q).map (·.dst)) (sq E (l.map (·.dst)) (l.drop q) (K .nm)) l' outs → DQ E l.toArray T s ((l.take q).map (·.dst)) (Seq E l.toArray (l.drop q) (K .nm)) l' outs := by
    intro l'
    induction l' with
    | nil => intro outs h; exact htail _ h
    | cons o r ih =>
      intro outs h
      rcases h with ⟨v, Tn, h0, h1, h2, h3⟩ | ⟨d, v, Tn, x, h0, h1, h2, h3, h4, h5, h6⟩ | ⟨x, T', h0, h1, h2, h3, h4, h5⟩
      · exact .inl ⟨v, Tn, h0, h1, h2, ih _ h3⟩
      · exact .inr (.inl ⟨d, v, Tn, x, h0, h1, h2, h3, h4, h5, ih _ h6⟩)
      · exact .inr (.inr ⟨x, T', h0, h1, h2, h3, h4, ih _ h5⟩)
  exact mono2 _ _ (mono _ _ h)

section
variable {E : Env} {R : Option AV → ASt → Prop} {s : ASt} {da ds : List (Option Tmp)} {T : List (List Nat)} {tail : ASt → Prop} {outs : List (AV × Option AV)}
theorem dq_nil : dq E da T s ds tail [] outs = tail (SV s ds outs fun _ => true) := nrfl rfl
theorem dq_none {d : Tmp} {op : Op} {t : TypeId} {pos : String} {after : Array Edge} {rest : List Oper} : dq E da T s ds tail (⟨some d, op, t, pos, after, none⟩ :: rest) outs =
    dq1 E ⟨some d, op, t, pos, after, none⟩ (dnx T ds outs.length d outs (dq E da T s ds tail rest)) (SV s ds outs (memB (T.getD outs.length []))) := nrfl rfl
theorem dq_some {d : Tmp} {op : Op} {t : TypeId} {pos : String} {after : Array Edge} {rest : List Oper} {j : Nat} {b : Bool} : dq E da T s ds tail (⟨some d, op, t, pos, after, some (j, b)⟩ :: rest) outs = match da[j]? with
    | some (some d') => GD E ((SV s ds outs (memB (T.getD outs.length []))).t d') b ⟨some d, op, t, pos, after, some (j, b)⟩ (dnx T ds outs.length d outs (dq E da T s ds tail rest)) (SV s ds outs (memB (T.getD outs.length [])))
    | _ => False := nrfl rfl
theorem dq_store {xt : TypeId} {x y : Operand} {t : TypeId} {pos : String} {after : Array Edge} {rest : List Oper} : dq E da T s ds tail (⟨none, .store xt x y, t, pos, after, none⟩ :: rest) outs =
    dstoreQ E.P xt ((SV s ds outs (memB (T.getD outs.length []))).ev x) ((SV s ds outs (memB (T.getD outs.length []))).ev y) T ds outs (dq E da T s ds tail rest) (SV s ds outs (memB (T.getD outs.length []))) := nrfl rfl
theorem SV_t {x : Nat} {B : Nat → Bool} : (SV s ds outs B).t x = match wh x ds 0 with
    | some i => if B i = true then (match outs[i]? with | some o => outV o.1 | none => .junk) else .junk
    | none => (s.t x).mapRef (killL ds) := nrfl rfl
theorem SV_m {x : Nat} {B : Nat → Bool} : (SV s ds outs B).m x = match wh x ds 0 with
    | some i => if B i = true then pickU (upd x B ds outs 0) (match outs[i]? with | some o => o.2 | none => none) else none
    | none => s.m x := nrfl rfl
theorem GD_same {b : Bool} {o : Oper} : GD E (.lit (.bool b)) b o R s = dq1 E o R s :=
  propext ⟨fun ⟨c, h1, h2⟩ => by
    simp only [AV.lit.injEq] at h1
    subst h1
    rcases h2 with h | h
    · exact h.2
    · exact absurd rfl h.1, fun h => ⟨_, rfl, .inl ⟨rfl, h⟩⟩⟩
theorem GD_not {c : Value} {b : Bool} {o : Oper} (hc : c ≠ .bool b) : GD E (.lit c) b o R s = (o.dst.isSome = true ∧ R none (s.set (dOf o.dst) (.lit Go.undef))) :=
  propext ⟨fun ⟨c', h1, h2⟩ => by
    simp only [AV.lit.injEq] at h1
    subst h1
    rcases h2 with h | h
    · exact absurd h.1 hc
    · exact h.2, fun h => ⟨_, rfl, .inr ⟨hc, h⟩⟩⟩
theorem GD_tf {o : Oper} : GD E (.lit (.bool true)) false o R s = (o.dst.isSome = true ∧ R none (s.set (dOf o.dst) (.lit Go.undef))) := GD_not (by simp)
theorem GD_ft {o : Oper} : GD E (.lit (.bool false)) true o R s = (o.dst.isSome = true ∧ R none (s.set (dOf o.dst) (.lit Go.undef))) := GD_not (by simp)
theorem GD_undef {b : Bool} {o : Oper} : GD E (.lit Go.undef) b o R s = (o.dst.isSome = true ∧ R none (s.set (dOf o.dst) (.lit Go.undef))) := GD_not (by simp [Go.undef])
end

section
variable {E : Env} {K : AX → ASt → Prop} {R : ASt → Prop} {s : ASt}
/-- A call in a region in the text's order. -/
theorem opq_call {P : Program} {G0 X : Nat → Prop} {w0 : World} {nt : Nat} {pv : Nat → Option Value} {d : Nat} {t : TypeId} {pos : String} {after : Array Edge} {g : Option (Nat × Bool)} {fo : Operand} {xs : List Operand} {ts : Array TypeId} {f : FuncId} {caps as : List AV} {res v : AV}
    (hd : Does P f as res) (he : entB P f = true) (hf : s.ev fo = .fn f caps) (ha : xs.map s.ev ++ caps = as) (hn : d < nt) (hr : AV.noRefs as = true) (hv : res.share = v) (h : R (s.set d v)) :
    opq ⟨P, G0, X, w0, nt, pv⟩ ⟨some d, .call { callee := .value fo, args := xs.toArray, argTypes := ts }, t, pos, after, g⟩ R s := by
  subst hv
  exact LJ.of_q (q_call (E := ⟨P, G0, X, w0, nt, pv⟩) hn hf he ha hr hd) h
theorem dop_call {R : Option AV → ASt → Prop} {P : Program} {G0 X : Nat → Prop} {w0 : World} {nt : Nat} {pv : Nat → Option Value} {d : Nat} {t : TypeId} {pos : String} {after : Array Edge} {g : Option (Nat × Bool)} {fo : Operand} {xs : List Operand} {ts : Array TypeId} {f : FuncId} {caps as : List AV} {res v : AV}
    (hd : Does P f as res) (he : entB P f = true) (hf : s.ev fo = .fn f caps) (ha : xs.map s.ev ++ caps = as) (hn : d < nt) (hr : AV.noRefs as = true) (hv : res.share = v) (h : R none (s.set d v)) :
    dop ⟨P, G0, X, w0, nt, pv⟩ ⟨some d, .call { callee := .value fo, args := xs.toArray, argTypes := ts }, t, pos, after, g⟩ R s := by
  subst hv
  exact ⟨d, _, none, rfl, rfl, q_call (E := ⟨P, G0, X, w0, nt, pv⟩) hn hf he ha hr hd, h⟩

theorem aw_loop {c : Code} {ι : Type} (I : ι → ASt → Prop) (mu : ι → Nat) (i : ι) (h0 : I i s)
    (round : ∀ i s, I i s → aw E c (thenK (fun s' => ∃ j, I j s' ∧ mu j < mu i) K) s) : aw E (.loop c) K s := AWP.loop I mu i h0 (fun i s h => aw_sound (round i s h))

theorem retK_rt {fn : Func} {res : AV} : retK E fn res .rt s = RetJ E fn res s := nrfl rfl
theorem retK_nm {fn : Func} {res : AV} : retK E fn res .nm s = RetJ E fn res s := nrfl rfl
/-- A contract from the walk. -/
theorem Does.walk {P : Program} {f : FuncId} {fn : Func} {c : Code} {args : List AV} {res : AV} {nt : Nat} (hf : P.funcs[f]? = some fn) (hb : fn.body = some c) (hnt : fn.ntmps = nt) (hn : args.length ≤ nt) (hn1 : nt ≤ 1000) (hfree : AV.noRefs args = true)
    (h : ∀ (G0 : Nat → Prop) (X : Nat → Prop) (w0 : World) (pv : Nat → Option Value), aw ⟨P, G0, X, w0, nt, pv⟩ c (retK ⟨P, G0, X, w0, nt, pv⟩ fn res) (startT args)) : Does P f args res := by
  subst hnt
  refine Does.of hf hb hn hn1 (AV.noRefs_mem.1 hfree) ?_
  rintro ⟨P', G0, X, w0, nt, pv⟩ rfl rfl
  exact aw_sound (h G0 X w0 pv)
theorem wI (n : Int) (h1 : -9223372036854775808 ≤ n) (h2 : n ≤ 9223372036854775807) : IntKind.wrap .i64 n = n := IntWalk.i64_in n ⟨h1, h2⟩
end

theorem mapT_t {s : ASt} {f : Nat → List Nat → Option (Nat × List Nat)} {i : Nat} : (s.mapT f).t i = (s.t i).mapRef f := nrfl rfl
theorem mapT_m {s : ASt} {f : Nat → List Nat → Option (Nat × List Nat)} {r : Nat} : (s.mapT f).m r = s.m r := nrfl rfl
theorem nodeOf_cons {s : ASt} {r i : Nat} {p : List Nat} : nodeOf s r (i :: p) = (s.m r).bind (fun a => a.at_ (i :: p)) := nrfl rfl

def rowInM : Option AV → Nat → Nat → Prop
  | some (.row true sz n _), sz', m => sz = sz' ∧ m ≤ n
  | _, _, _ => False
def rowAnyM : Option AV → Nat → Prop
  | some (.row true _ n _), m => m ≤ n
  | _, _ => False
theorem rowIn_eq {s : ASt} {r sz m : Nat} {p : List Nat} : rowIn s r p sz m = rowInM (nodeOf s r p) sz m := by
  apply propext
  unfold rowIn
  constructor
  · rintro ⟨n, cs, h, hm⟩; rw [h]; exact ⟨rfl, hm⟩
  · intro h
    generalize nodeOf s r p = N at *
    cases N with
    | none => exact h.elim
    | some A =>
      cases A with
      | row o a n cs =>
        cases o with
        | false => exact h.elim
        | true => exact ⟨n, cs, by rw [h.1], h.2⟩
      | _ => exact h.elim
theorem rowAny_eq {s : ASt} {r m : Nat} {p : List Nat} : rowAny s r p m = rowAnyM (nodeOf s r p) m := by
  apply propext
  unfold rowAny
  constructor
  · rintro ⟨sz, n, cs, h, hm⟩; rw [h]; exact hm
  · intro h
    generalize nodeOf s r p = N at *
    cases N with
    | none => exact h.elim
    | some A =>
      cases A with
      | row o a n cs =>
        cases o with
        | false => exact h.elim
        | true => exact ⟨a, n, cs, rfl, h⟩
      | _ => exact h.elim

def retC (res : AV) : Option (AV × ASt) → Prop
  | some (A, _) => A = res
  | none => False
def retCs (res : List AV) : Option (List AV × ASt) → Prop
  | some (A, _) => A = res
  | none => False
def retQ1 (s : ASt) (res : AV) : Option AV → Prop
  | some v => retC res (closeV s v)
  | none => False
def retQ2 (s : ASt) (res : List AV) : Option AV → Option AV → Prop
  | some v, some v' => retCs res (closeVs s [v, v'])
  | _, _ => False
def retQ3 (s : ASt) (res : List AV) : Option AV → Option AV → Option AV → Prop
  | some v, some v', some v'' => retCs res (closeVs s [v, v', v''])
  | _, _, _ => False
theorem ret_q1 {E : Env} {fn : Func} {res : AV} {s : ASt} {x : ResultVar} (hr : fn.results = #[x]) (h : retQ1 s res (rview E.P s x)) : RetJ E fn res s := by
  unfold retQ1 at h
  split at h
  · rename_i v hv
    unfold retC at h
    split at h
    · rename_i A s' hc; subst h; exact ret_v1 hr hv hc
    · exact h.elim
  · exact h.elim
theorem ret_q2 {E : Env} {fn : Func} {A B : AV} {s : ASt} {x y : ResultVar} (hr : fn.results = #[x, y]) (h : retQ2 s [A, B] (rview E.P s x) (rview E.P s y)) : RetJ E fn (.tup [A, B]) s := by
  unfold retQ2 at h
  split at h
  · rename_i v v' hv hv'
    unfold retCs at h
    split at h
    · rename_i As s' hc; subst h; exact ret_v2 hr hv hv' hc
    · exact h.elim
  · exact h.elim
section
variable {E : Env} {R : Option AV → ASt → Prop} {s : ASt} {d : Nat} {t : TypeId} {pos : String} {after : Array Edge} {g : Option (Nat × Bool)}
theorem dq_move {x : Operand} : dq1 E ⟨some d, .move x, t, pos, after, g⟩ R s = (d < E.nt ∧ R none (s.set d (s.ev x))) := nrfl rfl
theorem dq_pick {c x y : Operand} : dq1 E ⟨some d, .pick c x y, t, pos, after, g⟩ R s = (d < E.nt ∧ pickQ (s.ev c) (s.ev x) (s.ev y) (R none) s d) := nrfl rfl
theorem dq_bin {op : BinOp} {x y : Operand} {xt yt : TypeId} : dq1 E ⟨some d, .binOp op xt x y yt, t, pos, after, g⟩ R s = (d < E.nt ∧ binQ E.P op xt (s.ev x) (s.ev y) (R none) s d) := nrfl rfl
theorem dq_un {op : UnOp} {x : Operand} {xt : TypeId} : dq1 E ⟨some d, .unOp op xt x, t, pos, after, g⟩ R s = (d < E.nt ∧ unQ op (s.ev x) (R none) s d) := nrfl rfl
theorem dq_conv {a b : TypeId} {x : Operand} : dq1 E ⟨some d, .convert a b x, t, pos, after, g⟩ R s = (d < E.nt ∧ convQ E.P a b (s.ev x) (R none) s d) := nrfl rfl
theorem dq_len {x : Operand} {xt : TypeId} : dq1 E ⟨some d, .call { callee := .builtin .len, args := #[x], argTypes := #[xt] }, t, pos, after, g⟩ R s = (d < E.nt ∧ lenQ E.P xt (s.ev x) (R none) s d) := nrfl rfl
theorem dq_max {x y : Operand} {ts : Array TypeId} : dq1 E ⟨some d, .call { callee := .builtin .max, args := #[x, y], argTypes := ts }, t, pos, after, g⟩ R s = (d < E.nt ∧ maxQ (s.ev x) (s.ev y) (R none) s d) := nrfl rfl
theorem dq_min {x y : Operand} {ts : Array TypeId} : dq1 E ⟨some d, .call { callee := .builtin .min, args := #[x, y], argTypes := ts }, t, pos, after, g⟩ R s = (d < E.nt ∧ minQ (s.ev x) (s.ev y) (R none) s d) := nrfl rfl
theorem dq_indexAddr {x y : Operand} {xt : TypeId} : dq1 E ⟨some d, .indexAddr xt x y, t, pos, after, g⟩ R s = (d < E.nt ∧ indexAddrQ E.P xt (s.ev x) (s.ev y) (R none) s d) := nrfl rfl
theorem dq_index {x y : Operand} {xt : TypeId} : dq1 E ⟨some d, .index xt x y, t, pos, after, g⟩ R s = (d < E.nt ∧ indexQ E.P xt (s.ev x) (s.ev y) (R none) s d) := nrfl rfl
theorem dq_fieldAddr {x : Operand} {xt : TypeId} {f : Nat} : dq1 E ⟨some d, .fieldAddr xt x f, t, pos, after, g⟩ R s = (d < E.nt ∧ fieldAddrQ E.P xt (s.ev x) f (R none) s d) := nrfl rfl
theorem dq_load {x : Operand} {xt : TypeId} : dq1 E ⟨some d, .load xt x, t, pos, after, g⟩ R s = (d < E.nt ∧ loadQ E.P xt (s.ev x) (R none) s d) := nrfl rfl
theorem dq_nck {x : Operand} : dq1 E ⟨some d, .nilCheck x, t, pos, after, g⟩ R s = (d < E.nt ∧ nilQ (s.ev x) (R none) s d) := nrfl rfl
theorem dq_field {x : Operand} {xt : TypeId} {f : Nat} : dq1 E ⟨some d, .field xt x f, t, pos, after, g⟩ R s = (d < E.nt ∧ fieldQ E.P xt (s.ev x) f (R none) s d) := nrfl rfl
theorem dq_extract {x : Operand} {i : Nat} : dq1 E ⟨some d, .extract x i, t, pos, after, g⟩ R s = (d < E.nt ∧ extractQ (s.ev x) i (R none) s d) := nrfl rfl
theorem dq_makeFunc {f : FuncId} {caps : List Operand} : dq1 E ⟨some d, .makeFunc (.func f) #[] caps.toArray, t, pos, after, g⟩ R s = (d < E.nt ∧ R none (s.set d (.fn f (caps.map s.ev)))) := nrfl rfl
theorem dq_build {xt : TypeId} {parts : List (Nat × Operand)} : dq1 E ⟨some d, .build xt parts.toArray, t, pos, after, g⟩ R s = (d < E.nt ∧ buildQ E.P xt parts (R none) s d) := nrfl rfl
theorem dq_slice {x : Operand} {xt : TypeId} {lo hi : Option Operand} : dq1 E ⟨some d, .slice xt x lo hi none, t, pos, after, g⟩ R s = (d < E.nt ∧ sliceQ E.P xt (s.ev x) lo hi (R none) s d) := nrfl rfl
theorem dq_assign {x : Operand} : dq1 E ⟨some d, .assign x, t, pos, after, g⟩ R s = (d < E.nt ∧ R none (s.set d (s.ev x))) := nrfl rfl
theorem dq_call {fo : Operand} {xs : List Operand} {ts : Array TypeId} : dq1 E ⟨some d, .call { callee := .value fo, args := xs.toArray, argTypes := ts }, t, pos, after, g⟩ R s = dop E ⟨some d, .call { callee := .value fo, args := xs.toArray, argTypes := ts }, t, pos, after, g⟩ R s := nrfl rfl
theorem dq_alloc {xt : TypeId} : dq1 E ⟨some d, .alloc xt, t, pos, after, g⟩ R s = (d < E.nt ∧ dalloc E.P xt d R s) := nrfl rfl
theorem dq_make {xt : TypeId} {x y : Operand} : dq1 E ⟨some d, .makeSlice xt x y, t, pos, after, g⟩ R s = (d < E.nt ∧ dmk E.P xt (s.ev x) (s.ev y) R s d) := nrfl rfl
end

/-! ### What the walk needs of regions that are taken in -/
theorem tkV_lit {v : Value} : tkV (.lit v) = none := nrfl rfl
theorem outV_lit {v : Value} : outV (.lit v) = (.lit v) := nrfl rfl
theorem moV_lit {v : Value} : moV (.lit v) = none := nrfl rfl
theorem tkV_junk  : tkV .junk = none := nrfl rfl
theorem outV_junk  : outV .junk = .junk := nrfl rfl
theorem moV_junk  : moV .junk = none := nrfl rfl
theorem tkV_row {o : Bool} {sz n : Nat} {cs : List AV} : tkV (.row o sz n cs) = none := nrfl rfl
theorem outV_row {o : Bool} {sz n : Nat} {cs : List AV} : outV (.row o sz n cs) = (.row o sz n cs) := nrfl rfl
theorem moV_row {o : Bool} {sz n : Nat} {cs : List AV} : moV (.row o sz n cs) = none := nrfl rfl
theorem tkV_box {o : Bool} {cs : List AV} : tkV (.box o cs) = none := nrfl rfl
theorem outV_box {o : Bool} {cs : List AV} : outV (.box o cs) = (.box o cs) := nrfl rfl
theorem moV_box {o : Bool} {cs : List AV} : moV (.box o cs) = none := nrfl rfl
theorem tkV_sl {r o n : Nat} {p : List Nat} : tkV (.sl r p o n) = none := nrfl rfl
theorem outV_sl {r o n : Nat} {p : List Nat} : outV (.sl r p o n) = (.sl r p o n) := nrfl rfl
theorem moV_sl {r o n : Nat} {p : List Nat} : moV (.sl r p o n) = none := nrfl rfl
theorem tkV_ptr {r o : Nat} {p : List Nat} : tkV (.ptr r p o) = none := nrfl rfl
theorem outV_ptr {r o : Nat} {p : List Nat} : outV (.ptr r p o) = (.ptr r p o) := nrfl rfl
theorem moV_ptr {r o : Nat} {p : List Nat} : moV (.ptr r p o) = none := nrfl rfl
theorem tkV_agg {cs : List AV} : tkV (.agg cs) = none := nrfl rfl
theorem outV_agg {cs : List AV} : outV (.agg cs) = (.agg cs) := nrfl rfl
theorem moV_agg {cs : List AV} : moV (.agg cs) = none := nrfl rfl
theorem tkV_tup {cs : List AV} : tkV (.tup cs) = none := nrfl rfl
theorem outV_tup {cs : List AV} : outV (.tup cs) = (.tup cs) := nrfl rfl
theorem moV_tup {cs : List AV} : moV (.tup cs) = none := nrfl rfl
theorem tkV_fn {f : FuncId} {cs : List AV} (h : ¬ f = 999999) : tkV (.fn f cs) = none := by simp [tkV, h]
theorem outV_fn {f : FuncId} {cs : List AV} (h : ¬ f = 999999) : outV (.fn f cs) = .fn f cs := by simp [outV, tkV, h]
theorem moV_fn {f : FuncId} {cs : List AV} (h : ¬ f = 999999) : moV (.fn f cs) = none := by simp [moV, h]
theorem unO_none : unO none = none := nrfl rfl
theorem unO_some {a : AV} : unO (some a) = moV a := nrfl rfl
theorem updOne_st {x r i : Nat} {p : List Nat} {T : AV} : updOne x none (.ptr r p i, some T) = if r = x then some T else none := nrfl rfl
theorem updOne_tu {x : Nat} {l Ts : List AV} : updOne x none (.tup l, some (.tup Ts)) = upL x l Ts := nrfl rfl
theorem upL_nil {x : Nat} {Ts : List AV} : upL x [] Ts = none := nrfl rfl
theorem upL_cons {x r i : Nat} {p : List Nat} {T : AV} {l Ts : List AV} : upL x (.ptr r p i :: l) (T :: Ts) = if r = x then some T else upL x l Ts := nrfl rfl
theorem updOne_sm {x : Nat} {d : Tmp} {a T : AV} : updOne x (some d) (a, some T) = (match tkV a with
    | some p => if p.2 = x then some .junk else none
    | none => none) := nrfl rfl
theorem updOne_sn {x : Nat} {d : Tmp} {a : AV} : updOne x (some d) (a, none) = none := nrfl rfl
theorem allRef_mark {f : Nat → Bool} {v : AV} {x : Nat} : AV.allRef f (tkM v x) = (AV.allRef f v && AV.allRef f (.ptr x [] 0)) := by simp [tkM, AV.allRef, AV.allRefs]
theorem splitS_nil : splitS [] = none := nrfl rfl
theorem splitS_sl {r n : Nat} {l : List AV} : splitS (.sl r [] 0 n :: l) = some ([], r, n, l) := nrfl rfl
theorem splitS_lit {v : Value} {l : List AV} : splitS ((.lit v) :: l) = (match splitS l with
    | some (p, r, n, q) => some ((.lit v) :: p, r, n, q)
    | none => none) := nrfl rfl
theorem splitS_row {o : Bool} {sz m : Nat} {cs : List AV} {l : List AV} : splitS ((.row o sz m cs) :: l) = (match splitS l with
    | some (p, r, n, q) => some ((.row o sz m cs) :: p, r, n, q)
    | none => none) := nrfl rfl
theorem splitS_box {o : Bool} {cs : List AV} {l : List AV} : splitS ((.box o cs) :: l) = (match splitS l with
    | some (p, r, n, q) => some ((.box o cs) :: p, r, n, q)
    | none => none) := nrfl rfl
section
variable {T : List (List Nat)} {ds : List (Option Tmp)} {i : Nat} {outs : List (AV × Option AV)} {next : List (AV × Option AV) → Prop} {mo : Option AV} {v : AV}
theorem dnx1_n : dnx1 T ds i outs next mo v none = ((okV ds (T.getD i []) i v = true ∧ tkV v = none) ∧ next (outs ++ [(v, mo)])) := nrfl rfl
theorem dnx1_s {Tn : AV} : dnx1 T ds i outs next mo v (some Tn) = ((okV ds (T.getD i []) i v = true ∧ tkC T ds i outs (tkV v)) ∧ next (outs ++ [(v, some Tn)])) := nrfl rfl
theorem tkC_n : tkC T ds i outs none = True := nrfl rfl
theorem tkC_s {p : AV × Nat} : tkC T ds i outs (some p) = (upOk T ds p.2 i = true ∧ noUp p.2 ds outs = true) := nrfl rfl
end
theorem dq_bs {E : Env} {s : ASt} {R : Option AV → ASt → Prop} {d len : Nat} {t xt : TypeId} {pos : String} {after : Array Edge} {g : Option (Nat × Bool)} {parts : List (Nat × Operand)} : dq1 E ⟨some d, .buildSlice xt len parts.toArray, t, pos, after, g⟩ R s = (d < E.nt ∧ dbs E.P xt len parts g R s d) := nrfl rfl
theorem dq_app {E : Env} {s : ASt} {R : Option AV → ASt → Prop} {d : Nat} {t xt xt' : TypeId} {pos : String} {after : Array Edge} {g : Option (Nat × Bool)} {x y : Operand} : dq1 E ⟨some d, .call { callee := .builtin .append, args := #[x, y], argTypes := #[xt, xt'] }, t, pos, after, g⟩ R s = ((d < E.nt ∧ xt' = xt) ∧ dap E ⟨some d, .call { callee := .builtin .append, args := #[x, y], argTypes := #[xt, xt'] }, t, pos, after, g⟩ xt d R s (s.ev x) (s.ev y)) := nrfl rfl
theorem dap_row {E : Env} {s : ASt} {R : Option AV → ASt → Prop} {d r k sz m : Nat} {es : List AV} {t : TypeId} {op : Op} {pos : String} {after : Array Edge} {dd : Option Tmp} {t' : TypeId} : dap E ⟨dd, op, t', pos, after, none⟩ t d R s (.sl r [] 0 k) (.row false sz m es) = (True ∧ dap2 E.P t d r k sz m es R s (s.m r)) := by
  unfold dap; exact propext ⟨fun h => ⟨trivial, h.2⟩, fun h => ⟨rfl, h.2⟩⟩
theorem dap_sl {E : Env} {s : ASt} {R : Option AV → ASt → Prop} {d r r2 k m : Nat} {t : TypeId} {op : Op} {pos : String} {after : Array Edge} {dd : Option Tmp} {t' : TypeId} : dap E ⟨dd, op, t', pos, after, none⟩ t d R s (.sl r [] 0 k) (.sl r2 [] 0 m) = (r2 ≠ r ∧ dap3 E.P t d r k m R s (s.m r2) (s.m r)) := by
  unfold dap; exact propext ⟨fun h => h.2, fun h => ⟨rfl, h⟩⟩
theorem dap3_s {P : Program} {t : TypeId} {d x k m sz n2 sz' n : Nat} {es cs : List AV} {R : Option AV → ASt → Prop} {s : ASt} : dap3 P t d x k m R s (some (.row true sz n2 es)) (some (.row true sz' n cs)) = ((appOk P t k m ∧ k = n ∧ m = n2 ∧ sz' = slSz P t ∧ sz = slSz P t ∧ es.length = n2 * sz ∧ cs.length = n * sz' ∧ leafCs es = true ∧ fitCs es = true ∧ x ≠ d) ∧ R (tkO (.row true (slSz P t) (k + m) (cs ++ es))) (s.set d (tkM (.sl d [] 0 (k + m)) x))) := nrfl rfl
theorem dap2_s {P : Program} {t : TypeId} {d x k sz m sz' n : Nat} {es cs : List AV} {R : Option AV → ASt → Prop} {s : ASt} : dap2 P t d x k sz m es R s (some (.row true sz' n cs)) = ((appOk P t k m ∧ k = n ∧ sz' = slSz P t ∧ sz = slSz P t ∧ cs.length = n * sz' ∧ leafCs es = true ∧ fitCs es = true ∧ x ≠ d) ∧ R (tkO (.row true (slSz P t) (k + m) (cs ++ es))) (s.set d (tkM (.sl d [] 0 (k + m)) x))) := nrfl rfl
theorem dbs1_n {P : Program} {t : TypeId} {d len : Nat} {R : Option AV → ASt → Prop} {s : ASt} {As : List AV} : dbs1 P t d len R s As none = ((leafCs As = true ∧ fitCs As = true) ∧ R (some (.row true (slSz P t) len (nilRs (nzE P t) len As))) (s.new d (.sl d [] 0 len) (.row true (slSz P t) len (nilRs (nzE P t) len As)))) := nrfl rfl
theorem dbs1_s {P : Program} {t : TypeId} {d len x n : Nat} {R : Option AV → ASt → Prop} {s : ASt} {As pre post : List AV} : dbs1 P t d len R s As (some (pre, x, n, post)) = dbs2 P t d len R s pre x n post (s.m x) := nrfl rfl
theorem dbs2_s {P : Program} {t : TypeId} {d len x n sz n' : Nat} {R : Option AV → ASt → Prop} {s : ASt} {pre post cs : List AV} : dbs2 P t d len R s pre x n post (some (.row true sz n' cs)) = ((n = n' ∧ leafCs pre = true ∧ fitCs pre = true ∧ leafCs post = true ∧ fitCs post = true ∧ x ≠ d) ∧ R (tkO (.row true (slSz P t) len (nilRs (nzE P t) len (pre ++ .row true sz n' cs :: post)))) (s.set d (tkM (.sl d [] 0 len) x))) := nrfl rfl
end Go.Av
end
section
set_option linter.unusedSimpArgs false
set_option linter.unusedVariables false
/-! From the row to a contract: what a readable argument is as an abstract value; the law's contract gives the row. -/
namespace Go.Av
open Go.ChangeShapes Go.WideShapes Go.RowKit

/-- All blocks that are there. -/
def Old (w : World) : Nat → Prop := fun b => b < w.heap.size
structure Reads (w : World) (as : List AV) (cs : List Value) : Prop where
  len : cs.length = as.length
  free : ∀ a ∈ as, a.noRef = true
  vr : ∀ (i : Nat) (a : AV) (u : Value), as[i]? = some a → cs[i]? = some u → VR w (Old w) none_ a u

theorem Reads.one {w : World} {a : AV} {u : Value} (hf : a.noRef = true) (h : VR w (Old w) none_ a u) : Reads w [a] [u] :=
  ⟨rfl, by simp [hf], fun i a' u' h1 h2 => by
    cases i with
    | zero => simp at h1 h2; subst h1; subst h2; exact h
    | succ i => simp at h1⟩
theorem Reads.append {w : World} {as bs : List AV} {cs ds : List Value} (h : Reads w as cs) (k : Reads w bs ds) : Reads w (as ++ bs) (cs ++ ds) :=
  ⟨by simp [h.len, k.len], fun a ha => by rcases List.mem_append.1 ha with g | g; exact h.free a g; exact k.free a g, fun i a u h1 h2 => by
    by_cases hi : i < as.length
    · rw [List.getElem?_append_left hi] at h1
      rw [List.getElem?_append_left (by rw [h.len]; exact hi)] at h2
      exact h.vr i a u h1 h2
    · rw [List.getElem?_append_right (by omega)] at h1
      rw [List.getElem?_append_right (by rw [h.len]; omega), h.len] at h2
      exact k.vr _ a u h1 h2⟩

/-- A type's readable values, as abstract values. -/
def Opens (P : Program) (t : TypeId) {α : Type} (enc : α → List AV) (Ok : α → Prop) : Prop :=
  ∀ (H : Type) (en : TypeId × Value → H) (w : World) (fuel : Nat) (cs : List Value) (x : DataW H × List MemPlace),
    DataW.trod en P w 0 (fun _ => true) true fuel t cs = some x → ∃ y : α, Ok y ∧ Reads w (enc y) cs

theorem Opens.map {P : Program} {t : TypeId} {α β : Type} {enc : α → List AV} {enc' : β → List AV} {Ok : α → Prop} {Ok' : β → Prop} (h : Opens P t enc Ok) (f : α → β) (he : ∀ x, enc' (f x) = enc x) (hok : ∀ x, Ok x → Ok' (f x)) : Opens P t enc' Ok' :=
  fun H en w fuel cs x hx => by
    obtain ⟨y, h1, h2⟩ := h H en w fuel cs x hx
    exact ⟨f y, hok y h1, by rw [he]; exact h2⟩
theorem Opens.mono {P : Program} {t : TypeId} {α : Type} {enc : α → List AV} {Ok Ok' : α → Prop} (h : Opens P t enc Ok) (hok : ∀ x, Ok x → Ok' x) : Opens P t enc Ok' := h.map id (fun _ => rfl) hok

theorem opens_bool {P : Program} {t : TypeId} (ht : P.underlying t = some .bool) : Opens P t (fun b : Bool => [.lit (.bool b)]) (fun _ => True) := fun H en w fuel cs x hx => by
  obtain ⟨n, rfl, _⟩ := DataW.trod_bool ht hx
  exact ⟨n, trivial, .one rfl (.lit _)⟩
theorem opens_string {P : Program} {t : TypeId} (ht : P.underlying t = some .string) : Opens P t (fun s : ByteArray => [.lit (.string s)]) (fun s => s.size ≤ 9223372036854775807) := fun H en w fuel cs x hx => by
  obtain ⟨s, rfl, _, hs⟩ := DataW.trod_string ht hx
  exact ⟨s, by simpa [maxLen] using hs, .one rfl (.lit _)⟩

theorem flat_len {α : Type} {enc : α → List AV} {sz : Nat} : ∀ {l : List α}, (∀ x ∈ l, (enc x).length = sz) → (l.flatMap enc).length = l.length * sz
  | [], _ => by simp
  | x :: r, h => by
    have h1 := h x (by simp)
    have h2 := flat_len (l := r) (fun y hy => h y (by simp [hy]))
    rw [List.flatMap_cons, List.length_append, h1, h2, List.length_cons, Nat.succ_mul, Nat.add_comm]
theorem flat_drop {α : Type} {enc : α → List AV} {sz : Nat} : ∀ {l : List α} (k : Nat), (∀ x ∈ l, (enc x).length = sz) → (l.flatMap enc).drop (k * sz) = (l.drop k).flatMap enc
  | l, 0, _ => by simp
  | [], k + 1, _ => by simp
  | x :: r, k + 1, h => by
    have h1 := h x (by simp)
    rw [List.flatMap_cons, List.drop_succ_cons, Nat.succ_mul, Nat.add_comm, ← List.drop_drop, List.drop_left' h1]
    exact flat_drop k (fun y hy => h y (by simp [hy]))
theorem flat_get {α : Type} {enc : α → List AV} {sz : Nat} {l : List α} (h : ∀ x ∈ l, (enc x).length = sz) {k j : Nat} (hk : k < l.length) (hj : j < sz) : (l.flatMap enc)[k * sz + j]? = (enc l[k])[j]? := by
  rw [← List.getElem?_drop, flat_drop k h, List.drop_eq_getElem_cons hk, List.flatMap_cons, List.getElem?_append_left (by rw [h _ (List.getElem_mem hk)]; exact hj)]

theorem opens_slice {P : Program} {t e : TypeId} {sz : Nat} {α : Type} {enc : α → List AV} {Ok : α → Prop} (ht : P.underlying t = some (.slice e)) (hsz : P.cellsOf e = sz) (hpos : 0 < sz) (h : Opens P e enc Ok) :
    Opens P t (fun l : List α => [.row false sz l.length (l.flatMap enc)]) (fun l => l.length ≤ 9223372036854775807 ∧ (∀ x ∈ l, (enc x).length = sz) ∧ ∀ x ∈ l, Ok x) := fun H en w fuel cs x hx => by
  rcases DataW.trod_slice ht hx with ⟨rfl, _⟩ | ⟨a, len, cap, elems, rest, n, _, rfl, _, hb, hl, hm, hlen, hel, _, _⟩
  · exact ⟨[], ⟨by simp, by simp, by simp⟩, .one rfl (.row0 sz none 0)⟩
  rw [hsz] at hel
  have each : ∀ i, i < len → ∃ y us, w.cells? 0 (a.add (i * sz)) sz = some us ∧ Ok y ∧ Reads w (enc y) us := fun i hi => by
    have h1 := hel i hi
    rw [List.getElem?_eq_getElem (by omega)] at h1
    obtain ⟨us, h2, h3⟩ := Option.bind_eq_some_iff.1 h1
    obtain ⟨y, h4, h5⟩ := h H en w n us _ h3
    exact ⟨y, us, h2, h4, h5⟩
  have all : ∀ m, m ≤ len → ∃ l : List α, l.length = m ∧ ∀ i (hi : i < l.length), ∃ us, w.cells? 0 (a.add (i * sz)) sz = some us ∧ Ok l[i] ∧ Reads w (enc l[i]) us := by
    intro m
    induction m with
    | zero => exact fun _ => ⟨[], rfl, fun i hi => by simp at hi⟩
    | succ m ih =>
      intro hm
      obtain ⟨l, h1, h2⟩ := ih (by omega)
      obtain ⟨y, us, h3, h4, h5⟩ := each m (by omega)
      refine ⟨l ++ [y], by simp [h1], fun i hi => ?_⟩
      by_cases hi' : i < l.length
      · obtain ⟨us, g⟩ := h2 i hi'
        exact ⟨us, by rw [List.getElem_append_left hi']; exact g⟩
      · have : i = m := by simp at hi; omega
        subst this
        exact ⟨us, h3, by simpa [h1] using h4, by simpa [h1] using h5⟩
  obtain ⟨l, hll, hall⟩ := all len (Nat.le_refl _)
  have hsize : ∀ x ∈ l, (enc x).length = sz := fun x hx => by
    obtain ⟨i, hi, rfl⟩ := List.getElem_of_mem hx
    obtain ⟨us, h1, h2, h3⟩ := hall i hi
    rw [← h3.len]; exact (World.cells?_some h1).2.1
  refine ⟨l, ⟨by simp [maxLen] at hm; omega, hsize, fun x hx => ?_⟩, .one rfl ?_⟩
  · obtain ⟨i, hi, rfl⟩ := List.getElem_of_mem hx
    exact (hall i hi).choose_spec.2.1
  by_cases hl0 : len = 0
  · have : l = [] := List.length_eq_zero_iff.1 (by omega)
    subst this
    subst hl0
    exact .row0 sz _ _
  -- the block
  obtain ⟨us0, hc0, _, hr0⟩ := hall 0 (by omega)
  have hcell0 : w.cell? a = us0[0]? := by
    have := (World.cells?_some hc0).2.2 0 hpos
    simpa [Addr.add] using this
  have hus0 : us0.length = sz := (World.cells?_some hc0).2.1
  obtain ⟨C, e', fr, hblk, hspot⟩ : ∃ C e' fr, w.heap[a.block]? = some (.cells C e' fr) ∧ a.spot = none := by
    rw [List.getElem?_eq_getElem (by omega)] at hcell0
    unfold World.cell? at hcell0
    split at hcell0
    · rename_i C e' fr hh
      refine ⟨C, e', fr, hh, ?_⟩
      cases hs : a.spot with
      | none => rfl
      | some q => simp [hs] at hcell0
    · cases hcell0
  have hcells : ∀ i (hi : i < l.length) j, j < sz → ∃ us : List Value, Reads w (enc l[i]) us ∧ us.length = sz ∧ C[a.off + (i * sz + j)]? = us[j]? := fun i hi j hj => by
    obtain ⟨us, h1, h2, h3⟩ := hall i hi
    refine ⟨us, h3, (World.cells?_some h1).2.1, ?_⟩
    have := (World.cells?_some h1).2.2 j hj
    rw [← this]
    have e1 : ((a.add (i * sz)).add j) = ⟨a.block, a.off + (i * sz + j), none⟩ := by
      obtain ⟨b, o, sp⟩ := a
      simp only at hspot
      subst hspot
      simp only [Addr.add]
      split <;> split <;> simp <;> omega
    rw [e1]
    simp [World.cell?, hblk]
  have hflen : (l.flatMap enc).length = l.length * sz := flat_len hsize
  have hdm : ∀ i, i < (l.flatMap enc).length → i / sz < l.length ∧ i % sz < sz ∧ i / sz * sz + i % sz = i := fun i hi => by
    rw [hflen] at hi
    exact ⟨Nat.div_lt_of_lt_mul (by rw [Nat.mul_comm]; exact hi), Nat.mod_lt _ hpos, Nat.div_add_mod' i sz⟩
  obtain ⟨b, o, sp⟩ := a
  simp only at hspot hblk hcells
  subst hspot
  rw [← hll]
  refine .row sz l.length cap b o (l.flatMap enc) (fun i => (C[o + i]?).getD default) C e' fr (by
      show b < w.heap.size
      have := (Array.getElem?_eq_some_iff.1 hblk).1
      exact this) hblk hflen (by omega) (by simp [maxLen] at hm; omega) (fun i hi => ?_) (fun x hx => ?_) (fun i x hx => ?_)
  · obtain ⟨h1, h2, h3⟩ := hdm i hi
    obtain ⟨us, g1, g2, g3⟩ := hcells (i / sz) h1 (i % sz) h2
    rw [h3] at g3
    rw [g3, List.getElem?_eq_getElem (by omega)]
    rfl
  · obtain ⟨y, hy, hxy⟩ := List.mem_flatMap.1 hx
    obtain ⟨i, hi, rfl⟩ := List.getElem_of_mem hy
    obtain ⟨us, g1, g2, g3⟩ := hall i hi
    exact g3.free x hxy
  · have hi : i < (l.flatMap enc).length := (List.getElem?_eq_some_iff.1 hx).1
    obtain ⟨h1, h2, h3⟩ := hdm i hi
    obtain ⟨us, g1, g2, g3⟩ := hcells (i / sz) h1 (i % sz) h2
    rw [h3] at g3
    have hx' := hx
    rw [← h3, flat_get hsize h1 h2] at hx'
    rw [g3, List.getElem?_eq_getElem (by omega)]
    exact g1.vr _ x _ hx' (List.getElem?_eq_getElem (by omega))

/-- A struct's fields, one behind the other. -/
def OpensF (P : Program) (fs : List Field) (off tot : Nat) {α : Type} (enc : α → List AV) (Ok : α → Prop) : Prop :=
  ∀ (H : Type) (en : TypeId × Value → H) (w : World) (n : Nat) (cs : List Value),
    (∀ (i : Nat) (f : Field), fs[i]? = some f → ∃ x, DataW.trod en P w 0 (fun _ => true) true n f.type ((cs.drop f.offset).take (P.cellsOf f.type)) = some x) →
    off + tot ≤ cs.length → ∃ y : α, Ok y ∧ Reads w (enc y) ((cs.drop off).take tot)
theorem OpensF.nil {P : Program} {off : Nat} : OpensF P [] off 0 (fun _ : Unit => []) (fun _ => True) := fun H en w n cs _ _ => ⟨(), trivial, by simp, by simp, by simp⟩
theorem OpensF.cons {P : Program} {f : Field} {fs : List Field} {off s tot : Nat} {α β : Type} {enc : α → List AV} {Ok : α → Prop} {enc' : β → List AV} {Ok' : β → Prop} (ho : f.offset = off) (hs : P.cellsOf f.type = s) (h : Opens P f.type enc Ok) (k : OpensF P fs (off + s) tot enc' Ok') :
    OpensF P (f :: fs) off (s + tot) (fun p : α × β => enc p.1 ++ enc' p.2) (fun p => Ok p.1 ∧ Ok' p.2) := fun H en w n cs hx hl => by
  obtain ⟨x, hx0⟩ := hx 0 f rfl
  rw [ho, hs] at hx0
  obtain ⟨y, h1, h2⟩ := h H en w n _ x hx0
  obtain ⟨z, h3, h4⟩ := k H en w n cs (fun i g hg => hx (i + 1) g (by simpa using hg)) (by omega)
  refine ⟨(y, z), ⟨h1, h3⟩, ?_⟩
  have : (cs.drop off).take (s + tot) = (cs.drop off).take s ++ (cs.drop (off + s)).take tot := by
    rw [List.take_add, List.drop_drop]
  rw [this]
  exact h2.append h4
theorem opens_struct {P : Program} {t : TypeId} {fs : Array Field} {α : Type} {enc : α → List AV} {Ok : α → Prop} {tot : Nat} (ht : P.underlying t = some (.struct fs)) (hc : P.cellsOf t = tot) (h : OpensF P fs.toList 0 tot enc Ok) : Opens P t enc Ok := fun H en w fuel cs x hx => by
  obtain ⟨xs, n, _, _, hl, hxl, hf⟩ := DataW.trod_struct ht hx
  obtain ⟨y, h1, h2⟩ := h H en w n cs (fun i f hfi => by
    have hi : i < xs.length := by
      have := (List.getElem?_eq_some_iff.1 hfi).1
      simp at this; omega
    exact ⟨xs[i], by rw [hf i f (by simpa using hfi), List.getElem?_eq_getElem hi]⟩) (by omega)
  refine ⟨y, h1, ?_⟩
  have : (cs.drop 0).take tot = cs := by rw [List.drop_zero, List.take_of_length_le (by omega)]
  rwa [this] at h2

/-- An argument. -/
def OpensA (P : Program) (t : TypeId) {α : Type} (enc : α → AV) (Ok : α → Prop) : Prop :=
  ∀ (H : Type) (en : TypeId × Value → H) (w : World) (base : Nat) (v : Value) (d : DataW H) (ps : List MemPlace),
    Value.okWide P w .any base t v → DataW.Trod en P w 0 (fun _ => true) true t v d ps → ∃ y : α, Ok y ∧ (enc y).noRef = true ∧ VR w (Old w) none_ (enc y) v
theorem OpensA.map {P : Program} {t : TypeId} {α β : Type} {enc : α → AV} {enc' : β → AV} {Ok : α → Prop} {Ok' : β → Prop} (h : OpensA P t enc Ok) (f : α → β) (he : ∀ x, enc' (f x) = enc x) (hok : ∀ x, Ok x → Ok' (f x)) : OpensA P t enc' Ok' :=
  fun H en w base v d ps hv hx => by
    obtain ⟨y, h1, h2, h3⟩ := h H en w base v d ps hv hx
    exact ⟨f y, hok y h1, by rw [he]; exact h2, by rw [he]; exact h3⟩
theorem Reads.get {w : World} {a : AV} {v : Value} (h : Reads w [a] [v]) : a.noRef = true ∧ VR w (Old w) none_ a v := ⟨h.free a (by simp), h.vr 0 a v rfl rfl⟩
theorem opensA_one {P : Program} {t : TypeId} {α : Type} {enc : α → List AV} {en1 : α → AV} {Ok : α → Prop} (h : Opens P t enc Ok) (he : ∀ y, enc y = [en1 y]) (hc : ∀ w base v, Value.okWide P w .any base t v → v.cells.toList = [v]) : OpensA P t en1 Ok := fun H en w base v d ps hv ⟨fuel, hx⟩ => by
  rw [hc w base v hv] at hx
  obtain ⟨y, h1, h2⟩ := h H en w fuel _ _ hx
  rw [he] at h2
  exact ⟨y, h1, h2.get⟩
theorem opensA_string {P : Program} {t : TypeId} (ht : P.underlying t = some .string) : OpensA P t (fun n : ByteArray => .lit (.string n)) (fun s => s.size ≤ 9223372036854775807) :=
  opensA_one (opens_string ht) (fun _ => rfl) (fun w b v h => by obtain ⟨n, rfl⟩ := okWide_string ht h; rfl)
theorem opensA_struct {P : Program} {t : TypeId} {fs : Array Field} {α : Type} {enc : α → List AV} {Ok : α → Prop} (ht : P.underlying t = some (.struct fs)) (h : Opens P t enc Ok) : OpensA P t (fun y => .agg (enc y)) Ok := fun H en w base v d ps hv ⟨fuel, hx⟩ => by
  obtain ⟨cs, rfl, hc⟩ := okWide_struct ht hv
  obtain ⟨y, h1, h2⟩ := h H en w fuel _ _ hx
  refine ⟨y, h1, by simpa [AV.noRef] using AV.noRefs_mem.2 h2.free, ?_⟩
  have := VR.agg (w := w) (G := Old w) (m := none_) (enc y) cs.toList h2.len h2.vr
  simpa using this

/-- All arguments of a call. -/
def OpensAll (P : Program) (ts : List TypeId) {α : Type} (enc : α → List AV) (Ok : α → Prop) : Prop :=
  ∀ (H : Type) (en : TypeId × Value → H) (w : World) (base : Nat) (vs : List Value) (ds : List (DataW H)) (ps : List MemPlace),
    (∀ (j : Nat) t v, ts[j]? = some t → vs[j]? = some v → Value.okWide P w .any base t v) → DataW.TrodAll en P w 0 (fun _ => true) true ts vs ds ps → ∃ y : α, Ok y ∧ Reads w (enc y) vs
theorem OpensAll.nil {P : Program} : OpensAll P [] (fun _ : Unit => []) (fun _ => True) := fun H en w base vs ds ps _ h => by
  cases vs with
  | nil => exact ⟨(), trivial, by simp, by simp, by simp⟩
  | cons => simp [DataW.TrodAll] at h
theorem OpensAll.cons {P : Program} {t : TypeId} {ts : List TypeId} {α β : Type} {enc : α → AV} {Ok : α → Prop} {enc' : β → List AV} {Ok' : β → Prop} (h : OpensA P t enc Ok) (k : OpensAll P ts enc' Ok') :
    OpensAll P (t :: ts) (fun p : α × β => enc p.1 :: enc' p.2) (fun p => Ok p.1 ∧ Ok' p.2) := fun H en w base vs ds ps hv hx => by
  match vs, ds, hx with
  | v :: vs, d :: ds, ⟨p, q, h1, h2, _⟩ =>
    obtain ⟨y, a1, a2, a3⟩ := h H en w base v d p (hv 0 t v rfl rfl) h1
    obtain ⟨z, b1, b2⟩ := k H en w base vs ds q (fun j t v e1 e2 => hv (j + 1) t v (by simpa using e1) (by simpa using e2)) h2
    exact ⟨(y, z), ⟨a1, b1⟩, (Reads.one a2 a3).append b2⟩

theorem Ext.below {w w' : World} (h : Ext (fun _ => False) w w') : Below w.heap.size w w' := ⟨h.os, h.tape, h.output, h.size, fun k hk => h.block k hk (fun h => h)⟩

theorem trodAll_stays {H : Type} {en : TypeId × Value → H} {P : Program} (hl : laidOutB P = true) {W W' : World} (hb : Below W.heap.size W W') : ∀ {ts : List TypeId} {vs : List Value} {ds : List (DataW H)} {ps : List MemPlace}, (∀ t ∈ ts, P.readableRec t = true ∧ t < P.types.size) →
    DataW.TrodAll en P W 0 (fun _ => true) true ts vs ds ps → DataW.TrodAll en P W' 0 (fun b => decide (b < W.heap.size)) true ts vs ds ps
  | [], [], [], _, _, h => h
  | t :: ts, v :: vs, d :: ds, ps, ht, ⟨p, q, h1, h2, e⟩ => ⟨p, q, Below.trod hl (ht t (by simp)).1 (ht t (by simp)).2 h1 hb (fun x hx => by obtain ⟨fuel, hf⟩ := h1; exact DataW.trod_lt _ _ _ _ hf x hx), trodAll_stays hl hb (fun t h => ht t (by simp [h])) h2, e⟩
  | [], _ :: _, _, _, _, h => by simp [DataW.TrodAll] at h
  | [], [], _ :: _, _, _, h => by simp [DataW.TrodAll] at h
  | _ :: _, [], _, _, _, h => by simp [DataW.TrodAll] at h
  | _ :: _, _ :: _, [], _, _, h => by simp [DataW.TrodAll] at h

/-- A LAW's ROW, from its contract. -/
theorem law_calls {H : Type} {en : TypeId × Value → H} {P : Program} {f : FuncId} {fn : Func} {s : ChangeSpec} {apart fresh handsOn : Bool} {α : Type} {enc : α → List AV} {Ok : α → Prop} {tb : TypeId}
    (hl : laidOutB P = true) (hr : ∀ t ∈ fn.params.toList, P.readableRec t = true ∧ t < P.types.size) (hvars : s.vars = []) (hres : fn.resultTypes = #[tb]) (hb : P.underlying tb = some .bool)
    (ho : OpensAll P fn.params.toList enc Ok) (hdoes : ∀ y, Ok y → Does P f (enc y) (.lit (.bool true)))
    (W : World) (base : Nat) (args : Array Value) (ds gs : List (DataW H)) (before : List MemPlace)
    (hspec : ds.length = fn.params.size → (s.fn H ds).results = [.lit (.bool true)] ∧ (s.fn H ds).args = ds ∧ (s.fn H ds).vars = [])
    (hval : ∀ (j : Nat) t v, fn.params[j]? = some t → args[j]? = some v → Value.okWide P W .any base t v)
    (hW : DataW.Whole en P fn.params.toList s.vars apart W args.toList ds gs before) :
    Calls P f args W fun e W' => ∃ v, e = .returned v ∧ s.post en P fn apart fresh handsOn false W args v W' := by
  have hW' := hW
  obtain ⟨p, q, hA, hV, rfl, hfz, hnd⟩ := hW
  rw [hvars] at hV
  have hgs : gs = [] ∧ q = [] := by
    cases gs with
    | nil => exact ⟨rfl, by simpa [DataW.TrodVars] using hV⟩
    | cons => simp [DataW.TrodVars] at hV
  obtain ⟨rfl, rfl⟩ := hgs
  have hlen : ∀ {ts : List TypeId} {vs : List Value} {ds : List (DataW H)} {ps : List MemPlace}, DataW.TrodAll en P W 0 (fun _ => true) true ts vs ds ps → ds.length = ts.length := by
    intro ts
    induction ts with
    | nil => intro vs ds ps h; cases vs <;> cases ds <;> simp [DataW.TrodAll] at h ⊢
    | cons t ts ih =>
      intro vs ds ps h
      match vs, ds, h with
      | v :: vs, d :: ds, ⟨_, _, _, h2, _⟩ => simp [ih h2]
  obtain ⟨e1, e2, e3⟩ := hspec (by simpa using hlen hA)
  obtain ⟨y, hok, hrd⟩ := ho H en W base args.toList ds p (fun j t v h1 h2 => hval j t v (by simpa using h1) (by simpa using h2)) hA
  have := hdoes y hok W (Old W) args.toList (fun x hx => hx) hrd.len hrd.vr
  rw [Array.toArray_toList] at this
  refine this.mono fun e W' ⟨T, he, hT, hext, _, _, G', _, _, _, hsat⟩ => ?_
  have hv : T.value = .bool true := by
    cases hsat with
    | leaf a v ha h =>
      simp only [HT.erase] at hT
      subst hT
      cases h
      rfl
    | row => simp [HT.erase] at hT
    | nilrow => simp [HT.erase] at hT
    | box => simp [HT.erase] at hT
    | agg => simp [HT.erase] at hT
    | tup => simp [HT.erase] at hT
  refine ⟨.bool true, by rw [he, hv], ds, [], p ++ [], [], p, [], hW', ?_, ?_, ?_, hext.below.frame _, fun h => by cases h⟩
  · rw [List.append_nil, e1, hres]
    exact trodAll_mk1 (shut_bool hb true)
  · rw [List.append_nil, e2]
    exact trodAll_stays hl hext.below hr hA
  · rw [List.append_nil, e3, hvars]
    simp [DataW.TrodVars]
end Go.Av
end
section
set_option linter.unusedSimpArgs false
set_option linter.unusedVariables false
/-! Calls, as the walk meets them: the result kept, own memory lent. -/
namespace Go.Av
section
variable {P : Program} {G0 X : Nat → Prop} {w0 : World} {nt : Nat} {pv : Nat → Option Value} {s : ASt} {R : ASt → Prop} {d : Nat} {t : TypeId} {pos : String} {after : Array Edge} {g : Option (Nat × Bool)} {fo : Operand} {xs : List Operand} {ts : Array TypeId} {f : FuncId} {caps as : List AV} {res v : AV}
/-- The result stays the caller's own. -/
theorem opq_own (hd : Does P f as res) (he : entB P f = true) (hf : s.ev fo = .fn f caps) (ha : xs.map s.ev ++ caps = as) (hn : d < nt) (hr : AV.noRefs as = true) (hv : openV d [] res = v) (h : R (s.new d v res)) :
    opq ⟨P, G0, X, w0, nt, pv⟩ ⟨some d, .call { callee := .value fo, args := xs.toArray, argTypes := ts }, t, pos, after, g⟩ R s := by
  subst hv
  exact LJ.of_q (q_callOwn (E := ⟨P, G0, X, w0, nt, pv⟩) hn hf he ha hr hd) h
def lendQ (as : List AV) : Option (List AV) → Prop
  | some bs => bs = as
  | none => False
theorem lend_some {o : Option (List AV)} (h : lendQ as o) : o = some as := by
  cases o with
  | none => exact h.elim
  | some b => exact congrArg some h
/-- Own memory is lent; the result stays the caller's own. -/
theorem opq_lendOwn (hd : Does P f as res) (he : entB P f = true) (hf : s.ev fo = .fn f caps) (ha : lendQ as (borrowVs s (xs.map s.ev ++ caps))) (hn : d < nt) (hp : pureV res = true) (hv : openV d [] res = v) (h : R (s.new d v res)) :
    opq ⟨P, G0, X, w0, nt, pv⟩ ⟨some d, .call { callee := .value fo, args := xs.toArray, argTypes := ts }, t, pos, after, g⟩ R s := by
  subst hv
  exact l_callOwn (E := ⟨P, G0, X, w0, nt, pv⟩) hn hf he (lend_some ha) hd hp h
/-- Own memory is lent; the result is read alone from here on. -/
theorem opq_lend (hd : Does P f as res) (he : entB P f = true) (hf : s.ev fo = .fn f caps) (ha : lendQ as (borrowVs s (xs.map s.ev ++ caps))) (hn : d < nt) (hp : pureV res = true) (hv : res.share = v) (h : R (s.set d v)) :
    opq ⟨P, G0, X, w0, nt, pv⟩ ⟨some d, .call { callee := .value fo, args := xs.toArray, argTypes := ts }, t, pos, after, g⟩ R s := by
  subst hv
  exact l_callSh (E := ⟨P, G0, X, w0, nt, pv⟩) hn hf he (lend_some ha) hd hp h
end
end Go.Av
end
section
set_option linter.unusedSimpArgs false
set_option linter.unusedVariables false
/-! Contracts of functions that change what belongs to their arguments: regions from number 1000 on are the caller's. -/
namespace Go.Av
def regs {α : Type} (l : List α) : Nat → Option α := fun r => if 1000 ≤ r then l[r - 1000]? else none
def startX (args m : List AV) : ASt := ⟨fun i => (args[i]?).getD .junk, regs m⟩

/-- Called with these, the callee's regions being 'm', it comes back with 'res', and they are 'm''. -/
def DoesX (P : Program) (f : FuncId) (args m : List AV) (res : AV) (m' : List AV) : Prop :=
  ∀ (w : World) (G : Nat → Prop) (Ts : List HT) (vs : List Value), (∀ x, G x → x < w.heap.size) → HT.erases Ts = m → (∀ K ∈ Ts, Sat w G K) → (Ts.flatMap HT.blocks).Nodup → (∀ x ∈ Ts.flatMap HT.blocks, x < w.heap.size ∧ ¬ G x) →
    vs.length = args.length → (∀ (i : Nat) (a : AV) (v : Value), args[i]? = some a → vs[i]? = some v → VR w G (regs Ts) a v) →
    Calls P f vs.toArray w fun e w' => ∃ (T : HT) (Ts' : List HT), e = .returned T.value ∧ T.erase = res ∧ HT.erases Ts' = m' ∧ HT.values Ts' = HT.values Ts ∧ Ext (fun x => x ∈ Ts.flatMap HT.blocks) w w' ∧
      (T.blocks ++ Ts'.flatMap HT.blocks).Nodup ∧ (∀ x ∈ T.blocks ++ Ts'.flatMap HT.blocks, (x ∈ Ts.flatMap HT.blocks ∨ w.heap.size ≤ x) ∧ x < w'.heap.size) ∧
      ∃ G' : Nat → Prop, (∀ x, G x → G' x) ∧ (∀ x, G' x → G x ∨ (w.heap.size ≤ x ∧ x < w'.heap.size)) ∧ (∀ x ∈ T.blocks ++ Ts'.flatMap HT.blocks, ¬ G' x) ∧ Sat w' G' T ∧ ∀ K ∈ Ts', Sat w' G' K

def RetX (E : Env) (fn : Func) (res : AV) (m' : List AV) (s : ASt) : Prop :=
  ∀ M G a w, RelX E M G s a w → ∃ (T : HT) (M' : Nat → Option HT) (s' : ASt), (results fn a.tmps).run E.P w = .ok T.value w ∧ T.erase = res ∧ Sat w G T ∧ T.blocks.Nodup ∧
    (∀ x ∈ T.blocks, (∀ q T', M' q = some T' → x ∉ T'.blocks) ∧ x < w.heap.size ∧ ¬ G x ∧ (E.w0.heap.size ≤ x ∨ E.X x)) ∧ RelX E M' G s' a w ∧ ∀ j, j < m'.length → s'.m (1000 + j) = m'[j]?
def retXK (E : Env) (fn : Func) (res : AV) (m' : List AV) : AX → ASt → Prop
  | .nm, s => RetX E fn res m' s
  | .rt, s => RetX E fn res m' s
  | _, _ => False

theorem regs_blocks {Ts : List HT} {r : Nat} {T : HT} (h : regs Ts r = some T) : T ∈ Ts := by
  unfold regs at h
  split at h
  · exact List.mem_of_getElem? h
  · cases h

theorem flat_nodup : ∀ (l : List HT), (l.flatMap HT.blocks).Nodup → ∀ (i : Nat) (T : HT), l[i]? = some T → T.blocks.Nodup ∧ ∀ (j : Nat) (T' : HT), i ≠ j → l[j]? = some T' → ∀ x ∈ T.blocks, x ∉ T'.blocks
  | [], _, i, T, h => by simp at h
  | c :: r, hnd, i, T, h => by
    rw [List.flatMap_cons, List.nodup_append] at hnd
    obtain ⟨h1, h2, h3⟩ := hnd
    cases i with
    | zero =>
      simp only [List.getElem?_cons_zero, Option.some.injEq] at h
      subst h
      refine ⟨h1, fun j T' hj hT' x hx hx' => ?_⟩
      cases j with
      | zero => exact hj rfl
      | succ j => exact h3 x hx x (List.mem_flatMap.2 ⟨T', List.mem_of_getElem? (by simpa using hT'), hx'⟩) rfl
    | succ i =>
      simp only [List.getElem?_cons_succ] at h
      obtain ⟨g1, g2⟩ := flat_nodup r h2 i T h
      refine ⟨g1, fun j T' hj hT' x hx hx' => ?_⟩
      cases j with
      | zero =>
        simp only [List.getElem?_cons_zero, Option.some.injEq] at hT'
        subst hT'
        exact h3 x hx' x (List.mem_flatMap.2 ⟨T, List.mem_of_getElem? h, hx⟩) rfl
      | succ j => exact g2 j T' (by omega) (by simpa using hT') x hx hx'
theorem nodup_flat : ∀ (l : List HT), (∀ (i : Nat) (T : HT), l[i]? = some T → T.blocks.Nodup ∧ ∀ (j : Nat) (T' : HT), i ≠ j → l[j]? = some T' → ∀ x ∈ T.blocks, x ∉ T'.blocks) → (l.flatMap HT.blocks).Nodup
  | [], _ => by simp
  | c :: r, h => by
    rw [List.flatMap_cons, List.nodup_append]
    refine ⟨(h 0 c rfl).1, nodup_flat r (fun i T hT => ⟨(h (i + 1) T (by simpa using hT)).1, fun j T' hij hT' => (h (i + 1) T (by simpa using hT)).2 (j + 1) T' (by omega) (by simpa using hT')⟩), fun x hx y hy e => ?_⟩
    subst e
    obtain ⟨T, hT, hxT⟩ := List.mem_flatMap.1 hy
    obtain ⟨j, hj⟩ := List.getElem?_of_mem hT
    exact (h 0 c rfl).2 (j + 1) T (by omega) (by simpa using hj) x hx hxT

theorem DoesX.of {P : Program} {f : FuncId} {fn : Func} {c : Code} {args m : List AV} {res : AV} {m' : List AV} (hf : P.funcs[f]? = some fn) (hb : fn.body = some c) (hn : args.length ≤ fn.ntmps) (hn1 : fn.ntmps ≤ 1000) (hmm : m'.length = m.length)
    (h : ∀ E : Env, E.P = P → E.nt = fn.ntmps → AWP E c (retXK E fn res m') (startX args m)) : DoesX P f args m res m' := by
  intro w G Ts vs hG hm hsat hnd hown hl hv
  refine calls_of_wp hf hb ?_
  let E : Env := ⟨P, G, fun x => x ∈ Ts.flatMap HT.blocks, w, fn.ntmps, fun r => (regs Ts r).map HT.value⟩
  have hsize : (vs.toArray ++ Array.replicate (fn.ntmps - vs.toArray.size) undef).size = fn.ntmps := by simp; omega
  have hmem : ∀ {r T}, regs Ts r = some T → ∀ x ∈ T.blocks, x ∈ Ts.flatMap HT.blocks := fun hr x hx => List.mem_flatMap.2 ⟨_, regs_blocks hr, hx⟩
  have hndT : ∀ T ∈ Ts, T.blocks.Nodup := fun T hT => by
    obtain ⟨i, hi⟩ := List.getElem?_of_mem hT
    exact (flat_nodup Ts hnd i T hi).1
  have hdj : ∀ (i j : Nat) (T T' : HT), i ≠ j → Ts[i]? = some T → Ts[j]? = some T' → ∀ x ∈ T.blocks, x ∉ T'.blocks := fun i j T T' hij hi hj => (flat_nodup Ts hnd i T hi).2 j T' hij hj
  have hX : RelX E (regs Ts) G (startX args m) { tmps := vs.toArray ++ Array.replicate (fn.ntmps - vs.toArray.size) undef, defers := [] } w := by
    refine ⟨fun r => ?_, fun r T hT => hsat T (regs_blocks hT), fun r T hT => hndT T (regs_blocks hT), fun r r' T T' hr hT hT' => ?_, fun r T hT x hx => ⟨(hown x (hmem hT x hx)).1, (hown x (hmem hT x hx)).2, .inr (hmem hT x hx)⟩, fun x hx => ⟨hG x hx, .inl hx⟩, fun x hx => hx, fun i => ?_, Ext.refl _ _, rfl, hsize, hn1, fun r v hv => ?_⟩
    · simp only [startX, regs, ← hm, HT.erases_eq]
      split
      · rw [List.getElem?_map]
      · rfl
    · unfold regs at hT hT'
      split at hT
      · split at hT'
        · exact hdj _ _ T T' (by omega) hT hT'
        · cases hT'
      · cases hT
    · simp only [startX]
      cases ha : args[i]? with
      | none => exact .junk _
      | some a =>
        have hi : i < vs.length := by rw [hl]; exact (List.getElem?_eq_some_iff.1 ha).1
        have : (vs.toArray ++ Array.replicate (fn.ntmps - vs.toArray.size) undef).getD i undef = vs[i] := by
          rw [Array.getD_eq_getD_getElem?, Array.getElem?_append_left (by simpa using hi)]
          simp [hi]
        rw [this]
        simp only [Option.getD_some]
        exact hv i a _ ha (List.getElem?_eq_getElem hi)
    · simp only [E] at hv
      cases hr : regs Ts r with
      | none => rw [hr] at hv; cases hv
      | some T =>
        rw [hr] at hv
        simp only [Option.map_some, Option.some.injEq] at hv
        refine ⟨?_, T, rfl, hv⟩
        unfold regs at hr
        split at hr
        · assumption
        · cases hr
  have hml : m'.length = Ts.length := by rw [hmm, ← hm, HT.erases_eq, List.length_map]
  have hret : ∀ s a w', Rel E s a w' → RetX E fn res m' s → a.defers = [] ∧ ∃ v, (results fn a.tmps).run P w' = .ok v w' ∧ ∃ (T : HT) (Ts' : List HT), Ending.returned v = .returned T.value ∧ T.erase = res ∧ HT.erases Ts' = m' ∧ HT.values Ts' = HT.values Ts ∧ Ext (fun x => x ∈ Ts.flatMap HT.blocks) w w' ∧
      (T.blocks ++ Ts'.flatMap HT.blocks).Nodup ∧ (∀ x ∈ T.blocks ++ Ts'.flatMap HT.blocks, (x ∈ Ts.flatMap HT.blocks ∨ w.heap.size ≤ x) ∧ x < w'.heap.size) ∧
      ∃ G' : Nat → Prop, (∀ x, G x → G' x) ∧ (∀ x, G' x → G x ∨ (w.heap.size ≤ x ∧ x < w'.heap.size)) ∧ (∀ x ∈ T.blocks ++ Ts'.flatMap HT.blocks, ¬ G' x) ∧ Sat w' G' T ∧ ∀ K ∈ Ts', Sat w' G' K := by
    rintro s a w' ⟨M0, G', hX0⟩ hr
    obtain ⟨T, M', s', h1, h2, h3, h4, h5, hX', h6⟩ := hr M0 G' a w' hX0
    have hK : ∀ j, j < Ts.length → ∃ K, M' (1000 + j) = some K ∧ some K.value = (Ts[j]?).map HT.value := fun j hj => by
      have he : E.pv (1000 + j) = some (Ts[j].value) := by
        show (regs Ts (1000 + j)).map HT.value = _
        simp [regs, List.getElem?_eq_getElem hj]
      obtain ⟨_, K, k1, k2⟩ := hX'.pv _ _ he
      exact ⟨K, k1, by rw [k2, List.getElem?_eq_getElem hj]; rfl⟩
    let Ts' := (List.range Ts.length).map fun j => (M' (1000 + j)).getD default
    have hget : ∀ (j : Nat) (K : HT), Ts'[j]? = some K → j < Ts.length ∧ M' (1000 + j) = some K := fun j K hj => by
      have hjl : j < Ts.length := by
        have := (List.getElem?_eq_some_iff.1 hj).1
        simpa [Ts'] using this
      obtain ⟨K', k1, _⟩ := hK j hjl
      simp only [Ts', List.getElem?_map, List.getElem?_range hjl, Option.map_some, k1, Option.getD_some, Option.some.injEq] at hj
      exact ⟨hjl, by rw [k1, hj]⟩
    have hlen : Ts'.length = Ts.length := by simp [Ts']
    have hgets : ∀ j, j < Ts.length → ∃ K, Ts'[j]? = some K ∧ M' (1000 + j) = some K ∧ some K.value = (Ts[j]?).map HT.value := fun j hj => by
      obtain ⟨K, k1, k2⟩ := hK j hj
      exact ⟨K, by simp [Ts', hj, k1], k1, k2⟩
    clear_value Ts'
    have hmemK : ∀ x ∈ Ts'.flatMap HT.blocks, ∃ q K, M' q = some K ∧ x ∈ K.blocks := fun x hx => by
      obtain ⟨K, hK1, hK2⟩ := List.mem_flatMap.1 hx
      obtain ⟨j, hj⟩ := List.getElem?_of_mem hK1
      exact ⟨_, K, (hget j K hj).2, hK2⟩
    refine ⟨hX'.df, T.value, h1, T, Ts', rfl, h2, ?_, ?_, hX'.ext, ?_, fun x hx => ?_, G', hX'.g0, fun x hx => (hX'.gd x hx).2.imp id (fun h => ⟨h, (hX'.gd x hx).1⟩), fun x hx => ?_, h3, fun K hK1 => ?_⟩
    · rw [HT.erases_eq]
      apply List.ext_getElem?
      intro j
      by_cases hj : j < Ts.length
      · obtain ⟨K, k1, k2, _⟩ := hgets j hj
        rw [List.getElem?_map, k1, ← h6 j (by omega), hX'.er, k2]
      · rw [List.getElem?_eq_none (by simp [hlen]; omega), List.getElem?_eq_none (by omega)]
    · rw [HT.values_eq, HT.values_eq]
      apply List.ext_getElem?
      intro j
      by_cases hj : j < Ts.length
      · obtain ⟨K, k1, _, k3⟩ := hgets j hj
        rw [List.getElem?_map, List.getElem?_map, k1, ← k3]; rfl
      · rw [List.getElem?_eq_none (by simp [hlen]; omega), List.getElem?_eq_none (by simp; omega)]
    · rw [List.nodup_append]
      refine ⟨h4, nodup_flat Ts' (fun i K hi => ⟨hX'.nd _ K (hget i K hi).2, fun j K' hij hj => hX'.dj _ _ K K' (by omega) (hget i K hi).2 (hget j K' hj).2⟩), fun x hx y hy e => ?_⟩
      subst e
      obtain ⟨q, K, k1, k2⟩ := hmemK x hy
      exact (h5 x hx).1 q K k1 k2
    · rcases List.mem_append.1 hx with hx | hx
      · exact ⟨(h5 x hx).2.2.2.symm, (h5 x hx).2.1⟩
      · obtain ⟨q, K, k1, k2⟩ := hmemK x hx
        have := hX'.own q K k1 x k2
        exact ⟨this.2.2.symm, this.1⟩
    · rcases List.mem_append.1 hx with hx | hx
      · exact (h5 x hx).2.2.1
      · obtain ⟨q, K, k1, k2⟩ := hmemK x hx
        exact (hX'.own q K k1 x k2).2.1
    · obtain ⟨j, hj⟩ := List.getElem?_of_mem hK1
      exact hX'.sat _ K (hget j K hj).2
  refine wp_mono (h E rfl rfl _ w ⟨_, _, hX⟩) (fun e a w' hp => ?_)
  cases e with
  | normal => obtain ⟨s, h1, h2⟩ := hp; exact hret s a w' h1 h2
  | ret => obtain ⟨s, h1, h2⟩ := hp; exact hret s a w' h1 h2
  | exit i => obtain ⟨s, h1, h2⟩ := hp; exact h2.elim
  | goto l => exact hp.elim
  | panic ch => exact hp.elim
  | outgrown => exact hp.elim
def regsOk (m' : List AV) (s : ASt) : Prop := ∀ j, j < m'.length → s.m (1000 + j) = m'[j]?
def retXC (res : AV) (m' : List AV) : Option (AV × ASt) → Prop
  | some (A, s') => A = res ∧ regsOk m' s'
  | none => False
def retX1 (s : ASt) (res : AV) (m' : List AV) : Option AV → Prop
  | some v => retXC res m' (closeV s v)
  | none => False
theorem retX_q1 {E : Env} {fn : Func} {res : AV} {m' : List AV} {s : ASt} {x : ResultVar} (hr : fn.results = #[x]) (h : retX1 s res m' (rview E.P s x)) : RetX E fn res m' s := by
  unfold retX1 at h
  split at h
  · rename_i v hv
    unfold retXC at h
    split at h
    · rename_i A s' hc
      obtain ⟨rfl, hm⟩ := h
      intro M G a w hX
      obtain ⟨u, g1, g2⟩ := rview_val hX hv
      obtain ⟨M', T, e1, e2, e3, e4, e5, e6, _⟩ := closeV_spec v hc M G a w hX u g2
      refine ⟨T, M', s', ?_, e3, e4, e5, fun x hx => (e6 x hx).2, e1, hm⟩
      rw [results_rv, hr, e2]
      simp [g1]
    · exact h.elim
  · exact h.elim
theorem regsOk_one {a : AV} {s : ASt} (h : s.m 1000 = some a) : regsOk [a] s := fun j hj => by
  have : j = 0 := by simp at hj; omega
  subst this; simpa using h
theorem DoesX.walk {P : Program} {f : FuncId} {fn : Func} {c : Code} {args m m' : List AV} {res : AV} {nt : Nat} (hf : P.funcs[f]? = some fn) (hb : fn.body = some c) (hnt : fn.ntmps = nt) (hn : args.length ≤ nt) (hn1 : nt ≤ 1000) (hmm : m'.length = m.length)
    (h : ∀ (G0 X : Nat → Prop) (w0 : World) (pv : Nat → Option Value), aw ⟨P, G0, X, w0, nt, pv⟩ c (retXK ⟨P, G0, X, w0, nt, pv⟩ fn res m') (startX args m)) : DoesX P f args m res m' :=
  DoesX.of hf hb (by omega) (by omega) hmm (fun E e1 e2 => by
    obtain ⟨P', G0, X, w0, nt', pv⟩ := E
    simp only at e1 e2
    subst e1
    rw [hnt] at e2
    subst e2
    exact aw_sound (h G0 X w0 pv))
end Go.Av
end
section
set_option linter.unusedSimpArgs false
set_option linter.unusedVariables false
/-! Places of the caller's own memory, lent to a callee that changes what lies there. -/
namespace Go.Av

/-- Refs strictly under a lent place go. -/
def swapF (rep : Nat → Option (List Nat)) : Nat → List Nat → Option (Nat × List Nat) := fun r p' => match rep r with
  | some p => if p.isPrefixOf p' = true ∧ p ≠ p' then none else some (r, p')
  | none => some (r, p')
def swapM (M : Nat → Option HT) (rep : Nat → Option (List Nat)) (new : Nat → HT) : Nat → Option HT := fun r => match rep r with
  | some p => (M r).map (·.upd p (new r))
  | none => M r
def ASt.swap (s : ASt) (rep : Nat → Option (List Nat)) (new : Nat → AV) : ASt := ⟨fun i => (s.t i).mapRef (swapF rep), fun r => match rep r with
  | some p => (s.m r).map (·.upd p (new r))
  | none => s.m r⟩

theorem at_upd_self : ∀ (p : List Nat) {T N N' : HT}, T.at_ p = some N → (T.upd p N').at_ p = some N'
  | [], T, N, N', h => by simp [HT.upd, HT.at_]
  | i :: p, T, N, N', h => by
    simp only [HT.at_] at h
    split at h
    · rename_i c hc
      obtain ⟨hi, hc'⟩ := List.getElem?_eq_some_iff.1 hc
      simp only [HT.upd, hc, HT.at_, HT.withKids_kids hc, List.getElem?_set]
      simp only [hi, if_true]
      exact at_upd_self p h
    · cases h

theorem nodup_inj {α : Type} : ∀ {l : List α} {i j : Nat} {x : α}, l.Nodup → l[i]? = some x → l[j]? = some x → i = j
  | [], i, j, x, _, h, _ => by simp at h
  | a :: l, 0, 0, x, _, _, _ => rfl
  | a :: l, 0, j + 1, x, hn, h, h' => by
    simp only [List.getElem?_cons_zero, Option.some.injEq, List.getElem?_cons_succ] at h h'
    subst h
    exact absurd (List.mem_of_getElem? h') (List.nodup_cons.1 hn).1
  | a :: l, i + 1, 0, x, hn, h, h' => by
    simp only [List.getElem?_cons_zero, Option.some.injEq, List.getElem?_cons_succ] at h h'
    subst h'
    exact absurd (List.mem_of_getElem? h) (List.nodup_cons.1 hn).1
  | a :: l, i + 1, j + 1, x, hn, h, h' => by
    have := nodup_inj (i := i) (j := j) (x := x) (List.nodup_cons.1 hn).2 (by simpa using h) (by simpa using h')
    omega
theorem nodup_at : ∀ (p : List Nat) {T N : HT}, T.at_ p = some N → T.blocks.Nodup → N.blocks.Nodup
  | [], T, N, h, hn => by simp only [HT.at_, Option.some.injEq] at h; exact h ▸ hn
  | i :: p, T, N, h, hn => by
    simp only [HT.at_] at h
    split at h
    · rename_i c hc
      refine nodup_at p h ?_
      rw [HT.blocks_kids] at hn
      have := (List.nodup_append.1 hn).2.1
      rw [(flatMap_set HT.blocks T.kids i c c hc).1] at this
      exact (List.nodup_append.1 (List.nodup_append.1 this).2.1).1
    · cases h

theorem RelX.swap {E : Env} {M : Nat → Option HT} {G G' : Nat → Prop} {s : ASt} {a : Act} {w w' : World} (h : RelX E M G s a w) (rep : Nat → Option (List Nat)) (old new : Nat → HT) (L : Nat → Prop)
    (hrep : ∀ r p, rep r = some p → ∃ T, M r = some T ∧ T.at_ p = some (old r) ∧ (new r).value = (old r).value ∧ ((new r).isMem = true → (new r).hd = (old r).hd) ∧ Sat w' G' (new r) ∧ (new r).blocks.Nodup)
    (hL : ∀ x, L x → ∃ r p, rep r = some p ∧ x ∈ (old r).blocks) (hL' : ∀ r p, rep r = some p → ∀ x ∈ (old r).blocks, L x) (hw : Ext L w w')
    (hb : ∀ r p, rep r = some p → ∀ x ∈ (new r).blocks, (L x ∨ w.heap.size ≤ x) ∧ x < w'.heap.size ∧ ¬ G' x)
    (hdj : ∀ r r' p p', r ≠ r' → rep r = some p → rep r' = some p' → ∀ x ∈ (new r).blocks, x ∉ (new r').blocks)
    (hGG : ∀ x, G x → G' x) (hG' : ∀ x, G' x → G x ∨ (w.heap.size ≤ x ∧ x < w'.heap.size)) :
    RelX E (swapM M rep new) G' (s.swap rep (fun r => (new r).erase)) a w' := by
  have hLM : ∀ x, L x → ∃ r p T, rep r = some p ∧ M r = some T ∧ x ∈ (old r).blocks ∧ x ∈ T.blocks := fun x hx => by
    obtain ⟨r, p, h1, h2⟩ := hL x hx
    obtain ⟨T, h3, h4, _⟩ := hrep r p h1
    exact ⟨r, p, T, h1, h3, h2, at_blocks p h4 x h2⟩
  have hLX : ∀ x, L x → x < w.heap.size ∧ ¬ G x ∧ (E.w0.heap.size ≤ x ∨ E.X x) := fun x hx => by
    obtain ⟨r, p, T, h1, h2, h3, h4⟩ := hLM x hx
    exact h.own r T h2 x h4
  have hGb : ∀ b, G b → w'.heap[b]? = w.heap[b]? := fun b hg => hw.block b (h.gd b hg).1 (fun hx => (hLX b hx).2.1 hg)
  -- a block of a region that is lent lies in what is lent of that region
  have hin : ∀ r p T x, rep r = some p → M r = some T → L x → x ∈ T.blocks → x ∈ (old r).blocks := fun r p T x h1 h2 h3 h4 => by
    obtain ⟨r', p', T', k1, k2, k3, k4⟩ := hLM x h3
    by_cases e : r = r'
    · subst e; exact k3
    · exact absurd k4 (h.dj r r' T T' e h2 k2 x h4)
  have hout : ∀ r T x, rep r = none → M r = some T → x ∈ T.blocks → ¬ L x := fun r T x h1 h2 h3 h4 => by
    obtain ⟨r', p', T', k1, k2, k3, k4⟩ := hLM x h4
    by_cases e : r = r'
    · subst e; rw [h1] at k1; cases k1
    · exact h.dj r r' T T' e h2 k2 x h3 k4
  -- what a region is now
  have hM : ∀ r T', swapM M rep new r = some T' → (rep r = none ∧ M r = some T') ∨ ∃ p T, rep r = some p ∧ M r = some T ∧ T' = T.upd p (new r) := fun r T' hT => by
    unfold swapM at hT
    split at hT
    · rename_i p hp
      obtain ⟨T, h1, _⟩ := hrep r p hp
      rw [h1] at hT
      simp only [Option.map_some, Option.some.injEq] at hT
      exact .inr ⟨p, T, hp, h1, hT.symm⟩
    · rename_i hp
      exact .inl ⟨hp, hT⟩
  have hbl : ∀ r T', swapM M rep new r = some T' → ∀ x ∈ T'.blocks, (∃ p, rep r = some p ∧ x ∈ (new r).blocks) ∨ (∃ T, M r = some T ∧ x ∈ T.blocks ∧ ¬ L x) := fun r T' hT x hx => by
    rcases hM r T' hT with ⟨h1, h2⟩ | ⟨p, T, h1, h2, rfl⟩
    · exact .inr ⟨T', h2, hx, hout r T' x h1 h2 hx⟩
    · obtain ⟨T0, k1, k2, _⟩ := hrep r p h1
      rw [h2] at k1; cases k1
      rcases mem_blocks_upd p k2 (h.nd r T h2) x hx with h4 | ⟨h4, h5⟩
      · exact .inl ⟨p, h1, h4⟩
      · exact .inr ⟨T, h2, h4, fun hl => h5 (hin r p T x h1 h2 hl h4)⟩
  refine ⟨fun r => ?_, fun r T' hT' => ?_, fun r T' hT' => ?_, fun r r' T1 T2 hr h1 h2 x hx hx' => ?_, fun r T' hT' x hx => ?_, fun x hx => ?_, fun x hx => hGG x (h.g0 x hx), fun i => ?_, ?_, h.df, h.nt, h.n1, fun r v hv => ?_⟩
  · simp only [ASt.swap, swapM]
    split
    · rename_i p hp
      obtain ⟨T, h1, h2, _⟩ := hrep r p hp
      rw [h.er, h1]
      simp only [Option.map_some]
      rw [erase_upd p (h.sat r T h1) h2]
    · exact h.er r
  · rcases hM r T' hT' with ⟨h1, h2⟩ | ⟨p, T, h1, h2, rfl⟩
    · exact (h.sat r T' h2).congr (fun b hx => hw.block b (h.own r T' h2 b hx).1 (hout r T' b h1 h2 hx)) hGb hGG
    · obtain ⟨T0, k1, k2, k3, k4, k5, k6⟩ := hrep r p h1
      rw [h2] at k1; cases k1
      exact Sat.upd hGb hGG p (h.sat r T h2) k2 (h.nd r T h2) k3 k5 (fun b hb1 hb2 => hw.block b (h.own r T h2 b hb1).1 (fun hl => hb2 (hin r p T b h1 h2 hl hb1)))
  · rcases hM r T' hT' with ⟨h1, h2⟩ | ⟨p, T, h1, h2, rfl⟩
    · exact h.nd r T' h2
    · obtain ⟨T0, k1, k2, k3, k4, k5, k6⟩ := hrep r p h1
      rw [h2] at k1; cases k1
      refine nodup_upd p k2 (h.nd r T h2) k6 (fun x hx hxT => ?_)
      rcases (hb r p h1 x hx).1 with hl | hl
      · exact hin r p T x h1 h2 hl hxT
      · have := (h.own r T h2 x hxT).1; omega
  · rcases hbl r T1 h1 x hx with ⟨p, k1, k2⟩ | ⟨T, k1, k2, k3⟩ <;> rcases hbl r' T2 h2 x hx' with ⟨p', k1', k2'⟩ | ⟨T', k1', k2', k3'⟩
    · exact hdj r r' p p' hr k1 k1' x k2 k2'
    · rcases (hb r p k1 x k2).1 with hl | hl
      · exact k3' hl
      · have := (h.own r' T' k1' x k2').1; omega
    · rcases (hb r' p' k1' x k2').1 with hl | hl
      · exact k3 hl
      · have := (h.own r T k1 x k2).1; omega
    · exact h.dj r r' T T' hr k1 k1' x k2 k2'
  · rcases hbl r T' hT' x hx with ⟨p, k1, k2⟩ | ⟨T, k1, k2, k3⟩
    · obtain ⟨g1, g2, g3⟩ := hb r p k1 x k2
      refine ⟨g2, g3, ?_⟩
      rcases g1 with hl | hl
      · exact (hLX x hl).2.2
      · exact .inl (Nat.le_trans h.ext.size hl)
    · obtain ⟨g1, g2, g3⟩ := h.own r T k1 x k2
      exact ⟨Nat.lt_of_lt_of_le g1 hw.size, fun hg => (hG' x hg).elim g2 (fun h4 => by omega), g3⟩
  · rcases hG' x hx with hg | ⟨h1, h2⟩
    · obtain ⟨h1, h2⟩ := h.gd x hg
      exact ⟨Nat.lt_of_lt_of_le h1 hw.size, h2⟩
    · exact ⟨h2, .inr (Nat.le_trans h.ext.size h1)⟩
  · simp only [ASt.swap]
    refine ((h.sl i).congr hGb hGG).mapRef (fun r p r' p' hf T' N' hT' hN' hm => ?_)
    simp only [swapF] at hf
    rcases hM _ T' hT' with ⟨h1, h2⟩ | ⟨p0, T, h1, h2, rfl⟩
    · cases hr : rep r with
      | none =>
        rw [hr] at hf
        simp only [Option.some.injEq, Prod.mk.injEq] at hf
        obtain ⟨rfl, rfl⟩ := hf
        exact ⟨T', N', h2, hN', rfl⟩
      | some p0 =>
        rw [hr] at hf
        simp only at hf
        split at hf
        · cases hf
        · simp only [Option.some.injEq, Prod.mk.injEq] at hf
          obtain ⟨rfl, rfl⟩ := hf
          rw [h1] at hr; cases hr
    · cases hr : rep r with
      | none =>
        rw [hr] at hf
        simp only [Option.some.injEq, Prod.mk.injEq] at hf
        obtain ⟨rfl, rfl⟩ := hf
        rw [h1] at hr; cases hr
      | some p1 =>
        rw [hr] at hf
        simp only at hf
        split at hf
        · cases hf
        · rename_i hk
          simp only [Option.some.injEq, Prod.mk.injEq] at hf
          obtain ⟨rfl, rfl⟩ := hf
          rw [h1] at hr
          simp only [Option.some.injEq] at hr
          subst hr
          obtain ⟨T0, k1, k2, k3, k4, k5, k6⟩ := hrep r p0 h1
          rw [h2] at k1; cases k1
          by_cases hpe : p0 = p
          · subst hpe
            rw [at_upd_self p0 k2] at hN'
            simp only [Option.some.injEq] at hN'
            subst hN'
            exact ⟨T, _, h2, k2, (k4 hm).symm⟩
          · have hnp : p0.isPrefixOf p ≠ true := fun e => hk ⟨e, hpe⟩
            have := Heads.upd p0 k2 (ex := fun _ => True) (fun q M' hx _ _ => absurd trivial hx) (N' := new r)
            obtain ⟨N, n1, n2⟩ := this p N' (fun ⟨q', e, _⟩ => hnp (by rw [e]; exact List.isPrefixOf_iff_prefix.2 ⟨q', rfl⟩)) hN' hm
            exact ⟨T, N, h2, n1, n2⟩
  · exact h.ext.trans hw (fun i hi hx => (hLX i hx).2.2.resolve_left (by omega))
  · obtain ⟨h1, T, h2, h3⟩ := h.pv r v hv
    refine ⟨h1, ?_⟩
    cases hr : rep r with
    | none => exact ⟨T, by simp only [swapM, hr]; exact h2, h3⟩
    | some p =>
      obtain ⟨T0, k1, k2, k3, _⟩ := hrep r p hr
      rw [h2] at k1; cases k1
      exact ⟨T.upd p (new r), by simp only [swapM, hr, h2, Option.map_some], by rw [value_upd p k2 k3]; exact h3⟩

/-! ### The call -/
def renP (pl : List (Nat × List Nat)) : Nat → List Nat → Option (Nat × List Nat) := fun r p => if 1000 ≤ r then (match pl[r - 1000]? with
  | some (q, p0) => some (q, p0 ++ p)
  | none => none) else none
def repP : List (Nat × List Nat) → Nat → Option (List Nat)
  | [], _ => none
  | (q, p) :: l, r => if r = q then some p else repP l r
def newP : List (Nat × List Nat) → List HT → Nat → HT
  | (q, _) :: l, K :: Ks, r => if r = q then K else newP l Ks r
  | _, _, _ => .leaf .junk undef
def newA : List (Nat × List Nat) → List AV → Nat → AV
  | (q, _) :: l, K :: Ks, r => if r = q then K else newA l Ks r
  | _, _, _ => .junk
def lentOk (s : ASt) : List (Nat × List Nat) → List AV → Prop
  | [], [] => True
  | (r, p) :: pl, A :: m => nodeOf s r p = some A ∧ lentOk s pl m
  | _, _ => False
def hdOk : AV → AV → Bool
  | .row true sz n _, .row true sz' n' _ => decide (sz = sz') && decide (n = n')
  | .box true _, .box true _ => true
  | _, .junk => true
  | _, _ => false
def hdsOk : List AV → List AV → Bool
  | [], [] => true
  | a :: l, b :: k => hdOk a b && hdsOk l k
  | _, _ => false

theorem newP_erase : ∀ (pl : List (Nat × List Nat)) (Ks : List HT) (r : Nat), (newP pl Ks r).erase = newA pl (HT.erases Ks) r
  | [], [], r => rfl
  | [], _ :: _, r => rfl
  | (q, p) :: l, [], r => rfl
  | (q, p) :: l, K :: Ks, r => by
    simp only [newP, HT.erases, newA]
    split
    · rfl
    · exact newP_erase l Ks r

theorem repP_spec : ∀ {pl : List (Nat × List Nat)} {Ks : List HT} {r : Nat} {p : List Nat}, repP pl r = some p → Ks.length = pl.length → ∃ (j : Nat) (K : HT), pl[j]? = some (r, p) ∧ Ks[j]? = some K ∧ newP pl Ks r = K
  | [], Ks, r, p, h, _ => by simp [repP] at h
  | (q, p0) :: l, [], r, p, h, hl => by simp at hl
  | (q, p0) :: l, K :: Ks, r, p, h, hl => by
    simp only [repP] at h
    split at h
    · rename_i e; subst e
      simp only [Option.some.injEq] at h; subst h
      exact ⟨0, K, rfl, rfl, by simp [newP]⟩
    · rename_i e
      obtain ⟨j, K', h1, h2, h3⟩ := repP_spec (Ks := Ks) h (by simpa using hl)
      exact ⟨j + 1, K', by simpa using h1, by simpa using h2, by simp only [newP, e, if_false]; exact h3⟩
theorem repP_of : ∀ {pl : List (Nat × List Nat)} {Ks : List HT} {j r : Nat} {p : List Nat} {K : HT}, (pl.map Prod.fst).Nodup → pl[j]? = some (r, p) → Ks[j]? = some K → repP pl r = some p ∧ newP pl Ks r = K
  | [], Ks, j, r, p, K, _, h, _ => by simp at h
  | (q, p0) :: l, [], j, r, p, K, _, _, h => by simp at h
  | (q, p0) :: l, K0 :: Ks, 0, r, p, K, _, h, h' => by
    simp only [List.getElem?_cons_zero, Option.some.injEq, Prod.mk.injEq] at h h'
    obtain ⟨rfl, rfl⟩ := h
    subst h'
    simp [repP, newP]
  | (q, p0) :: l, K0 :: Ks, j + 1, r, p, K, hn, h, h' => by
    simp only [List.getElem?_cons_succ] at h h'
    simp only [List.map_cons, List.nodup_cons] at hn
    have hne : r ≠ q := fun e => hn.1 (by subst e; exact List.mem_map.2 ⟨(r, p), List.mem_of_getElem? h, rfl⟩)
    obtain ⟨h1, h2⟩ := repP_of (Ks := Ks) hn.2 h h'
    simp only [repP, newP, hne, if_false]
    exact ⟨h1, h2⟩

theorem lent_spec {E : Env} {M : Nat → Option HT} {G : Nat → Prop} {s : ASt} {a : Act} {w : World} (hX : RelX E M G s a w) : ∀ {pl : List (Nat × List Nat)} {m : List AV}, lentOk s pl m →
    ∃ Ts : List HT, HT.erases Ts = m ∧ Ts.length = pl.length ∧ ∀ (j r : Nat) (p : List Nat) (N : HT), pl[j]? = some (r, p) → Ts[j]? = some N → ∃ T, M r = some T ∧ T.at_ p = some N ∧ Sat w G N
  | [], [], _ => ⟨[], rfl, rfl, fun j r p N h => by simp at h⟩
  | (r, p) :: pl, A :: m, h => by
    obtain ⟨T, N, h1, h2, h3, _, h4⟩ := nodeOf_spec hX h.1
    obtain ⟨Ts, k1, k2, k3⟩ := lent_spec hX h.2
    refine ⟨N :: Ts, by simp [HT.erases, h3, k1], by simp [k2], fun j r' p' N' hj hN => ?_⟩
    cases j with
    | zero =>
      simp only [List.getElem?_cons_zero, Option.some.injEq, Prod.mk.injEq] at hj hN
      obtain ⟨rfl, rfl⟩ := hj; subst hN
      exact ⟨T, h1, h2, h4⟩
    | succ j => exact k3 j r' p' N' (by simpa using hj) (by simpa using hN)
  | [], _ :: _, h => h.elim
  | (_, _) :: _, [], h => h.elim

theorem hds_get : ∀ {m m' : List AV} {j : Nat} {A B : AV}, hdsOk m m' = true → m[j]? = some A → m'[j]? = some B → hdOk A B = true
  | [], _, j, A, B, _, h, _ => by simp at h
  | _ :: _, [], j, A, B, h, _, _ => by simp [hdsOk] at h
  | a :: l, b :: k, 0, A, B, h, h1, h2 => by
    simp only [hdsOk, Bool.and_eq_true] at h
    simp only [List.getElem?_cons_zero, Option.some.injEq] at h1 h2
    subst h1; subst h2; exact h.1
  | a :: l, b :: k, j + 1, A, B, h, h1, h2 => by
    simp only [hdsOk, Bool.and_eq_true] at h
    exact hds_get h.2 (by simpa using h1) (by simpa using h2)
theorem hdsOk_len : ∀ {m m' : List AV}, hdsOk m m' = true → m.length = m'.length
  | [], [], _ => rfl
  | [], _ :: _, h => by simp [hdsOk] at h
  | _ :: _, [], h => by simp [hdsOk] at h
  | a :: l, b :: k, h => by
    simp only [hdsOk, Bool.and_eq_true] at h
    simp [hdsOk_len h.2]

theorem hd_of {w w' : World} {G G' : Nat → Prop} {N N' : HT} (hs : Sat w G N) (hs' : Sat w' G' N') (hv : N'.value = N.value) (h : hdOk N.erase N'.erase = true) (hm : N'.isMem = true) : N'.hd = N.hd := by
  cases hs' with
  | leaf a v ha h' => simp [HT.isMem] at hm
  | agg cs h' => simp [HT.isMem] at hm
  | tup cs h' => simp [HT.isMem] at hm
  | row b sz n cap cs C e _ _ _ _ _ _ _ _ =>
    cases hs with
    | row b' sz' n' cap' cs' C' e' _ _ _ _ _ _ _ _ =>
      simp only [HT.value, Value.slice.injEq, Option.some.injEq, Addr.mk.injEq, and_true, true_and] at hv
      obtain ⟨rfl, rfl, rfl⟩ := hv
      simp only [HT.erase, hdOk, Bool.and_eq_true, decide_eq_true_eq, and_true] at h
      subst h
      simp [HT.hd]
    | nilrow sz' => simp [HT.value] at hv
    | leaf a v ha h' => cases a with
      | row o _ _ _ => cases o <;> simp_all [HT.erase, hdOk, AV.leafOk]
      | _ => simp_all [HT.erase, hdOk, AV.leafOk]
    | box => simp [HT.value] at hv
    | agg => simp [HT.value] at hv
    | tup => simp [HT.value] at hv
  | nilrow sz =>
    cases hs with
    | nilrow sz' => simp only [HT.erase, hdOk, Bool.and_eq_true, decide_eq_true_eq, and_true] at h; simp [HT.hd, h]
    | row => simp [HT.value] at hv
    | leaf a v ha h' => cases a with
      | row o _ _ _ => cases o <;> simp_all [HT.erase, hdOk, AV.leafOk]
      | _ => simp_all [HT.erase, hdOk, AV.leafOk]
    | box => simp [HT.value] at hv
    | agg => simp [HT.value] at hv
    | tup => simp [HT.value] at hv
  | box b cs C e _ _ _ _ =>
    cases hs with
    | box b' cs' C' e' _ _ _ _ =>
      simp only [HT.value, Value.pointer.injEq, Option.some.injEq, Addr.mk.injEq, and_true] at hv
      subst hv
      simp [HT.hd]
    | leaf a v ha h' => cases a with
      | box o _ => cases o <;> simp_all [HT.erase, hdOk, AV.leafOk]
      | _ => simp_all [HT.erase, hdOk, AV.leafOk]
    | row => simp [HT.value] at hv
    | nilrow => simp [HT.value] at hv
    | agg => simp [HT.value] at hv
    | tup => simp [HT.value] at hv

theorem at_append : ∀ (p q : List Nat) {T N : HT}, T.at_ p = some N → T.at_ (p ++ q) = N.at_ q
  | [], q, T, N, h => by simp only [HT.at_, Option.some.injEq] at h; subst h; rfl
  | i :: p, q, T, N, h => by
    simp only [HT.at_] at h
    split at h
    · rename_i c hc
      simp only [List.cons_append, HT.at_, hc]
      exact at_append p q h
    · cases h

mutual
theorem unren {M : Nat → Option HT} {G : Nat → Prop} {w : World} {Ts : List HT} (f : Nat → List Nat → Option (Nat × List Nat))
    (hf : ∀ r p N0, regs Ts r = some N0 → ∃ r' p0 T, f r p = some (r', p0 ++ p) ∧ M r' = some T ∧ T.at_ p0 = some N0) : ∀ (a : AV) {v : Value}, VR w G M (a.mapRef f) v → VR w G (regs Ts) a v
  | .lit c, v, h => by simp only [AV.mapRef] at h; exact h.free rfl
  | .junk, v, h => .junk v
  | .row false sz n cs, v, h => by simp only [AV.mapRef] at h; exact h.free rfl
  | .row true sz n cs, v, h => by simp only [AV.mapRef] at h; cases h
  | .box false cs, v, h => by simp only [AV.mapRef] at h; exact h.free rfl
  | .box true cs, v, h => by simp only [AV.mapRef] at h; cases h
  | .sl r p off len, v, h => by
    refine .sl r p off len v (fun N0 hN0 b sz n cap cs hN hle => ?_) (fun N0 hN0 sz hN hle => ?_)
    · obtain ⟨r', p0, T, e1, e2, e3⟩ := hf r p N0 hN0
      simp only [AV.mapRef, e1] at h
      cases h with
      | sl _ _ _ _ _ h h0 => exact h T e2 b sz n cap cs (by rw [at_append p0 p e3]; exact hN) hle
    · obtain ⟨r', p0, T, e1, e2, e3⟩ := hf r p N0 hN0
      simp only [AV.mapRef, e1] at h
      cases h with
      | sl _ _ _ _ _ h h0 => exact h0 T e2 sz (by rw [at_append p0 p e3]; exact hN) hle
  | .ptr r p o, v, h => by
    refine .ptr r p o v (fun N0 hN0 b sz n cap cs hN => ?_) (fun N0 hN0 b cs hN => ?_)
    · obtain ⟨r', p0, T, e1, e2, e3⟩ := hf r p N0 hN0
      simp only [AV.mapRef, e1] at h
      cases h with
      | ptr _ _ _ _ h h0 => exact h T e2 b sz n cap cs (by rw [at_append p0 p e3]; exact hN)
    · obtain ⟨r', p0, T, e1, e2, e3⟩ := hf r p N0 hN0
      simp only [AV.mapRef, e1] at h
      cases h with
      | ptr _ _ _ _ h h0 => exact h0 T e2 b cs (by rw [at_append p0 p e3]; exact hN)
  | .agg cs, v, h => by
    simp only [AV.mapRef] at h
    cases h with
    | agg _ us hl h => exact .agg cs us (by rw [hl, AV.mapRefs_eq, List.length_map]) (fun i a u hi hu => unrens f hf cs i a u hi (fun b hb => h i b u hb hu))
  | .tup cs, v, h => by
    simp only [AV.mapRef] at h
    cases h with
    | tup _ us hl h => exact .tup cs us (by rw [hl, AV.mapRefs_eq, List.length_map]) (fun i a u hi hu => unrens f hf cs i a u hi (fun b hb => h i b u hb hu))
  | .fn g cs, v, h => by
    simp only [AV.mapRef] at h
    cases h with
    | fn _ _ us hl h => exact .fn g cs us (by rw [hl, AV.mapRefs_eq, List.length_map]) (fun i a u hi hu => unrens f hf cs i a u hi (fun b hb => h i b u hb hu))
theorem unrens {M : Nat → Option HT} {G : Nat → Prop} {w : World} {Ts : List HT} (f : Nat → List Nat → Option (Nat × List Nat))
    (hf : ∀ r p N0, regs Ts r = some N0 → ∃ r' p0 T, f r p = some (r', p0 ++ p) ∧ M r' = some T ∧ T.at_ p0 = some N0) : ∀ (cs : List AV) (i : Nat) (a : AV) (u : Value), cs[i]? = some a → (∀ b, (AV.mapRefs f cs)[i]? = some b → VR w G M b u) → VR w G (regs Ts) a u
  | [], i, a, u, h, _ => by simp at h
  | c :: l, 0, a, u, h, hb => by
    simp only [List.getElem?_cons_zero, Option.some.injEq] at h; subst h
    exact unren f hf c (hb (AV.mapRef f c) (by simp only [AV.mapRefs, List.getElem?_cons_zero]))
  | c :: l, i + 1, a, u, h, hb => unrens f hf l i a u (by simpa using h) (fun b h' => hb b (by simpa [AV.mapRefs] using h'))
end

section
variable {E : Env} {s : ASt} {d : Nat} {x y : Operand} {t xt : TypeId} {pos : String} {after : Array Edge} {g : Option (Nat × Bool)} {R : ASt → Prop}
theorem callX_core {dst : Option Tmp} {fo : Operand} {f : FuncId} {caps : List AV} {xs : List Operand} {ts : Array TypeId} {args m m' : List AV} {res : AV} {pl : List (Nat × List Nat)} (hf : s.ev fo = .fn f caps) (he : entB E.P f = true)
    (ha : xs.map s.ev ++ caps = AV.mapRefs (renP pl) args) (hd : DoesX E.P f args m res m') (hm : lentOk s pl m) (hpl : (pl.map Prod.fst).Nodup) (hh : hdsOk m m' = true) {M : Nat → Option HT} {G : Nat → Prop} {a : Act} {w : World} (hX : RelX E M G s a w)
    {K : Act → World → Prop} {Q : Exit → Act → World → Prop}
    (hK : ∀ (T : HT) M' w' (G' : Nat → Prop), T.erase = res → RelX E M' G' (s.swap (repP pl) (newA pl m')) a w' → T.blocks.Nodup → (∀ x ∈ T.blocks, (∀ r T', M' r = some T' → x ∉ T'.blocks) ∧ x < w'.heap.size ∧ ¬ G' x ∧ (E.w0.heap.size ≤ x ∨ E.X x)) → Sat w' G' T → K (a.put dst T.value) w') :
    (⟨dst, .call { callee := .value fo, args := xs.toArray, argTypes := ts }, t, pos, after, g⟩ : Oper).wp E.P a w K Q := by
  have hfv := hX.ev fo
  rw [hf] at hfv
  generalize hfe : a.eval fo = fv at hfv
  cases hfv with
  | fn _ _ us hul huv =>
    have hrun : (execOp a.eval ⟨dst, .call { callee := .value fo, args := xs.toArray, argTypes := ts }, t, pos, after, g⟩).run E.P w = .ok (.enter f (xs.map a.eval ++ us).toArray) w := by
      simp [execOp, resolve, hfe, Deferred.ofValue, invoke, callFunc_of he]
    obtain ⟨Ts, e1, e2, e3⟩ := lent_spec hX hm
    have hargs : ∀ (i : Nat) (v : AV) (u : Value), (xs.map s.ev ++ caps)[i]? = some v → (xs.map a.eval ++ us)[i]? = some u → VR w G M v u := fun i v u h1 h2 => by
      by_cases hi : i < (xs.map s.ev).length
      · rw [List.getElem?_append_left hi] at h1
        rw [List.getElem?_append_left (by simpa using hi)] at h2
        rw [List.getElem?_map] at h1 h2
        cases hx : xs[i]? with
        | none => rw [hx] at h1; cases h1
        | some z =>
          rw [hx] at h1 h2
          simp only [Option.map_some, Option.some.injEq] at h1 h2
          subst h1; subst h2
          exact hX.ev z
      · rw [List.getElem?_append_right (by omega)] at h1
        rw [List.getElem?_append_right (by simpa using hi)] at h2
        simp only [List.length_map] at h1 h2
        exact huv _ v u h1 h2
    have hlen : (xs.map a.eval ++ us).length = args.length := by
      have := congrArg List.length ha
      simp only [List.length_append, List.length_map, AV.mapRefs_eq] at this ⊢
      omega
    have hget : ∀ (j : Nat) (N : HT), Ts[j]? = some N → ∃ r p T, pl[j]? = some (r, p) ∧ M r = some T ∧ T.at_ p = some N ∧ Sat w G N := fun j N hj => by
      have hjl : j < pl.length := by rw [← e2]; exact (List.getElem?_eq_some_iff.1 hj).1
      obtain ⟨T, k1, k2, k3⟩ := e3 j pl[j].1 pl[j].2 N (List.getElem?_eq_getElem hjl) hj
      exact ⟨_, _, T, List.getElem?_eq_getElem hjl, k1, k2, k3⟩
    have hne : ∀ (i j r : Nat) (p p' : List Nat), i ≠ j → pl[i]? = some (r, p) → pl[j]? ≠ some (r, p') := fun i j r p p' hij h1 h2 => by
      have h3 : (pl.map Prod.fst)[i]? = some r := by rw [List.getElem?_map, h1]; rfl
      have h4 : (pl.map Prod.fst)[j]? = some r := by rw [List.getElem?_map, h2]; rfl
      exact hij (nodup_inj hpl h3 h4)
    have hnd : (Ts.flatMap HT.blocks).Nodup := nodup_flat Ts (fun i T hi => by
      obtain ⟨r, p, T0, k1, k2, k3, _⟩ := hget i T hi
      refine ⟨nodup_at p k3 (hX.nd r T0 k2), fun j T' hij hj x hx hx' => ?_⟩
      obtain ⟨r', p', T0', k1', k2', k3', _⟩ := hget j T' hj
      have hrr : r ≠ r' := fun e => by subst e; exact hne i j r p p' hij k1 k1'
      exact hX.dj r r' T0 T0' hrr k2 k2' x (at_blocks p k3 x hx) (at_blocks p' k3' x hx'))
    have hmem : ∀ x ∈ Ts.flatMap HT.blocks, ∃ (j : Nat) (N : HT), Ts[j]? = some N ∧ x ∈ N.blocks := fun x hx => by
      obtain ⟨N, h1, h2⟩ := List.mem_flatMap.1 hx
      obtain ⟨j, hj⟩ := List.getElem?_of_mem h1
      exact ⟨j, N, hj, h2⟩
    have hown : ∀ x ∈ Ts.flatMap HT.blocks, x < w.heap.size ∧ ¬ G x := fun x hx => by
      obtain ⟨j, N, h1, h2⟩ := hmem x hx
      obtain ⟨r, p, T0, k1, k2, k3, _⟩ := hget j N h1
      have := hX.own r T0 k2 x (at_blocks p k3 x h2)
      exact ⟨this.1, this.2.1⟩
    have hrf : ∀ r p N0, regs Ts r = some N0 → ∃ r' p0 T, renP pl r p = some (r', p0 ++ p) ∧ M r' = some T ∧ T.at_ p0 = some N0 := fun r p N0 hr => by
      unfold regs at hr
      split at hr
      · rename_i h1000
        obtain ⟨r', p0, T, k1, k2, k3, _⟩ := hget _ N0 hr
        exact ⟨r', p0, T, by simp only [renP, h1000, if_true, k1], k2, k3⟩
      · cases hr
    unfold Oper.wp
    rw [hrun]
    simp only [Oper.upon]
    refine (hd w G Ts (xs.map a.eval ++ us) (fun x hx => (hX.gd x hx).1) e1 (fun K hK => ?_) hnd hown hlen (fun i A v hA hv => unrens _ hrf args i A v hA (fun b hb => hargs i b v (by rw [ha]; exact hb) hv))).mono ?_
    · obtain ⟨j, hj⟩ := List.getElem?_of_mem hK
      obtain ⟨r, p, T0, k1, k2, k3, k4⟩ := hget j K hj
      exact k4
    · rintro e w' ⟨T, Ts', rfl, rfl, q1, q2, q3, q4, q5, G', hGG, hG', q6, q7, q8⟩
      have hl' : Ts'.length = Ts.length := by
        have := hdsOk_len hh
        rw [← e1, ← q1, HT.erases_eq, HT.erases_eq, List.length_map, List.length_map] at this
        exact this.symm
      have hval : ∀ (j : Nat) (N N' : HT), Ts[j]? = some N → Ts'[j]? = some N' → N'.value = N.value ∧ hdOk N.erase N'.erase = true := fun j N N' h1 h2 => by
        constructor
        · have : (HT.values Ts')[j]? = (HT.values Ts)[j]? := by rw [q2]
          rw [HT.values_eq, HT.values_eq, List.getElem?_map, List.getElem?_map, h1, h2] at this
          simpa using this
        · exact hds_get hh (by rw [← e1, HT.erases_eq, List.getElem?_map, h1]; rfl) (by rw [← q1, HT.erases_eq, List.getElem?_map, h2]; rfl)
      have hjj : ∀ r p, repP pl r = some p → ∃ (j : Nat) (N N' : HT), pl[j]? = some (r, p) ∧ Ts[j]? = some N ∧ Ts'[j]? = some N' ∧ newP pl Ts r = N ∧ newP pl Ts' r = N' := fun r p hr => by
        obtain ⟨j, N, h1, h2, h3⟩ := repP_spec (Ks := Ts) hr e2
        have hj' : j < Ts'.length := by rw [hl']; exact (List.getElem?_eq_some_iff.1 h2).1
        exact ⟨j, N, Ts'[j], h1, h2, List.getElem?_eq_getElem hj', h3, (repP_of hpl h1 (List.getElem?_eq_getElem hj')).2⟩
      have hnd' := List.nodup_append.1 q4
      have hS := RelX.swap hX (repP pl) (newP pl Ts) (newP pl Ts') (fun x => x ∈ Ts.flatMap HT.blocks) (w' := w') (G' := G')
        (fun r p hr => by
          obtain ⟨j, N, N', h1, h2, h3, h4, h5⟩ := hjj r p hr
          obtain ⟨T0, k1, k2, k3⟩ := e3 j r p N h1 h2
          rw [h4, h5]
          have hN' := q8 N' (List.mem_of_getElem? h3)
          exact ⟨T0, k1, k2, (hval j N N' h2 h3).1, fun hm => hd_of k3 hN' (hval j N N' h2 h3).1 (hval j N N' h2 h3).2 hm, hN', (flat_nodup Ts' hnd'.2.1 j N' h3).1⟩)
        (fun x hx => by
          obtain ⟨j, N, h1, h2⟩ := hmem x hx
          obtain ⟨r, p, T0, k1, k2, k3, _⟩ := hget j N h1
          obtain ⟨g1, g2⟩ := repP_of hpl k1 h1
          exact ⟨r, p, g1, by rw [g2]; exact h2⟩)
        (fun r p hr x hx => by
          obtain ⟨j, N, N', h1, h2, h3, h4, h5⟩ := hjj r p hr
          rw [h4] at hx
          exact List.mem_flatMap.2 ⟨N, List.mem_of_getElem? h2, hx⟩)
        q3
        (fun r p hr x hx => by
          obtain ⟨j, N, N', h1, h2, h3, h4, h5⟩ := hjj r p hr
          rw [h5] at hx
          have hx' : x ∈ T.blocks ++ Ts'.flatMap HT.blocks := List.mem_append.2 (.inr (List.mem_flatMap.2 ⟨N', List.mem_of_getElem? h3, hx⟩))
          exact ⟨(q5 x hx').1, (q5 x hx').2, q6 x hx'⟩)
        (fun r r' p p' hrr hr hr' x hx hx' => by
          obtain ⟨j, N, N', h1, h2, h3, h4, h5⟩ := hjj r p hr
          obtain ⟨j', M1, M1', h1', h2', h3', h4', h5'⟩ := hjj r' p' hr'
          rw [h5] at hx; rw [h5'] at hx'
          have hij : j ≠ j' := fun e => by
            subst e; rw [h1] at h1'
            simp only [Option.some.injEq, Prod.mk.injEq] at h1'
            exact hrr h1'.1
          exact (flat_nodup Ts' hnd'.2.1 j N' h3).2 j' M1' hij h3' x hx hx')
        hGG hG'
      have hen : (fun r => (newP pl Ts' r).erase) = newA pl m' := by
        funext r; rw [newP_erase, q1]
      rw [hen] at hS
      refine hK T _ w' G' rfl hS hnd'.1 (fun x hx => ?_) q7
      have hx0 : x ∈ T.blocks ++ Ts'.flatMap HT.blocks := List.mem_append.2 (.inl hx)
      have hw := (q5 x hx0)
      refine ⟨fun r T' hT' hxT => ?_, hw.2, q6 x hx0, ?_⟩
      · unfold swapM at hT'
        split at hT'
        · rename_i p hp
          obtain ⟨j, N, N', h1, h2, h3, h4, h5⟩ := hjj r p hp
          obtain ⟨T0, k1, k2, k3⟩ := e3 j r p N h1 h2
          rw [k1] at hT'
          simp only [Option.map_some, Option.some.injEq] at hT'
          subst hT'
          rcases mem_blocks_upd p k2 (hX.nd r T0 k1) x hxT with h6 | ⟨h6, h7⟩
          · rw [h5] at h6
            exact hnd'.2.2 x hx x (List.mem_flatMap.2 ⟨N', List.mem_of_getElem? h3, h6⟩) rfl
          · rcases hw.1 with h8 | h8
            · obtain ⟨j', N1, g1, g2⟩ := hmem x h8
              obtain ⟨r', p', T1, k1', k2', k3', _⟩ := hget j' N1 g1
              by_cases e : r = r'
              · subst e
                have : j = j' := Classical.byContradiction fun hij => hne j j' r p p' hij h1 k1'
                subst this
                rw [h2] at g1; cases g1
                exact h7 g2
              · exact hX.dj r r' T0 T1 e k1 k2' x h6 (at_blocks p' k3' x g2)
            · have := (hX.own r T0 k1 x h6).1; omega
        · rename_i hp
          rcases hw.1 with h8 | h8
          · obtain ⟨j', N1, g1, g2⟩ := hmem x h8
            obtain ⟨r', p', T1, k1', k2', k3', _⟩ := hget j' N1 g1
            by_cases e : r = r'
            · subst e
              have := (repP_of (Ks := Ts) hpl k1' g1).1
              rw [hp] at this; cases this
            · exact hX.dj r r' T' T1 e hT' k2' x hxT (at_blocks p' k3' x g2)
          · have := (hX.own r T' hT' x hxT).1; omega
      · rcases hw.1 with h8 | h8
        · obtain ⟨j', N1, g1, g2⟩ := hmem x h8
          obtain ⟨r', p', T1, k1', k2', k3', _⟩ := hget j' N1 g1
          exact (hX.own r' T1 k2' x (at_blocks p' k3' x g2)).2.2
        · exact .inl (Nat.le_trans hX.ext.size h8)
end
end Go.Av
end
section
set_option linter.unusedSimpArgs false
set_option linter.unusedVariables false
/-! Calls that change places of the caller's, as the walk meets them; contracts of such functions. -/
namespace Go.Av
mutual
theorem openV_free (r : Nat) : ∀ (p : List Nat) (a : AV), a.noRef = true → openV r p a = a
  | p, .lit v, _ => rfl
  | p, .junk, _ => rfl
  | p, .row false _ _ _, _ => rfl
  | p, .row true _ _ _, h => by simp [AV.noRef] at h
  | p, .box false _, _ => rfl
  | p, .box true _, h => by simp [AV.noRef] at h
  | p, .fn _ _, _ => rfl
  | p, .sl _ _ _ _, h => by simp [AV.noRef] at h
  | p, .ptr _ _ _, h => by simp [AV.noRef] at h
  | p, .agg cs, h => by simp only [openV]; rw [openVs_free r p 0 cs (by simpa [AV.noRef] using h)]
  | p, .tup cs, h => by simp only [openV]; rw [openVs_free r p 0 cs (by simpa [AV.noRef] using h)]
theorem openVs_free (r : Nat) : ∀ (p : List Nat) (o : Nat) (cs : List AV), AV.noRefs cs = true → openVs r p o cs = cs
  | p, o, [], _ => rfl
  | p, o, c :: l, h => by
    simp only [AV.noRefs, Bool.and_eq_true] at h
    simp only [openVs]
    rw [openV_free r _ c h.1, openVs_free r p (o + 1) l h.2]
end
theorem Sat.free {w : World} {G : Nat → Prop} {T : HT} {m : Nat → Option HT} (h : Sat w G T) (hr : T.erase.noRef = true) : VR w G m T.erase T.value := by
  have := h.opened (M := fun _ => some T) (r := 0) (T0 := T) rfl (p := []) rfl
  rw [openV_free 0 [] _ hr] at this
  exact this.free hr
section
variable {E : Env} {s : ASt} {d : Nat} {t : TypeId} {pos : String} {after : Array Edge} {g : Option (Nat × Bool)} {R : ASt → Prop} {fo : Operand} {f : FuncId} {caps : List AV} {xs : List Operand} {ts : Array TypeId} {args m m' : List AV} {res : AV} {pl : List (Nat × List Nat)}
theorem l_callX (hn : d < E.nt) (hf : s.ev fo = .fn f caps) (he : entB E.P f = true)
    (ha : xs.map s.ev ++ caps = AV.mapRefs (renP pl) args) (hd : DoesX E.P f args m res m') (hm : lentOk s pl m) (hpl : (pl.map Prod.fst).Nodup) (hh : hdsOk m m' = true)
    (hR : R ((s.swap (repP pl) (newA pl m')).new d (openV d [] res) res)) : LJ E ⟨some d, .call { callee := .value fo, args := xs.toArray, argTypes := ts }, t, pos, after, g⟩ s R := by
  rintro a w ⟨M, G, hX⟩
  refine callX_core hf he ha hd hm hpl hh hX (fun T M' w' G' h1 h2 h3 h4 h5 => ?_)
  subst h1
  exact ⟨_, ⟨_, G', RelX.new2 h2 hn ⟨rfl, rfl, rfl, Nat.le_refl _, fun _ _ _ => rfl⟩ h5 h3 h4 (h5.opened (M := updF M' d (some T)) (T0 := T) (by simp [updF]) rfl)⟩, hR⟩
/-- The result names no memory. -/
theorem l_callXs (hn : d < E.nt) (hf : s.ev fo = .fn f caps) (he : entB E.P f = true)
    (ha : xs.map s.ev ++ caps = AV.mapRefs (renP pl) args) (hd : DoesX E.P f args m res m') (hm : lentOk s pl m) (hpl : (pl.map Prod.fst).Nodup) (hh : hdsOk m m' = true) (hr : res.noRef = true)
    (hR : R ((s.swap (repP pl) (newA pl m')).set d res)) : LJ E ⟨some d, .call { callee := .value fo, args := xs.toArray, argTypes := ts }, t, pos, after, g⟩ s R := by
  rintro a w ⟨M, G, hX⟩
  refine callX_core hf he ha hd hm hpl hh hX (fun T M' w' G' h1 h2 h3 h4 h5 => ?_)
  subst h1
  refine ⟨_, ⟨_, G', h2.set hn (Ext.refl _ _) ?_⟩, hR⟩
  exact h5.free hr
end

section
variable {P : Program} {G0 X : Nat → Prop} {w0 : World} {nt : Nat} {pv : Nat → Option Value} {s : ASt} {R : ASt → Prop} {d : Nat} {t : TypeId} {pos : String} {after : Array Edge} {g : Option (Nat × Bool)} {fo : Operand} {xs : List Operand} {ts : Array TypeId} {f : FuncId} {caps args m m' : List AV} {res v : AV} {pl : List (Nat × List Nat)}
/-- Places are lent to a callee that changes what lies there; the result is the caller's own. -/
theorem opq_callX (pl : List (Nat × List Nat)) (hd : DoesX P f args m res m') (he : entB P f = true) (hf : s.ev fo = .fn f caps) (ha : xs.map s.ev ++ caps = AV.mapRefs (renP pl) args) (hm : lentOk s pl m) (hn : d < nt) (hpl : (pl.map Prod.fst).Nodup) (hh : hdsOk m m' = true) (hv : openV d [] res = v)
    (h : R ((s.swap (repP pl) (newA pl m')).new d v res)) :
    opq ⟨P, G0, X, w0, nt, pv⟩ ⟨some d, .call { callee := .value fo, args := xs.toArray, argTypes := ts }, t, pos, after, g⟩ R s := by
  subst hv; exact l_callX (E := ⟨P, G0, X, w0, nt, pv⟩) hn hf he ha hd hm hpl hh h
/-- The result names no memory. -/
theorem opq_callXs (pl : List (Nat × List Nat)) (hd : DoesX P f args m res m') (he : entB P f = true) (hf : s.ev fo = .fn f caps) (ha : xs.map s.ev ++ caps = AV.mapRefs (renP pl) args) (hm : lentOk s pl m) (hn : d < nt) (hpl : (pl.map Prod.fst).Nodup) (hh : hdsOk m m' = true) (hr : res.noRef = true)
    (h : R ((s.swap (repP pl) (newA pl m')).set d res)) :
    opq ⟨P, G0, X, w0, nt, pv⟩ ⟨some d, .call { callee := .value fo, args := xs.toArray, argTypes := ts }, t, pos, after, g⟩ R s :=
  l_callXs (E := ⟨P, G0, X, w0, nt, pv⟩) hn hf he ha hd hm hpl hh hr h
/-- A slot that holds a lent row's own value names the region again. -/
theorem opq_relit {E : Env} {o : Oper} {i r sz n : Nat} {c : Value} {cs : List AV} (hi : s.t i = .lit c) (hp : E.pv r = some c) (hm : s.m r = some (.row true sz n cs)) (h : opq E o R ⟨fun j => if j = i then .sl r [] 0 n else s.t j, s.m⟩) : opq E o R s := by
  rintro a w ⟨M, G, hX⟩
  refine h a w ⟨M, G, hX.er, hX.sat, hX.nd, hX.dj, hX.own, hX.gd, hX.g0, fun j => ?_, hX.ext, hX.df, hX.nt, hX.n1, hX.pv⟩
  simp only
  split
  · rename_i e; subst e
    have hv := hX.sl j
    rw [hi] at hv
    have hv := hv.litv
    obtain ⟨_, T, h1, h2⟩ := hX.pv r c hp
    rw [hv, ← h2]
    have he := hX.er r
    rw [hm, h1] at he
    simp only [Option.map_some, Option.some.injEq] at he
    have := (hX.sat r T h1).opened (M := M) h1 (p := []) rfl
    rw [← he] at this
    exact this
  · exact hX.sl j
end
theorem swap_t {s : ASt} {rep : Nat → Option (List Nat)} {new : Nat → AV} {i : Nat} : (s.swap rep new).t i = (s.t i).mapRef (swapF rep) := nrfl rfl
theorem swap_m {s : ASt} {rep : Nat → Option (List Nat)} {new : Nat → AV} {r : Nat} : (s.swap rep new).m r = match rep r with
  | some p => (s.m r).map (·.upd p (new r))
  | none => s.m r := nrfl rfl

/-! ### Contracts -/
mutual
/-- An argument that is a struct: the lent rows in it as the values that they are. -/
def litA (vals : List Value) : AV → AV
  | .sl r p o n => match regs vals r with
    | some v => .lit v
    | none => .junk
  | .ptr r p o => match regs vals r with
    | some v => .lit v
    | none => .junk
  | .agg cs => .agg (litAs vals cs)
  | a => a
def litAs (vals : List Value) : List AV → List AV
  | [] => []
  | c :: l => litA vals c :: litAs vals l
end
mutual
/-- Does it name whole regions alone? -/
def fullA (m : List AV) : AV → Prop
  | .sl r p o n => p = [] ∧ o = 0 ∧ (match regs m r with | some (.row true _ n' _) => n = n' | _ => False)
  | .ptr r p o => p = [] ∧ o = 0 ∧ (match regs m r with | some (.box true _) => True | _ => False)
  | .agg cs => fullAs m cs
  | _ => True
def fullAs (m : List AV) : List AV → Prop
  | [] => True
  | c :: l => fullA m c ∧ fullAs m l
end
def litArg (vals : List Value) : AV → AV
  | .agg cs => .agg (litAs vals cs)
  | a => a
def fullArg (m : List AV) : AV → Prop
  | .agg cs => fullAs m cs
  | _ => True

mutual
theorem litA_val {w : World} {G : Nat → Prop} {Ts : List HT} (hs : ∀ K ∈ Ts, Sat w G K) : ∀ (a : AV) {v : Value}, fullA (HT.erases Ts) a → VR w G (regs Ts) a v → VR w G (regs Ts) (litA (HT.values Ts) a) v
  | .sl r p o n, v, hf, hv => by
    simp only [fullA] at hf
    obtain ⟨rfl, rfl, hf⟩ := hf
    simp only [litA]
    cases hr : regs Ts r with
    | none =>
      have : regs (HT.values Ts) r = none := by
        unfold regs at hr ⊢
        split at hr
        · simp only [*, if_true, HT.values_eq, List.getElem?_map, Option.map_none]
        · simp [*]
      rw [this]; exact .junk v
    | some T =>
      have h1 : regs (HT.values Ts) r = some T.value := by
        unfold regs at hr ⊢
        split at hr
        · simp only [*, if_true, HT.values_eq, List.getElem?_map, Option.map_some]
        · cases hr
      have h2 : regs (HT.erases Ts) r = some T.erase := by
        unfold regs at hr ⊢
        split at hr
        · simp only [*, if_true, HT.erases_eq, List.getElem?_map, Option.map_some]
        · cases hr
      rw [h1]; rw [h2] at hf
      simp only
      have hsat := hs T (regs_blocks hr)
      cases hv with
      | sl _ _ _ _ _ h h0 =>
        cases hsat with
        | row b sz n' cap cs C e g1 g2 g3 g4 g5 g6 g7 g8 =>
          simp only [HT.erase] at hf
          subst hf
          obtain ⟨A, c, e1, e2, e3, e4, e5⟩ := h _ hr b sz n cap cs rfl (by omega)
          obtain ⟨rfl, rfl⟩ := e5 rfl
          subst e1
          exact .lit _
        | nilrow sz =>
          simp only [HT.erase] at hf
          subst hf
          have := h0 _ hr sz rfl (by omega)
          subst this
          exact .lit _
        | leaf a u ha _ => cases a with
          | row o _ _ _ => cases o <;> simp_all [HT.erase, AV.leafOk]
          | _ => simp_all [HT.erase, AV.leafOk]
        | box => simp [HT.erase] at hf
        | agg => simp [HT.erase] at hf
        | tup => simp [HT.erase] at hf
  | .ptr r p o, v, hf, hv => by
    simp only [fullA] at hf
    obtain ⟨rfl, rfl, hf⟩ := hf
    simp only [litA]
    cases hr : regs Ts r with
    | none =>
      have : regs (HT.values Ts) r = none := by
        unfold regs at hr ⊢
        split at hr
        · simp only [*, if_true, HT.values_eq, List.getElem?_map, Option.map_none]
        · simp [*]
      rw [this]; exact .junk v
    | some T =>
      have h1 : regs (HT.values Ts) r = some T.value := by
        unfold regs at hr ⊢
        split at hr
        · simp only [*, if_true, HT.values_eq, List.getElem?_map, Option.map_some]
        · cases hr
      have h2 : regs (HT.erases Ts) r = some T.erase := by
        unfold regs at hr ⊢
        split at hr
        · simp only [*, if_true, HT.erases_eq, List.getElem?_map, Option.map_some]
        · cases hr
      rw [h1]; rw [h2] at hf
      simp only
      have hsat := hs T (regs_blocks hr)
      cases hv with
      | ptr _ _ _ _ h h0 =>
        cases hsat with
        | box b cs C e g1 g2 g7 g8 =>
          have := h0 _ hr b cs rfl
          subst this
          exact .lit _
        | row => simp [HT.erase] at hf
        | nilrow => simp [HT.erase] at hf
        | leaf a u ha _ => cases a with
          | box o _ => cases o <;> simp_all [HT.erase, AV.leafOk]
          | _ => simp_all [HT.erase, AV.leafOk]
        | agg => simp [HT.erase] at hf
        | tup => simp [HT.erase] at hf
  | .agg cs, v, hf, hv => by
    simp only [litA]
    cases hv with
    | agg _ us hl h => exact .agg _ us (by rw [hl, litAs_len]) (fun i a u hi hu => litAs_val hs cs i a u (by simpa [fullA] using hf) hi (fun b hb => h i b u hb hu))
  | .lit _, v, _, hv => by simpa only [litA] using hv
  | .row _ _ _ _, v, _, hv => by simpa only [litA] using hv
  | .box _ _, v, _, hv => by simpa only [litA] using hv
  | .tup _, v, _, hv => by simpa only [litA] using hv
  | .fn _ _, v, _, hv => by simpa only [litA] using hv
  | .junk, v, _, hv => by simpa only [litA] using hv
theorem litAs_val {w : World} {G : Nat → Prop} {Ts : List HT} (hs : ∀ K ∈ Ts, Sat w G K) : ∀ (cs : List AV) (i : Nat) (a : AV) (u : Value), fullAs (HT.erases Ts) cs → (litAs (HT.values Ts) cs)[i]? = some a → (∀ b, cs[i]? = some b → VR w G (regs Ts) b u) → VR w G (regs Ts) a u
  | [], i, a, u, _, h, _ => by simp [litAs] at h
  | c :: l, 0, a, u, hf, h, hb => by
    simp only [litAs, List.getElem?_cons_zero, Option.some.injEq] at h; subst h
    simp only [fullAs] at hf
    exact litA_val hs c hf.1 (hb c rfl)
  | c :: l, i + 1, a, u, hf, h, hb => by
    simp only [fullAs] at hf
    exact litAs_val hs l i a u hf.2 (by simpa [litAs] using h) (fun b h' => hb b (by simpa using h'))
theorem litAs_len {vals : List Value} : ∀ {cs : List AV}, (litAs vals cs).length = cs.length
  | [] => rfl
  | c :: l => by simp [litAs, litAs_len (cs := l)]
end

theorem litArg_val {w : World} {G : Nat → Prop} {Ts : List HT} (hs : ∀ K ∈ Ts, Sat w G K) (a : AV) {v : Value} (hf : fullArg (HT.erases Ts) a) (hv : VR w G (regs Ts) a v) : VR w G (regs Ts) (litArg (HT.values Ts) a) v := by
  cases a with
  | agg cs =>
    have := litA_val hs (.agg cs) (v := v) (by simpa only [fullA, fullArg] using hf) hv
    simpa only [litA, litArg] using this
  | _ => simpa only [litArg] using hv
theorem regs_map {Ts : List HT} {r : Nat} : regs (HT.values Ts) r = (regs Ts r).map HT.value := by
  unfold regs
  split
  · rw [HT.values_eq, List.getElem?_map]
  · rfl
theorem DoesX.ofL {P : Program} {f : FuncId} {fn : Func} {c : Code} {args m : List AV} {res : AV} {m' : List AV} (hf : P.funcs[f]? = some fn) (hb : fn.body = some c) (hn : args.length ≤ fn.ntmps) (hn1 : fn.ntmps ≤ 1000) (hmm : m'.length = m.length)
    (hfull : ∀ a ∈ args, fullArg m a) (hfit : fitCs m = true)
    (h : ∀ (E : Env) (vals : List Value), E.P = P → E.nt = fn.ntmps → vals.length = m.length → (∀ v ∈ vals, v.oneCell' = true) → E.pv = regs vals → AWP E c (retXK E fn res m') (startX (args.map (litArg vals)) m)) : DoesX P f args m res m' := by
  intro w G Ts vs hG hm hsat hnd hown hl hv
  refine calls_of_wp hf hb ?_
  let E : Env := ⟨P, G, fun x => x ∈ Ts.flatMap HT.blocks, w, fn.ntmps, regs (HT.values Ts)⟩
  have hsize : (vs.toArray ++ Array.replicate (fn.ntmps - vs.toArray.size) undef).size = fn.ntmps := by simp; omega
  have hmem : ∀ {r T}, regs Ts r = some T → ∀ x ∈ T.blocks, x ∈ Ts.flatMap HT.blocks := fun hr x hx => List.mem_flatMap.2 ⟨_, regs_blocks hr, hx⟩
  have hndT : ∀ T ∈ Ts, T.blocks.Nodup := fun T hT => by
    obtain ⟨i, hi⟩ := List.getElem?_of_mem hT
    exact (flat_nodup Ts hnd i T hi).1
  have hdj : ∀ (i j : Nat) (T T' : HT), i ≠ j → Ts[i]? = some T → Ts[j]? = some T' → ∀ x ∈ T.blocks, x ∉ T'.blocks := fun i j T T' hij hi hj => (flat_nodup Ts hnd i T hi).2 j T' hij hj
  have hX : RelX E (regs Ts) G (startX (args.map (litArg (HT.values Ts))) m) { tmps := vs.toArray ++ Array.replicate (fn.ntmps - vs.toArray.size) undef, defers := [] } w := by
    refine ⟨fun r => ?_, fun r T hT => hsat T (regs_blocks hT), fun r T hT => hndT T (regs_blocks hT), fun r r' T T' hr hT hT' => ?_, fun r T hT x hx => ⟨(hown x (hmem hT x hx)).1, (hown x (hmem hT x hx)).2, .inr (hmem hT x hx)⟩, fun x hx => ⟨hG x hx, .inl hx⟩, fun x hx => hx, fun i => ?_, Ext.refl _ _, rfl, hsize, hn1, fun r v hv => ?_⟩
    · simp only [startX, regs, ← hm, HT.erases_eq]
      split
      · rw [List.getElem?_map]
      · rfl
    · unfold regs at hT hT'
      split at hT
      · split at hT'
        · exact hdj _ _ T T' (by omega) hT hT'
        · cases hT'
      · cases hT
    · simp only [startX]
      rw [List.getElem?_map]
      cases ha : args[i]? with
      | none => exact .junk _
      | some a =>
        have hi : i < vs.length := by rw [hl]; exact (List.getElem?_eq_some_iff.1 ha).1
        have : (vs.toArray ++ Array.replicate (fn.ntmps - vs.toArray.size) undef).getD i undef = vs[i] := by
          rw [Array.getD_eq_getD_getElem?, Array.getElem?_append_left (by simpa using hi)]
          simp [hi]
        rw [this]
        simp only [Option.map_some, Option.getD_some]
        exact litArg_val hsat a (by rw [hm]; exact hfull a (List.mem_of_getElem? ha)) (hv i a _ ha (List.getElem?_eq_getElem hi))
    · simp only [E, regs_map] at hv
      cases hr : regs Ts r with
      | none => rw [hr] at hv; cases hv
      | some T =>
        rw [hr] at hv
        simp only [Option.map_some, Option.some.injEq] at hv
        refine ⟨?_, T, rfl, hv⟩
        unfold regs at hr
        split at hr
        · assumption
        · cases hr
  have hml : m'.length = Ts.length := by rw [hmm, ← hm, HT.erases_eq, List.length_map]
  have hret : ∀ s a w', Rel E s a w' → RetX E fn res m' s → a.defers = [] ∧ ∃ v, (results fn a.tmps).run P w' = .ok v w' ∧ ∃ (T : HT) (Ts' : List HT), Ending.returned v = .returned T.value ∧ T.erase = res ∧ HT.erases Ts' = m' ∧ HT.values Ts' = HT.values Ts ∧ Ext (fun x => x ∈ Ts.flatMap HT.blocks) w w' ∧
      (T.blocks ++ Ts'.flatMap HT.blocks).Nodup ∧ (∀ x ∈ T.blocks ++ Ts'.flatMap HT.blocks, (x ∈ Ts.flatMap HT.blocks ∨ w.heap.size ≤ x) ∧ x < w'.heap.size) ∧
      ∃ G' : Nat → Prop, (∀ x, G x → G' x) ∧ (∀ x, G' x → G x ∨ (w.heap.size ≤ x ∧ x < w'.heap.size)) ∧ (∀ x ∈ T.blocks ++ Ts'.flatMap HT.blocks, ¬ G' x) ∧ Sat w' G' T ∧ ∀ K ∈ Ts', Sat w' G' K := by
    rintro s a w' ⟨M0, G', hX0⟩ hr
    obtain ⟨T, M', s', h1, h2, h3, h4, h5, hX', h6⟩ := hr M0 G' a w' hX0
    have hK : ∀ j, j < Ts.length → ∃ K, M' (1000 + j) = some K ∧ some K.value = (Ts[j]?).map HT.value := fun j hj => by
      have he : E.pv (1000 + j) = some (Ts[j].value) := by
        show regs (HT.values Ts) (1000 + j) = _
        rw [regs_map]
        simp [regs, List.getElem?_eq_getElem hj]
      obtain ⟨_, K, k1, k2⟩ := hX'.pv _ _ he
      exact ⟨K, k1, by rw [k2, List.getElem?_eq_getElem hj]; rfl⟩
    let Ts' := (List.range Ts.length).map fun j => (M' (1000 + j)).getD default
    have hget : ∀ (j : Nat) (K : HT), Ts'[j]? = some K → j < Ts.length ∧ M' (1000 + j) = some K := fun j K hj => by
      have hjl : j < Ts.length := by
        have := (List.getElem?_eq_some_iff.1 hj).1
        simpa [Ts'] using this
      obtain ⟨K', k1, _⟩ := hK j hjl
      simp only [Ts', List.getElem?_map, List.getElem?_range hjl, Option.map_some, k1, Option.getD_some, Option.some.injEq] at hj
      exact ⟨hjl, by rw [k1, hj]⟩
    have hlen : Ts'.length = Ts.length := by simp [Ts']
    have hgets : ∀ j, j < Ts.length → ∃ K, Ts'[j]? = some K ∧ M' (1000 + j) = some K ∧ some K.value = (Ts[j]?).map HT.value := fun j hj => by
      obtain ⟨K, k1, k2⟩ := hK j hj
      exact ⟨K, by simp [Ts', hj, k1], k1, k2⟩
    clear_value Ts'
    have hmemK : ∀ x ∈ Ts'.flatMap HT.blocks, ∃ q K, M' q = some K ∧ x ∈ K.blocks := fun x hx => by
      obtain ⟨K, hK1, hK2⟩ := List.mem_flatMap.1 hx
      obtain ⟨j, hj⟩ := List.getElem?_of_mem hK1
      exact ⟨_, K, (hget j K hj).2, hK2⟩
    refine ⟨hX'.df, T.value, h1, T, Ts', rfl, h2, ?_, ?_, hX'.ext, ?_, fun x hx => ?_, G', hX'.g0, fun x hx => (hX'.gd x hx).2.imp id (fun h => ⟨h, (hX'.gd x hx).1⟩), fun x hx => ?_, h3, fun K hK1 => ?_⟩
    · rw [HT.erases_eq]
      apply List.ext_getElem?
      intro j
      by_cases hj : j < Ts.length
      · obtain ⟨K, k1, k2, _⟩ := hgets j hj
        rw [List.getElem?_map, k1, ← h6 j (by omega), hX'.er, k2]
      · rw [List.getElem?_eq_none (by simp [hlen]; omega), List.getElem?_eq_none (by omega)]
    · rw [HT.values_eq, HT.values_eq]
      apply List.ext_getElem?
      intro j
      by_cases hj : j < Ts.length
      · obtain ⟨K, k1, _, k3⟩ := hgets j hj
        rw [List.getElem?_map, List.getElem?_map, k1, ← k3]; rfl
      · rw [List.getElem?_eq_none (by simp [hlen]; omega), List.getElem?_eq_none (by simp; omega)]
    · rw [List.nodup_append]
      refine ⟨h4, nodup_flat Ts' (fun i K hi => ⟨hX'.nd _ K (hget i K hi).2, fun j K' hij hj => hX'.dj _ _ K K' (by omega) (hget i K hi).2 (hget j K' hj).2⟩), fun x hx y hy e => ?_⟩
      subst e
      obtain ⟨q, K, k1, k2⟩ := hmemK x hy
      exact (h5 x hx).1 q K k1 k2
    · rcases List.mem_append.1 hx with hx | hx
      · exact ⟨(h5 x hx).2.2.2.symm, (h5 x hx).2.1⟩
      · obtain ⟨q, K, k1, k2⟩ := hmemK x hx
        have := hX'.own q K k1 x k2
        exact ⟨this.2.2.symm, this.1⟩
    · rcases List.mem_append.1 hx with hx | hx
      · exact (h5 x hx).2.2.1
      · obtain ⟨q, K, k1, k2⟩ := hmemK x hx
        exact (hX'.own q K k1 x k2).2.1
    · obtain ⟨j, hj⟩ := List.getElem?_of_mem hK1
      exact hX'.sat _ K (hget j K hj).2
  refine wp_mono (h E (HT.values Ts) rfl rfl (by rw [← hm, HT.erases_eq, HT.values_eq]; simp) (fun v hv => by
    rw [HT.values_eq] at hv
    obtain ⟨K, hK, rfl⟩ := List.mem_map.1 hv
    exact (fit_val (hsat K hK) (fitCs_mem.1 hfit _ (by rw [← hm, HT.erases_eq]; exact List.mem_map.2 ⟨K, hK, rfl⟩))).1) rfl _ w ⟨_, _, hX⟩) (fun e a w' hp => ?_)
  cases e with
  | normal => obtain ⟨s, h1, h2⟩ := hp; exact hret s a w' h1 h2
  | ret => obtain ⟨s, h1, h2⟩ := hp; exact hret s a w' h1 h2
  | exit i => obtain ⟨s, h1, h2⟩ := hp; exact h2.elim
  | goto l => exact hp.elim
  | panic ch => exact hp.elim
  | outgrown => exact hp.elim

theorem DoesX.walkL {P : Program} {f : FuncId} {fn : Func} {c : Code} {args m m' : List AV} {res : AV} {nt : Nat} (hf : P.funcs[f]? = some fn) (hb : fn.body = some c) (hnt : fn.ntmps = nt) (hn : args.length ≤ nt) (hn1 : nt ≤ 1000) (hmm : m'.length = m.length) (hfull : ∀ a ∈ args, fullArg m a) (hfit : fitCs m = true)
    (h : ∀ (G0 X : Nat → Prop) (w0 : World) (vals : List Value), vals.length = m.length → (∀ v ∈ vals, v.oneCell' = true) → aw ⟨P, G0, X, w0, nt, regs vals⟩ c (retXK ⟨P, G0, X, w0, nt, regs vals⟩ fn res m') (startX (args.map (litArg vals)) m)) : DoesX P f args m res m' :=
  DoesX.ofL hf hb (by omega) (by omega) hmm hfull hfit (fun E vals e1 e2 e3 e5 e4 => by
    obtain ⟨P', G0, X, w0, nt', pv⟩ := E
    simp only at e1 e2 e4
    subst e1
    rw [hnt] at e2
    subst e2
    subst e4
    exact aw_sound (h G0 X w0 vals e3 e5))
theorem len2 {α : Type} {l : List α} {x y : AV} (h : l.length = [x, y].length) : ∃ a b, l = [a, b] := by
  match l, h with
  | [a, b], _ => exact ⟨a, b, rfl⟩

def retX2 (s : ASt) (res : List AV) (m' : List AV) : Option AV → Option AV → Prop
  | some v, some v' => (match closeVs s [v, v'] with
    | some (A, s') => A = res ∧ regsOk m' s'
    | none => False)
  | _, _ => False
/-! ### Decisions -/
section
variable {E : Env} {K : AX → ASt → Prop} {R A B : ASt → Prop} {s : ASt} {o : Oper} {c : Bool}
theorem CBC_dec {p : Prop} [Decidable p] (h1 : p → decide p = true → CBC (.lit (.bool (decide p))) A B s) (h2 : ¬ p → decide p = false → CBC (.lit (.bool (decide p))) A B s) : CBC (.lit (.bool (decide p))) A B s := by
  by_cases hp : p
  · exact h1 hp (decide_eq_true hp)
  · exact h2 hp (decide_eq_false hp)
theorem CBC_eq {α : Type} [BEq α] [LawfulBEq α] {x y : α} (h1 : x = y → (x == y) = true → CBC (.lit (.bool (x == y))) A B s) (h2 : ¬ x = y → (x == y) = false → CBC (.lit (.bool (x == y))) A B s) : CBC (.lit (.bool (x == y))) A B s := by
  cases hp : x == y
  · rw [hp] at h2; exact h2 (by simpa using hp) rfl
  · rw [hp] at h1; exact h1 (by simpa using hp) rfl
theorem CBC_ne {α : Type} [BEq α] [LawfulBEq α] {x y : α} (h1 : ¬ x = y → (x != y) = true → CBC (.lit (.bool (x != y))) A B s) (h2 : x = y → (x != y) = false → CBC (.lit (.bool (x != y))) A B s) : CBC (.lit (.bool (x != y))) A B s := by
  cases hp : x != y
  · rw [hp] at h2; exact h2 (by simpa using hp) rfl
  · rw [hp] at h1; exact h1 (by simpa using hp) rfl
theorem CBC_bool (h1 : c = true → CBC (.lit (.bool c)) A B s) (h2 : c = false → CBC (.lit (.bool c)) A B s) : CBC (.lit (.bool c)) A B s := by
  cases c
  · exact h2 rfl
  · exact h1 rfl
theorem GQ_dec {p : Prop} [Decidable p] {b : Bool} (h1 : p → decide p = true → GQ E (.lit (.bool (decide p))) b o R s) (h2 : ¬ p → decide p = false → GQ E (.lit (.bool (decide p))) b o R s) : GQ E (.lit (.bool (decide p))) b o R s := by
  by_cases hp : p
  · exact h1 hp (decide_eq_true hp)
  · exact h2 hp (decide_eq_false hp)
theorem GQ_eq {α : Type} [BEq α] [LawfulBEq α] {x y : α} {b : Bool} (h1 : x = y → (x == y) = true → GQ E (.lit (.bool (x == y))) b o R s) (h2 : ¬ x = y → (x == y) = false → GQ E (.lit (.bool (x == y))) b o R s) : GQ E (.lit (.bool (x == y))) b o R s := by
  cases hp : x == y
  · rw [hp] at h2; exact h2 (by simpa using hp) rfl
  · rw [hp] at h1; exact h1 (by simpa using hp) rfl
theorem GQ_ne {α : Type} [BEq α] [LawfulBEq α] {x y : α} {b : Bool} (h1 : ¬ x = y → (x != y) = true → GQ E (.lit (.bool (x != y))) b o R s) (h2 : x = y → (x != y) = false → GQ E (.lit (.bool (x != y))) b o R s) : GQ E (.lit (.bool (x != y))) b o R s := by
  cases hp : x != y
  · rw [hp] at h2; exact h2 (by simpa using hp) rfl
  · rw [hp] at h1; exact h1 (by simpa using hp) rfl
theorem GQ_bool {b : Bool} (h1 : c = true → GQ E (.lit (.bool c)) b o R s) (h2 : c = false → GQ E (.lit (.bool c)) b o R s) : GQ E (.lit (.bool c)) b o R s := by
  cases c
  · exact h2 rfl
  · exact h1 rfl
theorem GQ_nb {b : Bool} (h1 : c = true → GQ E (.lit (.bool !c)) b o R s) (h2 : c = false → GQ E (.lit (.bool !c)) b o R s) : GQ E (.lit (.bool !c)) b o R s := by
  cases c
  · exact h2 rfl
  · exact h1 rfl
theorem GQ_nd {p : Prop} [Decidable p] {b : Bool} (h1 : p → decide p = true → GQ E (.lit (.bool !(decide p))) b o R s) (h2 : ¬ p → decide p = false → GQ E (.lit (.bool !(decide p))) b o R s) : GQ E (.lit (.bool !(decide p))) b o R s := by
  by_cases hp : p
  · exact h1 hp (decide_eq_true hp)
  · exact h2 hp (decide_eq_false hp)
theorem GD_dec {R : Option AV → ASt → Prop} {p : Prop} [Decidable p] {b : Bool} (h1 : p → decide p = true → GD E (.lit (.bool (decide p))) b o R s) (h2 : ¬ p → decide p = false → GD E (.lit (.bool (decide p))) b o R s) : GD E (.lit (.bool (decide p))) b o R s := by
  by_cases hp : p
  · exact h1 hp (decide_eq_true hp)
  · exact h2 hp (decide_eq_false hp)
theorem GD_eq {R : Option AV → ASt → Prop} {α : Type} [BEq α] [LawfulBEq α] {x y : α} {b : Bool} (h1 : x = y → (x == y) = true → GD E (.lit (.bool (x == y))) b o R s) (h2 : ¬ x = y → (x == y) = false → GD E (.lit (.bool (x == y))) b o R s) : GD E (.lit (.bool (x == y))) b o R s := by
  cases hp : x == y
  · rw [hp] at h2; exact h2 (by simpa using hp) rfl
  · rw [hp] at h1; exact h1 (by simpa using hp) rfl
theorem GD_ne {R : Option AV → ASt → Prop} {α : Type} [BEq α] [LawfulBEq α] {x y : α} {b : Bool} (h1 : ¬ x = y → (x != y) = true → GD E (.lit (.bool (x != y))) b o R s) (h2 : x = y → (x != y) = false → GD E (.lit (.bool (x != y))) b o R s) : GD E (.lit (.bool (x != y))) b o R s := by
  cases hp : x != y
  · rw [hp] at h2; exact h2 (by simpa using hp) rfl
  · rw [hp] at h1; exact h1 (by simpa using hp) rfl
theorem GD_bool {R : Option AV → ASt → Prop} {b : Bool} (h1 : c = true → GD E (.lit (.bool c)) b o R s) (h2 : c = false → GD E (.lit (.bool c)) b o R s) : GD E (.lit (.bool c)) b o R s := by
  cases c
  · exact h2 rfl
  · exact h1 rfl
theorem GD_nb {R : Option AV → ASt → Prop} {b : Bool} (h1 : c = true → GD E (.lit (.bool !c)) b o R s) (h2 : c = false → GD E (.lit (.bool !c)) b o R s) : GD E (.lit (.bool !c)) b o R s := by
  cases c
  · exact h2 rfl
  · exact h1 rfl
theorem GD_nd {R : Option AV → ASt → Prop} {p : Prop} [Decidable p] {b : Bool} (h1 : p → decide p = true → GD E (.lit (.bool !(decide p))) b o R s) (h2 : ¬ p → decide p = false → GD E (.lit (.bool !(decide p))) b o R s) : GD E (.lit (.bool !(decide p))) b o R s := by
  by_cases hp : p
  · exact h1 hp (decide_eq_true hp)
  · exact h2 hp (decide_eq_false hp)
end
theorem ren_t {s : ASt} {r d i : Nat} {v : AV} : (s.ren r d v).t i = if i = d then v else (s.t i).mapRef (renF r d) := nrfl rfl
theorem ren_m {s : ASt} {r d q : Nat} {v : AV} : (s.ren r d v).m q = if q = d then s.m r else if q = r then none else s.m q := nrfl rfl
theorem retXK_rt {E : Env} {fn : Func} {res : AV} {m' : List AV} {s : ASt} : retXK E fn res m' .rt s = RetX E fn res m' s := nrfl rfl
theorem retXK_nm {E : Env} {fn : Func} {res : AV} {m' : List AV} {s : ASt} : retXK E fn res m' .nm s = RetX E fn res m' s := nrfl rfl
theorem startX_t {args m : List AV} {i : Nat} : (startX args m).t i = args.getD i .junk := by simp [startX, List.getD]
theorem startX_m {args m : List AV} {r : Nat} : (startX args m).m r = regs m r := nrfl rfl

/-! ### Calls, with all that is asked in one fact -/
def fnId : AV → Option FuncId
  | .fn f _ => some f
  | _ => none
def capsOf : AV → List AV
  | .fn _ cs => cs
  | _ => []
theorem fn_of {v : AV} {f : FuncId} (h : fnId v = some f) : v = .fn f (capsOf v) := by
  cases v <;> simp_all [fnId, capsOf]
section
variable {P : Program} {G0 X : Nat → Prop} {w0 : World} {nt : Nat} {pv : Nat → Option Value} {s : ASt} {R : ASt → Prop} {d : Nat} {t : TypeId} {pos : String} {after : Array Edge} {g : Option (Nat × Bool)} {fo : Operand} {xs : List Operand} {ts : Array TypeId} {f : FuncId} {args as m m' : List AV} {res : AV}
theorem cq_call (hd : Does P f as res) (hf : fnId (s.ev fo) = some f) (he : entB P f = true) (h : (xs.map s.ev ++ capsOf (s.ev fo) = as ∧ d < nt ∧ AV.noRefs as = true) ∧ R (s.set d res.share)) :
    opq ⟨P, G0, X, w0, nt, pv⟩ ⟨some d, .call { callee := .value fo, args := xs.toArray, argTypes := ts }, t, pos, after, g⟩ R s :=
  opq_call hd he (fn_of hf) h.1.1 h.1.2.1 h.1.2.2 rfl h.2
theorem cq_dcall {R : Option AV → ASt → Prop} (hd : Does P f as res) (hf : fnId (s.ev fo) = some f) (he : entB P f = true) (h : (xs.map s.ev ++ capsOf (s.ev fo) = as ∧ d < nt ∧ AV.noRefs as = true) ∧ R none (s.set d res.share)) :
    dop ⟨P, G0, X, w0, nt, pv⟩ ⟨some d, .call { callee := .value fo, args := xs.toArray, argTypes := ts }, t, pos, after, g⟩ R s :=
  dop_call hd he (fn_of hf) h.1.1 h.1.2.1 h.1.2.2 rfl h.2
/-- In a region whose order is drawn: the result stays the caller's own. -/
theorem cq_down {R : Option AV → ASt → Prop} (hd : Does P f as res) (hf : fnId (s.ev fo) = some f) (he : entB P f = true) (h : (xs.map s.ev ++ capsOf (s.ev fo) = as ∧ d < nt ∧ AV.noRefs as = true ∧ moV res = none) ∧ R (some res) (s.new d (openV d [] res) res)) :
    dop ⟨P, G0, X, w0, nt, pv⟩ ⟨some d, .call { callee := .value fo, args := xs.toArray, argTypes := ts }, t, pos, after, g⟩ R s :=
  ⟨d, _, some res, rfl, h.1.2.2.2, q_callOwn (E := ⟨P, G0, X, w0, nt, pv⟩) h.1.2.1 (fn_of hf) he h.1.1 h.1.2.2.1 hd, h.2⟩
theorem cq_own (hd : Does P f as res) (hf : fnId (s.ev fo) = some f) (he : entB P f = true) (h : (xs.map s.ev ++ capsOf (s.ev fo) = as ∧ d < nt ∧ AV.noRefs as = true) ∧ R (s.new d (openV d [] res) res)) :
    opq ⟨P, G0, X, w0, nt, pv⟩ ⟨some d, .call { callee := .value fo, args := xs.toArray, argTypes := ts }, t, pos, after, g⟩ R s :=
  opq_own hd he (fn_of hf) h.1.1 h.1.2.1 h.1.2.2 rfl h.2
theorem cq_lend (hd : Does P f as res) (hf : fnId (s.ev fo) = some f) (he : entB P f = true) (h : (lendQ as (borrowVs s (xs.map s.ev ++ capsOf (s.ev fo))) ∧ d < nt ∧ pureV res = true) ∧ R (s.set d res.share)) :
    opq ⟨P, G0, X, w0, nt, pv⟩ ⟨some d, .call { callee := .value fo, args := xs.toArray, argTypes := ts }, t, pos, after, g⟩ R s :=
  opq_lend hd he (fn_of hf) h.1.1 h.1.2.1 h.1.2.2 rfl h.2
theorem cq_lendOwn (hd : Does P f as res) (hf : fnId (s.ev fo) = some f) (he : entB P f = true) (h : (lendQ as (borrowVs s (xs.map s.ev ++ capsOf (s.ev fo))) ∧ d < nt ∧ pureV res = true) ∧ R (s.new d (openV d [] res) res)) :
    opq ⟨P, G0, X, w0, nt, pv⟩ ⟨some d, .call { callee := .value fo, args := xs.toArray, argTypes := ts }, t, pos, after, g⟩ R s :=
  opq_lendOwn hd he (fn_of hf) h.1.1 h.1.2.1 h.1.2.2 rfl h.2
theorem cq_X (pl : List (Nat × List Nat)) (hd : DoesX P f args m res m') (hf : fnId (s.ev fo) = some f) (he : entB P f = true) (hpl : (pl.map Prod.fst).Nodup)
    (h : (xs.map s.ev ++ capsOf (s.ev fo) = AV.mapRefs (renP pl) args ∧ lentOk s pl m ∧ d < nt ∧ hdsOk m m' = true) ∧ R ((s.swap (repP pl) (newA pl m')).new d (openV d [] res) res)) :
    opq ⟨P, G0, X, w0, nt, pv⟩ ⟨some d, .call { callee := .value fo, args := xs.toArray, argTypes := ts }, t, pos, after, g⟩ R s :=
  opq_callX pl hd he (fn_of hf) h.1.1 h.1.2.1 h.1.2.2.1 hpl h.1.2.2.2 rfl h.2
theorem cq_Xs (pl : List (Nat × List Nat)) (hd : DoesX P f args m res m') (hf : fnId (s.ev fo) = some f) (he : entB P f = true) (hpl : (pl.map Prod.fst).Nodup)
    (h : (xs.map s.ev ++ capsOf (s.ev fo) = AV.mapRefs (renP pl) args ∧ lentOk s pl m ∧ d < nt ∧ hdsOk m m' = true ∧ res.noRef = true) ∧ R ((s.swap (repP pl) (newA pl m')).set d res)) :
    opq ⟨P, G0, X, w0, nt, pv⟩ ⟨some d, .call { callee := .value fo, args := xs.toArray, argTypes := ts }, t, pos, after, g⟩ R s :=
  opq_callXs pl hd he (fn_of hf) h.1.1 h.1.2.1 h.1.2.2.1 hpl h.1.2.2.2.1 h.1.2.2.2.2 h.2
end

section
variable {E : Env} {R A B : ASt → Prop} {s : ASt} {o : Oper} {p : Prop} [Decidable p] {b : Bool}
theorem CBC_decT (hp : p) (h : decide p = true → CBC (.lit (.bool (decide p))) A B s) : CBC (.lit (.bool (decide p))) A B s := h (decide_eq_true hp)
theorem CBC_decF (hp : ¬ p) (h : decide p = false → CBC (.lit (.bool (decide p))) A B s) : CBC (.lit (.bool (decide p))) A B s := h (decide_eq_false hp)
theorem GQ_decT (hp : p) (h : decide p = true → GQ E (.lit (.bool (decide p))) b o R s) : GQ E (.lit (.bool (decide p))) b o R s := h (decide_eq_true hp)
theorem GQ_decF (hp : ¬ p) (h : decide p = false → GQ E (.lit (.bool (decide p))) b o R s) : GQ E (.lit (.bool (decide p))) b o R s := h (decide_eq_false hp)
theorem GQ_ndT (hp : p) (h : decide p = true → GQ E (.lit (.bool (!(decide p)))) b o R s) : GQ E (.lit (.bool (!(decide p)))) b o R s := h (decide_eq_true hp)
theorem GQ_ndF (hp : ¬ p) (h : decide p = false → GQ E (.lit (.bool (!(decide p)))) b o R s) : GQ E (.lit (.bool (!(decide p)))) b o R s := h (decide_eq_false hp)
theorem GD_decT {R : Option AV → ASt → Prop} (hp : p) (h : decide p = true → GD E (.lit (.bool (decide p))) b o R s) : GD E (.lit (.bool (decide p))) b o R s := h (decide_eq_true hp)
theorem GD_decF {R : Option AV → ASt → Prop} (hp : ¬ p) (h : decide p = false → GD E (.lit (.bool (decide p))) b o R s) : GD E (.lit (.bool (decide p))) b o R s := h (decide_eq_false hp)
theorem GD_ndT {R : Option AV → ASt → Prop} (hp : p) (h : decide p = true → GD E (.lit (.bool (!(decide p)))) b o R s) : GD E (.lit (.bool (!(decide p)))) b o R s := h (decide_eq_true hp)
theorem GD_ndF {R : Option AV → ASt → Prop} (hp : ¬ p) (h : decide p = false → GD E (.lit (.bool (!(decide p)))) b o R s) : GD E (.lit (.bool (!(decide p)))) b o R s := h (decide_eq_false hp)
end
end Go.Av
end
section
set_option linter.unusedSimpArgs false
set_option linter.unusedVariables false
/-! Rows of records: what is written, what is empty. -/
namespace Go.Av
theorem zCells_succ (zs : List Value) (n : Nat) (h : 0 < zs.length) : zCells zs (n + 1) = zCells zs n ++ zs := by
  apply List.ext_getElem?
  intro i
  have hl : (zCells zs n).length = n * zs.length := by simp [zCells]
  by_cases h1 : i < n * zs.length
  · rw [List.getElem?_append_left (by omega)]
    have h2 : i < (n + 1) * zs.length := by rw [Nat.succ_mul]; omega
    simp [zCells, h1, h2]
  · rw [List.getElem?_append_right (by omega), hl]
    by_cases h2 : i < (n + 1) * zs.length
    · have h3 : i - n * zs.length < zs.length := by rw [Nat.succ_mul] at h2; omega
      have h4 : i % zs.length = i - n * zs.length := by
        have : i = (i - n * zs.length) + zs.length * n := by rw [Nat.mul_comm zs.length n]; omega
        conv => lhs; rw [this]
        rw [Nat.add_mul_mod_self_left, Nat.mod_eq_of_lt h3]
      simp [zCells, h2, h4, List.getD, h3]
    · have h3 : ¬ i - n * zs.length < zs.length := by rw [Nat.succ_mul] at h2; omega
      simp only [zCells, List.getElem?_map]
      rw [List.getElem?_eq_none (by simpa using h2), List.getElem?_eq_none (by omega)]
      rfl
/-- Empty rows. -/
theorem zRows {α : Type} {enc : α → List AV} {z : α} {zs : List Value} (h : 0 < zs.length) (hz : enc z = zs.map .lit) (n : Nat) : (zCells zs n).map AV.lit = (List.replicate n z).flatMap enc := by
  induction n with
  | zero => simp [zCells]
  | succ n ih => rw [zCells_succ zs n h, List.map_append, ih, ← hz, List.replicate_succ', List.flatMap_append]; simp
theorem setL_flat {α : Type} {enc : α → List AV} {sz : Nat} {l : List α} {k : Nat} (x : α) (h : ∀ y ∈ l, (enc y).length = sz) (hx : (enc x).length = sz) (hk : k < l.length) : setL (l.flatMap enc) (k * sz) (enc x) = (l.set k x).flatMap enc := by
  have h1 : (l.flatMap enc).take (k * sz) = (l.take k).flatMap enc := by
    have e : l.flatMap enc = (l.take k).flatMap enc ++ (l.drop k).flatMap enc := by rw [← List.flatMap_append, List.take_append_drop]
    have hlen : ((l.take k).flatMap enc).length = k * sz := by
      rw [flat_len (sz := sz) (fun y hy => h y (List.mem_of_mem_take hy)), List.length_take, Nat.min_eq_left (by omega)]
    rw [e, List.take_left' hlen]
  have h2 : (l.flatMap enc).drop (k * sz + (enc x).length) = (l.drop (k + 1)).flatMap enc := by
    rw [hx, ← Nat.succ_mul]; exact flat_drop _ h
  unfold setL
  rw [h1, h2, List.set_eq_take_append_cons_drop, if_pos hk, List.flatMap_append, List.flatMap_cons]
theorem take_rep_set {α : Type} (l : List α) (z : α) (k : Nat) (h : k < l.length) : (l.take k ++ List.replicate (l.length - k) z).set k l[k] = l.take (k + 1) ++ List.replicate (l.length - (k + 1)) z := by
  have hk : (l.take k).length = k := by simp; omega
  rw [List.set_append_right _ _ (by omega), hk, Nat.sub_self]
  have : l.length - k = (l.length - (k + 1)) + 1 := by omega
  rw [this, List.replicate_succ, List.set_cons_zero, List.take_succ_eq_append_getElem h, List.append_assoc]
  rfl
end Go.Av
end
section
set_option linter.unusedSimpArgs false
set_option linter.unusedVariables false
/-! Nil slices within what is given back: each is an own row of no element. -/
namespace Go.Av
variable {w : World} {G : Nat → Prop}
theorem RetJ.nilUp {E : Env} {fn : Func} {A res : AV} {s : ASt} (h : RetJ E fn A s) (hA : NilLe A res) : RetJ E fn res s := fun M G a w hX => by
  obtain ⟨T, h1, rfl, h3, h4, h5⟩ := h M G a w hX
  obtain ⟨T', g1, g2, g3, g4⟩ := Av.nilUp T res h3 hA
  exact ⟨T', by rw [h1, g2], g1, g4, by rw [g3]; exact h4, by rw [g3]; exact h5⟩
def retNs (res : List AV) : Option (List AV × ASt) → Prop
  | some (A, _) => NilLes A res
  | none => False
def retN2 (s : ASt) (res : List AV) : Option AV → Option AV → Prop
  | some v, some v' => retNs res (closeVs s [v, v'])
  | _, _ => False
end Go.Av
end
section
set_option linter.unusedSimpArgs false
set_option linter.unusedVariables false
/-! Own memory lent to a callee, in a region whose order is drawn. -/
namespace Go.Av
theorem Le.node' {s s' : ASt} (h : Le s s') {r : Nat} {p : List Nat} {A : AV} (hA : nodeOf s r p = some A) : nodeOf s' r p = some A := by
  unfold nodeOf at hA ⊢
  cases hm : s.m r with
  | none => simp [hm] at hA
  | some T => rw [h.m r T hm]; rw [hm] at hA; exact hA
mutual
theorem borrow_le {s s' : ASt} (h : Le s s') : ∀ (v A : AV), borrowV s v = some A → borrowV s' v = some A
  | .lit v, A, hA => by simpa [borrowV] using hA
  | .row false sz n cs, A, hA => by simpa [borrowV] using hA
  | .row true sz n cs, A, hA => by simp [borrowV] at hA
  | .box false cs, A, hA => by simpa [borrowV] using hA
  | .box true cs, A, hA => by simp [borrowV] at hA
  | .fn f cs, A, hA => by
    simp only [borrowV] at hA ⊢
    cases hb : borrowVs s cs with
    | none => simp [hb] at hA
    | some Bs => rw [borrows_le h cs Bs hb]; rw [hb] at hA; exact hA
  | .sl r p off len, A, hA => by
    simp only [borrowV] at hA ⊢
    cases hn : nodeOf s r p with
    | none => simp [hn] at hA
    | some N => rw [h.node' hn]; rw [hn] at hA; exact hA
  | .ptr r p o, A, hA => by
    simp only [borrowV] at hA ⊢
    cases hn : nodeOf s r p with
    | none => simp [hn] at hA
    | some N => rw [h.node' hn]; rw [hn] at hA; exact hA
  | .agg cs, A, hA => by
    simp only [borrowV] at hA ⊢
    cases hb : borrowVs s cs with
    | none => simp [hb] at hA
    | some Bs => rw [borrows_le h cs Bs hb]; rw [hb] at hA; exact hA
  | .tup cs, A, hA => by
    simp only [borrowV] at hA ⊢
    cases hb : borrowVs s cs with
    | none => simp [hb] at hA
    | some Bs => rw [borrows_le h cs Bs hb]; rw [hb] at hA; exact hA
  | .junk, A, hA => by simp [borrowV] at hA
theorem borrows_le {s s' : ASt} (h : Le s s') : ∀ (vs As : List AV), borrowVs s vs = some As → borrowVs s' vs = some As
  | [], As, hA => by simpa [borrowVs] using hA
  | v :: vs, As, hA => by
    simp only [borrowVs] at hA ⊢
    cases h1 : borrowV s v with
    | none => simp [h1] at hA
    | some B =>
      cases h2 : borrowVs s vs with
      | none => simp [h1, h2] at hA
      | some Bs => rw [borrow_le h v B h1, borrows_le h vs Bs h2]; rw [h1, h2] at hA; exact hA
end
theorem borrows_ev {s s' : ASt} (h : Le s s') {caps : List AV} : ∀ (xs : List Operand) (As : List AV), borrowVs s (xs.map s.ev ++ caps) = some As → xs.map s'.ev = xs.map s.ev
  | [], _, _ => rfl
  | x :: xs, As, hA => by
    simp only [List.map_cons, List.cons_append, borrowVs] at hA
    cases h1 : borrowV s (s.ev x) with
    | none => simp [h1] at hA
    | some B =>
      cases h2 : borrowVs s (xs.map s.ev ++ caps) with
      | none => simp [h1, h2] at hA
      | some Bs =>
        have : s'.ev x = s.ev x := h.ev rfl (fun e => by rw [e] at h1; simp [borrowV] at h1)
        rw [List.map_cons, List.map_cons, this, borrows_ev h xs Bs h2]
section
variable {E : Env} {s : ASt} {d : Nat} {t : TypeId} {pos : String} {after : Array Edge} {g : Option (Nat × Bool)}
theorem q_lendOwn {fo : Operand} {f : FuncId} {caps : List AV} {xs : List Operand} {ts : Array TypeId} {as : List AV} {res : AV} (hn : d < E.nt) (hf : s.ev fo = .fn f caps) (he : entB E.P f = true) (ha : borrowVs s (xs.map s.ev ++ caps) = some as)
    (hd : Does E.P f as res) (hp : pureV res = true) : QJ E ⟨some d, .call { callee := .value fo, args := xs.toArray, argTypes := ts }, t, pos, after, g⟩ s (openV d [] res) (some res) := by
  intro s' hle a w hr
  have hf' : s'.ev fo = .fn f caps := hle.ev hf (by simp)
  have ha' : borrowVs s' (xs.map s'.ev ++ caps) = some as := by rw [borrows_ev hle xs as ha]; exact borrows_le hle _ _ ha
  have := l_callOwn (R := fun s1 => s1 = s'.new d (openV d [] res) res) (t := t) (pos := pos) (after := after) (g := g) (ts := ts) hn hf' he ha' hd hp rfl a w hr
  exact Oper.wp_mono (fun a' w' ⟨s1, h1, h2⟩ => by subst h2; exact h1) this
theorem q_lendSh {fo : Operand} {f : FuncId} {caps : List AV} {xs : List Operand} {ts : Array TypeId} {as : List AV} {res : AV} (hn : d < E.nt) (hf : s.ev fo = .fn f caps) (he : entB E.P f = true) (ha : borrowVs s (xs.map s.ev ++ caps) = some as)
    (hd : Does E.P f as res) (hp : pureV res = true) : QJ E ⟨some d, .call { callee := .value fo, args := xs.toArray, argTypes := ts }, t, pos, after, g⟩ s res.share none := by
  intro s' hle a w hr
  have hf' : s'.ev fo = .fn f caps := hle.ev hf (by simp)
  have ha' : borrowVs s' (xs.map s'.ev ++ caps) = some as := by rw [borrows_ev hle xs as ha]; exact borrows_le hle _ _ ha
  have := l_callSh (R := fun s1 => s1 = s'.set d res.share) (t := t) (pos := pos) (after := after) (g := g) (ts := ts) hn hf' he ha' hd hp rfl a w hr
  exact Oper.wp_mono (fun a' w' ⟨s1, h1, h2⟩ => by subst h2; exact h1) this
end
section
variable {P : Program} {G0 X : Nat → Prop} {w0 : World} {nt : Nat} {pv : Nat → Option Value} {s : ASt} {d : Nat} {t : TypeId} {pos : String} {after : Array Edge} {g : Option (Nat × Bool)} {fo : Operand} {f : FuncId} {xs : List Operand} {ts : Array TypeId} {as : List AV} {res : AV}
theorem cq_dlend {R : Option AV → ASt → Prop} (hd : Does P f as res) (hf : fnId (s.ev fo) = some f) (he : entB P f = true) (h : (lendQ as (borrowVs s (xs.map s.ev ++ capsOf (s.ev fo))) ∧ d < nt ∧ pureV res = true) ∧ R none (s.set d res.share)) :
    dop ⟨P, G0, X, w0, nt, pv⟩ ⟨some d, .call { callee := .value fo, args := xs.toArray, argTypes := ts }, t, pos, after, g⟩ R s :=
  ⟨d, _, none, rfl, rfl, q_lendSh (E := ⟨P, G0, X, w0, nt, pv⟩) h.1.2.1 (fn_of hf) he (lend_some h.1.1) hd h.1.2.2, h.2⟩
theorem cq_dlendOwn {R : Option AV → ASt → Prop} (hd : Does P f as res) (hf : fnId (s.ev fo) = some f) (he : entB P f = true) (h : (lendQ as (borrowVs s (xs.map s.ev ++ capsOf (s.ev fo))) ∧ d < nt ∧ pureV res = true ∧ moV res = none) ∧ R (some res) (s.new d (openV d [] res) res)) :
    dop ⟨P, G0, X, w0, nt, pv⟩ ⟨some d, .call { callee := .value fo, args := xs.toArray, argTypes := ts }, t, pos, after, g⟩ R s :=
  ⟨d, _, some res, rfl, h.1.2.2.2, q_lendOwn (E := ⟨P, G0, X, w0, nt, pv⟩) h.1.2.1 (fn_of hf) he (lend_some h.1.1) hd h.1.2.2.1, h.2⟩
end
end Go.Av
end
section
set_option linter.unusedSimpArgs false
set_option linter.unusedVariables false
/-! What the laws on types need. -/
namespace Go.Av
abbrev I (n : Int) : AV := .lit (.int .i64 n)
abbrev B (b : Bool) : AV := .lit (.bool b)
abbrev S (s : ByteArray) : AV := .lit (.string s)
abbrev U8 (n : Int) : AV := .lit (.int .u8 n)
abbrev U32 (n : Int) : AV := .lit (.int .u32 n)
abbrev I32 (n : Int) : AV := .lit (.int .i32 n)
abbrev U64 (n : Int) : AV := .lit (.int .u64 n)
abbrev F64 (n : Nat) : AV := .lit (.float .f64 n)
theorem flat_take {α : Type} {enc : α → List AV} {sz : Nat} : ∀ {l : List α} (k : Nat), (∀ x ∈ l, (enc x).length = sz) → (l.flatMap enc).take (k * sz) = (l.take k).flatMap enc
  | [], k, _ => by simp
  | x :: l, 0, _ => by simp
  | x :: l, k + 1, h => by
    have hx := h x (by simp)
    have := flat_take (l := l) k (fun y hy => h y (by simp [hy]))
    rw [List.flatMap_cons, List.take_succ_cons, List.flatMap_cons, ← this, Nat.add_mul, Nat.one_mul, Nat.add_comm (k * sz) sz, List.take_append, hx]
    simp [List.take_of_length_le (by omega : (enc x).length ≤ sz + k * sz), Nat.add_sub_cancel_left]
theorem setL_mid {α : Type} (A c c' D : List α) (h : c'.length = c.length) : setL (A ++ (c ++ D)) A.length c' = A ++ (c' ++ D) := by
  rw [setL, List.take_left, ← List.drop_drop, List.drop_left, h, List.drop_left]
theorem flat_set {α : Type} {enc : α → List AV} {sz : Nat} {l : List α} {x : α} (h : ∀ y ∈ l, (enc y).length = sz) (hx : (enc x).length = sz) {k : Nat} (hk : k < l.length) (j : Nat) (hj : j < sz) (v : AV) (he : (enc l[k]).set j v = enc x) :
    (l.flatMap enc).set (k * sz + j) v = (l.set k x).flatMap enc := by
  have hl := h l[k] (List.getElem_mem hk)
  rw [← setL_flat x h hx hk, ← he]
  have e : l.take k ++ l[k] :: l.drop (k + 1) = l := by rw [← List.drop_eq_getElem_cons hk, List.take_append_drop]
  have hfl : l.flatMap enc = (l.take k).flatMap enc ++ (enc l[k] ++ (l.drop (k + 1)).flatMap enc) :=
    calc l.flatMap enc = (l.take k ++ l[k] :: l.drop (k + 1)).flatMap enc := by rw [e]
      _ = _ := by simp only [List.flatMap_append, List.flatMap_cons]
  have htl : ((l.take k).flatMap enc).length = k * sz := by
    rw [flat_len (fun y hy => h y (List.mem_of_mem_take hy)), List.length_take]; congr 1; omega
  generalize (l.take k).flatMap enc = A at hfl htl
  generalize (l.drop (k + 1)).flatMap enc = D at hfl
  rw [hfl, ← htl, setL_mid A (enc l[k]) _ D (by simp), List.set_append_right _ _ (by omega), List.set_append_left _ _ (by omega)]
  congr 3
  omega
theorem leafCs_app {a b : List AV} : leafCs (a ++ b) = (leafCs a && leafCs b) := by
  induction a with
  | nil => simp [leafCs]
  | cons x l ih => simp [leafCs, ih, Bool.and_assoc]
theorem fitCs_app {a b : List AV} : fitCs (a ++ b) = (fitCs a && fitCs b) := by
  induction a with
  | nil => simp [fitCs]
  | cons x l ih => simp [fitCs, ih, Bool.and_assoc]
theorem leafCs_flat {α : Type} {enc : α → List AV} (h : ∀ x, leafCs (enc x) = true) : ∀ {l : List α}, leafCs (l.flatMap enc) = true
  | [] => rfl
  | x :: l => by rw [List.flatMap_cons, leafCs_app, h x, leafCs_flat h]; rfl
theorem fitCs_flat {α : Type} {enc : α → List AV} (h : ∀ x, fitCs (enc x) = true) : ∀ {l : List α}, fitCs (l.flatMap enc) = true
  | [] => rfl
  | x :: l => by rw [List.flatMap_cons, fitCs_app, h x, fitCs_flat h]; rfl
theorem shares_app {a b : List AV} : AV.shares (a ++ b) = AV.shares a ++ AV.shares b := by simp [AV.shares_eq]
theorem shares_flat {α : Type} {enc enc' : α → List AV} (h : ∀ x, AV.shares (enc x) = enc' x) : ∀ {l : List α}, AV.shares (l.flatMap enc) = l.flatMap enc'
  | [] => rfl
  | x :: l => by rw [List.flatMap_cons, List.flatMap_cons, shares_app, h x, shares_flat h]
theorem pureVs_app {a b : List AV} : pureVs (a ++ b) = (pureVs a && pureVs b) := by
  induction a with
  | nil => simp [pureVs]
  | cons x l ih => simp [pureVs, ih, Bool.and_assoc]
theorem pureVs_flat {α : Type} {enc : α → List AV} (h : ∀ x, pureVs (enc x) = true) : ∀ {l : List α}, pureVs (l.flatMap enc) = true
  | [] => rfl
  | x :: l => by rw [List.flatMap_cons, pureVs_app, h x, pureVs_flat h]; rfl
end Go.Av
end
section
set_option linter.unusedSimpArgs false
set_option linter.unusedVariables false
/-! Counting and marking, for lists of records. -/
namespace Go.Av
def cntL {α : Type} (c : α → Nat) : List α → Nat
  | [] => 0
  | x :: r => c x + cntL c r
def markL {α : Type} (f : α → Int → α) (c : α → Nat) : List α → Int → List α
  | [], _ => []
  | x :: r, k => f x k :: markL f c r (k + c x)
section
variable {α : Type} {f : α → Int → α} {c : α → Nat}
theorem cntL_app (l k : List α) : cntL c (l ++ k) = cntL c l + cntL c k := by
  induction l with
  | nil => simp [cntL]
  | cons x r ih => simp [cntL, ih, Nat.add_assoc]
theorem cntL_take (l : List α) (i : Nat) (h : i < l.length) : cntL c (l.take (i + 1)) = cntL c (l.take i) + c l[i] := by
  rw [List.take_succ_eq_append_getElem h, cntL_app]; simp [cntL]
theorem cntL_take_le (l : List α) (i : Nat) : cntL c (l.take i) ≤ cntL c l := by
  conv => rhs; rw [← List.take_append_drop i l]
  rw [cntL_app]; omega
theorem cntL_lt (l : List α) (i : Nat) (h : i < l.length) : cntL c (l.take i) + c l[i] ≤ cntL c l := by
  rw [← cntL_take l i h]; exact cntL_take_le l (i + 1)
theorem markL_len (l : List α) (k : Int) : (markL f c l k).length = l.length := by
  induction l generalizing k with
  | nil => rfl
  | cons x r ih => simp [markL, ih]
theorem markL_app (l m : List α) (k : Int) : markL f c (l ++ m) k = markL f c l k ++ markL f c m (k + cntL c l) := by
  induction l generalizing k with
  | nil => simp [markL, cntL]
  | cons x r ih => simp [markL, ih, cntL, Int.add_assoc]
theorem markL_take (l : List α) (k : Int) (i : Nat) (h : i < l.length) : markL f c (l.take (i + 1)) k = markL f c (l.take i) k ++ [f l[i] (k + cntL c (l.take i))] := by
  rw [List.take_succ_eq_append_getElem h, markL_app]; rfl
theorem markL_get (l : List α) (k : Int) (i : Nat) (h : i < l.length) : (markL f c l k)[i]'(by rw [markL_len]; exact h) = f l[i] (k + cntL c (l.take i)) := by
  have e : markL f c l k = markL f c (l.take (i + 1)) k ++ markL f c (l.drop (i + 1)) (k + cntL c (l.take (i + 1))) := by
    conv => lhs; rw [← List.take_append_drop (i + 1) l]
    rw [markL_app]
  have h2 := markL_take (f := f) (c := c) l k i h
  have hl : (markL f c (l.take i) k).length = i := by rw [markL_len, List.length_take]; omega
  simp only [e, h2]
  rw [List.getElem_append_left (by simp [hl]), List.getElem_append_right (by omega)]
  simp [hl]
/-- The list while it is being marked. -/
def midL (f : α → Int → α) (c : α → Nat) (l : List α) (k : Int) (i : Nat) : List α := markL f c (l.take i) k ++ l.drop i
theorem midL_len (l : List α) (k : Int) (i : Nat) : (midL f c l k i).length = l.length := by
  simp [midL, markL_len]; omega
theorem midL_get (l : List α) (k : Int) (i : Nat) (h : i < l.length) : (midL f c l k i)[i]'(by rw [midL_len]; exact h) = l[i] := by
  have hl : (markL f c (l.take i) k).length = i := by rw [markL_len, List.length_take]; omega
  simp only [midL]
  rw [List.getElem_append_right (by omega)]
  simp [hl]
theorem midL_set (l : List α) (k : Int) (i : Nat) (h : i < l.length) : (midL f c l k i).set i (f l[i] (k + cntL c (l.take i))) = midL f c l k (i + 1) := by
  have hl : (markL f c (l.take i) k).length = i := by rw [markL_len, List.length_take]; omega
  simp only [midL]
  rw [markL_take l k i h, List.set_append_right _ _ (by omega), hl, Nat.sub_self, List.drop_eq_getElem_cons h, List.set_cons_zero, List.append_assoc]
  rfl
theorem midL_zero (l : List α) (k : Int) : midL f c l k 0 = l := by simp [midL, markL]
theorem midL_all (l : List α) (k : Int) (i : Nat) (h : l.length ≤ i) : midL f c l k i = markL f c l k := by
  simp [midL, List.take_of_length_le h, List.drop_of_length_le h]
theorem markL_self {l : List α} {k : Int} (hm : markL f c l k = l) (i : Nat) (h : i < l.length) : l[i] = f l[i] (k + cntL c (l.take i)) := by
  have := markL_get (f := f) (c := c) l k i h
  rw [← this]
  congr 1
  exact hm.symm
end
theorem barr_eq {x y : ByteArray} : x.toList = y.toList ↔ x = y := by
  constructor
  · intro h
    have key : ∀ (b : ByteArray), b.toList = b.data.toList := fun b => by
      have loop : ∀ (n i : Nat) (r : List UInt8), b.size - i = n → ByteArray.toList.loop b i r = r.reverse ++ b.data.toList.drop i := by
        intro n
        induction n with
        | zero =>
          intro i r h
          rw [ByteArray.toList.loop]
          have : ¬ i < b.size := by omega
          simp only [this, if_false]
          have hs : b.data.size = b.size := rfl
          rw [List.drop_of_length_le (by rw [Array.length_toList]; omega)]; simp
        | succ n ih =>
          intro i r h
          rw [ByteArray.toList.loop]
          have hlt : i < b.size := by omega
          simp only [hlt, if_true]
          rw [ih (i + 1) _ (by omega)]
          have hlt' : i < b.data.toList.length := by simpa using hlt
          rw [List.drop_eq_getElem_cons hlt']
          have : b.get! i = b.data.toList[i] := by
            show b.data.get!Internal i = _
            simp [Array.get!Internal, getElem!_pos, hlt]
          simp [this]
      have := loop b.size 0 [] (by omega)
      simpa [ByteArray.toList] using this
    rw [key, key] at h
    cases x; cases y
    simp only at h
    congr
    exact Array.toList_inj.1 h
  · intro h; rw [h]
theorem str_beq {x y : ByteArray} : (x.toList == y.toList) = decide (x = y) := by
  rw [Bool.eq_iff_iff]; simp [barr_eq]

/-! ### What is left of a size -/
def szStep (v : Int) (f : Int → Int) : Int := if v < 0 then -1 else f v
theorem szStep_neg {v : Int} {f : Int → Int} (h : v < 0) : szStep v f = -1 := by simp [szStep, h]
theorem szStep_pos {v : Int} {f : Int → Int} (h : ¬ v < 0) : szStep v f = f v := by simp [szStep, h]
theorem szStep_of {v : Int} {f : Int → Int} (h : 0 ≤ szStep v f) : 0 ≤ v ∧ szStep v f = f v := by
  unfold szStep at h ⊢
  split at h
  · omega
  · exact ⟨by omega, by simp [*]⟩
def szL {α : Type} (f : α → Int → Int) : List α → Int → Int
  | [], a => a
  | x :: r, a => szStep (f x a) (szL f r)
def szRow {α : Type} (f : α → Int → Int) (l : List α) (a : Int) : Int := szStep (a - l.length) (szL f l)
/-- It never grows, and is never below -1. -/
def szOk {α : Type} (f : α → Int → Int) : Prop := ∀ x a, 0 ≤ a → f x a ≤ a
theorem szStep_le {v a : Int} {f : Int → Int} (h0 : 0 ≤ a) (hv : v ≤ a) (hf : ∀ b, 0 ≤ b → f b ≤ b) : szStep v f ≤ a := by
  unfold szStep
  split
  · omega
  · have := hf v (by omega); omega
theorem szL_le {α : Type} {f : α → Int → Int} (hf : szOk f) : ∀ (l : List α) (a : Int), 0 ≤ a → szL f l a ≤ a
  | [], a, h => Int.le_refl _
  | x :: r, a, h => szStep_le h (hf x a h) (szL_le hf r)
theorem szRow_ok {α : Type} {f : α → Int → Int} (hf : szOk f) : szOk (szRow f) := fun l a h => szStep_le h (by omega) (szL_le hf l)
theorem szRow_len {α : Type} {f : α → Int → Int} (hf : szOk f) {l : List α} {a : Int} (h0 : 0 ≤ a) (h : 0 ≤ szRow f l a) : (l.length : Int) ≤ a := by
  have := (szStep_of h).1; omega
theorem szL_mem {α : Type} {f : α → Int → Int} (hf : szOk f) : ∀ {l : List α} {a : Int}, 0 ≤ a → 0 ≤ szL f l a → ∀ x ∈ l, ∃ b, 0 ≤ b ∧ b ≤ a ∧ 0 ≤ f x b
  | [], a, _, _, x, hx => by simp at hx
  | y :: r, a, h0, h, x, hx => by
    simp only [szL] at h
    obtain ⟨h1, h2⟩ := szStep_of h
    rcases List.mem_cons.1 hx with rfl | hx
    · exact ⟨a, h0, Int.le_refl _, h1⟩
    · rw [h2] at h
      obtain ⟨b, k1, k2, k3⟩ := szL_mem hf h1 h x hx
      have := hf y a h0
      exact ⟨b, k1, by omega, k3⟩
theorem szRow_mem {α : Type} {f : α → Int → Int} (hf : szOk f) {l : List α} {a : Int} (h0 : 0 ≤ a) (h : 0 ≤ szRow f l a) : ∀ x ∈ l, ∃ b, 0 ≤ b ∧ b ≤ a ∧ 0 ≤ f x b := by
  obtain ⟨h1, h2⟩ := szStep_of h
  rw [szRow, h2] at h
  intro x hx
  obtain ⟨b, k1, k2, k3⟩ := szL_mem hf h1 h x hx
  exact ⟨b, k1, by omega, k3⟩
def szOne {α : Type} (x : α) (a : Int) : Int := a
def szStr (x : ByteArray) (a : Int) : Int := szStep (a - x.size) fun b => b
/-- The rest of a row, from 'i' on. -/
theorem szL_drop {α : Type} {f : α → Int → Int} (l : List α) (i : Nat) (h : i < l.length) (a : Int) : szL f (l.drop i) a = szStep (f l[i] a) (szL f (l.drop (i + 1))) := by
  rw [List.drop_eq_getElem_cons h]; rfl
theorem wE {n m : Int} (e : n = m) (h1 : -9223372036854775808 ≤ m) (h2 : m ≤ 9223372036854775807) : IntKind.wrap .i64 n = m := by subst e; exact wI _ h1 h2
theorem lset_len {α : Type} (l : List α) (i : Nat) (a : α) : (l.set i a).length = l.length := List.length_set
theorem lget_set {α : Type} (l : List α) (i : Nat) (a : α) (h : i < (l.set i a).length) : (l.set i a)[i] = a := List.getElem_set_self h
theorem lset_set {α : Type} (l : List α) (i : Nat) (a b : α) : (l.set i a).set i b = l.set i b := List.set_set ..
def cOne {α : Type} (x : α) : Nat := 1
def mInt (x : Int) (k : Int) : Int := k
def mbool (k : Int) : Bool := k.tmod 3 == 0
def mBool (x : Bool) (k : Int) : Bool := mbool k
theorem mbool_eq (k : Int) : mbool k = (k.tmod 3 == 0) := rfl
end Go.Av
end
section
set_option linter.unusedSimpArgs false
set_option linter.unusedVariables false
/-! Regions whose order is drawn, in which one operation turns what was there before the region. -/
namespace Go.Av
/-- What an operation leaves: the region that 's2' holds where 's' knew one; refs go by 'f'. -/
def over (s s2 : ASt) (f : Nat → List Nat → Option (Nat × List Nat)) (s' : ASt) : ASt := ⟨fun i => (s'.t i).mapRef f, fun r => match s.m r with
  | some _ => s2.m r
  | none => s'.m r⟩
def Filt (f : Nat → List Nat → Option (Nat × List Nat)) : Prop := ∀ r p, f r p = none ∨ f r p = some (r, p)
/-- An operation that turns what was there. -/
def XJ (E : Env) (o : Oper) (s s2 : ASt) (f : Nat → List Nat → Option (Nat × List Nat)) (v : AV) (mo : Option AV) : Prop :=
  ∀ s', Le s s' → ∀ a w, Rel E s' a w → o.wp E.P a w (fun a' w' => Rel E (put (over s s2 f s') o.dst v mo) a' w') No
def ptrs (xs : List Nat) : List AV := xs.map fun x => .ptr x [] 0
def Shape (T : List (List Nat)) (ds : List (Option Tmp)) (outs : List (AV × Option AV)) (i : Nat) (o : Oper) : Prop :=
  (∃ v Tn, o.dst.isSome = true ∧ outs[i]? = some (v, Tn) ∧ okV ds (T.getD i []) i v = true ∧ tkV v = none) ∨
  (∃ d v Tn x, o.dst = some d ∧ outs[i]? = some (tkM v x, some Tn) ∧ okV ds (T.getD i []) i v = true ∧ upOk T ds x i = true ∧ ∀ k T'', k < i → ¬ IsU ds outs x k T'') ∨
  (∃ x T', o.dst = none ∧ outs[i]? = some (.ptr x [] 0, some T') ∧ upOk T ds x i = true ∧ ∀ k T'', k < i → ¬ IsU ds outs x k T'') ∨
  (o.dst = none ∧ outs[i]? = some (.junk, none)) ∨
  (∃ xs Ts, o.dst = none ∧ outs[i]? = some (.tup (ptrs xs), some (.tup Ts)) ∧ ∀ x T', upL x (ptrs xs) Ts = some T' → upOk T ds x i = true ∧ ∀ k T'', k < i → ¬ IsU ds outs x k T'')
/-- What is known of the operation that turns what was there. -/
def XOk (E : Env) (T : List (List Nat)) (s s1 : ASt) (ds : List (Option Tmp)) (outs : List (AV × Option AV)) (f : Nat → List Nat → Option (Nat × List Nat)) (i : Nat) (o : Oper) : Prop :=
  ∃ s2 v mo, o.guard = none ∧ XJ E o (SV s ds outs (T.getD i []).contains) s2 f v mo ∧
    (∀ r, wh r ds 0 = none → s1.m r = match s.m r with | some _ => s2.m r | none => none) ∧
    ((∃ d, o.dst = some d ∧ okV ds (T.getD i []) i v = true ∧ outs[i]? = some (v, mo) ∧ tkV v = none ∧ ∀ r c, wh r ds 0 = some c → r ≠ d → (SV s ds outs (T.getD i []).contains).m r ≠ none → s2.m r = (SV s ds outs (T.getD i []).contains).m r) ∨
     (∃ d x Tn, o.dst = some d ∧ okV ds (T.getD i []) i v = true ∧ mo = some Tn ∧ outs[i]? = some (tkM v x, some Tn) ∧ x ≠ d ∧ ((SV s ds outs (T.getD i []).contains).m x).isSome = true ∧ s2.m x = some .junk ∧ upOk T ds x i = true ∧ (∀ k T'', k < i → ¬ IsU ds outs x k T'') ∧
        ∀ r c, wh r ds 0 = some c → r ≠ d → r ≠ x → (SV s ds outs (T.getD i []).contains).m r ≠ none → s2.m r = (SV s ds outs (T.getD i []).contains).m r) ∨
     (o.dst = none ∧ outs[i]? = some (.junk, none) ∧ ∀ r c, wh r ds 0 = some c → (SV s ds outs (T.getD i []).contains).m r ≠ none → s2.m r = (SV s ds outs (T.getD i []).contains).m r) ∨
     (∃ x T', o.dst = none ∧ outs[i]? = some (.ptr x [] 0, some T') ∧ ((SV s ds outs (T.getD i []).contains).m x).isSome = true ∧ s2.m x = some T' ∧ upOk T ds x i = true ∧ (∀ k T'', k < i → ¬ IsU ds outs x k T'') ∧
        ∀ r c, wh r ds 0 = some c → r ≠ x → (SV s ds outs (T.getD i []).contains).m r ≠ none → s2.m r = (SV s ds outs (T.getD i []).contains).m r) ∨
     (∃ xs Ts, o.dst = none ∧ outs[i]? = some (.tup (ptrs xs), some (.tup Ts)) ∧ (∀ x ∈ xs, ((SV s ds outs (T.getD i []).contains).m x).isSome = true ∧ (upL x (ptrs xs) Ts).isSome = true) ∧ (∀ x T', upL x (ptrs xs) Ts = some T' → x ∈ xs ∧ s2.m x = some T' ∧ upOk T ds x i = true ∧ ∀ k T'', k < i → ¬ IsU ds outs x k T'') ∧
        ∀ r c, wh r ds 0 = some c → r ∉ xs → (SV s ds outs (T.getD i []).contains).m r ≠ none → s2.m r = (SV s ds outs (T.getD i []).contains).m r))
/-! ### The walk's form -/
theorem OutOk.ext {E : Env} {ops : Array Oper} {T : List (List Nat)} {s : ASt} {ds : List (Option Tmp)} {outs outs' : List (AV × Option AV)} {k : Nat} {o : Oper} (he : ∀ i, i ≤ k → outs[i]? = outs'[i]?) (hT : ∀ j ∈ T.getD k [], j < k) (hk : k < outs.length)
    (h : OutOk E ops T s ds outs k o) : OutOk E ops T s ds outs' k o := by
  have hS : SV s ds outs (T.getD k []).contains = SV s ds outs' (T.getD k []).contains := by
    have h1 : SV s ds (outs.take (k + 1)) (T.getD k []).contains = SV s ds outs (T.getD k []).contains :=
      SV.pre (fun i hi => by rw [List.getElem?_take]; rw [List.length_take] at hi; rw [if_pos (by omega)]) (fun i hi => by
        have := hT i (by simpa using hi); rw [List.length_take]; omega)
    have h2 : SV s ds (outs.take (k + 1)) (T.getD k []).contains = SV s ds outs' (T.getD k []).contains :=
      SV.pre (fun i hi => by rw [List.length_take] at hi; rw [List.getElem?_take, if_pos (by omega)]; exact (he i (by omega)).symm) (fun i hi => by
        have := hT i (by simpa using hi); rw [List.length_take]; omega)
    exact h1.symm.trans h2
  have hU : ∀ x j T'', j < k → (IsU ds outs x j T'' ↔ IsU ds outs' x j T'') := fun x j T'' hj => IsU.pre (he j (by omega))
  unfold OutOk at h ⊢
  rw [hS, he k (Nat.le_refl _)] at h
  rcases h with ⟨v, Tn, h1, h2, h3, h4⟩ | ⟨d, v, Tn, x, h1, h2, h3, h4, h5, h6, h7⟩ | ⟨x, T', h1, h2, h3, h4, h5, h6⟩
  · exact .inl ⟨v, Tn, h1, h2, h3, h4⟩
  · exact .inr (.inl ⟨d, v, Tn, x, h1, h2, h3, h4, h5, h6, fun j T'' hj hu => h7 j T'' hj ((hU x j T'' hj).2 hu)⟩)
  · exact .inr (.inr ⟨x, T', h1, h2, h3, h4, h5, fun j T'' hj hu => h6 j T'' hj ((hU x j T'' hj).2 hu)⟩)
/-! ### Operations that turn what was there -/
def over0 (s s2 s' : ASt) : ASt := ⟨s'.t, fun r => match s.m r with
  | some _ => s2.m r
  | none => s'.m r⟩
def Kn (s s1 : ASt) : Prop := s1.t = s.t ∧ ∀ r, (s1.m r).isSome = (s.m r).isSome
theorem Kn.refl (s : ASt) : Kn s s := ⟨rfl, fun _ => rfl⟩
theorem Kn.trans {a b c : ASt} (h : Kn a b) (k : Kn b c) : Kn a c := ⟨k.1.trans h.1, fun r => (k.2 r).trans (h.2 r)⟩
def fOf (P : Program) (t : TypeId) : AV → Nat → List Nat → Option (Nat × List Nat)
  | .ptr r p o => killR r p o (szN P t)
  | _ => fun _ _ => none
def idF : Nat → List Nat → Option (Nat × List Nat) := fun r p => some (r, p)
mutual
theorem mapRef_idF : ∀ (a : AV), a.mapRef idF = a
  | .sl r p o l => by simp only [AV.mapRef, idF]
  | .ptr r p o => by simp only [AV.mapRef, idF]
  | .agg cs => by simp only [AV.mapRef, mapRefs_idF cs]
  | .tup cs => by simp only [AV.mapRef, mapRefs_idF cs]
  | .fn _ cs => by simp only [AV.mapRef, mapRefs_idF cs]
  | .lit _ => by simp only [AV.mapRef]
  | .row _ _ _ _ => by simp only [AV.mapRef]
  | .box _ _ => by simp only [AV.mapRef]
  | .junk => by simp only [AV.mapRef]
theorem mapRefs_idF : ∀ (l : List AV), AV.mapRefs idF l = l
  | [] => by simp only [AV.mapRefs]
  | c :: r => by simp only [AV.mapRefs, mapRef_idF c, mapRefs_idF r]
end
/-! ### The whole region -/
def base1 (s st : ASt) (f : Nat → List Nat → Option (Nat × List Nat)) : ASt := ⟨fun i => (s.t i).mapRef f, fun r => match s.m r with
  | some _ => st.m r
  | none => none⟩
/-- The regions that were made here are what they were, but those of 'ex'. -/
def sameP (S st : ASt) (ex : List Nat) : List (Option Tmp) → Prop
  | [] => True
  | none :: l => sameP S st ex l
  | some r :: l => (if memB ex r = true then True else st.m r = S.m r) ∧ sameP S st ex l
def allUp (T : List (List Nat)) (ds : List (Option Tmp)) (outs : List (AV × Option AV)) (S : ASt) : List Nat → Prop
  | [] => True
  | x :: l => ((S.m x).isSome = true ∧ upOk T ds x outs.length = true ∧ noUp x ds outs = true) ∧ allUp T ds outs S l
def ptrsC : List Nat → List AV
  | [] => []
  | x :: l => .ptr x [] 0 :: ptrsC l
def getMs (st : ASt) : List Nat → Option (List AV)
  | [] => some []
  | x :: l => match st.m x with
    | some T => (getMs st l).map (T :: ·)
    | none => none
def dxL (f : Nat → List Nat → Option (Nat × List Nat)) (st : ASt) (K : (Nat → List Nat → Option (Nat × List Nat)) → ASt → List (AV × Option AV) → Prop) (outs : List (AV × Option AV)) (ps : List AV) : Option (List AV) → Prop
  | some Ts => K f st (outs ++ [(.tup ps, some (.tup Ts))])
  | none => False
def dxS (T : List (List Nat)) (ds : List (Option Tmp)) (outs : List (AV × Option AV)) (mk : List Nat) (S : ASt) (f : Nat → List Nat → Option (Nat × List Nat)) (K : (Nat → List Nat → Option (Nat × List Nat)) → ASt → List (AV × Option AV) → Prop) (st : ASt) : Prop := match mk with
  | [] => sameP S st [] ds ∧ K f st (outs ++ [(.junk, none)])
  | x :: l => (sameP S st (x :: l) ds ∧ allUp T ds outs S (x :: l)) ∧ dxL f st K outs (ptrsC (x :: l)) (getMs st (x :: l))
def dxA (T : List (List Nat)) (ds : List (Option Tmp)) (outs : List (AV × Option AV)) (mk : List Nat) (S : ASt) (d : Nat) (K : (Nat → List Nat → Option (Nat × List Nat)) → ASt → List (AV × Option AV) → Prop) (st : ASt) : Prop := match mk with
  | [] => (okV ds (T.getD outs.length []) outs.length (st.t d) = true ∧ tkV (st.t d) = none ∧ sameP S st [d] ds) ∧ K idF st (outs ++ [(st.t d, st.m d)])
  | [x] => (okV ds (T.getD outs.length []) outs.length (st.t d) = true ∧ sameP S st [d, x] ds ∧ x ≠ d ∧ (S.m x).isSome = true ∧ st.m x = some .junk ∧ upOk T ds x outs.length = true ∧ noUp x ds outs = true) ∧ K idF st (outs ++ [(tkM (st.t d) x, st.m d)])
  | _ => False
def dxop (E : Env) (T : List (List Nat)) (ds : List (Option Tmp)) (outs : List (AV × Option AV)) (mk : List Nat) (o : Oper) (K : (Nat → List Nat → Option (Nat × List Nat)) → ASt → List (AV × Option AV) → Prop) (S : ASt) : Prop := match o.dst, o.op, o.guard with
  | none, .store t x y, none => storeQ E.P t (S.ev x) (S.ev y) (dxS T ds outs mk S (fOf E.P t (S.ev x)) K) S
  | some d, .call { callee := .builtin .append, args := ⟨[x, y]⟩, argTypes := ⟨[t, t']⟩ }, none => (d < E.nt ∧ t' = t) ∧ appQ E.P t (S.ev x) (S.ev y) (dxA T ds outs mk S d K) S d
  | _, _, _ => False
def dqA (E : Env) (da : List (Option Tmp)) (T : List (List Nat)) (s : ASt) (ds : List (Option Tmp)) (K : List (AV × Option AV) → Prop) : List Oper → List (AV × Option AV) → Prop
  | [] => K
  | o :: rest => fun outs => dstep E da T ds o outs (dqA E da T s ds K rest) (SV s ds outs (memB (T.getD outs.length [])))
/-- Those ahead of it in the text that may come behind it. -/
def dqC (E : Env) (da : List (Option Tmp)) (T : List (List Nat)) (s1 : ASt) (ds : List (Option Tmp)) (ix : Nat) (outs : List (AV × Option AV)) : List Oper → Nat → Prop
  | [], _ => True
  | o :: rest, i => (if memB (T.getD ix []) i = true then True else dstep E da T ds o (outs.take i) (fun o' => o' = outs.take (i + 1)) (SV s1 ds (outs.take i) (memB (T.getD i [])))) ∧ dqC E da T s1 ds ix outs rest (i + 1)
def dqB (E : Env) (da : List (Option Tmp)) (T : List (List Nat)) (s s1 : ASt) (ds : List (Option Tmp)) (ix : Nat) (K : List (AV × Option AV) → Prop) : List Oper → List (AV × Option AV) → Prop
  | [] => K
  | o :: rest => fun outs => if memB (T.getD outs.length []) ix = true then dstep E da T ds o outs (dqB E da T s s1 ds ix K rest) (SV s1 ds outs (memB (T.getD outs.length []))) else
      dstep E da T ds o outs (fun outs1 => dstep E da T ds o outs (fun outs2 => outs2 = outs1) (SV s1 ds outs (memB (T.getD outs.length []))) ∧ dqB E da T s s1 ds ix K rest outs1) (SV s ds outs (memB (T.getD outs.length [])))
def fixP (T : List (List Nat)) (ix : Nat) (f : Nat → List Nat → Option (Nat × List Nat)) : List (AV × Option AV) → Nat → Prop
  | [], _ => True
  | e :: l, i => (if i = ix then True else if memB (T.getD i []) ix = true then True else (outV e.1).mapRef f = outV e.1) ∧ fixP T ix f l (i + 1)
def dqx3 (E : Env) (da : List (Option Tmp)) (T : List (List Nat)) (s : ASt) (ds : List (Option Tmp)) (ix : Nat) (tail : ASt → Prop) (pre rest : List Oper) (f : Nat → List Nat → Option (Nat × List Nat)) (st : ASt) (outs : List (AV × Option AV)) : Prop :=
  dqC E da T (base1 s st f) ds ix outs pre 0 ∧ dqB E da T s (base1 s st f) ds ix (fun outs => fixP T ix f outs 0 ∧ tail (SV (base1 s st f) ds outs fun _ => true)) rest outs
def dqx2 (E : Env) (da : List (Option Tmp)) (T : List (List Nat)) (s : ASt) (ds : List (Option Tmp)) (ix : Nat) (mk : List Nat) (tail : ASt → Prop) (pre : List Oper) (outs : List (AV × Option AV)) : List Oper → Prop
  | [] => False
  | o :: rest => dxop E T ds outs mk o (dqx3 E da T s ds ix tail pre rest) (SV s ds outs (memB (T.getD outs.length [])))
def dqX (E : Env) (da : List (Option Tmp)) (T : List (List Nat)) (s : ASt) (ds : List (Option Tmp)) (ix : Nat) (mk : List Nat) (tail : ASt → Prop) (l : List Oper) : Prop :=
  dqA E da T s ds (fun outs => dqx2 E da T s ds ix mk tail (l.take ix) outs (l.drop ix)) (l.take ix) []

theorem XOk.ext {E : Env} {T : List (List Nat)} {s s1 : ASt} {ds : List (Option Tmp)} {outs outs' : List (AV × Option AV)} {f : Nat → List Nat → Option (Nat × List Nat)} {k : Nat} {o : Oper} (he : ∀ i, i ≤ k → outs[i]? = outs'[i]?) (hT : ∀ j ∈ T.getD k [], j < k) (hk : k < outs.length)
    (h : XOk E T s s1 ds outs f k o) : XOk E T s s1 ds outs' f k o := by
  have hS : SV s ds outs (T.getD k []).contains = SV s ds outs' (T.getD k []).contains := by
    have h1 : SV s ds (outs.take (k + 1)) (T.getD k []).contains = SV s ds outs (T.getD k []).contains :=
      SV.pre (fun i hi => by rw [List.getElem?_take]; rw [List.length_take] at hi; rw [if_pos (by omega)]) (fun i hi => by
        have := hT i (by simpa using hi); rw [List.length_take]; omega)
    have h2 : SV s ds (outs.take (k + 1)) (T.getD k []).contains = SV s ds outs' (T.getD k []).contains :=
      SV.pre (fun i hi => by rw [List.length_take] at hi; rw [List.getElem?_take, if_pos (by omega)]; exact (he i (by omega)).symm) (fun i hi => by
        have := hT i (by simpa using hi); rw [List.length_take]; omega)
    exact h1.symm.trans h2
  have hU : ∀ x, (∀ j T'', j < k → ¬ IsU ds outs x j T'') → ∀ j T'', j < k → ¬ IsU ds outs' x j T'' := fun x h j T'' hj hu => h j T'' hj ((IsU.pre (he j (by omega))).2 hu)
  obtain ⟨s2, v, mo, h1, h2, h3, h4⟩ := h
  rw [hS] at h2
  rw [hS, he k (Nat.le_refl _)] at h4
  refine ⟨s2, v, mo, h1, h2, h3, ?_⟩
  rcases h4 with h | ⟨d, x, Tn, a1, a2, a3, a4, a5, a6, a7, a8, a9, a10⟩ | h | ⟨x, T', a1, a2, a3, a4, a5, a6, a7⟩ | ⟨xs, Ts, a1, a2, a3, a4, a5⟩
  · exact .inl h
  · exact .inr (.inl ⟨d, x, Tn, a1, a2, a3, a4, a5, a6, a7, a8, hU x a9, a10⟩)
  · exact .inr (.inr (.inl h))
  · exact .inr (.inr (.inr (.inl ⟨x, T', a1, a2, a3, a4, a5, hU x a6, a7⟩)))
  · exact .inr (.inr (.inr (.inr ⟨xs, Ts, a1, a2, a3, fun x T' hx => ⟨(a4 x T' hx).1, (a4 x T' hx).2.1, (a4 x T' hx).2.2.1, hU x (a4 x T' hx).2.2.2⟩, a5⟩)))
section
variable {E : Env} {K : List (AV × Option AV) → Prop} {s s1 st S : ASt} {da ds : List (Option Tmp)} {T : List (List Nat)} {tail : ASt → Prop} {outs : List (AV × Option AV)} {o : Oper} {rest pre l : List Oper} {ix i r : Nat} {mk : List Nat} {f : Nat → List Nat → Option (Nat × List Nat)} {ex : List Nat}
  {k3 : (Nat → List Nat → Option (Nat × List Nat)) → ASt → List (AV × Option AV) → Prop}
theorem dqX_def : dqX E da T s ds ix mk tail l = dqA E da T s ds (fun outs => dqx2 E da T s ds ix mk tail (l.take ix) outs (l.drop ix)) (l.take ix) [] := nrfl rfl
theorem dqA_nil : dqA E da T s ds K [] outs = K outs := nrfl rfl
theorem dqA_cons : dqA E da T s ds K (o :: rest) outs = dstep E da T ds o outs (dqA E da T s ds K rest) (SV s ds outs (memB (T.getD outs.length []))) := nrfl rfl
theorem dqx2_cons : dqx2 E da T s ds ix mk tail pre outs (o :: rest) = dxop E T ds outs mk o (dqx3 E da T s ds ix tail pre rest) (SV s ds outs (memB (T.getD outs.length []))) := nrfl rfl
theorem dqx3_def : dqx3 E da T s ds ix tail pre rest f st outs = (dqC E da T (base1 s st f) ds ix outs pre 0 ∧ dqB E da T s (base1 s st f) ds ix (fun outs => fixP T ix f outs 0 ∧ tail (SV (base1 s st f) ds outs fun _ => true)) rest outs) := nrfl rfl
theorem dqC_nil : dqC E da T s1 ds ix outs [] i = True := nrfl rfl
theorem dqC_cons : dqC E da T s1 ds ix outs (o :: rest) i = ((if memB (T.getD ix []) i = true then True else dstep E da T ds o (outs.take i) (fun o' => o' = outs.take (i + 1)) (SV s1 ds (outs.take i) (memB (T.getD i [])))) ∧ dqC E da T s1 ds ix outs rest (i + 1)) := nrfl rfl
theorem dqB_nil : dqB E da T s s1 ds ix K [] outs = K outs := nrfl rfl
theorem dqB_cons : dqB E da T s s1 ds ix K (o :: rest) outs = (if memB (T.getD outs.length []) ix = true then dstep E da T ds o outs (dqB E da T s s1 ds ix K rest) (SV s1 ds outs (memB (T.getD outs.length []))) else
      dstep E da T ds o outs (fun outs1 => dstep E da T ds o outs (fun outs2 => outs2 = outs1) (SV s1 ds outs (memB (T.getD outs.length []))) ∧ dqB E da T s s1 ds ix K rest outs1) (SV s ds outs (memB (T.getD outs.length [])))) := nrfl rfl
theorem fixP_nil : fixP T ix f [] i = True := nrfl rfl
theorem fixP_cons {e : AV × Option AV} {l : List (AV × Option AV)} : fixP T ix f (e :: l) i = ((if i = ix then True else if memB (T.getD i []) ix = true then True else (outV e.1).mapRef f = outV e.1) ∧ fixP T ix f l (i + 1)) := nrfl rfl
theorem sameP_nil : sameP S st ex [] = True := nrfl rfl
theorem sameP_none {l : List (Option Tmp)} : sameP S st ex (none :: l) = sameP S st ex l := nrfl rfl
theorem sameP_some {l : List (Option Tmp)} : sameP S st ex (some r :: l) = ((if memB ex r = true then True else st.m r = S.m r) ∧ sameP S st ex l) := nrfl rfl
theorem dxS_none : dxS T ds outs [] S f k3 st = (sameP S st [] ds ∧ k3 f st (outs ++ [(.junk, none)])) := nrfl rfl
theorem dxS_some {x : Nat} {l : List Nat} : dxS T ds outs (x :: l) S f k3 st = ((sameP S st (x :: l) ds ∧ allUp T ds outs S (x :: l)) ∧ dxL f st k3 outs (ptrsC (x :: l)) (getMs st (x :: l))) := nrfl rfl
theorem allUp_nil : allUp T ds outs S [] = True := nrfl rfl
theorem allUp_cons {x : Nat} {l : List Nat} : allUp T ds outs S (x :: l) = (((S.m x).isSome = true ∧ upOk T ds x outs.length = true ∧ noUp x ds outs = true) ∧ allUp T ds outs S l) := nrfl rfl
theorem ptrsC_nil : ptrsC [] = [] := nrfl rfl
theorem ptrsC_cons {x : Nat} {l : List Nat} : ptrsC (x :: l) = .ptr x [] 0 :: ptrsC l := nrfl rfl
theorem getMs_nil : getMs st [] = some [] := nrfl rfl
theorem getMs_cons {x : Nat} {l : List Nat} : getMs st (x :: l) = (match st.m x with
    | some T => (getMs st l).map (T :: ·)
    | none => none) := nrfl rfl
theorem dxL_some {ps Ts : List AV} : dxL f st k3 outs ps (some Ts) = k3 f st (outs ++ [(.tup ps, some (.tup Ts))]) := nrfl rfl
theorem dxA_none {d : Nat} : dxA T ds outs [] S d k3 st = ((okV ds (T.getD outs.length []) outs.length (st.t d) = true ∧ tkV (st.t d) = none ∧ sameP S st [d] ds) ∧ k3 idF st (outs ++ [(st.t d, st.m d)])) := nrfl rfl
theorem dxA_some {d x : Nat} : dxA T ds outs [x] S d k3 st = ((okV ds (T.getD outs.length []) outs.length (st.t d) = true ∧ sameP S st [d, x] ds ∧ x ≠ d ∧ (S.m x).isSome = true ∧ st.m x = some .junk ∧ upOk T ds x outs.length = true ∧ noUp x ds outs = true) ∧ k3 idF st (outs ++ [(tkM (st.t d) x, st.m d)])) := nrfl rfl
theorem dx_store {xt : TypeId} {x y : Operand} {t : TypeId} {pos : String} {after : Array Edge} : dxop E T ds outs mk ⟨none, .store xt x y, t, pos, after, none⟩ k3 S = storeQ E.P xt (S.ev x) (S.ev y) (dxS T ds outs mk S (fOf E.P xt (S.ev x)) k3) S := nrfl rfl
theorem dx_app {d : Tmp} {x y : Operand} {xt xt' t : TypeId} {pos : String} {after : Array Edge} : dxop E T ds outs mk ⟨some d, .call { callee := .builtin .append, args := #[x, y], argTypes := #[xt, xt'] }, t, pos, after, none⟩ k3 S = ((d < E.nt ∧ xt' = xt) ∧ appQ E.P xt (S.ev x) (S.ev y) (dxA T ds outs mk S d k3) S d) := nrfl rfl
theorem base1_t : (base1 s st f).t i = (s.t i).mapRef f := nrfl rfl
theorem base1_m : (base1 s st f).m r = match s.m r with | some _ => st.m r | none => none := nrfl rfl
theorem fOf_ptr {P : Program} {t : TypeId} {p : List Nat} {o : Nat} : fOf P t (.ptr r p o) = killR r p o (szN P t) := nrfl rfl
variable {next : List (AV × Option AV) → Prop}
theorem dst_none {d : Tmp} {op : Op} {t : TypeId} {pos : String} {after : Array Edge} : dstep E da T ds ⟨some d, op, t, pos, after, none⟩ outs next S = dq1 E ⟨some d, op, t, pos, after, none⟩ (dnx T ds outs.length d outs next) S := nrfl rfl
theorem dst_some {d : Tmp} {op : Op} {t : TypeId} {pos : String} {after : Array Edge} {j : Nat} {b : Bool} : dstep E da T ds ⟨some d, op, t, pos, after, some (j, b)⟩ outs next S = match da[j]? with
    | some (some d') => GD E (S.t d') b ⟨some d, op, t, pos, after, some (j, b)⟩ (dnx T ds outs.length d outs next) S
    | _ => False := nrfl rfl
theorem dst_store {xt : TypeId} {x y : Operand} {t : TypeId} {pos : String} {after : Array Edge} : dstep E da T ds ⟨none, .store xt x y, t, pos, after, none⟩ outs next S = dstoreQ E.P xt (S.ev x) (S.ev y) T ds outs next S := nrfl rfl
end

end Go.Av
end
section
set_option linter.unusedSimpArgs false
set_option linter.unusedVariables false
/-! What a call gives back, however many results it has; places that were lent to it. -/
namespace Go.Av
def regsQ : List AV → Nat → ASt → Prop
  | [], _, _ => True
  | a :: l, r, s => s.m r = some a ∧ regsQ l (r + 1) s
theorem regsQ_at : ∀ {l : List AV} {r : Nat} {s : ASt}, regsQ l r s → ∀ j, j < l.length → s.m (r + j) = l[j]?
  | [], r, s, h, j, hj => by simp at hj
  | a :: l, r, s, h, 0, hj => by simp only [regsQ] at h; simpa using h.1
  | a :: l, r, s, h, j + 1, hj => by
    simp only [regsQ] at h
    have := regsQ_at h.2 j (by simpa using hj)
    rw [show r + (j + 1) = r + 1 + j by omega, this]; simp
theorem regsQ_ok {m' : List AV} {s : ASt} (h : regsQ m' 1000 s) : regsOk m' s := fun j hj => regsQ_at h j hj
def rvQ (P : Program) (s : ASt) (k : List AV → Prop) : List ResultVar → List AV → Prop
  | [], acc => k acc
  | x :: l, acc => match rview P s x with
    | some v => rvQ P s k l (acc ++ [v])
    | none => False
def retXCq (res : AV) (m' : List AV) : Option (AV × ASt) → Prop
  | some (A, s') => A = res ∧ regsQ m' 1000 s'
  | none => False
def retXq1 (s : ASt) (res : AV) (m' : List AV) : Option AV → Prop
  | some v => retXCq res m' (closeV s v)
  | none => False
theorem retX_p1 {E : Env} {fn : Func} {res : AV} {m' : List AV} {s : ASt} {x : ResultVar} (hr : fn.results = #[x]) (h : retXq1 s res m' (rview E.P s x)) : RetX E fn res m' s := by
  refine retX_q1 hr ?_
  unfold retXq1 at h
  split at h
  · rename_i v hv
    rw [hv]
    unfold retXCq at h
    split at h
    · rename_i A s' hc
      simp only [retX1, hc, retXC]
      exact ⟨h.1, regsQ_ok h.2⟩
    · exact h.elim
  · exact h.elim
def retXCsq (res : List AV) (m' : List AV) : Option (List AV × ASt) → Prop
  | some (A, s') => A = res ∧ regsQ m' 1000 s'
  | none => False
section
variable {P : Program} {s : ASt} {k : List AV → Prop} {l : List ResultVar} {acc : List AV} {a : AV} {r : Nat} {m' : List AV}
theorem rvQ_nil : rvQ P s k [] acc = k acc := nrfl rfl
theorem rvQ_tmp {t : Nat} : rvQ P s k (.tmp t :: l) acc = rvQ P s k l (acc ++ [s.t t]) := nrfl rfl
theorem rvQ_cell {t : Nat} {ty : TypeId} : rvQ P s k (.cell t ty :: l) acc = (match viewOf P ty s (s.t t) with
    | some v => rvQ P s k l (acc ++ [v])
    | none => False) := nrfl rfl
theorem regsQ_nil : regsQ [] r s = True := nrfl rfl
theorem regsQ_cons : regsQ (a :: m') r s = (s.m r = some a ∧ regsQ m' (r + 1) s) := nrfl rfl
end
end Go.Av
end
section
set_option linter.unusedSimpArgs false
set_option linter.unusedVariables false
/-! Calls of functions for which the model stands in. -/
namespace Go.Av
def ExtV (P : Program) (f : FuncId) (vs : List Value) (v : Value) : Prop := ∀ w, (callFunc f vs.toArray).run P w = .ok (.value v) w
theorem q_ext {E : Env} {s : ASt} {d : Nat} {t : TypeId} {pos : String} {after : Array Edge} {g : Option (Nat × Bool)} {fo : Operand} {f : FuncId} {xs : List Operand} {ts : Array TypeId} {vs : List Value} {v : Value} (hn : d < E.nt) (hx : ExtV E.P f vs v) (hf : s.ev fo = .fn f [])
    (ha : xs.map s.ev = vs.map .lit) : QJ E ⟨some d, .call { callee := .value fo, args := xs.toArray, argTypes := ts }, t, pos, after, g⟩ s (.lit v) none :=
  .val rfl hn fun s' M G a w hle hX => by
    have hfv := hX.evLe hle fo
    rw [hf] at hfv
    have hargs : xs.map a.eval = vs := by
      refine List.ext_getElem? (fun i => ?_)
      have hi : (xs.map s.ev)[i]? = (vs.map AV.lit)[i]? := by rw [ha]
      rw [List.getElem?_map, List.getElem?_map] at hi
      rw [List.getElem?_map]
      cases hx' : xs[i]? with
      | none => rw [hx'] at hi; cases hv' : vs[i]? with
        | none => rfl
        | some u => rw [hv'] at hi; simp at hi
      | some x => rw [hx'] at hi; cases hv' : vs[i]? with
        | none => rw [hv'] at hi; simp at hi
        | some u =>
          rw [hv'] at hi
          simp only [Option.map_some, Option.some.injEq] at hi ⊢
          exact hX.lit hle hi
    generalize hfe : a.eval fo = fv at hfv
    cases hfv with
    | fn _ _ us hul huv =>
      have hus : us = [] := List.eq_nil_of_length_eq_zero (by simpa using hul)
      subst hus
      refine ⟨v, w, ?_, Ext.refl _ _, .lit v⟩
      simp [execOp, resolve, hfe, Deferred.ofValue, invoke, hargs, hx w]
theorem cq_ext {P : Program} {G0 X : Nat → Prop} {w0 : World} {nt : Nat} {pv : Nat → Option Value} {s : ASt} {R : ASt → Prop} {d : Nat} {t : TypeId} {pos : String} {after : Array Edge} {g : Option (Nat × Bool)} {fo : Operand} {xs : List Operand} {ts : Array TypeId} {f : FuncId} {vs : List Value} {v : Value}
    (hx : ExtV P f vs v) (h : (s.ev fo = .fn f [] ∧ xs.map s.ev = vs.map .lit ∧ d < nt) ∧ R (s.set d (.lit v))) :
    opq ⟨P, G0, X, w0, nt, pv⟩ ⟨some d, .call { callee := .value fo, args := xs.toArray, argTypes := ts }, t, pos, after, g⟩ R s :=
  LJ.of_q (q_ext (E := ⟨P, G0, X, w0, nt, pv⟩) h.1.2.2 hx h.1.1 h.1.2.1) h.2
/-- How two texts stand to each other: -1, 0, 1. -/
def cmpB (a b : ByteArray) : Int := Lib.compareBytes a.data.toList b.data.toList
theorem ext_cmp {P : Program} {f : FuncId} {fn : Func} (hf : P.funcs[f]? = some fn) (hname : (fn.name == "runtime.NumGoroutine") = false) (hb : fn.body.isNone = true) (hn : Extern.findNext fn = none) (he : Extern.find fn = some Extern.BytealgCompare.compare) (a b : ByteArray) :
    ExtV P f [.string a, .string b] (.int .i64 (cmpB a b)) := fun w => by
  rw [run_callFunc_extern hf hname hb hn he, Lib.run_compareString]; rfl
end Go.Av
end
section
set_option linter.unusedSimpArgs false
set_option linter.unusedVariables false
/-! What printed functions are made of, and the loop's rule for printed walks. -/
namespace Go.Av
/-- An element, or nothing: where the program would panic. -/
def idx {α : Type} (l : List α) (j : Int) : Option α := if 0 ≤ j then l[j.toNat]? else none
theorem idx_lo {α : Type} {l : List α} {j : Int} {x : α} (h : idx l j = some x) : 0 ≤ j := by
  unfold idx at h; split at h
  · assumption
  · cases h
theorem idx_get {α : Type} {l : List α} {j : Int} {x : α} (h : idx l j = some x) : l[j.toNat]? = some x := by
  unfold idx at h; split at h
  · assumption
  · cases h
theorem idx_hi {α : Type} {l : List α} {j : Int} {x : α} (h : idx l j = some x) : j < l.length := by
  have h1 := idx_lo h
  have := (List.getElem?_eq_some_iff.1 (idx_get h)).1
  omega
theorem idx_of {α : Type} {l : List α} {i : Nat} (h : i < l.length) : idx l (i : Int) = some l[i] := by
  unfold idx; rw [if_pos (by omega), Int.toNat_natCast]; exact List.getElem?_eq_getElem h
/-- A byte of a text. -/
def bidx (s : ByteArray) (j : Int) : Option Int := if 0 ≤ j ∧ j < s.size then some (byteAt s j) else none
theorem bidx_ok {s : ByteArray} {j x : Int} (h : bidx s j = some x) : (0 ≤ j ∧ j < s.size) ∧ byteAt s j = x := by
  unfold bidx at h; split at h
  · cases h; exact ⟨by assumption, rfl⟩
  · cases h
/-- How a printed loop ends: the function comes back, or the loop is left. -/
inductive LR (ρ σ : Type) where
  | ret (r : ρ)
  | out (s : σ)
/-- A part of a text. -/
def bslc (s : ByteArray) (a b : Int) : Option ByteArray := if 0 ≤ a ∧ a ≤ b ∧ b ≤ s.size then some (s.extract a.toNat b.toNat) else none
theorem bslc_ok {s m : ByteArray} {a b : Int} (h : bslc s a b = some m) : (0 ≤ a ∧ a ≤ b ∧ b ≤ s.size) ∧ s.extract a.toNat b.toNat = m := by
  unfold bslc at h
  split at h
  · rename_i c; exact ⟨c, by simpa using h⟩
  · cases h
theorem drop_cons {α : Type} {l rest : List α} {x : α} {i : Nat} (h : l.drop i = x :: rest) : i < l.length ∧ l[i]? = some x ∧ l.drop (i + 1) = rest := by
  have hi : i < l.length := by
    rcases Nat.lt_or_ge i l.length with g | g
    · exact g
    · rw [List.drop_of_length_le g] at h; cases h
  rw [List.drop_eq_getElem_cons hi] at h
  injection h with h1 h2
  exact ⟨hi, by rw [List.getElem?_eq_getElem hi, h1], h2⟩
theorem drop_nil {α : Type} {l : List α} {i : Nat} (h : l.drop i = []) : l.length ≤ i := by
  have := congrArg List.length h
  simp at this; omega
theorem drop_enc {α : Type} {enc : α → List AV} {sz : Nat} {l : List α} {x : α} {i : Nat} (hs : ∀ x, (enc x).length = sz) (h : l[i]? = some x) : (l.flatMap enc).drop (i * sz) = enc x ++ (l.drop (i + 1)).flatMap enc := by
  obtain ⟨hi, rfl⟩ := List.getElem?_eq_some_iff.1 h
  rw [flat_drop i (fun y _ => hs y), List.drop_eq_getElem_cons hi]; rfl
theorem get_enc {α : Type} {enc : α → List AV} {sz : Nat} {l : List α} {x : α} {i : Nat} (hs : ∀ x, (enc x).length = sz) (h : l[i]? = some x) {j : Nat} (hj : j < sz) : (l.flatMap enc)[i * sz + j]? = (enc x)[j]? := by
  obtain ⟨hi, rfl⟩ := List.getElem?_eq_some_iff.1 h
  exact flat_get (fun y _ => hs y) hi hj

/-- A state of which less is known. -/
def Weak (s s' : ASt) : Prop := ∀ E a w, Rel E s a w → Rel E s' a w
theorem Weak.refl (s : ASt) : Weak s s := fun _ _ _ h => h
theorem Weak.trans {a b c : ASt} (h : Weak a b) (k : Weak b c) : Weak a c := fun E x w hr => k E x w (h E x w hr)
def Back {ι : Type} (I : ι → ASt → Prop) (mu : ι → Nat) (i : ι) (s : ASt) : Prop := ∃ j s', Weak s s' ∧ I j s' ∧ mu j < mu i
theorem Back.intro {ι : Type} {I : ι → ASt → Prop} {mu : ι → Nat} {i : ι} {s : ASt} (j : ι) (hm : mu j < mu i) (h : I j s) : Back I mu i s := ⟨j, s, Weak.refl s, h, hm⟩
theorem beq_yes {a b : Int} (h : a = b) : (a == b) = true ∧ (a != b) = false ∧ decide (a = b) = true := by subst h; simp
theorem beq_no {a b : Int} (h : ¬ a = b) : (a == b) = false ∧ (a != b) = true ∧ decide (a = b) = false := by simp [h]
theorem eq_false_of_ne_true {b : Bool} (h : ¬ b = true) : b = false := by simpa using h
theorem getD_enc {α : Type} {enc : α → List AV} {sz : Nat} {l : List α} {x : α} {i : Nat} (hs : ∀ x, (enc x).length = sz) (h : l[i]? = some x) {j : Nat} (hj : j < sz) : (l.flatMap enc).getD (i * sz + j) .junk = (enc x).getD j .junk := by
  rw [List.getD_eq_getElem?_getD, get_enc hs h hj, ← List.getD_eq_getElem?_getD]
theorem set_enc {α : Type} {enc : α → List AV} {sz : Nat} {l : List α} {x y : α} {i : Nat} (hs : ∀ x, (enc x).length = sz) (h : l[i]? = some x) {j : Nat} (hj : j < sz) {v : AV} (he : (enc x).set j v = enc y) : (l.flatMap enc).set (i * sz + j) v = (l.set i y).flatMap enc := by
  obtain ⟨hi, rfl⟩ := List.getElem?_eq_some_iff.1 h
  exact flat_set (fun y _ => hs y) (hs y) hi j hj v he
mutual
def AV.fitN : AV → Prop
  | .row _ _ n _ => n ≤ 9223372036854775807
  | .agg cs => AV.fitNs cs
  | _ => True
def AV.fitNs : List AV → Prop
  | [] => True
  | c :: r => c.fitN ∧ AV.fitNs r
end
theorem fitNs_of {cs : List AV} (h : ∀ (i : Nat) (a : AV), cs[i]? = some a → a.fitN) : AV.fitNs cs := by
  induction cs with
  | nil => simp [AV.fitNs]
  | cons c r ih => exact ⟨h 0 c rfl, ih (fun i a hi => h (i + 1) a (by simpa using hi))⟩
theorem VR.fitN {w : World} {G : Nat → Prop} {m : Nat → Option HT} {a : AV} {v : Value} (h : VR w G m a v) : a.fitN := by
  induction h with
  | row0 sz A c => simp [AV.fitN]
  | row sz n c b off cs us C e fr h1 h2 h3 h4 h5 => simpa [AV.fitN] using h5
  | agg cs us hl _ ih =>
    simp only [AV.fitN]
    exact fitNs_of (fun i a hi => ih i a (us[i]'(by rw [hl]; exact (List.getElem?_eq_some_iff.1 hi).1)) hi (List.getElem?_eq_getElem _))
  | _ => simp [AV.fitN]
/-- What a call is handed is no longer than memory can be. -/
theorem Does.bnd {P : Program} {f : FuncId} {args : List AV} {res : AV} (h : AV.fitNs args → Does P f args res) : Does P f args res := fun w G vs hG hl hv =>
  h (fitNs_of (fun i a hi => (hv i a (vs[i]'(by rw [hl]; exact (List.getElem?_eq_some_iff.1 hi).1)) hi (List.getElem?_eq_getElem _)).fitN)) w G vs hG hl hv
/-- A part of a list, or nothing. -/
def slc {α : Type} (l : List α) (a b : Int) : Option (List α) := if 0 ≤ a ∧ a ≤ b ∧ b ≤ l.length then some ((l.drop a.toNat).take (b.toNat - a.toNat)) else none
theorem getD_enc0 {α : Type} {enc : α → List AV} {sz : Nat} {l : List α} {x : α} {i : Nat} (hs : ∀ x, (enc x).length = sz) (h : l[i]? = some x) (hj : 0 < sz) : (l.flatMap enc).getD (i * sz) .junk = (enc x).getD 0 .junk := getD_enc hs h (j := 0) hj
/-- A list of zeros, or nothing. -/
def mkl {α : Type} (n : Int) (z : α) : Option (List α) := if 0 ≤ n ∧ n ≤ 4294967296 then some (List.replicate n.toNat z) else none
/-- Where a printed loop is left. -/
def JW (J : ASt → Prop) (s : ASt) : Prop := ∃ s', Weak s s' ∧ J s'
theorem JW.intro {J : ASt → Prop} {s : ASt} (h : J s) : JW J s := ⟨s, Weak.refl s, h⟩
def cutK (id : Nat) (J : ASt → Prop) (K : AX → ASt → Prop) : AX → ASt → Prop
  | .ex i, s => if i = id then JW J s else K (.ex i) s
  | e, s => K e s
theorem cutK_ex {id i : Nat} {J : ASt → Prop} {K : AX → ASt → Prop} {s : ASt} : cutK id J K (.ex i) s = if i = id then JW J s else K (.ex i) s := nrfl rfl
theorem cutK_rt {id : Nat} {J : ASt → Prop} {K : AX → ASt → Prop} {s : ASt} : cutK id J K .rt s = K .rt s := nrfl rfl
theorem cutK_nm {id : Nat} {J : ASt → Prop} {K : AX → ASt → Prop} {s : ASt} : cutK id J K .nm s = K .nm s := nrfl rfl
section
variable {P : Program} {G0 X : Nat → Prop} {w0 : World} {nt : Nat} {pv : Nat → Option Value} {K : AX → ASt → Prop} {s : ASt}
theorem aw_loopB {E : Env} {c : Code} {ι : Type} (I : ι → ASt → Prop) (mu : ι → Nat) (i : ι) (h0 : I i s)
    (round : ∀ i s, I i s → aw E c (thenK (Back I mu i) K) s) : aw E (.loop c) K s := by
  refine AWP.loop (fun i s => ∃ s', Weak s s' ∧ I i s') mu i ⟨s, Weak.refl s, h0⟩ (fun i s ⟨s', hw, hI⟩ a w hr => ?_)
  have h := aw_sound (round i s' hI) a w (hw _ _ _ hr)
  refine wp_mono h (fun e a' w' hp => ?_)
  cases e with
  | normal => obtain ⟨s1, h1, j, s2, h2, h3, h4⟩ := hp; exact ⟨s1, h1, j, ⟨s2, h2, h3⟩, h4⟩
  | _ => exact hp
theorem aw_loopC {E : Env} {c : Code} {ι : Type} {id : Nat} {K : AX → ASt → Prop} {s : ASt} (I : ι → ASt → Prop) (mu : ι → Nat) (J : ASt → Prop) (i : ι) (h0 : I i s)
    (round : ∀ i s, I i s → aw E c (thenK (Back I mu i) (cutK id J (blockK id K))) s) (h2 : ∀ σ, J σ → K .nm σ) : aw E (.loop c) (blockK id K) s := by
  intro a w hr
  refine wp_mono (aw_loopB I mu i h0 round a w hr) (fun e a' w' hp => ?_)
  cases e with
  | exit j =>
    obtain ⟨s1, h1, h3⟩ := hp
    simp only [cutK] at h3
    split at h3
    · rename_i e
      obtain ⟨s2, h4, h5⟩ := h3
      exact ⟨s2, h4 _ _ _ h1, by simp only [blockK, e, if_true]; exact h2 s2 h5⟩
    · exact ⟨s1, h1, h3⟩
  | _ => exact hp
end
theorem cntL_k {α : Type} {c : α → Nat} {K : Nat} (h : ∀ x, c x = K) : ∀ l : List α, cntL c l = K * l.length
  | [] => by simp [cntL]
  | x :: r => by simp only [cntL, h x, cntL_k h r, List.length_cons, Nat.mul_succ]; omega

theorem len3 {α : Type} {l : List α} {x y z : AV} (h : l.length = [x, y, z].length) : ∃ a b c, l = [a, b, c] := by
  match l, h with
  | [a, b, c], _ => exact ⟨a, b, c, rfl⟩
def regsAt (s : ASt) : Nat → List AV → Prop
  | _, [] => True
  | k, a :: l => s.m k = some a ∧ regsAt s (k + 1) l
theorem regsAt_get {s : ASt} : ∀ (m : List AV) (k j : Nat), regsAt s k m → j < m.length → s.m (k + j) = m[j]?
  | a :: l, k, 0, h, _ => by simpa using h.1
  | a :: l, k, j + 1, h, hj => by
    have := regsAt_get l (k + 1) j h.2 (by simpa using hj)
    rw [show k + (j + 1) = k + 1 + j by omega, this]; simp
theorem regsOk_of {m : List AV} {s : ASt} (h : regsAt s 1000 m) : regsOk m s := fun j hj => regsAt_get m 1000 j h hj
theorem regsAt_nil {s : ASt} {k : Nat} : regsAt s k [] = True := rfl
theorem regsAt_cons {s : ASt} {k : Nat} {a : AV} {l : List AV} : regsAt s k (a :: l) = (s.m k = some a ∧ regsAt s (k + 1) l) := rfl
/-- An own row is no longer than memory can be. -/
theorem aw_bnd {E : Env} {c : Code} {K : AX → ASt → Prop} {s : ASt} {r sz n : Nat} {p : List Nat} {cs : List AV} (hm : nodeOf s r p = some (.row true sz n cs)) (h : n ≤ 9223372036854775807 → aw E (.loop c) K s) : aw E (.loop c) K s := by
  intro a w hr
  refine h ?_ a w hr
  obtain ⟨M, G, hX⟩ := hr
  obtain ⟨T, N, _, _, h3, _, h5⟩ := nodeOf_spec hX hm
  cases h5 with
  | row b sz' n' cap cs' C e g1 g2 g3 g4 g5 g6 =>
    simp only [HT.erase, AV.row.injEq, true_and] at h3
    omega
  | nilrow sz' =>
    simp only [HT.erase, AV.row.injEq, true_and] at h3
    omega
  | leaf a v ha _ => simp only [HT.erase] at h3; subst h3; simp [AV.leafOk] at ha
  | _ => simp [HT.erase] at h3
theorem markL_idem {α : Type} {f : α → Int → α} {c : α → Nat} (hf : ∀ x k, f (f x k) k = f x k) (hc : ∀ x k, c (f x k) = c x) : ∀ (l : List α) (k : Int), markL f c (markL f c l k) k = markL f c l k
  | [], k => rfl
  | x :: r, k => by simp only [markL]; rw [hf, hc, markL_idem hf hc r]
theorem cntL_mark {α : Type} {f : α → Int → α} {c : α → Nat} (hc : ∀ x k, c (f x k) = c x) : ∀ (l : List α) (k : Int), cntL c (markL f c l k) = cntL c l
  | [], k => rfl
  | x :: r, k => by simp only [markL, cntL]; rw [hc, cntL_mark hc r]
theorem binS_sl {P : Program} {op : BinOp} {xt : TypeId} {r : Nat} {p : List Nat} {len : Nat} {R : ASt → Prop} {s : ASt} {d : Nat} : binS P op xt (.sl r p 0 len) (.lit (.slice none 0 0)) R s d = nilSl P op xt len R s d (nodeOf s r p) := nrfl rfl
theorem nilSl_row {P : Program} {op : BinOp} {xt : TypeId} {len sz n : Nat} {cs : List AV} {R : ASt → Prop} {s : ASt} {d : Nat} : nilSl P op xt len R s d (some (.row true sz n cs)) = ((((slT P xt).isSome = true ∧ op = .eql) ∧ len = n ∧ (n = 0 → sz = 0)) ∧ R (s.set d (.lit (.bool (decide (n = 0)))))) := nrfl rfl
end Go.Av
end
section
set_option linter.unusedSimpArgs false
set_option linter.unusedVariables false
/-! Within the room of a row of one's own: an append over its own cells, a slice beyond the length, 'clear'. -/
namespace Go.Av
theorem run_slCap {P : Program} (w : World) {t : TypeId} {sz : Nat} (ht : slT P t = some sz) (A : Option Addr) (len c : Nat) {low high : Option Value} {l h : Nat}
    (hl : (low = none ∧ l = 0) ∨ ∃ k, low = some (.int k l)) (hh : ∃ k, high = some (.int k h)) (h1 : l ≤ h) (h2 : h ≤ c) :
    (Instr.sliceAt t (.slice A len c) low high none).run P w = .ok (.slice (if c = l then A else A.map (·.add (l * sz))) (h - l) (c - l)) w := by
  obtain ⟨e, i, hu, hi, hs⟩ := slT_spec ht
  have hsz : (sizeOf e).run P w = .ok sz w := by simp [sizeOf, typeInfo, hi, hs]
  have b1 : ∀ k (y : Nat) code, l ≤ y → (Instr.sliceBound (.int k l) y code).run P w = .ok l w := fun k y code hy => by
    rw [run_sliceBound (P := P) w k l y code (by omega) (by omega)]; simp
  have b2 : ∀ k (y : Nat) code, h ≤ y → (Instr.sliceBound (.int k h) y code).run P w = .ok h w := fun k y code hy => by
    rw [run_sliceBound (P := P) w k h y code (by omega) (by omega)]; simp
  simp only [Instr.sliceAt, Instr.slice, Sem.run_bind, run_underlying hu, Result.andThen_ok, Instr.sliceBounds]
  obtain ⟨k', rfl⟩ := hh
  rcases hl with ⟨rfl, rfl⟩ | ⟨k, rfl⟩ <;> simp [b1, b2, h1, h2, hsz]
theorem run_sl3 {P : Program} (w : World) {t : TypeId} {sz : Nat} (ht : slT P t = some sz) (A : Option Addr) (len c : Nat) {low high max : Option Value} {l h m : Nat}
    (hl : (low = none ∧ l = 0) ∨ ∃ k, low = some (.int k l)) (hh : ∃ k, high = some (.int k h)) (hm : ∃ k, max = some (.int k m)) (h1 : l ≤ h) (h2 : h ≤ m) (h3 : m ≤ c) :
    (Instr.sliceAt t (.slice A len c) low high max).run P w = .ok (.slice (if m = l then A else A.map (·.add (l * sz))) (h - l) (m - l)) w := by
  obtain ⟨e, i, hu, hi, hs⟩ := slT_spec ht
  have hsz : (sizeOf e).run P w = .ok sz w := by simp [sizeOf, typeInfo, hi, hs]
  have b : ∀ k (x y : Nat) code, x ≤ y → (Instr.sliceBound (.int k x) y code).run P w = .ok x w := fun k x y code hy => by
    rw [run_sliceBound (P := P) w k x y code (by omega) (by omega)]; simp
  simp only [Instr.sliceAt, Instr.slice, Sem.run_bind, run_underlying hu, Result.andThen_ok, Instr.sliceBounds]
  obtain ⟨k', rfl⟩ := hh
  obtain ⟨k2, rfl⟩ := hm
  rcases hl with ⟨rfl, rfl⟩ | ⟨k, rfl⟩ <;> simp [b, h1, h2, h3, hsz]
theorem zc_list {z : Value} {zs : List Value} (h : z.cells.toList = zs) (n : Nat) (h0 : 0 < zs.length) : (Builtin.zeroCells z.cells n).toList = zCells zs n := by
  subst h
  unfold Builtin.zeroCells zCells
  refine List.ext_getElem (by simp) (fun i h1 h2 => ?_)
  have hm : i % z.cells.size < z.cells.size := Nat.mod_lt _ (by simpa using h0)
  simp [hm, List.getD]
theorem run_clearN {P : Program} (w : World) {t ty : TypeId} {zs : List Value} {by_ : Nat} (ht : zcT P t = some (zs, by_)) (h0 : 0 < zs.length) (ho : ∀ v ∈ zs, v.oneCell' = true) (b o n c : Nat) (hn : 0 < n)
    (hc : ∀ j, j < n * zs.length → (w.cell? ⟨b, o + j, none⟩).isSome = true) (hf : ∀ j, j < n * zs.length → w.frozen? ⟨b, o + j, none⟩ = false) :
    (Builtin.clear_ #[t] ty #[.slice (some ⟨b, o, none⟩) n c]).run P w = .ok (.tuple #[]) (w.setCells b o (zCells zs n)) := by
  obtain ⟨e, i, z, h1, h2, h3, h4, h5, h6, _⟩ := zcT_spec ht
  have hz := zc_list h4 n h0
  have hone : ∀ v ∈ zCells zs n, v.oneCell' = true := fun v hv => by
    simp only [zCells, List.mem_map, List.mem_range] at hv
    obtain ⟨j, hj, rfl⟩ := hv
    have hm : j % zs.length < zs.length := Nat.mod_lt _ h0
    rw [List.getD_eq_getElem?_getD, List.getElem?_eq_getElem hm]
    exact ho _ (List.getElem_mem _)
  have hl : (zCells zs n).length = n * zs.length := by simp [zCells]
  have hst := run_storeCells_cells (P := P) b o (zCells zs n) 0 w (by rw [hl]; simpa using hc) (by rw [hl]; simpa using hf) hone
  simp only [Nat.add_zero] at hst
  obtain ⟨m, rfl⟩ : ∃ m, n = m + 1 := ⟨n - 1, by omega⟩
  have hv : (zeroValue e).run P w = .ok z w := by simp [zeroValue, typeInfo, h2, h3]
  simp [Builtin.clear_, run_underlying h1, hv, hz, hst]
section
variable {E : Env} {s s1 : ASt} {d : Nat} {x y : Operand} {t ty xt : TypeId} {pos : String} {after : Array Edge} {g : Option (Nat × Bool)} {R : ASt → Prop}
theorem l_slCap {lo hi : Option Operand} {r len n : Nat} {p : List Nat} {cs : List AV} {sz : Nat} {l h : Int} (hn : d < E.nt) (ht : slT E.P xt = some sz) (hx : s.ev x = .sl r p 0 len) (hA : nodeOf s r p = some (.row true sz n cs)) (hl : len ≤ n)
    (h1 : bndQ s 0 lo = some l) (h2 : ∃ y, hi = some y ∧ bndQ s len hi = some h) (h3 : 0 ≤ l) (h4 : l ≤ h) (h5 : h ≤ n) (hR : R (s.set d (.sl r p l.toNat (h.toNat - l.toNat)))) :
    LJ E ⟨some d, .slice xt x lo hi none, t, pos, after, g⟩ s R :=
  LJ.of_q (v := .sl r p l.toNat (h.toNat - l.toNat)) (T := none) (.val rfl hn fun s' M G a w hle hX => by
    have hv := hX.evLe hle x
    rw [hx] at hv
    have hA' := hle.node hA
    obtain ⟨T, N, hM, hN, hNe, hsT, hsN⟩ := nodeOf_spec hX hA'
    have e1 := bnd_val hX hle h1 h3
    obtain ⟨y, rfl, h2⟩ := h2
    have e2 := bnd_val hX hle h2 (by omega)
    have e2' : ∃ k, a.eval y = .int k h.toNat := by
      rcases e2 with ⟨e, _⟩ | ⟨k, e⟩
      · cases e
      · exact ⟨k, by simpa using e⟩
    simp only [Int.toNat_zero] at e1
    have hln : l.toNat ≤ h.toNat := by omega
    have hhn : h.toNat ≤ n := by omega
    generalize hav : a.eval x = v at hv
    cases hv with
    | sl _ _ _ _ _ q q0 =>
      cases hsN with
      | row b sz' n' cap cs' C e g1 g2 g3 g4 g5 g6 g7 g8 =>
        simp only [HT.erase, AV.row.injEq, true_and] at hNe
        obtain ⟨rfl, rfl, _⟩ := hNe
        obtain ⟨A, c, rfl, q2, q3, q4, q5⟩ := q T hM b sz' n' cap cs' hN (by omega)
        obtain ⟨rfl, rfl⟩ := q5 rfl
        refine ⟨.slice (if c = l.toNat then some ⟨b, 0, none⟩ else (some ⟨b, 0, none⟩ : Option Addr).map (·.add (l.toNat * sz'))) (h.toNat - l.toNat) (c - l.toNat), w, ?_, Ext.refl _ _, ?_⟩
        · simp only [execOp, Sem.run_bind, hav]
          rw [show (none : Option Operand).map a.eval = none from rfl, run_slCap (P := E.P) w ht _ len c e1 (by obtain ⟨k, e⟩ := e2'; exact ⟨k, by simp [e]⟩) hln (by omega)]
          rfl
        · refine .sl _ _ _ _ _ (fun T' hT' b1 sz1 n1 cap1 cs1 hN1 hle1 => ?_) (fun T' hT' sz1 hN1 hle1 => ?_)
          · rw [hM] at hT'; cases hT'; rw [hN] at hN1; cases hN1
            refine ⟨_, _, rfl, by omega, by omega, ?_, fun h0 => ?_⟩
            · by_cases hc : c = l.toNat
              · exact .inl (by omega)
              · right
                rw [if_neg hc]
                simp [add0]
            · rw [h0]
              refine ⟨by omega, ?_⟩
              split <;> simp [add0]
          · rw [hM] at hT'; cases hT'; rw [hN] at hN1; cases hN1
      | nilrow sz' =>
        simp only [HT.erase, AV.row.injEq, true_and] at hNe
        obtain ⟨rfl, rfl, _⟩ := hNe
        have := q0 T hM sz' hN (by omega)
        subst this
        refine ⟨.slice none 0 0, w, ?_, Ext.refl _ _, ?_⟩
        · simp only [execOp, Sem.run_bind, hav]
          have z1 : l.toNat = 0 := by omega
          have z2 : h.toNat = 0 := by omega
          rw [z1] at e1
          rw [show (none : Option Operand).map a.eval = none from rfl, run_slCap (P := E.P) w ht none 0 0 (l := 0) (h := 0) e1 (by obtain ⟨k, e⟩ := e2'; exact ⟨k, by simp [e, z2]⟩) (by omega) (by omega)]
          simp
        · refine .sl _ _ _ _ _ (fun T' hT' b1 sz1 n1 cap1 cs1 hN1 hle1 => ?_) (fun T' hT' sz1 hN1 hle1 => rfl)
          rw [hM] at hT'; cases hT'; rw [hN] at hN1; cases hN1
      | leaf a' v' ha _ => cases a' with
        | row o _ _ _ => cases o <;> simp_all [HT.erase, AV.leafOk]
        | _ => simp_all [HT.erase, AV.leafOk]
      | box => simp [HT.erase] at hNe
      | agg => simp [HT.erase] at hNe
      | tup => simp [HT.erase] at hNe) hR
theorem l_sl3 {lo : Option Operand} {yh ym : Operand} {r len n : Nat} {p : List Nat} {cs : List AV} {sz : Nat} {l h m : Int} {kh km : IntKind} (hn : d < E.nt) (ht : slT E.P xt = some sz) (hx : s.ev x = .sl r p 0 len) (hA : nodeOf s r p = some (.row true sz n cs)) (hl : len ≤ n)
    (h1 : bndQ s 0 lo = some l) (h2 : s.ev yh = .lit (.int kh h)) (h2' : s.ev ym = .lit (.int km m)) (h3 : 0 ≤ l) (h4 : l ≤ h) (h5 : h ≤ m) (h6 : m ≤ n) (hR : R (s.set d .junk)) :
    LJ E ⟨some d, .slice xt x lo (some yh) (some ym), t, pos, after, g⟩ s R :=
  LJ.of_q (v := .junk) (T := none) (.val rfl hn fun s' M G a w hle hX => by
    have hv := hX.evLe hle x
    rw [hx] at hv
    have hA' := hle.node hA
    obtain ⟨T, N, hM, hN, hNe, hsT, hsN⟩ := nodeOf_spec hX hA'
    have e1 := bnd_val hX hle h1 h3
    have e2 : ∃ k, (some yh).map a.eval = some (.int k h.toNat) := ⟨kh, by simp [hX.lit hle h2, Int.toNat_of_nonneg (show 0 ≤ h by omega)]⟩
    have e3 : ∃ k, (some ym).map a.eval = some (.int k m.toNat) := ⟨km, by simp [hX.lit hle h2', Int.toNat_of_nonneg (show 0 ≤ m by omega)]⟩
    simp only [Int.toNat_zero] at e1
    generalize hav : a.eval x = v at hv
    cases hv with
    | sl _ _ _ _ _ q q0 =>
      cases hsN with
      | row b sz' n' cap cs' C e g1 g2 g3 g4 g5 g6 g7 g8 =>
        simp only [HT.erase, AV.row.injEq, true_and] at hNe
        obtain ⟨rfl, rfl, _⟩ := hNe
        obtain ⟨A, c, rfl, q2, q3, q4, q5⟩ := q T hM b sz' n' cap cs' hN (by omega)
        obtain ⟨rfl, rfl⟩ := q5 rfl
        refine ⟨.slice (if m.toNat = l.toNat then (some ⟨b, 0, none⟩ : Option Addr) else (some ⟨b, 0, none⟩ : Option Addr).map (·.add (l.toNat * sz'))) (h.toNat - l.toNat) (m.toNat - l.toNat), w, ?_, Ext.refl _ _, .junk _⟩
        · simp only [execOp, Sem.run_bind, hav]
          rw [run_sl3 (P := E.P) w ht _ len c e1 e2 e3 (by omega) (by omega) (by omega)]
          rfl
      | nilrow sz' =>
        simp only [HT.erase, AV.row.injEq, true_and] at hNe
        obtain ⟨rfl, rfl, _⟩ := hNe
        have := q0 T hM sz' hN (by omega)
        subst this
        refine ⟨.slice (if m.toNat = l.toNat then (none : Option Addr) else (none : Option Addr).map (·.add (l.toNat * sz'))) (h.toNat - l.toNat) (m.toNat - l.toNat), w, ?_, Ext.refl _ _, .junk _⟩
        · simp only [execOp, Sem.run_bind, hav]
          rw [run_sl3 (P := E.P) w ht none 0 0 e1 e2 e3 (by omega) (by omega) (by omega)]
          rfl
      | leaf a' v' ha _ => cases a' with
        | row o _ _ _ => cases o <;> simp_all [HT.erase, AV.leafOk]
        | _ => simp_all [HT.erase, AV.leafOk]
      | box => simp [HT.erase] at hNe
      | agg => simp [HT.erase] at hNe
      | tup => simp [HT.erase] at hNe) hR
/-- An append within the row: of cells of its own, into cells of its own. -/
theorem l_appIn {r k off m n : Nat} {p : List Nat} {cs : List AV} (hd : d < E.nt) (hz : zOk E.P t = true) (hx : s.ev x = .sl r p 0 k) (hy : s.ev y = .sl r p off m) (hA : nodeOf s r p = some (.row true (slSz E.P t) n cs)) (h1 : off + m ≤ n) (h2 : k + m ≤ n) (hm : 0 < m)
    (hlf : leafCs ((cs.drop (off * slSz E.P t)).take (m * slSz E.P t)) = true) (hft : fitCs ((cs.drop (off * slSz E.P t)).take (m * slSz E.P t)) = true)
    (hR : R ((s.updM r p (.row true (slSz E.P t) n (setL cs (k * slSz E.P t) ((cs.drop (off * slSz E.P t)).take (m * slSz E.P t))))).set d (.sl r p 0 (k + m)))) :
    LJ E ⟨some d, .call { callee := .builtin .append, args := #[x, y], argTypes := #[t, t] }, ty, pos, after, g⟩ s R := by
  obtain ⟨z1, z2, z3, z4⟩ := of_zOk hz
  obtain ⟨e, i, z, t1, t2, t3, t4, t5, t6, _⟩ := zcT_spec z1
  rw [z3] at hA hlf hft hR
  generalize hszE : (zsN E.P t).length = sz at *
  rintro a w ⟨M, G, hX⟩
  obtain ⟨Vs, A, c, hu, hVe, hVl, hVs, hVb, hVc⟩ := yj_own (E := E) hA h1 hlf hft M G a w hX _ (hy ▸ hX.ev y)
  have hVl0 : 0 < Vs.length := by rw [hVl]; exact Nat.mul_pos hm z2
  obtain ⟨T, N, hM, hN, hNe, hsT, hsN⟩ := nodeOf_spec hX hA
  have hv := hX.ev x
  rw [hx] at hv
  generalize hav : a.eval x = v at hv
  cases hv with
  | sl _ _ _ _ _ q q0 =>
    generalize hNN : N = N' at hsN
    cases hsN with
    | row b sz' n' cap cs' C e0 g1 g2 g3 g4 g5 g6 g7 g8 =>
      subst hNN
      simp only [HT.erase, AV.row.injEq, true_and] at hNe
      obtain ⟨rfl, rfl, hcs⟩ := hNe
      obtain ⟨A0, c0, rfl, q2, q3, q4, q5⟩ := q T hM b sz' n' cap cs' hN (by omega)
      obtain ⟨rfl, rfl⟩ := q5 rfl
      obtain ⟨ad, rfl, _⟩ := hVc 0 Vs[0] (List.getElem?_eq_getElem hVl0)
      have hfit : k * sz' + Vs.length ≤ cs'.length := by rw [hVl, g2, ← Nat.add_mul]; exact Nat.mul_le_mul_right _ h2
      have hcap : cs'.length ≤ C.size := by rw [g2, g4]; exact Nat.mul_le_mul_right _ g3
      have hrun : (execOp a.eval ⟨some d, .call { callee := .builtin .append, args := #[x, y], argTypes := #[t, t] }, ty, pos, after, g⟩).run E.P w = .ok (.value (.slice (some ⟨b, 0, none⟩) (k + m) c0)) (w.setCells b (k * sz') (Vs.map HT.value)) := by
        have := run_append_room_cells (P := E.P) w t ty e i t1 t2 b 0 k c0 ad m c (Vs.map HT.value) (by rw [List.length_map, hVl, t6]) (fun j u hj => by
            rw [List.getElem?_map] at hj
            cases hV : Vs[j]? with
            | none => rw [hV] at hj; cases hj
            | some V =>
              rw [hV] at hj
              simp only [Option.map_some, Option.some.injEq] at hj
              subst hj
              obtain ⟨ad', e1, e2⟩ := hVc j V hV
              cases e1; exact e2) (fun u hu => by
            obtain ⟨V, h1, rfl⟩ := List.mem_map.1 hu
            exact (hVs V h1).2) (by omega) (fun j hj => by
            have hj' : j < Vs.length := by simpa using hj
            have : k * sz' + j < C.size := by omega
            rw [t6]
            simp [World.cell?, g1, this]) (fun j hj => by simp [World.frozen?, g1])
        rw [t6, Nat.zero_add] at this
        simp [execOp, resolve, invoke, builtin, hu, hav, this, Result.andThen]
      unfold Oper.wp
      rw [hrun]
      simp only [Oper.upon]
      have hleaf : ∀ K ∈ Vs, K.isMem = false ∧ K.kids = [] := fun K hK => by
        have hk : K.erase.leafOk = true := leafCs_mem.1 hlf _ (by rw [← hVe, HT.erases_eq]; exact List.mem_map.2 ⟨K, hK, rfl⟩)
        cases K <;> simp_all [HT.isMem, HT.kids, HT.erase, AV.leafOk]
      have hL := hX.layLeaves (o := k * sz') hM hN (b := b) rfl g1 hfit hVl0 (fun K hK => (hVs K hK).1) (by rw [hVb]; simp) hleaf (by rw [hVb]; simp)
      have he : ((HT.row b sz' n' c0 cs').withKids (setL (HT.row b sz' n' c0 cs').kids (k * sz') Vs)).erase = .row true sz' n' (setL cs (k * sz') (((cs.drop (off * sz')).take (m * sz')))) := by
        rw [← hVe, ← hcs]
        simp [HT.withKids, HT.kids, HT.erase, HT.erases_eq, setL_map]
      rw [he] at hL
      have hS := hL.set hd (w' := w.setCells b (k * sz') (Vs.map HT.value)) (v := .sl r p 0 (k + m)) (u := .slice (some ⟨b, 0, none⟩) (k + m) c0) (Ext.refl _ _) ?_
      · exact ⟨_, ⟨_, _, hS⟩, hR⟩
      · refine .sl _ _ _ _ _ (fun T' hT' b1 sz1 n1 cap1 cs1 hN1 hle1 => ?_) (fun T' hT' sz1 hN1 hle1 => ?_)
        · simp only [updF, if_true, Option.some.injEq] at hT'; subst hT'
          rw [at_upd_self p hN] at hN1
          simp only [HT.withKids, Option.some.injEq, HT.row.injEq] at hN1
          obtain ⟨rfl, rfl, rfl, rfl, rfl⟩ := hN1
          exact ⟨_, _, rfl, by omega, by omega, .inr (by simp), fun _ => ⟨rfl, rfl⟩⟩
        · simp only [updF, if_true, Option.some.injEq] at hT'; subst hT'
          rw [at_upd_self p hN] at hN1
          simp [HT.withKids] at hN1
    | nilrow sz' =>
      subst hNN
      simp only [HT.erase, AV.row.injEq, true_and] at hNe
      obtain ⟨rfl, rfl, rfl⟩ := hNe
      omega
    | leaf a' v' ha _ => subst hNN; cases a' with
      | row o _ _ _ => cases o <;> simp_all [HT.erase, AV.leafOk]
      | _ => simp_all [HT.erase, AV.leafOk]
    | box => subst hNN; simp [HT.erase] at hNe
    | agg => subst hNN; simp [HT.erase] at hNe
    | tup => subst hNN; simp [HT.erase] at hNe
/-- An append of nothing. -/
theorem l_appIn0 {r k off n : Nat} {p : List Nat} {cs : List AV} (hd : d < E.nt) (hz : zOk E.P t = true) (hx : s.ev x = .sl r p 0 k) (hy : s.ev y = .sl r p off 0) (hA : nodeOf s r p = some (.row true (slSz E.P t) n cs)) (h1 : off ≤ n) (h2 : k ≤ n)
    (hR : R (s.set d (.sl r p 0 k))) :
    LJ E ⟨some d, .call { callee := .builtin .append, args := #[x, y], argTypes := #[t, t] }, ty, pos, after, g⟩ s R := by
  obtain ⟨z1, z2, z3, z4⟩ := of_zOk hz
  obtain ⟨e, i, z, t1, t2, t3, t4, t5, t6, _⟩ := zcT_spec z1
  refine LJ.of_q (v := .sl r p 0 k) (T := none) (.val rfl hd fun s' M G a w hle hX => ?_) hR
  have hvx := hX.evLe hle x
  have hvy := hX.evLe hle y
  rw [hx] at hvx
  rw [hy] at hvy
  obtain ⟨T, N, hM, hN, hNe, hsT, hsN⟩ := nodeOf_spec hX (hle.node hA)
  refine ⟨a.eval x, w, ?_, Ext.refl _ _, hvx⟩
  generalize hav : a.eval x = v at hvx
  generalize hbv : a.eval y = v' at hvy
  have f0 : ∀ A c, (Builtin.firstCells i.size 0 (.slice A 0 c)).run E.P w = .ok #[] w := fun A c => by cases A <;> simp [Builtin.firstCells, loadCells, loadCellsFrom]
  cases hvx with
  | sl _ _ _ _ _ q q0 =>
    cases hvy with
    | sl _ _ _ _ _ q' q0' =>
      cases hsN with
      | row b sz' n' cap cs' C e0 g1 g2 g3 g4 g5 g6 g7 g8 =>
        simp only [HT.erase, AV.row.injEq, true_and] at hNe
        obtain ⟨rfl, rfl, hcs⟩ := hNe
        obtain ⟨A0, c0, rfl, q2, q3, q4, q5⟩ := q T hM b _ n' cap cs' hN (by omega)
        obtain ⟨rfl, rfl⟩ := q5 rfl
        obtain ⟨A1, c1, rfl, _⟩ := q' T hM b _ n' c0 cs' hN (by omega)
        simp [execOp, resolve, invoke, builtin, hav, hbv, Builtin.append_, run_underlying t1, sizeOf, typeInfo, t2, Builtin.lenOf, f0, q2, storeCells, World.setCells, Result.andThen]
      | nilrow sz' =>
        simp only [HT.erase, AV.row.injEq, true_and] at hNe
        obtain ⟨rfl, rfl, rfl⟩ := hNe
        have e1 := q0 T hM _ hN (by omega)
        have e2 := q0' T hM _ hN (by omega)
        subst e1; subst e2
        simp [execOp, resolve, invoke, builtin, hav, hbv, Builtin.append_, run_underlying t1, sizeOf, typeInfo, t2, Builtin.lenOf, f0, storeCells, World.setCells, Result.andThen]
      | leaf a' v' ha _ => cases a' with
        | row o _ _ _ => cases o <;> simp_all [HT.erase, AV.leafOk]
        | _ => simp_all [HT.erase, AV.leafOk]
      | box => simp [HT.erase] at hNe
      | agg => simp [HT.erase] at hNe
      | tup => simp [HT.erase] at hNe
/-- 'clear' of cells of a row of one's own. -/
theorem l_clear {r off m n : Nat} {p : List Nat} {cs : List AV} (hz : zOk E.P t = true) (hx : s.ev x = .sl r p off m) (hA : nodeOf s r p = some (.row true (slSz E.P t) n cs)) (h1 : off + m ≤ n) (hm : 0 < m)
    (hR : R (s.updM r p (.row true (slSz E.P t) n (setL cs (off * slSz E.P t) ((zCells (zsN E.P t) m).map .lit))))) :
    LJ E ⟨none, .call { callee := .builtin .clear, args := #[x], argTypes := #[t] }, ty, pos, after, g⟩ s R := by
  obtain ⟨z1, z2, z3, z4⟩ := of_zOk hz
  have hone : ∀ v ∈ zsN E.P t, v.oneCell' = true := by
    unfold zOk at hz
    rw [z1] at hz
    simp only [Bool.and_eq_true, List.all_eq_true] at hz
    exact hz.2
  rw [z3] at hA hR
  generalize hszE : (zsN E.P t).length = sz at *
  rintro a w ⟨M, G, hX⟩
  obtain ⟨T, N, hM, hN, hNe, hsT, hsN⟩ := nodeOf_spec hX hA
  have hv := hX.ev x
  rw [hx] at hv
  generalize hav : a.eval x = v at hv
  cases hv with
  | sl _ _ _ _ _ q q0 =>
    generalize hNN : N = N' at hsN
    cases hsN with
    | row b sz' n' cap cs' C e0 g1 g2 g3 g4 g5 g6 g7 g8 =>
      subst hNN
      simp only [HT.erase, AV.row.injEq, true_and] at hNe
      obtain ⟨rfl, rfl, hcs⟩ := hNe
      obtain ⟨A0, c0, rfl, q2, q3, q4, q5⟩ := q T hM b sz' n' cap cs' hN h1
      have q4 : A0 = some ⟨b, off * sz', none⟩ := q4.resolve_left (by omega)
      subst q4
      let Vs : List HT := (zCells (zsN E.P t) m).map fun v => .leaf (.lit v) v
      have hVl : Vs.length = m * sz' := by simp [Vs, zCells, hszE]
      have hVv : Vs.map HT.value = zCells (zsN E.P t) m := by simp [Vs, HT.value, Function.comp_def]
      have hVe : HT.erases Vs = (zCells (zsN E.P t) m).map .lit := by simp [Vs, HT.erases_eq, HT.erase, Function.comp_def]
      have hVs : ∀ K ∈ Vs, Sat w G K ∧ K.isMem = false ∧ K.kids = [] ∧ K.blocks = [] := fun K hK => by
        obtain ⟨v, hv, rfl⟩ := List.mem_map.1 hK
        exact ⟨.leaf _ _ rfl (.lit v), rfl, rfl, rfl⟩
      have hVb : Vs.flatMap HT.blocks = [] := by rw [List.flatMap_eq_nil_iff]; exact fun K hK => (hVs K hK).2.2.2
      have hfit : off * sz' + Vs.length ≤ cs'.length := by rw [hVl, g2, ← Nat.add_mul]; exact Nat.mul_le_mul_right _ h1
      have hcap : cs'.length ≤ C.size := by rw [g2, g4]; exact Nat.mul_le_mul_right _ g3
      have hrun : (execOp a.eval ⟨none, .call { callee := .builtin .clear, args := #[x], argTypes := #[t] }, ty, pos, after, g⟩).run E.P w = .ok (.value (.tuple #[])) (w.setCells b (off * sz') (Vs.map HT.value)) := by
        have := run_clearN (P := E.P) w (t := t) (ty := ty) z1 (by omega) hone b (off * sz') m c0 hm (fun j hj => by
            have : off * sz' + j < C.size := by rw [hszE, ← hVl] at hj; omega
            simp [World.cell?, g1, this]) (fun j hj => by simp [World.frozen?, g1])
        rw [hVv]
        simp [execOp, resolve, invoke, builtin, hav, this, Result.andThen]
      unfold Oper.wp
      rw [hrun]
      simp only [Oper.upon]
      have hL := hX.layLeaves (o := off * sz') hM hN (b := b) rfl g1 hfit (by rw [hVl]; exact Nat.mul_pos hm g5) (fun K hK => (hVs K hK).1) (by rw [hVb]; simp) (fun K hK => ⟨(hVs K hK).2.1, (hVs K hK).2.2.1⟩) (by rw [hVb]; simp)
      have he : ((HT.row b sz' n' cap cs').withKids (setL (HT.row b sz' n' cap cs').kids (off * sz') Vs)).erase = .row true sz' n' (setL cs (off * sz') ((zCells (zsN E.P t) m).map .lit)) := by
        rw [← hVe, ← hcs]
        simp [HT.withKids, HT.kids, HT.erase, HT.erases_eq, setL_map]
      rw [he] at hL
      exact ⟨_, ⟨_, _, hL⟩, hR⟩
    | nilrow sz' =>
      subst hNN
      simp only [HT.erase, AV.row.injEq, true_and] at hNe
      obtain ⟨rfl, rfl, rfl⟩ := hNe
      omega
    | leaf a' v' ha _ => subst hNN; cases a' with
      | row o _ _ _ => cases o <;> simp_all [HT.erase, AV.leafOk]
      | _ => simp_all [HT.erase, AV.leafOk]
    | box => subst hNN; simp [HT.erase] at hNe
    | agg => subst hNN; simp [HT.erase] at hNe
    | tup => subst hNN; simp [HT.erase] at hNe
end
/-- slices.Delete, in plain words. -/
def delL {α : Type} (l : List α) (i j : Int) : Option (List α) := if 0 ≤ i ∧ i ≤ j ∧ j ≤ l.length then some (l.take i.toNat ++ l.drop j.toNat) else none
theorem setL_take {α : Type} {A vs : List α} {o k : Nat} (h : o ≤ A.length) (hk : k ≤ o) : (setL A o vs).take k = A.take k := by
  unfold setL
  rw [List.take_append_of_le_length (by rw [List.length_take]; omega), List.take_take, Nat.min_eq_left hk]
theorem setL_takeM {α : Type} {A vs : List α} {o : Nat} (h : o ≤ A.length) : (setL A o vs).take (o + vs.length) = A.take o ++ vs := by
  unfold setL
  rw [List.take_append, List.length_take, Nat.min_eq_left h, List.take_of_length_le (by rw [List.length_take]; omega), Nat.add_sub_cancel_left, List.take_left']
  rfl
theorem del_cells {α : Type} {enc : α → List AV} {sz : Nat} (hs : ∀ x, (enc x).length = sz) {l : List α} {i j : Nat} (hij : i ≤ j) (hj : j ≤ l.length) (Z : List AV) :
    (setL (setL (l.flatMap enc) (i * sz) (((l.flatMap enc).drop (j * sz)).take ((l.length - j) * sz))) ((i + (l.length - j)) * sz) Z).take ((i + (l.length - j)) * sz) = (l.take i ++ l.drop j).flatMap enc := by
  have hl : (l.flatMap enc).length = l.length * sz := flat_len (fun y _ => hs y)
  have hi : i * sz ≤ l.length * sz := Nat.mul_le_mul_right _ (by omega)
  have hM : ((l.flatMap enc).drop (j * sz)).take ((l.length - j) * sz) = (l.drop j).flatMap enc := by
    rw [flat_drop _ (fun y _ => hs y), flat_take _ (fun y _ => hs y), List.take_of_length_le (by simp)]
  have hMl : ((l.drop j).flatMap enc).length = (l.length - j) * sz := by rw [flat_len (fun y _ => hs y)]; simp
  have he : (i + (l.length - j)) * sz = i * sz + ((l.drop j).flatMap enc).length := by rw [hMl, Nat.add_mul]
  have hfit : i * sz + ((l.drop j).flatMap enc).length ≤ l.length * sz := by rw [← he]; exact Nat.mul_le_mul_right _ (by omega)
  rw [hM, setL_take (by rw [setL_len (by rw [hl]; exact hfit), hl, he]; exact hfit) (Nat.le_refl _), he, setL_takeM (by rw [hl]; exact hi), List.flatMap_append, flat_take _ (fun y _ => hs y)]
theorem del_cells0 {α : Type} {enc : α → List AV} {sz : Nat} (hs : ∀ x, (enc x).length = sz) {l : List α} {i : Nat} (hi : i ≤ l.length) (Z : List AV) :
    (setL (l.flatMap enc) (i * sz) Z).take (i * sz) = (l.take i ++ l.drop l.length).flatMap enc := by
  have hl : (l.flatMap enc).length = l.length * sz := flat_len (fun y _ => hs y)
  rw [setL_take (by rw [hl]; exact Nat.mul_le_mul_right _ hi) (Nat.le_refl _), flat_take _ (fun y _ => hs y)]
  simp
theorem DoesX.walkA {P : Program} {f : FuncId} {fn : Func} {c : Code} {args m m' : List AV} {res : AV} {nt : Nat} (hf : P.funcs[f]? = some fn) (hb : fn.body = some c) (hnt : fn.ntmps = nt) (hn : args.length ≤ nt) (hn1 : nt ≤ 1000) (hmm : m'.length = m.length)
    (h : ∀ (G0 X : Nat → Prop) (w0 : World) (pv : Nat → Option Value), AWP ⟨P, G0, X, w0, nt, pv⟩ c (retXK ⟨P, G0, X, w0, nt, pv⟩ fn res m') (startX args m)) : DoesX P f args m res m' :=
  DoesX.of hf hb (by omega) (by omega) hmm (fun E e1 e2 => by
    obtain ⟨P', G0, X, w0, nt', pv⟩ := E
    simp only at e1 e2
    subst e1
    rw [hnt] at e2
    subst e2
    exact h G0 X w0 pv)
/-- A drawn region whose quiet part is reckoned; what comes behind it is shown by hand. -/
theorem awp_drawn {E : Env} {id : Nat} {l : List Oper} {K : AX → ASt → Prop} {s : ASt} (hm : E.P.follows .mixedOrders = true) (T : List (List Nat)) (q : Nat) (hc : chk l T q E.nt = true)
    (h : dq E (l.map (·.dst)) T s ((l.take q).map (·.dst)) (Seq E l.toArray (l.drop q) (K .nm)) (l.take q) []) : AWP E (.region id l.toArray true) K s :=
  AWP.drawn hm T q hc (dq_sound (ops := l.toArray) h)
theorem seq_lj {E : Env} {ops : Array Oper} {o : Oper} {rest : List Oper} {k : ASt → Prop} {s : ASt} (hg : o.guard = none) (h : LJ E o s (Seq E ops rest k)) : Seq E ops (o :: rest) k s := Seq.cons hg h
theorem seq_st {E : Env} {ops : Array Oper} {o : Oper} {rest : List Oper} {k : ASt → Prop} {s : ASt} (hg : o.guard = none) (h : st1 E o (Seq E ops rest k) s) : Seq E ops (o :: rest) k s := Seq.cons hg (of_st1 h)
/-- A row that is given back cut. -/
theorem retX_cut {E : Env} {fn : Func} {res : AV} {m' : List AV} {s : ASt} {t r len sz n : Nat} {p : List Nat} {cs : List AV} (hr : fn.results = #[.tmp t]) (h : s.t t = .sl r p 0 len) (hA : nodeOf s r p = some (.row true sz n cs)) (hl : len ≤ n)
    (hres : AV.row true sz len (cs.take (len * sz)) = res) (hm : regsQ m' 1000 (s.updM r p .junk)) : RetX E fn res m' s := by
  subst hres
  intro M G a w hX
  obtain ⟨M', T, e1, e2, e3, e4, e5, e6, _⟩ := close_slN (E := E) hA hl M G a w hX (a.tmps.getD t Go.undef) (h ▸ hX.sl t)
  refine ⟨T, M', s.updM r p .junk, ?_, e3, e4, e5, fun x hx => (e6 x hx).2, e1, regsQ_ok hm⟩
  rw [results_rv, hr, e2]
  simp [rvSem]
theorem isPre0 {a b : Nat} : ([a, b].isPrefixOf [] = true ∧ ¬ [a, b] = []) = False := by simp [List.isPrefixOf]
theorem isPre1 {a b c : Nat} : ([a, b].isPrefixOf [c] = true ∧ ¬ [a, b] = [c]) = False := by simp [List.isPrefixOf]
theorem isPre2 {a b : Nat} : ([a, b].isPrefixOf [a, b] = true ∧ ¬ [a, b] = [a, b]) = False := by simp
end Go.Av
end
