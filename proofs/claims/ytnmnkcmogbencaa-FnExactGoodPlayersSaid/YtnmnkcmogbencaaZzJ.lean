/- The walk: what is to be shown of a piece of code, for 'simp only [walk lemmas]'. -/
import Derived.Test.YtnmnkcmogbencaaZzP
set_option linter.unusedSimpArgs false
set_option linter.unusedVariables false
/-! The walk: what is to be shown of a piece of code, for 'simp only [walk lemmas]'. -/
namespace Go.Av

/-! One operation: 'R': what is to be shown behind it; 'd': the slot that it writes. No binder stands round 'R': 'simp' does not look into what is not yet to be done. -/
def fdO (P : Program) (t : TypeId) (f : Nat) : Nat := match fdT P t f with
  | some (o, _, _) => o
  | none => 0
def fdOk (P : Program) (t : TypeId) (f : Nat) : Bool := match fdT P t f with
  | some (_, n, _) => n != 0
  | none => false
def fdS (P : Program) (t : TypeId) (f : Nat) : Bool := match fdT P t f with
  | some (_, _, g) => !g
  | none => false
def ldA (P : Program) (t : TypeId) : Bool := match agT P t with
  | some b => b
  | none => false
def ldS (P : Program) (t : TypeId) : Bool := match agT P t with
  | some b => !b
  | none => false
def szN (P : Program) (t : TypeId) : Nat := (szT P t).getD 0
def isStr (P : Program) (t : TypeId) : Bool := match P.underlying t with
  | some .string => true
  | _ => false
def isBl (P : Program) (t : TypeId) : Bool := match P.underlying t with
  | some .bool => true
  | _ => false
def intKd (P : Program) (t : TypeId) : Option IntKind := match P.underlying t with
  | some (.int k) => some k
  | _ => none

def slSz (P : Program) (t : TypeId) : Nat := (slT P t).getD 0
def zsN (P : Program) (t : TypeId) : List Value := match zcT P t with
  | some (zs, _) => zs
  | none => []
def byN (P : Program) (t : TypeId) : Nat := match zcT P t with
  | some (_, b) => b
  | none => 0
def zOk (P : Program) (t : TypeId) : Bool := match zcT P t with
  | some (zs, _) => decide (0 < zs.length) && zs.all (·.oneCell')
  | none => false
/-- A row of the call's own of at least 'm' elements lies there. -/
def rowIn (s : ASt) (r : Nat) (p : List Nat) (sz m : Nat) : Prop := ∃ n cs, nodeOf s r p = some (.row true sz n cs) ∧ m ≤ n
def rowAny (s : ASt) (r : Nat) (p : List Nat) (m : Nat) : Prop := ∃ sz n cs, nodeOf s r p = some (.row true sz n cs) ∧ m ≤ n

def pickQ (c a b : AV) (R : ASt → Prop) (s : ASt) (d : Nat) : Prop := match c with
  | .lit (.bool x) => R (s.set d (bif x then a else b))
  | _ => False
def binQ (P : Program) (op : BinOp) (t : TypeId) (x y : AV) (R : ASt → Prop) (s : ASt) (d : Nat) : Prop := match x, y with
  | .lit (.int j a), .lit (.int j' b) => intOk op j j' b ∧ R (s.set d (.lit (intV op j a b)))
  | .lit (.string a), .lit (.string b) => strOk op a b ∧ R (s.set d (.lit (strV op a b)))
  | .lit (.bool a), .lit (.bool b) => (isBl P t = true ∧ (op = .eql ∨ op = .neq)) ∧ R (s.set d (.lit (.bool (if op = .eql then a == b else !(a == b)))))
  | _, _ => False
def unQ (op : UnOp) (x : AV) (R : ASt → Prop) (s : ASt) (d : Nat) : Prop := match op, x with
  | .neg, .lit (.int k n) => R (s.set d (.lit (.int k (k.wrap (0 - n)))))
  | .not, .lit (.bool b) => R (s.set d (.lit (.bool !b)))
  | _, _ => False
def convQ (P : Program) (a b : TypeId) (x : AV) (R : ASt → Prop) (s : ASt) (d : Nat) : Prop := match x with
  | .lit (.int _ n) => ((intKd P a).isSome = true ∧ (intKd P b).isSome = true) ∧ R (s.set d (.lit (.int ((intKd P b).getD .i64) (((intKd P b).getD .i64).wrap n))))
  | _ => False
def lenQ (P : Program) (t : TypeId) (x : AV) (R : ASt → Prop) (s : ASt) (d : Nat) : Prop := match x with
  | .lit (.string a) => isStr P t = true ∧ R (s.set d (.lit (.int .i64 a.size)))
  | .row false _ n _ => (slT P t).isSome = true ∧ R (s.set d (.lit (.int .i64 n)))
  | .sl r p off len => ((slT P t).isSome = true ∧ rowAny s r p (off + len)) ∧ R (s.set d (.lit (.int .i64 len)))
  | _ => False
def maxQ (x y : AV) (R : ASt → Prop) (s : ASt) (d : Nat) : Prop := match x, y with
  | .lit (.int k a), .lit (.int _ b) => R (s.set d (.lit (.int k (if b > a then b else a))))
  | _, _ => False
def minQ (x y : AV) (R : ASt → Prop) (s : ASt) (d : Nat) : Prop := match x, y with
  | .lit (.int k a), .lit (.int _ b) => R (s.set d (.lit (.int k (if b < a then b else a))))
  | _, _ => False
def indexAddrQ (P : Program) (t : TypeId) (x i : AV) (R : ASt → Prop) (s : ASt) (d : Nat) : Prop := match x, i with
  | .row false sz n cs, .lit (.int _ j) => (slT P t = some sz ∧ (0 ≤ j ∧ j < n)) ∧ R (s.set d (.box false (cs.drop (j.toNat * sz))))
  | .sl r p off len, .lit (.int _ j) => (((slT P t).isSome = true ∧ rowIn s r p (slSz P t) (off + len)) ∧ (0 ≤ j ∧ j < len)) ∧ R (s.set d (.ptr r p ((off + j.toNat) * slSz P t)))
  | _, _ => False
def indexQ (P : Program) (t : TypeId) (x i : AV) (R : ASt → Prop) (s : ASt) (d : Nat) : Prop := match x, i with
  | .lit (.string a), .lit (.int _ j) => (isStr P t = true ∧ (0 ≤ j ∧ j < a.size)) ∧ R (s.set d (.lit (.int .u8 (byteAt a j))))
  | _, _ => False
def fieldAddrQ (P : Program) (t : TypeId) (x : AV) (f : Nat) (R : ASt → Prop) (s : ASt) (d : Nat) : Prop := match x with
  | .box false cs => fdOk P t f = true ∧ R (s.set d (.box false (cs.drop (fdO P t f))))
  | .ptr r p o => (fdOk P t f = true ∧ memN (nodeOf s r p) = true ∧ (cellsOf (nodeOf s r p)).length ≠ 0) ∧ R (s.set d (.ptr r p (o + fdO P t f)))
  | _ => False
def loadQ (P : Program) (t : TypeId) (x : AV) (R : ASt → Prop) (s : ASt) (d : Nat) : Prop := match x with
  | .box false cs => if ldA P t = true then ((szT P t).isSome = true ∧ szN P t ≤ cs.length) ∧ R (s.set d (.agg (cs.take (szN P t)))) else (ldS P t = true ∧ 0 < cs.length) ∧ R (s.set d (cs.getD 0 .junk))
  | .ptr r p o => if ldA P t = true then ((szT P t).isSome = true ∧ memN (nodeOf s r p) = true ∧ 0 < szN P t ∧ o + szN P t ≤ (cellsOf (nodeOf s r p)).length) ∧ R (s.set d (.agg (openCs r p o (((cellsOf (nodeOf s r p)).drop o).take (szN P t))))) else (ldS P t = true ∧ memN (nodeOf s r p) = true ∧ o < (cellsOf (nodeOf s r p)).length) ∧ R (s.set d (openC r (p ++ [o]) ((cellsOf (nodeOf s r p)).getD o .junk)))
  | _ => False
def treeQ (P : Program) (t : TypeId) (r : Nat) (p : List Nat) (o : Nat) (R : ASt → Prop) : Option (List AV × ASt) → Prop
  | some (As, s1) => (fitCs As = true ∧ szT P t = some As.length ∧ 0 < As.length ∧ memN (nodeOf s1 r p) = true ∧ o + As.length ≤ (cellsOf (nodeOf s1 r p)).length) ∧
      (if leafCs As = true then R (s1.updM r p (setNs o As (nodeOf s1 r p))) else R ((s1.updM r p (setNs o As (nodeOf s1 r p))).mapT (killR r p o As.length)))
  | none => False
def storeQ (P : Program) (t : TypeId) (x v : AV) (R : ASt → Prop) (s : ASt) : Prop := match x, v with
  | .ptr r p o, .agg vs => treeQ P t r p o R (closeVs s vs)
  | .ptr r p o, .sl q p' o' l => treeQ P t r p o R (closeVs s [.sl q p' o' l])
  | .ptr r p o, .ptr q p' o' => treeQ P t r p o R (closeVs s [.ptr q p' o'])
  | .ptr r p o, v => ((szT P t = some 1 ∧ memN (nodeOf s r p) = true ∧ o < (cellsOf (nodeOf s r p)).length) ∧ stOk v = true) ∧ R (s.updM r p (setN o v (nodeOf s r p)))
  | _, _ => False
def boxQ (d : Nat) (R : ASt → Prop) : Option (List AV × ASt) → Prop
  | some (As, s1) => fitCs As = true ∧ R (s1.new d (.ptr d [] 0) (.box true As))
  | none => False
def allocQ (P : Program) (t : TypeId) (d : Nat) (R : ASt → Prop) (s : ASt) : Prop := match zvT P t with
  | some zs => R (s.new d (.ptr d [] 0) (.box true (zs.map .lit)))
  | none => False
def makeQ (P : Program) (t : TypeId) (x y : AV) (R : ASt → Prop) (s : ASt) (d : Nat) : Prop := match x, y with
  | .lit (.int _ n), .lit (.int _ m) => (zOk P t = true ∧ 0 ≤ n ∧ m = n ∧ (byN P t : Int) * n ≤ 281474976710656 ∧ n ≤ 9223372036854775807) ∧ R (s.new d (.sl d [] 0 n.toNat) (.row true (zsN P t).length n.toNat ((zCells (zsN P t) n.toNat).map .lit)))
  | _, _ => False
def fieldQ (P : Program) (t : TypeId) (x : AV) (f : Nat) (R : ASt → Prop) (s : ASt) (d : Nat) : Prop := match x with
  | .agg cs => (fdS P t f = true ∧ fdO P t f < cs.length) ∧ R (s.set d (cs.getD (fdO P t f) .junk))
  | _ => False
def extractQ (x : AV) (i : Nat) (R : ASt → Prop) (s : ASt) (d : Nat) : Prop := match x with
  | .tup cs => i < cs.length ∧ R (s.set d (cs.getD i .junk))
  | _ => False

section
variable {E : Env} {s : ASt} {d : Nat} {t : TypeId} {pos : String} {after : Array Edge} {g : Option (Nat × Bool)} {R : ASt → Prop}
theorem of_pick {c x y : Operand} (hn : d < E.nt) (h : pickQ (s.ev c) (s.ev x) (s.ev y) R s d) : ∃ v, QJ E ⟨some d, .pick c x y, t, pos, after, g⟩ s v none ∧ R (s.set d v) := by
  unfold pickQ at h
  split at h
  · rename_i b hb; exact ⟨_, q_pick hn hb, h⟩
  · exact h.elim
theorem of_bin {op : BinOp} {x y : Operand} {xt yt : TypeId} (hn : d < E.nt) (h : binQ E.P op xt (s.ev x) (s.ev y) R s d) : ∃ v, QJ E ⟨some d, .binOp op xt x y yt, t, pos, after, g⟩ s v none ∧ R (s.set d v) := by
  unfold binQ at h
  split at h
  · rename_i h1 h2; exact ⟨_, q_int hn h1 h2 h.1, h.2⟩
  · rename_i h1 h2; exact ⟨_, q_str hn h1 h2 h.1, h.2⟩
  · rename_i h1 h2
    obtain ⟨⟨h3, h4⟩, h5⟩ := h
    have hb : E.P.underlying xt = some .bool := by unfold isBl at h3; split at h3 <;> first | assumption | cases h3
    rcases h4 with rfl | rfl
    · exact ⟨_, q_bool hn hb h1 h2 rfl, h5⟩
    · exact ⟨_, q_bool hn hb h1 h2 rfl, h5⟩
  · exact h.elim
theorem of_un {op : UnOp} {x : Operand} {xt : TypeId} (hn : d < E.nt) (h : unQ op (s.ev x) R s d) : ∃ v, QJ E ⟨some d, .unOp op xt x, t, pos, after, g⟩ s v none ∧ R (s.set d v) := by
  unfold unQ at h
  split at h
  · rename_i h1; exact ⟨_, q_un hn h1 rfl, h⟩
  · rename_i h1; exact ⟨_, q_un hn h1 rfl, h⟩
  · exact h.elim
theorem of_conv {x : Operand} {a b : TypeId} (hn : d < E.nt) (h : convQ E.P a b (s.ev x) R s d) : ∃ v, QJ E ⟨some d, .convert a b x, t, pos, after, g⟩ s v none ∧ R (s.set d v) := by
  unfold convQ at h
  split at h
  · rename_i h1
    obtain ⟨⟨h2, h3⟩, h4⟩ := h
    have key : ∀ z, (intKd E.P z).isSome = true → E.P.underlying z = some (.int ((intKd E.P z).getD .i64)) := fun z hz => by
      unfold intKd at hz ⊢
      split at hz
      · rename_i e; simp only [e, Option.getD_some]
      · cases hz
    exact ⟨_, q_convInt hn (key a h2) (key b h3) h1, h4⟩
  · exact h.elim
theorem of_isStr {P : Program} {t : TypeId} (h : isStr P t = true) : P.underlying t = some .string := by unfold isStr at h; split at h <;> first | assumption | cases h
theorem of_len {x : Operand} {xt : TypeId} (hn : d < E.nt) (h : lenQ E.P xt (s.ev x) R s d) : ∃ v, QJ E ⟨some d, .call { callee := .builtin .len, args := #[x], argTypes := #[xt] }, t, pos, after, g⟩ s v none ∧ R (s.set d v) := by
  unfold lenQ at h
  split at h
  · rename_i h1; exact ⟨_, q_lenStr hn (of_isStr h.1) h1, h.2⟩
  · rename_i h1; obtain ⟨z, hz⟩ := Option.isSome_iff_exists.1 h.1; exact ⟨_, q_lenSh hn hz h1, h.2⟩
  · rename_i h1; obtain ⟨z, hz⟩ := Option.isSome_iff_exists.1 h.1.1; obtain ⟨sz, n, cs, h2, h3⟩ := h.1.2; exact ⟨_, q_lenOwn hn hz h1 h2 h3, h.2⟩
  · exact h.elim
theorem of_max {x y : Operand} {ts : Array TypeId} (hn : d < E.nt) (h : maxQ (s.ev x) (s.ev y) R s d) : ∃ v, QJ E ⟨some d, .call { callee := .builtin .max, args := #[x, y], argTypes := ts }, t, pos, after, g⟩ s v none ∧ R (s.set d v) := by
  unfold maxQ at h
  split at h
  · rename_i h1 h2
    exact ⟨_, .val rfl hn fun s' M G a w hle hX => ⟨_, w, by simp [execOp, resolve, invoke, builtin, hX.lit hle h1, hX.lit hle h2, run_max_int2], Ext.refl _ _, .lit _⟩, h⟩
  · exact h.elim
theorem of_min {x y : Operand} {ts : Array TypeId} (hn : d < E.nt) (h : minQ (s.ev x) (s.ev y) R s d) : ∃ v, QJ E ⟨some d, .call { callee := .builtin .min, args := #[x, y], argTypes := ts }, t, pos, after, g⟩ s v none ∧ R (s.set d v) := by
  unfold minQ at h
  split at h
  · rename_i h1 h2
    exact ⟨_, .val rfl hn fun s' M G a w hle hX => ⟨_, w, by simp [execOp, resolve, invoke, builtin, hX.lit hle h1, hX.lit hle h2, run_min_int2], Ext.refl _ _, .lit _⟩, h⟩
  · exact h.elim
theorem of_indexAddr {x y : Operand} {xt : TypeId} (hn : d < E.nt) (h : indexAddrQ E.P xt (s.ev x) (s.ev y) R s d) : ∃ v, QJ E ⟨some d, .indexAddr xt x y, t, pos, after, g⟩ s v none ∧ R (s.set d v) := by
  unfold indexAddrQ at h
  split at h
  · rename_i h1 h2; exact ⟨_, q_indexSh hn h.1.1 h1 h2 h.1.2, h.2⟩
  · rename_i h1 h2
    obtain ⟨⟨⟨h3, n, cs, h4, h5⟩, h6⟩, h7⟩ := h
    obtain ⟨z, hz⟩ := Option.isSome_iff_exists.1 h3
    have hz' : slT E.P xt = some (slSz E.P xt) := by simp [slSz, hz]
    exact ⟨_, q_indexOwn hn hz' h1 h2 h4 h5 h6, h7⟩
  · exact h.elim
theorem of_index {x y : Operand} {xt : TypeId} (hn : d < E.nt) (h : indexQ E.P xt (s.ev x) (s.ev y) R s d) : ∃ v, QJ E ⟨some d, .index xt x y, t, pos, after, g⟩ s v none ∧ R (s.set d v) := by
  unfold indexQ at h
  split at h
  · rename_i h1 h2; exact ⟨_, q_indexStr hn (of_isStr h.1.1) h1 h2 h.1.2, h.2⟩
  · exact h.elim
theorem of_fdOk {P : Program} {t : TypeId} {f : Nat} (h : fdOk P t f = true) : ∃ n g, fdT P t f = some (fdO P t f, n, g) ∧ n ≠ 0 := by
  unfold fdOk at h
  split at h
  · rename_i o n g e; exact ⟨n, g, by simp [fdO, e], by simpa using h⟩
  · cases h
theorem of_fieldAddr {x : Operand} {xt : TypeId} {f : Nat} (hn : d < E.nt) (h : fieldAddrQ E.P xt (s.ev x) f R s d) : ∃ v, QJ E ⟨some d, .fieldAddr xt x f, t, pos, after, g⟩ s v none ∧ R (s.set d v) := by
  unfold fieldAddrQ at h
  split at h
  · rename_i h1; obtain ⟨n, gg, h2, h3⟩ := of_fdOk h.1; exact ⟨_, q_fieldSh hn h2 h3 h1, h.2⟩
  · rename_i h1; obtain ⟨n, gg, h2, h3⟩ := of_fdOk h.1.1; exact ⟨_, q_fieldOwn hn h2 h3 h1 h.1.2.1 h.1.2.2, h.2⟩
  · exact h.elim
theorem of_load {x : Operand} {xt : TypeId} (hn : d < E.nt) (h : loadQ E.P xt (s.ev x) R s d) : ∃ v, QJ E ⟨some d, .load xt x, t, pos, after, g⟩ s v none ∧ R (s.set d v) := by
  unfold loadQ at h
  split at h
  · rename_i cs h1
    split at h
    · rename_i h2
      have ha : agT E.P xt = some true := by unfold ldA at h2; split at h2 <;> simp_all
      obtain ⟨⟨h3, h4⟩, h5⟩ := h
      obtain ⟨z, hz⟩ := Option.isSome_iff_exists.1 h3
      exact ⟨_, q_loadShAgg hn ha (by simp [szN, hz]) h1 h4, h5⟩
    · obtain ⟨⟨h3, h4⟩, h5⟩ := h
      have ha : agT E.P xt = some false := by unfold ldS at h3; split at h3 <;> simp_all
      exact ⟨_, q_loadSh hn ha h1 (c := cs.getD 0 .junk) (by simp [List.getD, List.getElem?_eq_getElem h4]), h5⟩
  · rename_i h1
    split at h
    · rename_i h2
      have ha : agT E.P xt = some true := by unfold ldA at h2; split at h2 <;> simp_all
      obtain ⟨⟨h3, h4, h5, h5'⟩, h6⟩ := h
      obtain ⟨z, hz⟩ := Option.isSome_iff_exists.1 h3
      have hz' : szN E.P xt = z := by simp [szN, hz]
      exact ⟨_, q_loadView hn (by rw [h1]; simp only [viewOf, h4, ha, hz, if_true]; rw [hz'] at h5 h5'; rw [if_pos ⟨h5, h5'⟩]), by rw [hz'] at h6; exact h6⟩
    · obtain ⟨⟨h3, h4, h5⟩, h6⟩ := h
      have ha : agT E.P xt = some false := by unfold ldS at h3; split at h3 <;> simp_all
      exact ⟨_, q_loadOwn hn ha h1 h4 h5, h6⟩
  · exact h.elim
theorem of_store {x y : Operand} {xt : TypeId} (h : storeQ E.P xt (s.ev x) (s.ev y) R s) : LJ E ⟨none, .store xt x y, t, pos, after, g⟩ s R := by
  unfold storeQ at h
  have tree : ∀ {r p o}, s.ev x = .ptr r p o → treeQ E.P xt r p o R (closeVs s (s.ev y).parts) → LJ E ⟨none, .store xt x y, t, pos, after, g⟩ s R := fun h1 h => by
    unfold treeQ at h
    split at h
    · rename_i As s1 hc
      obtain ⟨⟨h2, h3, h4, h5, h6⟩, h7⟩ := h
      exact l_storeTree h1 hc h2 h3 h4 h5 h6 h7
    · exact h.elim
  split at h
  · rename_i h1 h2; exact tree h1 (by rw [h2]; exact h)
  · rename_i h1 h2; exact tree h1 (by rw [h2]; exact h)
  · rename_i h1 h2; exact tree h1 (by rw [h2]; exact h)
  · rename_i h1 _ _ _; exact l_store h.1.1.1 h1 h.1.1.2.1 h.1.1.2.2 h.1.2 h.2
  · exact h.elim
theorem of_box {x : Operand} {xt : TypeId} (hn : d < E.nt) (h : boxQ d R (closeVs s (s.ev x).parts)) : LJ E ⟨some d, .box xt x, t, pos, after, g⟩ s R := by
  unfold boxQ at h
  split at h
  · rename_i As s1 hc; exact l_box hn hc h.1 h.2
  · exact h.elim
theorem of_alloc {xt : TypeId} (hn : d < E.nt) (h : allocQ E.P xt d R s) : LJ E ⟨some d, .alloc xt, t, pos, after, g⟩ s R := by
  unfold allocQ at h
  split at h
  · rename_i zs hz; exact l_alloc hn hz h
  · exact h.elim
theorem of_make {x y : Operand} {xt : TypeId} (hn : d < E.nt) (h : makeQ E.P xt (s.ev x) (s.ev y) R s d) : LJ E ⟨some d, .makeSlice xt x y, t, pos, after, g⟩ s R := by
  unfold makeQ at h
  split at h
  · rename_i k n k' m h1 h2
    obtain ⟨⟨h3, h4, rfl, h5, h6⟩, h7⟩ := h
    obtain ⟨n, rfl⟩ := Int.eq_ofNat_of_zero_le h4
    have : ∃ zs b, zcT E.P xt = some (zs, b) ∧ zsN E.P xt = zs ∧ byN E.P xt = b ∧ 0 < zs.length ∧ zs.all (·.oneCell') = true := by
      unfold zOk at h3
      split at h3
      · rename_i zs b e
        simp only [Bool.and_eq_true, decide_eq_true_eq] at h3
        exact ⟨zs, b, e, by simp [zsN, e], by simp [byN, e], h3.1, h3.2⟩
      · cases h3
    obtain ⟨zs, b, e1, e2, e3, e4, e5⟩ := this
    rw [e2] at h7
    rw [e3] at h5
    exact LJ.of_q (q_makeSlice hn e1 h1 h2 e4 (by have : ((b * n : Nat) : Int) ≤ 281474976710656 := by rw [Int.natCast_mul]; exact h5
                                                  omega) (by omega) e5) h7
  · exact h.elim
theorem of_field {x : Operand} {xt : TypeId} {f : Nat} (hn : d < E.nt) (h : fieldQ E.P xt (s.ev x) f R s d) : ∃ v, QJ E ⟨some d, .field xt x f, t, pos, after, g⟩ s v none ∧ R (s.set d v) := by
  unfold fieldQ at h
  split at h
  · rename_i cs h1
    obtain ⟨⟨h2, h3⟩, h4⟩ := h
    have : ∃ n, fdT E.P xt f = some (fdO E.P xt f, n, false) := by
      unfold fdS at h2
      split at h2
      · rename_i o n g e
        exact ⟨n, by simp [fdO, e] at *; exact h2⟩
      · cases h2
    obtain ⟨n, hn'⟩ := this
    exact ⟨_, q_field hn hn' h1 (c := cs.getD (fdO E.P xt f) .junk) (by simp [List.getD, List.getElem?_eq_getElem h3]), h4⟩
  · exact h.elim
theorem of_extract {x : Operand} {i : Nat} (hn : d < E.nt) (h : extractQ (s.ev x) i R s d) : ∃ v, QJ E ⟨some d, .extract x i, t, pos, after, g⟩ s v none ∧ R (s.set d v) := by
  unfold extractQ at h
  split at h
  · rename_i cs h1; exact ⟨_, q_extract hn h1 (c := cs.getD i .junk) (by simp [List.getD, List.getElem?_eq_getElem h.1]), h.2⟩
  · exact h.elim
end

/-- What is to be shown of an operation. -/
def opq (E : Env) (o : Oper) (R : ASt → Prop) (s : ASt) : Prop := LJ E o s R
def qv (E : Env) (o : Oper) (d : Nat) (R : ASt → Prop) (s : ASt) : Prop := match o.op with
  | .move x => d < E.nt ∧ R (s.set d (s.ev x))
  | .assign x => d < E.nt ∧ R (s.set d (s.ev x))
  | .pick c a b => d < E.nt ∧ pickQ (s.ev c) (s.ev a) (s.ev b) R s d
  | .binOp op t x y _ => d < E.nt ∧ binQ E.P op t (s.ev x) (s.ev y) R s d
  | .unOp op _ x => d < E.nt ∧ unQ op (s.ev x) R s d
  | .convert a b x => d < E.nt ∧ convQ E.P a b (s.ev x) R s d
  | .call { callee := .builtin .len, args := ⟨[x]⟩, argTypes := ⟨[t]⟩ } => d < E.nt ∧ lenQ E.P t (s.ev x) R s d
  | .call { callee := .builtin .max, args := ⟨[x, y]⟩, .. } => d < E.nt ∧ maxQ (s.ev x) (s.ev y) R s d
  | .call { callee := .builtin .min, args := ⟨[x, y]⟩, .. } => d < E.nt ∧ minQ (s.ev x) (s.ev y) R s d
  | .indexAddr t x i => d < E.nt ∧ indexAddrQ E.P t (s.ev x) (s.ev i) R s d
  | .index t x i => d < E.nt ∧ indexQ E.P t (s.ev x) (s.ev i) R s d
  | .fieldAddr t x f => d < E.nt ∧ fieldAddrQ E.P t (s.ev x) f R s d
  | .load t x => d < E.nt ∧ loadQ E.P t (s.ev x) R s d
  | .field t x f => d < E.nt ∧ fieldQ E.P t (s.ev x) f R s d
  | .extract x i => d < E.nt ∧ extractQ (s.ev x) i R s d
  | .makeFunc (.func f) ⟨[]⟩ ⟨caps⟩ => d < E.nt ∧ R (s.set d (.fn f (caps.map s.ev)))
  | .makeSlice t x y => d < E.nt ∧ makeQ E.P t (s.ev x) (s.ev y) R s d
  | .box t x => d < E.nt ∧ boxQ d R (closeVs s (s.ev x).parts)
  | .alloc t => d < E.nt ∧ allocQ E.P t d R s
  | _ => opq E o R s
def qn (E : Env) (o : Oper) (R : ASt → Prop) (s : ASt) : Prop := match o.op with
  | .store t x y => storeQ E.P t (s.ev x) (s.ev y) R s
  | _ => opq E o R s
def st1 (E : Env) (o : Oper) (R : ASt → Prop) (s : ASt) : Prop := match o.dst with
  | some d => qv E o d R s
  | none => qn E o R s

theorem of_st1 {E : Env} {o : Oper} {R : ASt → Prop} {s : ASt} (h : st1 E o R s) : LJ E o s R := by
  unfold st1 at h
  split at h
  · rename_i d hd
    obtain ⟨d0, op, t, pos, after, g⟩ := o
    simp only at hd
    subst hd
    have fin : (∃ v, QJ E ⟨some d, op, t, pos, after, g⟩ s v none ∧ R (s.set d v)) → LJ E ⟨some d, op, t, pos, after, g⟩ s R := fun ⟨v, h1, h2⟩ => LJ.of_q h1 h2
    unfold qv at h
    split at h
    · rename_i e; simp only at e; subst e; exact fin ⟨_, q_move h.1, h.2⟩
    · rename_i e; simp only at e; subst e; exact fin ⟨_, q_assign h.1, h.2⟩
    · rename_i e; simp only at e; subst e; exact fin (of_pick h.1 h.2)
    · rename_i e; simp only at e; subst e; exact fin (of_bin h.1 h.2)
    · rename_i e; simp only at e; subst e; exact fin (of_un h.1 h.2)
    · rename_i e; simp only at e; subst e; exact fin (of_conv h.1 h.2)
    · rename_i e; simp only at e; subst e; exact fin (of_len h.1 h.2)
    · rename_i e; simp only at e; subst e; exact fin (of_max h.1 h.2)
    · rename_i e; simp only at e; subst e; exact fin (of_min h.1 h.2)
    · rename_i e; simp only at e; subst e; exact fin (of_indexAddr h.1 h.2)
    · rename_i e; simp only at e; subst e; exact fin (of_index h.1 h.2)
    · rename_i e; simp only at e; subst e; exact fin (of_fieldAddr h.1 h.2)
    · rename_i e; simp only at e; subst e; exact fin (of_load h.1 h.2)
    · rename_i e; simp only at e; subst e; exact fin (of_field h.1 h.2)
    · rename_i e; simp only at e; subst e; exact fin (of_extract h.1 h.2)
    · rename_i e; simp only at e; subst e; exact fin ⟨_, q_makeFunc h.1, h.2⟩
    · rename_i e; simp only at e; subst e; exact of_make h.1 h.2
    · rename_i e; simp only at e; subst e; exact of_box h.1 h.2
    · rename_i e; simp only at e; subst e; exact of_alloc h.1 h.2
    · exact h
  · rename_i hd
    obtain ⟨d0, op, t, pos, after, g⟩ := o
    simp only at hd
    subst hd
    unfold qn at h
    split at h
    · rename_i e; simp only at e; subst e; exact of_store h
    · exact h

def skip1 (E : Env) (d : Option Tmp) (R : ASt → Prop) (s : ASt) : Prop := (∀ x, d = some x → x < E.nt) ∧ R (put s d (.lit Go.undef) none)
/-- An operation under a guard: 'v': what the guard gave, 'b': what it must be. -/
def GQ (E : Env) (v : AV) (b : Bool) (o : Oper) (R : ASt → Prop) (s : ASt) : Prop := ∃ c, v = .lit c ∧ ((c = .bool b ∧ st1 E o R s) ∨ (c ≠ .bool b ∧ skip1 E o.dst R s))

/-- The operations of a region, in the text's order; 'ds': the slots that they write. -/
def sq (E : Env) (ds : List (Option Tmp)) : List Oper → (ASt → Prop) → (ASt → Prop)
  | [] => fun k => k
  | o :: rest => fun k s => match o.guard with
    | none => st1 E o (sq E ds rest k) s
    | some (j, b) => match ds[j]? with
      | some (some d') => GQ E (s.t d') b o (sq E ds rest k) s
      | _ => False

theorem LJ.mono {E : Env} {o : Oper} {s : ASt} {k k' : ASt → Prop} (h : LJ E o s k) (hk : ∀ s, k s → k' s) : LJ E o s k' := fun a w hr =>
  Oper.wp_mono (fun a' w' ⟨s', h1, h2⟩ => ⟨s', h1, hk s' h2⟩) (h a w hr)

theorem sq_sound {E : Env} {ops : Array Oper} : ∀ {l : List Oper} {k : ASt → Prop} {s : ASt}, sq E (ops.toList.map (·.dst)) l k s → Seq E ops l k s
  | [], k, s, h => Seq.nil h
  | o :: rest, k, s, h => by
    simp only [sq] at h
    split at h
    · rename_i hg
      exact Seq.cons hg ((of_st1 h).mono fun s h => sq_sound h)
    · rename_i j b hg
      split at h
      · rename_i d hd
        have hd : (ops[j]?).bind (·.dst) = some d := by
          rw [List.getElem?_map, Array.getElem?_toList] at hd
          cases hx : ops[j]? with
          | none => simp [hx] at hd
          | some o' => simp only [hx, Option.map_some, Option.some.injEq] at hd; simp [hd]
        obtain ⟨c, hc, h1⟩ := h
        rcases h1 with ⟨rfl, h1⟩ | ⟨hcb, h1⟩
        · exact Seq.yes hg hd hc ((of_st1 h1).mono fun s h => sq_sound h)
        · exact Seq.no hg hd hc hcb h1.1 (sq_sound h1.2)
      · exact h.elim

/-- A test whose answer is 'v'. -/
def CBC (v : AV) (A B : ASt → Prop) (s : ASt) : Prop := ∃ b, v = .lit (.bool b) ∧ if b = true then A s else B s

/-- What is to be shown of a piece of code. -/
def aw (E : Env) : Code → (AX → ASt → Prop) → (ASt → Prop)
  | .skip => fun K => K .nm
  | .ret => fun K => K .rt
  | .exit id => fun K => K (.ex id)
  | .label _ => fun K => K .nm
  | .seq x y => fun K => aw E x (thenK (aw E y K) K)
  | .block id c => fun K => aw E c (blockK id K)
  | .cond c x y => fun K s => CBC (s.ev c) (aw E x K) (aw E y K) s
  | .region _ ops false => fun K => sq E (ops.toList.map (·.dst)) ops.toList (K .nm)
  | c => fun K => AWP E c K

theorem aw_sound {E : Env} : ∀ {c : Code} {K : AX → ASt → Prop} {s : ASt}, aw E c K s → AWP E c K s := by
  intro c
  induction c with
  | skip => intro K s h; exact AWP.skip h
  | ret => intro K s h; exact AWP.ret h
  | exit id => intro K s h; exact AWP.exit h
  | label l => intro K s h; exact AWP.label h
  | seq x y ihx ihy =>
    intro K s h
    exact AWP.seq ((ihx h).mono fun e s h => by cases e <;> first | exact ihy h | exact h)
  | block id c ih => intro K s h; exact AWP.block (ih h)
  | cond c x y ihx ihy =>
    intro K s h
    obtain ⟨b, h1, h2⟩ := h
    exact AWP.cond h1 (fun e => ihx (by rw [if_pos e] at h2; exact h2)) (fun e => ihy (by rw [if_neg (by simp [e])] at h2; exact h2))
  | region id ops draw =>
    intro K s h
    cases draw with
    | false =>
      obtain ⟨l⟩ := ops
      exact AWP.region (sq_sound h)
    | true => exact h
  | loop c _ => intro K s h; exact h
  | rangeFunc => intro K s h; exact h
  | scope c _ => intro K s h; exact h
  | goto l => intro K s h; exact h
  | refuse w => intro K s h; exact h

/-! ### The rules for 'simp only' -/
section
variable {E : Env} {K : AX → ASt → Prop} {k R A B : ASt → Prop} {s : ASt} {ds : List (Option Tmp)} {rest : List Oper}
theorem aw_skip : aw E .skip K s = K .nm s := rfl
theorem aw_ret : aw E .ret K s = K .rt s := rfl
theorem aw_exit {id : Nat} : aw E (.exit id) K s = K (.ex id) s := rfl
theorem aw_seq {x y : Code} : aw E (.seq x y) K s = aw E x (thenK (aw E y K) K) s := rfl
theorem aw_block {id : Nat} {c : Code} : aw E (.block id c) K s = aw E c (blockK id K) s := rfl
theorem aw_cond {c : Operand} {x y : Code} : aw E (.cond c x y) K s = CBC (s.ev c) (aw E x K) (aw E y K) s := rfl
theorem aw_region {id : Nat} {l : List Oper} : aw E (.region id l.toArray false) K s = sq E (l.map (·.dst)) l (K .nm) s := rfl
theorem thenK_nm : thenK k K .nm s = k s := rfl
theorem thenK_rt : thenK k K .rt s = K .rt s := rfl
theorem thenK_ex {i : Nat} : thenK k K (.ex i) s = K (.ex i) s := rfl
theorem blockK_nm {id : Nat} : blockK id K .nm s = K .nm s := rfl
theorem blockK_rt {id : Nat} : blockK id K .rt s = K .rt s := rfl
theorem blockK_ex {id i : Nat} : blockK id K (.ex i) s = if i = id then K .nm s else K (.ex i) s := rfl
theorem sq_nil : sq E ds [] k s = k s := rfl
theorem sq_none {d : Option Tmp} {op : Op} {t : TypeId} {pos : String} {after : Array Edge} : sq E ds (⟨d, op, t, pos, after, none⟩ :: rest) k s = st1 E ⟨d, op, t, pos, after, none⟩ (sq E ds rest k) s := rfl
theorem sq_some {d : Option Tmp} {op : Op} {t : TypeId} {pos : String} {after : Array Edge} {j : Nat} {b : Bool} : sq E ds (⟨d, op, t, pos, after, some (j, b)⟩ :: rest) k s = match ds[j]? with
    | some (some d') => GQ E (s.t d') b ⟨d, op, t, pos, after, some (j, b)⟩ (sq E ds rest k) s
    | _ => False := rfl
theorem GQ_same {b : Bool} {o : Oper} : GQ E (.lit (.bool b)) b o R s = st1 E o R s :=
  propext ⟨fun ⟨c, h1, h2⟩ => by
    simp only [AV.lit.injEq] at h1
    subst h1
    rcases h2 with h | h
    · exact h.2
    · exact absurd rfl h.1, fun h => ⟨_, rfl, .inl ⟨rfl, h⟩⟩⟩
theorem GQ_not {c : Value} {b : Bool} {o : Oper} (hc : c ≠ .bool b) : GQ E (.lit c) b o R s = skip1 E o.dst R s :=
  propext ⟨fun ⟨c', h1, h2⟩ => by
    simp only [AV.lit.injEq] at h1
    subst h1
    rcases h2 with h | h
    · exact absurd h.1 hc
    · exact h.2, fun h => ⟨_, rfl, .inr ⟨hc, h⟩⟩⟩
theorem GQ_tf {o : Oper} : GQ E (.lit (.bool true)) false o R s = skip1 E o.dst R s := GQ_not (by simp)
theorem GQ_ft {o : Oper} : GQ E (.lit (.bool false)) true o R s = skip1 E o.dst R s := GQ_not (by simp)
theorem GQ_undef {b : Bool} {o : Oper} : GQ E (.lit Go.undef) b o R s = skip1 E o.dst R s := GQ_not (by simp [Go.undef])
theorem GQ_split {c b : Bool} {o : Oper} (h1 : c = true → GQ E (.lit (.bool true)) b o R s) (h2 : c = false → GQ E (.lit (.bool false)) b o R s) : GQ E (.lit (.bool c)) b o R s := by
  cases c
  · exact h2 rfl
  · exact h1 rfl
theorem CBC_true : CBC (.lit (.bool true)) A B s = A s :=
  propext ⟨fun ⟨c, h1, h2⟩ => by simp only [AV.lit.injEq, Value.bool.injEq] at h1; subst h1; simpa using h2, fun h => ⟨true, rfl, by simpa using h⟩⟩
theorem CBC_false : CBC (.lit (.bool false)) A B s = B s :=
  propext ⟨fun ⟨c, h1, h2⟩ => by simp only [AV.lit.injEq, Value.bool.injEq] at h1; subst h1; simpa using h2, fun h => ⟨false, rfl, by simpa using h⟩⟩
theorem CBC_split {b : Bool} (h1 : b = true → A s) (h2 : b = false → B s) : CBC (.lit (.bool b)) A B s := ⟨b, rfl, by
  cases b
  · simpa using h2 rfl
  · simpa using h1 rfl⟩
theorem CBC_not {b : Bool} : CBC (.lit (.bool !b)) A B s = CBC (.lit (.bool b)) B A s := by cases b <;> simp only [Bool.not_true, Bool.not_false, CBC_true, CBC_false]
theorem set_t {d i : Nat} {v : AV} : (s.set d v).t i = if i = d then v else s.t i := rfl
theorem set_m {d : Nat} {v : AV} : (s.set d v).m = s.m := rfl
theorem new_t {d i : Nat} {v T : AV} : (s.new d v T).t i = if i = d then v else (s.t i).mapRef (killF d []) := rfl
theorem new_m {d r : Nat} {v T : AV} : (s.new d v T).m r = if r = d then some T else s.m r := rfl
theorem updM_t {r i : Nat} {p : List Nat} {T : AV} : (s.updM r p T).t i = s.t i := rfl
theorem updM_m {r q : Nat} {p : List Nat} {T : AV} : (s.updM r p T).m q = if q = r then (s.m r).map (·.upd p T) else s.m q := rfl
theorem nodeOf_nil {r : Nat} : nodeOf s r [] = s.m r := by cases h : s.m r <;> simp [nodeOf, h, AV.at_]
theorem upd_nil {A T : AV} : A.upd [] T = T := by simp [AV.upd]
theorem ev_tmp {t : Nat} : s.ev (.tmp t) = s.t t := rfl
theorem ev_const {v : Value} : s.ev (.const v) = .lit v := rfl
theorem ev_func {f : Nat} : s.ev (.func f) = .fn f [] := rfl
theorem skip1_some {d : Nat} : skip1 E (some d) R s = (d < E.nt ∧ R (s.set d (.lit Go.undef))) := propext ⟨fun h => ⟨h.1 d rfl, h.2⟩, fun h => ⟨fun x e => (by cases e; exact h.1), h.2⟩⟩
theorem skip1_none : skip1 E none R s = R s := propext ⟨fun h => h.2, fun h => ⟨fun x e => (by cases e), h⟩⟩
theorem startT_t {args : List AV} {i : Nat} : (startT args).t i = args.getD i .junk := by simp [startT, List.getD]
end

end Go.Av
