/- The operations, one by one: those that only compute and read. -/
import Derived.Test.YteohnapehmdgaaaDoorAZzE
set_option linter.unusedSimpArgs false
set_option linter.unusedVariables false
/-! The operations, one by one: those that only compute and read. -/
namespace Go.Av

theorem QJ.val {E : Env} {o : Oper} {s : ASt} {v : AV} {d : Nat} (hd : o.dst = some d) (hn : d < E.nt)
    (h : ∀ s' M G a w, Le s s' → RelX E M G s' a w → ∃ u w', (execOp a.eval o).run E.P w = .ok (.value u) w' ∧ Ext (fun _ => False) w w' ∧ VR w' G M v u) : QJ E o s v none := by
  rintro s' hle a w ⟨M, G, hX⟩
  obtain ⟨u, w', hrun, hw, hv⟩ := h s' M G a w hle hX
  unfold Oper.wp
  rw [hrun]
  simp only [Oper.upon, hd, put]
  exact ⟨M, G, hX.set hn hw hv⟩

theorem QJ.mem {E : Env} {o : Oper} {s : ASt} {v A : AV} {d : Nat} (hd : o.dst = some d) (hn : d < E.nt)
    (h : ∀ s' M G a w, Le s s' → RelX E M G s' a w → ∃ u w' G' T, (execOp a.eval o).run E.P w = .ok (.value u) w' ∧ Ext (fun _ => False) w w' ∧ (∀ x, G x → G' x) ∧ (∀ x, G' x → G x ∨ (w.heap.size ≤ x ∧ x < w'.heap.size)) ∧
      T.erase = A ∧ Sat w' G' T ∧ T.blocks.Nodup ∧ (∀ x ∈ T.blocks, w.heap.size ≤ x ∧ x < w'.heap.size ∧ ¬ G' x) ∧ VR w' G' (updF M d (some T)) v u) : QJ E o s v (some A) := by
  rintro s' hle a w ⟨M, G, hX⟩
  obtain ⟨u, w', G', T, hrun, hw, h1, h2, rfl, h3, h4, h5, hv⟩ := h s' M G a w hle hX
  unfold Oper.wp
  rw [hrun]
  simp only [Oper.upon, hd, put]
  exact ⟨_, _, hX.new hn hw h1 h2 h3 h4 h5 hv⟩

theorem Le.evs {s s' : ASt} (h : Le s s') (x : Operand) : s.ev x = .junk ∨ s'.ev x = s.ev x := by
  cases x with
  | tmp t => exact h.t t
  | const v => exact .inr rfl
  | global g => exact .inr rfl
  | func f => exact .inr rfl
theorem RelX.evLe {E : Env} {M : Nat → Option HT} {G : Nat → Prop} {s s' : ASt} {a : Act} {w : World} (h : RelX E M G s' a w) (hle : Le s s') (x : Operand) : VR w G M (s.ev x) (a.eval x) := by
  rcases hle.evs x with e | e
  · rw [e]; exact .junk _
  · rw [← e]; exact h.ev x
theorem RelX.lit {E : Env} {M : Nat → Option HT} {G : Nat → Prop} {s s' : ASt} {a : Act} {w : World} (h : RelX E M G s' a w) (hle : Le s s') {x : Operand} {v : Value} (hx : s.ev x = .lit v) : a.eval x = v := by
  have := h.evLe hle x
  rw [hx] at this
  exact this.bool

theorem q_move {E : Env} {s : ASt} {d : Nat} {x : Operand} {t : TypeId} {pos : String} {after : Array Edge} {g : Option (Nat × Bool)} (hn : d < E.nt) : QJ E ⟨some d, .move x, t, pos, after, g⟩ s (s.ev x) none :=
  .val rfl hn fun s' M G a w hle hX => ⟨a.eval x, w, rfl, Ext.refl _ _, hX.evLe hle x⟩
theorem q_assign {E : Env} {s : ASt} {d : Nat} {x : Operand} {t : TypeId} {pos : String} {after : Array Edge} {g : Option (Nat × Bool)} (hn : d < E.nt) : QJ E ⟨some d, .assign x, t, pos, after, g⟩ s (s.ev x) none :=
  .val rfl hn fun s' M G a w hle hX => ⟨a.eval x, w, rfl, Ext.refl _ _, hX.evLe hle x⟩
theorem q_pick {E : Env} {s : ASt} {d : Nat} {c x y : Operand} {t : TypeId} {pos : String} {after : Array Edge} {g : Option (Nat × Bool)} {b : Bool} (hn : d < E.nt) (hc : s.ev c = .lit (.bool b)) :
    QJ E ⟨some d, .pick c x y, t, pos, after, g⟩ s (bif b then s.ev x else s.ev y) none :=
  .val rfl hn fun s' M G a w hle hX => ⟨if b then a.eval x else a.eval y, w, by simp [execOp, hX.lit hle hc, asBool], Ext.refl _ _, by cases b <;> simp <;> exact hX.evLe hle _⟩

/-- Two integers. -/
def intV (op : BinOp) (k : IntKind) (a b : Int) : Value :=
  match op with
  | .add => .int k (k.wrap (a + b))
  | .sub => .int k (k.wrap (a - b))
  | .mul => .int k (k.wrap (a * b))
  | .quo => .int k (k.wrap (a.tdiv b))
  | .rem => .int k (a.tmod b)
  | .and => .int k (k.wrap (BitVec.ofInt k.bits a &&& BitVec.ofInt k.bits b).toNat)
  | .or => .int k (k.wrap (BitVec.ofInt k.bits a ||| BitVec.ofInt k.bits b).toNat)
  | .xor => .int k (k.wrap (BitVec.ofInt k.bits a ^^^ BitVec.ofInt k.bits b).toNat)
  | .andNot => .int k (k.wrap (BitVec.ofInt k.bits a &&& ~~~ BitVec.ofInt k.bits b).toNat)
  | .shl => .int k (k.wrap (a * 2 ^ (min b.toNat k.bits)))
  | .shr => .int k (a.fdiv (2 ^ (min b.toNat k.bits)))
  | .eql => .bool (a == b)
  | .neq => .bool (a != b)
  | .lss => .bool (decide (a < b))
  | .leq => .bool (decide (a ≤ b))
  | .gtr => .bool (decide (a > b))
  | .geq => .bool (decide (a ≥ b))
def intOk (op : BinOp) (k k' : IntKind) (b : Int) : Prop :=
  match op with
  | .shl | .shr => 0 ≤ b
  | .quo | .rem => k = k' ∧ b ≠ 0
  | _ => k = k'
def strV (op : BinOp) (x y : ByteArray) : Value :=
  match op with
  | .add => .string (x ++ y)
  | .eql => .bool (x.toList == y.toList)
  | .neq => .bool (!(x.toList == y.toList))
  | .lss => .bool (Op.bytesLess x.toList y.toList)
  | .leq => .bool (Op.bytesLess x.toList y.toList || x.toList == y.toList)
  | .gtr => .bool (!(Op.bytesLess x.toList y.toList || x.toList == y.toList))
  | .geq => .bool (!Op.bytesLess x.toList y.toList)
  | _ => .string x
def strOk (op : BinOp) (x y : ByteArray) : Prop :=
  match op with
  | .add => x.size + y.size ≤ 9223372036854775807
  | .eql | .neq | .lss | .leq | .gtr | .geq => True
  | _ => False

theorem eqGuard_of (op : BinOp) (t : TypeId) (x y : Operand) (u v : Value) (h : (match u with | .nilIface | .agg _ => false | _ => true) = true) : eqGuard op t x y u v = pure () := by
  unfold eqGuard
  cases op <;> first | rfl | (cases u <;> first | rfl | (simp at h) | (cases v <;> rfl))

theorem int_run {P : Program} {op : BinOp} {k k' : IntKind} {t : TypeId} {a b : Int} (h : intOk op k k' b) (w : World) : (binOp op t (.int k a) (.int k' b)).run P w = .ok (intV op k a b) w := by
  cases op <;> simp only [intOk] at h
  all_goals first
    | (obtain ⟨rfl, h0⟩ := h; simp [binOp, Op.intDiv, h0, intV]; done)
    | (obtain rfl := h; simp [binOp, Op.intArith, Op.intBits, Op.intCmp, intV]; done)
    | (simp [binOp, Op.shift, show ¬ b < 0 by omega, intV]; done)

theorem str_run {P : Program} {op : BinOp} {t : TypeId} {x y : ByteArray} (h : strOk op x y) (w : World) : (binOp op t (.string x) (.string y)).run P w = .ok (strV op x y) w := by
  cases op <;> simp only [strOk] at h
  all_goals first
    | (simp [binOp, Op.stringOp, strV]; done)
    | (simp [binOp, Op.stringOp, IntKind.max, IntKind.signed, IntKind.bits, show ¬ ((x.size : Int) + y.size > 9223372036854775807) by omega, strV]; done)

theorem q_int {E : Env} {s : ASt} {d : Nat} {op : BinOp} {x y : Operand} {t xt yt : TypeId} {pos : String} {after : Array Edge} {g : Option (Nat × Bool)} {k k' : IntKind} {a b : Int} (hn : d < E.nt)
    (hx : s.ev x = .lit (.int k a)) (hy : s.ev y = .lit (.int k' b)) (h : intOk op k k' b) : QJ E ⟨some d, .binOp op xt x y yt, t, pos, after, g⟩ s (.lit (intV op k a b)) none :=
  .val rfl hn fun s' M G a' w hle hX => ⟨_, w, by simp [execOp, hX.lit hle hx, hX.lit hle hy, eqGuard_of, int_run h], Ext.refl _ _, .lit _⟩
theorem q_str {E : Env} {s : ASt} {d : Nat} {op : BinOp} {x y : Operand} {t xt yt : TypeId} {pos : String} {after : Array Edge} {g : Option (Nat × Bool)} {a b : ByteArray} (hn : d < E.nt)
    (hx : s.ev x = .lit (.string a)) (hy : s.ev y = .lit (.string b)) (h : strOk op a b) : QJ E ⟨some d, .binOp op xt x y yt, t, pos, after, g⟩ s (.lit (strV op a b)) none :=
  .val rfl hn fun s' M G a' w hle hX => ⟨_, w, by simp [execOp, hX.lit hle hx, hX.lit hle hy, eqGuard_of, str_run h], Ext.refl _ _, .lit _⟩
def boolV : BinOp → Bool → Bool → Option Bool
  | .eql, a, b => some (a == b)
  | .neq, a, b => some (!(a == b))
  | _, _, _ => none
theorem q_bool {E : Env} {s : ASt} {d : Nat} {op : BinOp} {x y : Operand} {t xt yt : TypeId} {pos : String} {after : Array Edge} {g : Option (Nat × Bool)} {a b c : Bool} (hn : d < E.nt) (ht : E.P.underlying xt = some .bool)
    (hx : s.ev x = .lit (.bool a)) (hy : s.ev y = .lit (.bool b)) (h : boolV op a b = some c) : QJ E ⟨some d, .binOp op xt x y yt, t, pos, after, g⟩ s (.lit (.bool c)) none :=
  .val rfl hn fun s' M G a' w hle hX => ⟨_, w, by
    cases op <;> simp only [boolV, Option.some.injEq] at h
    all_goals first
      | (subst h; simp [execOp, hX.lit hle hx, hX.lit hle hy, eqGuard_of, run_eql_bool _ _ _ _ ht, run_neq_bool _ _ _ _ ht]; done)
      | (cases h; done), Ext.refl _ _, .lit _⟩
def unV : UnOp → Value → Option Value
  | .neg, .int k n => some (.int k (k.wrap (0 - n)))
  | .not, .bool b => some (.bool !b)
  | .xor, .int k n => some (.int k (k.wrap (BitVec.ofInt k.bits (if k.signed then -1 else k.max) ^^^ BitVec.ofInt k.bits n).toNat))
  | .neg, .float k b => some (.float k (Op.negFloat k b))
  | _, _ => none
theorem q_un {E : Env} {s : ASt} {d : Nat} {op : UnOp} {x : Operand} {t xt : TypeId} {pos : String} {after : Array Edge} {g : Option (Nat × Bool)} {a c : Value} (hn : d < E.nt)
    (hx : s.ev x = .lit a) (h : unV op a = some c) : QJ E ⟨some d, .unOp op xt x, t, pos, after, g⟩ s (.lit c) none :=
  .val rfl hn fun s' M G a' w hle hX => ⟨_, w, by
    unfold unV at h
    split at h
    all_goals first
      | (cases h; done)
      | (simp only [Option.some.injEq] at h; subst h; simp [execOp, hX.lit hle hx, Op.unary, Op.intArith, Op.intBits]; done), Ext.refl _ _, .lit _⟩
theorem q_convInt {E : Env} {s : ASt} {d : Nat} {x : Operand} {t src dst : TypeId} {pos : String} {after : Array Edge} {g : Option (Nat × Bool)} {k k' k0 : IntKind} {n : Int} (hn : d < E.nt)
    (hs : E.P.underlying src = some (.int k0)) (ht : E.P.underlying dst = some (.int k')) (hx : s.ev x = .lit (.int k n)) : QJ E ⟨some d, .convert src dst x, t, pos, after, g⟩ s (.lit (.int k' (k'.wrap n))) none :=
  .val rfl hn fun s' M G a' w hle hX => ⟨_, w, by simp [execOp, hX.lit hle hx, convert, run_underlying hs, run_underlying ht, Conv.intToInt], Ext.refl _ _, .lit _⟩

/-- The byte at a place of a text. -/
def byteAt (s : ByteArray) (i : Int) : Int := if h : i.toNat < s.size then ((s[i.toNat]'h).toNat : Int) else 0
theorem q_indexStr {E : Env} {s : ASt} {d : Nat} {x y : Operand} {t xt : TypeId} {pos : String} {after : Array Edge} {g : Option (Nat × Bool)} {str : ByteArray} {k : IntKind} {i : Int} (hn : d < E.nt)
    (ht : E.P.underlying xt = some .string) (hx : s.ev x = .lit (.string str)) (hy : s.ev y = .lit (.int k i)) (h : 0 ≤ i ∧ i < str.size) : QJ E ⟨some d, .index xt x y, t, pos, after, g⟩ s (.lit (.int .u8 (byteAt str i))) none :=
  .val rfl hn fun s' M G a' w hle hX => ⟨_, w, by
    have hi : i.toNat < str.size := by omega
    have hg : str[i.toNat]? = some str[i.toNat] := getElem?_pos str i.toNat hi
    simp [execOp, hX.lit hle hx, hX.lit hle hy, Instr.index, asIntOf, run_underlying ht, h.1, hg, byteAt, hi], Ext.refl _ _, .lit _⟩

def lenV : AV → Option Nat
  | .lit (.string s) => some s.size
  | .lit (.slice _ n _) => some n
  | .row _ _ n _ => some n
  | .sl _ _ _ len => some len
  | _ => none
def isStrT (P : Program) (t : TypeId) : Bool := match P.underlying t with | some .string => true | _ => false
def isSlT (P : Program) (t : TypeId) : Bool := match P.underlying t with | some (.slice _) => true | _ => false

end Go.Av
