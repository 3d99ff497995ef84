/- The walk: what is to be shown of a piece of code, for 'simp only [walk lemmas]'. -/
import Derived.Test.YteohnapehmdgaaaDoorAZzO
import Derived.WalkSpells
import GoSem.Core.Float
set_option linter.unusedSimpArgs false
set_option linter.unusedVariables false
/-! The walk: what is to be shown of a piece of code, for 'simp only [walk lemmas]'. -/
namespace Go.Av

/-! One operation: 'R': what is to be shown behind it; 'd': the slot that it writes. No binder stands round 'R': 'simp' does not look into what is not yet to be done. -/
def fdO (P : Program) (t : TypeId) (f : Nat) : Nat := match fdT P t f with
  | some (o, _, _) => o
  | none => 0
def fdOk (P : Program) (t : TypeId) (f : Nat) : Bool := match fdT P t f with
  | some (_, n, _) => n != 0
  | none => false
def fdN (P : Program) (t : TypeId) (f : Nat) : Nat := match fdT P t f with
  | some (_, n, _) => n
  | none => 0
def fdS (P : Program) (t : TypeId) (f : Nat) : Bool := match fdT P t f with
  | some (_, _, g) => !g
  | none => false
def ldA (P : Program) (t : TypeId) : Bool := match agT P t with
  | some b => b
  | none => false
def ldS (P : Program) (t : TypeId) : Bool := match agT P t with
  | some b => !b
  | none => false
def szN (P : Program) (t : TypeId) : Nat := (szT P t).getD 0
def isStr (P : Program) (t : TypeId) : Bool := match P.underlying t with
  | some .string => true
  | _ => false
def isBl (P : Program) (t : TypeId) : Bool := match P.underlying t with
  | some .bool => true
  | _ => false
def intKd (P : Program) (t : TypeId) : Option IntKind := match P.underlying t with
  | some (.int k) => some k
  | _ => none

def slSz (P : Program) (t : TypeId) : Nat := (slT P t).getD 0
def zsN (P : Program) (t : TypeId) : List Value := match zcT P t with
  | some (zs, _) => zs
  | none => []
def byN (P : Program) (t : TypeId) : Nat := match zcT P t with
  | some (_, b) => b
  | none => 0
def zOk (P : Program) (t : TypeId) : Bool := match zcT P t with
  | some (zs, _) => decide (0 < zs.length) && zs.all (·.oneCell')
  | none => false
/-- A row of the call's own of at least 'm' elements lies there. -/
def rowIn (s : ASt) (r : Nat) (p : List Nat) (sz m : Nat) : Prop := ∃ n cs, nodeOf s r p = some (.row true sz n cs) ∧ m ≤ n

/-- Two floats. -/
def fltV (op : BinOp) (k : FloatKind) (x y : Nat) : Option Value := match op with
  | .add => (k.format.add x y).map (.float k)
  | .sub => (k.format.sub x y).map (.float k)
  | .mul => (k.format.mul x y).map (.float k)
  | .quo => (k.format.div x y).map (.float k)
  | .eql => some (.bool (k.format.order x y == some .eq))
  | .neq => some (.bool (k.format.order x y != some .eq))
  | .lss => some (.bool (k.format.order x y == some .lt))
  | .leq => some (.bool (k.format.order x y == some .lt || k.format.order x y == some .eq))
  | .gtr => some (.bool (k.format.order x y == some .gt))
  | .geq => some (.bool (k.format.order x y == some .gt || k.format.order x y == some .eq))
  | _ => none
def fltKd (P : Program) (t : TypeId) : Option FloatKind := match P.underlying t with
  | some (.float k) => some k
  | _ => none
def pickQ (c a b : AV) (R : ASt → Prop) (s : ASt) (d : Nat) : Prop := match c with
  | .lit (.bool x) => R (s.set d (bif x then a else b))
  | _ => False
def binQ (P : Program) (op : BinOp) (t : TypeId) (x y : AV) (R : ASt → Prop) (s : ASt) (d : Nat) : Prop := match x, y with
  | .lit (.int j a), .lit (.int j' b) => intOk op j j' b ∧ R (s.set d (.lit (intV op j a b)))
  | .lit (.string a), .lit (.string b) => strOk op a b ∧ R (s.set d (.lit (strV op a b)))
  | .lit (.float j a), .lit (.float j' b) => (match fltV op j a b with
    | some v => j = j' ∧ R (s.set d (.lit v))
    | none => False)
  | .lit (.bool a), .lit (.bool b) => (isBl P t = true ∧ (op = .eql ∨ op = .neq)) ∧ R (s.set d (.lit (.bool (if op = .eql then a == b else !(a == b)))))
  | _, _ => False
/-- A row of no element that is known to be nil has the size 0. -/
def nsz (n sz : Nat) : Nat := if n = 0 then 0 else sz
theorem nsz_zero {z : Nat} : nsz 0 z = 0 := nrfl rfl
theorem nsz_one {z : Nat} : nsz 1 z = z := nrfl rfl
theorem nsz_two {z : Nat} : nsz 2 z = z := nrfl rfl
theorem nsz_succ {n z : Nat} : nsz (n + 1) z = z := if_neg (Nat.succ_ne_zero n)
theorem nsz_imp {n z : Nat} : (n = 0 → nsz n z = 0) = True := eq_true (fun h => if_pos h)
def nilSl (P : Program) (op : BinOp) (t : TypeId) (len : Nat) (R : ASt → Prop) (s : ASt) (d : Nat) : Option AV → Prop
  | some (.row true sz n _) => (((slT P t).isSome = true ∧ op = .eql) ∧ len = n ∧ (n = 0 → sz = 0)) ∧ R (s.set d (.lit (.bool (decide (n = 0)))))
  | _ => False
/-- As binQ; a slice that somebody else owns may be compared with nil: an empty one may be nil or not. -/
def binS (P : Program) (op : BinOp) (t : TypeId) (x y : AV) (R : ASt → Prop) (s : ASt) (d : Nat) : Prop := match x, y with
  | .row _ _ n _, .lit (.slice none 0 0) => ((slT P t).isSome = true ∧ (op = .eql ∨ op = .neq)) ∧ ∀ b : Bool, (0 < n → b = (if op = .eql then false else true)) → R (s.set d (.lit (.bool b)))
  | .sl r p 0 len, .lit (.slice none 0 0) => nilSl P op t len R s d (nodeOf s r p)
  | _, _ => binQ P op t x y R s d
def unQ (op : UnOp) (x : AV) (R : ASt → Prop) (s : ASt) (d : Nat) : Prop := match op, x with
  | .neg, .lit (.int k n) => R (s.set d (.lit (.int k (k.wrap (0 - n)))))
  | .not, .lit (.bool b) => R (s.set d (.lit (.bool !b)))
  | .xor, .lit (.int k n) => R (s.set d (.lit (.int k (k.wrap (BitVec.ofInt k.bits (if k.signed then -1 else k.max) ^^^ BitVec.ofInt k.bits n).toNat))))
  | .neg, .lit (.float k b) => R (s.set d (.lit (.float k (Op.negFloat k b))))
  | _, _ => False
def rowB (R : ASt → Prop) (s : ASt) (d : Nat) : Option (List Int) → Prop
  | some ns => R (s.set d (.lit (.string (strOf ns))))
  | none => False
def convSl (P : Program) (a b : TypeId) (off len : Nat) (R : ASt → Prop) (s : ASt) (d : Nat) : Option AV → Prop
  | some (.row true 1 n cs) => (u8sl P a = true ∧ isStr P b = true ∧ off + len ≤ n ∧ leafCs ((cs.drop (off * 1)).take (len * 1)) = true ∧ fitCs ((cs.drop (off * 1)).take (len * 1)) = true) ∧ rowB R s d (bytesA ((cs.drop (off * 1)).take (len * 1)))
  | _ => False
def convQ (P : Program) (a b : TypeId) (x : AV) (R : ASt → Prop) (s : ASt) (d : Nat) : Prop := match x with
  | .lit (.int _ n) => if (intKd P b).isSome = true then (intKd P a).isSome = true ∧ R (s.set d (.lit (.int ((intKd P b).getD .i64) (((intKd P b).getD .i64).wrap n)))) else
      ((intKd P a).isSome = true ∧ (fltKd P b).isSome = true) ∧ R (s.set d (.lit (.float ((fltKd P b).getD .f64) (((fltKd P b).getD .f64).nearest n))))
  | .lit (.string z) => (isStr P a = true ∧ isStr P b = true) ∧ R (s.set d (.lit (.string z)))
  | .row false 1 n cs => (u8sl P a = true ∧ isStr P b = true ∧ leafCs cs = true ∧ fitCs cs = true) ∧ rowB R s d (bytesA cs)
  | .sl r p off len => convSl P a b off len R s d (nodeOf s r p)
  | _ => False
def lenQ (P : Program) (t : TypeId) (x : AV) (R : ASt → Prop) (s : ASt) (d : Nat) : Prop := match x with
  | .lit (.string a) => isStr P t = true ∧ R (s.set d (.lit (.int .i64 a.size)))
  | .row false _ n _ => (slT P t).isSome = true ∧ R (s.set d (.lit (.int .i64 n)))
  | .sl r p off len => ((slT P t).isSome = true ∧ rowAny s r p (off + len)) ∧ R (s.set d (.lit (.int .i64 len)))
  | _ => False
def maxQ (x y : AV) (R : ASt → Prop) (s : ASt) (d : Nat) : Prop := match x, y with
  | .lit (.int k a), .lit (.int _ b) => R (s.set d (.lit (.int k (if b > a then b else a))))
  | _, _ => False
def minQ (x y : AV) (R : ASt → Prop) (s : ASt) (d : Nat) : Prop := match x, y with
  | .lit (.int k a), .lit (.int _ b) => R (s.set d (.lit (.int k (if b < a then b else a))))
  | _, _ => False
def indexAddrQ (P : Program) (t : TypeId) (x i : AV) (R : ASt → Prop) (s : ASt) (d : Nat) : Prop := match x, i with
  | .row false sz n cs, .lit (.int _ j) => (slT P t = some sz ∧ (0 ≤ j ∧ j < n)) ∧ R (s.set d (.box false (cs.drop (j.toNat * sz))))
  | .sl r p off len, .lit (.int _ j) => (((slT P t).isSome = true ∧ rowIn s r p (slSz P t) (off + len)) ∧ (0 ≤ j ∧ j < len)) ∧ R (s.set d (.ptr r p ((off + j.toNat) * slSz P t)))
  | _, _ => False
def indexQ (P : Program) (t : TypeId) (x i : AV) (R : ASt → Prop) (s : ASt) (d : Nat) : Prop := match x, i with
  | .lit (.string a), .lit (.int _ j) => (isStr P t = true ∧ (0 ≤ j ∧ j < a.size)) ∧ R (s.set d (.lit (.int .u8 (byteAt a j))))
  | _, _ => False
def fieldAddrQ (P : Program) (t : TypeId) (x : AV) (f : Nat) (R : ASt → Prop) (s : ASt) (d : Nat) : Prop := match x with
  | .box false cs => fdOk P t f = true ∧ R (s.set d (.box false (cs.drop (fdO P t f))))
  | .ptr r p o => (fdOk P t f = true ∧ memN (nodeOf s r p) = true ∧ (cellsOf (nodeOf s r p)).length ≠ 0) ∧ R (s.set d (.ptr r p (o + fdO P t f)))
  | _ => False
def loadQ (P : Program) (t : TypeId) (x : AV) (R : ASt → Prop) (s : ASt) (d : Nat) : Prop := match x with
  | .box false cs => if ldA P t = true then ((szT P t).isSome = true ∧ szN P t ≤ cs.length) ∧ R (s.set d (.agg (cs.take (szN P t)))) else (ldS P t = true ∧ 0 < cs.length) ∧ R (s.set d (cs.getD 0 .junk))
  | .ptr r p o => if ldA P t = true then ((szT P t).isSome = true ∧ memN (nodeOf s r p) = true ∧ 0 < szN P t ∧ o + szN P t ≤ (cellsOf (nodeOf s r p)).length) ∧ R (s.set d (.agg (openCs r p o (((cellsOf (nodeOf s r p)).drop o).take (szN P t))))) else (ldS P t = true ∧ memN (nodeOf s r p) = true ∧ o < (cellsOf (nodeOf s r p)).length) ∧ R (s.set d (openC r (p ++ [o]) ((cellsOf (nodeOf s r p)).getD o .junk)))
  | _ => False
def treeR (r : Nat) (p : List Nat) (o : Nat) (R : ASt → Prop) (s1 : ASt) (As : List AV) : Prop :=
  if leafCs As = true then R (s1.updM r p (setNs o As (nodeOf s1 r p))) else R ((s1.updM r p (setNs o As (nodeOf s1 r p))).mapT (killR r p o As.length))
def treeQ (P : Program) (t : TypeId) (r : Nat) (p : List Nat) (o : Nat) (R : ASt → Prop) : Option (List AV × ASt) → Prop
  | some (As, s1) => (fitCs As = true ∧ szT P t = some As.length ∧ 0 < As.length ∧ memN (nodeOf s1 r p) = true ∧ o + As.length ≤ (cellsOf (nodeOf s1 r p)).length) ∧ treeR r p o R s1 (nilTs (nzT P t) As)
  | none => False
def nilQ (x : AV) (R : ASt → Prop) (s : ASt) (d : Nat) : Prop := match x with
  | .box false cs => R (s.set d (.box false cs))
  | .ptr r p o => (memN (nodeOf s r p) = true ∧ (cellsOf (nodeOf s r p)).length ≠ 0) ∧ R (s.set d (.ptr r p o))
  | _ => False
def storeQ (P : Program) (t : TypeId) (x v : AV) (R : ASt → Prop) (s : ASt) : Prop := match x, v with
  | .ptr r p o, .agg vs => treeQ P t r p o R (closeVs s vs)
  | .ptr r p o, .sl q p' o' l => treeQ P t r p o R (closeVs s [.sl q p' o' l])
  | .ptr r p o, .ptr q p' o' => treeQ P t r p o R (closeVs s [.ptr q p' o'])
  | .ptr r p o, v => ((szT P t = some 1 ∧ memN (nodeOf s r p) = true ∧ o < (cellsOf (nodeOf s r p)).length) ∧ stOk v = true) ∧ R (s.updM r p (setN o v (nodeOf s r p)))
  | _, _ => False
def boxQ (d : Nat) (R : ASt → Prop) : Option (List AV × ASt) → Prop
  | some (As, s1) => fitCs As = true ∧ R (s1.new d (.ptr d [] 0) (.box true As))
  | none => False
def allocQ (P : Program) (t : TypeId) (d : Nat) (R : ASt → Prop) (s : ASt) : Prop := match zvT P t with
  | some zs => R (s.new d (.ptr d [] 0) (.box true (nilTs (nzT P t) (zs.map .lit))))
  | none => False
def makeQ (P : Program) (t : TypeId) (x y : AV) (R : ASt → Prop) (s : ASt) (d : Nat) : Prop := match x, y with
  | .lit (.int _ n), .lit (.int _ m) => (zOk P t = true ∧ 0 ≤ n ∧ m = n ∧ (byN P t : Int) * n ≤ 281474976710656 ∧ n ≤ 9223372036854775807) ∧ R (s.new d (.sl d [] 0 n.toNat) (.row true (zsN P t).length n.toNat (nilRq (nzE P t) n.toNat ((zCells (zsN P t) n.toNat).map .lit))))
  | _, _ => False
def fieldQ (P : Program) (t : TypeId) (x : AV) (f : Nat) (R : ASt → Prop) (s : ASt) (d : Nat) : Prop := match x with
  | .agg cs => if fdS P t f = true then (fdO P t f < cs.length) ∧ R (s.set d (cs.getD (fdO P t f) .junk)) else
      (fdOk P t f = true ∧ fdO P t f + fdN P t f ≤ cs.length) ∧ R (s.set d (.agg ((cs.drop (fdO P t f)).take (fdN P t f))))
  | _ => False
def buildR (R : ASt → Prop) (s : ASt) (d : Nat) : Option (List AV) → Prop
  | some r => R (s.set d (.agg r))
  | none => False
def cellsOk (s : ASt) : List (Nat × Operand) → Prop
  | [] => True
  | (_, x) :: l => cellOk s (s.ev x) ∧ cellsOk s l
def partsA (s : ASt) : List (Nat × Operand) → List (Nat × List AV)
  | [] => []
  | (i, x) :: l => (i, (s.ev x).parts) :: partsA s l
def buildQ (P : Program) (t : TypeId) (parts : List (Nat × Operand)) (R : ASt → Prop) (s : ASt) (d : Nat) : Prop := match zvT P t with
  | some zs => (bdOk P t = true ∧ cellsOk s parts) ∧ buildR R s d (fillA (plT P t) (zs.map .lit) (partsA s parts))
  | none => False
def rowQ (d sz len : Nat) (nz : List (Option Nat)) (R : ASt → Prop) : Option (List AV × ASt) → Prop
  | some (As, s1) => R (s1.new d (.sl d [] 0 len) (.row true sz len (nilRs nz len As)))
  | none => False
def buildSliceQ (P : Program) (t : TypeId) (len : Nat) (parts : List (Nat × Operand)) (R : ASt → Prop) (s : ASt) (d : Nat) : Prop :=
  (zOk P t = true ∧ parts.length = len ∧ len * slSz P t ≤ 16777216 ∧ bsOk s (slSz P t) 0 parts) ∧ rowQ d (slSz P t) len (nzE P t) R (closeVs s (bsA s parts))
def sliceSl (P : Program) (t : TypeId) (r : Nat) (p : List Nat) (off len : Nat) (R : ASt → Prop) (s : ASt) (d : Nat) : Option Int → Option Int → Prop
  | some l, some h => (((slT P t).isSome = true ∧ rowIn s r p (slSz P t) (off + len)) ∧ (0 ≤ l ∧ l ≤ h ∧ h ≤ len)) ∧ R (s.set d (.sl r p (off + l.toNat) (h.toNat - l.toNat)))
  | _, _ => False
def sliceSh (P : Program) (t : TypeId) (sz n : Nat) (cs : List AV) (R : ASt → Prop) (s : ASt) (d : Nat) : Option Int → Option Int → Prop
  | some l, some h => (slT P t = some sz ∧ (0 ≤ l ∧ l ≤ h ∧ h ≤ n)) ∧ R (s.set d (.row false sz (h.toNat - l.toNat) ((cs.drop (l.toNat * sz)).take ((h.toNat - l.toNat) * sz))))
  | _, _ => False
def sliceSt (P : Program) (t : TypeId) (b : ByteArray) (R : ASt → Prop) (s : ASt) (d : Nat) : Option Int → Option Int → Prop
  | some l, some h => (isStr P t = true ∧ (0 ≤ l ∧ l ≤ h ∧ h ≤ b.size)) ∧ R (s.set d (.lit (.string (b.extract l.toNat h.toNat))))
  | _, _ => False
def sliceQ (P : Program) (t : TypeId) (x : AV) (lo hi : Option Operand) (R : ASt → Prop) (s : ASt) (d : Nat) : Prop := match x with
  | .sl r p off len => sliceSl P t r p off len R s d (bndQ s 0 lo) (bndQ s len hi)
  | .row false sz n cs => sliceSh P t sz n cs R s d (bndQ s 0 lo) (bndQ s n hi)
  | .lit (.string b) => sliceSt P t b R s d (bndQ s 0 lo) (bndQ s b.size hi)
  | _ => False
/-- 'append': 'k', 'cs': the old row, taken out of 's1'. -/
def appOk (P : Program) (t : TypeId) (k m : Nat) : Prop := zOk P t = true ∧ k + m ≤ 9223372036854775807 ∧ (k + m) * byN P t ≤ 140737488355328
def appMv (t : TypeId) (P : Program) (r : Nat) (p : List Nat) (off m n k : Nat) (cs es : List AV) (R : ASt → Prop) (s1 : ASt) (d : Nat) : Option AV → Prop
  | some (.row true sz' n' es') => (off = 0 ∧ m = n ∧ n' = n ∧ sz' = slSz P t ∧ es' = es) ∧ R ((s1.updM r p .junk).new d (.sl d [] 0 (k + m)) (.row true (slSz P t) (k + m) (cs ++ es)))
  | _ => False
def appRow (P : Program) (t : TypeId) (r : Nat) (p : List Nat) (off m k : Nat) (cs : List AV) (R : ASt → Prop) (s1 : ASt) (d : Nat) : Option AV → Prop
  | some (.row true sz n es) => (appOk P t k m ∧ sz = slSz P t ∧ off + m ≤ n ∧ fitCs (if off = 0 ∧ m = n then es else (es.drop (off * sz)).take (m * sz)) = true ∧ es.length = n * sz) ∧
      (if leafCs (if off = 0 ∧ m = n then es else (es.drop (off * sz)).take (m * sz)) = true then R (s1.new d (.sl d [] 0 (k + m)) (.row true (slSz P t) (k + m) (cs ++ (if off = 0 ∧ m = n then es else (es.drop (off * sz)).take (m * sz)))))
        else appMv t P r p off m n k cs es R s1 d (nodeOf s1 r p))
  | _ => False
def appB (P : Program) (t : TypeId) (y : AV) (k : Nat) (cs : List AV) (R : ASt → Prop) (s s1 : ASt) (d : Nat) : Prop := match y with
  | .lit (.slice none 0 0) => appOk P t k 0 ∧ R (s1.new d (.sl d [] 0 k) (.row true (slSz P t) k cs))
  | .row false sz m es => (appOk P t k m ∧ sz = slSz P t ∧ leafCs es = true ∧ fitCs es = true) ∧ R (s1.new d (.sl d [] 0 (k + m)) (.row true (slSz P t) (k + m) (cs ++ es)))
  | .sl r p off m => appRow P t r p off m k cs R s1 d (nodeOf s r p)
  | _ => False
/-- An append within one row whose cells own memory: what is appended lies behind what it is appended to. -/
def appSelf (P : Program) (t : TypeId) (off m n k : Nat) (cs0 cs : List AV) (R : ASt → Prop) (s1 : ASt) (d : Nat) : Prop :=
  (appOk P t k m ∧ off + m ≤ n ∧ k ≤ off ∧ fitCs (if off = 0 ∧ m = n then cs else (cs.drop (off * slSz P t)).take (m * slSz P t)) = true) ∧
    R (s1.new d (.sl d [] 0 (k + m)) (.row true (slSz P t) (k + m) (cs0 ++ (if off = 0 ∧ m = n then cs else (cs.drop (off * slSz P t)).take (m * slSz P t)))))
def appC (P : Program) (t : TypeId) (r : Nat) (p : List Nat) (n k : Nat) (cs0 cs : List AV) (y : AV) (R : ASt → Prop) (s s1 : ASt) (d : Nat) : Prop := match y with
  | .sl r' p' off m => if nilB (nzE P t) = true ∧ r' = r ∧ p' = p then appSelf P t off m n k cs0 cs R s1 d else appB P t (.sl r' p' off m) k cs0 R s s1 d
  | y => appB P t y k cs0 R s s1 d
def appA (P : Program) (t : TypeId) (r : Nat) (p : List Nat) (off k : Nat) (y : AV) (R : ASt → Prop) (s : ASt) (d : Nat) : Option AV → Prop
  | some (.row true sz n cs) => (off = 0 ∧ sz = slSz P t ∧ k ≤ n ∧ cs.length = n * sz) ∧ appC P t r p n k (if k = n then cs else cs.take (k * sz)) cs y R s (s.updM r p .junk) d
  | _ => False
def appQ (P : Program) (t : TypeId) (x y : AV) (R : ASt → Prop) (s : ASt) (d : Nat) : Prop := match x with
  | .lit (.slice none 0 0) => appB P t y 0 [] R s s d
  | .sl r p off k => appA P t r p off k y R s d (nodeOf s r p)
  | _ => False
/-- What comes into a variable. -/
def assignQ (P : Program) (t : TypeId) (x : AV) (R : ASt → Prop) (s : ASt) (d : Nat) : Prop := match x with
  | .lit (.slice none 0 0) => R (s.new d (.sl d [] 0 0) (.row true (slSz P t) 0 []))
  | .sl r [] off len => if r < 1000 ∧ r ≠ d then R (s.ren r d (.sl d [] off len)) else R (s.set d (.sl r [] off len))
  | v => R (s.set d v)
def extractQ (x : AV) (i : Nat) (R : ASt → Prop) (s : ASt) (d : Nat) : Prop := match x with
  | .tup cs => i < cs.length ∧ R (s.set d (cs.getD i .junk))
  | _ => False

section
variable {E : Env} {s : ASt} {d : Nat} {t : TypeId} {pos : String} {after : Array Edge} {g : Option (Nat × Bool)} {R : ASt → Prop}
theorem of_pick {c x y : Operand} (hn : d < E.nt) (h : pickQ (s.ev c) (s.ev x) (s.ev y) R s d) : ∃ v, QJ E ⟨some d, .pick c x y, t, pos, after, g⟩ s v none ∧ R (s.set d v) := by
  unfold pickQ at h
  split at h
  · rename_i b hb; exact ⟨_, q_pick hn hb, h⟩
  · exact h.elim
theorem of_bin {op : BinOp} {x y : Operand} {xt yt : TypeId} (hn : d < E.nt) (h : binQ E.P op xt (s.ev x) (s.ev y) R s d) : ∃ v, QJ E ⟨some d, .binOp op xt x y yt, t, pos, after, g⟩ s v none ∧ R (s.set d v) := by
  unfold binQ at h
  split at h
  · rename_i h1 h2; exact ⟨_, q_int hn h1 h2 h.1, h.2⟩
  · rename_i h1 h2; exact ⟨_, q_str hn h1 h2 h.1, h.2⟩
  · rename_i k a k' b h1 h2
    split at h
    · rename_i v hv
      obtain ⟨rfl, h4⟩ := h
      refine ⟨_, .val rfl hn (fun s' M G a' w hle hX => ?_), h4⟩
      have e1 := hX.lit hle h1
      have e2 := hX.lit hle h2
      refine ⟨_, w, ?_, Ext.refl _ _, .lit _⟩
      have key : (binOp op xt (.float k a) (.float k b)).run E.P w = .ok v w := by
        unfold fltV at hv
        cases op <;> simp only [Option.map_eq_some_iff, Option.some.injEq, reduceCtorEq] at hv <;> first
          | (obtain ⟨r, hr, rfl⟩ := hv; simp [binOp, Op.floatArith, hr])
          | (subst hv; simp [binOp, Op.floatCmp])
      unfold execOp
      have he : (eqGuard op xt x y (.float k a) (.float k b)) = pure () := eqGuard_of op xt x y _ _ rfl
      simp [e1, e2, he, key]
    · exact h.elim
  · rename_i h1 h2
    obtain ⟨⟨h3, h4⟩, h5⟩ := h
    have hb : E.P.underlying xt = some .bool := by unfold isBl at h3; split at h3 <;> first | assumption | cases h3
    rcases h4 with rfl | rfl
    · exact ⟨_, q_bool hn hb h1 h2 rfl, h5⟩
    · exact ⟨_, q_bool hn hb h1 h2 rfl, h5⟩
  · exact h.elim
theorem of_binS {op : BinOp} {x y : Operand} {xt yt : TypeId} (hn : d < E.nt) (h : binS E.P op xt (s.ev x) (s.ev y) R s d) : LJ E ⟨some d, .binOp op xt x y yt, t, pos, after, g⟩ s R := by
  unfold binS at h
  split at h
  · rename_i o sz n cs h1 h2
    obtain ⟨⟨h3, h4⟩, h5⟩ := h
    obtain ⟨z, hz⟩ := Option.isSome_iff_exists.1 h3
    obtain ⟨e, _, he, _⟩ := slT_spec hz
    rintro a w ⟨M, G, hX⟩
    have hv := hX.ev x
    rw [h1] at hv
    have e2 := hX.lit (Le.refl s) h2
    obtain ⟨A, n', c, hu, hb⟩ : ∃ (A : Option Addr) (n' c : Nat), a.eval x = .slice A n' c ∧ (0 < n → A.isNone = false) := by
      generalize a.eval x = u at hv
      cases hv with
      | row0 sz A c => exact ⟨A, 0, c, rfl, fun h => absurd h (by omega)⟩
      | row sz n c b off => exact ⟨_, _, _, rfl, fun _ => rfl⟩
    rcases h4 with rfl | rfl
    · have key := Lib.run_eql_slice_nil w xt e A n' c 0 0 he
      unfold Oper.wp
      have hg : eqGuard .eql xt x y (.slice A n' c) (.slice none 0 0) = pure () := eqGuard_of _ xt x y _ _ rfl
      simp only [execOp, hu, e2]
      simp [hg, key, Oper.upon]
      exact ⟨_, ⟨M, G, hX.set hn (Ext.refl _ _) (.lit _)⟩, h5 _ (fun h => by simpa using hb h)⟩
    · have key := run_neq_slice_nil_any w xt e A n' c 0 0 he
      unfold Oper.wp
      have hg : eqGuard .neq xt x y (.slice A n' c) (.slice none 0 0) = pure () := eqGuard_of _ xt x y _ _ rfl
      simp only [execOp, hu, e2]
      simp [hg, key, Oper.upon]
      exact ⟨_, ⟨M, G, hX.set hn (Ext.refl _ _) (.lit _)⟩, h5 _ (fun h => by simpa using hb h)⟩
  · rename_i r p len h1 h2
    unfold nilSl at h
    split at h
    · rename_i sz n cs hA
      obtain ⟨⟨⟨h3, rfl⟩, rfl, h6⟩, h5⟩ := h
      obtain ⟨z, hz⟩ := Option.isSome_iff_exists.1 h3
      obtain ⟨e, _, he, _⟩ := slT_spec hz
      rintro a w ⟨M, G, hX⟩
      have hv := hX.ev x
      rw [h1] at hv
      have e2 := hX.lit (Le.refl s) h2
      obtain ⟨T, N, hM, hN, hNe, hsT, hsN⟩ := nodeOf_spec hX hA
      obtain ⟨A, n', c, hu, hb⟩ : ∃ (A : Option Addr) (n' c : Nat), a.eval x = .slice A n' c ∧ A.isNone = decide (len = 0) := by
        generalize a.eval x = u at hv
        cases hv with
        | sl _ _ _ _ _ q q0 =>
          cases hsN with
          | row b sz' n' cap cs' C e0 g1 g2 g3 g4 g5 g6 g7 g8 =>
            simp only [HT.erase, AV.row.injEq, true_and] at hNe
            obtain ⟨rfl, rfl, _⟩ := hNe
            obtain ⟨A0, c0, rfl, q2, q3, q4, q5⟩ := q T hM b sz' n' cap cs' hN (by omega)
            obtain ⟨rfl, rfl⟩ := q5 rfl
            refine ⟨_, _, _, rfl, ?_⟩
            have : n' ≠ 0 := fun h0 => by have := h6 h0; omega
            simp [this]
          | nilrow sz' =>
            simp only [HT.erase, AV.row.injEq, true_and] at hNe
            obtain ⟨rfl, rfl, _⟩ := hNe
            have := q0 T hM sz' hN (by omega)
            subst this
            exact ⟨_, _, _, rfl, rfl⟩
          | leaf a' v' ha _ => cases a' with
            | row o _ _ _ => cases o <;> simp_all [HT.erase, AV.leafOk]
            | _ => simp_all [HT.erase, AV.leafOk]
          | box => simp [HT.erase] at hNe
          | agg => simp [HT.erase] at hNe
          | tup => simp [HT.erase] at hNe
      have key := Lib.run_eql_slice_nil w xt e A n' c 0 0 he
      unfold Oper.wp
      have hg : eqGuard .eql xt x y (.slice A n' c) (.slice none 0 0) = pure () := eqGuard_of _ xt x y _ _ rfl
      simp only [execOp, hu, e2]
      simp [hg, key, Oper.upon]
      rw [← hb] at h5
      exact ⟨_, ⟨M, G, hX.set hn (Ext.refl _ _) (.lit _)⟩, h5⟩
    · exact h.elim
  · obtain ⟨v, h1, h2⟩ := of_bin hn h
    exact LJ.of_q h1 h2
theorem of_un {op : UnOp} {x : Operand} {xt : TypeId} (hn : d < E.nt) (h : unQ op (s.ev x) R s d) : ∃ v, QJ E ⟨some d, .unOp op xt x, t, pos, after, g⟩ s v none ∧ R (s.set d v) := by
  unfold unQ at h
  split at h
  · rename_i h1; exact ⟨_, q_un hn h1 rfl, h⟩
  · rename_i h1; exact ⟨_, q_un hn h1 rfl, h⟩
  · rename_i h1; exact ⟨_, q_un hn h1 rfl, h⟩
  · rename_i h1; exact ⟨_, q_un hn h1 rfl, h⟩
  · exact h.elim
theorem of_isStr {P : Program} {t : TypeId} (h : isStr P t = true) : P.underlying t = some .string := by unfold isStr at h; split at h <;> first | assumption | cases h
theorem of_intKd {P : Program} {z : TypeId} (hz : (intKd P z).isSome = true) : P.underlying z = some (.int ((intKd P z).getD .i64)) := by
  unfold intKd at hz ⊢
  split at hz
  · rename_i e; simp only [e, Option.getD_some]
  · cases hz
theorem of_fltKd {P : Program} {z : TypeId} (hz : (fltKd P z).isSome = true) : P.underlying z = some (.float ((fltKd P z).getD .f64)) := by
  unfold fltKd at hz ⊢
  split at hz
  · rename_i e; simp only [e, Option.getD_some]
  · cases hz
theorem of_rowB {x : Operand} {a b : TypeId} {m : Nat} {cs : List AV} (hn : d < E.nt) (h1 : u8sl E.P a = true) (h2 : isStr E.P b = true) (hY : ∀ s', Le s s' → YJ E s' (s.ev x) 1 m cs) (hj : s.ev x ≠ .junk) (h : rowB R s d (bytesA cs)) :
    ∃ v, QJ E ⟨some d, .convert a b x, t, pos, after, g⟩ s v none ∧ R (s.set d v) := by
  unfold rowB at h
  split at h
  · rename_i ns hb
    exact ⟨_, q_convBytes (sz := 1) hn h1 (of_isStr h2) hb hY hj, h⟩
  · exact h.elim
theorem of_conv {x : Operand} {a b : TypeId} (hn : d < E.nt) (h : convQ E.P a b (s.ev x) R s d) : ∃ v, QJ E ⟨some d, .convert a b x, t, pos, after, g⟩ s v none ∧ R (s.set d v) := by
  unfold convQ at h
  split at h
  · rename_i k n h1
    split at h
    · rename_i h3
      exact ⟨_, q_convInt hn (of_intKd h.1) (of_intKd h3) h1, h.2⟩
    · refine ⟨_, .val rfl hn (fun s' M G a' w hle hX => ?_), h.2⟩
      have hv := hX.lit hle h1
      refine ⟨_, w, ?_, Ext.refl _ _, .lit _⟩
      have ha := of_intKd h.1.1
      have hb := of_fltKd h.1.2
      generalize (fltKd E.P b).getD .f64 = kk at hb ⊢
      unfold execOp
      simp [hv, convert, run_underlying ha, run_underlying hb, Conv.intToFloat]
  · rename_i z h1
    refine ⟨_, .val rfl hn (fun s' M G a' w hle hX => ?_), h.2⟩
    have hv := hX.lit hle h1
    refine ⟨_, w, ?_, Ext.refl _ _, .lit _⟩
    unfold execOp
    simp [hv, convert, run_underlying (of_isStr h.1.1), run_underlying (of_isStr h.1.2)]
  · rename_i n cs h1
    exact of_rowB hn h.1.1 h.1.2.1 (fun s' _ => by rw [h1]; exact yj_sh h.1.2.2.1 h.1.2.2.2) (by rw [h1]; simp) h.2
  · rename_i r p off len h1
    unfold convSl at h
    split at h
    · rename_i n cs hA
      exact of_rowB hn h.1.1 h.1.2.1 (fun s' hle => by rw [h1]; exact yj_own (hle.node hA) h.1.2.2.1 h.1.2.2.2.1 h.1.2.2.2.2) (by rw [h1]; simp) h.2
    · exact h.elim
  · exact h.elim
theorem of_len {x : Operand} {xt : TypeId} (hn : d < E.nt) (h : lenQ E.P xt (s.ev x) R s d) : ∃ v, QJ E ⟨some d, .call { callee := .builtin .len, args := #[x], argTypes := #[xt] }, t, pos, after, g⟩ s v none ∧ R (s.set d v) := by
  unfold lenQ at h
  split at h
  · rename_i h1; exact ⟨_, q_lenStr hn (of_isStr h.1) h1, h.2⟩
  · rename_i h1; obtain ⟨z, hz⟩ := Option.isSome_iff_exists.1 h.1; exact ⟨_, q_lenSh hn hz h1, h.2⟩
  · rename_i h1; obtain ⟨z, hz⟩ := Option.isSome_iff_exists.1 h.1.1; obtain ⟨sz, n, cs, h2, h3⟩ := h.1.2; exact ⟨_, q_lenOwn hn hz h1 h2 h3, h.2⟩
  · exact h.elim
theorem of_max {x y : Operand} {ts : Array TypeId} (hn : d < E.nt) (h : maxQ (s.ev x) (s.ev y) R s d) : ∃ v, QJ E ⟨some d, .call { callee := .builtin .max, args := #[x, y], argTypes := ts }, t, pos, after, g⟩ s v none ∧ R (s.set d v) := by
  unfold maxQ at h
  split at h
  · rename_i h1 h2
    exact ⟨_, .val rfl hn fun s' M G a w hle hX => ⟨_, w, by simp [execOp, resolve, invoke, builtin, hX.lit hle h1, hX.lit hle h2, run_max_int2], Ext.refl _ _, .lit _⟩, h⟩
  · exact h.elim
theorem of_min {x y : Operand} {ts : Array TypeId} (hn : d < E.nt) (h : minQ (s.ev x) (s.ev y) R s d) : ∃ v, QJ E ⟨some d, .call { callee := .builtin .min, args := #[x, y], argTypes := ts }, t, pos, after, g⟩ s v none ∧ R (s.set d v) := by
  unfold minQ at h
  split at h
  · rename_i h1 h2
    exact ⟨_, .val rfl hn fun s' M G a w hle hX => ⟨_, w, by simp [execOp, resolve, invoke, builtin, hX.lit hle h1, hX.lit hle h2, run_min_int2], Ext.refl _ _, .lit _⟩, h⟩
  · exact h.elim
theorem of_indexAddr {x y : Operand} {xt : TypeId} (hn : d < E.nt) (h : indexAddrQ E.P xt (s.ev x) (s.ev y) R s d) : ∃ v, QJ E ⟨some d, .indexAddr xt x y, t, pos, after, g⟩ s v none ∧ R (s.set d v) := by
  unfold indexAddrQ at h
  split at h
  · rename_i h1 h2; exact ⟨_, q_indexSh hn h.1.1 h1 h2 h.1.2, h.2⟩
  · rename_i h1 h2
    obtain ⟨⟨⟨h3, n, cs, h4, h5⟩, h6⟩, h7⟩ := h
    obtain ⟨z, hz⟩ := Option.isSome_iff_exists.1 h3
    have hz' : slT E.P xt = some (slSz E.P xt) := by simp [slSz, hz]
    exact ⟨_, q_indexOwn hn hz' h1 h2 h4 h5 h6, h7⟩
  · exact h.elim
theorem of_index {x y : Operand} {xt : TypeId} (hn : d < E.nt) (h : indexQ E.P xt (s.ev x) (s.ev y) R s d) : ∃ v, QJ E ⟨some d, .index xt x y, t, pos, after, g⟩ s v none ∧ R (s.set d v) := by
  unfold indexQ at h
  split at h
  · rename_i h1 h2; exact ⟨_, q_indexStr hn (of_isStr h.1.1) h1 h2 h.1.2, h.2⟩
  · exact h.elim
theorem of_fdOk {P : Program} {t : TypeId} {f : Nat} (h : fdOk P t f = true) : ∃ n g, fdT P t f = some (fdO P t f, n, g) ∧ n ≠ 0 := by
  unfold fdOk at h
  split at h
  · rename_i o n g e; exact ⟨n, g, by simp [fdO, e], by simpa using h⟩
  · cases h
theorem of_fieldAddr {x : Operand} {xt : TypeId} {f : Nat} (hn : d < E.nt) (h : fieldAddrQ E.P xt (s.ev x) f R s d) : ∃ v, QJ E ⟨some d, .fieldAddr xt x f, t, pos, after, g⟩ s v none ∧ R (s.set d v) := by
  unfold fieldAddrQ at h
  split at h
  · rename_i h1; obtain ⟨n, gg, h2, h3⟩ := of_fdOk h.1; exact ⟨_, q_fieldSh hn h2 h3 h1, h.2⟩
  · rename_i h1; obtain ⟨n, gg, h2, h3⟩ := of_fdOk h.1.1; exact ⟨_, q_fieldOwn hn h2 h3 h1 h.1.2.1 h.1.2.2, h.2⟩
  · exact h.elim
theorem of_load {x : Operand} {xt : TypeId} (hn : d < E.nt) (h : loadQ E.P xt (s.ev x) R s d) : ∃ v, QJ E ⟨some d, .load xt x, t, pos, after, g⟩ s v none ∧ R (s.set d v) := by
  unfold loadQ at h
  split at h
  · rename_i cs h1
    split at h
    · rename_i h2
      have ha : agT E.P xt = some true := by unfold ldA at h2; split at h2 <;> simp_all
      obtain ⟨⟨h3, h4⟩, h5⟩ := h
      obtain ⟨z, hz⟩ := Option.isSome_iff_exists.1 h3
      exact ⟨_, q_loadShAgg hn ha (by simp [szN, hz]) h1 h4, h5⟩
    · obtain ⟨⟨h3, h4⟩, h5⟩ := h
      have ha : agT E.P xt = some false := by unfold ldS at h3; split at h3 <;> simp_all
      exact ⟨_, q_loadSh hn ha h1 (c := cs.getD 0 .junk) (by simp [List.getD, List.getElem?_eq_getElem h4]), h5⟩
  · rename_i h1
    split at h
    · rename_i h2
      have ha : agT E.P xt = some true := by unfold ldA at h2; split at h2 <;> simp_all
      obtain ⟨⟨h3, h4, h5, h5'⟩, h6⟩ := h
      obtain ⟨z, hz⟩ := Option.isSome_iff_exists.1 h3
      have hz' : szN E.P xt = z := by simp [szN, hz]
      exact ⟨_, q_loadView hn (by rw [h1]; simp only [viewOf, h4, ha, hz, if_true]; rw [hz'] at h5 h5'; rw [if_pos ⟨h5, h5'⟩]), by rw [hz'] at h6; exact h6⟩
    · obtain ⟨⟨h3, h4, h5⟩, h6⟩ := h
      have ha : agT E.P xt = some false := by unfold ldS at h3; split at h3 <;> simp_all
      exact ⟨_, q_loadOwn hn ha h1 h4 h5, h6⟩
  · exact h.elim
theorem of_nck {x : Operand} (hn : d < E.nt) (h : nilQ (s.ev x) R s d) : ∃ v, QJ E ⟨some d, .nilCheck x, t, pos, after, g⟩ s v none ∧ R (s.set d v) := by
  unfold nilQ at h
  split at h
  · rename_i cs hx
    refine ⟨_, .val rfl hn (fun s' M G a w hle hX => ?_), h⟩
    have hv := hX.evLe hle x
    rw [hx] at hv
    obtain ⟨b, off, hv', _, _⟩ := hv.boxAt
    refine ⟨a.eval x, w, ?_, Ext.refl _ _, hv⟩
    unfold execOp
    simp [hv']
  · rename_i r p o hx
    obtain ⟨⟨hm, hc⟩, h⟩ := h
    refine ⟨_, .val rfl hn (fun s' M G a w hle hX => ?_), h⟩
    have hv := hX.evLe hle x
    rw [hx] at hv
    refine ⟨a.eval x, w, ?_, Ext.refl _ _, hv⟩
    cases hA : nodeOf s r p with
    | none => rw [hA] at hm; cases hm
    | some A =>
      rw [hA] at hm hc
      obtain ⟨T, N, hM, hN, rfl, hsT, hsN⟩ := nodeOf_spec hX (hle.node hA)
      rcases memN_spec hsN hm with ⟨sz, rfl⟩ | ⟨b, C, e, h1, h2, h3, h4, h5, h6, _⟩
      · simp [HT.erase, cellsOf] at hc
      · have hp := ptr_val hX hv hM hN h1
        unfold execOp
        simp [hp]
  · exact h.elim
theorem of_store {x y : Operand} {xt : TypeId} (h : storeQ E.P xt (s.ev x) (s.ev y) R s) : LJ E ⟨none, .store xt x y, t, pos, after, g⟩ s R := by
  unfold storeQ at h
  have tree : ∀ {r p o}, s.ev x = .ptr r p o → treeQ E.P xt r p o R (closeVs s (s.ev y).parts) → LJ E ⟨none, .store xt x y, t, pos, after, g⟩ s R := fun h1 h => by
    unfold treeQ at h
    split at h
    · rename_i As s1 hc
      obtain ⟨⟨h2, h3, h4, h5, h6⟩, h7⟩ := h
      have hl := nilTs_len (nzT E.P xt) As
      exact l_storeTree (nilTs_le (nzT E.P xt) As) h1 hc h2 (by rw [hl]; exact h3) (by rw [hl]; exact h4) h5 (by rw [hl]; exact h6) h7
    · exact h.elim
  split at h
  · rename_i h1 h2; exact tree h1 (by rw [h2]; exact h)
  · rename_i h1 h2; exact tree h1 (by rw [h2]; exact h)
  · rename_i h1 h2; exact tree h1 (by rw [h2]; exact h)
  · rename_i h1 _ _ _; exact l_store h.1.1.1 h1 h.1.1.2.1 h.1.1.2.2 h.1.2 h.2
  · exact h.elim
theorem of_box {x : Operand} {xt : TypeId} (hn : d < E.nt) (h : boxQ d R (closeVs s (s.ev x).parts)) : LJ E ⟨some d, .box xt x, t, pos, after, g⟩ s R := by
  unfold boxQ at h
  split at h
  · rename_i As s1 hc; exact l_box hn hc h.1 h.2
  · exact h.elim
theorem of_alloc {xt : TypeId} (hn : d < E.nt) (h : allocQ E.P xt d R s) : LJ E ⟨some d, .alloc xt, t, pos, after, g⟩ s R := by
  unfold allocQ at h
  split at h
  · rename_i zs hz; exact l_alloc (nilTs_le _ _) hn hz h
  · exact h.elim
theorem of_make {x y : Operand} {xt : TypeId} (hn : d < E.nt) (h : makeQ E.P xt (s.ev x) (s.ev y) R s d) : LJ E ⟨some d, .makeSlice xt x y, t, pos, after, g⟩ s R := by
  unfold makeQ at h
  split at h
  · rename_i k n k' m h1 h2
    obtain ⟨⟨h3, h4, rfl, h5, h6⟩, h7⟩ := h
    obtain ⟨n, rfl⟩ := Int.eq_ofNat_of_zero_le h4
    have : ∃ zs b, zcT E.P xt = some (zs, b) ∧ zsN E.P xt = zs ∧ byN E.P xt = b ∧ 0 < zs.length ∧ zs.all (·.oneCell') = true := by
      unfold zOk at h3
      split at h3
      · rename_i zs b e
        simp only [Bool.and_eq_true, decide_eq_true_eq] at h3
        exact ⟨zs, b, e, by simp [zsN, e], by simp [byN, e], h3.1, h3.2⟩
      · cases h3
    obtain ⟨zs, b, e1, e2, e3, e4, e5⟩ := this
    rw [e2] at h7
    rw [e3] at h5
    exact LJ.of_q (q_makeN (nilRq_le _ _ _) hn e1 h1 h2 e4 (by have : ((b * n : Nat) : Int) ≤ 281474976710656 := (by rw [Int.natCast_mul]; exact h5); omega) (by omega)) h7
  · exact h.elim
theorem of_field {x : Operand} {xt : TypeId} {f : Nat} (hn : d < E.nt) (h : fieldQ E.P xt (s.ev x) f R s d) : ∃ v, QJ E ⟨some d, .field xt x f, t, pos, after, g⟩ s v none ∧ R (s.set d v) := by
  unfold fieldQ at h
  split at h
  · rename_i cs h1
    split at h
    · rename_i h2
      obtain ⟨h3, h4⟩ := h
      have : ∃ n, fdT E.P xt f = some (fdO E.P xt f, n, false) := by
        unfold fdS at h2
        split at h2
        · rename_i o n g e
          exact ⟨n, by simp [fdO, e] at *; exact h2⟩
        · cases h2
      obtain ⟨n, hn'⟩ := this
      exact ⟨_, q_field hn hn' h1 (c := cs.getD (fdO E.P xt f) .junk) (by simp [List.getD, List.getElem?_eq_getElem h3]), h4⟩
    · rename_i h2
      obtain ⟨⟨h3, h5⟩, h4⟩ := h
      have : fdT E.P xt f = some (fdO E.P xt f, fdN E.P xt f, true) := by
        unfold fdS at h2
        unfold fdOk at h3
        split at h3
        · rename_i o n g e
          simp only [e, Bool.not_eq_true', Bool.not_eq_false] at h2
          simp [fdO, fdN, e, h2]
        · cases h3
      refine ⟨_, .val rfl hn (fun s' M G a w hle hX => ?_), h4⟩
      obtain ⟨fs, z, g1, g2, g3, g4, g5⟩ := fdT_spec this
      have hv := hX.evLe hle x
      rw [h1] at hv
      generalize hav : a.eval x = v at hv
      cases hv with
      | agg _ us hl hh =>
        refine ⟨.agg ((us.drop (fdO E.P xt f)).take (fdN E.P xt f)).toArray, w, ?_, Ext.refl _ _, .agg _ _ (by simp [hl]) (fun i c u e1 e2 => ?_)⟩
        · have hbd : fdO E.P xt f + fdN E.P xt f ≤ us.length := by rw [hl]; exact h5
          have hex : us.toArray.extract (fdO E.P xt f) (fdO E.P xt f + fdN E.P xt f) = ((us.drop (fdO E.P xt f)).take (fdN E.P xt f)).toArray := by
            apply Array.ext'
            simp [List.extract_eq_take_drop]
          simp [execOp, hav, Instr.field, run_underlying g1, g2, asAgg, part, run_agg g5, g3, run_size g4, hex]
        · by_cases hi : i < fdN E.P xt f
          · rw [List.getElem?_take_of_lt hi, List.getElem?_drop] at e1 e2
            exact hh _ c u e1 e2
          · rw [List.getElem?_eq_none (by rw [List.length_take]; omega)] at e1; cases e1
  · exact h.elim
theorem of_extract {x : Operand} {i : Nat} (hn : d < E.nt) (h : extractQ (s.ev x) i R s d) : ∃ v, QJ E ⟨some d, .extract x i, t, pos, after, g⟩ s v none ∧ R (s.set d v) := by
  unfold extractQ at h
  split at h
  · rename_i cs h1; exact ⟨_, q_extract hn h1 (c := cs.getD i .junk) (by simp [List.getD, List.getElem?_eq_getElem h.1]), h.2⟩
  · exact h.elim
end

theorem of_zOk {P : Program} {t : TypeId} (h : zOk P t = true) : zcT P t = some (zsN P t, byN P t) ∧ 0 < (zsN P t).length ∧ slSz P t = (zsN P t).length ∧ slT P t = some (zsN P t).length := by
  unfold zOk at h
  split at h
  · rename_i zs b e
    simp only [Bool.and_eq_true, decide_eq_true_eq] at h
    obtain ⟨_, _, _, _, _, _, _, _, _, h8⟩ := zcT_spec e
    have e1 : zsN P t = zs := by simp [zsN, e]
    have e2 : byN P t = b := by simp [byN, e]
    rw [e1, e2]
    exact ⟨e, h.1, by simp [slSz, h8], h8⟩
  · cases h
theorem cellsOk_mem {s : ASt} : ∀ {l : List (Nat × Operand)}, cellsOk s l → ∀ p ∈ l, cellOk s (s.ev p.2)
  | [], _, p, h => by simp at h
  | (i, x) :: l, hc, p, h => by
    rcases List.mem_cons.1 h with rfl | h
    · exact hc.1
    · exact cellsOk_mem hc.2 p h
theorem partsA_eq {s : ASt} : ∀ (l : List (Nat × Operand)), partsA s l = l.map fun p => (p.1, (s.ev p.2).parts)
  | [] => rfl
  | (i, x) :: l => by simp [partsA, partsA_eq l]
section
variable {E : Env} {s : ASt} {d : Nat} {t : TypeId} {pos : String} {after : Array Edge} {g : Option (Nat × Bool)} {R : ASt → Prop}
theorem of_build {xt : TypeId} {parts : List (Nat × Operand)} (hn : d < E.nt) (h : buildQ E.P xt parts R s d) : ∃ v, QJ E ⟨some d, .build xt parts.toArray, t, pos, after, g⟩ s v none ∧ R (s.set d v) := by
  unfold buildQ at h
  split at h
  · rename_i zs hz
    obtain ⟨⟨h1, h2⟩, h3⟩ := h
    unfold buildR at h3
    split at h3
    · rename_i r hr
      rw [partsA_eq] at hr
      exact ⟨_, q_build hn h1 hz (cellsOk_mem h2) hr, h3⟩
    · exact h3.elim
  · exact h.elim
theorem of_buildSlice {xt : TypeId} {len : Nat} {parts : List (Nat × Operand)} (hn : d < E.nt) (h : buildSliceQ E.P xt len parts R s d) : LJ E ⟨some d, .buildSlice xt len parts.toArray, t, pos, after, g⟩ s R := by
  obtain ⟨⟨h1, rfl, h3, h4⟩, h5⟩ := h
  obtain ⟨z1, z2, z3, z4⟩ := of_zOk h1
  unfold rowQ at h5
  split at h5
  · rename_i As s1 hc
    rw [z3] at h3 h4 h5
    exact l_buildSlice (nilRs_le _ _ _) hn z1 z2 h4 h3 hc h5
  · exact h5.elim
theorem of_slSz {P : Program} {t : TypeId} (h : (slT P t).isSome = true) : slT P t = some (slSz P t) := by
  obtain ⟨n, hn⟩ := Option.isSome_iff_exists.1 h
  simp [slSz, hn]
theorem of_slice {xt : TypeId} {x : Operand} {lo hi : Option Operand} (hn : d < E.nt) (h : sliceQ E.P xt (s.ev x) lo hi R s d) : ∃ v, QJ E ⟨some d, .slice xt x lo hi none, t, pos, after, g⟩ s v none ∧ R (s.set d v) := by
  unfold sliceQ at h
  split at h
  · rename_i r p off len hx
    unfold sliceSl at h
    split at h
    · rename_i l h' e1 e2
      obtain ⟨⟨⟨h1, n, cs, h2, h3⟩, h4, h5, h6⟩, h7⟩ := h
      exact ⟨_, q_sliceOwn hn (of_slSz h1) hx h2 h3 e1 e2 h4 h5 h6, h7⟩
    · exact h.elim
  · rename_i sz n cs hx
    unfold sliceSh at h
    split at h
    · rename_i l h' e1 e2
      obtain ⟨⟨h1, h4, h5, h6⟩, h7⟩ := h
      exact ⟨_, q_sliceSh hn h1 hx e1 e2 h4 h5 h6, h7⟩
    · exact h.elim
  · rename_i b hx
    unfold sliceSt at h
    split at h
    · rename_i l h' e1 e2
      obtain ⟨⟨h1, h4, h5, h6⟩, h7⟩ := h
      exact ⟨_, q_sliceStr hn (of_isStr h1) hx e1 e2 h4 h5 h6, h7⟩
    · exact h.elim
  · exact h.elim
theorem close_slN {r : Nat} {p : List Nat} {len sz n : Nat} {cs : List AV} (hA : nodeOf s r p = some (.row true sz n cs)) (hl : len ≤ n) :
    CloseJ E s (.sl r p 0 len) (.row true sz len (cs.take (len * sz))) (s.updM r p .junk) := by
  unfold nodeOf at hA
  cases hm : s.m r with
  | none => rw [hm] at hA; cases hA
  | some A => rw [hm] at hA; exact close_sl hm hA hl
theorem of_appB {xt : TypeId} {x y : Operand} {k : Nat} {cs : List AV} {s1 : ASt} (hn : d < E.nt) (hx : CloseJ E s (s.ev x) (.row true (slSz E.P xt) k cs) s1) (h : appB E.P xt (s.ev y) k cs R s s1 d) :
    LJ E ⟨some d, .call { callee := .builtin .append, args := #[x, y], argTypes := #[xt, xt] }, t, pos, after, g⟩ s R := by
  unfold appB at h
  split at h
  · rename_i hy
    obtain ⟨⟨h1, h2, h3⟩, h4⟩ := h
    obtain ⟨z1, z2, z3, z4⟩ := of_zOk h1
    rw [z3] at hx h4
    exact l_append (m := 0) (es := []) hn z1 z2 hx (by rw [hy]; exact yj_nil) h2 h3 (by simpa using h4)
  · rename_i sz m es hy
    obtain ⟨⟨⟨h1, h2, h3⟩, h5, h6, h7⟩, h4⟩ := h
    obtain ⟨z1, z2, z3, z4⟩ := of_zOk h1
    rw [z3] at hx h4 h5
    subst h5
    exact l_append hn z1 z2 hx (by rw [hy]; exact yj_sh h6 h7) h2 h3 h4
  · rename_i r p off m hy
    unfold appRow at h
    split at h
    · rename_i sz n es hA
      obtain ⟨⟨⟨h1, h2, h3⟩, h5, h6, h7, h8⟩, h4⟩ := h
      obtain ⟨z1, z2, z3, z4⟩ := of_zOk h1
      rw [z3] at hx h4 h5
      subst h5
      have hes : (if off = 0 ∧ m = n then es else (es.drop (off * (zsN E.P xt).length)).take (m * (zsN E.P xt).length)) = (es.drop (off * (zsN E.P xt).length)).take (m * (zsN E.P xt).length) := by
        split
        · rename_i hc
          obtain ⟨rfl, rfl⟩ := hc
          simp [← h8]
        · rfl
      rw [hes] at h4 h7
      split at h4
      · rename_i hl
        exact l_append hn z1 z2 hx (by rw [hy]; exact yj_own hA h6 hl h7) h2 h3 h4
      · unfold appMv at h4
        split at h4
        · rename_i sz' n' es' hA1
          obtain ⟨⟨rfl, rfl, rfl, q2, rfl⟩, q4⟩ := h4
          rw [z3] at q2 q4
          subst q2
          have he : (es'.drop (0 * (zsN E.P xt).length)).take (n' * (zsN E.P xt).length) = es' := by simp [← h8]
          rw [he] at h7
          have hy2 : CloseJ E s1 (s.ev y) (.row true (zsN E.P xt).length n' es') (s1.updM r p .junk) := by
            rw [hy]
            have := close_slN (E := E) hA1 (Nat.le_refl n')
            rw [← h8, List.take_length] at this
            exact this
          exact l_appendMove hn z1 z2 (close_cons hx (close_cons hy2 close_nil)) h7 h2 h3 q4
        · exact h4.elim
    · exact h.elim
  · exact h.elim
theorem sub_take (l : List HT) (n : Nat) : List.Sublist ((l.take n).flatMap HT.blocks) (l.flatMap HT.blocks) := by
  conv => rhs; rw [← List.take_append_drop n l]
  rw [List.flatMap_append]
  exact List.sublist_append_left _ _
theorem l_appSelf {xt : TypeId} {x y : Operand} {r k off m n : Nat} {p : List Nat} {cs : List AV} {zs : List Value} {by_ : Nat} (hd : d < E.nt) (hz : zcT E.P xt = some (zs, by_)) (hz0 : 0 < zs.length) (hx : s.ev x = .sl r p 0 k) (hy : s.ev y = .sl r p off m)
    (hA : nodeOf s r p = some (.row true zs.length n cs)) (h1 : off + m ≤ n) (h2 : k ≤ off) (hf : fitCs ((cs.drop (off * zs.length)).take (m * zs.length)) = true) (b1 : k + m ≤ 9223372036854775807) (b2 : (k + m) * by_ ≤ 140737488355328)
    (hR : R ((s.updM r p .junk).new d (.sl d [] 0 (k + m)) (.row true zs.length (k + m) (cs.take (k * zs.length) ++ (cs.drop (off * zs.length)).take (m * zs.length))))) :
    LJ E ⟨some d, .call { callee := .builtin .append, args := #[x, y], argTypes := #[xt, xt] }, t, pos, after, g⟩ s R := by
  rintro a w ⟨M, G, hX⟩
  obtain ⟨T, N, hM, hN, hNe, hsT, hsN⟩ := nodeOf_spec hX hA
  obtain ⟨t1, t2, t3, t4⟩ := hX.take hM hN
  have hv := hX.ev x
  have hv2 := hX.ev y
  rw [hx] at hv
  rw [hy] at hv2
  generalize hav : a.eval x = v at hv
  generalize hav2 : a.eval y = v2 at hv2
  generalize hszE : zs.length = sz at *
  cases hv with
  | sl _ _ _ _ _ q q0 =>
  cases hv2 with
  | sl _ _ _ _ _ qy qy0 =>
    generalize hNN : N = N' at hsN
    cases hsN with
    | row b sz' n' cap cs' C e0 g1 g2 g3 g4 g5 g6 g7 g8 =>
      subst hNN
      simp only [HT.erase, AV.row.injEq, true_and] at hNe
      obtain ⟨rfl, rfl, hcs⟩ := hNe
      obtain ⟨A0, c0, rfl, q2, q3, q4, q5⟩ := q T hM b sz' n' cap cs' hN (by omega)
      obtain ⟨rfl, rfl⟩ := q5 rfl
      obtain ⟨A1, c1, rfl, y2, y3, y4, y5⟩ := qy T hM b sz' n' c0 cs' hN h1
      have hle2 : off * sz' + m * sz' ≤ cs'.length := by rw [g2, ← Nat.add_mul]; exact Nat.mul_le_mul_right _ h1
      have hle3 : k * sz' ≤ off * sz' := Nat.mul_le_mul_right _ h2
      have her : HT.erases ((cs'.drop (off * sz')).take (m * sz')) = (cs.drop (off * sz')).take (m * sz') := by rw [← hcs]; simp [HT.erases_eq, List.map_take, List.map_drop]
      have hek : HT.erases (cs'.take (k * sz')) = cs.take (k * sz') := by rw [← hcs]; simp [HT.erases_eq, List.map_take]
      simp only [HT.blocks, HT.blockss_eq, List.nodup_cons] at t3
      have hsp : List.Sublist ((cs'.take (k * sz')).flatMap HT.blocks ++ ((cs'.drop (off * sz')).take (m * sz')).flatMap HT.blocks) (cs'.flatMap HT.blocks) := by
        have e : cs'.flatMap HT.blocks = (cs'.take (off * sz')).flatMap HT.blocks ++ (cs'.drop (off * sz')).flatMap HT.blocks := by rw [← List.flatMap_append, List.take_append_drop]
        rw [e]
        refine List.Sublist.append ?_ ?_
        · have : cs'.take (k * sz') = (cs'.take (off * sz')).take (k * sz') := by rw [List.take_take, Nat.min_eq_left hle3]
          rw [this]
          exact sub_take _ _
        · exact sub_take _ _
      have hnd := hsp.nodup t3.2
      rw [List.nodup_append] at hnd
      have hsb : ∀ z, z ∈ (cs'.take (k * sz')).flatMap HT.blocks ∨ z ∈ ((cs'.drop (off * sz')).take (m * sz')).flatMap HT.blocks → z ∈ cs'.flatMap HT.blocks := fun z hz => hsp.subset (List.mem_append.2 hz)
      have hfr : ∀ z, z ∈ cs'.flatMap HT.blocks → _ := fun z hz => t4 z (by simp only [HT.blocks, HT.blockss_eq]; exact List.mem_cons_of_mem _ hz)
      refine append_core (x := x) (y := y) t1 hd hz (by omega) (T := .row b sz' k c0 (cs'.take (k * sz'))) (Vs := (cs'.drop (off * sz')).take (m * sz')) (k := k) (m := m) (cs := cs.take (k * sz')) (a := a)
        (.row _ _ _ _ _ C e0 g1 (by rw [List.length_take]; omega) (by omega) g4 g5 g6 (fun i K hi => g7 i K (by rw [List.getElem?_take] at hi; split at hi; exact hi; cases hi)) (fun i K hi => g8 i K (by rw [List.getElem?_take] at hi; split at hi; exact hi; cases hi)))
        (by rw [HT.erase, hek, hszE]) (by rw [hav]; rfl) (by simp only [HT.blocks, HT.blockss_eq, List.nodup_cons]; exact ⟨fun h => t3.1 (hsb _ (.inl h)), hnd.1⟩)
        (fun z hz => by
          simp only [HT.blocks, HT.blockss_eq, List.mem_cons] at hz
          rcases hz with rfl | hz
          · exact t4 _ (by simp [HT.blocks])
          · exact hfr z (hsb z (.inl hz)))
        (A := A1) (c := c1) hav2 (by rw [List.length_take, List.length_drop, hszE]; omega) (fun V hV => by
          obtain ⟨i, hi⟩ := List.getElem?_of_mem (List.mem_of_mem_drop (List.mem_of_mem_take hV))
          refine ⟨g8 i V hi, (fit_val (g8 i V hi) (fitCs_mem.1 hf _ ?_)).1⟩
          rw [← her, HT.erases_eq]; exact List.mem_map.2 ⟨V, hV, rfl⟩) hnd.2.1 (fun z hz => hfr z (hsb z (.inr hz)))
        (fun z hz hz' => by
          simp only [HT.blocks, HT.blockss_eq, List.mem_cons] at hz'
          rcases hz' with rfl | hz'
          · exact t3.1 (hsb _ (.inr hz))
          · exact hnd.2.2 z hz' z hz rfl)
        (fun j V hj => by
          have hjl : j < m * sz' := by
            have := (List.getElem?_eq_some_iff.1 hj).1
            rw [List.length_take] at this; omega
          have hm0 : 0 < m := by
            rcases Nat.eq_zero_or_pos m with h | h
            · subst h; simp at hjl
            · exact h
          rw [List.getElem?_take_of_lt hjl, List.getElem?_drop] at hj
          rcases y4 with y4 | y4
          · omega
          · refine ⟨_, y4, ?_⟩
            rw [add0]
            simp [World.cell?, g1, g7 _ V hj]) b1 b2 (fun a' w' h => ⟨_, h, ?_⟩)
      rw [her, hszE]
      exact hR
    | nilrow sz' =>
      subst hNN
      simp only [HT.erase, AV.row.injEq, true_and] at hNe
      obtain ⟨rfl, rfl, rfl⟩ := hNe
      have e1 := q0 T hM sz' hN (by omega)
      have e2 := qy0 T hM sz' hN (by omega)
      obtain rfl : k = 0 := by omega
      obtain rfl : m = 0 := by omega
      subst e1; subst e2
      refine append_core (x := x) (y := y) t1 hd hz (by omega) (T := .nilrow sz') (Vs := []) (k := 0) (m := 0) (cs := []) (.nilrow _) (by rw [HT.erase, hszE]) (by rw [hav]; rfl) (by simp [HT.blocks]) (by simp [HT.blocks]) (A := none) (c := 0) hav2 (by simp) (by simp) (by simp) (by simp) (by simp) (by simp) b1 b2 (fun a' w' h => ⟨_, h, ?_⟩)
      simpa [HT.erases, hszE] using hR
    | leaf a' v' ha _ => subst hNN; cases a' with
      | row o _ _ _ => cases o <;> simp_all [HT.erase, AV.leafOk]
      | _ => simp_all [HT.erase, AV.leafOk]
    | box => subst hNN; simp [HT.erase] at hNe
    | agg => subst hNN; simp [HT.erase] at hNe
    | tup => subst hNN; simp [HT.erase] at hNe
theorem of_append {xt : TypeId} {x y : Operand} (hn : d < E.nt) (h : appQ E.P xt (s.ev x) (s.ev y) R s d) : LJ E ⟨some d, .call { callee := .builtin .append, args := #[x, y], argTypes := #[xt, xt] }, t, pos, after, g⟩ s R := by
  unfold appQ at h
  split at h
  · rename_i hx
    exact of_appB hn (by rw [hx]; exact close_nilslice) h
  · rename_i r p off k hx
    unfold appA at h
    split at h
    · rename_i sz n cs hA
      obtain ⟨⟨rfl, rfl, h3, h5⟩, h4⟩ := h
      have hcs : (if k = n then cs else cs.take (k * slSz E.P xt)) = cs.take (k * slSz E.P xt) := by
        split
        · rename_i e; subst e; simp [← h5]
        · rfl
      rw [hcs] at h4
      unfold appC at h4
      split at h4
      · rename_i r' p' off' m' hy
        split at h4
        · rename_i hc
          obtain ⟨_, rfl, rfl⟩ := hc
          obtain ⟨⟨⟨c1, c2, c3⟩, c4, c5, c6⟩, c7⟩ := h4
          obtain ⟨z1, z2, z3, z4⟩ := of_zOk c1
          have hes : (if off' = 0 ∧ m' = n then cs else (cs.drop (off' * slSz E.P xt)).take (m' * slSz E.P xt)) = (cs.drop (off' * slSz E.P xt)).take (m' * slSz E.P xt) := by
            split
            · rename_i hc
              obtain ⟨rfl, rfl⟩ := hc
              simp [← h5]
            · rfl
          rw [hes] at c6 c7
          rw [z3] at c6 c7 hA
          exact l_appSelf hn z1 z2 hx hy hA c4 c5 c6 c2 c3 c7
        · rename_i hy' _
          exact of_appB hn (by rw [hx]; exact close_slN hA h3) (by rw [hy]; exact h4)
      · exact of_appB hn (by rw [hx]; exact close_slN hA h3) h4
    · exact h.elim
  · exact h.elim
theorem of_assign {ty : TypeId} {x : Operand} (hn : d < E.nt) (h : assignQ E.P ty (s.ev x) R s d) : LJ E ⟨some d, .assign x, t, pos, after, g⟩ s R := by
  unfold assignQ at h
  split at h
  · rename_i hx
    exact l_assignNil hn hx h
  · rename_i r off len hx
    split at h
    · rename_i hc
      exact l_assignRen hn hx hc.1 hc.2 h
    · exact LJ.of_q (q_assign hn) (by rw [hx]; exact h)
  · exact LJ.of_q (q_assign hn) h
end

/-- What is to be shown of an operation. -/
def opq (E : Env) (o : Oper) (R : ASt → Prop) (s : ASt) : Prop := LJ E o s R
def qv (E : Env) (o : Oper) (d : Nat) (R : ASt → Prop) (s : ASt) : Prop := match o.op with
  | .move x => d < E.nt ∧ R (s.set d (s.ev x))
  | .assign x => d < E.nt ∧ R (s.set d (s.ev x))
  | .pick c a b => d < E.nt ∧ pickQ (s.ev c) (s.ev a) (s.ev b) R s d
  | .binOp op t x y _ => d < E.nt ∧ binQ E.P op t (s.ev x) (s.ev y) R s d
  | .unOp op _ x => d < E.nt ∧ unQ op (s.ev x) R s d
  | .convert a b x => d < E.nt ∧ convQ E.P a b (s.ev x) R s d
  | .call { callee := .builtin .len, args := ⟨[x]⟩, argTypes := ⟨[t]⟩ } => d < E.nt ∧ lenQ E.P t (s.ev x) R s d
  | .call { callee := .builtin .max, args := ⟨[x, y]⟩, .. } => d < E.nt ∧ maxQ (s.ev x) (s.ev y) R s d
  | .call { callee := .builtin .min, args := ⟨[x, y]⟩, .. } => d < E.nt ∧ minQ (s.ev x) (s.ev y) R s d
  | .indexAddr t x i => d < E.nt ∧ indexAddrQ E.P t (s.ev x) (s.ev i) R s d
  | .index t x i => d < E.nt ∧ indexQ E.P t (s.ev x) (s.ev i) R s d
  | .fieldAddr t x f => d < E.nt ∧ fieldAddrQ E.P t (s.ev x) f R s d
  | .load t x => d < E.nt ∧ loadQ E.P t (s.ev x) R s d
  | .nilCheck x => d < E.nt ∧ nilQ (s.ev x) R s d
  | .field t x f => d < E.nt ∧ fieldQ E.P t (s.ev x) f R s d
  | .extract x i => d < E.nt ∧ extractQ (s.ev x) i R s d
  | .makeFunc (.func f) ⟨[]⟩ ⟨caps⟩ => d < E.nt ∧ R (s.set d (.fn f (caps.map s.ev)))
  | .makeSlice t x y => d < E.nt ∧ makeQ E.P t (s.ev x) (s.ev y) R s d
  | .box t x => d < E.nt ∧ boxQ d R (closeVs s (s.ev x).parts)
  | .alloc t => d < E.nt ∧ allocQ E.P t d R s
  | .build t ⟨parts⟩ => d < E.nt ∧ buildQ E.P t parts R s d
  | .buildSlice t len ⟨parts⟩ => d < E.nt ∧ buildSliceQ E.P t len parts R s d
  | .slice t x lo hi none => d < E.nt ∧ sliceQ E.P t (s.ev x) lo hi R s d
  | .call { callee := .builtin .append, args := ⟨[x, y]⟩, argTypes := ⟨[t, t']⟩ } => (d < E.nt ∧ t' = t) ∧ appQ E.P t (s.ev x) (s.ev y) R s d
  | _ => opq E o R s
def qn (E : Env) (o : Oper) (R : ASt → Prop) (s : ASt) : Prop := match o.op with
  | .store t x y => storeQ E.P t (s.ev x) (s.ev y) R s
  | _ => opq E o R s
/-- A place in a row; a slot that holds a bare value stops the walk: it may be a row that is lent (opq_relit). -/
def idxS (E : Env) (o : Oper) (t : TypeId) (x i : AV) (R : ASt → Prop) (s : ASt) (d : Nat) : Prop := match x with
  | .lit _ => opq E o R s
  | _ => d < E.nt ∧ indexAddrQ E.P t x i R s d
def qs (E : Env) (o : Oper) (d : Nat) (R : ASt → Prop) (s : ASt) : Prop := match o.op with
  | .assign x => d < E.nt ∧ assignQ E.P o.type (s.ev x) R s d
  | .binOp op t x y _ => d < E.nt ∧ binS E.P op t (s.ev x) (s.ev y) R s d
  | .indexAddr t x i => idxS E o t (s.ev x) (s.ev i) R s d
  | _ => qv E o d R s
def st1 (E : Env) (o : Oper) (R : ASt → Prop) (s : ASt) : Prop := match o.dst with
  | some d => qs E o d R s
  | none => qn E o R s

theorem of_st1 {E : Env} {o : Oper} {R : ASt → Prop} {s : ASt} (h : st1 E o R s) : LJ E o s R := by
  unfold st1 at h
  split at h
  · rename_i d hd
    obtain ⟨d0, op, t, pos, after, g⟩ := o
    simp only at hd
    subst hd
    have fin : (∃ v, QJ E ⟨some d, op, t, pos, after, g⟩ s v none ∧ R (s.set d v)) → LJ E ⟨some d, op, t, pos, after, g⟩ s R := fun ⟨v, h1, h2⟩ => LJ.of_q h1 h2
    unfold qs at h
    split at h
    · rename_i e; simp only at e; subst e; exact of_assign h.1 h.2
    · rename_i e; simp only at e; subst e; exact of_binS h.1 h.2
    · rename_i e; simp only at e; subst e
      unfold idxS at h
      split at h
      · exact h
      · exact fin (of_indexAddr h.1 h.2)
    unfold qv at h
    split at h
    · rename_i e; simp only at e; subst e; exact fin ⟨_, q_move h.1, h.2⟩
    · rename_i e; simp only at e; subst e; exact fin ⟨_, q_assign h.1, h.2⟩
    · rename_i e; simp only at e; subst e; exact fin (of_pick h.1 h.2)
    · rename_i e; simp only at e; subst e; exact fin (of_bin h.1 h.2)
    · rename_i e; simp only at e; subst e; exact fin (of_un h.1 h.2)
    · rename_i e; simp only at e; subst e; exact fin (of_conv h.1 h.2)
    · rename_i e; simp only at e; subst e; exact fin (of_len h.1 h.2)
    · rename_i e; simp only at e; subst e; exact fin (of_max h.1 h.2)
    · rename_i e; simp only at e; subst e; exact fin (of_min h.1 h.2)
    · rename_i e; simp only at e; subst e; exact fin (of_indexAddr h.1 h.2)
    · rename_i e; simp only at e; subst e; exact fin (of_index h.1 h.2)
    · rename_i e; simp only at e; subst e; exact fin (of_fieldAddr h.1 h.2)
    · rename_i e; simp only at e; subst e; exact fin (of_load h.1 h.2)
    · rename_i e; simp only at e; subst e; exact fin (of_nck h.1 h.2)
    · rename_i e; simp only at e; subst e; exact fin (of_field h.1 h.2)
    · rename_i e; simp only at e; subst e; exact fin (of_extract h.1 h.2)
    · rename_i e; simp only at e; subst e; exact fin ⟨_, q_makeFunc h.1, h.2⟩
    · rename_i e; simp only at e; subst e; exact of_make h.1 h.2
    · rename_i e; simp only at e; subst e; exact of_box h.1 h.2
    · rename_i e; simp only at e; subst e; exact of_alloc h.1 h.2
    · rename_i e; simp only at e; subst e; exact fin (of_build h.1 h.2)
    · rename_i e; simp only at e; subst e; exact of_buildSlice h.1 h.2
    · rename_i e; simp only at e; subst e; exact fin (of_slice h.1 h.2)
    · rename_i e; simp only at e; subst e; obtain ⟨⟨h1, h3⟩, h2⟩ := h; subst h3; exact of_append h1 h2
    · exact h
  · rename_i hd
    obtain ⟨d0, op, t, pos, after, g⟩ := o
    simp only at hd
    subst hd
    unfold qn at h
    split at h
    · rename_i e; simp only at e; subst e; exact of_store h
    · exact h

def skip1 (E : Env) (d : Option Tmp) (R : ASt → Prop) (s : ASt) : Prop := (∀ x, d = some x → x < E.nt) ∧ R (put s d (.lit Go.undef) none)
/-- An operation under a guard: 'v': what the guard gave, 'b': what it must be. -/
def GQ (E : Env) (v : AV) (b : Bool) (o : Oper) (R : ASt → Prop) (s : ASt) : Prop := ∃ c, v = .lit c ∧ ((c = .bool b ∧ st1 E o R s) ∨ (c ≠ .bool b ∧ skip1 E o.dst R s))

/-- The operations of a region, in the text's order; 'ds': the slots that they write. -/
def sq (E : Env) (ds : List (Option Tmp)) : List Oper → (ASt → Prop) → (ASt → Prop)
  | [] => fun k => k
  | o :: rest => fun k s => match o.guard with
    | none => st1 E o (sq E ds rest k) s
    | some (j, b) => match ds[j]? with
      | some (some d') => GQ E (s.t d') b o (sq E ds rest k) s
      | _ => False

theorem LJ.mono {E : Env} {o : Oper} {s : ASt} {k k' : ASt → Prop} (h : LJ E o s k) (hk : ∀ s, k s → k' s) : LJ E o s k' := fun a w hr =>
  Oper.wp_mono (fun a' w' ⟨s', h1, h2⟩ => ⟨s', h1, hk s' h2⟩) (h a w hr)

theorem sq_sound {E : Env} {ops : Array Oper} : ∀ {l : List Oper} {k : ASt → Prop} {s : ASt}, sq E (ops.toList.map (·.dst)) l k s → Seq E ops l k s
  | [], k, s, h => Seq.nil h
  | o :: rest, k, s, h => by
    simp only [sq] at h
    split at h
    · rename_i hg
      exact Seq.cons hg ((of_st1 h).mono fun s h => sq_sound h)
    · rename_i j b hg
      split at h
      · rename_i d hd
        have hd : (ops[j]?).bind (·.dst) = some d := by
          rw [List.getElem?_map, Array.getElem?_toList] at hd
          cases hx : ops[j]? with
          | none => simp [hx] at hd
          | some o' => simp only [hx, Option.map_some, Option.some.injEq] at hd; simp [hd]
        obtain ⟨c, hc, h1⟩ := h
        rcases h1 with ⟨rfl, h1⟩ | ⟨hcb, h1⟩
        · exact Seq.yes hg hd hc ((of_st1 h1).mono fun s h => sq_sound h)
        · exact Seq.no hg hd hc hcb h1.1 (sq_sound h1.2)
      · exact h.elim

/-- A test whose answer is 'v'. -/
def CBC (v : AV) (A B : ASt → Prop) (s : ASt) : Prop := ∃ b, v = .lit (.bool b) ∧ if b = true then A s else B s

/-- What is to be shown of a piece of code. -/
def aw (E : Env) : Code → (AX → ASt → Prop) → (ASt → Prop)
  | .skip => fun K => K .nm
  | .ret => fun K => K .rt
  | .exit id => fun K => K (.ex id)
  | .label _ => fun K => K .nm
  | .seq x y => fun K => aw E x (thenK (aw E y K) K)
  | .block id c => fun K => aw E c (blockK id K)
  | .cond c x y => fun K s => CBC (s.ev c) (aw E x K) (aw E y K) s
  | .region _ ops false => fun K => sq E (ops.toList.map (·.dst)) ops.toList (K .nm)
  | c => fun K => AWP E c K

theorem aw_sound {E : Env} : ∀ {c : Code} {K : AX → ASt → Prop} {s : ASt}, aw E c K s → AWP E c K s := by
  intro c
  induction c with
  | skip => intro K s h; exact AWP.skip h
  | ret => intro K s h; exact AWP.ret h
  | exit id => intro K s h; exact AWP.exit h
  | label l => intro K s h; exact AWP.label h
  | seq x y ihx ihy =>
    intro K s h
    exact AWP.seq ((ihx h).mono fun e s h => by cases e <;> first | exact ihy h | exact h)
  | block id c ih => intro K s h; exact AWP.block (ih h)
  | cond c x y ihx ihy =>
    intro K s h
    obtain ⟨b, h1, h2⟩ := h
    exact AWP.cond h1 (fun e => ihx (by rw [if_pos e] at h2; exact h2)) (fun e => ihy (by rw [if_neg (by simp [e])] at h2; exact h2))
  | region id ops draw =>
    intro K s h
    cases draw with
    | false =>
      obtain ⟨l⟩ := ops
      exact AWP.region (sq_sound h)
    | true => exact h
  | loop c _ => intro K s h; exact h
  | rangeFunc => intro K s h; exact h
  | scope c _ => intro K s h; exact h
  | goto l => intro K s h; exact h
  | refuse w => intro K s h; exact h

/-! ### The rules for 'simp only' -/
section
variable {E : Env} {K : AX → ASt → Prop} {k R A B : ASt → Prop} {s : ASt} {ds : List (Option Tmp)} {rest : List Oper}
theorem aw_skip : aw E .skip K s = K .nm s := nrfl rfl
theorem aw_ret : aw E .ret K s = K .rt s := nrfl rfl
theorem aw_exit {id : Nat} : aw E (.exit id) K s = K (.ex id) s := nrfl rfl
theorem aw_seq {x y : Code} : aw E (.seq x y) K s = aw E x (thenK (aw E y K) K) s := nrfl rfl
theorem aw_block {id : Nat} {c : Code} : aw E (.block id c) K s = aw E c (blockK id K) s := nrfl rfl
theorem aw_cond {c : Operand} {x y : Code} : aw E (.cond c x y) K s = CBC (s.ev c) (aw E x K) (aw E y K) s := nrfl rfl
theorem aw_region {id : Nat} {l : List Oper} : aw E (.region id l.toArray false) K s = sq E (l.map (·.dst)) l (K .nm) s := nrfl rfl
theorem thenK_nm : thenK k K .nm s = k s := nrfl rfl
theorem thenK_rt : thenK k K .rt s = K .rt s := nrfl rfl
theorem thenK_ex {i : Nat} : thenK k K (.ex i) s = K (.ex i) s := nrfl rfl
theorem blockK_nm {id : Nat} : blockK id K .nm s = K .nm s := nrfl rfl
theorem blockK_rt {id : Nat} : blockK id K .rt s = K .rt s := nrfl rfl
theorem blockK_ex {id i : Nat} : blockK id K (.ex i) s = if i = id then K .nm s else K (.ex i) s := nrfl rfl
theorem sq_nil : sq E ds [] k s = k s := nrfl rfl
theorem sq_none {d : Option Tmp} {op : Op} {t : TypeId} {pos : String} {after : Array Edge} : sq E ds (⟨d, op, t, pos, after, none⟩ :: rest) k s = st1 E ⟨d, op, t, pos, after, none⟩ (sq E ds rest k) s := nrfl rfl
theorem sq_some {d : Option Tmp} {op : Op} {t : TypeId} {pos : String} {after : Array Edge} {j : Nat} {b : Bool} : sq E ds (⟨d, op, t, pos, after, some (j, b)⟩ :: rest) k s = match ds[j]? with
    | some (some d') => GQ E (s.t d') b ⟨d, op, t, pos, after, some (j, b)⟩ (sq E ds rest k) s
    | _ => False := nrfl rfl
theorem GQ_same {b : Bool} {o : Oper} : GQ E (.lit (.bool b)) b o R s = st1 E o R s :=
  propext ⟨fun ⟨c, h1, h2⟩ => by
    simp only [AV.lit.injEq] at h1
    subst h1
    rcases h2 with h | h
    · exact h.2
    · exact absurd rfl h.1, fun h => ⟨_, rfl, .inl ⟨rfl, h⟩⟩⟩
theorem GQ_not {c : Value} {b : Bool} {o : Oper} (hc : c ≠ .bool b) : GQ E (.lit c) b o R s = skip1 E o.dst R s :=
  propext ⟨fun ⟨c', h1, h2⟩ => by
    simp only [AV.lit.injEq] at h1
    subst h1
    rcases h2 with h | h
    · exact absurd h.1 hc
    · exact h.2, fun h => ⟨_, rfl, .inr ⟨hc, h⟩⟩⟩
theorem GQ_tf {o : Oper} : GQ E (.lit (.bool true)) false o R s = skip1 E o.dst R s := GQ_not (by simp)
theorem GQ_ft {o : Oper} : GQ E (.lit (.bool false)) true o R s = skip1 E o.dst R s := GQ_not (by simp)
theorem GQ_undef {b : Bool} {o : Oper} : GQ E (.lit Go.undef) b o R s = skip1 E o.dst R s := GQ_not (by simp [Go.undef])
theorem CBC_true : CBC (.lit (.bool true)) A B s = A s :=
  propext ⟨fun ⟨c, h1, h2⟩ => by simp only [AV.lit.injEq, Value.bool.injEq] at h1; subst h1; simpa using h2, fun h => ⟨true, rfl, by simpa using h⟩⟩
theorem CBC_false : CBC (.lit (.bool false)) A B s = B s :=
  propext ⟨fun ⟨c, h1, h2⟩ => by simp only [AV.lit.injEq, Value.bool.injEq] at h1; subst h1; simpa using h2, fun h => ⟨false, rfl, by simpa using h⟩⟩
theorem CBC_not {b : Bool} : CBC (.lit (.bool !b)) A B s = CBC (.lit (.bool b)) B A s := by cases b <;> simp only [Bool.not_true, Bool.not_false, CBC_true, CBC_false]
theorem set_t {d i : Nat} {v : AV} : (s.set d v).t i = if i = d then v else s.t i := nrfl rfl
theorem set_m {d : Nat} {v : AV} : (s.set d v).m = s.m := nrfl rfl
theorem new_t {d i : Nat} {v T : AV} : (s.new d v T).t i = if i = d then v else (s.t i).mapRef (killF d []) := nrfl rfl
theorem new_m {d r : Nat} {v T : AV} : (s.new d v T).m r = if r = d then some T else s.m r := nrfl rfl
theorem updM_t {r i : Nat} {p : List Nat} {T : AV} : (s.updM r p T).t i = s.t i := nrfl rfl
theorem updM_m {r q : Nat} {p : List Nat} {T : AV} : (s.updM r p T).m q = if q = r then (s.m r).map (·.upd p T) else s.m q := nrfl rfl
theorem nodeOf_nil {r : Nat} : nodeOf s r [] = s.m r := by cases h : s.m r <;> simp [nodeOf, h, AV.at_]
theorem upd_nil {A T : AV} : A.upd [] T = T := by simp [AV.upd]
theorem ev_tmp {t : Nat} : s.ev (.tmp t) = s.t t := nrfl rfl
theorem ev_const {v : Value} : s.ev (.const v) = .lit v := nrfl rfl
theorem ev_func {f : Nat} : s.ev (.func f) = .fn f [] := nrfl rfl
theorem skip1_some {d : Nat} : skip1 E (some d) R s = (d < E.nt ∧ R (s.set d (.lit Go.undef))) := propext ⟨fun h => ⟨h.1 d rfl, h.2⟩, fun h => ⟨fun x e => (by cases e; exact h.1), h.2⟩⟩
theorem skip1_none : skip1 E none R s = R s := propext ⟨fun h => h.2, fun h => ⟨fun x e => (by cases e), h⟩⟩
theorem startT_t {args : List AV} {i : Nat} : (startT args).t i = args.getD i .junk := by simp [startT, List.getD]
end

/-! ### One operation -/
section
variable {E : Env} {R : ASt → Prop} {s : ASt} {d : Nat} {t : TypeId} {pos : String} {after : Array Edge} {g : Option (Nat × Bool)}
theorem st_move {x : Operand} : st1 E ⟨some d, .move x, t, pos, after, g⟩ R s = (d < E.nt ∧ R (s.set d (s.ev x))) := nrfl rfl
theorem st_pick {c x y : Operand} : st1 E ⟨some d, .pick c x y, t, pos, after, g⟩ R s = (d < E.nt ∧ pickQ (s.ev c) (s.ev x) (s.ev y) R s d) := nrfl rfl
theorem st_bin {op : BinOp} {x y : Operand} {xt yt : TypeId} : st1 E ⟨some d, .binOp op xt x y yt, t, pos, after, g⟩ R s = (d < E.nt ∧ binS E.P op xt (s.ev x) (s.ev y) R s d) := nrfl rfl
theorem binS_lit {P : Program} {op : BinOp} {xt : TypeId} {v : Value} {y : AV} : binS P op xt (.lit v) y R s d = binQ P op xt (.lit v) y R s d := nrfl rfl
theorem binS_row {P : Program} {op : BinOp} {xt : TypeId} {o : Bool} {sz n : Nat} {cs : List AV} : binS P op xt (.row o sz n cs) (.lit (.slice none 0 0)) R s d = (((slT P xt).isSome = true ∧ (op = .eql ∨ op = .neq)) ∧ ∀ b : Bool, (0 < n → b = (if op = .eql then false else true)) → R (s.set d (.lit (.bool b)))) := nrfl rfl
theorem st_un {op : UnOp} {x : Operand} {xt : TypeId} : st1 E ⟨some d, .unOp op xt x, t, pos, after, g⟩ R s = (d < E.nt ∧ unQ op (s.ev x) R s d) := nrfl rfl
theorem st_conv {a b : TypeId} {x : Operand} : st1 E ⟨some d, .convert a b x, t, pos, after, g⟩ R s = (d < E.nt ∧ convQ E.P a b (s.ev x) R s d) := nrfl rfl
theorem st_len {x : Operand} {xt : TypeId} : st1 E ⟨some d, .call { callee := .builtin .len, args := #[x], argTypes := #[xt] }, t, pos, after, g⟩ R s = (d < E.nt ∧ lenQ E.P xt (s.ev x) R s d) := nrfl rfl
theorem st_max {x y : Operand} {ts : Array TypeId} : st1 E ⟨some d, .call { callee := .builtin .max, args := #[x, y], argTypes := ts }, t, pos, after, g⟩ R s = (d < E.nt ∧ maxQ (s.ev x) (s.ev y) R s d) := nrfl rfl
theorem st_min {x y : Operand} {ts : Array TypeId} : st1 E ⟨some d, .call { callee := .builtin .min, args := #[x, y], argTypes := ts }, t, pos, after, g⟩ R s = (d < E.nt ∧ minQ (s.ev x) (s.ev y) R s d) := nrfl rfl
theorem st_indexAddr {x y : Operand} {xt : TypeId} : st1 E ⟨some d, .indexAddr xt x y, t, pos, after, g⟩ R s = idxS E ⟨some d, .indexAddr xt x y, t, pos, after, g⟩ xt (s.ev x) (s.ev y) R s d := nrfl rfl
theorem idxS_row {o : Oper} {xt : TypeId} {b : Bool} {sz n : Nat} {cs : List AV} {i : AV} : idxS E o xt (.row b sz n cs) i R s d = (d < E.nt ∧ indexAddrQ E.P xt (.row b sz n cs) i R s d) := nrfl rfl
theorem idxS_sl {o : Oper} {xt : TypeId} {r : Nat} {p : List Nat} {f n : Nat} {i : AV} : idxS E o xt (.sl r p f n) i R s d = (d < E.nt ∧ indexAddrQ E.P xt (.sl r p f n) i R s d) := nrfl rfl
theorem idxS_lit {o : Oper} {xt : TypeId} {v : Value} {i : AV} : idxS E o xt (.lit v) i R s d = opq E o R s := nrfl rfl
theorem st_index {x y : Operand} {xt : TypeId} : st1 E ⟨some d, .index xt x y, t, pos, after, g⟩ R s = (d < E.nt ∧ indexQ E.P xt (s.ev x) (s.ev y) R s d) := nrfl rfl
theorem st_fieldAddr {x : Operand} {xt : TypeId} {f : Nat} : st1 E ⟨some d, .fieldAddr xt x f, t, pos, after, g⟩ R s = (d < E.nt ∧ fieldAddrQ E.P xt (s.ev x) f R s d) := nrfl rfl
theorem st_load {x : Operand} {xt : TypeId} : st1 E ⟨some d, .load xt x, t, pos, after, g⟩ R s = (d < E.nt ∧ loadQ E.P xt (s.ev x) R s d) := nrfl rfl
theorem st_nck {x : Operand} : st1 E ⟨some d, .nilCheck x, t, pos, after, g⟩ R s = (d < E.nt ∧ nilQ (s.ev x) R s d) := nrfl rfl
theorem st_field {x : Operand} {xt : TypeId} {f : Nat} : st1 E ⟨some d, .field xt x f, t, pos, after, g⟩ R s = (d < E.nt ∧ fieldQ E.P xt (s.ev x) f R s d) := nrfl rfl
theorem st_extract {x : Operand} {i : Nat} : st1 E ⟨some d, .extract x i, t, pos, after, g⟩ R s = (d < E.nt ∧ extractQ (s.ev x) i R s d) := nrfl rfl
theorem st_makeFunc {f : FuncId} {caps : List Operand} : st1 E ⟨some d, .makeFunc (.func f) #[] caps.toArray, t, pos, after, g⟩ R s = (d < E.nt ∧ R (s.set d (.fn f (caps.map s.ev)))) := nrfl rfl
theorem st_build {xt : TypeId} {parts : List (Nat × Operand)} : st1 E ⟨some d, .build xt parts.toArray, t, pos, after, g⟩ R s = (d < E.nt ∧ buildQ E.P xt parts R s d) := nrfl rfl
theorem st_slice {x : Operand} {xt : TypeId} {lo hi : Option Operand} : st1 E ⟨some d, .slice xt x lo hi none, t, pos, after, g⟩ R s = (d < E.nt ∧ sliceQ E.P xt (s.ev x) lo hi R s d) := nrfl rfl
theorem st_make {x y : Operand} {xt : TypeId} : st1 E ⟨some d, .makeSlice xt x y, t, pos, after, g⟩ R s = (d < E.nt ∧ makeQ E.P xt (s.ev x) (s.ev y) R s d) := nrfl rfl
theorem st_box {x : Operand} {xt : TypeId} : st1 E ⟨some d, .box xt x, t, pos, after, g⟩ R s = (d < E.nt ∧ boxQ d R (closeVs s (s.ev x).parts)) := nrfl rfl
theorem st_alloc {xt : TypeId} : st1 E ⟨some d, .alloc xt, t, pos, after, g⟩ R s = (d < E.nt ∧ allocQ E.P xt d R s) := nrfl rfl
theorem st_buildSlice {xt : TypeId} {len : Nat} {parts : List (Nat × Operand)} : st1 E ⟨some d, .buildSlice xt len parts.toArray, t, pos, after, g⟩ R s = (d < E.nt ∧ buildSliceQ E.P xt len parts R s d) := nrfl rfl
theorem st_append {x y : Operand} {xt xt' : TypeId} : st1 E ⟨some d, .call { callee := .builtin .append, args := #[x, y], argTypes := #[xt, xt'] }, t, pos, after, g⟩ R s = ((d < E.nt ∧ xt' = xt) ∧ appQ E.P xt (s.ev x) (s.ev y) R s d) := nrfl rfl
theorem st_assign {x : Operand} : st1 E ⟨some d, .assign x, t, pos, after, g⟩ R s = (d < E.nt ∧ assignQ E.P t (s.ev x) R s d) := nrfl rfl
theorem st_call {fo : Operand} {xs : List Operand} {ts : Array TypeId} {d : Option Tmp} : st1 E ⟨d, .call { callee := .value fo, args := xs.toArray, argTypes := ts }, t, pos, after, g⟩ R s = opq E ⟨d, .call { callee := .value fo, args := xs.toArray, argTypes := ts }, t, pos, after, g⟩ R s := by cases d <;> rfl
theorem st_store {xt : TypeId} {x y : Operand} : st1 E ⟨none, .store xt x y, t, pos, after, g⟩ R s = storeQ E.P xt (s.ev x) (s.ev y) R s := nrfl rfl
end
end Go.Av
