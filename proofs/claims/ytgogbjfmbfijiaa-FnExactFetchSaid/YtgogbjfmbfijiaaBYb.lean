/- What the laws on types need. -/
import Derived.Test.YtgogbjfmbfijiaaBZzV
import Derived.Test.YtgogbjfmbfijiaaBZzQ
import Derived.Test.YtgogbjfmbfijiaaBZzZ
import Derived.Test.YtgogbjfmbfijiaaBZzT2
set_option linter.unusedSimpArgs false
set_option linter.unusedVariables false
/-! What the laws on types need. -/
namespace Go.Av
abbrev I (n : Int) : AV := .lit (.int .i64 n)
abbrev B (b : Bool) : AV := .lit (.bool b)
abbrev S (s : ByteArray) : AV := .lit (.string s)
abbrev U8 (n : Int) : AV := .lit (.int .u8 n)
abbrev U32 (n : Int) : AV := .lit (.int .u32 n)
abbrev I32 (n : Int) : AV := .lit (.int .i32 n)
abbrev U64 (n : Int) : AV := .lit (.int .u64 n)
abbrev F64 (n : Nat) : AV := .lit (.float .f64 n)
theorem flat_take {α : Type} {enc : α → List AV} {sz : Nat} : ∀ {l : List α} (k : Nat), (∀ x ∈ l, (enc x).length = sz) → (l.flatMap enc).take (k * sz) = (l.take k).flatMap enc
  | [], k, _ => by simp
  | x :: l, 0, _ => by simp
  | x :: l, k + 1, h => by
    have hx := h x (by simp)
    have := flat_take (l := l) k (fun y hy => h y (by simp [hy]))
    rw [List.flatMap_cons, List.take_succ_cons, List.flatMap_cons, ← this, Nat.add_mul, Nat.one_mul, Nat.add_comm (k * sz) sz, List.take_append, hx]
    simp [List.take_of_length_le (by omega : (enc x).length ≤ sz + k * sz), Nat.add_sub_cancel_left]
theorem setL_one {α : Type} (l : List α) (k : Nat) {x : α} (h : k < l.length) : l.set k x = setL l k [x] := by
  simp [setL, List.set_eq_take_append_cons_drop, h]
theorem setL_mid {α : Type} (A c c' D : List α) (h : c'.length = c.length) : setL (A ++ (c ++ D)) A.length c' = A ++ (c' ++ D) := by
  rw [setL, List.take_left, ← List.drop_drop, List.drop_left, h, List.drop_left]
theorem flat_set {α : Type} {enc : α → List AV} {sz : Nat} {l : List α} {x : α} (h : ∀ y ∈ l, (enc y).length = sz) (hx : (enc x).length = sz) {k : Nat} (hk : k < l.length) (j : Nat) (hj : j < sz) (v : AV) (he : (enc l[k]).set j v = enc x) :
    (l.flatMap enc).set (k * sz + j) v = (l.set k x).flatMap enc := by
  have hl := h l[k] (List.getElem_mem hk)
  rw [← setL_flat x h hx hk, ← he]
  have e : l.take k ++ l[k] :: l.drop (k + 1) = l := by rw [← List.drop_eq_getElem_cons hk, List.take_append_drop]
  have hfl : l.flatMap enc = (l.take k).flatMap enc ++ (enc l[k] ++ (l.drop (k + 1)).flatMap enc) :=
    calc l.flatMap enc = (l.take k ++ l[k] :: l.drop (k + 1)).flatMap enc := by rw [e]
      _ = _ := by simp only [List.flatMap_append, List.flatMap_cons]
  have htl : ((l.take k).flatMap enc).length = k * sz := by
    rw [flat_len (fun y hy => h y (List.mem_of_mem_take hy)), List.length_take]; congr 1; omega
  generalize (l.take k).flatMap enc = A at hfl htl
  generalize (l.drop (k + 1)).flatMap enc = D at hfl
  rw [hfl, ← htl, setL_mid A (enc l[k]) _ D (by simp), List.set_append_right _ _ (by omega), List.set_append_left _ _ (by omega)]
  congr 3
  omega
theorem leafCs_app {a b : List AV} : leafCs (a ++ b) = (leafCs a && leafCs b) := by
  induction a with
  | nil => simp [leafCs]
  | cons x l ih => simp [leafCs, ih, Bool.and_assoc]
theorem fitCs_app {a b : List AV} : fitCs (a ++ b) = (fitCs a && fitCs b) := by
  induction a with
  | nil => simp [fitCs]
  | cons x l ih => simp [fitCs, ih, Bool.and_assoc]
theorem leafCs_flat {α : Type} {enc : α → List AV} (h : ∀ x, leafCs (enc x) = true) : ∀ {l : List α}, leafCs (l.flatMap enc) = true
  | [] => rfl
  | x :: l => by rw [List.flatMap_cons, leafCs_app, h x, leafCs_flat h]; rfl
theorem fitCs_flat {α : Type} {enc : α → List AV} (h : ∀ x, fitCs (enc x) = true) : ∀ {l : List α}, fitCs (l.flatMap enc) = true
  | [] => rfl
  | x :: l => by rw [List.flatMap_cons, fitCs_app, h x, fitCs_flat h]; rfl
theorem shares_app {a b : List AV} : AV.shares (a ++ b) = AV.shares a ++ AV.shares b := by simp [AV.shares_eq]
theorem shares_flat {α : Type} {enc enc' : α → List AV} (h : ∀ x, AV.shares (enc x) = enc' x) : ∀ {l : List α}, AV.shares (l.flatMap enc) = l.flatMap enc'
  | [] => rfl
  | x :: l => by rw [List.flatMap_cons, List.flatMap_cons, shares_app, h x, shares_flat h]
theorem pureVs_app {a b : List AV} : pureVs (a ++ b) = (pureVs a && pureVs b) := by
  induction a with
  | nil => simp [pureVs]
  | cons x l ih => simp [pureVs, ih, Bool.and_assoc]
theorem pureVs_flat {α : Type} {enc : α → List AV} (h : ∀ x, pureVs (enc x) = true) : ∀ {l : List α}, pureVs (l.flatMap enc) = true
  | [] => rfl
  | x :: l => by rw [List.flatMap_cons, pureVs_app, h x, pureVs_flat h]; rfl
end Go.Av
