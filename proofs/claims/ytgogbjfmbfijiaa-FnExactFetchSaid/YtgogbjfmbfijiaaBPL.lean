/- Texts in order; lists that rise by a key; the search by halves. Plain: no program in sight. -/
import Derived.Test.YtgogbjfmbfijiaaBPg
set_option linter.unusedSimpArgs false
set_option linter.unusedVariables false
/-! Texts in order; lists that rise by a key; the search by halves. Plain: no program in sight. -/
namespace Go.Av
def blt (a b : ByteArray) : Bool := Op.bytesLess a.toList b.toList
theorem bl_irrefl : ∀ (x : List UInt8), Op.bytesLess x x = false
  | [] => rfl
  | a :: x => by simp [Op.bytesLess, bl_irrefl x]
theorem bl_trans : ∀ {x y z : List UInt8}, Op.bytesLess x y = true → Op.bytesLess y z = true → Op.bytesLess x z = true
  | _, [], _, h, _ => by simp [Op.bytesLess] at h
  | _, _ :: _, [], _, h => by simp [Op.bytesLess] at h
  | [], b :: y, c :: z, _, _ => by simp [Op.bytesLess]
  | a :: x, b :: y, c :: z, h, k => by
    simp only [Op.bytesLess, Bool.or_eq_true, decide_eq_true_eq, Bool.and_eq_true, beq_iff_eq] at h k ⊢
    rcases h with h | ⟨rfl, h⟩ <;> rcases k with k | ⟨rfl, k⟩
    · exact .inl (UInt8.lt_trans h k)
    · exact .inl h
    · exact .inl k
    · exact .inr ⟨rfl, bl_trans h k⟩
theorem cb_spec : ∀ (x y : List UInt8), (Lib.compareBytes x y < 0 ↔ Op.bytesLess x y = true) ∧ (Lib.compareBytes x y = 0 ↔ x = y)
  | [], [] => by simp [Lib.compareBytes, Op.bytesLess]
  | [], b :: y => by simp [Lib.compareBytes, Op.bytesLess]
  | a :: x, [] => by simp [Lib.compareBytes, Op.bytesLess]
  | a :: x, b :: y => by
    have ih := cb_spec x y
    simp only [Lib.compareBytes, Op.bytesLess, Bool.or_eq_true, decide_eq_true_eq, Bool.and_eq_true, beq_iff_eq, List.cons.injEq]
    by_cases h : a < b
    · have hne : a ≠ b := fun e => by subst e; exact absurd h (UInt8.lt_irrefl a)
      simp [h, hne]
    · by_cases h' : b < a
      · have hne : a ≠ b := fun e => by subst e; exact absurd h' (UInt8.lt_irrefl a)
        simp [h, h', hne]
      · have hab : a = b := UInt8.toNat.inj (by
          have h1 : ¬ a.toNat < b.toNat := fun g => h (UInt8.lt_iff_toNat_lt.2 g)
          have h2 : ¬ b.toNat < a.toNat := fun g => h' (UInt8.lt_iff_toNat_lt.2 g)
          omega)
        subst hab
        simp [h, ih.1, ih.2]
theorem toList_data (b : ByteArray) : b.data.toList = b.toList := by
  have h := (barr_eq (x := b) (y := b))
  exact (show b.toList = b.data.toList from by
    have loop : ∀ (n i : Nat) (r : List UInt8), b.size - i = n → ByteArray.toList.loop b i r = r.reverse ++ b.data.toList.drop i := by
      intro n
      induction n with
      | zero =>
        intro i r h
        rw [ByteArray.toList.loop]
        have : ¬ i < b.size := by omega
        simp only [this, if_false]
        have hs : b.data.size = b.size := rfl
        rw [List.drop_of_length_le (by rw [Array.length_toList]; omega)]; simp
      | succ n ih =>
        intro i r h
        rw [ByteArray.toList.loop]
        have hlt : i < b.size := by omega
        simp only [hlt, if_true]
        rw [ih (i + 1) _ (by omega)]
        have hlt' : i < b.data.toList.length := by simpa using hlt
        rw [List.drop_eq_getElem_cons hlt']
        have : b.get! i = b.data.toList[i] := by
          show b.data.get!Internal i = _
          simp [Array.get!Internal, getElem!_pos, hlt]
        simp [this]
    have := loop b.size 0 [] (by omega)
    simpa [ByteArray.toList] using this).symm
theorem cmpB_lt (a b : ByteArray) : cmpB a b < 0 ↔ blt a b = true := by
  unfold cmpB blt; rw [toList_data, toList_data]; exact (cb_spec _ _).1
theorem cmpB_eq (a b : ByteArray) : cmpB a b = 0 ↔ a = b := by
  unfold cmpB; rw [toList_data, toList_data, (cb_spec _ _).2, barr_eq]
theorem blt_irrefl (a : ByteArray) : blt a a = false := bl_irrefl _
theorem blt_trans {a b c : ByteArray} (h : blt a b = true) (k : blt b c = true) : blt a c = true := bl_trans h k
/-! ### Lists that rise by a key -/
section
variable {α : Type} {key : α → ByteArray}
/-- The list rises. -/
def Rise (key : α → ByteArray) : List α → Prop
  | [] => True
  | x :: l => (∀ y ∈ l, blt (key x) (key y) = true) ∧ Rise key l
/-- Where a key stands or would stand. -/
def spot (key : α → ByteArray) (l : List α) (t : ByteArray) : Nat := (l.takeWhile fun x => blt (key x) t).length
theorem spot_le (l : List α) (t : ByteArray) : spot key l t ≤ l.length := by
  unfold spot; exact (List.takeWhile_prefix _).length_le
theorem spot_nil (t : ByteArray) : spot key ([] : List α) t = 0 := rfl
theorem spot_cons (x : α) (l : List α) (t : ByteArray) : spot key (x :: l) t = if blt (key x) t = true then spot key l t + 1 else 0 := by
  unfold spot
  cases h : blt (key x) t <;> simp [List.takeWhile_cons, h]
theorem spot_lt : ∀ {l : List α} {t : ByteArray} {i : Nat} {x : α}, i < spot key l t → l[i]? = some x → blt (key x) t = true
  | [], t, i, x, h, hx => by simp at hx
  | y :: l, t, i, x, h, hx => by
    rw [spot_cons] at h
    split at h
    · rename_i hb
      cases i with
      | zero => simp at hx; subst hx; exact hb
      | succ i => exact spot_lt (l := l) (i := i) (by omega) (by simpa using hx)
    · omega
theorem spot_ge : ∀ {l : List α} {t : ByteArray} {i : Nat} {x : α}, Rise key l → spot key l t ≤ i → l[i]? = some x → blt (key x) t = false
  | [], t, i, x, _, h, hx => by simp at hx
  | y :: l, t, i, x, hr, h, hx => by
    rw [spot_cons] at h
    split at h
    · cases i with
      | zero => omega
      | succ i => exact spot_ge (l := l) (i := i) hr.2 (by omega) (by simpa using hx)
    · rename_i hb
      have hb : blt (key y) t = false := by simpa using hb
      cases i with
      | zero => simp at hx; subst hx; exact hb
      | succ i =>
        have hm : x ∈ l := List.mem_of_getElem? (by simpa using hx)
        have h1 := hr.1 x hm
        cases hq : blt (key x) t with
        | false => rfl
        | true => rw [blt_trans h1 hq] at hb; cases hb
/-- The one element with a key. -/
def hasK (key : α → ByteArray) [DecidableEq ByteArray] (l : List α) (t : ByteArray) : Bool := l.any fun x => decide (key x = t)
theorem rise_at : ∀ {l : List α} {i j : Nat} {x y : α}, Rise key l → i < j → l[i]? = some x → l[j]? = some y → blt (key x) (key y) = true
  | [], i, j, x, y, _, _, h, _ => by simp at h
  | z :: l, 0, j + 1, x, y, hr, _, hx, hy => by
    simp at hx hy; subst hx; exact hr.1 y (List.mem_of_getElem? hy)
  | z :: l, i + 1, j + 1, x, y, hr, h, hx, hy => rise_at (l := l) (i := i) (j := j) hr.2 (by omega) (by simpa using hx) (by simpa using hy)
theorem rise_inj {l : List α} {i j : Nat} {x y : α} (hr : Rise key l) (hx : l[i]? = some x) (hy : l[j]? = some y) (he : key x = key y) : i = j := by
  rcases Nat.lt_trichotomy i j with h | h | h
  · have := rise_at hr h hx hy; rw [he, blt_irrefl] at this; cases this
  · exact h
  · have := rise_at hr h hy hx; rw [he, blt_irrefl] at this; cases this
/-- An element with the key stands at the key's spot. -/
theorem spot_at {l : List α} {i : Nat} {x : α} (hr : Rise key l) (hx : l[i]? = some x) : spot key l (key x) = i := by
  rcases Nat.lt_trichotomy (spot key l (key x)) i with h | h | h
  · obtain ⟨hi, _⟩ := List.getElem?_eq_some_iff.1 hx
    have hy : l[spot key l (key x)]? = some (l[spot key l (key x)]'(by omega)) := List.getElem?_eq_getElem _
    have h1 := spot_ge hr (Nat.le_refl _) hy
    have h2 := rise_at hr h hy hx
    rw [h1] at h2; cases h2
  · exact h
  · have := spot_lt h hx; rw [blt_irrefl] at this; cases this
theorem rise_of : ∀ {l : List α}, (∀ (i : Nat) (x y : α), l[i]? = some x → l[i + 1]? = some y → blt (key x) (key y) = true) → Rise key l
  | [], _ => trivial
  | [x], _ => ⟨by simp, trivial⟩
  | x :: y :: l, h => by
    have ih : Rise key (y :: l) := rise_of (fun i a b ha hb => h (i + 1) a b (by simpa using ha) (by simpa using hb))
    have hxy := h 0 x y rfl rfl
    refine ⟨fun z hz => ?_, ih⟩
    rcases List.mem_cons.1 hz with rfl | hz
    · exact hxy
    · exact blt_trans hxy (ih.1 z hz)
end
/-! ### The search by halves -/
def mid (i j : Int) : Int := IntKind.i64.wrap (Int.fdiv (IntKind.u64.wrap (IntKind.i64.wrap (i + j))) (2 ^ (min (1 : Int).toNat IntKind.u64.bits)))
theorem mid_eq {i j : Int} (h0 : 0 ≤ i) (h1 : i ≤ j) (h2 : j ≤ 4611686018427387903) : mid i j = (i + j) / 2 := by
  unfold mid
  rw [wI (i + j) (by omega) (by omega)]
  have hu : IntKind.u64.wrap (i + j) = i + j := by
    simp only [IntKind.wrap, IntKind.signed, IntKind.bits, Bool.false_and, Bool.false_eq_true, if_false]
    omega
  rw [hu]
  have hb : (2 : Int) ^ (min (1 : Int).toNat IntKind.u64.bits) = 2 := by decide
  rw [hb, Int.fdiv_eq_ediv_of_nonneg _ (by omega), wI _ (by omega) (by omega)]
def bsG {α : Type} (x : List α) (t : ByteArray) (f : α → ByteArray → Option Int) : Nat → Int → Int → Option (Int × Int)
  | 0, _, _ => none
  | n + 1, i, j => if i < j then ((idx x (mid i j)).bind fun a => (f a t).bind fun v => if v < 0 then bsG x t f n (IntKind.i64.wrap (mid i j + 1)) j else bsG x t f n i (mid i j)) else some (i, j)
theorem bsG_spec {α : Type} {key : α → ByteArray} {x : List α} {t : ByteArray} {f : α → ByteArray → Option Int} (hf : ∀ a, f a t = some (cmpB (key a) t)) (hr : Rise key x) (hl : x.length ≤ 4611686018427387903) : ∀ (n : Nat) (i j : Nat), j - i < n → i ≤ spot key x t → spot key x t ≤ j → j ≤ x.length →
    bsG x t f n (i : Int) (j : Int) = some (((spot key x t : Nat) : Int), ((spot key x t : Nat) : Int))
  | 0, i, j, h, _, _, _ => by omega
  | n + 1, i, j, h, h1, h2, h3 => by
    unfold bsG
    by_cases hij : (i : Int) < j
    · have hm : mid (i : Int) j = (((i + j) / 2 : Nat) : Int) := by rw [mid_eq (by omega) (by omega) (by omega)]; omega
      have hlt : (i + j) / 2 < x.length := by omega
      rw [if_pos hij, hm, idx_of hlt, Option.bind_some, hf, Option.bind_some]
      have hx : x[(i + j) / 2]? = some x[(i + j) / 2] := List.getElem?_eq_getElem hlt
      by_cases hc : cmpB (key x[(i + j) / 2]) t < 0
      · rw [if_pos hc, wI _ (by omega) (by omega), show (((i + j) / 2 : Nat) : Int) + 1 = (((i + j) / 2 + 1 : Nat) : Int) by omega]
        refine bsG_spec hf hr hl n _ _ (by omega) ?_ h2 h3
        rcases Nat.lt_or_ge ((i + j) / 2) (spot key x t) with g | g
        · omega
        · have := spot_ge hr g hx; rw [(cmpB_lt _ _).1 hc] at this; cases this
      · rw [if_neg hc]
        refine bsG_spec hf hr hl n _ _ (by omega) h1 ?_ (by omega)
        rcases Nat.lt_or_ge ((i + j) / 2) (spot key x t) with g | g
        · exact absurd ((cmpB_lt _ _).2 (spot_lt g hx)) hc
        · exact g
    · rw [if_neg hij]
      have : i = spot key x t := by omega
      have h' : j = spot key x t := by omega
      rw [← this, h', ← this]
/-- The whole search: where the key stands or would stand, and whether it is there. -/
def bsW {α : Type} (N : Nat) (x : List α) (t : ByteArray) (f : α → ByteArray → Option Int) : Option (Int × Bool) :=
  (bsG x t f N 0 (x.length : Int)).bind fun q => match q with | (i, j) => (if i < (x.length : Int) then ((idx x i).bind fun a => (f a t).bind fun v => some (i, (v == 0))) else some (i, false))
theorem bsW_spec {α : Type} {key : α → ByteArray} {N : Nat} {x : List α} {t : ByteArray} {f : α → ByteArray → Option Int} (hN : x.length < N) (hf : ∀ a, f a t = some (cmpB (key a) t)) (hr : Rise key x) (hl : x.length ≤ 4611686018427387903) :
    bsW N x t f = some (((spot key x t : Nat) : Int), (x[spot key x t]?).elim false fun a => decide (key a = t)) := by
  unfold bsW
  have h0 := bsG_spec hf hr hl N 0 x.length (by omega) (Nat.zero_le _) (spot_le _ _) (Nat.le_refl _)
  rw [show ((0 : Nat) : Int) = 0 from rfl] at h0
  rw [h0, Option.bind_some]
  show (if ((spot key x t : Nat) : Int) < (x.length : Int) then _ else _) = _
  by_cases h : spot key x t < x.length
  · rw [if_pos (by omega), idx_of h, Option.bind_some, hf, Option.bind_some, List.getElem?_eq_getElem h]
    simp only [Option.elim_some]
    by_cases hc : key x[spot key x t] = t
    · have := (cmpB_eq (key x[spot key x t]) t).2 hc; rw [this]; simp [hc]
    · have : cmpB (key x[spot key x t]) t ≠ 0 := fun e => hc ((cmpB_eq _ _).1 e)
      simp [this, hc]
  · rw [if_neg (by omega), List.getElem?_eq_none (by omega)]
    rfl
end Go.Av
