/- GoodSpans: the program's and the reference's answer alike. -/
import Derived.Test.YtgogbjfmbfijiaaAKT
set_option linter.unusedSimpArgs false
set_option linter.unusedVariables false
set_option maxRecDepth 100000
namespace Go.Av
/-! GoodSpans: the program's and the reference's answer alike. -/
theorem idx_set_eq {α : Type} {l : List α} {i : Nat} {v : α} (h : i < l.length) : idx (l.set i v) (i : Int) = some v := by
  unfold idx; rw [if_pos (by omega), Int.toNat_natCast, List.getElem?_set_self h]
theorem idx_set_ne {α : Type} {l : List α} {i : Nat} {j : Int} {v : α} (h : (i : Int) ≠ j) : idx (l.set i v) j = idx l j := by
  unfold idx; split
  · rw [List.getElem?_set_ne (by omega)]
  · rfl
theorem idx_some {α : Type} {l : List α} {j : Int} (h0 : 0 ≤ j) (h : j < l.length) : ∃ x, idx l j = some x := by
  unfold idx; rw [if_pos h0]; exact ⟨_, List.getElem?_eq_getElem (by omega)⟩
def upOf (l : List GSpan) (k : Int) : Int := match idx l k with | some x => x.Up | none => -1
def chain (l : List GSpan) : Nat → Int → List Int
  | 0, _ => []
  | f + 1, k => if 0 ≤ k then k :: chain l f (upOf l k) else []
theorem chain_neg {l : List GSpan} {f : Nat} {k : Int} (h : k < 0) : chain l f k = [] := by
  cases f <;> simp [chain]; omega
/-- Spans up to a place lead to the ones ahead of them. -/
def Desc (l : List GSpan) (i : Nat) : Prop := ∀ j : Nat, j < i → ∃ x, idx l (j : Int) = some x ∧ -1 ≤ x.Up ∧ x.Up < j
theorem Desc.up {l : List GSpan} {i : Nat} (h : Desc l i) {k : Int} (h0 : 0 ≤ k) (hk : k < i) : ∃ x, idx l k = some x ∧ upOf l k = x.Up ∧ -1 ≤ x.Up ∧ x.Up < k := by
  obtain ⟨x, h1, h2, h3⟩ := h k.toNat (by omega)
  rw [Int.toNat_of_nonneg h0] at h1 h3
  exact ⟨x, h1, by simp [upOf, h1], h2, h3⟩
theorem chain_fuel {l : List GSpan} {i : Nat} (h : Desc l i) : ∀ (f g : Nat) (k : Int), k < i → k < f → k < g → chain l f k = chain l g k
  | 0, 0, k, _, _, _ => rfl
  | 0, g + 1, k, _, h1, _ => by simp only [chain]; rw [if_neg (by omega)]
  | f + 1, 0, k, _, _, h2 => by simp only [chain]; rw [if_neg (by omega)]
  | f + 1, g + 1, k, hk, h1, h2 => by
    simp only [chain]
    split
    · rename_i h0
      obtain ⟨x, _, e, _, e3⟩ := h.up h0 hk
      rw [e, chain_fuel h f g x.Up (by omega) (by omega) (by omega)]
    · rfl
theorem chain_len {l : List GSpan} : ∀ (f : Nat) (k : Int), (chain l f k).length ≤ f
  | 0, k => by simp [chain]
  | f + 1, k => by simp only [chain]; split <;> simp [chain_len f]
theorem chain_le {l : List GSpan} {i : Nat} (h : Desc l i) : ∀ (f : Nat) (k : Int), k < i → ∀ y ∈ chain l f k, y ≤ k
  | 0, k, _, y, hy => by simp [chain] at hy
  | f + 1, k, hk, y, hy => by
    simp only [chain] at hy
    split at hy
    · rename_i h0
      obtain ⟨x, _, e, _, e3⟩ := h.up h0 hk
      rcases List.mem_cons.1 hy with rfl | hy
      · omega
      · rw [e] at hy
        have := chain_le h f x.Up (by omega) y hy
        omega
    · simp at hy
theorem above_l0 {l : List GSpan} {i : Nat} (h : Desc l i) (hi : i ≤ 1048576) : ∀ (n : Nat) (k : Int) (out : List Int), k < i → -1 ≤ k → k + 1 < n → out.length + k ≤ 1048577 → ∃ k', p_impl_above_l0 l n k out = some (k', out ++ chain l n k)
  | 0, k, out, _, _, hn, _ => by omega
  | n + 1, k, out, hk, h1, hn, ho => by
    simp only [p_impl_above_l0, chain]
    by_cases h0 : k ≥ 0
    · obtain ⟨x, e1, e2, e3, e4⟩ := h.up h0 hk
      rw [if_pos h0, if_pos (by omega), e1, Option.bind_some, if_pos (by omega), e2]
      obtain ⟨k', hk'⟩ := above_l0 h hi n x.Up (out ++ [k]) (by omega) e3 (by omega) (by simp; omega)
      exact ⟨k', by rw [hk']; simp⟩
    · rw [if_neg h0, if_neg (by omega)]
      exact ⟨k, by simp⟩
theorem above_eq {l : List GSpan} {i : Nat} (h : Desc l i) (hi : i ≤ 1048576) {N : Nat} {k : Int} (hk : k < i) (h1 : -1 ≤ k) (hN : k + 1 < N) : p_impl_above N l k = some (chain l N k) := by
  obtain ⟨k', e⟩ := above_l0 h hi N k [] hk h1 hN (by simp; omega)
  simp [p_impl_above, e]
theorem index_l0 (v : Int) : ∀ (l : List Int) (i : Nat), (v ∈ l ∧ ∃ j : Nat, p_slices_Index_int_int_l0 v l i = some (.ret (j : Int))) ∨ (¬ v ∈ l ∧ p_slices_Index_int_int_l0 v l i = some (.out ()))
  | [], i => .inr ⟨by simp, rfl⟩
  | x :: r, i => by
    simp only [p_slices_Index_int_int_l0]
    by_cases e : v = x
    · exact .inl ⟨by simp [e], i, by rw [if_pos e]⟩
    · rw [if_neg e]
      rcases index_l0 v r (i + 1) with ⟨h1, h2⟩ | ⟨h1, h2⟩
      · exact .inl ⟨by simp [h1], h2⟩
      · exact .inr ⟨by simp [e, h1], h2⟩
theorem contains_eq (l : List Int) (v : Int) : p_slices_Contains_int_int l v = some (decide (v ∈ l)) := by
  unfold p_slices_Contains_int_int p_slices_Index_int_int
  rcases index_l0 v l 0 with ⟨h1, j, h2⟩ | ⟨h1, h2⟩
  · rw [h2]; simp [h1]
  · rw [h2]; simp [h1]
theorem goodl1 (x : GSpan) : ∀ (m : List GSpan) (i : Nat), ((∀ y ∈ m, y.Up = x.Up → y.To ≤ x.From) ∧ p_impl_GoodSpans_l1 x m i = some (.out ())) ∨ (¬ (∀ y ∈ m, y.Up = x.Up → y.To ≤ x.From) ∧ p_impl_GoodSpans_l1 x m i = some (.ret false))
  | [], i => .inl ⟨by simp, rfl⟩
  | y :: r, i => by
    simp only [p_impl_GoodSpans_l1]
    by_cases e : y.Up = x.Up
    · rw [if_pos e]
      by_cases e2 : x.From < y.To
      · rw [if_pos e2]
        exact .inr ⟨fun h => by have := h y (by simp) e; omega, rfl⟩
      · rw [if_neg e2]
        rcases goodl1 x r (i + 1) with ⟨h1, h2⟩ | ⟨h1, h2⟩
        · exact .inl ⟨fun z hz hu => by rcases List.mem_cons.1 hz with rfl | hz; omega; exact h1 z hz hu, h2⟩
        · exact .inr ⟨fun h => h1 (fun z hz => h z (by simp [hz])), h2⟩
    · rw [if_neg e]
      rcases goodl1 x r (i + 1) with ⟨h1, h2⟩ | ⟨h1, h2⟩
      · exact .inl ⟨fun z hz hu => by rcases List.mem_cons.1 hz with rfl | hz; exact absurd hu e; exact h1 z hz hu, h2⟩
      · exact .inr ⟨fun h => h1 (fun z hz => h z (by simp [hz])), h2⟩
/-- A span that stands at a place is good. -/
structure OkS (l : List GSpan) (i : Nat) (x : GSpan) : Prop where
  nm : goodName x.Name = true
  fr : 0 ≤ x.From ∧ x.From ≤ x.To ∧ x.To ≤ 100000
  up : -1 ≤ x.Up ∧ x.Up < i
  pa : ∀ y, 0 ≤ x.Up → idx l x.Up = some y → y.From ≤ x.From ∧ x.To ≤ y.To
  sib : ∀ y ∈ l.take i, y.Up = x.Up → y.To ≤ x.From
  ch : 0 ≤ x.Up → x.Up ∈ chain l i ((i : Int) - 1)
  dp : (chain l (i + 1) i).length ≤ 12
theorem rng_eq {n lo hi : Int} : rng n lo hi = true ↔ lo ≤ n ∧ n ≤ hi := by simp [rng]
theorem slc_take {α : Type} {l : List α} {i : Nat} (h : i ≤ l.length) : slc l 0 (i : Int) = some (l.take i) := by
  unfold slc; rw [if_pos (by omega)]; simp
open Classical in
theorem impl_step {l : List GSpan} {i : Nat} {x : GSpan} {N : Nat} (hd : Desc l i) (hl : l.length ≤ 1048576) (hi : idx l (i : Int) = some x) (hN : l.length + 2 ≤ N) (hn : x.Name.size ≤ 9223372036854775807) (rec_ : Nat → Option (LR Bool Unit)) (r : List GSpan)
    (hrec : ∀ j, p_impl_GoodSpans_l0 N l r j = rec_ j) :
    p_impl_GoodSpans_l0 N l (x :: r) i = if OkS l i x then rec_ (i + 1) else some (.ret false) := by
  have hil : i < l.length := by have := idx_hi hi; omega
  have e0 : p_impl_GoodSpans_l0 N l r = rec_ := funext hrec
  have w : IntKind.i64.wrap ((i : Int) - 1) = (i : Int) - 1 := wI _ (by omega) (by omega)
  simp only [p_impl_GoodSpans_l0, e0, w]
  rw [if_pos hn]
  have jt : p_impl_GoodSpans_j0 N l x i rec_ true = some (.ret false) := by simp [p_impl_GoodSpans_j0]
  by_cases c1 : goodName x.Name = true
  case neg => rw [if_neg c1, jt, if_neg (fun h => c1 h.nm)]
  by_cases c2 : rng x.From 0 100000 = true
  case neg => rw [if_pos c1, if_neg c2, jt, if_neg (fun h => c2 (rng_eq.2 (by have := h.fr; omega)))]
  by_cases c3 : rng x.To 0 100000 = true
  case neg => rw [if_pos c1, if_pos c2, if_neg c3, jt, if_neg (fun h => c3 (rng_eq.2 (by have := h.fr; omega)))]
  by_cases c4 : x.From > x.To
  case pos => rw [if_pos c1, if_pos c2, if_pos c3, if_pos c4, jt, if_neg (fun h => by have := h.fr; omega)]
  rw [if_pos c1, if_pos c2, if_pos c3, if_neg c4]
  by_cases c5 : rng x.Up (-1) ((i : Int) - 1) = true
  case neg => rw [show (!rng x.Up (-1) ((i : Int) - 1)) = true by simpa using c5, jt, if_neg (fun h => c5 (rng_eq.2 (by have := h.up; omega)))]
  rw [c5]
  rw [rng_eq] at c2 c3 c5
  have hd' : Desc l (i + 1) := fun j hj => by
    by_cases e : j < i
    · exact hd j e
    · have : j = i := by omega
      subst this; exact ⟨x, hi, by omega, by omega⟩
  have jt1 : p_impl_GoodSpans_j1 N l x i rec_ true = some (.ret false) := by simp [p_impl_GoodSpans_j1]
  have hpa : ∀ y, idx l x.Up = some y → ¬ (y.From ≤ x.From ∧ x.To ≤ y.To) → ¬ OkS l i x := fun y hy hn h => hn (h.pa y (idx_lo hy) hy)
  have main : (∀ y, 0 ≤ x.Up → idx l x.Up = some y → y.From ≤ x.From ∧ x.To ≤ y.To) → p_impl_GoodSpans_j1 N l x i rec_ false = if OkS l i x then rec_ (i + 1) else some (.ret false) := fun hpar => by
    unfold p_impl_GoodSpans_j1
    rw [if_neg (by simp), slc_take (by omega), Option.bind_some]
    rcases goodl1 x (l.take i) 0 with ⟨h1, h2⟩ | ⟨h1, h2⟩
    case inr =>
      rw [h2, if_neg (c := OkS l i x) (fun h => h1 h.sib)]; rfl
    rw [h2]
    simp only [Option.bind_some, w]
    rw [above_eq hd' (by omega) (k := (i : Int) - 1) (by omega) (by omega) (by omega), above_eq hd' (by omega) (k := (i : Int)) (by omega) (by omega) (by omega), chain_fuel hd' N (i + 1) i (by omega) (by omega) (by omega)]
    have hc : chain l N ((i : Int) - 1) = chain l i ((i : Int) - 1) := chain_fuel hd' _ _ _ (by omega) (by omega) (by omega)
    rw [hc]
    simp only [Option.bind_some, contains_eq]
    have fin : (0 ≤ x.Up → x.Up ∈ chain l i ((i : Int) - 1)) → (if ((chain l (i + 1) i).length : Int) > 12 then some (LR.ret false) else rec_ (i + 1)) = if OkS l i x then rec_ (i + 1) else some (.ret false) := fun hch => by
      by_cases c6 : ((chain l (i + 1) i).length : Int) > 12
      · rw [if_pos c6, if_neg (fun h => by have := h.dp; omega)]
      · rw [if_neg c6, if_pos ⟨c1, ⟨by omega, by omega, by omega⟩, ⟨by omega, by omega⟩, hpar, h1, hch, by omega⟩]
    by_cases c7 : (i : Int) > 0
    · rw [if_pos c7]
      by_cases c8 : x.Up ≥ 0
      · rw [if_pos c8]
        by_cases c9 : x.Up ∈ chain l i ((i : Int) - 1)
        · rw [if_pos (by simpa using c9)]; exact fin (fun _ => c9)
        · rw [if_neg (by simpa using c9), if_neg (fun h => c9 (h.ch c8))]
      · rw [if_neg c8]; exact fin (fun h => absurd h c8)
    · rw [if_neg c7]; exact fin (fun h => by omega)
  unfold p_impl_GoodSpans_j0
  rw [if_neg (by simp)]
  by_cases c6 : x.Up ≥ 0
  · rw [if_pos c6]
    obtain ⟨y, hy⟩ := idx_some (l := l) c6 (by omega)
    rw [hy, Option.bind_some]
    by_cases c7 : x.From < y.From
    · rw [if_pos c7, jt1, if_neg (hpa y hy (by omega))]
    · rw [if_neg c7]
      by_cases c8 : x.To > y.To
      · rw [decide_eq_true c8, jt1, if_neg (hpa y hy (by omega))]
      · rw [decide_eq_false c8]
        exact main (fun z _ hz => by rw [hy] at hz; cases hz; omega)
  · rw [if_neg c6]
    exact main (fun z h _ => absurd h c6)
/-- All spans from a place on are good. -/
def AllS (l : List GSpan) (i : Nat) : Prop := ∀ j : Nat, i ≤ j → ∀ x, idx l (j : Int) = some x → OkS l j x
theorem AllS.cons {l : List GSpan} {i : Nat} {x : GSpan} (hi : idx l (i : Int) = some x) : AllS l i ↔ OkS l i x ∧ AllS l (i + 1) := by
  constructor
  · exact fun h => ⟨h i (Nat.le_refl _) x hi, fun j hj => h j (by omega)⟩
  · rintro ⟨h1, h2⟩ j hj y hy
    by_cases e : j = i
    · subst e; rw [hi] at hy; cases hy; exact h1
    · exact h2 j (by omega) y hy
theorem Desc.succ {l : List GSpan} {i : Nat} {x : GSpan} (hd : Desc l i) (hi : idx l (i : Int) = some x) (h : OkS l i x) : Desc l (i + 1) := fun j hj => by
  by_cases e : j < i
  · exact hd j e
  · have : j = i := by omega
    subst this; exact ⟨x, hi, h.up.1, h.up.2⟩
theorem drop_idx {α : Type} {l r : List α} {i : Nat} {x : α} (h : l.drop i = x :: r) : idx l (i : Int) = some x ∧ l.drop (i + 1) = r ∧ i < l.length := by
  obtain ⟨h1, h2, h3⟩ := drop_cons h
  exact ⟨by unfold idx; rw [if_pos (by omega), Int.toNat_natCast, h2], h3, h1⟩
open Classical in
theorem impl_l0 {l : List GSpan} {N : Nat} (hl : l.length ≤ 1048576) (hN : l.length + 2 ≤ N) (hn : ∀ x ∈ l, x.Name.size ≤ 9223372036854775807) : ∀ (r : List GSpan) (i : Nat), l.drop i = r → Desc l i → p_impl_GoodSpans_l0 N l r i = if AllS l i then some (.out ()) else some (.ret false)
  | [], i, h, _ => by
    rw [if_pos (show AllS l i from fun j hj x hx => by have := idx_hi hx; have := drop_nil h; omega)]; rfl
  | x :: r, i, h, hd => by
    obtain ⟨h1, h2, h3⟩ := drop_idx h
    have hx : x ∈ l := List.mem_of_getElem? (idx_get h1)
    rw [impl_step hd hl h1 hN (hn x hx) (fun j => p_impl_GoodSpans_l0 N l r j) r (fun _ => rfl)]
    by_cases c : OkS l i x
    · rw [if_pos c, impl_l0 hl hN hn r (i + 1) h2 (hd.succ h1 c)]
      have := AllS.cons h1
      by_cases c2 : AllS l (i + 1)
      · rw [if_pos c2, if_pos (this.2 ⟨c, c2⟩)]
      · rw [if_neg c2, if_neg (fun h => c2 (this.1 h).2)]
    · rw [if_neg c, if_neg (fun h => c ((AllS.cons h1).1 h).1)]
noncomputable def goodSpans (l : List GSpan) : Bool := @decide (AllS l 0 ∧ l.length ≤ 200) (Classical.propDecidable _)
theorem goodSpans_iff {l : List GSpan} : goodSpans l = true ↔ AllS l 0 ∧ l.length ≤ 200 := by unfold goodSpans; exact @decide_eq_true_iff _ (Classical.propDecidable _)
theorem implGood_eq {l : List GSpan} {N : Nat} (hl : l.length ≤ 1048576) (hN : l.length + 2 ≤ N) (hn : ∀ x ∈ l, x.Name.size ≤ 9223372036854775807) : p_impl_GoodSpans N l = some (goodSpans l) := by
  unfold p_impl_GoodSpans
  rw [impl_l0 hl hN hn l 0 rfl (fun j hj => by omega)]
  by_cases c : AllS l 0
  · rw [if_pos c]
    show some (decide ((l.length : Int) ≤ 200)) = _
    congr 1; rw [Bool.eq_iff_iff, goodSpans_iff, decide_eq_true_iff]
    exact ⟨fun h => ⟨c, by omega⟩, fun h => by omega⟩
  · rw [if_neg c]
    show some false = _
    congr 1; rw [Bool.eq_iff_iff, goodSpans_iff]
    exact ⟨fun h => (by cases h), fun h => absurd h.1 c⟩
/-! The reference's way. -/
theorem spec_l1 {l : List GSpan} {i : Nat} {x : GSpan} (hd : Desc l i) (hx : -1 ≤ x.Up) : ∀ (n : Nat) (k : Int), k < i → -1 ≤ k → k + 1 < n → ∃ k', p_spec_GoodSpans_l1 l x n k = some k' ∧ (x.Up ≤ k → (k' = x.Up ↔ (0 ≤ x.Up → x.Up ∈ chain l n k))) ∧ (k < x.Up → k' = k)
  | 0, k, _, _, hn => by omega
  | n + 1, k, hk, h1, hn => by
    simp only [p_spec_GoodSpans_l1, chain]
    by_cases c1 : k > x.Up
    · rw [if_pos c1]
      by_cases c2 : k ≥ 0
      · rw [if_pos c2, if_pos (by omega)]
        obtain ⟨y, e1, e2, e3, e4⟩ := hd.up c2 hk
        rw [e1, Option.bind_some, e2]
        obtain ⟨k', f1, f2, f3⟩ := spec_l1 hd hx n y.Up (by omega) e3 (by omega)
        refine ⟨k', f1, fun _ => ?_, fun h => by omega⟩
        by_cases c3 : x.Up ≤ y.Up
        · rw [f2 c3]
          constructor
          · exact fun h h0 => by simp [h h0]
          · intro h h0
            rcases List.mem_cons.1 (h h0) with e | e
            · omega
            · exact e
        · rw [f3 (by omega)]
          constructor
          · intro h; omega
          · intro h
            by_cases h0 : 0 ≤ x.Up
            · rcases List.mem_cons.1 (h h0) with e | e
              · omega
              · have := chain_le hd n y.Up (by omega) _ e; omega
            · omega
      · rw [if_neg c2]
        exact ⟨k, rfl, fun _ => by constructor <;> intro h <;> omega, fun _ => rfl⟩
    · rw [if_neg c1]
      refine ⟨k, rfl, fun h => ?_, fun _ => rfl⟩
      constructor
      · intro e h0; rw [if_pos (by omega)]; simp [e]
      · intro _; omega
structure InvS (l : List GSpan) (i : Nat) (en dp : List Int) : Prop where
  el : en.length = l.length + 1
  dl : dp.length = l.length
  e : ∀ u : Nat, u < i → ∃ e y, idx l (u : Int) = some y ∧ idx en (u : Int) = some e ∧ ∀ f, e ≤ f ↔ (y.From ≤ f ∧ ∀ z ∈ l.take i, z.Up = u → z.To ≤ f)
  n : ∃ e, idx en (l.length : Int) = some e ∧ ∀ f, 0 ≤ f → (e ≤ f ↔ ∀ z ∈ l.take i, z.Up = -1 → z.To ≤ f)
  d : ∀ u : Nat, u < i → ∃ d : Int, idx dp (u : Int) = some d ∧ d + 1 = (chain l (u + 1) u).length ∧ d ≤ 11
  z : ∀ u : Nat, i ≤ u → u < l.length → idx dp (u : Int) = some 0
theorem take_succ_idx {α : Type} {l : List α} {i : Nat} {x : α} (h : idx l (i : Int) = some x) : l.take (i + 1) = l.take i ++ [x] := by
  have h1 := idx_get h
  rw [Int.toNat_natCast] at h1
  obtain ⟨hi, e⟩ := List.getElem?_eq_some_iff.1 h1
  rw [List.take_succ_eq_append_getElem hi, e]
theorem chain_app {l : List GSpan} {i : Nat} {x : GSpan} (hd : Desc l (i + 1)) (hi : idx l (i : Int) = some x) : chain l (i + 1) i = (i : Int) :: chain l i x.Up := by
  have hu : upOf l (i : Int) = x.Up := by simp [upOf, hi]
  simp only [chain]; rw [if_pos (by omega), hu]
open Classical in
theorem spec_step {l : List GSpan} {i : Nat} {x : GSpan} {N : Nat} {en dp : List Int} (hd : Desc l i) (hl : l.length ≤ 1048576) (hi : idx l (i : Int) = some x) (hN : l.length + 2 ≤ N) (hn : x.Name.size ≤ 9223372036854775807) (hv : InvS l i en dp)
    (rec_ : Nat → List Int → List Int → Option (LR Bool (List Int × List Int))) (r : List GSpan) (hrec : ∀ j a b, p_spec_GoodSpans_l0 N l r j a b = rec_ j a b) :
    (OkS l i x ∧ ∃ en' dp', InvS l (i + 1) en' dp' ∧ p_spec_GoodSpans_l0 N l (x :: r) i en dp = rec_ (i + 1) en' dp') ∨ (¬ OkS l i x ∧ p_spec_GoodSpans_l0 N l (x :: r) i en dp = some (.ret false)) := by
  have hil : i < l.length := by have := idx_hi hi; omega
  have e0 : p_spec_GoodSpans_l0 N l r = rec_ := funext fun j => funext fun a => funext fun b => hrec j a b
  have w : IntKind.i64.wrap ((i : Int) - 1) = (i : Int) - 1 := wI _ (by omega) (by omega)
  simp only [p_spec_GoodSpans_l0, e0, w]
  rw [if_pos hn]
  have jt : p_spec_GoodSpans_j0 N l en dp x i rec_ true = some (.ret false) := by simp [p_spec_GoodSpans_j0]
  by_cases c1 : goodName x.Name = true
  case neg => rw [if_neg c1, jt]; exact .inr ⟨fun h => c1 h.nm, rfl⟩
  by_cases c2 : rng x.From 0 100000 = true
  case neg => rw [if_pos c1, if_neg c2, jt]; exact .inr ⟨fun h => c2 (rng_eq.2 (by have := h.fr; omega)), rfl⟩
  by_cases c3 : rng x.To x.From 100000 = true
  case neg => rw [if_pos c1, if_pos c2, if_neg c3, jt]; exact .inr ⟨fun h => c3 (rng_eq.2 (by have := h.fr; omega)), rfl⟩
  rw [if_pos c1, if_pos c2, if_pos c3]
  by_cases c5 : rng x.Up (-1) ((i : Int) - 1) = true
  case neg => rw [show (!rng x.Up (-1) ((i : Int) - 1)) = true by simpa using c5, jt]; exact .inr ⟨fun h => c5 (rng_eq.2 (by have := h.up; omega)), rfl⟩
  rw [c5]
  rw [rng_eq] at c2 c3 c5
  have hd' : Desc l (i + 1) := fun j hj => by
    by_cases e : j < i
    · exact hd j e
    · have : j = i := by omega
      subst this; exact ⟨x, hi, by omega, by omega⟩
  unfold p_spec_GoodSpans_j0
  rw [if_neg (by simp)]
  obtain ⟨k', f1, f2, _⟩ := spec_l1 (x := x) hd' (by omega) N ((i : Int) - 1) (by omega) (by omega) (by omega)
  rw [w, f1, Option.bind_some]
  have hc : chain l N ((i : Int) - 1) = chain l i ((i : Int) - 1) := chain_fuel hd' _ _ _ (by omega) (by omega) (by omega)
  rw [hc] at f2
  by_cases c6 : k' = x.Up
  case neg =>
    simp only []
    rw [if_neg c6]
    exact .inr ⟨fun h => c6 ((f2 (by omega)).2 h.ch), rfl⟩
  have hch := (f2 (by omega)).1 c6
  simp only []
  rw [if_pos c6]
  obtain ⟨e9, he9⟩ := idx_some (l := en) (j := (i : Int)) (by omega) (by have := hv.el; omega)
  rw [he9, Option.bind_some]
  have hca := chain_app hd' hi
  have tk := take_succ_idx hi
  have hlen : (en.set i x.From).length = l.length + 1 := by rw [List.length_set, hv.el]
  -- what stands where, behind the two stores
  have newE : ∀ (en' : List Int), (∀ u : Nat, u < i → (u : Int) ≠ x.Up → idx en' (u : Int) = idx en (u : Int)) → idx en' (i : Int) = some x.From → (0 ≤ x.Up → idx en' x.Up = some x.To) → (∀ y, idx l x.Up = some y → y.From ≤ x.From) → (∀ z ∈ l.take i, z.Up = x.Up → z.To ≤ x.From) →
      ∀ u : Nat, u < i + 1 → ∃ e y, idx l (u : Int) = some y ∧ idx en' (u : Int) = some e ∧ ∀ f, e ≤ f ↔ (y.From ≤ f ∧ ∀ z ∈ l.take (i + 1), z.Up = u → z.To ≤ f) := fun en' h1 h2 h3 h4 h5 u hu => by
    by_cases eu : u = i
    · subst eu
      refine ⟨x.From, x, hi, h2, fun f => ⟨fun h => ⟨h, fun z hz hzu => ?_⟩, fun h => h.1⟩⟩
      rw [tk, List.mem_append, List.mem_singleton] at hz
      rcases hz with hz | rfl
      · obtain ⟨j, hj, rfl⟩ := List.getElem_of_mem hz
        simp only [List.length_take] at hj
        obtain ⟨y, q1, q2, q3⟩ := hd j (by omega)
        have : y = (l.take u)[j] := by
          have := idx_get q1; rw [Int.toNat_natCast] at this
          rw [List.getElem_take]; exact ((List.getElem?_eq_some_iff.1 this).2).symm
        subst this; omega
      · omega
    · obtain ⟨e, y, q1, q2, q3⟩ := hv.e u (by omega)
      by_cases ex : (u : Int) = x.Up
      · refine ⟨x.To, y, q1, by rw [ex]; exact h3 (by omega), fun f => ⟨fun h => ?_, fun h => h.2 x (by rw [tk]; simp) ex.symm⟩⟩
        have hy : y.From ≤ x.From := h4 y (by rw [← ex]; exact q1)
        refine ⟨by omega, fun z hz hzu => ?_⟩
        rw [tk, List.mem_append, List.mem_singleton] at hz
        rcases hz with hz | rfl
        · have := h5 z hz (by omega); omega
        · exact h
      · refine ⟨e, y, q1, by rw [h1 u (by omega) ex]; exact q2, fun f => ?_⟩
        rw [q3 f, tk]
        constructor
        · rintro ⟨g1, g2⟩
          refine ⟨g1, fun z hz hzu => ?_⟩
          rw [List.mem_append, List.mem_singleton] at hz
          rcases hz with hz | rfl
          · exact g2 z hz hzu
          · omega
        · rintro ⟨g1, g2⟩
          exact ⟨g1, fun z hz hzu => g2 z (by simp [hz]) hzu⟩
  obtain ⟨en0, hen1, hen2⟩ := hv.n
  by_cases c7 : x.Up < 0
  · rw [if_pos c7, idx_set_ne (by omega), hen1, Option.bind_some]
    have hno : ∀ y, 0 ≤ x.Up → idx l x.Up = some y → y.From ≤ x.From ∧ x.To ≤ y.To := fun y h => by omega
    have hdp : (chain l (i + 1) i).length ≤ 12 := by
      rw [hca, chain_neg c7]; simp
    by_cases c8 : x.From < en0
    · rw [if_pos c8]
      exact .inr ⟨fun h => by have := (hen2 x.From (by omega)).2 (fun z hz hu => h.sib z hz (by omega)); omega, rfl⟩
    · rw [if_neg c8]
      have hsib : ∀ z ∈ l.take i, z.Up = x.Up → z.To ≤ x.From := fun z hz hu => (hen2 x.From (by omega)).1 (by omega) z hz (by omega)
      refine .inl ⟨⟨c1, by omega, by omega, hno, hsib, fun h => by omega, hdp⟩, _, _, ?_, rfl⟩
      refine ⟨by rw [List.length_set, hlen], hv.dl, newE _ (fun u hu _ => by rw [idx_set_ne (by omega), idx_set_ne (by omega)]) (by rw [idx_set_ne (by omega), idx_set_eq (by have := hv.el; omega)]) (fun h => by omega) (fun y hy => by have := idx_lo hy; omega) hsib, ⟨x.To, idx_set_eq (by rw [hlen]; omega), fun f hf => ?_⟩, fun u hu => ?_, fun u h1 h2 => hv.z u (by omega) h2⟩
      · rw [tk]
        constructor
        · intro h z hz hu
          rw [List.mem_append, List.mem_singleton] at hz
          rcases hz with hz | rfl
          · have := hsib z hz (by omega); omega
          · exact h
        · intro h; exact h x (by simp) (by omega)
      · by_cases eu : u = i
        · subst eu
          refine ⟨0, hv.z u (by omega) hil, ?_, by omega⟩
          rw [hca, chain_neg c7]; simp
        · exact hv.d u (by omega)
  · rw [if_neg c7]
    obtain ⟨u, hu⟩ : ∃ u : Nat, x.Up = u := ⟨x.Up.toNat, by omega⟩
    obtain ⟨d, d1, d2, d3⟩ := hv.d u (by omega)
    obtain ⟨e, y, q1, q2, q3⟩ := hv.e u (by omega)
    rw [← hu] at d1 q1 q2
    rw [d1, Option.bind_some, hv.z i (by omega) hil, Option.bind_some, idx_set_ne (by omega), q2, Option.bind_some]
    have wd : IntKind.i64.wrap (d + 1) = d + 1 := wI _ (by omega) (by omega)
    have jt1 : p_spec_GoodSpans_j1 en dp x i d rec_ true = some (.ret false) := by simp [p_spec_GoodSpans_j1]
    have hlc : ((chain l (i + 1) i).length : Int) = d + 2 := by
      rw [hca, List.length_cons, chain_fuel hd' i (u + 1) x.Up (by omega) (by omega) (by omega), hu]; omega
    by_cases c8 : x.From < e
    · rw [if_pos c8, jt1]
      refine .inr ⟨fun h => ?_, rfl⟩
      have := (q3 x.From).2 ⟨(h.pa y (by omega) q1).1, fun z hz hzu => h.sib z hz (by omega)⟩
      omega
    · rw [if_neg c8, q1, Option.bind_some]
      obtain ⟨g1, g2⟩ := (q3 x.From).1 (by omega)
      by_cases c9 : x.To > y.To
      · rw [if_pos c9, jt1]
        exact .inr ⟨fun h => by have := (h.pa y (by omega) q1).2; omega, rfl⟩
      · rw [if_neg c9, wd]
        by_cases c10 : d + 1 ≥ 12
        · rw [decide_eq_true c10, jt1]
          exact .inr ⟨fun h => by have := h.dp; omega, rfl⟩
        · rw [decide_eq_false c10]
          unfold p_spec_GoodSpans_j1
          rw [if_neg (by simp), wd]
          have hsib : ∀ z ∈ l.take i, z.Up = x.Up → z.To ≤ x.From := fun z hz hzu => g2 z hz (by omega)
          refine .inl ⟨⟨c1, by omega, by omega, fun y' _ hy' => by rw [q1] at hy'; cases hy'; omega, hsib, hch, by omega⟩, _, _, ?_, rfl⟩
          have hun : x.Up.toNat = u := by omega
          rw [hun]
          refine ⟨by rw [List.length_set, hlen], by rw [List.length_set, hv.dl], newE _ (fun v hv' hne => by rw [idx_set_ne (by omega), idx_set_ne (by omega)]) (by rw [idx_set_ne (by omega), idx_set_eq (by have := hv.el; omega)]) (fun _ => by rw [hu]; exact idx_set_eq (by rw [hlen]; omega)) (fun y' hy' => by rw [q1] at hy'; cases hy'; exact g1) hsib, ⟨en0, by rw [idx_set_ne (by omega), idx_set_ne (by omega)]; exact hen1, fun f hf => ?_⟩, fun v hv' => ?_, fun v h1 h2 => by rw [idx_set_ne (by omega)]; exact hv.z v (by omega) h2⟩
          · rw [hen2 f hf, tk]
            constructor
            · intro h z hz hzu
              rw [List.mem_append, List.mem_singleton] at hz
              rcases hz with hz | rfl
              · exact h z hz hzu
              · omega
            · intro h z hz hzu; exact h z (by simp [hz]) hzu
          · by_cases ev : v = i
            · subst ev
              exact ⟨d + 1, idx_set_eq (by rw [hv.dl]; exact hil), by omega, by omega⟩
            · rw [idx_set_ne (by omega)]; exact hv.d v (by omega)
open Classical in
theorem spec_l0 {l : List GSpan} {N : Nat} (hl : l.length ≤ 1048576) (hN : l.length + 2 ≤ N) (hn : ∀ x ∈ l, x.Name.size ≤ 9223372036854775807) : ∀ (r : List GSpan) (i : Nat) (en dp : List Int), l.drop i = r → Desc l i → InvS l i en dp →
    (AllS l i ∧ ∃ q, p_spec_GoodSpans_l0 N l r i en dp = some (.out q)) ∨ (¬ AllS l i ∧ p_spec_GoodSpans_l0 N l r i en dp = some (.ret false))
  | [], i, en, dp, h, _, _ => .inl ⟨fun j hj x hx => by have := idx_hi hx; have := drop_nil h; omega, _, rfl⟩
  | x :: r, i, en, dp, h, hd, hv => by
    obtain ⟨h1, h2, h3⟩ := drop_idx h
    have hx : x ∈ l := List.mem_of_getElem? (idx_get h1)
    rcases spec_step hd hl h1 hN (hn x hx) hv (fun j a b => p_spec_GoodSpans_l0 N l r j a b) r (fun _ _ _ => rfl) with ⟨c, en', dp', hv', e⟩ | ⟨c, e⟩
    · rw [e]
      rcases spec_l0 hl hN hn r (i + 1) en' dp' h2 (hd.succ h1 c) hv' with ⟨c2, q, e2⟩ | ⟨c2, e2⟩
      · exact .inl ⟨(AllS.cons h1).2 ⟨c, c2⟩, q, e2⟩
      · exact .inr ⟨fun h => c2 ((AllS.cons h1).1 h).2, e2⟩
    · exact .inr ⟨fun h => c ((AllS.cons h1).1 h).1, e⟩
theorem specGood_eq {l : List GSpan} {N : Nat} (hl : l.length ≤ 1048576) (hN : l.length + 2 ≤ N) (hn : ∀ x ∈ l, x.Name.size ≤ 9223372036854775807) : p_spec_GoodSpans N l = some (goodSpans l) := by
  unfold p_spec_GoodSpans
  by_cases c : (l.length : Int) > 200
  · rw [if_pos c]
    congr 1; rw [Bool.eq_iff_iff, goodSpans_iff]
    exact ⟨fun h => (by cases h), fun h => by omega⟩
  · rw [if_neg c, wI _ (by omega) (by omega)]
    have m1 : mkl ((l.length : Int) + 1) (0 : Int) = some (List.replicate (l.length + 1) 0) := by
      unfold mkl; rw [if_pos (by omega)]; congr 2
    have m2 : mkl (l.length : Int) (0 : Int) = some (List.replicate l.length 0) := by
      unfold mkl; rw [if_pos (by omega), Int.toNat_natCast]
    rw [m1, Option.bind_some, m2, Option.bind_some]
    have hr : ∀ n m : Nat, m < n → idx (List.replicate n (0 : Int)) (m : Int) = some 0 := fun n m h => by
      unfold idx; rw [if_pos (by omega), Int.toNat_natCast, List.getElem?_replicate, if_pos h]
    rcases spec_l0 hl hN hn l 0 (List.replicate (l.length + 1) 0) (List.replicate l.length 0) rfl (fun j hj => by omega) ⟨by simp, by simp, fun u hu => by omega, ⟨0, hr _ _ (by omega), fun f hf => by simp [hf]⟩, fun u hu => by omega, fun u _ hu => hr _ _ hu⟩ with ⟨c2, ⟨qa, qb⟩, e⟩ | ⟨c2, e⟩
    · rw [e]
      exact congrArg some (goodSpans_iff.2 ⟨c2, by omega⟩).symm
    · rw [e]
      refine congrArg some ?_
      rw [Bool.eq_iff_iff, goodSpans_iff]
      exact ⟨fun h => (by cases h), fun h => absurd h.1 c2⟩
end Go.Av
