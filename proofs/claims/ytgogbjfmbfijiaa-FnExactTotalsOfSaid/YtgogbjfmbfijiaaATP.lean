/- TotalsOf: the program's and the reference's answers alike. -/
import Derived.Test.YtgogbjfmbfijiaaAQB
import Derived.Test.YtgogbjfmbfijiaaAPL
set_option linter.unusedSimpArgs false
set_option linter.unusedVariables false
set_option maxRecDepth 100000
namespace Go.Av
/-! TotalsOf: the program's and the reference's answers alike. -/
/-! ### names in order -/
def idB (x : ByteArray) : ByteArray := x
def putN (a : List ByteArray) (s : ByteArray) : List ByteArray := if a[spot idB a s]? = some s then a else a.take (spot idB a s) ++ (s :: a.drop (spot idB a s))
theorem spot_map {α : Type} {key : α → ByteArray} {f : ByteArray → α} (hf : ∀ n, key (f n) = n) : ∀ (l : List ByteArray) (t : ByteArray), spot key (l.map f) t = spot idB l t
  | [], t => rfl
  | x :: l, t => by rw [List.map_cons, spot_cons, spot_cons, hf, spot_map hf l t]; rfl
theorem rise_map {α : Type} {key : α → ByteArray} {f : ByteArray → α} (hf : ∀ n, key (f n) = n) : ∀ {l : List ByteArray}, Rise idB l → Rise key (l.map f)
  | [], _ => trivial
  | x :: l, h => by
    refine ⟨fun y hy => ?_, rise_map hf h.2⟩
    obtain ⟨z, hz, rfl⟩ := List.mem_map.1 hy
    rw [hf, hf]; exact h.1 z hz
theorem rise_put : ∀ {a : List ByteArray} {s : ByteArray}, Rise idB a → Rise idB (putN a s) ∧ (putN a s)[spot idB a s]? = some s ∧ (∀ y, y ∈ putN a s ↔ y = s ∨ y ∈ a)
  | [], s, _ => by simp [putN, spot_nil, Rise]
  | x :: a, s, h => by
    have ih := rise_put (s := s) h.2
    rw [spot_cons]
    show Rise idB (putN (x :: a) s) ∧ (putN (x :: a) s)[if blt (idB x) s = true then spot idB a s + 1 else 0]? = some s ∧ _
    unfold putN
    rw [spot_cons]
    by_cases c : blt (idB x) s = true
    · simp only [if_pos c, List.getElem?_cons_succ, List.take_succ_cons, List.drop_succ_cons, List.cons_append]
      have e : (if a[spot idB a s]? = some s then x :: a else x :: (a.take (spot idB a s) ++ s :: a.drop (spot idB a s))) = x :: putN a s := by
        unfold putN; split <;> rfl
      rw [e]
      refine ⟨⟨fun y hy => ?_, ih.1⟩, by simpa using ih.2.1, fun y => ?_⟩
      · rcases (ih.2.2 y).1 hy with rfl | hy
        · exact c
        · exact h.1 y hy
      · rw [List.mem_cons, List.mem_cons, ih.2.2]
        constructor
        · rintro (h | h | h)
          · exact .inr (.inl h)
          · exact .inl h
          · exact .inr (.inr h)
        · rintro (h | h | h)
          · exact .inr (.inl h)
          · exact .inl h
          · exact .inr (.inr h)
    · simp only [if_neg c, List.getElem?_cons_zero, List.take_zero, List.drop_zero, List.nil_append]
      by_cases e : x = s
      · rw [if_pos (by rw [e])]
        exact ⟨h, by rw [e]; rfl, fun y => by rw [← e]; simp⟩
      · rw [if_neg (by simpa using e)]
        have hlt : blt s x = true := by
          rcases blt_not (Bool.eq_false_iff.2 c) with h1 | h1
          · exact absurd h1 e
          · exact h1
        refine ⟨⟨fun y hy => ?_, h⟩, rfl, fun y => by simp⟩
        rcases List.mem_cons.1 hy with rfl | hy
        · exact hlt
        · exact blt_trans hlt (h.1 y hy)
theorem put_l0 {a : List ByteArray} {s : ByteArray} (hr : Rise idB a) (hl : a.length ≤ 4611686018427387903) : ∀ (n k : Nat), k ≤ spot idB a s → spot idB a s - k < n → p_spec_l1PutText_l0 a s n (k : Int) = some ((spot idB a s : Nat) : Int)
  | 0, k, _, h => by omega
  | n + 1, k, h1, h2 => by
    unfold p_spec_l1PutText_l0
    have hle := spot_le (key := idB) a s
    by_cases hk : k < a.length
    · rw [if_pos (by omega), idx_of hk, Option.bind_some]
      have hx : a[k]? = some a[k] := List.getElem?_eq_getElem hk
      by_cases c : Op.bytesLess a[k].toList s.toList = true
      · rw [if_pos c, wI _ (by omega) (by omega)]
        have : k < spot idB a s := by
          rcases Nat.lt_or_ge k (spot idB a s) with g | g
          · exact g
          · have := spot_ge hr g hx; exact absurd c (by rw [show Op.bytesLess a[k].toList s.toList = blt (idB a[k]) s from rfl, this]; decide)
        have := put_l0 (s := s) hr hl n (k + 1) (by omega) (by omega)
        rw [← this]; congr 1
      · rw [if_neg c]
        rcases Nat.lt_or_ge k (spot idB a s) with g | g
        · exact absurd (spot_lt g hx) c
        · congr 1; omega
    · rw [if_neg (by omega)]; congr 1; omega
theorem put_eq {a : List ByteArray} {s : ByteArray} {N : Nat} (hr : Rise idB a) (hl : a.length ≤ 1048576) (hN : a.length < N) : p_spec_l1PutText N a s = some (putN a s) := by
  unfold p_spec_l1PutText
  have hle := spot_le (key := idB) a s
  have := put_l0 (s := s) hr (by omega) N 0 (Nat.zero_le _) (by omega)
  rw [show ((0 : Nat) : Int) = 0 from rfl] at this
  rw [this, Option.bind_some]
  have s1 : slc a 0 ((spot idB a s : Nat) : Int) = some (a.take (spot idB a s)) := by unfold slc; rw [if_pos (by omega)]; simp
  have s2 : slc a ((spot idB a s : Nat) : Int) (a.length : Int) = some (a.drop (spot idB a s)) := by
    unfold slc; rw [if_pos (by omega)]
    simp only [Int.toNat_natCast]
    rw [List.take_of_length_le (by simp)]
  have j0 : p_spec_l1PutText_j0 a s ((spot idB a s : Nat) : Int) false = some (a.take (spot idB a s) ++ (s :: a.drop (spot idB a s))) := by
    unfold p_spec_l1PutText_j0
    rw [if_neg (by decide), s1, s2, Option.bind_some, Option.bind_some, if_pos (by simp; omega), if_pos (by simp; omega), if_pos (by simp; omega)]
    simp
  unfold putN
  show (if ((spot idB a s : Nat) : Int) < (a.length : Int) then _ else _) = _
  by_cases h : spot idB a s < a.length
  · rw [if_pos (by omega), idx_of h, Option.bind_some, List.getElem?_eq_getElem h]
    by_cases c : a[spot idB a s] = s
    · rw [if_pos (by rw [c]), decide_eq_true c]; unfold p_spec_l1PutText_j0; rw [if_pos rfl]
    · rw [if_neg (by simpa using c), decide_eq_false c, j0]
  · rw [if_neg (by omega), List.getElem?_eq_none (by omega), if_neg (by simp), j0]
theorem put_len (a : List ByteArray) (s : ByteArray) : (putN a s).length ≤ a.length + 1 := by
  unfold putN
  split
  · omega
  · have := spot_le (key := idB) a s
    simp; omega
/-! ### own times -/
theorem owns_eq {l : List GSpan} (ha : AllS l 0) (hl : l.length ≤ 200) : ∀ (r : List GSpan) (i : Nat) (o : List Int), l.drop i = r → o.length = i → i ≤ l.length →
    ∃ o', p_impl_owns_l0 r i o = some o' ∧ p_spec_l27Own_l0 r i (o ++ List.replicate (l.length - i) 0) = some o' ∧ o'.length = l.length
  | [], i, o, hd, ho, hi => by
    have := drop_nil hd
    refine ⟨o, rfl, ?_, ?_⟩
    · unfold p_spec_l27Own_l0; rw [show l.length - i = 0 by omega]; simp
    · omega
  | x :: r, i, o, hd, ho, hi => by
    obtain ⟨h1, h2, h3⟩ := drop_idx hd
    have hx := ha i (Nat.zero_le _) x h1
    have hfr := hx.fr
    have hup := hx.up
    have w1 : IntKind.i64.wrap (x.To - x.From) = x.To - x.From := wI _ (by omega) (by omega)
    unfold p_impl_owns_l0 p_spec_l27Own_l0 p_impl_Span_long
    simp only [Option.bind_some]
    rw [if_pos (by omega)]
    have hz : idx (o ++ List.replicate (l.length - i) 0) (i : Int) = some 0 := by
      unfold idx; rw [if_pos (by omega), Int.toNat_natCast, List.getElem?_append_right (by omega), List.getElem?_replicate, if_pos (by omega)]
    have hs : (o ++ List.replicate (l.length - i) 0).set i (IntKind.i64.wrap (0 + IntKind.i64.wrap (x.To - x.From))) = (o ++ [IntKind.i64.wrap (x.To - x.From)]) ++ List.replicate (l.length - (i + 1)) 0 := by
      rw [show (0 : Int) + IntKind.i64.wrap (x.To - x.From) = IntKind.i64.wrap (x.To - x.From) by omega, w1, w1, List.set_append_right _ _ (by omega), ho, Nat.sub_self, show l.length - i = (l.length - (i + 1)) + 1 by omega, List.replicate_succ, List.set_cons_zero, List.append_assoc]
      rfl
    rw [hz, Option.bind_some, hs]
    by_cases c : x.Up ≥ 0
    · rw [if_pos c, if_pos c]
      have hlt : x.Up.toNat < (o ++ [IntKind.i64.wrap (x.To - x.From)]).length := by simp; omega
      have e1 : ∃ v, idx (o ++ [IntKind.i64.wrap (x.To - x.From)]) x.Up = some v := idx_some c (by simp; omega)
      obtain ⟨v, e1⟩ := e1
      have e2 : idx (o ++ [IntKind.i64.wrap (x.To - x.From)] ++ List.replicate (l.length - (i + 1)) 0) x.Up = some v := by
        unfold idx at e1 ⊢
        rw [if_pos c] at e1 ⊢
        rw [List.getElem?_append_left hlt]; exact e1
      rw [e1, e2, Option.bind_some, Option.bind_some, List.set_append_left _ _ hlt]
      exact owns_eq ha hl r (i + 1) _ h2 (by rw [List.length_set]; simp; omega) (by omega)
    · rw [if_neg c, if_neg c]
      exact owns_eq ha hl r (i + 1) _ h2 (by simp; omega) (by omega)
theorem owns_eq2 {l : List GSpan} (ha : AllS l 0) (hl : l.length ≤ 200) : ∃ o, p_impl_owns l = some o ∧ p_spec_l27Own l = some o ∧ o.length = l.length := by
  obtain ⟨o, e1, e2, e3⟩ := owns_eq ha hl l 0 [] rfl rfl (Nat.zero_le _)
  refine ⟨o, ?_, ?_, e3⟩
  · unfold p_impl_owns; rw [e1]; rfl
  · unfold p_spec_l27Own
    have m2 : mkl (l.length : Int) (0 : Int) = some (List.replicate l.length 0) := by
      unfold mkl; rw [if_pos (by omega), Int.toNat_natCast]
    rw [m2, Option.bind_some]
    simp only [List.nil_append, Nat.sub_zero] at e2
    rw [e2]; rfl
/-! ### the totals of a name -/
section
variable (l : List GSpan) (N : Nat) (own : List Int)
/-- Does no span above bear the name? -/
def topB (x : GSpan) (n : ByteArray) : Bool := (chain l N x.Up).all fun k => match idx l k with | some y => !(decide (y.Name = n)) | none => true
def addT (n : ByteArray) (t : Int × Int × Int) (i : Nat) (x : GSpan) : Int × Int × Int :=
  if x.Name = n then (IntKind.i64.wrap (t.1 + 1), (if topB l N x n = true then IntKind.i64.wrap (t.2.1 + IntKind.i64.wrap (x.To - x.From)) else t.2.1), IntKind.i64.wrap (t.2.2 + own.getD i 0)) else t
def totF (n : ByteArray) : List GSpan → Nat → Int × Int × Int → Int × Int × Int
  | [], _, t => t
  | x :: r, i, t => totF n r (i + 1) (addT l N own n t i x)
theorem totF_snoc (n : ByteArray) (x : GSpan) : ∀ (r : List GSpan) (i : Nat) (t : Int × Int × Int), totF l N own n (r ++ [x]) i t = addT l N own n (totF l N own n r i t) (i + r.length) x
  | [], i, t => rfl
  | y :: r, i, t => by
    simp only [List.cons_append, totF, List.length_cons]
    rw [totF_snoc n x r (i + 1)]
    congr 1; omega
theorem totF_none (n : ByteArray) : ∀ (r : List GSpan) (i : Nat) (t : Int × Int × Int), (∀ y ∈ r, y.Name ≠ n) → totF l N own n r i t = t
  | [], i, t, _ => rfl
  | y :: r, i, t, h => by
    simp only [totF]
    rw [totF_none n r (i + 1) _ (fun z hz => h z (by simp [hz]))]
    unfold addT
    rw [if_neg (h y (by simp))]
end
theorem top_l3 {l : List GSpan} {i : Nat} (hd : Desc l i) (n : ByteArray) : ∀ (f : Nat) (b : Bool) (k : Int), k < i → -1 ≤ k → k + 1 < f →
    ∃ k', p_spec_TotalsOf_l3 l n f b k = some (b && ((chain l f k).all fun k => match idx l k with | some y => !(decide (y.Name = n)) | none => true), k')
  | 0, b, k, _, _, h => by omega
  | f + 1, b, k, hk, h1, hf => by
    unfold p_spec_TotalsOf_l3
    simp only [chain]
    by_cases h0 : k ≥ 0
    · obtain ⟨x, e1, e2, e3, e4⟩ := hd.up h0 hk
      rw [if_pos h0, e1, Option.bind_some, Option.bind_some, if_pos (show 0 ≤ k from h0), e2]
      cases b with
      | true =>
        obtain ⟨k', ih⟩ := top_l3 hd n f (!(decide (x.Name = n))) x.Up (by omega) e3 (by omega)
        rw [if_pos rfl, ih]
        exact ⟨k', by simp [e1]⟩
      | false =>
        obtain ⟨k', ih⟩ := top_l3 hd n f false x.Up (by omega) e3 (by omega)
        rw [if_neg (by decide), ih]
        exact ⟨k', by simp⟩
    · rw [if_neg h0, if_neg (by omega)]
      exact ⟨k, by simp⟩
theorem idxF_l0 (l : List GSpan) (x : GSpan) : ∀ (c : List Int) (i : Nat), (∀ k ∈ c, ∃ y, idx l k = some y) → ∃ j : Nat, p_slices_IndexFunc_int_int_l0 (fun x0_ => p_impl_TotalsOf_2 x0_ l x) c i = some (if (c.all fun k => match idx l k with | some y => !(decide (y.Name = x.Name)) | none => true) = true then .out () else .ret (j : Int))
  | [], i, _ => ⟨0, rfl⟩
  | k :: c, i, h => by
    obtain ⟨y, hy⟩ := h k (by simp)
    obtain ⟨j, ih⟩ := idxF_l0 l x c (i + 1) (fun z hz => h z (by simp [hz]))
    unfold p_slices_IndexFunc_int_int_l0
    rw [ih]
    simp only [p_impl_TotalsOf_2, hy, Option.bind_some]
    by_cases c1 : y.Name = x.Name
    · exact ⟨i, by simp [c1, hy]⟩
    · exact ⟨j, by simp [c1, hy]⟩
theorem contF_eq (l : List GSpan) (N : Nat) (x : GSpan) (h : ∀ k ∈ chain l N x.Up, ∃ y, idx l k = some y) : p_slices_ContainsFunc_int_int (chain l N x.Up) (fun x0_ => p_impl_TotalsOf_2 x0_ l x) = some (!(topB l N x x.Name)) := by
  obtain ⟨j, e⟩ := idxF_l0 l x (chain l N x.Up) 0 h
  unfold p_slices_ContainsFunc_int_int p_slices_IndexFunc_int_int
  rw [e]
  unfold topB
  cases hb : ((chain l N x.Up).all fun k => match idx l k with | some y => !(decide (y.Name = x.Name)) | none => true)
  · simp
  · simp
theorem chain_idx {l : List GSpan} {i : Nat} (h : Desc l i) : ∀ (f : Nat) (k : Int), k < i → ∀ y ∈ chain l f k, ∃ z, idx l y = some z
  | 0, k, _, y, hy => by simp [chain] at hy
  | f + 1, k, hk, y, hy => by
    simp only [chain] at hy
    split at hy
    · rename_i h0
      obtain ⟨x, e0, e, _, e3⟩ := h.up h0 hk
      rcases List.mem_cons.1 hy with rfl | hy
      · exact ⟨x, e0⟩
      · rw [e] at hy
        exact chain_idx h f x.Up (by omega) y hy
    · simp at hy
end Go.Av
