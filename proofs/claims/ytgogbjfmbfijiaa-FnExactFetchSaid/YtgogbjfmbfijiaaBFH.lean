/- Fetch: the program's and the reference's answers alike. -/
import Derived.Test.YtgogbjfmbfijiaaBFG
set_option linter.unusedSimpArgs false
set_option linter.unusedVariables false
set_option maxRecDepth 100000
namespace Go.Av
/-! Fetch: the program's and the reference's answers alike. -/
theorem okRs_held {s : GStore} : ∀ {r : List GResident} {i : Nat}, okRs s i r = true → ∀ x ∈ r, 0 ≤ x.Held ∧ x.Held ≤ 1000
  | [], i, h, x, hx => by simp at hx
  | y :: r, i, h, x, hx => by
    simp only [okRs, okR, Bool.and_eq_true] at h
    rcases List.mem_cons.1 hx with rfl | hx
    · simpa [rng] using h.1.1.1.1.2
    · exact okRs_held h.2 x hx
def isF (x : GResident) : Bool := x.Held == 0
def keepH (l : List GResident) : List GResident := l.filter fun x => !isF x
theorem ixF (f : GResident → Bool) : ∀ (l : List GResident) (i : Nat), p_slices_IndexFunc_impl_Resident_impl_Resident_l0 (fun x => some (f x)) l i = some (if l.any f = true then .ret ((i + l.findIdx f : Nat) : Int) else .out ())
  | [], i => by simp [p_slices_IndexFunc_impl_Resident_impl_Resident_l0]
  | y :: r, i => by
    have ih := ixF f r (i + 1)
    rw [p_slices_IndexFunc_impl_Resident_impl_Resident_l0, Option.bind_some]
    cases hy : f y with
    | true => simp [hy, List.findIdx_cons]
    | false =>
      rw [if_neg (by simp), ih]
      simp only [List.any_cons, hy, Bool.false_or, List.findIdx_cons, cond_false]
      congr 1
      split
      · congr 1; omega
      · rfl
theorem idxN {α : Type} {l : List α} {k : Nat} {x : α} (h : l[k]? = some x) : idx l (k : Int) = some x := by
  unfold idx; rw [if_pos (by omega), Int.toNat_natCast, h]
theorem df_l0 (f : GResident → Bool) (l : List GResident) (hl : l.length ≤ 1048576) : ∀ (n i j : Nat) (u : List GResident), l.length - j < n → i < j → j ≤ l.length → u.length = l.length → u.take i = (l.take j).filter (fun x => !f x) → u.drop j = l.drop j →
    ∃ (k : Nat) (w : List GResident), p_slices_DeleteFunc_impl_Resident_impl_Resident_l0 (fun x => some (f x)) n (i : Int) (j : Int) u = some ((k : Int), (l.length : Int), w) ∧ k < l.length ∧ w.length = l.length ∧ w.take k = l.filter (fun x => !f x)
  | 0, i, j, u, h, _, _, _, _, _ => by omega
  | n + 1, i, j, u, h, hij, hj, hu, ht, hd => by
    unfold p_slices_DeleteFunc_impl_Resident_impl_Resident_l0
    by_cases c : j < u.length
    · have hc : (j : Int) < (u.length : Int) := by omega
      have hx : u[j]? = some u[j] := List.getElem?_eq_getElem c
      have hlx : l[j]? = some u[j] := by
        have e : (u.drop j)[0]? = (l.drop j)[0]? := by rw [hd]
        rw [List.getElem?_drop, List.getElem?_drop, Nat.add_zero] at e
        rw [← e, hx]
      have hlt : l.take (j + 1) = l.take j ++ [u[j]] := by rw [List.take_add_one, hlx]; rfl
      have hd' : u.drop (j + 1) = l.drop (j + 1) := by
        rw [← List.drop_drop, ← List.drop_drop, hd]
      rw [if_pos hc, idxN hx, Option.bind_some, Option.bind_some, wI _ (by omega) (by omega), show (j : Int) + 1 = ((j + 1 : Nat) : Int) by omega]
      cases hf : f u[j] with
      | true =>
        rw [if_pos rfl]
        exact df_l0 f l hl n i (j + 1) u (by omega) (by omega) (by omega) hu (by rw [hlt, List.filter_append, ht]; simp [hf]) hd'
      | false =>
        have hi : i < u.length := by omega
        rw [if_neg (by simp), idxN (List.getElem?_eq_getElem hi), Option.bind_some, wI _ (by omega) (by omega), show (i : Int) + 1 = ((i + 1 : Nat) : Int) by omega, Int.toNat_natCast]
        refine df_l0 f l hl n (i + 1) (j + 1) (u.set i u[j]) (by omega) (by omega) (by omega) (by rw [List.length_set, hu]) ?_ ?_
        · rw [hlt, List.filter_append, ← ht, List.take_add_one, List.getElem?_set_self hi, List.take_set_of_le (Nat.le_refl _)]
          simp [hf]
        · rw [List.drop_set_of_lt (by omega), hd']
    · have hc : ¬ (j : Int) < (u.length : Int) := by omega
      rw [if_neg hc]
      have : j = l.length := by omega
      subst this
      exact ⟨i, u, rfl, by omega, hu, by rw [ht, List.take_length]⟩
theorem findIdx_drop {f : GResident → Bool} : ∀ (l : List GResident), l.any f = true → l.findIdx f < l.length ∧ (l.take (l.findIdx f + 1)).filter (fun x => !f x) = l.take (l.findIdx f)
  | [], h => by simp at h
  | x :: l, h => by
    rw [List.findIdx_cons]
    cases hx : f x with
    | true => simp [hx]
    | false =>
      rw [List.any_cons, hx, Bool.false_or] at h
      obtain ⟨h1, h2⟩ := findIdx_drop l h
      simp only [cond_false, List.length_cons, List.take_succ_cons, List.filter_cons, hx, Bool.not_false, if_true]
      exact ⟨by omega, by rw [h2]⟩
theorem df_eq (N : Nat) (f : GResident → Bool) (l : List GResident) (hN : l.length < N) (hl : l.length ≤ 1048576) : p_slices_DeleteFunc_impl_Resident_impl_Resident N l (fun x => some (f x)) = some (l.filter fun x => !f x) := by
  unfold p_slices_DeleteFunc_impl_Resident_impl_Resident p_slices_IndexFunc_impl_Resident_impl_Resident
  rw [ixF, Option.bind_some]
  cases ha : l.any f with
  | false =>
    have : l.filter (fun x => !f x) = l := List.filter_eq_self.2 (fun x hx => by
      rw [List.any_eq_false] at ha; simpa using ha x hx)
    rw [this]; simp
  | true =>
    obtain ⟨h1, h2⟩ := findIdx_drop l ha
    obtain ⟨k, w, e1, e2, e3, e4⟩ := df_l0 f l hl N (l.findIdx f) (l.findIdx f + 1) l (by omega) (by omega) (by omega) rfl h2.symm rfl
    simp only [if_true, Option.bind_some, Nat.zero_add]
    rw [if_neg (by omega), wI _ (by omega) (by omega), show ((l.findIdx f : Nat) : Int) + 1 = ((l.findIdx f + 1 : Nat) : Int) by omega, e1, Option.bind_some]
    show ((slc w (k : Int) (w.length : Int)).bind fun m30 => (if (k : Int).toNat < w.length then some (w.take (k : Int).toNat) else none)) = _
    unfold slc
    rw [if_pos (by omega), Option.bind_some, Int.toNat_natCast, if_pos (by omega), e4]
theorem room_l0 : ∀ (r : List GResident) (i : Nat) (n : Int), (∀ x ∈ r, 1 ≤ x.Size ∧ x.Size ≤ 100000) → 0 ≤ n → n + 100000 * r.length ≤ 9223372036854775807 → p_impl_Store_room_l0 r i n = some (n + sumS r)
  | [], i, n, _, _, _ => by simp [p_impl_Store_room_l0, sumS]
  | x :: r, i, n, h, h0, hb => by
    have hx := h x (by simp)
    simp only [List.length_cons] at hb
    rw [p_impl_Store_room_l0, wI _ (by omega) (by omega), room_l0 r (i + 1) _ (fun y hy => h y (by simp [hy])) (by omega) (by omega)]
    simp only [sumS]; congr 1; omega
def roomB (b z : Int) (l : List GResident) : Bool := decide (sumS l + z ≤ b) && decide (l.length < 30)
theorem room_eq (s : GStore) (z : Int) (h : ∀ x ∈ s.In, 1 ≤ x.Size ∧ x.Size ≤ 100000) (hl : s.In.length ≤ 1048576) (h0 : 1 ≤ z ∧ z ≤ 100000) : p_impl_Store_room s z = some (roomB s.Budget z s.In) := by
  unfold p_impl_Store_room roomB
  rw [room_l0 s.In 0 z h (by omega) (by omega), Option.bind_some]
  show (if z + sumS s.In ≤ s.Budget then _ else _) = _
  rw [Int.add_comm]
  by_cases c : sumS s.In + z ≤ s.Budget
  · rw [if_pos c]; simp [c]; omega
  · rw [if_neg c]; simp [c]
/-- The place of a name, as the reference looks for it. -/
def kF (t : ByteArray) : List GResident → Nat → Int → Int
  | [], _, k => k
  | x :: r, i, k => kF t r (i + 1) (if x.Name = t then (i : Int) else k)
theorem kF_none (t : ByteArray) : ∀ (r : List GResident) (i : Nat) (k : Int), (∀ x ∈ r, x.Name ≠ t) → kF t r i k = k
  | [], i, k, _ => rfl
  | x :: r, i, k, h => by
    unfold kF; rw [if_neg (h x (by simp)), kF_none t r _ _ (fun y hy => h y (by simp [hy]))]
theorem kF_at (t : ByteArray) : ∀ (r : List GResident) (i j : Nat) (k : Int) (x : GResident), r[j]? = some x → x.Name = t → (∀ (j' : Nat) (y : GResident), r[j']? = some y → y.Name = t → j' = j) → kF t r i k = ((i + j : Nat) : Int)
  | [], i, j, k, x, h, _, _ => by simp at h
  | y :: r, i, 0, k, x, h, he, hu => by
    simp at h; subst h
    unfold kF; rw [if_pos he, kF_none]
    · rfl
    · intro z hz hzt
      obtain ⟨j', hj', hz'⟩ := List.mem_iff_getElem.1 hz
      have := hu (j' + 1) z (by rw [List.getElem?_cons_succ, List.getElem?_eq_getElem hj', hz']) hzt
      omega
  | y :: r, i, j + 1, k, x, h, he, hu => by
    unfold kF
    rw [kF_at t r (i + 1) j _ x (by simpa using h) he (fun j' z hz hzt => by have := hu (j' + 1) z (by simpa using hz) hzt; omega)]
    congr 1; omega
theorem spec_l0 (t : ByteArray) : ∀ (r : List GResident) (i : Nat) (k h m : Int), (∀ x ∈ r, 1 ≤ x.Size ∧ x.Size ≤ 100000) → (∀ x ∈ r, 0 ≤ x.Held ∧ x.Held ≤ 1000) → 0 ≤ h → h + 100000 * r.length ≤ 9223372036854775807 → 0 ≤ m → m + r.length ≤ 1048576 →
    p_spec_Fetch_l0 t r i k h m = some (kF t r i k, h + sumS (keepH r), m + (keepH r).length)
  | [], i, k, h, m, _, _, _, _, _, _ => by simp [p_spec_Fetch_l0, kF, keepH, sumS]
  | x :: r, i, k, h, m, hs, hh, h0, hb, m0, mb => by
    have hx := hs x (by simp)
    have hhx := hh x (by simp)
    simp only [List.length_cons] at hb mb
    have ih := fun k h m a b c d => spec_l0 t r (i + 1) k h m (fun y hy => hs y (by simp [hy])) (fun y hy => hh y (by simp [hy])) a b c d
    have j2 : ∀ k, p_spec_Fetch_j2 h m x i (p_spec_Fetch_l0 t r) k = some (kF t r (i + 1) k, h + sumS (keepH (x :: r)), m + (keepH (x :: r)).length) := fun k => by
      unfold p_spec_Fetch_j2
      by_cases c : x.Held > 0
      · have hk : keepH (x :: r) = x :: keepH r := by
          unfold keepH; rw [List.filter_cons, if_pos (by simp [isF]; omega)]
        rw [if_pos c, wI _ (by omega) (by omega), wI _ (by omega) (by omega), ih _ _ _ (by omega) (by omega) (by omega) (by omega), hk]
        simp only [sumS, List.length_cons, Option.some.injEq, Prod.mk.injEq, true_and]
        exact ⟨by omega, by omega⟩
      · have hk : keepH (x :: r) = keepH r := by
          unfold keepH; rw [List.filter_cons, if_neg (by simp [isF]; omega)]
        rw [if_neg c, ih _ _ _ (by omega) (by omega) (by omega) (by omega), hk]
    rw [p_spec_Fetch_l0]
    by_cases c : x.Name = t
    · rw [if_pos c, j2, kF, if_pos c]
    · rw [if_neg c, j2, kF, if_neg c]
theorem least_eq (s : List GResident) : ∀ (r : List GResident) (i : Nat) (w : Int), p_impl_Fetch_l1 s r i w = p_spec_Fetch_l2 s r i w
  | [], i, w => rfl
  | x :: r, i, w => by
    unfold p_impl_Fetch_l1 p_spec_Fetch_l2
    simp only [least_eq s r]
theorem least_ok (s : List GResident) : ∀ (r : List GResident) (i : Nat) (w : Int), s.drop i = r → (w = -1 ∨ ∃ (k : Nat) (x : GResident), w = (k : Int) ∧ s[k]? = some x ∧ x.Held = 0) →
    ∃ w', p_spec_Fetch_l2 s r i w = some w' ∧ ((w' = -1 ∧ w = -1 ∧ ∀ x ∈ r, x.Held ≠ 0) ∨ ∃ (k : Nat) (x : GResident), w' = (k : Int) ∧ s[k]? = some x ∧ x.Held = 0)
  | [], i, w, h, hw => by
    refine ⟨w, rfl, ?_⟩
    rcases hw with rfl | hw
    · exact .inl ⟨rfl, rfl, by simp⟩
    · exact .inr hw
  | x :: r, i, w, h, hw => by
    obtain ⟨h1, h2, h3⟩ := drop_cons h
    unfold p_spec_Fetch_l2
    have keep : x.Held ≠ 0 → ∃ w', p_spec_Fetch_l2 s r (i + 1) w = some w' ∧ ((w' = -1 ∧ w = -1 ∧ ∀ y ∈ x :: r, y.Held ≠ 0) ∨ ∃ (k : Nat) (x : GResident), w' = (k : Int) ∧ s[k]? = some x ∧ x.Held = 0) := fun hx => by
      obtain ⟨w', e1, e2⟩ := least_ok s r (i + 1) w h3 hw
      refine ⟨w', e1, ?_⟩
      rcases e2 with ⟨e2, e3, e4⟩ | e2
      · refine .inl ⟨e2, e3, fun y hy => ?_⟩
        rcases List.mem_cons.1 hy with rfl | hy
        · exact hx
        · exact e4 y hy
      · exact .inr e2
    by_cases hx : x.Held = 0
    · have new : ∃ w', p_spec_Fetch_l2 s r (i + 1) (i : Int) = some w' ∧ ((w' = -1 ∧ w = -1 ∧ ∀ y ∈ x :: r, y.Held ≠ 0) ∨ ∃ (k : Nat) (x : GResident), w' = (k : Int) ∧ s[k]? = some x ∧ x.Held = 0) := by
        obtain ⟨w', e1, e2⟩ := least_ok s r (i + 1) (i : Int) h3 (.inr ⟨i, x, rfl, h2, hx⟩)
        refine ⟨w', e1, ?_⟩
        rcases e2 with ⟨_, e3, _⟩ | e2
        · omega
        · exact .inr e2
      rw [if_pos hx]
      rcases hw with hw | ⟨k, y, hw, hy, hy0⟩
      · rw [if_pos (by omega)]; exact new
      · rw [if_neg (by omega), hw, idxN hy, Option.bind_some]
        by_cases hu : x.Used < y.Used
        · rw [if_pos hu, ← hw]; exact new
        · rw [if_neg hu]
          obtain ⟨w', e1, e2⟩ := least_ok s r (i + 1) (k : Int) h3 (.inr ⟨k, y, rfl, hy, hy0⟩)
          refine ⟨w', e1, ?_⟩
          rcases e2 with ⟨_, e3, _⟩ | e2
          · omega
          · exact .inr e2
    · rw [if_neg hx]; exact keep hx
theorem keepH_none {l : List GResident} (h : ∀ x ∈ l, x.Held ≠ 0) : keepH l = l := List.filter_eq_self.2 (fun x hx => by simp [isF, h x hx])
theorem keepH_del {l : List GResident} {k : Nat} {x : GResident} (h : l[k]? = some x) (h0 : x.Held = 0) : keepH (l.take k ++ l.drop (k + 1)) = keepH l := by
  have e : l = l.take k ++ (x :: l.drop (k + 1)) := by
    obtain ⟨hk, hx⟩ := List.getElem?_eq_some_iff.1 h
    rw [← hx, ← List.drop_eq_getElem_cons hk, List.take_append_drop]
  conv => rhs; rw [e]
  unfold keepH
  rw [List.filter_append, List.filter_append, List.filter_cons, if_neg (by simp [isF, h0])]
theorem del_sub {α : Type} (l : List α) (k : Nat) : (l.take k ++ l.drop (k + 1)).Sublist l := by
  have h := List.Sublist.append (List.Sublist.refl (l.take k)) (List.Sublist.trans (List.drop_sublist 1 (l.drop k)) (List.Sublist.refl _))
  rwa [List.drop_drop, List.take_append_drop] at h
theorem rise_sub {α : Type} {key : α → ByteArray} {a b : List α} (h : a.Sublist b) : Rise key b → Rise key a := by
  induction h with
  | slnil => exact id
  | cons x h ih => exact fun hr => ih hr.2
  | cons_cons x h ih => exact fun hr => ⟨fun y hy => hr.1 y (h.subset hy), ih hr.2⟩
/-- What is put out, until there is room. -/
theorem evict (z : Int) (v : GStore) (hz : 1 ≤ z ∧ z ≤ 100000) : ∀ (n : Nat) (l : List GResident) (out : List ByteArray), l.length < n → l.length ≤ 30 → (∀ x ∈ l, 1 ≤ x.Size ∧ x.Size ≤ 100000) → roomB v.Budget z (keepH l) = true → out.length + l.length ≤ 1048576 →
    ∃ l' out', p_spec_Fetch_l1 z v n l out = some (l', out') ∧ p_impl_Fetch_l0 z v n l out = some (l', out') ∧ l'.Sublist l ∧ out'.length ≤ out.length + l.length ∧ ∀ t ∈ out', t ∈ out ∨ ∃ x ∈ l, x.Name = t
  | 0, l, out, h, _, _, _, _ => by omega
  | n + 1, l, out, hn, hl, hs, hr, ho => by
    unfold p_spec_Fetch_l1 p_impl_Fetch_l0
    have b1 := sumS_bnd hs
    have er : p_impl_Store_room (⟨v.Budget, IntKind.i64.wrap (v.Clock + 1), l⟩ : GStore) z = some (roomB v.Budget z l) := room_eq _ z hs (by show l.length ≤ _; omega) hz
    have es : p_spec_l21Sizes (⟨v.Budget, IntKind.i64.wrap (v.Clock + 1), l⟩ : GStore) = some (sumS l) := by
      unfold p_spec_l21Sizes
      show (p_spec_l21Sizes_l0 l 0 0).bind _ = _
      rw [sizes_eq l 0 0 hs (by omega) (by omega), Option.bind_some, Int.zero_add]
    have hsw : IntKind.i64.wrap (sumS l + z) = sumS l + z := wI _ (by omega) (by omega)
    rw [er, es, Option.bind_some, Option.bind_some, hsw]
    have hj : (if sumS l + z > v.Budget then p_spec_Fetch_j5 l out (p_spec_Fetch_l1 z v n) true else p_spec_Fetch_j5 l out (p_spec_Fetch_l1 z v n) ((l.length : Int) == 30)) = p_spec_Fetch_j5 l out (p_spec_Fetch_l1 z v n) (!(roomB v.Budget z l)) := by
      by_cases c : sumS l + z > v.Budget
      · rw [if_pos c]; congr 1; unfold roomB; rw [show decide (sumS l + z ≤ v.Budget) = false by simp; omega]; rfl
      · rw [if_neg c]; congr 1; unfold roomB; rw [show decide (sumS l + z ≤ v.Budget) = true by simp; omega, Bool.true_and]
        rw [Bool.eq_iff_iff]; simp; omega
    rw [hj]
    unfold p_spec_Fetch_j5
    cases hrm : roomB v.Budget z l with
    | true =>
      exact ⟨l, out, by simp, by simp, List.Sublist.refl _, by omega, fun t ht => .inl ht⟩
    | false =>
      obtain ⟨w', e1, e2⟩ := least_ok l l 0 (-1) rfl (.inl rfl)
      rcases e2 with ⟨_, _, e3⟩ | ⟨k, x, e3, e4, e5⟩
      · rw [keepH_none e3, hrm] at hr; cases hr
      · subst e3
        have hk := (List.getElem?_eq_some_iff.1 e4).1
        have hsub := del_sub l k
        have hlen : (l.take k ++ l.drop (k + 1)).length + 1 = l.length := by
          rw [List.length_append, List.length_take, List.length_drop]; omega
        obtain ⟨l', out', f1, f2, f3, f4, f5⟩ := evict z v hz n (l.take k ++ l.drop (k + 1)) (out ++ [x.Name]) (by omega) (by omega) (fun y hy => hs y (hsub.subset hy)) (by rw [keepH_del e4 e5]; exact hr) (by rw [List.length_append, List.length_singleton]; omega)
        have s1 : slc l 0 (k : Int) = some (l.take k) := slc0 (by omega)
        have s2 : slc l ((k + 1 : Nat) : Int) (l.length : Int) = some (l.drop (k + 1)) := by
          unfold slc; rw [if_pos (by omega), Int.toNat_natCast, Int.toNat_natCast, List.take_of_length_le (by rw [List.length_drop]; omega)]
        have s3 : delL l (k : Int) ((k + 1 : Nat) : Int) = some (l.take k ++ l.drop (k + 1)) := by
          unfold delL; rw [if_pos (by omega)]; rfl
        have hw : IntKind.i64.wrap ((k : Int) + 1) = ((k + 1 : Nat) : Int) := by rw [wI _ (by omega) (by omega)]; omega
        refine ⟨l', out', ?_, ?_, f3.trans hsub, ?_, ?_⟩
        · simp only [Bool.not_false, if_true, e1, Option.bind_some, idxN e4, s1, hw, s2]
          rw [if_pos (by omega), if_pos (by omega)]; exact f1
        · simp only [Bool.false_eq_true, if_false, least_eq, e1, Option.bind_some, idxN e4, hw, s3]
          rw [if_pos (by omega)]; exact f2
        · rw [List.length_append, List.length_singleton] at f4; omega
        · intro t ht
          rcases f5 t ht with h | ⟨y, hy, hyt⟩
          · rcases List.mem_append.1 h with h | h
            · exact .inl h
            · exact .inr ⟨x, List.mem_of_getElem? e4, (List.mem_singleton.1 h).symm⟩
          · exact .inr ⟨y, hsub.subset hy, hyt⟩
theorem l3_put (t : ByteArray) (z : Int) (v : GStore) : ∀ (r : List GResident) (i : Nat) (acc : List GResident), acc.length + r.length < 4294967296 → p_spec_Fetch_l3 t z v r i true acc = some (true, acc ++ r)
  | [], i, acc, _ => by simp [p_spec_Fetch_l3]
  | x :: r, i, acc, h => by
    simp only [List.length_cons] at h
    rw [p_spec_Fetch_l3, if_pos rfl]
    unfold p_spec_Fetch_j6
    rw [if_neg (by simp), if_pos (by omega), l3_put t z v r (i + 1) _ (by rw [List.length_append, List.length_singleton]; omega), List.append_assoc]; rfl
theorem l3_eq (t : ByteArray) (z : Int) (v : GStore) : ∀ (r : List GResident) (i : Nat) (acc : List GResident), acc.length + r.length + 1 < 4294967296 → (∀ x ∈ r, x.Name ≠ t) →
    p_spec_Fetch_l3 t z v r i false acc = some (if spot GResident.Name r t < r.length then (true, acc ++ (r.take (spot GResident.Name r t) ++ (⟨t, z, 1, IntKind.i64.wrap (v.Clock + 1)⟩ :: r.drop (spot GResident.Name r t)))) else (false, acc ++ r))
  | [], i, acc, _, _ => by simp [p_spec_Fetch_l3, spot_nil]
  | x :: r, i, acc, h, hne => by
    simp only [List.length_cons] at h
    have hx := hne x (by simp)
    rw [p_spec_Fetch_l3, if_neg (by simp), spot_cons]
    unfold p_spec_Fetch_j6
    rw [show decide (x.Name = t) = false by simpa using hx, Bool.or_false]
    cases hb : blt x.Name t with
    | true =>
      have hb' : Op.bytesLess x.Name.toList t.toList = true := hb
      rw [hb', if_neg (by simp), if_pos (by omega), l3_eq t z v r (i + 1) _ (by rw [List.length_append, List.length_singleton]; omega) (fun y hy => hne y (by simp [hy])), if_pos rfl]
      by_cases c : spot GResident.Name r t < r.length
      · rw [if_pos c, if_pos (by simp only [List.length_cons]; omega)]
        simp
      · rw [if_neg c, if_neg (by simp only [List.length_cons]; omega)]
        simp
    | false =>
      have hb' : Op.bytesLess x.Name.toList t.toList = false := hb
      rw [hb', if_pos (by simp), if_pos (by omega), if_pos (by rw [List.length_append, List.length_singleton]; omega), l3_put t z v r (i + 1) _ (by simp only [List.length_append, List.length_singleton]; omega)]
      simp
/-- The reference's answer and the program's: the same. -/
def FetR (N : Nat) (s : GStore) (t : ByteArray) (z : Int) : Prop := ∃ r, p_spec_Fetch N s t z = some r ∧ p_impl_Fetch N s t z = some r ∧ r.1.In.length ≤ 1048576 ∧ (∀ y ∈ r.1.In, y.Name.size ≤ 9223372036854775807) ∧ r.2.1.length ≤ 1048576 ∧ ∀ n ∈ r.2.1, n.size ≤ 9223372036854775807
theorem fet_both (N : Nat) (s : GStore) (t : ByteArray) (z : Int) (hN : s.In.length + 2 ≤ N) (hl : s.In.length ≤ 1048576) (hn : ∀ x ∈ s.In, x.Name.size ≤ 9223372036854775807) (ht : t.size ≤ 9223372036854775807) : FetR N s t z := by
  unfold FetR p_spec_Fetch p_impl_Fetch
  rw [specGood s hl hn, implGood s hl hn, Option.bind_some, Option.bind_some]
  have j0t : p_spec_Fetch_j0 N s t z true = some (⟨0, 0, []⟩, [], 1) := by unfold p_spec_Fetch_j0; rw [if_pos rfl]
  have j0i : p_impl_Fetch_j0 N s t z true = some (⟨0, 0, []⟩, [], 1) := by unfold p_impl_Fetch_j0; rw [if_pos rfl]
  have bad : ∃ r, p_spec_Fetch_j0 N s t z true = some r ∧ p_impl_Fetch_j0 N s t z true = some r ∧ r.1.In.length ≤ 1048576 ∧ (∀ y ∈ r.1.In, y.Name.size ≤ 9223372036854775807) ∧ r.2.1.length ≤ 1048576 ∧ ∀ n ∈ r.2.1, n.size ≤ 9223372036854775807 :=
    ⟨_, j0t, j0i, by simp, by simp, by simp, by simp⟩
  cases hg : goodSt s with
  | false => rw [if_neg (by simp), if_neg (by simp)]; exact bad
  | true =>
  rw [if_pos rfl, if_pos rfl]
  by_cases hc : s.Clock = 100000
  · rw [show (s.Clock == 100000) = true by simpa using hc]; exact bad
  rw [show (s.Clock == 100000) = false by simpa using hc]
  have hr := goodSt_rise hg
  have hg' := hg
  simp only [goodSt, Bool.and_eq_true, decide_eq_true_eq] at hg'
  obtain ⟨⟨⟨⟨hb, hck⟩, h30⟩, hok⟩, hsum⟩ := hg'
  have hh := okRs_held hok
  have hs := okRs_size hok
  have hcl : p_impl_Store_clone s = some s := by
    unfold p_impl_Store_clone p_slices_Clone_impl_Resident_impl_Resident; rw [if_pos (by omega), Option.bind_some]
  have ho : p_spec_l21Own s = some s := by unfold p_spec_l21Own; rw [if_pos (by omega)]
  have hck' : 0 ≤ s.Clock ∧ s.Clock ≤ 100000 := by simpa [rng] using hck
  unfold p_spec_Fetch_j0 p_impl_Fetch_j0
  rw [if_neg (by simp), if_neg (by simp), ho, hcl, Option.bind_some, Option.bind_some, place_eq N s t (by omega) hr hl, Option.bind_some, if_pos ht, if_pos ht]
  generalize hv5 : (((spot GResident.Name s.In t : Nat) : Int), (s.In[spot GResident.Name s.In t]?).elim false fun a => decide (a.Name = t)) = v5
  have same : ∀ c : Int, ∃ r, some (s, ([] : List ByteArray), c) = some r ∧ some (s, ([] : List ByteArray), c) = some r ∧ r.1.In.length ≤ 1048576 ∧ (∀ y ∈ r.1.In, y.Name.size ≤ 9223372036854775807) ∧ r.2.1.length ≤ 1048576 ∧ ∀ n ∈ r.2.1, n.size ≤ 9223372036854775807 := fun c =>
    ⟨_, rfl, rfl, hl, hn, by simp, by simp⟩
  have j1t : ∃ r, p_spec_Fetch_j1 N t z s true = some r ∧ p_impl_Fetch_j1 N s t z s v5 true = some r ∧ r.1.In.length ≤ 1048576 ∧ (∀ y ∈ r.1.In, y.Name.size ≤ 9223372036854775807) ∧ r.2.1.length ≤ 1048576 ∧ ∀ n ∈ r.2.1, n.size ≤ 9223372036854775807 := by
    unfold p_spec_Fetch_j1 p_impl_Fetch_j1
    rw [if_pos rfl, if_pos rfl]; exact same 2
  by_cases hgn : goodName t = true
  case neg => rw [if_neg hgn, if_neg hgn]; exact j1t
  rw [if_pos hgn, if_pos hgn]
  cases hz : rng z 1 100000 with
  | false => exact j1t
  | true =>
  have hz' : 1 ≤ z ∧ z ≤ 100000 := by simpa [rng] using hz
  unfold p_spec_Fetch_j1 p_impl_Fetch_j1
  rw [if_neg (by simp), if_neg (by simp), spec_l0 t s.In 0 (-1) 0 0 hs hh (by omega) (by omega) (by omega) (by omega), Option.bind_some, Int.zero_add, Int.zero_add]
  have hpl := place_eq N s t (by omega) hr hl
  by_cases there : ∃ x, s.In[spot GResident.Name s.In t]? = some x ∧ x.Name = t
  · obtain ⟨x, hx, hxt⟩ := there
    have hxm := List.mem_of_getElem? hx
    have hk : kF t s.In 0 (-1) = ((spot GResident.Name s.In t : Nat) : Int) := by
      rw [kF_at t s.In 0 (spot GResident.Name s.In t) (-1) x hx hxt (fun j y hy hyt => rise_inj hr hy hx (by rw [hyt, hxt])), Nat.zero_add]
    have hv : v5 = (((spot GResident.Name s.In t : Nat) : Int), true) := by rw [← hv5, hx]; simp [hxt]
    generalize spot GResident.Name s.In t = k at *
    subst hv
    have hb2 := hh x hxm
    simp only [hk, idxN hx, Option.bind_some]
    rw [if_pos (show ((k : Nat) : Int) ≥ 0 by omega)]
    simp only [if_true]
    have j3t : p_spec_Fetch_j3 N t z s (k : Int) (sumS (keepH s.In)) ((keepH s.In).length : Int) true = some (s, [], 3) := by unfold p_spec_Fetch_j3; rw [if_pos rfl]
    have j2t : p_impl_Fetch_j2 N s t z s ((k : Int), true) true = some (s, [], 3) := by unfold p_impl_Fetch_j2; rw [if_pos rfl]
    by_cases c1 : x.Size = z
    · rw [if_pos c1, if_pos c1]
      by_cases c2 : x.Held = 1000
      · rw [show (x.Held == 1000) = true by simpa using c2, j3t, j2t]; exact same 3
      · rw [show (x.Held == 1000) = false by simpa using c2]
        unfold p_spec_Fetch_j3 p_impl_Fetch_j2
        rw [if_neg (by simp), if_neg (by omega), if_neg (by simp), if_pos rfl]
        unfold p_spec_Fetch_j4 p_impl_Fetch_j3
        rw [if_neg (by simp), if_pos (by omega), if_neg (by simp), if_pos rfl, idxN hx, Option.bind_some]
        refine ⟨_, rfl, rfl, ?_, ?_, by simp, by simp⟩
        · simp only [List.length_set]; exact hl
        · intro y hy
          simp only [List.set_set] at hy
          rcases List.mem_or_eq_of_mem_set hy with hy | rfl
          · exact hn y hy
          · exact hn x hxm
    · rw [if_neg c1, if_neg c1, j3t, j2t]; exact same 3
  · have hne : ∀ x ∈ s.In, x.Name ≠ t := fun x hx e => by
      obtain ⟨i, hi, hxi⟩ := List.mem_iff_getElem.1 hx
      have hxi' : s.In[i]? = some x := by rw [List.getElem?_eq_getElem hi, hxi]
      have := spot_at hr hxi'
      rw [e] at this
      exact there ⟨x, by rw [this]; exact hxi', e⟩
    have hk : kF t s.In 0 (-1) = -1 := kF_none t _ _ _ hne
    have hv : v5 = (((spot GResident.Name s.In t : Nat) : Int), false) := by
      rw [← hv5]
      cases hq : s.In[spot GResident.Name s.In t]? with
      | none => rfl
      | some x => rw [Option.elim_some, decide_eq_false (hne x (List.mem_of_getElem? hq))]
    subst hv
    rw [hk]
    simp only [Bool.false_eq_true, if_false]
    rw [if_neg (by omega)]
    unfold p_spec_Fetch_j3 p_impl_Fetch_j2
    simp only [Bool.false_eq_true, if_false]
    have hho : p_impl_Store_heldOnly N s = some ⟨s.Budget, s.Clock, keepH s.In⟩ := by
      unfold p_impl_Store_heldOnly
      rw [hcl, Option.bind_some, show (fun x0_ => p_impl_Store_heldOnly_1 x0_) = fun x => some (isF x) from rfl, df_eq N isF s.In (by omega) hl, Option.bind_some]; rfl
    have hks : (keepH s.In).Sublist s.In := List.filter_sublist
    have hkl := hks.length_le
    have hksz : ∀ x ∈ keepH s.In, 1 ≤ x.Size ∧ x.Size ≤ 100000 := fun x hx => hs x (hks.subset hx)
    have hkb := sumS_bnd hksz
    rw [hho, Option.bind_some, room_eq ⟨s.Budget, s.Clock, keepH s.In⟩ z hksz (by show (keepH s.In).length ≤ _; omega) hz', Option.bind_some, if_pos (by omega), wI _ (by omega) (by omega)]
    have hj : (if sumS (keepH s.In) + z > s.Budget then p_spec_Fetch_j4 N t z s (-1) true else p_spec_Fetch_j4 N t z s (-1) (((keepH s.In).length : Int) == 30)) = p_spec_Fetch_j4 N t z s (-1) (!(roomB s.Budget z (keepH s.In))) := by
      by_cases c : sumS (keepH s.In) + z > s.Budget
      · rw [if_pos c]; congr 1; unfold roomB; rw [show decide (sumS (keepH s.In) + z ≤ s.Budget) = false by simp; omega]; rfl
      · rw [if_neg c]; congr 1; unfold roomB; rw [show decide (sumS (keepH s.In) + z ≤ s.Budget) = true by simp; omega, Bool.true_and]
        rw [Bool.eq_iff_iff]; simp; omega
    rw [hj]
    show ∃ r, p_spec_Fetch_j4 N t z s (-1) (!(roomB s.Budget z (keepH s.In))) = some r ∧ p_impl_Fetch_j3 N t z s _ (!(roomB s.Budget z (keepH s.In))) = some r ∧ _
    cases hrm : roomB s.Budget z (keepH s.In) with
    | false =>
      unfold p_spec_Fetch_j4 p_impl_Fetch_j3
      rw [Bool.not_false, if_pos rfl, if_pos rfl]; exact same 4
    | true =>
      obtain ⟨l', out', f1, f2, f3, f4, f5⟩ := evict z s hz' N s.In [] (by omega) h30 hs hrm (by simp; omega)
      have hr' : Rise GResident.Name l' := rise_sub f3 hr
      have hl' := f3.length_le
      have hne' : ∀ x ∈ l', x.Name ≠ t := fun x hx => hne x (f3.subset hx)
      have hpl' := place_eq N ⟨s.Budget, IntKind.i64.wrap (s.Clock + 1), l'⟩ t (by show l'.length < N; omega) hr' (by show l'.length ≤ _; omega)
      have hsp := spot_le (key := GResident.Name) l' t
      have hin : insL l' ((spot GResident.Name l' t : Nat) : Int) [(⟨t, z, 1, IntKind.i64.wrap (s.Clock + 1)⟩ : GResident)] = some (l'.take (spot GResident.Name l' t) ++ (⟨t, z, 1, IntKind.i64.wrap (s.Clock + 1)⟩ :: l'.drop (spot GResident.Name l' t))) := by
        unfold insL; rw [if_pos ⟨by omega, by omega, rfl⟩, Int.toNat_natCast]; rfl
      have h3 := l3_eq t z s l' 0 [] (by simp; omega) hne'
      unfold p_spec_Fetch_j4 p_impl_Fetch_j3
      rw [Bool.not_true, if_neg (by simp), if_neg (by omega), if_neg (by simp), if_neg (by simp), f1, f2, Option.bind_some, Option.bind_some]
      refine ⟨((⟨s.Budget, IntKind.i64.wrap (s.Clock + 1), l'.take (spot GResident.Name l' t) ++ (⟨t, z, 1, IntKind.i64.wrap (s.Clock + 1)⟩ :: l'.drop (spot GResident.Name l' t))⟩ : GStore), out', 0), ?_, ?_, ?_, ?_, ?_, ?_⟩
      · show ((p_spec_Fetch_l3 t z s l' 0 false []).bind _) = _
        rw [h3, Option.bind_some]
        by_cases c : spot GResident.Name l' t < l'.length
        · rw [if_pos c]; rfl
        · have e : spot GResident.Name l' t = l'.length := by omega
          rw [if_neg c, e]
          show (if ([] ++ l').length < 4294967296 then _ else _) = _
          rw [List.nil_append, if_pos (by omega), List.take_length, List.drop_length]; rfl
      · show ((p_impl_Store_place N _ t).bind _) = _
        rw [hpl', Option.bind_some]
        show ((insL l' ((spot GResident.Name l' t : Nat) : Int) _).bind _) = _
        rw [hin]; rfl
      · simp only [List.length_append, List.length_take, List.length_cons, List.length_drop]; omega
      · intro y hy
        rcases List.mem_append.1 hy with hy | hy
        · exact hn y (f3.subset (List.mem_of_mem_take hy))
        · rcases List.mem_cons.1 hy with rfl | hy
          · exact ht
          · exact hn y (f3.subset (List.mem_of_mem_drop hy))
      · simp at f4; show out'.length ≤ _; omega
      · intro n hm
        rcases f5 n hm with h | ⟨x, hx, rfl⟩
        · simp at h
        · exact hn x hx
end Go.Av
