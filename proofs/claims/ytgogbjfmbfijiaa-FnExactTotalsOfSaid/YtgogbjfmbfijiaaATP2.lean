/- TotalsOf: the two ways meet. -/
import Derived.Test.YtgogbjfmbfijiaaATP
set_option linter.unusedSimpArgs false
set_option linter.unusedVariables false
set_option maxRecDepth 100000
namespace Go.Av
/-! TotalsOf: the two ways meet. -/
def nmsF : List GSpan → List ByteArray → List ByteArray
  | [], a => a
  | x :: r, a => nmsF r (putN a x.Name)
def mkT (n : ByteArray) (t : Int × Int × Int) : GTotal := ⟨n, t.1, t.2.1, t.2.2⟩
theorem nmsF_rise : ∀ (r : List GSpan) {a : List ByteArray}, Rise idB a → Rise idB (nmsF r a)
  | [], a, h => h
  | x :: r, a, h => nmsF_rise r (rise_put h).1
theorem nmsF_len : ∀ (r : List GSpan) (a : List ByteArray), (nmsF r a).length ≤ a.length + r.length
  | [], a => by simp [nmsF]
  | x :: r, a => by
    have := nmsF_len r (putN a x.Name)
    have := put_len a x.Name
    simp only [nmsF, List.length_cons]; omega
theorem nmsF_app : ∀ (r : List GSpan) (a : List ByteArray) (x : GSpan), nmsF (r ++ [x]) a = putN (nmsF r a) x.Name
  | [], a, x => rfl
  | y :: r, a, x => nmsF_app r _ x
theorem nmsF_mem : ∀ (r : List GSpan) {a : List ByteArray}, Rise idB a → ∀ n, n ∈ nmsF r a ↔ n ∈ a ∨ ∃ y ∈ r, y.Name = n
  | [], a, _, n => by simp [nmsF]
  | x :: r, a, h, n => by
    rw [nmsF, nmsF_mem r (rise_put h).1, (rise_put h).2.2]
    constructor
    · rintro ((h1 | h1) | ⟨y, h1, h2⟩)
      · exact .inr ⟨x, by simp, h1.symm⟩
      · exact .inl h1
      · exact .inr ⟨y, by simp [h1], h2⟩
    · rintro (h1 | ⟨y, h1, h2⟩)
      · exact .inl (.inr h1)
      · rcases List.mem_cons.1 h1 with rfl | h1
        · exact .inl (.inl h2.symm)
        · exact .inr ⟨y, h1, h2⟩
theorem names_l0 {N : Nat} : ∀ (r : List GSpan) (i : Nat) (a : List ByteArray), Rise idB a → a.length + r.length ≤ 1048576 → a.length + r.length < N → p_spec_TotalsOf_l0 N r i a = some (nmsF r a)
  | [], i, a, _, _, _ => rfl
  | x :: r, i, a, h, h1, h2 => by
    simp only [List.length_cons] at h1 h2
    unfold p_spec_TotalsOf_l0
    have := put_len a x.Name
    rw [put_eq h (by omega) (by omega), Option.bind_some, names_l0 r (i + 1) _ (rise_put h).1 (by omega) (by omega)]
    rfl
theorem totS_l2 {l : List GSpan} {N : Nat} {own : List Int} (hd : Desc l l.length) (ho : own.length = l.length) (hN : l.length + 2 ≤ N) (n : ByteArray) : ∀ (r : List GSpan) (i : Nat) (a b c : Int), l.drop i = r → p_spec_TotalsOf_l2 N l own n r i a b c = some (totF l N own n r i (a, b, c))
  | [], i, a, b, c, _ => rfl
  | x :: r, i, a, b, c, h => by
    obtain ⟨h1, h2, h3⟩ := drop_idx h
    obtain ⟨x', g1, g2, g3⟩ := hd i h3
    rw [h1] at g1; cases g1
    unfold p_spec_TotalsOf_l2
    simp only [totF]
    by_cases e : x.Name = n
    · have hi : idx own (i : Int) = some (own.getD i 0) := by
        unfold idx; rw [if_pos (by omega), Int.toNat_natCast, List.getD_eq_getElem?_getD, List.getElem?_eq_getElem (by omega)]; rfl
      obtain ⟨k', e3⟩ := top_l3 hd n N true x.Up (by omega) g2 (by omega)
      rw [if_pos e, hi, Option.bind_some, e3, Option.bind_some]
      show (if (true && topB l N x n) = true then _ else _) = _
      rw [Bool.true_and]
      unfold addT
      rw [if_pos e]
      by_cases t : topB l N x n = true
      · rw [if_pos t, if_pos t, totS_l2 hd ho hN n r (i + 1) _ _ _ h2]
      · rw [if_neg t, if_neg t, totS_l2 hd ho hN n r (i + 1) _ _ _ h2]
    · rw [if_neg e, totS_l2 hd ho hN n r (i + 1) _ _ _ h2]
      unfold addT
      rw [if_neg e]
theorem totS_l1 {l : List GSpan} {N : Nat} {own : List Int} (hd : Desc l l.length) (ho : own.length = l.length) (hN : l.length + 2 ≤ N) : ∀ (r : List ByteArray) (i : Nat) (out : List GTotal), out.length + r.length < 4294967296 →
    p_spec_TotalsOf_l1 N l own r i out = some (out ++ r.map fun n => mkT n (totF l N own n l 0 (0, 0, 0)))
  | [], i, out, _ => by simp [p_spec_TotalsOf_l1]
  | n :: r, i, out, h => by
    simp only [List.length_cons] at h
    unfold p_spec_TotalsOf_l1
    rw [totS_l2 hd ho hN n l 0 0 0 0 rfl, Option.bind_some]
    show (if out.length < 4294967296 then _ else _) = _
    rw [if_pos (by omega), totS_l1 hd ho hN r (i + 1) _ (by simp; omega)]
    simp [mkT]
theorem set_upd {f g : ByteArray → GTotal} {nm : List ByteArray} {k : Nat} {n : ByteArray} (hk : nm[k]? = some n) (h : ∀ j m, nm[j]? = some m → j ≠ k → f m = g m) : (nm.map f).set k (g n) = nm.map g := by
  refine List.ext_getElem? (fun j => ?_)
  rw [List.getElem?_set, List.getElem?_map, List.getElem?_map, List.length_map]
  by_cases e : k = j
  · subst e
    have hlt := (List.getElem?_eq_some_iff.1 hk).1
    rw [if_pos rfl, if_pos hlt, hk]; rfl
  · rw [if_neg e]
    cases hj : nm[j]? with
    | none => rfl
    | some m => simp only [Option.map_some]; rw [h j m hj (Ne.symm e)]
theorem bs_gen (x : List GTotal) (t : ByteArray) (f : GTotal → ByteArray → Option Int) : ∀ (n : Nat) (i j : Int), p_slices_BinarySearchFunc_impl_Total_impl_Total_string_l0 x t f n i j = bsG x t f n i j
  | 0, i, j => rfl
  | n + 1, i, j => by
    unfold p_slices_BinarySearchFunc_impl_Total_impl_Total_string_l0 bsG
    simp only [bs_gen x t f n]
    rfl
theorem idxT {α : Type} {l : List α} {k : Nat} {x : α} (h : l[k]? = some x) : idx l (k : Int) = some x := by
  unfold idx; rw [if_pos (by omega), Int.toNat_natCast, h]
theorem tot_l0 {l : List GSpan} {N : Nat} {own : List Int} (ha : AllS l 0) (hl : l.length ≤ 200) (hd : Desc l l.length) (ho : own.length = l.length) (hN : l.length + 2 ≤ N) : ∀ (r : List GSpan) (i : Nat) (nm : List ByteArray), l.drop i = r → i ≤ l.length → nm = nmsF (l.take i) [] →
    p_impl_TotalsOf_l0 N l own r i (nm.map fun n => mkT n (totF l N own n (l.take i) 0 (0, 0, 0))) = some ((nmsF r nm).map fun n => mkT n (totF l N own n l 0 (0, 0, 0)))
  | [], i, nm, h, hi, hnm => by
    have := drop_nil h
    rw [List.take_of_length_le (by omega)]
    rfl
  | x :: r, i, nm, h, hi, hnm => by
    obtain ⟨h1, h2, h3⟩ := drop_idx h
    obtain ⟨x', g1, g2, g3⟩ := hd i h3
    rw [h1] at g1; cases g1
    have hri : Rise idB nm := by rw [hnm]; exact nmsF_rise _ trivial
    have hnl : nm.length ≤ i := by
      rw [hnm]; have := nmsF_len (l.take i) []; simp at this; omega
    have hxi : l[i]? = some x := by
      have := h1; unfold idx at this; rw [if_pos (by omega), Int.toNat_natCast] at this; exact this
    have htk : l.take (i + 1) = l.take i ++ [x] := take_succ_idx h1
    obtain ⟨p1, p2, p3⟩ := rise_put (s := x.Name) hri
    have hnm' : putN nm x.Name = nmsF (l.take (i + 1)) [] := by rw [htk, nmsF_app, hnm]
    generalize hT : (fun n => totF l N own n (l.take i) 0 (0, 0, 0)) = T
    have hT' : ∀ n, totF l N own n (l.take (i + 1)) 0 (0, 0, 0) = addT l N own n (T n) i x := fun n => by
      rw [htk, totF_snoc, ← hT, List.length_take, Nat.min_eq_left hi, Nat.zero_add]
    have hTn : ∀ n, totF l N own n (l.take i) 0 (0, 0, 0) = T n := fun n => by rw [← hT]
    simp only [hTn]
    have hkle := spot_le (key := idB) nm x.Name
    have hmk : ∀ n, GTotal.Name (mkT n (T n)) = n := fun n => rfl
    have hro : Rise GTotal.Name (nm.map fun n => mkT n (T n)) := rise_map (f := fun n => mkT n (T n)) hmk hri
    have hbs : p_slices_BinarySearchFunc_impl_Total_impl_Total_string N (nm.map fun n => mkT n (T n)) x.Name (fun x0_ x1_ => p_impl_TotalsOf_1 x0_ x1_) = some (((spot idB nm x.Name : Nat) : Int), ((nm.map fun n => mkT n (T n))[spot idB nm x.Name]?).elim false fun a => decide (a.Name = x.Name)) := by
      have e : p_slices_BinarySearchFunc_impl_Total_impl_Total_string N (nm.map fun n => mkT n (T n)) x.Name (fun x0_ x1_ => p_impl_TotalsOf_1 x0_ x1_) = bsW N (nm.map fun n => mkT n (T n)) x.Name (fun x0_ x1_ => p_impl_TotalsOf_1 x0_ x1_) := by
        unfold p_slices_BinarySearchFunc_impl_Total_impl_Total_string bsW
        rw [bs_gen]
      rw [e, bsW_spec (key := GTotal.Name) (by rw [List.length_map]; omega) (fun a => rfl) hro (by rw [List.length_map]; omega), spot_map (f := fun n => mkT n (T n)) hmk]
    generalize hk : spot idB nm x.Name = k at hbs p2 hkle
    -- what the rest does with a row of totals whose names are those of 'nm' and this one
    have fin : p_impl_TotalsOf_j0 N l own x i ((k : Int), decide (nm[k]? = some x.Name)) (p_impl_TotalsOf_l0 N l own r) ((putN nm x.Name).map fun n => mkT n (T n)) = some ((nmsF r (putN nm x.Name)).map fun n => mkT n (totF l N own n l 0 (0, 0, 0))) := by
      have e1 : idx ((putN nm x.Name).map fun n => mkT n (T n)) (k : Int) = some (mkT x.Name (T x.Name)) := idxT (by rw [List.getElem?_map, p2]; rfl)
      have e2 : idx own (i : Int) = some (own.getD i 0) := by
        unfold idx; rw [if_pos (by omega), Int.toNat_natCast, List.getD_eq_getElem?_getD, List.getElem?_eq_getElem (by omega)]; rfl
      have e3 := above_eq hd (by omega) (N := N) (k := x.Up) (by omega) g2 (by omega)
      have e4 := contF_eq l N x (chain_idx hd N x.Up (by omega))
      have hs : ((putN nm x.Name).map fun n => mkT n (T n)).set k (mkT x.Name (addT l N own x.Name (T x.Name) i x)) = (putN nm x.Name).map fun n => mkT n (totF l N own n (l.take (i + 1)) 0 (0, 0, 0)) := by
        have := set_upd (f := fun n => mkT n (T n)) (g := fun n => mkT n (addT l N own n (T n) i x)) p2 (fun j m hj hne => by
          have hm : m ≠ x.Name := fun e => hne (rise_inj p1 hj p2 (by rw [e]))
          show mkT m (T m) = mkT m (addT l N own m (T m) i x)
          unfold addT; rw [if_neg (Ne.symm hm)])
        rw [this]
        simp only [hT']
      unfold p_impl_TotalsOf_j0
      simp only [e1, e2, e3, e4, Option.bind_some, Int.toNat_natCast, List.set_set, p_impl_Span_long]
      have ih := tot_l0 ha hl hd ho hN r (i + 1) (putN nm x.Name) h2 (by omega) hnm'
      rw [← hs] at ih
      unfold addT at ih
      rw [if_pos rfl] at ih
      by_cases t : topB l N x x.Name = true
      · rw [t] at ih ⊢
        rw [if_neg (by decide)]
        rw [if_pos rfl] at ih
        exact ih
      · rw [Bool.eq_false_iff.2 t] at ih ⊢
        rw [if_pos (by decide)]
        rw [if_neg (by decide)] at ih
        exact ih
    unfold p_impl_TotalsOf_l0
    rw [hbs, Option.bind_some]
    have hth : (((nm.map fun n => mkT n (T n))[k]?).elim false fun a => decide (a.Name = x.Name)) = decide (nm[k]? = some x.Name) := by
      rw [List.getElem?_map]
      cases nm[k]? with
      | none => simp
      | some m => simp [mkT]
    rw [hth]
    by_cases c : nm[k]? = some x.Name
    · have hp : putN nm x.Name = nm := by unfold putN; rw [hk, if_pos c]
      rw [hp] at fin
      show (if decide (nm[k]? = some x.Name) = true then _ else _) = _
      rw [if_pos (decide_eq_true c)]
      simp only [nmsF, hp]
      exact fin
    · have hp : putN nm x.Name = nm.take k ++ (x.Name :: nm.drop k) := by unfold putN; rw [hk, if_neg c]
      have hnot : x.Name ∉ nm := fun hm => by
        obtain ⟨j, hj⟩ := List.getElem?_of_mem hm
        have := spot_at (key := idB) hri hj
        rw [show idB x.Name = x.Name from rfl, hk] at this
        subst this
        exact c hj
      have hz : T x.Name = (0, 0, 0) := by
        rw [← hT]
        refine totF_none l N own x.Name (l.take i) 0 (0, 0, 0) (fun y hy he => hnot ?_)
        rw [hnm]
        exact (nmsF_mem (l.take i) (a := []) trivial x.Name).2 (.inr ⟨y, hy, he⟩)
      show (if decide (nm[k]? = some x.Name) = true then _ else _) = _
      rw [if_neg (by simpa using c)]
      have hins : insL (nm.map fun n => mkT n (T n)) (k : Int) [(⟨x.Name, 0, 0, 0⟩ : GTotal)] = some ((putN nm x.Name).map fun n => mkT n (T n)) := by
        unfold insL
        rw [if_pos ⟨by rw [List.length_map]; omega, by rw [List.length_map]; omega, rfl⟩, hp]
        simp only [Int.toNat_natCast, List.map_append, List.map_cons, List.map_take, List.map_drop, hz, mkT, List.cons_append, List.nil_append]
      rw [hins, Option.bind_some]
      simp only [nmsF]
      exact fin
theorem totalsOf_eq {l : List GSpan} {N : Nat} (hl : l.length ≤ 1048576) (hN : l.length + 2 ≤ N) (hn : ∀ x ∈ l, x.Name.size ≤ 9223372036854775807) : ∃ o b, p_spec_TotalsOf N l = some (o, b) ∧ p_impl_TotalsOf N l = some (o, b) ∧ o.length ≤ 200 ∧ ∀ t ∈ o, ∃ y ∈ l, y.Name = t.Name := by
  unfold p_spec_TotalsOf p_impl_TotalsOf
  rw [specGood_eq hl hN hn, implGood_eq hl hN hn, Option.bind_some, Option.bind_some]
  by_cases c : goodSpans l = true
  · rw [if_pos c, if_pos c]
    obtain ⟨ha, hl2⟩ := goodSpans_iff.1 c
    have hd : Desc l l.length := fun j hj => by
      obtain ⟨x, hx⟩ := idx_some (l := l) (j := (j : Int)) (by omega) (by omega)
      exact ⟨x, hx, (ha j (Nat.zero_le _) x hx).up.1, (ha j (Nat.zero_le _) x hx).up.2⟩
    obtain ⟨own, e1, e2, e3⟩ := owns_eq2 ha hl2
    have i1 := tot_l0 ha hl2 hd e3 hN l 0 [] rfl (Nat.zero_le _) rfl
    have hlen := nmsF_len l []
    simp only [List.length_nil, Nat.zero_add] at hlen
    have s0 := names_l0 (N := N) l 0 [] trivial (by simp; omega) (by simp; omega)
    have s1 := totS_l1 hd e3 hN (nmsF l []) 0 [] (by simp; omega)
    rw [e1, e2, s0, Option.bind_some, Option.bind_some]
    simp only [List.map_nil] at i1
    simp only [Option.bind_some, s1, i1]
    refine ⟨_, _, rfl, rfl, by simp; omega, fun t ht => ?_⟩
    simp only [List.nil_append, List.mem_map] at ht
    obtain ⟨n, hn', rfl⟩ := ht
    rcases (nmsF_mem l (a := []) trivial n).1 hn' with h | ⟨y, hy, e⟩
    · simp at h
    · exact ⟨y, hy, e⟩
  · rw [if_neg c, if_neg c]
    exact ⟨_, _, rfl, rfl, by simp, fun t ht => by simp at ht⟩
end Go.Av
