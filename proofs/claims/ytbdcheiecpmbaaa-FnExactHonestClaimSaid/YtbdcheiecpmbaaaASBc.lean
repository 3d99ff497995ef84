/- SumsOf: the program's and the reference's answers alike (for a seat without PlayAll). -/
import Derived.Test.YtbdcheiecpmbaaaASA2
set_option linter.unusedSimpArgs false
set_option linter.unusedVariables false
set_option maxRecDepth 100000
namespace Go.Av
/-! SumsOf: the program's and the reference's answers alike (for a seat without PlayAll). -/
structure gS (x : GSeat) : Prop where
  x0 : 0 ≤ x.X
  x1 : x.X ≤ 63
  y0 : 0 ≤ x.Y
  y1 : x.Y ≤ 63
  h0 : 0 ≤ x.Hp
  h1 : x.Hp ≤ 9
theorem rng_t {n a b : Int} : rng n a b = true ↔ a ≤ n ∧ n ≤ b := by simp [rng]
theorem rng_f {n a b : Int} (h : ¬ (a ≤ n ∧ n ≤ b)) : rng n a b = false := by simp only [rng, decide_eq_false_iff_not]; exact h
theorem all_set {l : List GSeat} {i : Nat} {a : GSeat} (hl : ∀ x ∈ l, gS x) (ha : gS a) : ∀ x ∈ l.set i a, gS x := fun x hx =>
  (List.mem_or_eq_of_mem_set hx).elim (hl x) (fun h => h ▸ ha)
theorem idxN {α : Type} {l : List α} {i : Nat} (h : i < l.length) : idx l (i : Int) = some l[i] := idx_of h
def edge (n : Int) : Int := if n < 0 then 0 else if n > 63 then 63 else n
theorem edge_b (n : Int) : 0 ≤ edge n ∧ edge n ≤ 63 := by
  unfold edge; split
  · omega
  · split <;> omega
theorem sEdge (n : Int) : p_spec_l24Edge n = some (edge n) := by
  unfold p_spec_l24Edge edge; split
  · rfl
  · split <;> rfl
theorem iEdge (n : Int) : p_impl_clamp n 0 63 = some (edge n) := by
  unfold p_impl_clamp edge; congr 1
  by_cases h : n < 0
  · rw [if_pos h, if_pos (show (0 : Int) > n by omega)]; rfl
  · rw [if_neg h, if_neg (show ¬ (0 : Int) > n by omega)]
def mv (x : GSeat) (m : Int) : GSeat := if x.Hp = 0 then x else if m = 1 then ⟨edge (x.X - 1), x.Y, x.Hp⟩ else if m = 2 then ⟨edge (x.X + 1), x.Y, x.Hp⟩ else if m = 3 then ⟨x.X, edge (x.Y - 1), x.Hp⟩ else if m = 4 then ⟨x.X, edge (x.Y + 1), x.Hp⟩ else x
theorem mv_good {x : GSeat} (h : gS x) (m : Int) : gS (mv x m) := by
  obtain ⟨a, b, c, d, e, f⟩ := h
  have e1 := edge_b (x.X - 1)
  have e2 := edge_b (x.X + 1)
  have e3 := edge_b (x.Y - 1)
  have e4 := edge_b (x.Y + 1)
  unfold mv
  split
  · exact ⟨a, b, c, d, e, f⟩
  · split
    · exact ⟨e1.1, e1.2, c, d, e, f⟩
    · split
      · exact ⟨e2.1, e2.2, c, d, e, f⟩
      · split
        · exact ⟨a, b, e3.1, e3.2, e, f⟩
        · split
          · exact ⟨a, b, e4.1, e4.2, e, f⟩
          · exact ⟨a, b, c, d, e, f⟩
theorem wN {u : Nat} (h : u ≤ 1048576) : IntKind.i64.wrap ((u : Int) + 1) = ((u + 1 : Nat) : Int) := wI _ (by omega) (by omega)
theorem s0 {inp : List Int} {v : GGame} {u f : Nat} {g : List GSeat} {al : List Bool} {m : Int} (hv : u < v.Seats.length) (hu : u ≤ 1048576) (hg : u < g.length) (ha : u < al.length) (hi : u < inp.length) (hm : inp[u] = m) {x : GSeat} (hx : g[u] = x) (hG : gS x) :
    p_spec_l24Step_l0 inp v (f + 1) u g al = p_spec_l24Step_l0 inp v f ((u + 1 : Nat) : Int) (g.set u (mv x m)) (al.set u (decide (x.Hp > 0))) := by
  have hself : g.set u x = g := by rw [← hx, List.set_getElem_self]
  rw [p_spec_l24Step_l0, if_pos (show (u : Int) < (v.Seats.length : Int) by omega), idxN hg, Option.bind_some, idxN ha, Option.bind_some, wN hu, hx]
  obtain ⟨a, b, c, d, e, f⟩ := hG
  by_cases c0 : x.Hp > 0
  · rw [if_pos (show decide (x.Hp > 0) = true by simp [c0]), idxN hi, Option.bind_some, hm, Int.toNat_natCast]
    have n0 : ¬ x.Hp = 0 := by omega
    by_cases c1 : m = 1
    · rw [if_pos c1, sEdge, Option.bind_some, wI _ (by omega) (by omega)]; simp only [mv, if_neg n0, if_pos c1]
    rw [if_neg c1]
    by_cases c2 : m = 2
    · rw [if_pos c2, sEdge, Option.bind_some, wI _ (by omega) (by omega)]; simp only [mv, if_neg n0, if_neg c1, if_pos c2]
    rw [if_neg c2]
    by_cases c3 : m = 3
    · rw [if_pos c3, sEdge, Option.bind_some, wI _ (by omega) (by omega)]; simp only [mv, if_neg n0, if_neg c1, if_neg c2, if_pos c3]
    rw [if_neg c3]
    by_cases c4 : m = 4
    · rw [if_pos c4, sEdge, Option.bind_some, wI _ (by omega) (by omega)]; simp only [mv, if_neg n0, if_neg c1, if_neg c2, if_neg c3, if_pos c4]
    rw [if_neg c4]
    simp only [mv, if_neg n0, if_neg c1, if_neg c2, if_neg c3, if_neg c4, hself]
  · rw [if_neg (show ¬ decide (x.Hp > 0) = true by simp [c0]), Int.toNat_natCast]
    have n0 : x.Hp = 0 := by omega
    simp only [mv, if_pos n0, hself]
theorem i0 {inp : List Int} {v : GGame} {u f : Nat} {g : List GSeat} {st : List Int} {m : Int} (hv : u < v.Seats.length) (hu : u ≤ 1048576) (hg : u < g.length) (hs : st.length < 4294967296) (hi : u < inp.length) (hm : inp[u] = m) {x : GSeat} (hx : g[u] = x) (hG : gS x) :
    p_impl_Game_step_l0 inp v (f + 1) u g st = p_impl_Game_step_l0 inp v f ((u + 1 : Nat) : Int) (g.set u (mv x m)) (if x.Hp > 0 ∧ m = 5 then st ++ [(u : Int)] else st) := by
  have hself : g.set u x = g := by rw [← hx, List.set_getElem_self]
  rw [p_impl_Game_step_l0, if_pos (show (u : Int) < (v.Seats.length : Int) by omega), idxN hg, Option.bind_some, wN hu, hx]
  obtain ⟨a, b, c, d, e, f⟩ := hG
  by_cases c0 : x.Hp = 0
  · rw [if_pos c0, if_neg (show ¬ (x.Hp > 0 ∧ m = 5) by omega)]
    simp only [mv, if_pos c0, hself]
  rw [if_neg c0, idxN hi, Option.bind_some, hm]
  by_cases c1 : m = 1
  · subst c1
    rw [if_pos rfl, if_neg (show ¬ (x.Hp > 0 ∧ (1 : Int) = 5) by omega)]
    rw [p_impl_Game_step_j0, if_pos (by rfl), wN hu, wI (2 * 1) (by omega) (by omega), wI (x.X + 2 * 1) (by omega) (by omega), wI _ (by omega) (by omega), iEdge, Option.bind_some, Int.toNat_natCast]
    simp only [mv, if_neg c0, if_true]
    rw [show x.X + 2 * 1 - 3 = x.X - 1 by omega]
  rw [if_neg c1]
  by_cases c2 : m = 2
  · subst c2
    rw [if_neg (show ¬ (x.Hp > 0 ∧ (2 : Int) = 5) by omega)]
    rw [p_impl_Game_step_j0, if_pos (by rfl), wN hu, wI (2 * 2) (by omega) (by omega), wI (x.X + 2 * 2) (by omega) (by omega), wI _ (by omega) (by omega), iEdge, Option.bind_some, Int.toNat_natCast]
    simp only [mv, if_neg c0, if_neg c1, if_true]
    rw [show x.X + 2 * 2 - 3 = x.X + 1 by omega]
  rw [p_impl_Game_step_j0, if_neg (show ¬ (m == 2) = true by simp [c2])]
  by_cases c3 : m = 3
  · subst c3
    rw [if_pos rfl, if_neg (show ¬ (x.Hp > 0 ∧ (3 : Int) = 5) by omega)]
    rw [p_impl_Game_step_j1, if_pos (by rfl), wN hu, wI (2 * 3) (by omega) (by omega), wI (x.Y + 2 * 3) (by omega) (by omega), wI _ (by omega) (by omega), iEdge, Option.bind_some, Int.toNat_natCast]
    simp only [mv, if_neg c0, if_neg c1, if_neg c2, if_true]
    rw [show x.Y + 2 * 3 - 7 = x.Y - 1 by omega]
  rw [if_neg c3]
  by_cases c4 : m = 4
  · subst c4
    rw [if_neg (show ¬ (x.Hp > 0 ∧ (4 : Int) = 5) by omega)]
    rw [p_impl_Game_step_j1, if_pos (by rfl), wN hu, wI (2 * 4) (by omega) (by omega), wI (x.Y + 2 * 4) (by omega) (by omega), wI _ (by omega) (by omega), iEdge, Option.bind_some, Int.toNat_natCast]
    simp only [mv, if_neg c0, if_neg c1, if_neg c2, if_neg c3, if_true]
    rw [show x.Y + 2 * 4 - 7 = x.Y + 1 by omega]
  rw [p_impl_Game_step_j1, if_neg (show ¬ (m == 4) = true by simp [c4]), wN hu]
  have em : mv x m = x := by simp only [mv, if_neg c0, if_neg c1, if_neg c2, if_neg c3, if_neg c4]
  rw [em, hself]
  by_cases c5 : m = 5
  · rw [if_pos c5, if_pos hs, if_pos (show x.Hp > 0 ∧ m = 5 by omega)]
  · rw [if_neg c5, if_neg (show ¬ (x.Hp > 0 ∧ m = 5) by omega)]
def stk (al : List Bool) (inp : List Int) : Nat → Nat → List Int
  | 0, _ => []
  | k + 1, u => if al[u]? = some true ∧ inp[u]? = some 5 then (u : Int) :: stk al inp k (u + 1) else stk al inp k (u + 1)
theorem L0 {inp : List Int} {v : GGame} {n : Nat} (hn : v.Seats.length = n) (h4 : n ≤ 4) (hi : inp.length = n) : ∀ (k u : Nat) (out : List GSeat) (st : List Int) (al : List Bool) (f1 f2 : Nat), k + u = n → out.length = n → al.length = n → (∀ x ∈ out, gS x) → st.length ≤ u → k < f1 → k < f2 →
    ∃ out' al', p_impl_Game_step_l0 inp v f1 u out st = some ((n : Int), out', st ++ stk al' inp k u) ∧ p_spec_l24Step_l0 inp v f2 u out al = some ((n : Int), out', al') ∧ out'.length = n ∧ al'.length = n ∧ (∀ x ∈ out', gS x) ∧ (∀ i, i < u → al'[i]? = al[i]?)
  | 0, u, out, st, al, f1, f2, hk, ho, ha, hg, hs, hf1, hf2 => by
    obtain ⟨f1, rfl⟩ := Nat.exists_eq_succ_of_ne_zero (show f1 ≠ 0 by omega)
    obtain ⟨f2, rfl⟩ := Nat.exists_eq_succ_of_ne_zero (show f2 ≠ 0 by omega)
    have hun : u = n := by omega
    subst hun
    refine ⟨out, al, ?_, ?_, ho, ha, hg, fun _ _ => rfl⟩
    · rw [Nat.succ_eq_add_one, p_impl_Game_step_l0, if_neg (by omega)]; simp [stk]
    · rw [Nat.succ_eq_add_one, p_spec_l24Step_l0, if_neg (by omega)]
  | k + 1, u, out, st, al, f1, f2, hk, ho, ha, hg, hs, hf1, hf2 => by
    obtain ⟨f1, rfl⟩ := Nat.exists_eq_succ_of_ne_zero (show f1 ≠ 0 by omega)
    obtain ⟨f2, rfl⟩ := Nat.exists_eq_succ_of_ne_zero (show f2 ≠ 0 by omega)
    have hu : u < out.length := by omega
    have hG := hg _ (List.getElem_mem hu)
    rw [Nat.succ_eq_add_one, Nat.succ_eq_add_one, i0 (m := inp[u]'(by omega)) (by omega) (by omega) hu (by omega) (by omega) rfl rfl hG, s0 (m := inp[u]'(by omega)) (by omega) (by omega) hu (by omega) (by omega) rfl rfl hG]
    have hst : (if out[u].Hp > 0 ∧ inp[u]'(by omega) = 5 then st ++ [(u : Int)] else st).length ≤ u + 1 := by
      split
      · rw [List.length_append]; simp only [List.length_cons, List.length_nil]; omega
      · omega
    obtain ⟨out', al', e1, e2, e3, e4, e5, e6⟩ := L0 hn h4 hi k (u + 1) (out.set u (mv out[u] (inp[u]'(by omega)))) (if out[u].Hp > 0 ∧ inp[u]'(by omega) = 5 then st ++ [(u : Int)] else st) (al.set u (decide (out[u].Hp > 0))) f1 f2 (by omega) (by simpa using ho) (by simpa using ha) (all_set hg (mv_good hG _)) hst (by omega) (by omega)
    refine ⟨out', al', ?_, e2, e3, e4, e5, fun i hi' => by rw [e6 i (by omega), List.getElem?_set_ne (by omega)]⟩
    rw [e1]
    have h6 : al'[u]? = some (decide (out[u].Hp > 0)) := by rw [e6 u (by omega), List.getElem?_set_self (by omega)]
    have h7 : inp[u]? = some (inp[u]'(by omega)) := List.getElem?_eq_getElem _
    congr 3
    simp only [stk, h6, h7, Option.some.injEq, decide_eq_true_eq]
    split <;> simp
def ab (d : Int) : Int := if d < 0 then -d else d
theorem iAbs {d : Int} (h1 : -1000 ≤ d) (h2 : d ≤ 1000) : p_impl_size d = some (ab d) := by
  unfold p_impl_size ab
  rw [wI _ (by omega) (by omega)]
  congr 1
  split <;> split <;> omega
theorem sAbs {d : Int} (h1 : -1000 ≤ d) (h2 : d ≤ 1000) : p_spec_l1Abs d = some (ab d) := by
  unfold p_spec_l1Abs ab
  rw [wI _ (by omega) (by omega)]
  split
  · congr 1; omega
  · rfl
def nc (c : Int) : Int × Int := ((Int.tmod (IntKind.i64.wrap ((IntKind.i64.wrap (c * 1103515245)) + 12345)) 2147483648), (IntKind.i64.wrap (Int.tdiv (Int.tmod (IntKind.i64.wrap ((IntKind.i64.wrap (c * 1103515245)) + 12345)) 2147483648) 65536)))
theorem nc_b {c : Int} (h1 : 0 ≤ c) (h2 : c ≤ 2147483647) : 0 ≤ (nc c).1 ∧ (nc c).1 ≤ 2147483647 := by
  simp only [nc]
  rw [wI (c * 1103515245) (by omega) (by omega), wI _ (by omega) (by omega), Int.tmod_eq_emod_of_nonneg (by omega)]
  omega
theorem sCoin (c : Int) : p_spec_l1Coin c = some (nc c) := rfl
theorem iCoin {c : Int} (h1 : 0 ≤ c) (h2 : c ≤ 2147483647) : p_impl_NextCoin c = some (nc c) := by
  unfold p_impl_NextCoin p_impl_isSeed
  rw [Option.bind_some, if_pos (rng_t.2 ⟨h1, h2⟩)]; rfl
def hit (x : GSeat) : GSeat := if x.Hp > 0 then ⟨x.X, x.Y, x.Hp - 1⟩ else x
theorem hit_good {x : GSeat} (h : gS x) : gS (hit x) := by
  obtain ⟨a, b, c, d, e, f⟩ := h
  unfold hit; split
  · exact ⟨a, b, c, d, by simp only; omega, by simp only; omega⟩
  · exact ⟨a, b, c, d, e, f⟩
theorem j2 {u : Nat} {c : Int} {g : List GSeat} (recI recS : Int → Int → List GSeat → Option (Int × Int × List GSeat)) (hu : u < g.length) (hU : u ≤ 1048576) {x : GSeat} (hx : g[u] = x) (hG : gS x) (h1 : 0 ≤ c) (h2 : c ≤ 2147483647) (b : Bool) :
    ∃ c' g', p_impl_Game_step_j2 u c g x recI b = recI ((u + 1 : Nat) : Int) c' g' ∧ p_spec_l24Step_j1 u c g recS b = recS ((u + 1 : Nat) : Int) c' g' ∧ 0 ≤ c' ∧ c' ≤ 2147483647 ∧ (g' = g ∨ g' = g.set u (hit x)) := by
  have hself : g.set u x = g := by rw [← hx, List.set_getElem_self]
  obtain ⟨a, b_, c', d, e, f⟩ := hG
  unfold p_impl_Game_step_j2 p_spec_l24Step_j1
  rw [wN hU]
  by_cases hb : b = true
  · rw [if_pos hb, if_pos hb]; exact ⟨c, g, rfl, rfl, h1, h2, .inl rfl⟩
  rw [if_neg hb, if_neg hb, iCoin h1 h2, sCoin, Option.bind_some, Option.bind_some]
  have hn := nc_b h1 h2
  by_cases ht : Int.tmod (nc c).2 2 = 0
  · rw [if_pos ht, if_pos ht, idxN hu, Option.bind_some, Int.toNat_natCast, hx]
    refine ⟨(nc c).1, g.set u (hit x), ?_, ?_, hn.1, hn.2, .inr rfl⟩
    · rw [wI _ (by omega) (by omega)]
      by_cases hp : x.Hp > 0
      · rw [if_neg (by omega)]; simp only [hit, if_pos hp]
      · rw [if_pos (by omega)]
        have : x.Hp = 0 := by omega
        have e1 : hit x = x := by simp only [hit, if_neg hp]
        have e2 : (⟨x.X, x.Y, 0⟩ : GSeat) = x := by cases x; simp_all
        rw [e1, e2]
    · unfold p_spec_l24Step_j2
      rw [wN hU]
      by_cases hp : x.Hp > 0
      · rw [if_pos (show decide (x.Hp > 0) = true by simp [hp]), idxN hu, Option.bind_some, hx, Int.toNat_natCast, wI _ (by omega) (by omega)]; simp only [hit, if_pos hp]
      · rw [if_neg (show ¬ decide (x.Hp > 0) = true by simp [hp])]
        have e1 : hit x = x := by simp only [hit, if_neg hp]
        rw [e1, hself]
  · rw [if_neg ht, if_neg ht]
    refine ⟨(nc c).1, g, rfl, ?_, hn.1, hn.2, .inl rfl⟩
    unfold p_spec_l24Step_j2
    rw [wN hU]; simp
theorem L2 {n i : Nat} (hi : i < n) (h4 : n ≤ 4) (o1 o2 : List GSeat) (ho1 : o1.length = n) (ho2 : o2.length = n) : ∀ (k u : Nat) (c : Int) (g : List GSeat) (f1 f2 : Nat), k + u = n → g.length = n → (∀ x ∈ g, gS x) → 0 ≤ c → c ≤ 2147483647 → k < f1 → k < f2 →
    ∃ c' g', p_impl_Game_step_l2 o1 (i : Int) f1 u c g = some ((n : Int), c', g') ∧ p_spec_l24Step_l2 (i : Int) o2 f2 u c g = some ((n : Int), c', g') ∧ g'.length = n ∧ (∀ x ∈ g', gS x) ∧ 0 ≤ c' ∧ c' ≤ 2147483647
  | 0, u, c, g, f1, f2, hk, hg, hG, h1, h2, hf1, hf2 => by
    obtain ⟨f1, rfl⟩ := Nat.exists_eq_succ_of_ne_zero (show f1 ≠ 0 by omega)
    obtain ⟨f2, rfl⟩ := Nat.exists_eq_succ_of_ne_zero (show f2 ≠ 0 by omega)
    have hun : u = n := by omega
    subst hun
    refine ⟨c, g, ?_, ?_, hg, hG, h1, h2⟩
    · rw [Nat.succ_eq_add_one, p_impl_Game_step_l2, if_neg (by omega)]
    · rw [Nat.succ_eq_add_one, p_spec_l24Step_l2, if_neg (by omega)]
  | k + 1, u, c, g, f1, f2, hk, hg, hG, h1, h2, hf1, hf2 => by
    obtain ⟨f1, rfl⟩ := Nat.exists_eq_succ_of_ne_zero (show f1 ≠ 0 by omega)
    obtain ⟨f2, rfl⟩ := Nat.exists_eq_succ_of_ne_zero (show f2 ≠ 0 by omega)
    have hu : u < g.length := by omega
    have hI : i < g.length := by omega
    have hGu := hG _ (List.getElem_mem hu)
    have hGi := hG _ (List.getElem_mem hI)
    have J : ∀ b : Bool, ∃ c' g', p_impl_Game_step_j2 u c g g[u] (p_impl_Game_step_l2 o1 (i : Int) f1) b = some ((n : Int), c', g') ∧ p_spec_l24Step_j1 u c g (p_spec_l24Step_l2 (i : Int) o2 f2) b = some ((n : Int), c', g') ∧ g'.length = n ∧ (∀ x ∈ g', gS x) ∧ 0 ≤ c' ∧ c' ≤ 2147483647 := fun b => by
      obtain ⟨c', g', e1, e2, e3, e4, e5⟩ := j2 (p_impl_Game_step_l2 o1 (i : Int) f1) (p_spec_l24Step_l2 (i : Int) o2 f2) hu (by omega) rfl hGu h1 h2 b
      have hl : g'.length = n := by
        rcases e5 with rfl | rfl
        · exact hg
        · rw [List.length_set]; exact hg
      have hGG : ∀ x ∈ g', gS x := by
        rcases e5 with rfl | rfl
        · exact hG
        · exact all_set hG (hit_good hGu)
      rw [e1, e2]
      exact L2 hi h4 o1 o2 ho1 ho2 k (u + 1) c' g' f1 f2 (by omega) hl hGG e3 e4 (by omega) (by omega)
    obtain ⟨a, b, c', d, e, f⟩ := hGu
    obtain ⟨a', b', c'', d', e', f'⟩ := hGi
    rw [Nat.succ_eq_add_one, Nat.succ_eq_add_one, p_impl_Game_step_l2, p_spec_l24Step_l2, if_pos (show (u : Int) < (o1.length : Int) by omega), if_pos (show (u : Int) < (o2.length : Int) by omega), idxN hu, Option.bind_some, Option.bind_some]
    by_cases c0 : (u : Int) = i
    · rw [if_pos c0, if_pos c0]; exact J true
    rw [if_neg c0, if_neg c0, idxN hI, Option.bind_some, Option.bind_some, wI (g[u].X - g[i].X) (by omega) (by omega), iAbs (by omega) (by omega), sAbs (by omega) (by omega), Option.bind_some, Option.bind_some]
    by_cases c1 : ab (g[u].X - g[i].X) > 1
    · rw [if_pos c1, if_pos c1]; exact J true
    rw [if_neg c1, if_neg c1, wI (g[u].Y - g[i].Y) (by omega) (by omega), iAbs (by omega) (by omega), sAbs (by omega) (by omega), Option.bind_some, Option.bind_some]
    exact J _
theorem L1 {inp : List Int} {al : List Bool} {n N : Nat} (h4 : n ≤ 4) (hN : n < N) (hi : inp.length = n) (ha : al.length = n) (g0 : List GSeat) (hg0 : g0.length = n) : ∀ (k u j : Nat) (c : Int) (g : List GSeat) (f : Nat), k + u = n → g.length = n → (∀ x ∈ g, gS x) → 0 ≤ c → c ≤ 2147483647 → k < f →
    ∃ c' g', p_impl_Game_step_l1 N (stk al inp k u) j c g = some (c', g') ∧ p_spec_l24Step_l1 N inp g0 al f u c g = some ((n : Int), c', g') ∧ g'.length = n ∧ (∀ x ∈ g', gS x) ∧ 0 ≤ c' ∧ c' ≤ 2147483647
  | 0, u, j, c, g, f, hk, hg, hG, h1, h2, hf => by
    obtain ⟨f, rfl⟩ := Nat.exists_eq_succ_of_ne_zero (show f ≠ 0 by omega)
    have hun : u = n := by omega
    subst hun
    refine ⟨c, g, rfl, ?_, hg, hG, h1, h2⟩
    rw [Nat.succ_eq_add_one, p_spec_l24Step_l1, if_neg (by omega)]
  | k + 1, u, j, c, g, f, hk, hg, hG, h1, h2, hf => by
    obtain ⟨f, rfl⟩ := Nat.exists_eq_succ_of_ne_zero (show f ≠ 0 by omega)
    have hA : u < al.length := by omega
    have hI : u < inp.length := by omega
    rw [Nat.succ_eq_add_one, p_spec_l24Step_l1, if_pos (show (u : Int) < (g0.length : Int) by omega), idxN hA, Option.bind_some]
    simp only [stk, List.getElem?_eq_getElem hA, List.getElem?_eq_getElem hI, Option.some.injEq]
    have rest := L1 h4 hN hi ha g0 hg0 k (u + 1) j c g f (by omega) hg hG h1 h2 (by omega)
    by_cases c0 : al[u] = true
    · rw [if_pos c0, idxN hI, Option.bind_some]
      by_cases c1 : inp[u] = 5
      · rw [if_pos ⟨c0, c1⟩, p_impl_Game_step_l1, p_spec_l24Step_j0, if_neg (by simp [c1]), wN (by omega)]
        obtain ⟨c', g', e1, e2, e3, e4, e5, e6⟩ := L2 (show u < n by omega) h4 g g hg hg n 0 c g N N (by omega) hg hG h1 h2 hN hN
        rw [show ((0 : Nat) : Int) = 0 from rfl] at e1 e2
        rw [e1, e2, Option.bind_some, Option.bind_some]
        exact L1 h4 hN hi ha g0 hg0 k (u + 1) (j + 1) c' g' f (by omega) e3 e4 e5 e6 (by omega)
      · rw [if_neg (by simp [c1]), p_spec_l24Step_j0, if_pos (by simp [c1]), wN (by omega)]; exact rest
    · rw [if_neg c0, if_neg (by simp [c0]), p_spec_l24Step_j0, if_pos rfl, wN (by omega)]; exact rest
/-- A good game. -/
structure gG (g : GGame) : Prop where
  f0 : 0 ≤ g.Frame
  f1 : g.Frame ≤ 60
  c0 : 0 ≤ g.Coin
  c1 : g.Coin ≤ 2147483647
  l0 : 1 ≤ g.Seats.length
  l1 : g.Seats.length ≤ 4
  s : ∀ x ∈ g.Seats, gS x
theorem step_eq {g : GGame} {inp : List Int} {N : Nat} (hg : gG g) (hf : g.Frame ≠ 60) (hi : inp.length = g.Seats.length) (hN : 4 < N) :
    ∃ r, p_impl_Game_step N g inp = some r ∧ p_spec_l24Step N g inp = some r ∧ gG r ∧ r.Seats.length = g.Seats.length ∧ r.Frame = g.Frame + 1 := by
  obtain ⟨f0, f1, c0, c1, l0, l1, hs⟩ := hg
  unfold p_impl_Game_step p_spec_l24Step p_impl_Game_clone p_slices_Clone_impl_Seat_impl_Seat p_spec_l24Own
  rw [if_pos (by omega), Option.bind_some, Option.bind_some, if_pos (by omega), Option.bind_some]
  have hm : mkl (g.Seats.length : Int) false = some (List.replicate g.Seats.length false) := by unfold mkl; rw [if_pos (by omega), Int.toNat_natCast]
  simp only []
  rw [hm, Option.bind_some]
  obtain ⟨out', al', e1, e2, e3, e4, e5, e6⟩ := L0 (v := ⟨g.Frame, g.Coin, g.Seats⟩) (inp := inp) (n := g.Seats.length) rfl l1 hi g.Seats.length 0 g.Seats [] (List.replicate g.Seats.length false) N N (by omega) rfl (by simp) hs (by simp) (by omega) (by omega)
  rw [show ((0 : Nat) : Int) = 0 from rfl] at e1 e2
  rw [e1, e2, Option.bind_some, Option.bind_some]
  simp only [List.nil_append]
  obtain ⟨c', g', k1, k2, k3, k4, k5, k6⟩ := L1 l1 (by omega : g.Seats.length < N) hi e4 out' e3 g.Seats.length 0 0 g.Coin out' N (by omega) e3 e5 c0 c1 (by omega)
  rw [show ((0 : Nat) : Int) = 0 from rfl] at k2
  rw [k1, k2, Option.bind_some, Option.bind_some, wI _ (by omega) (by omega)]
  exact ⟨⟨g.Frame + 1, c', g'⟩, rfl, rfl, ⟨by simp only; omega, by simp only; omega, k5, k6, by simp only; omega, by simp only; omega, k4⟩, k3, rfl⟩
theorem goodL : ∀ (l : List GSeat) (i j : Nat), (p_spec_GoodGame_l0 l i = some (.out ()) ∧ p_slices_IndexFunc_impl_Seat_impl_Seat_l0 (fun x0_ => p_impl_GoodGame_1 x0_) l j = some (.out ()) ∧ ∀ x ∈ l, gS x) ∨ (p_spec_GoodGame_l0 l i = some (.ret false) ∧ ∃ m : Nat, p_slices_IndexFunc_impl_Seat_impl_Seat_l0 (fun x0_ => p_impl_GoodGame_1 x0_) l j = some (.ret (m : Int)))
  | [], i, j => .inl ⟨rfl, rfl, by simp⟩
  | x :: r, i, j => by
    have no : p_impl_GoodGame_1 x = some true → p_slices_IndexFunc_impl_Seat_impl_Seat_l0 (fun x0_ => p_impl_GoodGame_1 x0_) (x :: r) j = some (.ret (j : Int)) := fun h => by
      rw [p_slices_IndexFunc_impl_Seat_impl_Seat_l0]; simp only [h, Option.bind_some, if_true]
    rw [p_spec_GoodGame_l0]
    by_cases a : rng x.X 0 63 = true
    · by_cases b : rng x.Y 0 63 = true
      · by_cases c : rng x.Hp 0 9 = true
        · rw [if_pos a, if_pos b, if_pos c, p_slices_IndexFunc_impl_Seat_impl_Seat_l0]
          have e : p_impl_GoodGame_1 x = some false := by unfold p_impl_GoodGame_1; rw [if_pos a, if_pos b, c]; rfl
          simp only [e, Option.bind_some, Bool.false_eq_true, if_false]
          rw [rng_t] at a b c
          rcases goodL r (i + 1) (j + 1) with ⟨h1, h2, h3⟩ | ⟨h1, m, h2⟩
          · refine .inl ⟨h1, h2, fun y hy => ?_⟩
            rcases List.mem_cons.1 hy with rfl | hy
            · exact ⟨a.1, a.2, b.1, b.2, c.1, c.2⟩
            · exact h3 y hy
          · exact .inr ⟨h1, m, h2⟩
        · rw [if_pos a, if_pos b, if_neg c]
          exact .inr ⟨rfl, j, no (by unfold p_impl_GoodGame_1; rw [if_pos a, if_pos b]; simp [c])⟩
      · rw [if_pos a, if_neg b]
        exact .inr ⟨rfl, j, no (by unfold p_impl_GoodGame_1; rw [if_pos a, if_neg b])⟩
    · rw [if_neg a]
      exact .inr ⟨rfl, j, no (by unfold p_impl_GoodGame_1; rw [if_neg a])⟩
theorem good_eq (g : GGame) : ∃ b, p_spec_GoodGame g = some b ∧ p_impl_GoodGame g = some b ∧ (b = true → gG g) := by
  unfold p_spec_GoodGame p_impl_GoodGame p_spec_l1Seed p_impl_isSeed p_spec_GoodGame_j0
  by_cases a : rng g.Frame 0 60 = true
  · rw [if_pos a, if_pos a, Option.bind_some, Option.bind_some]
    by_cases b : rng g.Coin 0 2147483647 = true
    · rw [if_pos b, if_pos b]
      rw [rng_t] at a b
      by_cases c1 : (g.Seats.length : Int) < 1
      · rw [if_pos c1, if_pos rfl, if_neg (show ¬ rng (g.Seats.length : Int) 1 4 = true by rw [rng_t]; omega)]; exact ⟨false, rfl, rfl, by simp⟩
      rw [if_neg c1]
      by_cases c2 : (g.Seats.length : Int) > 4
      · rw [if_pos (by simp only [c2, decide_true]), if_neg (show ¬ rng (g.Seats.length : Int) 1 4 = true by rw [rng_t]; omega)]; exact ⟨false, rfl, rfl, by simp⟩
      rw [if_neg (by simp [c2]), if_pos (show rng (g.Seats.length : Int) 1 4 = true by rw [rng_t]; omega)]
      unfold p_slices_ContainsFunc_impl_Seat_impl_Seat p_slices_IndexFunc_impl_Seat_impl_Seat
      rcases goodL g.Seats 0 0 with ⟨h1, h2, h3⟩ | ⟨h1, m, h2⟩
      · rw [h1, h2]
        exact ⟨true, rfl, rfl, fun _ => ⟨a.1, a.2, b.1, b.2, by omega, by omega, h3⟩⟩
      · rw [h1, h2]
        refine ⟨false, rfl, ?_, by simp⟩
        simp
    · rw [if_neg b, if_neg b, if_pos rfl]; exact ⟨false, rfl, rfl, by simp⟩
  · rw [if_neg a, if_neg a, if_pos rfl]; exact ⟨false, rfl, rfl, by simp⟩
theorem inpL : ∀ (l : List Int) (i j : Nat), (p_spec_l24Inputs_l0 l i = some (.out ()) ∧ p_slices_IndexFunc_int_int_l0 (fun x0_ => p_impl_areInputs_1 x0_) l j = some (.out ())) ∨ (p_spec_l24Inputs_l0 l i = some (.ret false) ∧ ∃ m : Nat, p_slices_IndexFunc_int_int_l0 (fun x0_ => p_impl_areInputs_1 x0_) l j = some (.ret (m : Int)))
  | [], i, j => .inl ⟨rfl, rfl⟩
  | x :: r, i, j => by
    rw [p_spec_l24Inputs_l0, p_slices_IndexFunc_int_int_l0]
    by_cases a : rng x 0 5 = true
    · rw [if_pos a]
      simp only [p_impl_areInputs_1, a, Option.bind_some, Bool.not_true, Bool.false_eq_true, if_false]
      exact inpL r (i + 1) (j + 1)
    · rw [if_neg a]
      have a' : rng x 0 5 = false := by simpa using a
      refine .inr ⟨rfl, j, ?_⟩
      simp only [p_impl_areInputs_1, a', Option.bind_some, Bool.not_false, if_true]
theorem inp_eq (l : List Int) (s : Int) : ∃ b, p_spec_l24Inputs l s = some b ∧ p_impl_areInputs l s = some b ∧ (b = true → (l.length : Int) = s) := by
  unfold p_spec_l24Inputs p_impl_areInputs
  by_cases a : (l.length : Int) = s
  · rw [if_pos a, if_pos a]
    unfold p_slices_ContainsFunc_int_int p_slices_IndexFunc_int_int
    rcases inpL l 0 0 with ⟨h1, h2⟩ | ⟨h1, m, h2⟩
    · rw [h1, h2]; exact ⟨true, rfl, rfl, fun _ => a⟩
    · rw [h1, h2]
      refine ⟨false, rfl, ?_, by simp⟩
      simp
  · rw [if_neg a, if_neg a]; exact ⟨false, rfl, rfl, by simp⟩
def g0 : GGame := ⟨0, 0, []⟩
theorem stepGame_eq (N : Nat) (hN : 4 < N) (g : GGame) (inp : List Int) : ∃ r b, p_impl_StepGame N g inp = some (r, b) ∧ p_spec_StepGame N g inp = some (r, b) ∧ (b = true → gG r) ∧ r.Seats.length ≤ 4 := by
  unfold p_impl_StepGame p_spec_StepGame
  obtain ⟨b, e1, e2, e3⟩ := good_eq g
  have j1 : p_impl_StepGame_j0 N g inp true = some (g0, false) := rfl
  have j2 : p_spec_StepGame_j0 N g inp true = some (g0, false) := rfl
  have no : ∃ r b, some (g0, false) = some (r, b) ∧ some (g0, false) = some (r, b) ∧ (b = true → gG r) ∧ r.Seats.length ≤ 4 := ⟨g0, false, rfl, rfl, by simp, by simp [g0]⟩
  rw [e1, e2, Option.bind_some, Option.bind_some]
  by_cases hb : b = true
  · rw [if_pos hb, if_pos hb]
    have hg := e3 hb
    by_cases hf : g.Frame = 60
    · rw [if_pos hf, if_pos hf, j1, j2]; exact no
    rw [if_neg hf, if_neg hf]
    obtain ⟨b', k1, k2, k3⟩ := inp_eq inp (g.Seats.length : Int)
    rw [k1, k2, Option.bind_some, Option.bind_some]
    cases b' with
    | false => rw [show (!false) = true from rfl, j1, j2]; exact no
    | true =>
      obtain ⟨r, h1, h2, h3, h4, h5⟩ := step_eq (N := N) (inp := inp) hg hf (by have := k3 rfl; omega) hN
      unfold p_impl_StepGame_j0 p_spec_StepGame_j0
      rw [if_neg (by simp), if_neg (by simp), h1, h2]
      exact ⟨r, true, rfl, rfl, fun _ => h3, h3.l1⟩
  · rw [if_neg hb, if_neg hb, j1, j2]; exact no
theorem start_l0 (s : Int) : ∀ (f : Nat) (i : Int) (g : List GSeat), p_impl_StartGame_l0 s f i g = p_spec_StartGame_l0 s f i g
  | 0, i, g => rfl
  | f + 1, i, g => by
    rw [p_impl_StartGame_l0, p_spec_StartGame_l0]
    simp only [start_l0 s f]
theorem start_L (s : Nat) (hs : s ≤ 4) : ∀ (k i : Nat) (g : List GSeat) (f : Nat), k + i = s → g.length = i → (∀ x ∈ g, gS x) → k < f → ∃ g', p_spec_StartGame_l0 (s : Int) f (i : Int) g = some ((s : Int), g') ∧ g'.length = s ∧ ∀ x ∈ g', gS x
  | 0, i, g, f, hk, hg, hG, hf => by
    obtain ⟨f, rfl⟩ := Nat.exists_eq_succ_of_ne_zero (show f ≠ 0 by omega)
    have : i = s := by omega
    subst this
    rw [Nat.succ_eq_add_one, p_spec_StartGame_l0, if_neg (by omega)]; exact ⟨g, rfl, hg, hG⟩
  | k + 1, i, g, f, hk, hg, hG, hf => by
    obtain ⟨f, rfl⟩ := Nat.exists_eq_succ_of_ne_zero (show f ≠ 0 by omega)
    rw [Nat.succ_eq_add_one, p_spec_StartGame_l0, if_pos (by omega), if_pos (by omega), wN (by omega), wI _ (by omega) (by omega)]
    refine start_L s hs k (i + 1) _ f (by omega) (by simp; omega) (fun x hx => ?_) (by omega)
    rcases List.mem_append.1 hx with hx | hx
    · exact hG x hx
    · rw [List.mem_singleton] at hx; subst hx
      exact ⟨by simp only; omega, by simp only; omega, by simp only; omega, by simp only; omega, by simp only; omega, by simp only; omega⟩
theorem start_eq (N : Nat) (hN : 4 < N) (s c : Int) : ∃ r b, p_impl_StartGame N s c = some (r, b) ∧ p_spec_StartGame N s c = some (r, b) ∧ (b = true → gG r) ∧ r.Seats.length ≤ 4 := by
  unfold p_impl_StartGame p_spec_StartGame p_impl_isSeed p_spec_l1Seed
  have j1 : p_impl_StartGame_j0 N s c true = some (g0, false) := rfl
  have j2 : p_spec_StartGame_j0 N s c true = some (g0, false) := rfl
  have no : ∃ r b, some (g0, false) = some (r, b) ∧ some (g0, false) = some (r, b) ∧ (b = true → gG r) ∧ r.Seats.length ≤ 4 := ⟨g0, false, rfl, rfl, by simp, by simp [g0]⟩
  by_cases a : rng s 1 4 = true
  · rw [if_pos a, if_pos a, Option.bind_some, Option.bind_some]
    rw [rng_t] at a
    by_cases b : rng c 0 2147483647 = true
    · rw [b]
      rw [rng_t] at b
      unfold p_impl_StartGame_j0 p_spec_StartGame_j0
      rw [if_neg (by simp), if_neg (by simp), start_l0]
      obtain ⟨n, rfl⟩ := Int.eq_ofNat_of_zero_le (show 0 ≤ s by omega)
      obtain ⟨g', e1, e2, e3⟩ := start_L n (by omega) n 0 [] N (by omega) rfl (by simp) (by omega)
      rw [show ((0 : Nat) : Int) = 0 from rfl] at e1
      rw [e1]
      exact ⟨⟨0, c, g'⟩, true, rfl, rfl, fun _ => ⟨by simp only; omega, by simp only; omega, b.1, b.2, by simp only; omega, by simp only; omega, e3⟩, by simp only; omega⟩
    · rw [show rng c 0 2147483647 = false by simpa using b, show (!false) = true from rfl, j1, j2]; exact no
  · rw [if_neg a, if_neg a, j1, j2]; exact no
/-- What a game's sum is. -/
def s1 (n x : Int) : Int := Int.tmod (IntKind.i64.wrap ((IntKind.i64.wrap (31 * n)) + x)) 1000003
def sums : List GSeat → Int → Int
  | [], n => n
  | x :: r, n => sums r (s1 (s1 (s1 n x.X) x.Y) x.Hp)
def gsum (g : GGame) : Int := sums g.Seats (s1 (s1 7 g.Frame) g.Coin)
theorem sum_s : ∀ (l : List GSeat) (i : Nat) (n : Int), p_spec_GameSum_l0 l i n = some (sums l n)
  | [], i, n => rfl
  | x :: r, i, n => by rw [p_spec_GameSum_l0]; exact sum_s r (i + 1) _
theorem w217 : IntKind.i64.wrap (31 * 7) = 217 := wI (31 * 7) (by omega) (by omega)
theorem gsum_s (g : GGame) : ∃ n b, p_spec_GameSum g = some (n, b) ∧ (gG g → n = gsum g) := by
  unfold p_spec_GameSum
  obtain ⟨b, e1, e2, e3⟩ := good_eq g
  rw [e1, Option.bind_some]
  by_cases hb : b = true
  · rw [if_pos hb, sum_s]
    refine ⟨_, _, rfl, fun _ => ?_⟩
    unfold gsum s1
    rw [w217]
  · rw [if_neg hb]
    refine ⟨_, _, rfl, fun hg => ?_⟩
    exfalso
    apply hb
    obtain ⟨f0, f1, c0, c1, l0, l1, hs⟩ := hg
    unfold p_spec_GoodGame p_spec_l1Seed p_spec_GoodGame_j0 at e1
    rw [if_pos (rng_t.2 ⟨f0, f1⟩), Option.bind_some, if_pos (rng_t.2 ⟨c0, c1⟩), if_neg (by omega), if_neg (by simp; omega)] at e1
    have hl : ∀ (l : List GSeat) (i : Nat), (∀ x ∈ l, gS x) → p_spec_GoodGame_l0 l i = some (.out ()) := by
      intro l
      induction l with
      | nil => intro i h; rfl
      | cons x r ih =>
        intro i h
        have hx := h x (by simp)
        rw [p_spec_GoodGame_l0, if_pos (rng_t.2 ⟨hx.x0, hx.x1⟩), if_pos (rng_t.2 ⟨hx.y0, hx.y1⟩), if_pos (rng_t.2 ⟨hx.h0, hx.h1⟩)]
        exact ih _ (fun y hy => h y (by simp [hy]))
    rw [hl _ 0 hs] at e1
    simpa using e1.symm
theorem sumUp_s : ∀ (l : List GSeat) (i j : Nat) (a : List Int) (n : Int), a.length + 3 * l.length < 4294967296 → ∃ L, p_impl_Game_sum_l0 l i a = some L ∧ ∀ z, p_impl_sumUp_l0 L j z = p_impl_sumUp_l0 (a ++ l.flatMap fun x => [x.X, x.Y, x.Hp]) j z
  | [], i, j, a, n, h => ⟨a, rfl, by simp⟩
  | x :: r, i, j, a, n, h => by
    rw [p_impl_Game_sum_l0, if_pos (by omega)]
    obtain ⟨L, e1, e2⟩ := sumUp_s r (i + 1) j (a ++ [x.X, x.Y, x.Hp]) n (by simp at h ⊢; omega)
    exact ⟨L, e1, fun z => by rw [e2]; simp⟩
theorem sumUp_f : ∀ (l : List GSeat) (i : Nat) (z : Int), p_impl_sumUp_l0 (l.flatMap fun x => [x.X, x.Y, x.Hp]) i z = some (sums l z)
  | [], i, z => rfl
  | x :: r, i, z => by
    simp only [List.flatMap_cons, List.cons_append, List.nil_append]
    rw [p_impl_sumUp_l0, p_impl_sumUp_l0, p_impl_sumUp_l0]
    exact sumUp_f r _ _
theorem gsum_i {g : GGame} (h : g.Seats.length ≤ 4) : p_impl_Game_sum g = some (gsum g) := by
  unfold p_impl_Game_sum p_impl_sumUp
  obtain ⟨L, e1, e2⟩ := sumUp_s g.Seats 0 0 [g.Frame, g.Coin] 0 (by simp; omega)
  rw [e1]
  simp only [Option.bind_some]
  rw [e2]
  simp only [List.cons_append, List.nil_append]
  rw [p_impl_sumUp_l0, p_impl_sumUp_l0, sumUp_f]; rfl
theorem play_L (N : Nat) (hN : 4 < N) : ∀ (l : List (List Int)) (i : Nat) (ok : Bool) (F C : Int) (S : List GSeat) (gs : List GGame), gs.length + l.length < 4294967296 → (ok = true → gG ⟨F, C, S⟩) → S.length ≤ 4 →
    ∃ ok' F' C' S' gs', p_impl_play_l0 N l i ok F C S gs = some (ok', F', C', S', gs ++ gs') ∧ (ok' = true → gG ⟨F', C', S'⟩ ∧ ok = true) ∧ S'.length ≤ 4 ∧ gs'.length ≤ l.length ∧ (ok' = true → ∀ g ∈ gs', gG g) ∧
      ∀ out : List Int, out.length + l.length < 4294967296 → ∃ out', p_spec_SumsOf_l0 N l i ok F C S out = some (ok', F', C', S', out ++ out') ∧ out'.length ≤ l.length ∧ (ok' = true → out' = gs'.map gsum)
  | [], i, ok, F, C, S, gs, hl, hg, hS => ⟨ok, F, C, S, [], by simp [p_impl_play_l0], fun h => ⟨hg h, h⟩, hS, by simp, by simp, fun out _ => ⟨[], by simp [p_spec_SumsOf_l0], by simp, by simp⟩⟩
  | x :: r, i, ok, F, C, S, gs, hl, hg, hS => by
    simp only [List.length_cons] at hl
    rw [p_impl_play_l0]
    by_cases hok : ok = true
    · rw [if_pos hok]
      obtain ⟨g', b, e1, e2, e3, e4⟩ := stepGame_eq N hN ⟨F, C, S⟩ x
      rw [e1, Option.bind_some, if_pos (by omega)]
      obtain ⟨ok', F', C', S', gs', k1, k3, k4, k5, k6, k7⟩ := play_L N hN r (i + 1) b g'.Frame g'.Coin g'.Seats (gs ++ [g']) (by simp; omega) e3 e4
      refine ⟨ok', F', C', S', g' :: gs', by rw [k1]; simp, fun h => ⟨(k3 h).1, hok⟩, k4, by simp; omega, fun h g hg => ?_, fun out ho => ?_⟩
      · rcases List.mem_cons.1 hg with rfl | hg
        · exact e3 (k3 h).2
        · exact k6 h g hg
      · rw [p_spec_SumsOf_l0, if_pos hok, e2, Option.bind_some, p_spec_SumsOf_j0]
        obtain ⟨n, b', q1, q2⟩ := gsum_s ⟨g'.Frame, g'.Coin, g'.Seats⟩
        simp only [List.length_cons] at ho
        rw [q1, Option.bind_some, if_pos (by omega)]
        obtain ⟨out', z1, z2, z3⟩ := k7 (out ++ [n]) (by simp; omega)
        refine ⟨n :: out', by rw [z1]; simp, by simp; omega, fun h => ?_⟩
        rw [z3 h, q2 (e3 (k3 h).2)]; rfl
    · rw [if_neg hok]
      obtain ⟨ok', F', C', S', gs', k1, k3, k4, k5, k6, k7⟩ := play_L N hN r (i + 1) ok F C S gs (by omega) hg hS
      refine ⟨ok', F', C', S', gs', k1, fun h => absurd (k3 h).2 hok, k4, by simp; omega, fun h => absurd (k3 h).2 hok, fun out ho => ?_⟩
      simp only [List.length_cons] at ho
      rw [p_spec_SumsOf_l0, if_neg hok, p_spec_SumsOf_j0]
      obtain ⟨n, b', q1, q2⟩ := gsum_s ⟨F, C, S⟩
      rw [q1, Option.bind_some, if_pos (by omega)]
      obtain ⟨out', z1, z2, z3⟩ := k7 (out ++ [n]) (by simp; omega)
      exact ⟨n :: out', by rw [z1]; simp, by simp; omega, fun h => absurd (k3 h).2 hok⟩
theorem sums_i : ∀ (gs : List GGame) (i : Nat) (out : List Int), out.length + gs.length < 4294967296 → (∀ g ∈ gs, gG g) → p_impl_SumsOf_l0 gs i out = some (out ++ gs.map gsum)
  | [], i, out, _, _ => by simp [p_impl_SumsOf_l0]
  | x :: r, i, out, h, hg => by
    simp only [List.length_cons] at h
    rw [p_impl_SumsOf_l0, gsum_i (hg x (by simp)).l1, Option.bind_some, if_pos (by omega), sums_i r _ _ (by simp; omega) (fun g h => hg g (by simp [h]))]
    simp
theorem sumsOf_eq (N : Nat) (hN : 4 < N) (s c : Int) (l : List (List Int)) (hl : l.length ≤ 1048576) : ∃ r b, p_impl_SumsOf N s c l = some (r, b) ∧ p_spec_SumsOf N s c l = some (r, b) ∧ r.length ≤ 1048576 := by
  unfold p_impl_SumsOf p_spec_SumsOf p_impl_play
  obtain ⟨g, b, e1, e2, e3, e4⟩ := start_eq N hN s c
  rw [e1, e2, Option.bind_some, Option.bind_some]
  obtain ⟨ok', F', C', S', gs', k1, k3, k4, k5, k6, k7⟩ := play_L N hN l 0 b g.Frame g.Coin g.Seats [] (by simp; omega) e3 e4
  obtain ⟨out', z1, z2, z3⟩ := k7 [] (by simp; omega)
  simp only [k1, z1, Option.bind_some, List.nil_append]
  by_cases h : ok' = true
  · rw [if_pos h, if_pos h, sums_i gs' 0 [] (by simp; omega) (k6 h), z3 h]; exact ⟨gs'.map gsum, true, rfl, rfl, by simp; omega⟩
  · rw [if_neg h, if_neg h]; exact ⟨[], false, rfl, rfl, by simp⟩
end Go.Av
