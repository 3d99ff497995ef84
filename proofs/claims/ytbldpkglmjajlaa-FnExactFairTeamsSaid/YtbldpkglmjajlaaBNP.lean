/- NextMatch: the program's and the reference's answers alike. -/
import Derived.Test.YtbldpkglmjajlaaBNB2
set_option linter.unusedSimpArgs false
set_option linter.unusedVariables false
set_option maxRecDepth 100000
namespace Go.Av
/-! NextMatch: the program's and the reference's answers alike. -/
def okP (p : GPlayer) : Prop := 0 ≤ p.Rating ∧ p.Rating ≤ 4000 ∧ 0 ≤ p.Since ∧ p.Since ≤ 100000
theorem rng_ok {n a b : Int} (h : rng n a b = true) : a ≤ n ∧ n ≤ b := by simpa [rng] using h
theorem isPlayer_some (p : GPlayer) (h : p.Name.size ≤ 9223372036854775807) : ∃ b, p_impl_isPlayer p = some b ∧ (b = true → okP p) := by
  unfold p_impl_isPlayer
  rw [if_pos h]
  by_cases c1 : goodName p.Name = true
  · rw [if_pos c1]
    by_cases c2 : rng p.Rating 0 4000 = true
    · rw [if_pos c2]
      exact ⟨_, rfl, fun hb => ⟨(rng_ok c2).1, (rng_ok c2).2, (rng_ok hb).1, (rng_ok hb).2⟩⟩
    · rw [if_neg c2]; exact ⟨_, rfl, fun hb => by cases hb⟩
  · rw [if_neg c1]; exact ⟨_, rfl, fun hb => by cases hb⟩
theorem gp_eq (l : List GPlayer) : ∀ (r : List GPlayer) (i : Nat), p_spec_GoodPlayers_l0 l r i = p_impl_GoodPlayers_l0 l r i
  | [], i => rfl
  | x :: r, i => by
    unfold p_spec_GoodPlayers_l0 p_impl_GoodPlayers_l0
    rw [gp_eq l r (i + 1)]
    rfl
theorem gp_tot (l : List GPlayer) (hl : l.length ≤ 1048576) (hn : ∀ p ∈ l, p.Name.size ≤ 9223372036854775807) : ∀ (r : List GPlayer) (i : Nat), l.drop i = r → ∃ b : Bool, p_impl_GoodPlayers_l0 l r i = some (if b = true then .out () else .ret false) ∧ (b = true → ∀ p ∈ r, okP p)
  | [], i, _ => ⟨true, rfl, fun _ p hp => by simp at hp⟩
  | x :: r, i, hd => by
    have hi : i < l.length := by
      rcases Nat.lt_or_ge i l.length with h | h
      · exact h
      · rw [List.drop_eq_nil_of_le h] at hd; cases hd
    have hx : x ∈ l := List.mem_of_mem_drop (hd ▸ List.mem_cons_self)
    have hd' : l.drop (i + 1) = r := by rw [← List.drop_drop, hd]; rfl
    obtain ⟨b, e, hb⟩ := isPlayer_some x (hn x hx)
    obtain ⟨b2, e2, hb2⟩ := gp_tot l hl hn r (i + 1) hd'
    unfold p_impl_GoodPlayers_l0
    rw [e, e2, Option.bind_some]
    by_cases c : b = true
    · rw [if_pos c]
      have fin : ∀ p ∈ x :: r, b2 = true → okP p := fun p hp h => by
        rcases List.mem_cons.1 hp with rfl | hp
        · exact hb c
        · exact hb2 h p hp
      by_cases c2 : (i : Int) > 0
      · rw [if_pos c2, wI _ (by omega) (by omega)]
        have hix : idx l ((i : Int) - 1) = some l[i - 1] := by
          have : (i : Int) - 1 = ((i - 1 : Nat) : Int) := by omega
          rw [this]
          simp [idx, List.getElem?_eq_getElem (show i - 1 < l.length by omega)]
        rw [hix, Option.bind_some]
        split
        · exact ⟨b2, rfl, fun h p hp => fin p hp h⟩
        · exact ⟨false, rfl, fun h => by cases h⟩
      · rw [if_neg c2]; exact ⟨b2, rfl, fun h p hp => fin p hp h⟩
    · rw [if_neg c]; exact ⟨false, rfl, fun h => by cases h⟩
theorem good_eq (l : List GPlayer) (hl : l.length ≤ 1048576) (hn : ∀ p ∈ l, p.Name.size ≤ 9223372036854775807) : ∃ b : Bool, p_spec_GoodPlayers l = some b ∧ p_impl_GoodPlayers l = some b ∧ (b = true → l.length ≤ 12 ∧ ∀ p ∈ l, okP p) := by
  obtain ⟨b, e, hb⟩ := gp_tot l hl hn l 0 rfl
  unfold p_spec_GoodPlayers p_impl_GoodPlayers
  rw [gp_eq, e, Option.bind_some, Option.bind_some]
  by_cases c : (l.length : Int) > 12
  · rw [if_pos c]
    refine ⟨false, rfl, ?_, fun h => by cases h⟩
    cases b
    · rfl
    · show some (decide ((l.length : Int) ≤ 12)) = some false
      rw [decide_eq_false (by omega)]
  · rw [if_neg c]
    cases b
    · exact ⟨false, rfl, rfl, fun h => by cases h⟩
    · refine ⟨true, rfl, ?_, fun _ => ⟨by omega, hb rfl⟩⟩
      show some (decide ((l.length : Int) ≤ 12)) = some true
      rw [decide_eq_true (by omega)]
theorem abs_eq {n : Int} (h1 : -4000 ≤ n) (h2 : n ≤ 4000) : ∃ d, p_spec_l1Abs n = some d ∧ p_impl_size n = some d := by
  unfold p_spec_l1Abs p_impl_size
  rw [wI _ (by omega) (by omega)]
  by_cases c : n < 0
  · rw [if_pos c, if_pos (by omega)]; exact ⟨_, rfl, rfl⟩
  · rw [if_neg c]
    by_cases c2 : 0 - n > n
    · exact absurd c2 (by omega)
    · rw [if_neg c2]; exact ⟨_, rfl, rfl⟩
theorem wide_eq (p : GPlayer) (now : Int) : ∃ d, p_spec_l25Wide p now = some d ∧ p_impl_Player_wide p now = some d := by
  unfold p_spec_l25Wide p_impl_Player_wide
  by_cases c : (IntKind.i64.wrap (50 + (IntKind.i64.wrap (Int.tdiv (IntKind.i64.wrap (now - p.Since)) 10)))) > 1000
  · rw [if_pos c, if_pos c]; exact ⟨_, rfl, rfl⟩
  · rw [if_neg c, if_neg c]; exact ⟨_, rfl, rfl⟩
theorem cmp_eq (a b : Int) : p_cmp_Compare_int a b = some (if a < b then -1 else if a > b then 1 else 0) := by
  unfold p_cmp_Compare_int p_cmp_isNaN_int
  simp only [beq_self_eq_true, Bool.not_true, Option.bind_some, Bool.false_eq_true, if_false]
  split
  · rfl
  · split <;> rfl
theorem or_eq (u v : Int) : p_cmp_Or_int [u, v] = some (if u = 0 then v else u) := by
  unfold p_cmp_Or_int
  simp only [p_cmp_Or_int_l0]
  by_cases c : u = 0
  · rw [if_pos c, if_pos c]
    by_cases c2 : v = 0
    · rw [if_pos c2, c2]; rfl
    · rw [if_neg c2]; rfl
  · rw [if_neg c, if_neg c]; rfl
/-- What has been found: names of players, none or two. -/
def okO (l : List GPlayer) (o : List ByteArray) : Prop := o.length ≤ 2 ∧ ∀ s ∈ o, ∃ p ∈ l, s = p.Name
theorem l2_eq {l : List GPlayer} {now : Int} {x : GPlayer} (hx : x ∈ l) (hox : okP x) : ∀ (r : List GPlayer) (i : Nat) (since least : Int) (out : List ByteArray), (∀ p ∈ r, p ∈ l ∧ okP p) → okO l out →
    ∃ s' l' o', p_spec_NextMatch_l2 now x r i since least out = some (s', l', o') ∧ p_impl_NextMatch_l1 now x r i since least out = some (s', l', o') ∧ okO l o'
  | [], i, since, least, out, _, ho => ⟨_, _, _, rfl, rfl, ho⟩
  | y :: r, i, since, least, out, hr, ho => by
    obtain ⟨hy, hoy⟩ := hr y (by simp)
    have ih := fun i since least out ho => l2_eq (now := now) hx hox r i since least out (fun p hp => hr p (by simp [hp])) ho
    have hon : okO l [x.Name, y.Name] := ⟨by simp, fun s hs => by
      simp only [List.mem_cons, List.not_mem_nil, or_false] at hs
      rcases hs with rfl | rfl
      · exact ⟨x, hx, rfl⟩
      · exact ⟨y, hy, rfl⟩⟩
    obtain ⟨a1, a2, a3, a4⟩ := hox
    obtain ⟨b1, b2, b3, b4⟩ := hoy
    unfold p_spec_NextMatch_l2 p_impl_NextMatch_l1
    rw [wI (x.Rating - y.Rating) (by omega) (by omega)]
    obtain ⟨d, e1, e2⟩ := abs_eq (n := x.Rating - y.Rating) (by omega) (by omega)
    obtain ⟨u, f1, f2⟩ := wide_eq x now
    obtain ⟨v, g1, g2⟩ := wide_eq y now
    rw [e1, e2, f1, f2, g1, g2]
    simp only [Option.bind_some, cmp_eq, or_eq]
    unfold p_spec_NextMatch_j1 p_spec_NextMatch_j2 p_impl_NextMatch_j1
    by_cases c1 : d > u
    · rw [if_pos c1, if_pos rfl, if_pos (by split <;> omega)]
      exact ih _ _ _ _ ho
    rw [if_neg c1]
    by_cases c2 : d > v
    · rw [if_pos (decide_eq_true c2), if_pos (by split <;> omega)]
      exact ih _ _ _ _ ho
    have m1 : ¬ d > (if v < u then v else u) := by split <;> omega
    rw [if_neg (by simpa using c2), if_neg m1]
    by_cases c3 : out.length = 0
    · rw [if_pos (show (out.length : Int) = 0 by omega), if_pos rfl, if_pos c3, if_pos rfl]
      exact ih _ _ _ _ hon
    rw [if_neg (show ¬ (out.length : Int) = 0 by omega), if_neg c3]
    generalize IntKind.i64.wrap (x.Since + y.Since) = s
    by_cases c4 : s < since
    · rw [if_pos c4, if_pos rfl]
      simp only [if_pos c4]
      rw [if_pos (by simp)]
      exact ih _ _ _ _ hon
    rw [if_neg c4]
    simp only [if_neg c4]
    by_cases c5 : s = since
    · rw [if_pos c5]
      have c6 : ¬ s > since := by omega
      simp only [if_neg c6, if_true]
      by_cases c7 : d < least
      · simp only [if_pos c7]
        rw [if_pos (by simpa using c7), if_pos (by decide)]
        exact ih _ _ _ _ hon
      · rw [if_neg (by simpa using c7), if_neg]
        · exact ih _ _ _ _ ho
        · simp only [if_neg c7]
          split <;> simp
    · rw [if_neg c5]
      have c6 : s > since := by omega
      simp only [if_pos c6]
      rw [if_neg (by decide), if_neg (by simp)]
      exact ih _ _ _ _ ho
theorem l1_eq {l : List GPlayer} {now : Int} (hl : l.length ≤ 1048576) (ho : ∀ p ∈ l, okP p) : ∀ (r : List GPlayer) (i : Nat) (since least : Int) (out : List ByteArray), l.drop i = r → okO l out →
    ∃ s' l' o', p_spec_NextMatch_l1 l now r i since least out = some (s', l', o') ∧ p_impl_NextMatch_l0 l now r i since least out = some (s', l', o') ∧ okO l o'
  | [], i, since, least, out, _, ho => ⟨_, _, _, rfl, rfl, ho⟩
  | x :: r, i, since, least, out, hd, hout => by
    have hi : i < l.length := by
      rcases Nat.lt_or_ge i l.length with h | h
      · exact h
      · rw [List.drop_eq_nil_of_le h] at hd; cases hd
    have hx : x ∈ l := List.mem_of_mem_drop (hd ▸ List.mem_cons_self)
    have hd' : l.drop (i + 1) = r := by rw [← List.drop_drop, hd]; rfl
    have hs : slc l ((i + 1 : Nat) : Int) (l.length : Int) = some r := by
      unfold slc; rw [if_pos (by omega)]
      simp only [Int.toNat_natCast, hd']
      rw [List.take_of_length_le (by rw [← hd']; simp)]
    have hm : ∀ p ∈ r, p ∈ l ∧ okP p := fun p hp => by
      have : p ∈ l := List.mem_of_mem_drop (hd' ▸ hp)
      exact ⟨this, ho p this⟩
    obtain ⟨s1, l1, o1, e1, e2, h1⟩ := l2_eq (now := now) hx (ho x hx) r 0 since least out hm hout
    obtain ⟨s2, l2, o2, e3, e4, h2⟩ := l1_eq hl ho r (i + 1) s1 l1 o1 hd' h1
    unfold p_spec_NextMatch_l1 p_impl_NextMatch_l0
    simp only [hs, Option.bind_some, e1, e2]
    exact ⟨_, _, _, e3, e4, h2⟩
theorem sl0_eq (now : Int) : ∀ (r : List GPlayer) (i : Nat), p_spec_NextMatch_l0 now r i = some (if r.any (fun p => decide (p.Since > now)) = true then .ret ([], false) else .out ())
  | [], i => rfl
  | x :: r, i => by
    unfold p_spec_NextMatch_l0
    by_cases c : x.Since > now
    · rw [if_pos c]; simp [c]
    · rw [if_neg c, sl0_eq now r (i + 1)]; simp [c]
theorem il0_eq (now : Int) : ∀ (r : List GPlayer) (i : Nat), ∃ k : Nat, p_slices_IndexFunc_impl_Player_impl_Player_l0 (fun x0_ => p_impl_NextMatch_1 x0_ now) r i = some (if r.any (fun p => decide (p.Since > now)) = true then .ret (k : Int) else .out ())
  | [], i => ⟨0, rfl⟩
  | x :: r, i => by
    obtain ⟨k, ih⟩ := il0_eq now r (i + 1)
    unfold p_slices_IndexFunc_impl_Player_impl_Player_l0
    rw [ih]
    simp only [p_impl_NextMatch_1, Option.bind_some]
    by_cases c : x.Since > now
    · exact ⟨i, by simp [c]⟩
    · exact ⟨k, by simp [c]⟩
theorem nextMatch_eq (l : List GPlayer) (now : Int) (hl : l.length ≤ 1048576) (hn : ∀ p ∈ l, p.Name.size ≤ 9223372036854775807) : ∃ o b, p_spec_NextMatch l now = some (o, b) ∧ p_impl_NextMatch l now = some (o, b) ∧ okO l o := by
  have h0 : okO l [] := ⟨by simp, fun s hs => by simp at hs⟩
  obtain ⟨g, e1, e2, hg⟩ := good_eq l hl hn
  unfold p_spec_NextMatch p_impl_NextMatch
  rw [e1, e2, Option.bind_some, Option.bind_some]
  by_cases c1 : g = true
  · rw [if_pos c1, if_pos c1]
    obtain ⟨_, hok⟩ := hg c1
    by_cases c2 : rng now 0 100000 = true
    · rw [if_pos c2]
      obtain ⟨k, hk⟩ := il0_eq now l 0
      unfold p_slices_ContainsFunc_impl_Player_impl_Player p_slices_IndexFunc_impl_Player_impl_Player
      rw [hk]
      unfold p_spec_NextMatch_j0 p_impl_NextMatch_j0
      rw [c2, sl0_eq]
      obtain ⟨s', l', o', f1, f2, f3⟩ := l1_eq (now := now) hl hok l 0 0 0 [] rfl h0
      rw [f1, f2]
      by_cases c3 : l.any (fun p => decide (p.Since > now)) = true
      · simp only [c3, if_true, Option.bind_some]
        exact ⟨_, _, rfl, by simp, h0⟩
      · simp only [c3, if_false, Option.bind_some]
        exact ⟨_, _, rfl, by simp, f3⟩
    · rw [if_neg c2]
      unfold p_spec_NextMatch_j0 p_impl_NextMatch_j0
      rw [if_pos (by simpa using c2), if_pos rfl]
      exact ⟨_, _, rfl, rfl, h0⟩
  · rw [if_neg c1, if_neg c1]
    unfold p_spec_NextMatch_j0 p_impl_NextMatch_j0
    rw [if_pos rfl, if_pos rfl]
    exact ⟨_, _, rfl, rfl, h0⟩
end Go.Av
