/- GoodStore and a name's place: the program and the reference alike. -/
import Derived.Test.YtgogbjfmbfijiaaBKG
import Derived.Test.YtgogbjfmbfijiaaBPL
set_option linter.unusedSimpArgs false
set_option linter.unusedVariables false
set_option maxRecDepth 100000
namespace Go.Av
/-! GoodStore and a name's place: the program and the reference alike. -/
def prevOk {α : Type} (key : α → ByteArray) (l : List α) (i : Nat) (x : α) : Bool := if i = 0 then true else (l[i - 1]?).elim false fun p => blt (key p) (key x)
theorem idxP' {α : Type} {l : List α} {i : Nat} (h0 : 0 < i) (h : i < l.length) (hl : l.length ≤ 9223372036854775807) : idx l (IntKind.i64.wrap ((i : Int) - 1)) = some (l[i - 1]'(by omega)) := by
  rw [wI _ (by omega) (by omega), show (i : Int) - 1 = ((i - 1 : Nat) : Int) by omega]
  exact idx_of (by omega)
def uqU (x : GResident) (l : List GResident) : Bool := !(decide (x.Used > 0)) || !(l.any fun o => o.Used == x.Used)
def okR (s : GStore) (i : Nat) (x : GResident) : Bool := goodName x.Name && rng x.Size 1 100000 && rng x.Held 0 1000 && rng x.Used 0 s.Clock && prevOk GResident.Name s.In i x && uqU x (s.In.take i)
def okRs (s : GStore) : Nat → List GResident → Bool
  | _, [] => true
  | i, x :: r => okR s i x && okRs s (i + 1) r
theorem slc0 {α : Type} {l : List α} {i : Nat} (h : i ≤ l.length) : slc l 0 (i : Int) = some (l.take i) := by
  unfold slc; rw [if_pos (by omega)]; simp
theorem specUq (x : GResident) : ∀ (l : List GResident) (i : Nat), p_spec_GoodStore_l1 x l i = some (if uqU x l = true then .out () else .ret false)
  | [], i => by simp [p_spec_GoodStore_l1, uqU]
  | y :: r, i => by
    have ih := specUq x r (i + 1)
    rw [p_spec_GoodStore_l1, ih]
    unfold uqU
    by_cases h : x.Used > 0
    · rw [if_pos h]
      by_cases h' : y.Used = x.Used
      · rw [if_pos h']; simp [h, h']
      · rw [if_neg h']; simp [h, h']
    · rw [if_neg h]; simp [h]
theorem specLoop (s : GStore) (hl : s.In.length ≤ 1048576) (hn : ∀ x ∈ s.In, x.Name.size ≤ 9223372036854775807) : ∀ (r : List GResident) (i : Nat), s.In.drop i = r → p_spec_GoodStore_l0 s r i = some (if okRs s i r = true then .out () else .ret false)
  | [], i, h => by simp [p_spec_GoodStore_l0, okRs]
  | x :: r, i, h => by
    obtain ⟨h1, h2, h3⟩ := drop_cons h
    have hx : x ∈ s.In := List.mem_of_getElem? h2
    have ih := specLoop s hl hn r (i + 1) h3
    have j1 : ∀ b, p_spec_GoodStore_j1 s x i (p_spec_GoodStore_l0 s r) b = some (if (!b && uqU x (s.In.take i) && okRs s (i + 1) r) = true then .out () else .ret false) := fun b => by
      unfold p_spec_GoodStore_j1
      cases b with
      | true => simp
      | false =>
        rw [if_neg (by simp), slc0 (by omega), Option.bind_some, specUq, Option.bind_some]
        cases hu : uqU x (s.In.take i) with
        | true => simp [ih]
        | false => simp
    rw [p_spec_GoodStore_l0, if_pos (hn x hx)]
    by_cases c1 : goodName x.Name = true
    · rw [if_pos c1]
      by_cases c2 : rng x.Size 1 100000 = true
      · rw [if_pos c2]
        by_cases c3 : rng x.Held 0 1000 = true
        · rw [if_pos c3]
          by_cases c4 : rng x.Used 0 s.Clock = true
          · rw [if_pos c4]
            by_cases c5 : (i : Int) > 0
            · have hp : prevOk GResident.Name s.In i x = Op.bytesLess (s.In[i - 1]'(by omega)).Name.toList x.Name.toList := by
                unfold prevOk; rw [if_neg (by omega), List.getElem?_eq_getElem (by omega)]; rfl
              rw [if_pos c5, idxP' (by omega) h1 (by omega), Option.bind_some, j1, Bool.not_not]
              simp [okRs, okR, hp, c1, c2, c3, c4]
            · have hp : prevOk GResident.Name s.In i x = true := by unfold prevOk; rw [if_pos (by omega)]
              rw [if_neg c5, j1]
              simp [okRs, okR, hp, c1, c2, c3, c4]
          · rw [if_neg c4, j1]; simp [okRs, okR, c4]
        · rw [if_neg c3, j1]; simp [okRs, okR, c3]
      · rw [if_neg c2, j1]; simp [okRs, okR, c2]
    · rw [if_neg c1, j1]; simp [okRs, okR, c1]
def sumS : List GResident → Int
  | [] => 0
  | x :: r => x.Size + sumS r
theorem okRs_size {s : GStore} : ∀ {r : List GResident} {i : Nat}, okRs s i r = true → ∀ x ∈ r, 1 ≤ x.Size ∧ x.Size ≤ 100000
  | [], i, h, x, hx => by simp at hx
  | y :: r, i, h, x, hx => by
    simp only [okRs, okR, Bool.and_eq_true] at h
    rcases List.mem_cons.1 hx with rfl | hx
    · simpa [rng] using h.1.1.1.1.1.2
    · exact okRs_size h.2 x hx
theorem sumS_bnd : ∀ {r : List GResident}, (∀ x ∈ r, 1 ≤ x.Size ∧ x.Size ≤ 100000) → 0 ≤ sumS r ∧ sumS r ≤ 100000 * r.length
  | [], _ => by simp [sumS]
  | y :: r, h => by
    have ih := sumS_bnd (r := r) (fun x hx => h x (List.mem_cons_of_mem _ hx))
    have := h y (by simp)
    simp only [sumS, List.length_cons]; omega
theorem sizes_eq : ∀ (r : List GResident) (i : Nat) (n : Int), (∀ x ∈ r, 1 ≤ x.Size ∧ x.Size ≤ 100000) → 0 ≤ n → n + 100000 * r.length ≤ 9223372036854775807 → p_spec_l21Sizes_l0 r i n = some (n + sumS r)
  | [], i, n, _, _, _ => by simp [p_spec_l21Sizes_l0, sumS]
  | x :: r, i, n, h, h0, hb => by
    have hx := h x (by simp)
    simp only [List.length_cons] at hb
    rw [p_spec_l21Sizes_l0, wI _ (by omega) (by omega), sizes_eq r (i + 1) _ (fun y hy => h y (by simp [hy])) (by omega) (by omega)]
    simp only [sumS]; congr 1; omega
def goodSt (s : GStore) : Bool := rng s.Budget 1 100000 && rng s.Clock 0 100000 && decide (s.In.length ≤ 30) && okRs s 0 s.In && decide (sumS s.In ≤ s.Budget)
theorem specGood (s : GStore) (hl : s.In.length ≤ 1048576) (hn : ∀ x ∈ s.In, x.Name.size ≤ 9223372036854775807) : p_spec_GoodStore s = some (goodSt s) := by
  have j0 : ∀ b, p_spec_GoodStore_j0 s b = some (!b && okRs s 0 s.In && decide (sumS s.In ≤ s.Budget)) := fun b => by
    unfold p_spec_GoodStore_j0
    cases b with
    | true => simp
    | false =>
      rw [if_neg (by simp), specLoop s hl hn s.In 0 rfl, Option.bind_some]
      cases ho : okRs s 0 s.In with
      | false => simp
      | true =>
        simp only [if_true]
        unfold p_spec_l21Sizes
        have hs := okRs_size ho
        rw [sizes_eq s.In 0 0 hs (by omega) (by omega), Option.bind_some]
        simp
  unfold p_spec_GoodStore goodSt
  by_cases c1 : rng s.Budget 1 100000 = true
  case neg => rw [if_neg c1, j0]; simp [c1]
  case pos =>
    rw [if_pos c1]
    by_cases c2 : rng s.Clock 0 100000 = true
    case neg => rw [if_neg c2, j0]; simp [c2]
    case pos =>
      rw [if_pos c2, j0]
      have : (!decide ((s.In.length : Int) > 30)) = decide (s.In.length ≤ 30) := by
        rw [Bool.eq_iff_iff]; simp; omega
      rw [this]; simp [c1, c2]
theorem implAny (x : GResident) : ∀ (l : List GResident) (i : Nat), p_slices_IndexFunc_impl_Resident_impl_Resident_l0 (fun x0_ => p_impl_GoodStore_1 x0_ x) l i = some (if (l.any fun o => o.Used == x.Used) = true then .ret ((i + (l.findIdx fun o => o.Used == x.Used) : Nat) : Int) else .out ())
  | [], i => by simp [p_slices_IndexFunc_impl_Resident_impl_Resident_l0]
  | y :: r, i => by
    have ih := implAny x r (i + 1)
    rw [p_slices_IndexFunc_impl_Resident_impl_Resident_l0, p_impl_GoodStore_1, Option.bind_some]
    cases hy : (y.Used == x.Used) with
    | true => simp [hy, List.findIdx_cons]
    | false =>
      rw [if_neg (by simp), ih]
      simp only [List.any_cons, hy, Bool.false_or, List.findIdx_cons, cond_false]
      congr 1
      split
      · congr 1; omega
      · rfl
theorem implContains (x : GResident) (l : List GResident) : p_slices_ContainsFunc_impl_Resident_impl_Resident l (fun x0_ => p_impl_GoodStore_1 x0_ x) = some (l.any fun o => o.Used == x.Used) := by
  unfold p_slices_ContainsFunc_impl_Resident_impl_Resident p_slices_IndexFunc_impl_Resident_impl_Resident
  rw [implAny, Option.bind_some]
  cases h : (l.any fun o => o.Used == x.Used) with
  | false => simp
  | true => simp
theorem implLoop (s : GStore) (hl : s.In.length ≤ 1048576) (hn : ∀ x ∈ s.In, x.Name.size ≤ 9223372036854775807) : ∀ (r : List GResident) (i : Nat) (n : Int), s.In.drop i = r → 0 ≤ n → n ≤ 100000 * i → p_impl_GoodStore_l0 s r i n = some (if okRs s i r = true then .out (n + sumS r) else .ret false)
  | [], i, n, h, _, _ => by simp [p_impl_GoodStore_l0, okRs, sumS]
  | x :: r, i, n, h, hn0, hn1 => by
    obtain ⟨h1, h2, h3⟩ := drop_cons h
    have hx : x ∈ s.In := List.mem_of_getElem? h2
    have j0 : rng x.Size 1 100000 = true → ∀ b, p_impl_GoodStore_j0 s n x i (p_impl_GoodStore_l0 s r) b = some (if (!b && uqU x (s.In.take i) && okRs s (i + 1) r) = true then .out (n + sumS (x :: r)) else .ret false) := fun hsz b => by
      have hsz' : 1 ≤ x.Size ∧ x.Size ≤ 100000 := by simpa [rng] using hsz
      have ih := implLoop s hl hn r (i + 1) (n + x.Size) h3 (by omega) (by omega)
      have j1 : ∀ b, p_impl_GoodStore_j1 n x i (p_impl_GoodStore_l0 s r) b = some (if (!b && okRs s (i + 1) r) = true then .out (n + sumS (x :: r)) else .ret false) := fun b => by
        unfold p_impl_GoodStore_j1
        cases b with
        | true => simp
        | false =>
          rw [if_neg (by simp), wI _ (by omega) (by omega), ih]
          simp only [Bool.not_false, Bool.true_and, sumS, Int.add_assoc]
      unfold p_impl_GoodStore_j0
      cases b with
      | true => simp
      | false =>
        rw [if_neg (by simp)]
        by_cases hu : x.Used > 0
        · rw [if_pos hu, slc0 (by omega), Option.bind_some, implContains, Option.bind_some, j1]
          simp [uqU, hu]
        · rw [if_neg hu, j1]; simp [uqU, hu]
    have jt : p_impl_GoodStore_j0 s n x i (p_impl_GoodStore_l0 s r) true = some (.ret false) := by unfold p_impl_GoodStore_j0; rw [if_pos rfl]
    rw [p_impl_GoodStore_l0, if_pos (hn x hx)]
    have rest : p_impl_GoodStore_j0 s n x i (p_impl_GoodStore_l0 s r) true = some (.ret false) ∧
        (if rng x.Size 1 100000 = true then (if rng x.Held 0 1000 = true then p_impl_GoodStore_j0 s n x i (p_impl_GoodStore_l0 s r) (!(rng x.Used 0 s.Clock)) else p_impl_GoodStore_j0 s n x i (p_impl_GoodStore_l0 s r) true) else p_impl_GoodStore_j0 s n x i (p_impl_GoodStore_l0 s r) true) =
        some (if (rng x.Size 1 100000 && rng x.Held 0 1000 && rng x.Used 0 s.Clock && uqU x (s.In.take i) && okRs s (i + 1) r) = true then .out (n + sumS (x :: r)) else .ret false) := by
      refine ⟨jt, ?_⟩
      by_cases c2 : rng x.Size 1 100000 = true
      · rw [if_pos c2]
        by_cases c3 : rng x.Held 0 1000 = true
        · rw [if_pos c3, j0 c2, Bool.not_not]; simp [c2, c3]
        · rw [if_neg c3, jt]; simp [c3]
      · rw [if_neg c2, jt]; simp [c2]
    by_cases c1 : goodName x.Name = true
    · rw [if_pos c1]
      by_cases c5 : (i : Int) > 0
      · have hp : prevOk GResident.Name s.In i x = Op.bytesLess (s.In[i - 1]'(by omega)).Name.toList x.Name.toList := by
          unfold prevOk; rw [if_neg (by omega), List.getElem?_eq_getElem (by omega)]; rfl
        rw [if_pos c5, idxP' (by omega) h1 (by omega), Option.bind_some, rest.2, rest.1]
        by_cases hb : Op.bytesLess (s.In[i - 1]'(by omega)).Name.toList x.Name.toList = true
        · rw [if_pos hb]; simp [okRs, okR, hp, c1, hb]
        · rw [if_neg hb]; simp [okRs, okR, hp, hb]
      · have hp : prevOk GResident.Name s.In i x = true := by unfold prevOk; rw [if_pos (by omega)]
        rw [if_neg c5, rest.2]
        simp [okRs, okR, hp, c1]
    · rw [if_neg c1, jt]; simp [okRs, okR, c1]
theorem implGood (s : GStore) (hl : s.In.length ≤ 1048576) (hn : ∀ x ∈ s.In, x.Name.size ≤ 9223372036854775807) : p_impl_GoodStore s = some (goodSt s) := by
  unfold p_impl_GoodStore goodSt
  rw [implLoop s hl hn s.In 0 0 rfl (by omega) (by omega), Option.bind_some]
  cases ho : okRs s 0 s.In with
  | false => simp
  | true =>
    simp only [if_true, Int.zero_add]
    cases c1 : rng s.Budget 1 100000 with
    | false => simp
    | true =>
      cases c2 : rng s.Clock 0 100000 with
      | false => simp
      | true =>
        by_cases c3 : s.In.length ≤ 30
        · rw [if_pos rfl, if_pos rfl, if_pos (by omega)]; simp [c3]
        · rw [if_pos rfl, if_pos rfl, if_neg (by omega)]; simp [c3]
theorem goodSt_rise {s : GStore} (h : goodSt s = true) : Rise GResident.Name s.In := by
  simp only [goodSt, Bool.and_eq_true] at h
  have key : ∀ (r : List GResident) (i : Nat), s.In.drop i = r → okRs s i r = true → ∀ (j : Nat) (x : GResident), r[j]? = some x → prevOk GResident.Name s.In (i + j) x = true := fun r => by
    induction r with
    | nil => intro i h1 h2 j x hx; simp at hx
    | cons y r ih =>
      intro i h1 h2 j x hx
      simp only [okRs, okR, Bool.and_eq_true] at h2
      cases j with
      | zero => simp at hx; subst hx; exact h2.1.1.2
      | succ j =>
        have := ih (i + 1) (drop_cons h1).2.2 h2.2 j x (by simpa using hx)
        rwa [show i + (j + 1) = i + 1 + j by omega]
  refine rise_of (fun i x y hx hy => ?_)
  have := key s.In 0 rfl h.1.2 (i + 1) y hy
  unfold prevOk at this
  rw [if_neg (by omega), show 0 + (i + 1) - 1 = i by omega, hx] at this
  exact this
theorem bsR_eq (x : List GResident) (t : ByteArray) (f : GResident → ByteArray → Option Int) : ∀ (n : Nat) (i j : Int), p_slices_BinarySearchFunc_impl_Resident_impl_Resident_string_l0 x t f n i j = bsG x t f n i j
  | 0, i, j => rfl
  | n + 1, i, j => by
    unfold p_slices_BinarySearchFunc_impl_Resident_impl_Resident_string_l0 bsG
    simp only [bsR_eq x t f n]; rfl
theorem place_eq (N : Nat) (s : GStore) (t : ByteArray) (hN : s.In.length < N) (hr : Rise GResident.Name s.In) (hl : s.In.length ≤ 1048576) :
    p_impl_Store_place N s t = some (((spot GResident.Name s.In t : Nat) : Int), (s.In[spot GResident.Name s.In t]?).elim false fun a => decide (a.Name = t)) := by
  unfold p_impl_Store_place
  have hf : ∀ a : GResident, (fun x0_ x1_ => p_impl_Store_place_1 x0_ x1_) a t = some (cmpB a.Name t) := fun a => by
    simp [p_impl_Store_place_1, p_strings_Compare, p_internal_bytealg_CompareString]
  have := bsW_spec (N := N) (key := GResident.Name) hN hf hr (by omega)
  unfold p_slices_BinarySearchFunc_impl_Resident_impl_Resident_string
  simp only [bsR_eq]
  unfold bsW at this
  rw [this, Option.bind_some]
end Go.Av
