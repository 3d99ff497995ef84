/- Paths and props: the program and the reference alike. -/
import Derived.Test.YteohnapehmdgaaaDoorAGP
import Derived.Test.YteohnapehmdgaaaDoorAPL
set_option linter.unusedSimpArgs false
set_option linter.unusedVariables false
set_option maxRecDepth 100000
namespace Go.Av
/-! Paths and props: the program and the reference alike. -/
/-- A text in pieces: the piece so far, and what is left. -/
def pcsL (b : UInt8) : List UInt8 → List UInt8 → List (List UInt8)
  | cur, [] => [cur]
  | cur, x :: l => if x = b then cur :: pcsL b [] l else pcsL b (cur ++ [x]) l
theorem pcsL_nil (b : UInt8) (cur : List UInt8) : pcsL b cur [] = [cur] := by rw [pcsL]
theorem pcsL_cons (b : UInt8) (cur : List UInt8) (x : UInt8) (l : List UInt8) : pcsL b cur (x :: l) = if x = b then cur :: pcsL b [] l else pcsL b (cur ++ [x]) l := by rw [pcsL]
def bOf (l : List UInt8) : ByteArray := ⟨l.toArray⟩
theorem bOf_data (s : ByteArray) : bOf s.data.toList = s := by
  unfold bOf; cases s; simp
theorem ixB_miss (b : UInt8) : ∀ (l cur : List UInt8), Lib.indexByte l b = -1 → pcsL b cur l = [cur ++ l]
  | [], cur, _ => by simp [pcsL_nil]
  | x :: l, cur, h => by
    unfold Lib.indexByte at h
    by_cases e : x = b
    · simp [e] at h
    · have e' : (x == b) = false := by simpa using e
      have hge := Lib.indexByte_ge l b
      rw [e'] at h
      simp only [Bool.false_eq_true, if_false] at h
      by_cases h1 : Lib.indexByte l b = -1
      · rw [pcsL_cons, if_neg e, ixB_miss b l _ h1]; simp
      · rw [if_neg (by simpa using h1)] at h; omega
theorem ixB_hit (b : UInt8) : ∀ (l cur : List UInt8) (i : Nat), Lib.indexByte l b = (i : Int) → i < l.length ∧ pcsL b cur l = (cur ++ l.take i) :: pcsL b [] (l.drop (i + 1))
  | [], cur, i, h => by simp [Lib.indexByte] at h
  | x :: l, cur, i, h => by
    unfold Lib.indexByte at h
    by_cases e : x = b
    · rw [if_pos (by simpa using e)] at h
      have : i = 0 := by omega
      subst this
      rw [pcsL_cons, if_pos e]; simp
    · have e' : (x == b) = false := by simpa using e
      have hge := Lib.indexByte_ge l b
      rw [e'] at h
      simp only [Bool.false_eq_true, if_false] at h
      by_cases h1 : Lib.indexByte l b = -1
      · rw [if_pos (by simpa using h1)] at h; omega
      · rw [if_neg (by simpa using h1)] at h
        obtain ⟨j, hj⟩ : ∃ j : Nat, Lib.indexByte l b = j := ⟨(Lib.indexByte l b).toNat, by omega⟩
        obtain ⟨g1, g2⟩ := ixB_hit b l (cur ++ [x]) j hj
        have : i = j + 1 := by omega
        subst this
        refine ⟨by simp; omega, ?_⟩
        rw [pcsL_cons, if_neg e, g2]; simp
theorem indexB_one (s : ByteArray) (b : UInt8) : Lib.indexB s ⟨#[b]⟩ = Lib.indexByte s.data.toList b := by
  show Lib.index s.data.toList [b] = _
  rw [Lib.index_one]
theorem pieces_eq (b : UInt8) : ∀ (k : Nat) (s : ByteArray), Lib.countB s ⟨#[b]⟩ = k → Lib.splitB ⟨#[b]⟩ 0 k s = (pcsL b [] s.data.toList).map bOf := fun k => by
  induction k with
  | zero =>
    intro s hk
    rcases Lib.indexB_cases s ⟨#[b]⟩ with h | ⟨i, h, hle⟩
    · rw [Lib.splitB_miss _ _ _ _ h, ixB_miss b _ _ (by rw [← indexB_one]; exact h)]
      simp [bOf_data]
    · have hc := Lib.countB_hit s ⟨#[b]⟩ i (Nat.le_refl _) h
      omega
  | succ k ih =>
    intro s hk
    rcases Lib.indexB_cases s ⟨#[b]⟩ with h | ⟨i, h, hle⟩
    · rw [Lib.countB_miss _ _ h] at hk; cases hk
    · have hc := Lib.countB_hit s ⟨#[b]⟩ i (Nat.le_refl _) h
      obtain ⟨g1, g2⟩ := ixB_hit b s.data.toList [] i (by rw [← indexB_one]; exact h)
      have e1 : (⟨#[b]⟩ : ByteArray).size = 1 := rfl
      rw [e1] at hc
      have ih := ih (s.extract (i + 1) s.size) (by omega)
      have d1 : (s.extract 0 i).data.toList = s.data.toList.take i := by simp
      have d2 : (s.extract (i + 1) s.size).data.toList = s.data.toList.drop (i + 1) := by
        have : s.size = s.data.size := rfl
        rw [ByteArray.data_extract, Array.toList_extract, List.extract_eq_take_drop]
        exact List.take_of_length_le (by rw [List.length_drop, this, Array.length_toList]; omega)
      rw [Lib.splitB_hit _ _ _ _ i h, g2, e1, Nat.add_zero, ih, d2, List.map_cons, List.nil_append, ← d1, bOf_data]
theorem toList_len (s : ByteArray) : s.data.toList.length = s.size := by rw [Array.length_toList]; rfl
theorem extr (s : ByteArray) (a i : Nat) (h : a ≤ i) (hi : i ≤ s.size) : s.extract a i = bOf ((s.data.toList.drop a).take (i - a)) := by
  rw [← bOf_data (s.extract a i)]; congr 1
  rw [ByteArray.data_extract, Array.toList_extract, List.extract_eq_take_drop]
theorem split_l0 (s : ByteArray) (hl : s.size ≤ 1048576) : ∀ (n a i : Nat) (out : List ByteArray), a ≤ i → i ≤ s.size → s.size - i + 1 < n → out.length ≤ i →
    ∃ a' i', p_spec_l1Split_l0 s 47 n (a : Int) (i : Int) out = some (a', i', out ++ (pcsL 47 ((s.data.toList.drop a).take (i - a)) (s.data.toList.drop i)).map bOf)
  | 0, a, i, out, _, _, h, _ => by omega
  | n + 1, a, i, out, h1, h2, h3, h4 => by
    have hw : IntKind.i64.wrap ((i : Int) + 1) = ((i + 1 : Nat) : Int) := by rw [wI _ (by omega) (by omega)]; omega
    have hb : bslc s (a : Int) (i : Int) = some (bOf ((s.data.toList.drop a).take (i - a))) := by
      unfold bslc; rw [if_pos (by omega), Int.toNat_natCast, Int.toNat_natCast, extr s a i h1 h2]
    have hlen := toList_len s
    unfold p_spec_l1Split_l0
    rw [if_pos (by omega)]
    by_cases c : i = s.size
    · subst c
      rw [if_pos rfl]
      unfold p_spec_l1Split_j0
      rw [if_pos rfl, hb, Option.bind_some, if_pos (by omega), hw]
      match n, h3 with
      | n + 1, _ =>
        unfold p_spec_l1Split_l0
        rw [if_neg (by omega), List.drop_of_length_le (show s.data.toList.length ≤ s.size by omega), pcsL_nil]
        exact ⟨_, _, rfl⟩
    · have hi : i < s.size := by omega
      have hlt : i < s.data.toList.length := by omega
      have hd : s.data.toList.drop i = s.data.toList[i] :: s.data.toList.drop (i + 1) := List.drop_eq_getElem_cons hlt
      have hbi : bidx s (i : Int) = some ((s.data.toList[i].toNat : Nat) : Int) := by
        unfold bidx; rw [if_pos (by omega)]
        unfold byteAt
        rw [dif_pos (by simpa using hi)]
        simp only [Int.toNat_natCast]
        rfl
      rw [if_neg (by omega), hbi, Option.bind_some]
      unfold p_spec_l1Split_j0
      rw [hd, pcsL_cons]
      by_cases e : s.data.toList[i] = 47
      · rw [if_pos (by rw [e]; rfl), hb, Option.bind_some, if_pos (by omega), hw, if_pos e]
        obtain ⟨a', i', r⟩ := split_l0 s hl n (i + 1) (i + 1) (out ++ [bOf ((s.data.toList.drop a).take (i - a))]) (Nat.le_refl _) (by omega) (by omega) (by simp; omega)
        rw [Nat.sub_self, List.take_zero] at r
        exact ⟨a', i', by rw [r]; simp⟩
      · have e' : ¬ (((s.data.toList[i].toNat : Nat) : Int) == 47) = true := fun h => e (by
          have h : ((s.data.toList[i].toNat : Nat) : Int) = 47 := by simpa using h
          exact UInt8.toNat.inj (by show s.data.toList[i].toNat = 47; omega))
        rw [if_neg e', hw, if_neg e]
        obtain ⟨a', i', r⟩ := split_l0 s hl n a (i + 1) out (by omega) (by omega) (by omega) (by omega)
        refine ⟨a', i', ?_⟩
        rw [r]
        have : (s.data.toList.drop a).take (i + 1 - a) = (s.data.toList.drop a).take (i - a) ++ [s.data.toList[i]] := by
          rw [show i + 1 - a = (i - a) + 1 by omega, List.take_add_one, List.getElem?_drop, show a + (i - a) = i by omega, List.getElem?_eq_getElem hlt]; rfl
        rw [this]
theorem specSplit (N : Nat) (s : ByteArray) (hl : s.size ≤ 1048576) (hN : s.size + 1 < N) : p_spec_l1Split N s 47 = some (piecesB 47 s) := by
  unfold p_spec_l1Split
  obtain ⟨a', i', r⟩ := split_l0 s hl N 0 0 [] (Nat.le_refl _) (Nat.zero_le _) (by omega) (Nat.le_refl _)
  rw [show ((0 : Nat) : Int) = 0 from rfl] at r
  rw [r, Option.bind_some]
  unfold piecesB
  rw [pieces_eq 47 _ s rfl]
  simp
theorem pieces_size (b : UInt8) : ∀ (l cur : List UInt8), ∀ p ∈ pcsL b cur l, p.length ≤ cur.length + l.length
  | [], cur, p, h => by rw [pcsL_nil] at h; simp at h; subst h; simp
  | x :: l, cur, p, h => by
    rw [pcsL_cons] at h
    split at h
    · rcases List.mem_cons.1 h with rfl | h
      · simp
      · have := pieces_size b l [] p h; simp at this ⊢; omega
    · have := pieces_size b l _ p h; simp at this ⊢; omega
theorem piece_size {b : UInt8} {s p : ByteArray} (h : p ∈ piecesB b s) : p.size ≤ s.size := by
  unfold piecesB at h
  rw [pieces_eq b _ s rfl] at h
  obtain ⟨q, h1, rfl⟩ := List.mem_map.1 h
  have := pieces_size b _ _ q h1
  rw [toList_len] at this
  show q.toArray.size ≤ _
  simpa using this
/-- What a path is. -/
def pathB (s : ByteArray) : Bool := decide ((piecesB 47 s).length ≤ 5) && (piecesB 47 s).all goodName
theorem spec_path_l0 : ∀ (l : List ByteArray) (i : Nat), (∀ p ∈ l, p.size ≤ 9223372036854775807) → p_spec_l26Path_l0 l i = some (if l.all goodName = true then .out () else .ret false)
  | [], i, _ => by simp [p_spec_l26Path_l0]
  | x :: r, i, h => by
    rw [p_spec_l26Path_l0, if_pos (h x (by simp)), spec_path_l0 r (i + 1) (fun p hp => h p (by simp [hp]))]
    cases hx : goodName x <;> simp [hx]
theorem specPath (N : Nat) (s : ByteArray) (hl : s.size ≤ 1048576) (hN : s.size + 1 < N) : p_spec_l26Path N s = some (pathB s) := by
  unfold p_spec_l26Path pathB
  rw [specSplit N s hl hN, Option.bind_some, spec_path_l0 _ _ (fun p hp => by have := piece_size hp; omega), Option.bind_some]
  cases h : (piecesB 47 s).all goodName with
  | false => simp
  | true => simp; omega
theorem ixS (f : ByteArray → Bool) : ∀ (l : List ByteArray) (i : Nat) (g : ByteArray → Option Bool), (∀ x ∈ l, g x = some (f x)) → ∃ k : Nat, p_slices_IndexFunc_string_string_l0 g l i = some (if l.any f = true then .ret (k : Int) else .out ())
  | [], i, g, _ => ⟨0, by simp [p_slices_IndexFunc_string_string_l0]⟩
  | y :: r, i, g, h => by
    obtain ⟨k, ih⟩ := ixS f r (i + 1) g (fun x hx => h x (by simp [hx]))
    rw [p_slices_IndexFunc_string_string_l0, h y (by simp), Option.bind_some]
    cases hy : f y with
    | true => exact ⟨i, by simp [hy]⟩
    | false => exact ⟨k, by rw [if_neg (by simp), ih]; simp [hy]⟩
theorem implPath (s : ByteArray) (hl : s.size ≤ 1048576) : p_impl_isPath s = some (pathB s) := by
  unfold p_impl_isPath pathB splitP
  rw [if_pos ⟨rfl, by omega⟩, Option.bind_some]
  by_cases c : (piecesB 47 s).length ≤ 5
  · rw [if_pos (by omega)]
    unfold p_slices_ContainsFunc_string_string p_slices_IndexFunc_string_string
    obtain ⟨k, e⟩ := ixS (fun x => !goodName x) (piecesB 47 s) 0 (fun x0_ => p_impl_isPath_1 x0_) (fun x hx => by
      unfold p_impl_isPath_1; rw [if_pos (by have := piece_size hx; omega)])
    rw [e, Option.bind_some]
    have : (piecesB 47 s).all goodName = !((piecesB 47 s).any fun x => !goodName x) := by
      rw [List.not_any_eq_all_not]; simp
    rw [this]
    cases (piecesB 47 s).any fun x => !goodName x <;> simp [c]
  · rw [if_neg (by omega)]; simp [c]
/-- Good props. -/
def okP (l : List GProp) (i : Nat) (x : GProp) : Bool := pathB x.Path && rng (x.Value.size : Int) 1 40 && (if i = 0 then true else (l[i - 1]?).elim false fun p => blt p.Path x.Path)
def okPs (l : List GProp) : Nat → List GProp → Bool
  | _, [] => true
  | i, x :: r => okP l i x && okPs l (i + 1) r
def goodP (l : List GProp) : Bool := decide (l.length ≤ 40) && okPs l 0 l
theorem idxP2 {α : Type} {l : List α} {i : Nat} (h0 : 0 < i) (h : i < l.length) (hl : l.length ≤ 9223372036854775807) : idx l (IntKind.i64.wrap ((i : Int) - 1)) = some (l[i - 1]'(by omega)) := by
  rw [wI _ (by omega) (by omega), show (i : Int) - 1 = ((i - 1 : Nat) : Int) by omega]
  exact idx_of (by omega)
theorem specP_l0 (N : Nat) (l : List GProp) (hl : l.length ≤ 1048576) (hs : ∀ x ∈ l, x.Path.size ≤ 1048576) (hN : ∀ x ∈ l, x.Path.size + 1 < N) : ∀ (r : List GProp) (i : Nat), l.drop i = r → p_spec_GoodProps_l0 N l r i = some (if okPs l i r = true then .out () else .ret false)
  | [], i, _ => by simp [p_spec_GoodProps_l0, okPs]
  | x :: r, i, h => by
    obtain ⟨h1, h2, h3⟩ := drop_cons h
    have hx : x ∈ l := List.mem_of_getElem? h2
    rw [p_spec_GoodProps_l0, specPath N x.Path (hs x hx) (hN x hx), Option.bind_some, specP_l0 N l hl hs hN r (i + 1) h3]
    unfold p_spec_l26Value
    rw [Option.bind_some]
    by_cases c : (i : Int) > 0
    · have e : okPs l i (x :: r) = (pathB x.Path && rng (x.Value.size : Int) 1 40 && Op.bytesLess (l[i - 1]'(by omega)).Path.toList x.Path.toList && okPs l (i + 1) r) := by
        simp only [okPs, okP]
        rw [if_neg (show ¬ i = 0 by omega), List.getElem?_eq_getElem (show i - 1 < l.length by omega)]; rfl
      rw [if_pos c, idxP2 (by omega) h1 (by omega), Option.bind_some, e]
      cases pathB x.Path <;> cases rng (x.Value.size : Int) 1 40 <;> cases Op.bytesLess (l[i - 1]'(by omega)).Path.toList x.Path.toList <;> simp
    · have e : okPs l i (x :: r) = (pathB x.Path && rng (x.Value.size : Int) 1 40 && okPs l (i + 1) r) := by
        simp only [okPs, okP]
        rw [if_pos (show i = 0 by omega), Bool.and_true]
      rw [if_neg c, e]
      cases pathB x.Path <;> cases rng (x.Value.size : Int) 1 40 <;> simp
theorem implP_l0 (l : List GProp) (hl : l.length ≤ 1048576) (hs : ∀ x ∈ l, x.Path.size ≤ 1048576) : ∀ (r : List GProp) (i : Nat), l.drop i = r → p_impl_GoodProps_l0 l r i = some (if okPs l i r = true then .out () else .ret false)
  | [], i, _ => by simp [p_impl_GoodProps_l0, okPs]
  | x :: r, i, h => by
    obtain ⟨h1, h2, h3⟩ := drop_cons h
    have hx : x ∈ l := List.mem_of_getElem? h2
    rw [p_impl_GoodProps_l0, implPath x.Path (hs x hx), Option.bind_some, implP_l0 l hl hs r (i + 1) h3]
    unfold p_impl_isPropValue
    rw [Option.bind_some]
    by_cases c : (i : Int) > 0
    · have e : okPs l i (x :: r) = (pathB x.Path && rng (x.Value.size : Int) 1 40 && Op.bytesLess (l[i - 1]'(by omega)).Path.toList x.Path.toList && okPs l (i + 1) r) := by
        simp only [okPs, okP]
        rw [if_neg (show ¬ i = 0 by omega), List.getElem?_eq_getElem (show i - 1 < l.length by omega)]; rfl
      rw [if_pos c, idxP2 (by omega) h1 (by omega), Option.bind_some, e]
      cases pathB x.Path <;> cases rng (x.Value.size : Int) 1 40 <;> cases Op.bytesLess (l[i - 1]'(by omega)).Path.toList x.Path.toList <;> simp
    · have e : okPs l i (x :: r) = (pathB x.Path && rng (x.Value.size : Int) 1 40 && okPs l (i + 1) r) := by
        simp only [okPs, okP]
        rw [if_pos (show i = 0 by omega), Bool.and_true]
      rw [if_neg c, e]
      cases pathB x.Path <;> cases rng (x.Value.size : Int) 1 40 <;> simp
theorem specProps (N : Nat) (l : List GProp) (hl : l.length ≤ 1048576) (hs : ∀ x ∈ l, x.Path.size ≤ 1048576) (hN : ∀ x ∈ l, x.Path.size + 1 < N) : p_spec_GoodProps N l = some (goodP l) := by
  unfold p_spec_GoodProps goodP
  by_cases c : (l.length : Int) > 40
  · rw [if_pos c, show decide (l.length ≤ 40) = false by simp; omega]; rfl
  · rw [if_neg c, specP_l0 N l hl hs hN l 0 rfl, Option.bind_some, show decide (l.length ≤ 40) = true by simp; omega]
    cases okPs l 0 l <;> simp
theorem implProps (l : List GProp) (hl : l.length ≤ 1048576) (hs : ∀ x ∈ l, x.Path.size ≤ 1048576) : p_impl_GoodProps l = some (goodP l) := by
  unfold p_impl_GoodProps goodP
  rw [implP_l0 l hl hs l 0 rfl, Option.bind_some]
  cases okPs l 0 l with
  | false => simp
  | true => simp; omega
end Go.Av
