/- PaintBox, PaintLine: the program's and the reference's answers alike. -/
import Derived.Test.YtheheedekbhonaaABA
set_option linter.unusedSimpArgs false
set_option linter.unusedVariables false
set_option maxRecDepth 100000
namespace Go.Av
/-! PaintBox, PaintLine: the program's and the reference's answers alike. -/
theorem ij_inj {W x x' y y' : Nat} (hx : x < W) (hx' : x' < W) : y * W + x = y' * W + x' ↔ y = y' ∧ x = x' := by
  constructor
  · intro h
    have a1 : (y * W + x) / W = y := by rw [Nat.mul_comm, Nat.mul_add_div (by omega), Nat.div_eq_of_lt hx, Nat.add_zero]
    have a2 : (y' * W + x') / W = y' := by rw [Nat.mul_comm, Nat.mul_add_div (by omega), Nat.div_eq_of_lt hx', Nat.add_zero]
    have e : y = y' := by rw [← a1, ← a2, h]
    subst e
    exact ⟨rfl, by omega⟩
  · rintro ⟨rfl, rfl⟩; rfl
/-- The pixels of P at which S holds have the color c in L, the others are as they were. -/
def Pt (W H : Nat) (P : List Int) (c : Int) (L : List Int) (S : Nat → Nat → Bool) : Prop :=
  L.length = P.length ∧ ∀ x y, x < W → y < H → L[y * W + x]? = if S x y then some c else P[y * W + x]?
theorem ij_lt {W H x y : Nat} (hx : x < W) (hy : y < H) : y * W + x < W * H := by
  have : y * W + W ≤ H * W := by
    have := Nat.mul_le_mul_right W (show y + 1 ≤ H by omega)
    rw [Nat.add_mul, Nat.one_mul] at this; exact this
  rw [Nat.mul_comm W H]; omega
theorem Pt.zero {W H : Nat} {P : List Int} {c : Int} {S : Nat → Nat → Bool} (h : ∀ x y, x < W → y < H → S x y = false) : Pt W H P c P S := ⟨rfl, fun x y hx hy => by simp [h x y hx hy]⟩
theorem Pt.cong {W H : Nat} {P L : List Int} {c : Int} {S S' : Nat → Nat → Bool} (k : Pt W H P c L S) (h : ∀ x y, x < W → y < H → S' x y = S x y) : Pt W H P c L S' := ⟨k.1, fun x y hx hy => by rw [h x y hx hy]; exact k.2 x y hx hy⟩
theorem Pt.step {W H : Nat} {P L : List Int} {c : Int} {S S' : Nat → Nat → Bool} (hn : P.length = W * H) (k : Pt W H P c L S) (x y : Nat) (hx : x < W) (hy : y < H)
    (h : ∀ x' y', x' < W → y' < H → S' x' y' = (S x' y' || (decide (x' = x) && decide (y' = y)))) : Pt W H P c (L.set (y * W + x) c) S' := by
  refine ⟨by simp [k.1], fun x' y' hx' hy' => ?_⟩
  have hl : y * W + x < L.length := by rw [k.1, hn]; exact ij_lt hx hy
  rw [List.getElem?_set, h x' y' hx' hy']
  by_cases e : y * W + x = y' * W + x'
  · obtain ⟨rfl, rfl⟩ := (ij_inj hx hx').1 e
    rw [if_pos rfl, if_pos hl]; simp
  · rw [if_neg e, k.2 x' y' hx' hy']
    have : ¬ (x' = x ∧ y' = y) := fun ⟨a, b⟩ => e (by rw [a, b])
    have : (decide (x' = x) && decide (y' = y)) = false := by simpa using this
    rw [this, Bool.or_false]
theorem Pt.uniq {W H : Nat} {P L L' : List Int} {c : Int} {S : Nat → Nat → Bool} (hw : 0 < W) (hn : P.length = W * H) (k : Pt W H P c L S) (k' : Pt W H P c L' S) : L = L' := by
  refine List.ext_getElem? fun j => ?_
  by_cases hj : j < W * H
  · have h1 := Nat.mod_lt j hw
    have h2 : j / W < H := Nat.div_lt_of_lt_mul hj
    have h3 : j / W * W + j % W = j := by rw [Nat.mul_comm]; exact Nat.div_add_mod j W
    have a := k.2 _ _ h1 h2
    have b := k'.2 _ _ h1 h2
    rw [h3] at a b
    rw [a, b]
  · rw [List.getElem?_eq_none (by rw [k.1]; omega), List.getElem?_eq_none (by rw [k'.1]; omega)]
def putP (W H : Nat) (L : List Int) (x y c : Int) : List Int := if (rng x 0 ((W : Int) - 1) && rng y 0 ((H : Int) - 1)) = true then L.set (y * W + x).toNat c else L
theorem putP_len {W H : Nat} {L : List Int} {x y c : Int} : (putP W H L x y c).length = L.length := by unfold putP; split <;> simp
section
variable {W H : Nat} (h1 : 1 ≤ W) (h2 : W ≤ 24) (h3 : 1 ≤ H) (h4 : H ≤ 24) {L : List Int} (hl : L.length = W * H) (x y c : Int)
include h1 h2 h3 h4 hl
omit h3 in
theorem put_at (hx : 0 ≤ x ∧ x ≤ (W : Int) - 1) (hy : 0 ≤ y ∧ y ≤ (H : Int) - 1) : IntKind.i64.wrap (IntKind.i64.wrap (y * W) + x) = y * W + x ∧ 0 ≤ y * W + x ∧ (y * W + x).toNat < L.length := by
  obtain ⟨x, rfl⟩ := Int.eq_ofNat_of_zero_le hx.1
  obtain ⟨y, rfl⟩ := Int.eq_ofNat_of_zero_le hy.1
  have hlt := ij_lt (W := W) (H := H) (x := x) (y := y) (by omega) (by omega)
  have hm : W * H ≤ 24 * 24 := Nat.mul_le_mul h2 h4
  have e : ((y : Int) * W) = ((y * W : Nat) : Int) := by push_cast; rfl
  have ew : IntKind.i64.wrap ((y * W : Nat) : Int) = ((y * W : Nat) : Int) := wI _ (by omega) (by omega)
  rw [e, ew, wI (((y * W : Nat) : Int) + x) (by omega) (by omega)]
  refine ⟨rfl, by omega, by omega⟩
theorem specPut_eq : p_spec_l20Put ⟨W, H, L⟩ x y c = some (putP W H L x y c) := by
  have raw : p_spec_l20Put_raw ⟨W, H, L⟩ x y c = some (putP W H L x y c) := by
    unfold p_spec_l20Put_raw p_spec_l20Put_j0 putP
    simp only []
    rw [wI ((W : Int) - 1) (by omega) (by omega), wI ((H : Int) - 1) (by omega) (by omega)]
    by_cases cx : rng x 0 ((W : Int) - 1) = true
    · by_cases cy : rng y 0 ((H : Int) - 1) = true
      · rw [if_pos cx, if_pos cy, if_pos (by rw [cx, cy]; rfl)]
        obtain ⟨e1, e2, e3⟩ := put_at h1 h2 h4 hl x y (by simpa [rng] using cx) (by simpa [rng] using cy)
        rw [e1]
        have hi : idx L (y * W + x) = some (L[(y * W + x).toNat]'e3) := by unfold idx; rw [if_pos e2]; exact List.getElem?_eq_getElem e3
        rw [hi, Option.bind_some]
      · rw [if_pos cx, if_neg cy, if_neg (by simp [cy])]
    · rw [if_neg cx, if_neg (by simp), if_neg (by simp [cx])]
  unfold p_spec_l20Put
  rw [raw, Option.bind_some, if_pos putP_len]
theorem implPut_eq : p_impl_Sheet_paint ⟨W, H, L⟩ x y c = some (putP W H L x y c) := by
  have raw : p_impl_Sheet_paint_raw ⟨W, H, L⟩ x y c = some (putP W H L x y c) := by
    unfold p_impl_Sheet_paint_raw p_impl_Sheet_paint_j0 putP
    simp only []
    rw [wI ((W : Int) - 1) (by omega) (by omega), wI ((H : Int) - 1) (by omega) (by omega)]
    by_cases cx : rng x 0 ((W : Int) - 1) = true
    · by_cases cy : rng y 0 ((H : Int) - 1) = true
      · rw [if_pos cx, if_pos cy, if_pos (by rw [cx, cy]; rfl)]
        obtain ⟨e1, e2, e3⟩ := put_at h1 h2 h4 hl x y (by simpa [rng] using cx) (by simpa [rng] using cy)
        rw [e1]
        have hi : idx L (y * W + x) = some (L[(y * W + x).toNat]'e3) := by unfold idx; rw [if_pos e2]; exact List.getElem?_eq_getElem e3
        rw [hi, Option.bind_some]
      · rw [if_pos cx, if_neg cy, if_neg (by simp [cy])]
    · rw [if_neg cx, if_neg (by simp), if_neg (by simp [cx])]
  unfold p_impl_Sheet_paint
  rw [raw, Option.bind_some, if_pos putP_len]
end
/-- One pixel more. -/
theorem Pt.put {W H : Nat} {P L : List Int} {c : Int} {S S' : Nat → Nat → Bool} (hn : P.length = W * H) (k : Pt W H P c L S) (x y : Int)
    (h : ∀ x' y' : Nat, x' < W → y' < H → S' x' y' = (S x' y' || (decide ((x' : Int) = x) && decide ((y' : Int) = y)))) : Pt W H P c (putP W H L x y c) S' := by
  unfold putP
  split
  · rename_i hr
    rw [Bool.and_eq_true] at hr
    have hx : 0 ≤ x ∧ x ≤ (W : Int) - 1 := of_decide_eq_true hr.1
    have hy : 0 ≤ y ∧ y ≤ (H : Int) - 1 := of_decide_eq_true hr.2
    obtain ⟨x, rfl⟩ := Int.eq_ofNat_of_zero_le hx.1
    obtain ⟨y, rfl⟩ := Int.eq_ofNat_of_zero_le hy.1
    have e : ((y : Int) * W + x).toNat = y * W + x := by
      have : ((y : Int) * W + x) = ((y * W + x : Nat) : Int) := by push_cast; rfl
      rw [this, Int.toNat_natCast]
    rw [e]
    refine k.step hn x y (by omega) (by omega) fun x' y' hx' hy' => ?_
    rw [h x' y' hx' hy']
    congr 2 <;> exact decide_eq_decide.2 (by omega)
  · rename_i hr
    refine k.cong fun x' y' hx' hy' => ?_
    rw [h x' y' hx' hy']
    have : (decide ((x' : Int) = x) && decide ((y' : Int) = y)) = false := by
      apply Bool.eq_false_iff.2
      intro hh
      simp only [Bool.and_eq_true, decide_eq_true_eq] at hh
      apply hr
      unfold rng
      simp only [Bool.and_eq_true, decide_eq_true_eq]
      omega
    rw [this, Bool.or_false]
/-! ### Good sheets -/
def goodSheet (s : GSheet) : Bool := rng s.Wide 1 24 && rng s.High 1 24 && ((s.Pixels.length : Int) == IntKind.i64.wrap (s.Wide * s.High)) && s.Pixels.all fun p => rng p 0 16777215
theorem specGS_l0 : ∀ (r : List Int) (i : Nat), p_spec_GoodSheet_l0 r i = some (if (r.all fun p => rng p 0 16777215) = true then .out () else .ret false)
  | [], i => by simp [p_spec_GoodSheet_l0]
  | x :: r, i => by
    rw [p_spec_GoodSheet_l0, p_spec_l20Color, Option.bind_some]
    by_cases c : rng x 0 16777215 = true
    · rw [if_pos c, specGS_l0 r (i + 1)]; simp [c]
    · rw [if_neg c]; simp [c]
theorem specGS (s : GSheet) : p_spec_GoodSheet s = some (goodSheet s) := by
  have j0 : ∀ b, p_spec_GoodSheet_j0 s b = some (!b && s.Pixels.all fun p => rng p 0 16777215) := fun b => by
    unfold p_spec_GoodSheet_j0
    cases b with
    | true => simp
    | false =>
      rw [if_neg (by simp), specGS_l0, Option.bind_some]
      cases h : (s.Pixels.all fun p => rng p 0 16777215) with
      | true => simp
      | false => simp
  unfold p_spec_GoodSheet goodSheet
  by_cases c1 : rng s.Wide 1 24 = true
  · rw [if_pos c1]
    by_cases c2 : rng s.High 1 24 = true
    · rw [if_pos c2, j0, Bool.not_not]; simp [c1, c2]
    · rw [if_neg c2, j0]; simp [c2]
  · rw [if_neg c1, j0]; simp [c1]
theorem implGS_l0 : ∀ (r : List Int) (i : Nat), p_slices_IndexFunc_int_int_l0 (fun x0_ => p_impl_GoodSheet_1 x0_) r i = some (if (r.all fun p => rng p 0 16777215) = true then .out () else .ret ((i + (r.findIdx fun p => !(rng p 0 16777215)) : Nat) : Int))
  | [], i => by simp [p_slices_IndexFunc_int_int_l0]
  | x :: r, i => by
    rw [p_slices_IndexFunc_int_int_l0, p_impl_GoodSheet_1, p_impl_isColor, Option.bind_some, Option.bind_some]
    by_cases c : rng x 0 16777215 = true
    · rw [if_neg (by simp [c]), implGS_l0 r (i + 1)]
      simp only [List.all_cons, c, Bool.true_and, List.findIdx_cons, Bool.not_true, cond_false]
      congr 1
      split
      · rfl
      · congr 1; omega
    · rw [if_pos (by simp [c])]; simp [c, List.findIdx_cons]
theorem implGS (s : GSheet) : p_impl_GoodSheet s = some (goodSheet s) := by
  unfold p_impl_GoodSheet goodSheet
  by_cases c1 : rng s.Wide 1 24 = true
  · rw [if_pos c1]
    by_cases c2 : rng s.High 1 24 = true
    · rw [if_pos c2]
      by_cases c3 : (s.Pixels.length : Int) = IntKind.i64.wrap (s.Wide * s.High)
      · rw [if_pos c3]
        unfold p_slices_ContainsFunc_int_int p_slices_IndexFunc_int_int
        rw [implGS_l0, Option.bind_some]
        cases h : (s.Pixels.all fun p => rng p 0 16777215) with
        | true => simp [c1, c2, c3]
        | false => simp
      · rw [if_neg c3]; simp [c3]
    · rw [if_neg c2]; simp [c2]
  · rw [if_neg c1]; simp [c1]
theorem goodSheet_bd {s : GSheet} (h : goodSheet s = true) : ∃ W H : Nat, s.Wide = W ∧ s.High = H ∧ 1 ≤ W ∧ W ≤ 24 ∧ 1 ≤ H ∧ H ≤ 24 ∧ s.Pixels.length = W * H ∧ s.Pixels.length ≤ 576 := by
  simp only [goodSheet, rng, Bool.and_eq_true, decide_eq_true_eq, beq_iff_eq] at h
  obtain ⟨⟨⟨⟨a1, a2⟩, b1, b2⟩, c1⟩, _⟩ := h
  obtain ⟨W, hW⟩ := Int.eq_ofNat_of_zero_le (a := s.Wide) (by omega)
  obtain ⟨H, hH⟩ := Int.eq_ofNat_of_zero_le (a := s.High) (by omega)
  rw [hW] at a1 a2 c1; rw [hH] at b1 b2 c1
  have e : ((W : Int) * H) = ((W * H : Nat) : Int) := by push_cast; rfl
  have hm : W * H ≤ 24 * 24 := Nat.mul_le_mul (by omega) (by omega)
  rw [e, wI _ (by omega) (by omega)] at c1
  exact ⟨W, H, hW, hH, by omega, by omega, by omega, by omega, by omega, by omega⟩
/-! ### Boxes -/
def inB (b : GPlaced) (x y : Nat) : Bool := decide (b.X ≤ x ∧ (x : Int) < b.X + b.W ∧ b.Y ≤ y ∧ (y : Int) < b.Y + b.H)
def boxB (b : GPlaced) : Bool := rng b.X (-10000) 10000 && rng b.Y (-10000) 10000 && rng b.W 0 10000 && rng b.H 0 10000
theorem specBox (b : GPlaced) : p_spec_l20Box b = some (boxB b) := by
  unfold p_spec_l20Box boxB
  by_cases c1 : rng b.X (-10000) 10000 = true
  · by_cases c2 : rng b.Y (-10000) 10000 = true
    · by_cases c3 : rng b.W 0 10000 = true
      · simp [c1, c2, c3]
      · simp [c1, c2, c3]
    · simp [c1, c2]
  · simp [c1]
theorem implBox (b : GPlaced) : p_impl_isBox b = some (boxB b) := by
  unfold p_impl_isBox boxB p_impl_isRoom
  by_cases c1 : rng b.X (-10000) 10000 = true
  · by_cases c2 : rng b.Y (-10000) 10000 = true
    · by_cases c3 : rng b.W 0 10000 = true
      · simp [c1, c2, c3]
      · simp [c1, c2, c3]
    · simp [c1, c2]
  · simp [c1]
section
variable {W H : Nat} (h1 : 1 ≤ W) (h2 : W ≤ 24) (h3 : 1 ≤ H) (h4 : H ≤ 24) {P : List Int} (hn : P.length = W * H) {b : GPlaced} (hb : boxB b = true) (c : Int)
include h1 h2 h3 h4 hn hb
theorem specB_l1 {px : List Int} (y : Nat) (hy : y < H) : ∀ (M x : Nat) (L : List Int), W - x < M → x ≤ W → Pt W H P c L (fun x' y' => inB b x' y' && (decide (y' < y) || (decide (y' = y) && decide (x' < x)))) →
    ∃ L', p_spec_PaintBox_l1 ⟨W, H, px⟩ b c y M x L = some ((W : Int), L') ∧ Pt W H P c L' (fun x' y' => inB b x' y' && decide (y' < y + 1))
  | 0, x, L, h, _, _ => by omega
  | M + 1, x, L, h, hx, hp => by
    have hb' : (-10000 ≤ b.X ∧ b.X ≤ 10000) ∧ (-10000 ≤ b.Y ∧ b.Y ≤ 10000) ∧ (0 ≤ b.W ∧ b.W ≤ 10000) ∧ (0 ≤ b.H ∧ b.H ≤ 10000) := by simpa [boxB, rng, and_assoc] using hb
    have hll : L.length = W * H := by rw [hp.1, hn]
    rw [p_spec_PaintBox_l1]
    simp only []
    by_cases cx : (x : Int) < W
    · rw [if_pos cx, wI (b.X + b.W) (by omega) (by omega), wI (b.X + b.W - 1) (by omega) (by omega), wI (b.Y + b.H) (by omega) (by omega), wI (b.Y + b.H - 1) (by omega) (by omega)]
      have hnext : ∀ L2, Pt W H P c L2 (fun x' y' => inB b x' y' && (decide (y' < y) || (decide (y' = y) && decide (x' < x + 1)))) → ∃ L', p_spec_PaintBox_l1 ⟨W, H, px⟩ b c y M (IntKind.i64.wrap ((x : Int) + 1)) L2 = some ((W : Int), L') ∧ Pt W H P c L' (fun x' y' => inB b x' y' && decide (y' < y + 1)) := fun L2 hp2 => by
        rw [wI _ (by omega) (by omega), show (x : Int) + 1 = ((x + 1 : Nat) : Int) by omega]
        exact specB_l1 y hy M (x + 1) L2 (by omega) (by omega) hp2
      by_cases cin : rng x b.X (b.X + b.W - 1) = true ∧ rng y b.Y (b.Y + b.H - 1) = true
      · rw [if_pos cin.1, cin.2]
        unfold p_spec_PaintBox_j1
        rw [if_pos rfl]
        have hpu := specPut_eq h1 h2 h3 h4 hll x y c
        simp only []
        rw [hpu, Option.bind_some]
        have k : (b.X ≤ x ∧ (x : Int) ≤ b.X + b.W - 1) ∧ (b.Y ≤ y ∧ (y : Int) ≤ b.Y + b.H - 1) := by simpa [rng] using cin
        refine hnext _ (hp.put hn x y fun x' y' hx' hy' => ?_)
        rw [Bool.eq_iff_iff]; simp only [inB, Bool.and_eq_true, Bool.or_eq_true, decide_eq_true_eq]; omega
      · have hj : ∀ bb, (if rng (x : Int) b.X (b.X + b.W - 1) = true then p_spec_PaintBox_j1 ⟨W, H, px⟩ c y x L (p_spec_PaintBox_l1 ⟨W, H, px⟩ b c y M) (rng y b.Y (b.Y + b.H - 1)) else p_spec_PaintBox_j1 ⟨W, H, px⟩ c y x L (p_spec_PaintBox_l1 ⟨W, H, px⟩ b c y M) false) = bb → bb = p_spec_PaintBox_l1 ⟨W, H, px⟩ b c y M (IntKind.i64.wrap ((x : Int) + 1)) L := fun bb hbb => by
          rw [← hbb]
          by_cases c1 : rng (x : Int) b.X (b.X + b.W - 1) = true
          · rw [if_pos c1]
            have c2 : rng (y : Int) b.Y (b.Y + b.H - 1) = false := by
              cases hc : rng (y : Int) b.Y (b.Y + b.H - 1) with
              | false => rfl
              | true => exact absurd ⟨c1, hc⟩ cin
            rw [c2]; unfold p_spec_PaintBox_j1; rw [if_neg (by simp)]
          · rw [if_neg c1]; unfold p_spec_PaintBox_j1; rw [if_neg (by simp)]
        rw [hj _ rfl]
        refine hnext _ (hp.cong fun x' y' hx' hy' => ?_)
        have k : ¬ ((b.X ≤ x ∧ (x : Int) ≤ b.X + b.W - 1) ∧ (b.Y ≤ y ∧ (y : Int) ≤ b.Y + b.H - 1)) := by simpa [rng] using cin
        rw [Bool.eq_iff_iff]; simp only [inB, Bool.and_eq_true, Bool.or_eq_true, decide_eq_true_eq]; omega
    · rw [if_neg cx]
      refine ⟨L, by rw [show (x : Int) = W by omega], hp.cong fun x' y' hx' hy' => ?_⟩
      rw [Bool.eq_iff_iff]; simp only [inB, Bool.and_eq_true, Bool.or_eq_true, decide_eq_true_eq]; omega
theorem specB_l0 {px : List Int} (N : Nat) (hN : 100 < N) : ∀ (M y : Nat) (L : List Int), H - y < M → y ≤ H → Pt W H P c L (fun x' y' => inB b x' y' && decide (y' < y)) →
    ∃ L', p_spec_PaintBox_l0 N ⟨W, H, px⟩ b c M y L = some ((H : Int), L') ∧ Pt W H P c L' (inB b)
  | 0, y, L, h, _, _ => by omega
  | M + 1, y, L, h, hy, hp => by
    rw [p_spec_PaintBox_l0]
    simp only []
    by_cases cy : (y : Int) < H
    · rw [if_pos cy]
      obtain ⟨L', e1, e2⟩ := specB_l1 h1 h2 h3 h4 hn hb c (px := px) y (by omega) N 0 L (by omega) (Nat.zero_le _) (hp.cong fun x' y' hx' hy' => by
        rw [Bool.eq_iff_iff]; simp only [inB, Bool.and_eq_true, Bool.or_eq_true, decide_eq_true_eq]; omega)
      rw [show ((0 : Nat) : Int) = 0 from rfl] at e1
      rw [e1, Option.bind_some]
      simp only []
      rw [wI _ (by omega) (by omega), show (y : Int) + 1 = ((y + 1 : Nat) : Int) by omega]
      exact specB_l0 N hN M (y + 1) L' (by omega) (by omega) e2
    · rw [if_neg cy]
      refine ⟨L, by rw [show (y : Int) = H by omega], hp.cong fun x' y' hx' hy' => ?_⟩
      rw [Bool.eq_iff_iff]; simp only [inB, Bool.and_eq_true, Bool.or_eq_true, decide_eq_true_eq]; omega
theorem implB_l1 {px : List Int} (v : GSheet) (hv : v.Wide = W ∧ v.High = H) (y : Nat) (hy : y < H) (hy1 : b.Y ≤ y ∧ (y : Int) < b.Y + b.H) : ∀ (M x : Nat) (L : List Int), W - x < M → b.X ≤ x → Pt W H P c L (fun x' y' => inB b x' y' && (decide (y' < y) || (decide (y' = y) && decide (x' < x)))) →
    ∃ z L', p_impl_PaintBox_l1 ⟨W, H, px⟩ b c v y M x L = some (z, L') ∧ Pt W H P c L' (fun x' y' => inB b x' y' && decide (y' < y + 1))
  | 0, x, L, h, _, _ => by omega
  | M + 1, x, L, h, hx, hp => by
    have hb' : (-10000 ≤ b.X ∧ b.X ≤ 10000) ∧ (-10000 ≤ b.Y ∧ b.Y ≤ 10000) ∧ (0 ≤ b.W ∧ b.W ≤ 10000) ∧ (0 ≤ b.H ∧ b.H ≤ 10000) := by simpa [boxB, rng, and_assoc] using hb
    have hll : L.length = W * H := by rw [hp.1, hn]
    rw [p_impl_PaintBox_l1]
    simp only []
    rw [wI (b.X + b.W) (by omega) (by omega)]
    by_cases cx : (x : Int) < (if (W : Int) < b.X + b.W then (W : Int) else b.X + b.W)
    · rw [if_pos cx]
      have hxw : x < W ∧ (x : Int) < b.X + b.W := by split at cx <;> omega
      have hpu := implPut_eq h1 h2 h3 h4 hll x y c
      rw [hv.1, hv.2, hpu, Option.bind_some, wI _ (by omega) (by omega), show (x : Int) + 1 = ((x + 1 : Nat) : Int) by omega]
      refine implB_l1 v hv y hy hy1 M (x + 1) _ (by omega) (by omega) (hp.put hn x y fun x' y' hx' hy' => ?_)
      rw [Bool.eq_iff_iff]; simp only [inB, Bool.and_eq_true, Bool.or_eq_true, decide_eq_true_eq]; omega
    · rw [if_neg cx]
      have hxw : W ≤ x ∨ b.X + b.W ≤ (x : Int) := by split at cx <;> omega
      refine ⟨_, L, rfl, hp.cong fun x' y' hx' hy' => ?_⟩
      rw [Bool.eq_iff_iff]; simp only [inB, Bool.and_eq_true, Bool.or_eq_true, decide_eq_true_eq]; omega
theorem implB_l0 {px : List Int} (v : GSheet) (hv : v.Wide = W ∧ v.High = H) (N : Nat) (hN : 100 < N) (x0 : Nat) (hx0 : (if (0 : Int) > b.X then 0 else b.X) = x0) : ∀ (M y : Nat) (L : List Int), H - y < M → b.Y ≤ y → Pt W H P c L (fun x' y' => inB b x' y' && decide (y' < y)) →
    ∃ z L', p_impl_PaintBox_l0 N ⟨W, H, px⟩ b c v M y L = some (z, L') ∧ Pt W H P c L' (inB b)
  | 0, y, L, h, _, _ => by omega
  | M + 1, y, L, h, hy, hp => by
    have hb' : (-10000 ≤ b.X ∧ b.X ≤ 10000) ∧ (-10000 ≤ b.Y ∧ b.Y ≤ 10000) ∧ (0 ≤ b.W ∧ b.W ≤ 10000) ∧ (0 ≤ b.H ∧ b.H ≤ 10000) := by simpa [boxB, rng, and_assoc] using hb
    have hx0' : b.X ≤ x0 ∧ ((x0 : Int) = 0 ∨ (x0 : Int) = b.X) := by split at hx0 <;> omega
    rw [p_impl_PaintBox_l0]
    simp only []
    rw [wI (b.Y + b.H) (by omega) (by omega), hx0]
    by_cases cy : (y : Int) < (if (H : Int) < b.Y + b.H then (H : Int) else b.Y + b.H)
    · rw [if_pos cy]
      have hyh : y < H ∧ (y : Int) < b.Y + b.H := by split at cy <;> omega
      obtain ⟨z, L', e1, e2⟩ := implB_l1 h1 h2 h3 h4 hn hb c (px := px) v hv y hyh.1 ⟨hy, hyh.2⟩ N x0 L (by omega) hx0'.1 (hp.cong fun x' y' hx' hy' => by
        rw [Bool.eq_iff_iff]; simp only [inB, Bool.and_eq_true, Bool.or_eq_true, decide_eq_true_eq]; omega)
      rw [e1, Option.bind_some]
      simp only []
      rw [wI _ (by omega) (by omega), show (y : Int) + 1 = ((y + 1 : Nat) : Int) by omega]
      exact implB_l0 v hv N hN x0 hx0 M (y + 1) L' (by omega) (by omega) e2
    · rw [if_neg cy]
      have hyh : H ≤ y ∨ b.Y + b.H ≤ (y : Int) := by split at cy <;> omega
      refine ⟨_, L, rfl, hp.cong fun x' y' hx' hy' => ?_⟩
      rw [Bool.eq_iff_iff]; simp only [inB, Bool.and_eq_true, Bool.or_eq_true, decide_eq_true_eq]; omega
end
theorem paintBox_eq (N : Nat) (hN : 100 < N) (s : GSheet) (b : GPlaced) (c : Int) : ∃ r ok, p_spec_PaintBox N s b c = some (r, ok) ∧ p_impl_PaintBox N s b c = some (r, ok) ∧ r.Pixels.length ≤ 576 := by
  unfold p_spec_PaintBox p_impl_PaintBox
  rw [specGS, implGS, Option.bind_some, Option.bind_some, specBox, implBox, Option.bind_some, Option.bind_some, p_spec_l20Color, p_impl_isColor, Option.bind_some, Option.bind_some]
  have bad : p_spec_PaintBox_j0 N s b c true = some (⟨0, 0, []⟩, false) ∧ p_impl_PaintBox_j0 N s b c true = some (⟨0, 0, []⟩, false) := by
    unfold p_spec_PaintBox_j0 p_impl_PaintBox_j0; exact ⟨if_pos rfl, if_pos rfl⟩
  by_cases g : goodSheet s = true
  · rw [if_pos g, if_pos g]
    by_cases hb : boxB b = true
    · rw [if_pos hb, if_pos hb]
      cases hc : rng c 0 16777215 with
      | false => exact ⟨_, _, bad.1, bad.2, by decide⟩
      | true =>
        obtain ⟨W, H, e1, e2, w1, w2, w3, w4, w5, w6⟩ := goodSheet_bd g
        obtain ⟨sW, sH, P⟩ := s
        simp only at e1 e2 w5 w6
        subst e1; subst e2
        have hb' : (-10000 ≤ b.X ∧ b.X ≤ 10000) ∧ (-10000 ≤ b.Y ∧ b.Y ≤ 10000) ∧ (0 ≤ b.W ∧ b.W ≤ 10000) ∧ (0 ≤ b.H ∧ b.H ≤ 10000) := by simpa [boxB, rng, and_assoc] using hb
        obtain ⟨x0, hx0⟩ : ∃ x0 : Nat, (if (0 : Int) > b.X then 0 else b.X) = x0 := Int.eq_ofNat_of_zero_le (by split <;> omega)
        obtain ⟨y0, hy0⟩ : ∃ y0 : Nat, (if (0 : Int) > b.Y then 0 else b.Y) = y0 := Int.eq_ofNat_of_zero_le (by split <;> omega)
        have hy0' : b.Y ≤ y0 ∧ ((y0 : Int) = 0 ∨ (y0 : Int) = b.Y) := by split at hy0 <;> omega
        obtain ⟨L1, a1, a2⟩ := specB_l0 w1 w2 w3 w4 w5 hb c (px := P) N hN N 0 P (by omega) (Nat.zero_le _) (Pt.zero fun x y _ _ => by simp)
        obtain ⟨z, L2, a3, a4⟩ := implB_l0 w1 w2 w3 w4 w5 hb c (px := P) ⟨W, H, P⟩ ⟨rfl, rfl⟩ N hN x0 hx0 N y0 P (by omega) hy0'.1 (Pt.zero fun x y _ _ => by
          unfold inB; rw [Bool.and_eq_false_iff]; simp only [decide_eq_false_iff_not]; omega)
        have hL : L2 = L1 := a4.uniq (by omega) w5 a2
        rw [show ((0 : Nat) : Int) = 0 from rfl] at a1
        refine ⟨⟨W, H, L1⟩, true, ?_, ?_, ?_⟩
        · unfold p_spec_PaintBox_j0
          rw [if_neg (by simp)]
          simp only []
          rw [if_pos (by omega), a1, Option.bind_some]
        · unfold p_impl_PaintBox_j0 p_impl_Sheet_clone p_slices_Clone_int_int
          rw [if_neg (by simp)]
          simp only []
          rw [if_pos (by omega), Option.bind_some, Option.bind_some, hy0]
          simp only []
          rw [a3, Option.bind_some, hL]
        · show L1.length ≤ 576; rw [a2.1]; exact w6
    · rw [if_neg hb, if_neg hb]; exact ⟨_, _, bad.1, bad.2, by decide⟩
  · rw [if_neg g, if_neg g]; exact ⟨_, _, rfl, rfl, by decide⟩
/-! ### Lines -/
theorem down_eq (a b : Int) (hb : 0 < b) : p_spec_l1Down a b = p_impl_down a b := by
  unfold p_spec_l1Down p_impl_down
  have hb0 : b ≠ 0 := by omega
  have hd : decide (b < 0) = false := by simp; omega
  rw [if_pos hb0, if_pos hb0, hd]
  by_cases h0 : Int.tmod a b = 0
  · rw [if_pos h0, if_neg (show ¬ Int.tmod a b < 0 by omega)]
  · rw [if_neg h0]
    by_cases ha : a < 0
    · have hm : Int.tmod a b < 0 := by
        have e : Int.tmod a b = -(Int.tmod (-a) b) := by rw [Int.neg_tmod]; omega
        have := Int.tmod_nonneg b (show 0 ≤ -a by omega)
        omega
      rw [if_neg (by simp [ha]), if_pos hm]
    · have hm : 0 ≤ Int.tmod a b := Int.tmod_nonneg b (by omega)
      rw [if_pos (by simp [ha]), if_neg (show ¬ Int.tmod a b < 0 by omega)]
section
variable {W H : Nat} (h1 : 1 ≤ W) (h2 : W ≤ 24) (h3 : 1 ≤ H) (h4 : H ≤ 24) {P : List Int} (x0 y0 x1 y1 c n : Int) (hn0 : 0 < n) (hn1 : n ≤ 20000)
include h1 h2 h3 h4 hn0 hn1
theorem line_eq (v : GSheet) (hv : v.Wide = W ∧ v.High = H) (v5 v6 : Int) (hv6 : (if v6 > v5 then v6 else v5) = n) : ∀ (M k : Nat) (L : List Int), n + 1 - k < M → (k : Int) ≤ n + 1 → L.length = W * H →
    ∃ z L', p_spec_PaintLine_l1 ⟨W, H, P⟩ x0 y0 x1 y1 c n M k L = some (z, L') ∧ p_impl_PaintLine_l0 x0 y0 x1 y1 c v v5 v6 M k L = some (z, L') ∧ L'.length = W * H
  | 0, k, L, h, _, _ => by omega
  | M + 1, k, L, h, hk, hl => by
    rw [p_spec_PaintLine_l1, p_impl_PaintLine_l0, hv6]
    by_cases ck : (k : Int) ≤ n
    · rw [if_pos ck, if_pos ck, if_neg (show ¬ n = 0 by omega)]
      have hd : decide (n > 0) = true := by simpa using hn0
      rw [hd]
      unfold p_spec_PaintLine_j3
      rw [if_pos rfl]
      have hw : IntKind.i64.wrap (2 * n) = 2 * n := wI _ (by omega) (by omega)
      rw [hw, down_eq _ _ (show 0 < 2 * n by omega), down_eq _ _ (show 0 < 2 * n by omega)]
      have some1 : ∀ a, ∃ q, p_impl_down a (2 * n) = some q := fun a => by
        unfold p_impl_down; rw [if_pos (show 2 * n ≠ 0 by omega)]; split <;> exact ⟨_, rfl⟩
      obtain ⟨q1, hq1⟩ := some1 (IntKind.i64.wrap ((IntKind.i64.wrap ((IntKind.i64.wrap (2 * k)) * (IntKind.i64.wrap (x1 - x0)))) + n))
      obtain ⟨q2, hq2⟩ := some1 (IntKind.i64.wrap ((IntKind.i64.wrap ((IntKind.i64.wrap (2 * k)) * (IntKind.i64.wrap (y1 - y0)))) + n))
      rw [hq1, hq2]
      simp only [Option.bind_some]
      rw [hv.1, hv.2, specPut_eq h1 h2 h3 h4 hl, implPut_eq h1 h2 h3 h4 hl]
      simp only [Option.bind_some]
      rw [wI ((k : Int) + 1) (by omega) (by omega), show (k : Int) + 1 = ((k + 1 : Nat) : Int) by omega]
      exact line_eq v hv v5 v6 hv6 M (k + 1) _ (by omega) (by omega) (by rw [putP_len]; exact hl)
    · rw [if_neg ck, if_neg ck]
      unfold p_spec_PaintLine_j3
      exact ⟨_, L, if_neg (by simp), rfl, hl⟩
end
def room (n : Int) : Bool := rng n (-10000) 10000
theorem abs_eq {n : Int} (h : -20000 ≤ n ∧ n ≤ 20000) : ∃ a, p_spec_l1Abs n = some a ∧ p_impl_size n = some a ∧ 0 ≤ a ∧ a ≤ 20000 := by
  unfold p_spec_l1Abs p_impl_size
  rw [wI (0 - n) (by omega) (by omega)]
  by_cases c : n < 0
  · rw [if_pos c, if_pos (show 0 - n > n by omega)]; exact ⟨_, rfl, rfl, by omega, by omega⟩
  · rw [if_neg c, if_neg (show ¬ 0 - n > n by omega)]; exact ⟨_, rfl, rfl, by omega, by omega⟩
theorem specRooms (x0 y0 x1 y1 : Int) : p_spec_PaintLine_l0 [x0, y0, x1, y1] 0 = some (if (room x0 && room y0 && room x1 && room y1) = true then .out () else .ret (⟨0, 0, []⟩, false)) := by
  unfold room
  cases c1 : rng x0 (-10000) 10000 <;> cases c2 : rng y0 (-10000) 10000 <;> cases c3 : rng x1 (-10000) 10000 <;> cases c4 : rng y1 (-10000) 10000 <;> simp [p_spec_PaintLine_l0, c1, c2, c3, c4]
theorem paintLine_eq (N : Nat) (hN : 20010 < N) (s : GSheet) (x0 y0 x1 y1 c : Int) : ∃ r ok, p_spec_PaintLine N s x0 y0 x1 y1 c = some (r, ok) ∧ p_impl_PaintLine N s x0 y0 x1 y1 c = some (r, ok) ∧ r.Pixels.length ≤ 576 := by
  have badI : p_impl_PaintLine_j0 N s x0 y0 x1 y1 c true = some (⟨0, 0, []⟩, false) := by unfold p_impl_PaintLine_j0; exact if_pos rfl
  have badS : p_spec_PaintLine_j0 N s x0 y0 x1 y1 c true = some (⟨0, 0, []⟩, false) := by unfold p_spec_PaintLine_j0; exact if_pos rfl
  have hI : p_impl_PaintLine N s x0 y0 x1 y1 c = if goodSheet s = true then p_impl_PaintLine_j0 N s x0 y0 x1 y1 c (!(room x0 && room y0 && room x1 && room y1 && rng c 0 16777215)) else some (⟨0, 0, []⟩, false) := by
    unfold p_impl_PaintLine p_impl_isRoom p_impl_isColor room
    rw [implGS, Option.bind_some]
    by_cases g : goodSheet s = true
    · rw [if_pos g, if_pos g]
      cases c1 : rng x0 (-10000) 10000 <;> cases c2 : rng y0 (-10000) 10000 <;> cases c3 : rng x1 (-10000) 10000 <;> cases c4 : rng y1 (-10000) 10000 <;> simp [badI]
    · rw [if_neg g, if_neg g]; exact badI
  rw [hI]
  unfold p_spec_PaintLine
  rw [specGS, Option.bind_some]
  by_cases g : goodSheet s = true
  · rw [if_pos g, if_pos g, p_spec_l20Color, Option.bind_some]
    cases hc : rng c 0 16777215 with
    | false => simp only [Bool.and_false, Bool.not_false, badI, badS]; exact ⟨_, _, rfl, rfl, by decide⟩
    | true =>
      cases hr : (room x0 && room y0 && room x1 && room y1) with
      | false =>
        refine ⟨⟨0, 0, []⟩, false, ?_, by simp only [Bool.false_and, Bool.not_false, badI], by decide⟩
        unfold p_spec_PaintLine_j0
        rw [if_neg (by simp), specRooms, hr, Option.bind_some]
        simp
      | true =>
        obtain ⟨W, H, e1, e2, w1, w2, w3, w4, w5, w6⟩ := goodSheet_bd g
        obtain ⟨sW, sH, P⟩ := s
        simp only at e1 e2 w5 w6
        subst e1; subst e2
        have hr' : ((-10000 ≤ x0 ∧ x0 ≤ 10000) ∧ (-10000 ≤ y0 ∧ y0 ≤ 10000)) ∧ (-10000 ≤ x1 ∧ x1 ≤ 10000) ∧ (-10000 ≤ y1 ∧ y1 ≤ 10000) := by simpa [room, rng, and_assoc] using hr
        obtain ⟨a, a1, a2, a3, a4⟩ := abs_eq (n := x1 - x0) (by omega)
        obtain ⟨d, d1, d2, d3, d4⟩ := abs_eq (n := y1 - y0) (by omega)
        have wx : IntKind.i64.wrap (x1 - x0) = x1 - x0 := wI _ (by omega) (by omega)
        have wy : IntKind.i64.wrap (y1 - y0) = y1 - y0 := wI _ (by omega) (by omega)
        obtain ⟨n, hn⟩ : ∃ n, n = (if d > a then d else a) := ⟨_, rfl⟩
        have hn' : 0 ≤ n ∧ n ≤ 20000 := by rw [hn]; split <;> omega
        have hj1 : (if d > a then p_spec_PaintLine_j1 N ⟨W, H, P⟩ x0 y0 x1 y1 c d else p_spec_PaintLine_j1 N ⟨W, H, P⟩ x0 y0 x1 y1 c a) = p_spec_PaintLine_j1 N ⟨W, H, P⟩ x0 y0 x1 y1 c n := by
          rw [hn]; split <;> rfl
        obtain ⟨N', rfl⟩ : ∃ N', N = N' + 1 := ⟨N - 1, by omega⟩
        have main : ∃ z L', L'.length = W * H ∧ p_spec_PaintLine_j1 (N' + 1) ⟨W, H, P⟩ x0 y0 x1 y1 c n = some (⟨W, H, L'⟩, true) ∧ p_impl_PaintLine_l0 x0 y0 x1 y1 c ⟨W, H, P⟩ a d (N' + 1) 0 P = some (z, L') := by
          by_cases z0 : n = 0
          · refine ⟨0, putP W H P x0 y0 c, by rw [putP_len]; exact w5, ?_, ?_⟩
            · unfold p_spec_PaintLine_j1 p_spec_PaintLine_j2
              rw [if_pos z0, specPut_eq w1 w2 w3 w4 w5, Option.bind_some, p_spec_PaintLine_l1, if_pos (by omega)]
              have hd : decide (n > 0) = false := by simp; omega
              rw [hd]
              unfold p_spec_PaintLine_j3
              rw [if_neg (by simp), Option.bind_some]
            · rw [p_impl_PaintLine_l0, ← hn, if_pos (by omega), if_pos z0]
              simp only []
              rw [implPut_eq w1 w2 w3 w4 w5, Option.bind_some]
          · obtain ⟨z, L', g1, g2, g3⟩ := line_eq w1 w2 w3 w4 (P := P) x0 y0 x1 y1 c n (by omega) hn'.2 ⟨W, H, P⟩ ⟨rfl, rfl⟩ a d hn.symm (N' + 1) 0 P (by omega) (by omega) w5
            rw [show ((0 : Nat) : Int) = 0 from rfl] at g1 g2
            refine ⟨z, L', g3, ?_, g2⟩
            unfold p_spec_PaintLine_j1 p_spec_PaintLine_j2
            rw [if_neg z0, g1, Option.bind_some]
        obtain ⟨z, L', m1, m2, m3⟩ := main
        refine ⟨⟨W, H, L'⟩, true, ?_, ?_, by show L'.length ≤ 576; omega⟩
        · unfold p_spec_PaintLine_j0
          rw [if_neg (by simp), specRooms, hr, Option.bind_some]
          simp only [if_true]
          rw [if_pos (by omega), wx, wy, a1, d1, Option.bind_some, Option.bind_some, hj1, m2]
        · unfold p_impl_PaintLine_j0 p_impl_Sheet_clone p_slices_Clone_int_int
          rw [if_neg (by simp)]
          simp only []
          rw [if_pos (by omega), Option.bind_some, Option.bind_some, wx, wy, a2, d2, Option.bind_some, Option.bind_some]
          simp only []
          rw [m3, Option.bind_some]
  · rw [if_neg g, if_neg g, badS]; exact ⟨_, _, rfl, rfl, by decide⟩
end Go.Av
