/- What printed functions are made of, and the loop's rule for printed walks. -/
import Derived.Test.YtbldpkglmjajlaaBYf
set_option linter.unusedSimpArgs false
set_option linter.unusedVariables false
/-! What printed functions are made of, and the loop's rule for printed walks. -/
namespace Go.Av
/-- An element, or nothing: where the program would panic. -/
def idx {α : Type} (l : List α) (j : Int) : Option α := if 0 ≤ j then l[j.toNat]? else none
theorem idx_lo {α : Type} {l : List α} {j : Int} {x : α} (h : idx l j = some x) : 0 ≤ j := by
  unfold idx at h; split at h
  · assumption
  · cases h
theorem idx_get {α : Type} {l : List α} {j : Int} {x : α} (h : idx l j = some x) : l[j.toNat]? = some x := by
  unfold idx at h; split at h
  · assumption
  · cases h
theorem idx_hi {α : Type} {l : List α} {j : Int} {x : α} (h : idx l j = some x) : j < l.length := by
  have h1 := idx_lo h
  have := (List.getElem?_eq_some_iff.1 (idx_get h)).1
  omega
theorem idx_nat {α : Type} {l : List α} {j : Int} {x : α} (h : idx l j = some x) : j.toNat < l.length := (List.getElem?_eq_some_iff.1 (idx_get h)).1
theorem idx_elem {α : Type} {l : List α} {j : Int} {x : α} (h : idx l j = some x) : l[j.toNat]'(idx_nat h) = x := (List.getElem?_eq_some_iff.1 (idx_get h)).2
theorem idx_of {α : Type} {l : List α} {i : Nat} (h : i < l.length) : idx l (i : Int) = some l[i] := by
  unfold idx; rw [if_pos (by omega), Int.toNat_natCast]; exact List.getElem?_eq_getElem h
/-- A byte of a text. -/
def bidx (s : ByteArray) (j : Int) : Option Int := if 0 ≤ j ∧ j < s.size then some (byteAt s j) else none
theorem bidx_ok {s : ByteArray} {j x : Int} (h : bidx s j = some x) : (0 ≤ j ∧ j < s.size) ∧ byteAt s j = x := by
  unfold bidx at h; split at h
  · cases h; exact ⟨by assumption, rfl⟩
  · cases h
/-- How a printed loop ends: the function comes back, or the loop is left. -/
inductive LR (ρ σ : Type) where
  | ret (r : ρ)
  | out (s : σ)
/-- A part of a text. -/
def bslc (s : ByteArray) (a b : Int) : Option ByteArray := if 0 ≤ a ∧ a ≤ b ∧ b ≤ s.size then some (s.extract a.toNat b.toNat) else none
theorem bslc_ok {s m : ByteArray} {a b : Int} (h : bslc s a b = some m) : (0 ≤ a ∧ a ≤ b ∧ b ≤ s.size) ∧ s.extract a.toNat b.toNat = m := by
  unfold bslc at h
  split at h
  · rename_i c; exact ⟨c, by simpa using h⟩
  · cases h
theorem drop_cons {α : Type} {l rest : List α} {x : α} {i : Nat} (h : l.drop i = x :: rest) : i < l.length ∧ l[i]? = some x ∧ l.drop (i + 1) = rest := by
  have hi : i < l.length := by
    rcases Nat.lt_or_ge i l.length with g | g
    · exact g
    · rw [List.drop_of_length_le g] at h; cases h
  rw [List.drop_eq_getElem_cons hi] at h
  injection h with h1 h2
  exact ⟨hi, by rw [List.getElem?_eq_getElem hi, h1], h2⟩
theorem drop_nil {α : Type} {l : List α} {i : Nat} (h : l.drop i = []) : l.length ≤ i := by
  have := congrArg List.length h
  simp at this; omega
theorem drop_enc {α : Type} {enc : α → List AV} {sz : Nat} {l : List α} {x : α} {i : Nat} (hs : ∀ x, (enc x).length = sz) (h : l[i]? = some x) : (l.flatMap enc).drop (i * sz) = enc x ++ (l.drop (i + 1)).flatMap enc := by
  obtain ⟨hi, rfl⟩ := List.getElem?_eq_some_iff.1 h
  rw [flat_drop i (fun y _ => hs y), List.drop_eq_getElem_cons hi]; rfl
theorem get_enc {α : Type} {enc : α → List AV} {sz : Nat} {l : List α} {x : α} {i : Nat} (hs : ∀ x, (enc x).length = sz) (h : l[i]? = some x) {j : Nat} (hj : j < sz) : (l.flatMap enc)[i * sz + j]? = (enc x)[j]? := by
  obtain ⟨hi, rfl⟩ := List.getElem?_eq_some_iff.1 h
  exact flat_get (fun y _ => hs y) hi hj

/-- A state of which less is known. -/
def Weak (s s' : ASt) : Prop := ∀ E a w, Rel E s a w → Rel E s' a w
theorem Weak.refl (s : ASt) : Weak s s := fun _ _ _ h => h
theorem Weak.trans {a b c : ASt} (h : Weak a b) (k : Weak b c) : Weak a c := fun E x w hr => k E x w (h E x w hr)
def Back {ι : Type} (I : ι → ASt → Prop) (mu : ι → Nat) (i : ι) (s : ASt) : Prop := ∃ j s', Weak s s' ∧ I j s' ∧ mu j < mu i
theorem Back.intro {ι : Type} {I : ι → ASt → Prop} {mu : ι → Nat} {i : ι} {s : ASt} (j : ι) (hm : mu j < mu i) (h : I j s) : Back I mu i s := ⟨j, s, Weak.refl s, h, hm⟩
theorem beq_yes {a b : Int} (h : a = b) : (a == b) = true ∧ (a != b) = false ∧ decide (a = b) = true := by subst h; simp
theorem beq_no {a b : Int} (h : ¬ a = b) : (a == b) = false ∧ (a != b) = true ∧ decide (a = b) = false := by simp [h]
theorem eq_false_of_ne_true {b : Bool} (h : ¬ b = true) : b = false := by simpa using h
theorem getD_enc {α : Type} {enc : α → List AV} {sz : Nat} {l : List α} {x : α} {i : Nat} (hs : ∀ x, (enc x).length = sz) (h : l[i]? = some x) {j : Nat} (hj : j < sz) : (l.flatMap enc).getD (i * sz + j) .junk = (enc x).getD j .junk := by
  rw [List.getD_eq_getElem?_getD, get_enc hs h hj, ← List.getD_eq_getElem?_getD]
theorem set_enc {α : Type} {enc : α → List AV} {sz : Nat} {l : List α} {x y : α} {i : Nat} (hs : ∀ x, (enc x).length = sz) (h : l[i]? = some x) {j : Nat} (hj : j < sz) {v : AV} (he : (enc x).set j v = enc y) : (l.flatMap enc).set (i * sz + j) v = (l.set i y).flatMap enc := by
  obtain ⟨hi, rfl⟩ := List.getElem?_eq_some_iff.1 h
  exact flat_set (fun y _ => hs y) (hs y) hi j hj v he
mutual
def AV.fitN : AV → Prop
  | .row _ _ n _ => n ≤ 9223372036854775807
  | .agg cs => AV.fitNs cs
  | _ => True
def AV.fitNs : List AV → Prop
  | [] => True
  | c :: r => c.fitN ∧ AV.fitNs r
end
theorem fitNs_of {cs : List AV} (h : ∀ (i : Nat) (a : AV), cs[i]? = some a → a.fitN) : AV.fitNs cs := by
  induction cs with
  | nil => simp [AV.fitNs]
  | cons c r ih => exact ⟨h 0 c rfl, ih (fun i a hi => h (i + 1) a (by simpa using hi))⟩
theorem VR.fitN {w : World} {G : Nat → Prop} {m : Nat → Option HT} {a : AV} {v : Value} (h : VR w G m a v) : a.fitN := by
  induction h with
  | row0 sz A c => simp [AV.fitN]
  | row sz n c b off cs us C e fr h1 h2 h3 h4 h5 => simpa [AV.fitN] using h5
  | agg cs us hl _ ih =>
    simp only [AV.fitN]
    exact fitNs_of (fun i a hi => ih i a (us[i]'(by rw [hl]; exact (List.getElem?_eq_some_iff.1 hi).1)) hi (List.getElem?_eq_getElem _))
  | _ => simp [AV.fitN]
/-- What a call is handed is no longer than memory can be. -/
theorem Does.bnd {P : Program} {f : FuncId} {args : List AV} {res : AV} (h : AV.fitNs args → Does P f args res) : Does P f args res := fun w G vs hG hl hv =>
  h (fitNs_of (fun i a hi => (hv i a (vs[i]'(by rw [hl]; exact (List.getElem?_eq_some_iff.1 hi).1)) hi (List.getElem?_eq_getElem _)).fitN)) w G vs hG hl hv
/-- A part of a list, or nothing. -/
def slc {α : Type} (l : List α) (a b : Int) : Option (List α) := if 0 ≤ a ∧ a ≤ b ∧ b ≤ l.length then some ((l.drop a.toNat).take (b.toNat - a.toNat)) else none
theorem slc_ok {α : Type} {l m : List α} {a b : Int} (h : slc l a b = some m) : (0 ≤ a ∧ a ≤ b ∧ b ≤ l.length) ∧ (l.drop a.toNat).take (b.toNat - a.toNat) = m := by
  unfold slc at h; split at h
  · cases h; exact ⟨by assumption, rfl⟩
  · cases h
theorem slc_enc {α : Type} {enc : α → List AV} {sz : Nat} (hs : ∀ x, (enc x).length = sz) {l m : List α} {a b : Int} (h : slc l a b = some m) : ((l.flatMap enc).drop (a.toNat * sz)).take ((b.toNat - a.toNat) * sz) = m.flatMap enc := by
  obtain ⟨_, rfl⟩ := slc_ok h
  rw [flat_drop _ (fun y _ => hs y), flat_take _ (fun y _ => hs y)]
theorem slc_encL {α : Type} {enc : α → List AV} {sz : Nat} (hs : ∀ x, (enc x).length = sz) {l m : List α} {b : Int} (h : slc l 0 b = some m) : (l.flatMap enc).take (b.toNat * sz) = m.flatMap enc := by
  have := slc_enc hs h
  simpa using this
theorem slc_encH {α : Type} {enc : α → List AV} {sz : Nat} (hs : ∀ x, (enc x).length = sz) {l m : List α} {a : Int} (h : slc l a l.length = some m) : ((l.flatMap enc).drop (a.toNat * sz)).take ((l.length - a.toNat) * sz) = m.flatMap enc := by
  have := slc_enc hs h
  rwa [Int.toNat_natCast] at this
theorem slc_len {α : Type} {l m : List α} {a b : Int} (h : slc l a b = some m) : b.toNat - a.toNat = m.length := by
  obtain ⟨_, rfl⟩ := slc_ok h
  rw [List.length_take, List.length_drop]; omega
theorem slc_lenL {α : Type} {l m : List α} {b : Int} (h : slc l 0 b = some m) : b.toNat = m.length := by have := slc_len h; simpa using this
theorem slc_lenH {α : Type} {l m : List α} {a : Int} (h : slc l a l.length = some m) : l.length - a.toNat = m.length := by have := slc_len h; rwa [Int.toNat_natCast] at this
theorem slc_encM {α : Type} {enc : α → List AV} {sz : Nat} (hs : ∀ x, (enc x).length = sz) {l m : List α} {a b : Int} (h : slc l a b = some m) : ((l.flatMap enc).drop (a.toNat * sz)).take (m.length * sz) = m.flatMap enc := by
  rw [← slc_len h]; exact slc_enc hs h
theorem slc_encML {α : Type} {enc : α → List AV} {sz : Nat} (hs : ∀ x, (enc x).length = sz) {l m : List α} {b : Int} (h : slc l 0 b = some m) : (l.flatMap enc).take (m.length * sz) = m.flatMap enc := by
  rw [← slc_lenL h]; exact slc_encL hs h
theorem getD_enc0 {α : Type} {enc : α → List AV} {sz : Nat} {l : List α} {x : α} {i : Nat} (hs : ∀ x, (enc x).length = sz) (h : l[i]? = some x) (hj : 0 < sz) : (l.flatMap enc).getD (i * sz) .junk = (enc x).getD 0 .junk := getD_enc hs h (j := 0) hj
theorem set_enc0 {α : Type} {enc : α → List AV} {sz : Nat} {l : List α} {x y : α} {i : Nat} (hs : ∀ x, (enc x).length = sz) (h : l[i]? = some x) (hj : 0 < sz) {v : AV} (he : (enc x).set 0 v = enc y) : (l.flatMap enc).set (i * sz) v = (l.set i y).flatMap enc := set_enc hs h (j := 0) hj he
theorem get_enc0 {α : Type} {enc : α → List AV} {sz : Nat} {l : List α} {x : α} {i : Nat} (hs : ∀ x, (enc x).length = sz) (h : l[i]? = some x) (hj : 0 < sz) : (l.flatMap enc)[i * sz]? = (enc x)[0]? := get_enc hs h (j := 0) hj
theorem enc_lt {α : Type} {enc : α → List AV} {sz : Nat} {l : List α} {x : α} {i j : Nat} (hs : ∀ x, (enc x).length = sz) (h : l[i]? = some x) (hj : j < sz) : i * sz + j < (l.flatMap enc).length := by
  have := get_enc hs h hj
  rcases Nat.lt_or_ge (i * sz + j) (l.flatMap enc).length with g | g
  · exact g
  · rw [List.getElem?_eq_none g, List.getElem?_eq_getElem (by rw [hs]; exact hj)] at this; cases this
theorem setL_cell {α : Type} {enc : α → List AV} {sz : Nat} {l : List α} {x y : α} {i j : Nat} (hs : ∀ x, (enc x).length = sz) (h : l[i]? = some x) (hj : j < sz) {v : AV} (he : (enc x).set j v = enc y) : setL (l.flatMap enc) (i * sz + j) [v] = (l.set i y).flatMap enc := by
  rw [← setL_one _ _ (enc_lt hs h hj)]; exact set_enc hs h hj he
theorem setL_cell0 {α : Type} {enc : α → List AV} {sz : Nat} {l : List α} {x y : α} {i : Nat} (hs : ∀ x, (enc x).length = sz) (h : l[i]? = some x) (hj : 0 < sz) {v : AV} (he : (enc x).set 0 v = enc y) : setL (l.flatMap enc) (i * sz) [v] = (l.set i y).flatMap enc := setL_cell hs h (j := 0) hj he
theorem setL_hole {α : Type} {enc : α → List AV} {sz : Nat} {l : List α} {x y : α} {i j : Nat} (hs : ∀ x, (enc x).length = sz) (h : l[i]? = some x) (hj : j < sz) {a v : AV} (he : (enc x).set j v = enc y) : setL ((l.flatMap enc).set (i * sz + j) a) (i * sz + j) [v] = (l.set i y).flatMap enc := by
  rw [← setL_one _ _ (by rw [List.length_set]; exact enc_lt hs h hj), List.set_set]; exact set_enc hs h hj he
theorem setL_hole0 {α : Type} {enc : α → List AV} {sz : Nat} {l : List α} {x y : α} {i : Nat} (hs : ∀ x, (enc x).length = sz) (h : l[i]? = some x) (hj : 0 < sz) {a v : AV} (he : (enc x).set 0 v = enc y) : setL ((l.flatMap enc).set (i * sz) a) (i * sz) [v] = (l.set i y).flatMap enc := setL_hole hs h (j := 0) hj he
theorem slc_ite {α : Type} {enc : α → List AV} {sz : Nat} (hs : ∀ x, (enc x).length = sz) {l m : List α} {a : Int} (h : slc l a l.length = some m) : (if a.toNat = 0 ∧ l.length - a.toNat = l.length then l.flatMap enc else m.flatMap enc) = m.flatMap enc := by
  split
  · rename_i c
    obtain ⟨_, rfl⟩ := slc_ok h
    rw [c.1, Int.toNat_natCast]; simp
  · rfl
/-- A list of zeros, or nothing. -/
def mkl {α : Type} (n : Int) (z : α) : Option (List α) := if 0 ≤ n ∧ n ≤ 4294967296 then some (List.replicate n.toNat z) else none
theorem mkl_ok {α : Type} {n : Int} {z : α} {m : List α} (h : mkl n z = some m) : (0 ≤ n ∧ n ≤ 4294967296) ∧ m.length = n.toNat ∧ List.replicate n.toNat z = m := by
  unfold mkl at h; split at h
  · cases h; exact ⟨by assumption, by simp, rfl⟩
  · cases h
theorem mkl_enc {α : Type} {enc : α → List AV} {z : α} {zs : List Value} (h0 : 0 < zs.length) (hz : enc z = zs.map .lit) {n : Int} {m : List α} (h : mkl n z = some m) : (zCells zs n.toNat).map AV.lit = m.flatMap enc := by
  obtain ⟨_, _, rfl⟩ := mkl_ok h
  exact zRows h0 hz _
theorem mkl_encN {α : Type} {enc : α → List AV} {z : α} {zs : List Value} (h0 : 0 < zs.length) (hz : enc z = zs.map .lit) {n : Nat} {m : List α} (h : mkl (n : Int) z = some m) : (zCells zs n).map AV.lit = m.flatMap enc := by
  have := mkl_enc h0 hz h
  rwa [Int.toNat_natCast] at this
/-- Where a printed loop is left. -/
def JW (J : ASt → Prop) (s : ASt) : Prop := ∃ s', Weak s s' ∧ J s'
theorem JW.introW {J : ASt → Prop} {s s' : ASt} (hw : Weak s s') (h : J s') : JW J s := ⟨s', hw, h⟩
theorem JW.intro {J : ASt → Prop} {s : ASt} (h : J s) : JW J s := ⟨s, Weak.refl s, h⟩
def cutK (id : Nat) (J : ASt → Prop) (K : AX → ASt → Prop) : AX → ASt → Prop
  | .ex i, s => if i = id then JW J s else K (.ex i) s
  | e, s => K e s
theorem cutK_ex {id i : Nat} {J : ASt → Prop} {K : AX → ASt → Prop} {s : ASt} : cutK id J K (.ex i) s = if i = id then JW J s else K (.ex i) s := nrfl rfl
theorem cutK_rt {id : Nat} {J : ASt → Prop} {K : AX → ASt → Prop} {s : ASt} : cutK id J K .rt s = K .rt s := nrfl rfl
theorem cutK_nm {id : Nat} {J : ASt → Prop} {K : AX → ASt → Prop} {s : ASt} : cutK id J K .nm s = K .nm s := nrfl rfl
theorem Back.introW {ι : Type} {I : ι → ASt → Prop} {mu : ι → Nat} {i : ι} {s s' : ASt} (j : ι) (hm : mu j < mu i) (hw : Weak s s') (h : I j s') : Back I mu i s := ⟨j, s', hw, h, hm⟩
theorem VR.shrink {w : World} {G : Nat → Prop} {M : Nat → Option HT} {r b sz n cap k : Nat} {cs : List HT} (hM : M r = some (.row b sz n cap cs)) (hk : k ≤ n) {a : AV} {v : Value} (h : VR w G M a v) : VR w G (updF M r (some (.row b sz k cap (cs.take (k * sz))))) a v := by
  -- a row that is named by less of it
  have hat : ∀ p N, (HT.row b sz k cap (cs.take (k * sz))).at_ p = some N → p ≠ [] → (HT.row b sz n cap cs).at_ p = some N := by
    intro p N h hp
    cases p with
    | nil => exact absurd rfl hp
    | cons i p =>
      simp only [HT.at_, HT.kids] at h ⊢
      cases hc : (cs.take (k * sz))[i]? with
      | none => rw [hc] at h; cases h
      | some c => rw [hc] at h; rw [take_some hc]; exact h
  induction h with
  | lit v => exact .lit v
  | junk v => exact .junk v
  | row0 sz A c => exact .row0 sz A c
  | row sz n c b off cs us C e fr h1 h2 h3 h4 h5 h6 h7 h8 _ => exact .row sz n c b off cs us C e fr h1 h2 h3 h4 h5 h6 h7 h8
  | box b off cs us C e fr h1 h2 h6 h7 h8 _ => exact .box b off cs us C e fr h1 h2 h6 h7 h8
  | agg cs us hl _ ih => exact .agg cs us hl (fun i a u x y => ih i a u x y hM)
  | tup cs us hl _ ih => exact .tup cs us hl (fun i a u x y => ih i a u x y hM)
  | fn f cs us hl _ ih => exact .fn f cs us hl (fun i a u x y => ih i a u x y hM)
  | sl r' p off len v h h0 =>
    refine .sl r' p off len v (fun T hT b' sz' n' cap' cs' hN hle => ?_) (fun T hT sz' hN hle => ?_)
    · simp only [updF] at hT
      split at hT
      · rename_i e; subst e; cases hT
        by_cases hp : p = []
        · subst hp
          simp only [HT.at_, Option.some.injEq, HT.row.injEq] at hN
          obtain ⟨rfl, rfl, rfl, rfl, _⟩ := hN
          exact h _ hM _ _ _ _ _ rfl (by omega)
        · exact h _ hM _ _ _ _ _ (hat p _ hN hp) hle
      · exact h T hT _ _ _ _ _ hN hle
    · simp only [updF] at hT
      split at hT
      · rename_i e; subst e; cases hT
        by_cases hp : p = []
        · subst hp; simp [HT.at_] at hN
        · exact h0 _ hM _ (hat p _ hN hp) hle
      · exact h0 T hT _ hN hle
  | ptr r' p o v h h' =>
    refine .ptr r' p o v (fun T hT b' sz' n' cap' cs' hN => ?_) (fun T hT b' cs' hN => ?_)
    · simp only [updF] at hT
      split at hT
      · rename_i e; subst e; cases hT
        by_cases hp : p = []
        · subst hp
          simp only [HT.at_, Option.some.injEq, HT.row.injEq] at hN
          obtain ⟨rfl, rfl, rfl, rfl, _⟩ := hN
          exact h _ hM _ _ _ _ _ rfl
        · exact h _ hM _ _ _ _ _ (hat p _ hN hp)
      · exact h T hT _ _ _ _ _ hN
    · simp only [updF] at hT
      split at hT
      · rename_i e; subst e; cases hT
        by_cases hp : p = []
        · subst hp; simp [HT.at_] at hN
        · exact h' _ hM _ _ (hat p _ hN hp)
      · exact h' T hT _ _ hN
theorem Weak.shrink {s : ASt} {r sz n k : Nat} {cs : List AV} (hr : r < 1000) (hm : s.m r = some (.row true sz n cs)) (hk : k ≤ n) : Weak s (s.updM r [] (.row true sz k (cs.take (k * sz)))) := by
  rintro E a w ⟨M, G, h⟩
  have he := h.er r
  rw [hm] at he
  cases hMr : M r with
  | none => rw [hMr] at he; cases he
  | some T =>
    rw [hMr, Option.map_some, Option.some.injEq] at he
    have hs := h.sat r T hMr
    cases T with
    | leaf a v =>
      simp only [HT.erase] at he; subst he
      cases hs with | leaf _ _ ha _ => simp [AV.leafOk] at ha
    | box => simp [HT.erase] at he
    | agg => simp [HT.erase] at he
    | tup => simp [HT.erase] at he
    | nilrow sz' =>
      simp only [HT.erase, AV.row.injEq, true_and] at he
      obtain ⟨rfl, rfl, rfl⟩ := he
      have hk0 : k = 0 := by omega
      subst hk0
      have e : s.updM r [] (.row true sz 0 (([] : List AV).take (0 * sz))) = s := by
        refine ASt.ext' (s := s.updM r [] _) (s' := s) rfl ?_
        funext q
        simp only [ASt.updM]
        split
        · rename_i e; subst e; rw [hm]; simp [AV.upd]
        · rfl
      rw [e]; exact ⟨M, G, h⟩
    | row b sz' n' cap cs' =>
      simp only [HT.erase, HT.erases_eq, AV.row.injEq, true_and] at he
      obtain ⟨rfl, rfl, rfl⟩ := he
      have hsub : ∀ x ∈ (HT.row b sz k cap (cs'.take (k * sz))).blocks, x ∈ (HT.row b sz n cap cs').blocks := fun x hx => by
        simp only [HT.blocks, HT.blockss_eq, List.mem_cons, List.mem_flatMap] at hx ⊢
        rcases hx with rfl | ⟨y, hy, hxy⟩
        · exact .inl rfl
        · exact .inr ⟨y, List.mem_of_mem_take hy, hxy⟩
      refine ⟨updF M r (some (.row b sz k cap (cs'.take (k * sz)))), G, ⟨fun q => ?_, fun q T hT => ?_, fun q T hT => ?_, fun q q' T T' hq hT hT' x hx => ?_, fun q T hT x hx => ?_, h.gd, h.g0, fun i => VR.shrink hMr hk (h.sl i), h.ext, h.df, h.nt, h.n1, fun q v hv => ?_⟩⟩
      · simp only [ASt.updM, updF]
        split
        · rename_i e; subst e; rw [hm]; simp [AV.upd, HT.erase, HT.erases_eq, List.map_take]
        · exact h.er q
      · simp only [updF] at hT
        split at hT
        · cases hT
          cases hs with
          | row _ _ _ _ _ C e g1 g2 g3 g4 g5 g6 g7 g8 =>
            refine .row b sz k cap _ C e g1 ?_ (by omega) g4 g5 g6 (fun i T' hT' => g7 i T' (take_some hT')) (fun i T' hT' => g8 i T' (take_some hT'))
            have := Nat.mul_le_mul_right sz hk
            rw [List.length_take]; omega
        · exact h.sat q T hT
      · simp only [updF] at hT
        split at hT
        · cases hT
          have hnd := h.nd r _ hMr
          simp only [HT.blocks, HT.blockss_eq, List.nodup_cons] at hnd ⊢
          refine ⟨fun hx => hnd.1 ?_, ?_⟩
          · obtain ⟨y, hy, hxy⟩ := List.mem_flatMap.1 hx
            exact List.mem_flatMap.2 ⟨y, List.mem_of_mem_take hy, hxy⟩
          · have h2 := hnd.2
            rw [← List.take_append_drop (k * sz) cs', List.flatMap_append] at h2
            exact (List.nodup_append.1 h2).1
        · exact h.nd q T hT
      · simp only [updF] at hT hT'
        split at hT <;> split at hT'
        · omega
        · rename_i e _; subst e; cases hT; exact h.dj q q' _ T' hq hMr hT' x (hsub x hx)
        · rename_i _ e; subst e; cases hT'; exact fun hx' => h.dj q q' T _ hq hT hMr x hx (hsub x hx')
        · exact h.dj q q' T T' hq hT hT' x hx
      · simp only [updF] at hT
        split at hT
        · cases hT; exact h.own r _ hMr x (hsub x hx)
        · exact h.own q T hT x hx
      · obtain ⟨h1, T', h2, h3⟩ := h.pv q v hv
        exact ⟨h1, T', by simp only [updF]; rw [if_neg (by omega)]; exact h2, h3⟩
section
variable {P : Program} {G0 X : Nat → Prop} {w0 : World} {nt : Nat} {pv : Nat → Option Value} {K : AX → ASt → Prop} {s : ASt}
theorem aw_loopB {E : Env} {c : Code} {ι : Type} (I : ι → ASt → Prop) (mu : ι → Nat) (i : ι) (h0 : I i s)
    (round : ∀ i s, I i s → aw E c (thenK (Back I mu i) K) s) : aw E (.loop c) K s := by
  refine AWP.loop (fun i s => ∃ s', Weak s s' ∧ I i s') mu i ⟨s, Weak.refl s, h0⟩ (fun i s ⟨s', hw, hI⟩ a w hr => ?_)
  have h := aw_sound (round i s' hI) a w (hw _ _ _ hr)
  refine wp_mono h (fun e a' w' hp => ?_)
  cases e with
  | normal => obtain ⟨s1, h1, j, s2, h2, h3, h4⟩ := hp; exact ⟨s1, h1, j, ⟨s2, h2, h3⟩, h4⟩
  | _ => exact hp
theorem aw_loopC {E : Env} {c : Code} {ι : Type} {id : Nat} {K : AX → ASt → Prop} {s : ASt} (I : ι → ASt → Prop) (mu : ι → Nat) (J : ASt → Prop) (i : ι) (h0 : I i s)
    (round : ∀ i s, I i s → aw E c (thenK (Back I mu i) (cutK id J (blockK id K))) s) (h2 : ∀ σ, J σ → K .nm σ) : aw E (.loop c) (blockK id K) s := by
  intro a w hr
  refine wp_mono (aw_loopB I mu i h0 round a w hr) (fun e a' w' hp => ?_)
  cases e with
  | exit j =>
    obtain ⟨s1, h1, h3⟩ := hp
    simp only [cutK] at h3
    split at h3
    · rename_i e
      obtain ⟨s2, h4, h5⟩ := h3
      exact ⟨s2, h4 _ _ _ h1, by simp only [blockK, e, if_true]; exact h2 s2 h5⟩
    · exact ⟨s1, h1, h3⟩
  | _ => exact hp
end
theorem cntL_bd {α : Type} {c : α → Nat} {K : Nat} (h : ∀ x, c x ≤ K) : ∀ l : List α, cntL c l ≤ K * l.length
  | [] => by simp [cntL]
  | x :: r => by
    have := cntL_bd h r
    have := h x
    simp only [cntL, List.length_cons, Nat.mul_succ]; omega
theorem cntL_one {α : Type} : ∀ l : List α, cntL cOne l = l.length
  | [] => rfl
  | x :: r => by simp only [cntL, cOne, cntL_one r, List.length_cons]; omega
theorem cntL_k {α : Type} {c : α → Nat} {K : Nat} (h : ∀ x, c x = K) : ∀ l : List α, cntL c l = K * l.length
  | [] => by simp [cntL]
  | x :: r => by simp only [cntL, h x, cntL_k h r, List.length_cons, Nat.mul_succ]; omega

theorem len3 {α : Type} {l : List α} {x y z : AV} (h : l.length = [x, y, z].length) : ∃ a b c, l = [a, b, c] := by
  match l, h with
  | [a, b, c], _ => exact ⟨a, b, c, rfl⟩
theorem len4 {α : Type} {l : List α} {x y z u : AV} (h : l.length = [x, y, z, u].length) : ∃ a b c d, l = [a, b, c, d] := by
  match l, h with
  | [a, b, c, d], _ => exact ⟨a, b, c, d, rfl⟩
def regsAt (s : ASt) : Nat → List AV → Prop
  | _, [] => True
  | k, a :: l => s.m k = some a ∧ regsAt s (k + 1) l
theorem regsAt_get {s : ASt} : ∀ (m : List AV) (k j : Nat), regsAt s k m → j < m.length → s.m (k + j) = m[j]?
  | a :: l, k, 0, h, _ => by simpa using h.1
  | a :: l, k, j + 1, h, hj => by
    have := regsAt_get l (k + 1) j h.2 (by simpa using hj)
    rw [show k + (j + 1) = k + 1 + j by omega, this]; simp
theorem regsOk_of {m : List AV} {s : ASt} (h : regsAt s 1000 m) : regsOk m s := fun j hj => regsAt_get m 1000 j h hj
theorem regsAt_nil {s : ASt} {k : Nat} : regsAt s k [] = True := rfl
theorem regsAt_cons {s : ASt} {k : Nat} {a : AV} {l : List AV} : regsAt s k (a :: l) = (s.m k = some a ∧ regsAt s (k + 1) l) := rfl
/-- A cell of a slot that holds a lent row's own value names the region again. -/
theorem opq_relitC {E : Env} {R : ASt → Prop} {s : ASt} {o : Oper} {i j r sz n : Nat} {c : Value} {cs cs0 : List AV} (hi : s.t i = .agg cs0) (hj : cs0[j]? = some (.lit c)) (hp : E.pv r = some c) (hm : s.m r = some (.row true sz n cs)) (h : opq E o R ⟨fun q => if q = i then .agg (cs0.set j (.sl r [] 0 n)) else s.t q, s.m⟩) : opq E o R s := by
  rintro a w ⟨M, G, hX⟩
  refine h a w ⟨M, G, hX.er, hX.sat, hX.nd, hX.dj, hX.own, hX.gd, hX.g0, fun q => ?_, hX.ext, hX.df, hX.nt, hX.n1, hX.pv⟩
  simp only
  split
  · rename_i e; subst e
    have hv := hX.sl q
    rw [hi] at hv
    obtain ⟨_, T, h1, h2⟩ := hX.pv r c hp
    have he := hX.er r
    rw [hm, h1] at he
    simp only [Option.map_some, Option.some.injEq] at he
    have ho := (hX.sat r T h1).opened (M := M) h1 (p := []) rfl
    rw [← he] at ho
    generalize a.tmps.getD q undef = u at hv ⊢
    cases hv with
    | agg _ us hl hk =>
      refine .agg _ us (by rw [List.length_set]; exact hl) (fun k b u hb hu => ?_)
      rw [List.getElem?_set] at hb
      split at hb
      · rename_i e; subst e
        split at hb
        · simp only [Option.some.injEq] at hb; subst hb
          have := (hk j (.lit c) u hj hu).litv
          rw [this, ← h2]; exact ho
        · cases hb
      · exact hk k b u hb hu
  · exact hX.sl q
theorem getD_of {l : List AV} {i : Nat} {a : AV} (h : l[i]? = some a) : l.getD i .junk = a := by rw [List.getD_eq_getElem?_getD, h]; rfl
theorem cnt_step {k n : Int} {a b c : Nat} (hn : k + (a : Int) = n) (h0 : 0 ≤ k) (hk : k + (c : Int) ≤ 4611686018427387904) (hc : a + b ≤ c) : 0 ≤ n ∧ n + (b : Int) ≤ 4611686018427387904 := by omega
theorem cnt_next {k n : Int} {a b c : Nat} (hn : k + (a : Int) = n) (hc : c = a + b) : Unit → n + (b : Int) = k + (c : Int) := fun _ => by omega
/-- An own row is no longer than memory can be. -/
theorem aw_bnd {E : Env} {c : Code} {K : AX → ASt → Prop} {s : ASt} {r sz n : Nat} {p : List Nat} {cs : List AV} (hm : nodeOf s r p = some (.row true sz n cs)) (h : n ≤ 9223372036854775807 → aw E (.loop c) K s) : aw E (.loop c) K s := by
  intro a w hr
  refine h ?_ a w hr
  obtain ⟨M, G, hX⟩ := hr
  obtain ⟨T, N, _, _, h3, _, h5⟩ := nodeOf_spec hX hm
  cases h5 with
  | row b sz' n' cap cs' C e g1 g2 g3 g4 g5 g6 =>
    simp only [HT.erase, AV.row.injEq, true_and] at h3
    omega
  | nilrow sz' =>
    simp only [HT.erase, AV.row.injEq, true_and] at h3
    omega
  | leaf a v ha _ => simp only [HT.erase] at h3; subst h3; simp [AV.leafOk] at ha
  | _ => simp [HT.erase] at h3
/-- What is marked is no more than what was measured. -/
theorem szL_cnt {α : Type} {f : α → Int → Int} {c : α → Nat} {K : Int} (hK : 0 ≤ K) (hf : szOk f) (h : ∀ x a, 0 ≤ a → 0 ≤ f x a → (c x : Int) ≤ K * (1 + (a - f x a))) : ∀ (l : List α) (a : Int), 0 ≤ a → 0 ≤ szL f l a → (cntL c l : Int) ≤ K * (l.length + (a - szL f l a))
  | [], a, h0, _ => by simp [cntL, szL]
  | x :: r, a, h0, h1 => by
    simp only [szL] at h1 ⊢
    obtain ⟨h2, h3⟩ := szStep_of h1
    rw [h3] at h1 ⊢
    have k1 := h x a h0 h2
    have k2 := szL_cnt hK hf h r (f x a) h2 h1
    have e : K * (((x :: r).length : Int) + (a - szL f r (f x a))) = K * (1 + (a - f x a)) + K * (r.length + (f x a - szL f r (f x a))) := by
      rw [← Int.mul_add]; congr 1; simp only [List.length_cons]; omega
    rw [e]; simp only [cntL]; omega
theorem szRow_cnt {α : Type} {f : α → Int → Int} {c : α → Nat} {K : Int} (hK : 0 ≤ K) (hf : szOk f) (h : ∀ x a, 0 ≤ a → 0 ≤ f x a → (c x : Int) ≤ K * (1 + (a - f x a))) {l : List α} {a : Int} (h0 : 0 ≤ a) (h1 : 0 ≤ szRow f l a) : (cntL c l : Int) ≤ K * (a - szRow f l a) := by
  obtain ⟨h2, h3⟩ := szStep_of h1
  have e : szRow f l a = szL f l (a - l.length) := h3
  rw [e] at h1 ⊢
  have := szL_cnt hK hf h l (a - l.length) h2 h1
  have e2 : K * ((l.length : Int) + (a - l.length - szL f l (a - l.length))) = K * (a - szL f l (a - l.length)) := by congr 1; omega
  rw [e2] at this; exact this
theorem szCnt_k {α : Type} {f : α → Int → Int} {c : α → Nat} {K : Nat} (hf : szOk f) (hc : ∀ x, c x ≤ K) : ∀ x a, 0 ≤ a → 0 ≤ f x a → (c x : Int) ≤ (K : Int) * (1 + (a - f x a)) := fun x a h0 h1 => by
  have h2 := hf x a h0
  have h3 := hc x
  have h4 : (K : Int) * 1 ≤ (K : Int) * (1 + (a - f x a)) := Int.mul_le_mul_of_nonneg_left (by omega) (by omega)
  omega
theorem szCnt_row {α : Type} {f : α → Int → Int} {c : α → Nat} {K : Int} (hK : 0 ≤ K) (hf : szOk f) (h : ∀ x a, 0 ≤ a → 0 ≤ f x a → (c x : Int) ≤ K * (1 + (a - f x a))) : ∀ (l : List α) a, 0 ≤ a → 0 ≤ szRow f l a → (cntL c l : Int) ≤ K * (1 + (a - szRow f l a)) := fun l a h0 h1 => by
  have h2 := szRow_cnt hK hf h h0 h1
  have h3 : K * (a - szRow f l a) ≤ K * (1 + (a - szRow f l a)) := Int.mul_le_mul_of_nonneg_left (by omega) hK
  omega
theorem markL_idem {α : Type} {f : α → Int → α} {c : α → Nat} (hf : ∀ x k, f (f x k) k = f x k) (hc : ∀ x k, c (f x k) = c x) : ∀ (l : List α) (k : Int), markL f c (markL f c l k) k = markL f c l k
  | [], k => rfl
  | x :: r, k => by simp only [markL]; rw [hf, hc, markL_idem hf hc r]
theorem cntL_mark {α : Type} {f : α → Int → α} {c : α → Nat} (hc : ∀ x k, c (f x k) = c x) : ∀ (l : List α) (k : Int), cntL c (markL f c l k) = cntL c l
  | [], k => rfl
  | x :: r, k => by simp only [markL, cntL]; rw [hc, cntL_mark hc r]
theorem binS_sl {P : Program} {op : BinOp} {xt : TypeId} {r : Nat} {p : List Nat} {len : Nat} {R : ASt → Prop} {s : ASt} {d : Nat} : binS P op xt (.sl r p 0 len) (.lit (.slice none 0 0)) R s d = nilSl P op xt len R s d (nodeOf s r p) := nrfl rfl
theorem nilSl_row {P : Program} {op : BinOp} {xt : TypeId} {len sz n : Nat} {cs : List AV} {R : ASt → Prop} {s : ASt} {d : Nat} : nilSl P op xt len R s d (some (.row true sz n cs)) = ((((slT P xt).isSome = true ∧ op = .eql) ∧ len = n ∧ (n = 0 → sz = 0)) ∧ R (s.set d (.lit (.bool (decide (n = 0)))))) := nrfl rfl
end Go.Av
