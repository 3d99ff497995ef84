/- What printed functions are made of, and the loop's rule for printed walks. -/
import Derived.Test.YteohnapehmdgaaaDoorAYf
set_option linter.unusedSimpArgs false
set_option linter.unusedVariables false
/-! What printed functions are made of, and the loop's rule for printed walks. -/
namespace Go.Av
/-- An element, or nothing: where the program would panic. -/
def idx {α : Type} (l : List α) (j : Int) : Option α := if 0 ≤ j then l[j.toNat]? else none
theorem idx_lo {α : Type} {l : List α} {j : Int} {x : α} (h : idx l j = some x) : 0 ≤ j := by
  unfold idx at h; split at h
  · assumption
  · cases h
theorem idx_get {α : Type} {l : List α} {j : Int} {x : α} (h : idx l j = some x) : l[j.toNat]? = some x := by
  unfold idx at h; split at h
  · assumption
  · cases h
theorem idx_hi {α : Type} {l : List α} {j : Int} {x : α} (h : idx l j = some x) : j < l.length := by
  have h1 := idx_lo h
  have := (List.getElem?_eq_some_iff.1 (idx_get h)).1
  omega
theorem idx_of {α : Type} {l : List α} {i : Nat} (h : i < l.length) : idx l (i : Int) = some l[i] := by
  unfold idx; rw [if_pos (by omega), Int.toNat_natCast]; exact List.getElem?_eq_getElem h
/-- A byte of a text. -/
def bidx (s : ByteArray) (j : Int) : Option Int := if 0 ≤ j ∧ j < s.size then some (byteAt s j) else none
theorem bidx_ok {s : ByteArray} {j x : Int} (h : bidx s j = some x) : (0 ≤ j ∧ j < s.size) ∧ byteAt s j = x := by
  unfold bidx at h; split at h
  · cases h; exact ⟨by assumption, rfl⟩
  · cases h
/-- How a printed loop ends: the function comes back, or the loop is left. -/
inductive LR (ρ σ : Type) where
  | ret (r : ρ)
  | out (s : σ)
/-- A part of a text. -/
def bslc (s : ByteArray) (a b : Int) : Option ByteArray := if 0 ≤ a ∧ a ≤ b ∧ b ≤ s.size then some (s.extract a.toNat b.toNat) else none
theorem bslc_ok {s m : ByteArray} {a b : Int} (h : bslc s a b = some m) : (0 ≤ a ∧ a ≤ b ∧ b ≤ s.size) ∧ s.extract a.toNat b.toNat = m := by
  unfold bslc at h
  split at h
  · rename_i c; exact ⟨c, by simpa using h⟩
  · cases h
theorem drop_cons {α : Type} {l rest : List α} {x : α} {i : Nat} (h : l.drop i = x :: rest) : i < l.length ∧ l[i]? = some x ∧ l.drop (i + 1) = rest := by
  have hi : i < l.length := by
    rcases Nat.lt_or_ge i l.length with g | g
    · exact g
    · rw [List.drop_of_length_le g] at h; cases h
  rw [List.drop_eq_getElem_cons hi] at h
  injection h with h1 h2
  exact ⟨hi, by rw [List.getElem?_eq_getElem hi, h1], h2⟩
theorem drop_nil {α : Type} {l : List α} {i : Nat} (h : l.drop i = []) : l.length ≤ i := by
  have := congrArg List.length h
  simp at this; omega
theorem drop_enc {α : Type} {enc : α → List AV} {sz : Nat} {l : List α} {x : α} {i : Nat} (hs : ∀ x, (enc x).length = sz) (h : l[i]? = some x) : (l.flatMap enc).drop (i * sz) = enc x ++ (l.drop (i + 1)).flatMap enc := by
  obtain ⟨hi, rfl⟩ := List.getElem?_eq_some_iff.1 h
  rw [flat_drop i (fun y _ => hs y), List.drop_eq_getElem_cons hi]; rfl
theorem get_enc {α : Type} {enc : α → List AV} {sz : Nat} {l : List α} {x : α} {i : Nat} (hs : ∀ x, (enc x).length = sz) (h : l[i]? = some x) {j : Nat} (hj : j < sz) : (l.flatMap enc)[i * sz + j]? = (enc x)[j]? := by
  obtain ⟨hi, rfl⟩ := List.getElem?_eq_some_iff.1 h
  exact flat_get (fun y _ => hs y) hi hj

/-- A state of which less is known. -/
def Weak (s s' : ASt) : Prop := ∀ E a w, Rel E s a w → Rel E s' a w
theorem Weak.refl (s : ASt) : Weak s s := fun _ _ _ h => h
theorem Weak.trans {a b c : ASt} (h : Weak a b) (k : Weak b c) : Weak a c := fun E x w hr => k E x w (h E x w hr)
def Back {ι : Type} (I : ι → ASt → Prop) (mu : ι → Nat) (i : ι) (s : ASt) : Prop := ∃ j s', Weak s s' ∧ I j s' ∧ mu j < mu i
theorem Back.intro {ι : Type} {I : ι → ASt → Prop} {mu : ι → Nat} {i : ι} {s : ASt} (j : ι) (hm : mu j < mu i) (h : I j s) : Back I mu i s := ⟨j, s, Weak.refl s, h, hm⟩
theorem beq_yes {a b : Int} (h : a = b) : (a == b) = true ∧ (a != b) = false ∧ decide (a = b) = true := by subst h; simp
theorem beq_no {a b : Int} (h : ¬ a = b) : (a == b) = false ∧ (a != b) = true ∧ decide (a = b) = false := by simp [h]
theorem eq_false_of_ne_true {b : Bool} (h : ¬ b = true) : b = false := by simpa using h
theorem getD_enc {α : Type} {enc : α → List AV} {sz : Nat} {l : List α} {x : α} {i : Nat} (hs : ∀ x, (enc x).length = sz) (h : l[i]? = some x) {j : Nat} (hj : j < sz) : (l.flatMap enc).getD (i * sz + j) .junk = (enc x).getD j .junk := by
  rw [List.getD_eq_getElem?_getD, get_enc hs h hj, ← List.getD_eq_getElem?_getD]
mutual
def AV.fitN : AV → Prop
  | .row _ _ n _ => n ≤ 9223372036854775807
  | .agg cs => AV.fitNs cs
  | _ => True
def AV.fitNs : List AV → Prop
  | [] => True
  | c :: r => c.fitN ∧ AV.fitNs r
end
theorem fitNs_of {cs : List AV} (h : ∀ (i : Nat) (a : AV), cs[i]? = some a → a.fitN) : AV.fitNs cs := by
  induction cs with
  | nil => simp [AV.fitNs]
  | cons c r ih => exact ⟨h 0 c rfl, ih (fun i a hi => h (i + 1) a (by simpa using hi))⟩
theorem VR.fitN {w : World} {G : Nat → Prop} {m : Nat → Option HT} {a : AV} {v : Value} (h : VR w G m a v) : a.fitN := by
  induction h with
  | row0 sz A c => simp [AV.fitN]
  | row sz n c b off cs us C e fr h1 h2 h3 h4 h5 => simpa [AV.fitN] using h5
  | agg cs us hl _ ih =>
    simp only [AV.fitN]
    exact fitNs_of (fun i a hi => ih i a (us[i]'(by rw [hl]; exact (List.getElem?_eq_some_iff.1 hi).1)) hi (List.getElem?_eq_getElem _))
  | _ => simp [AV.fitN]
/-- What a call is handed is no longer than memory can be. -/
theorem Does.bnd {P : Program} {f : FuncId} {args : List AV} {res : AV} (h : AV.fitNs args → Does P f args res) : Does P f args res := fun w G vs hG hl hv =>
  h (fitNs_of (fun i a hi => (hv i a (vs[i]'(by rw [hl]; exact (List.getElem?_eq_some_iff.1 hi).1)) hi (List.getElem?_eq_getElem _)).fitN)) w G vs hG hl hv
/-- A part of a list, or nothing. -/
def slc {α : Type} (l : List α) (a b : Int) : Option (List α) := if 0 ≤ a ∧ a ≤ b ∧ b ≤ l.length then some ((l.drop a.toNat).take (b.toNat - a.toNat)) else none
theorem getD_enc0 {α : Type} {enc : α → List AV} {sz : Nat} {l : List α} {x : α} {i : Nat} (hs : ∀ x, (enc x).length = sz) (h : l[i]? = some x) (hj : 0 < sz) : (l.flatMap enc).getD (i * sz) .junk = (enc x).getD 0 .junk := getD_enc hs h (j := 0) hj
/-- A list of zeros, or nothing. -/
def mkl {α : Type} (n : Int) (z : α) : Option (List α) := if 0 ≤ n ∧ n ≤ 4294967296 then some (List.replicate n.toNat z) else none
/-- Where a printed loop is left. -/
def JW (J : ASt → Prop) (s : ASt) : Prop := ∃ s', Weak s s' ∧ J s'
theorem JW.intro {J : ASt → Prop} {s : ASt} (h : J s) : JW J s := ⟨s, Weak.refl s, h⟩
def cutK (id : Nat) (J : ASt → Prop) (K : AX → ASt → Prop) : AX → ASt → Prop
  | .ex i, s => if i = id then JW J s else K (.ex i) s
  | e, s => K e s
theorem cutK_ex {id i : Nat} {J : ASt → Prop} {K : AX → ASt → Prop} {s : ASt} : cutK id J K (.ex i) s = if i = id then JW J s else K (.ex i) s := nrfl rfl
theorem cutK_rt {id : Nat} {J : ASt → Prop} {K : AX → ASt → Prop} {s : ASt} : cutK id J K .rt s = K .rt s := nrfl rfl
theorem cutK_nm {id : Nat} {J : ASt → Prop} {K : AX → ASt → Prop} {s : ASt} : cutK id J K .nm s = K .nm s := nrfl rfl
section
variable {P : Program} {G0 X : Nat → Prop} {w0 : World} {nt : Nat} {pv : Nat → Option Value} {K : AX → ASt → Prop} {s : ASt}
theorem aw_loopB {E : Env} {c : Code} {ι : Type} (I : ι → ASt → Prop) (mu : ι → Nat) (i : ι) (h0 : I i s)
    (round : ∀ i s, I i s → aw E c (thenK (Back I mu i) K) s) : aw E (.loop c) K s := by
  refine AWP.loop (fun i s => ∃ s', Weak s s' ∧ I i s') mu i ⟨s, Weak.refl s, h0⟩ (fun i s ⟨s', hw, hI⟩ a w hr => ?_)
  have h := aw_sound (round i s' hI) a w (hw _ _ _ hr)
  refine wp_mono h (fun e a' w' hp => ?_)
  cases e with
  | normal => obtain ⟨s1, h1, j, s2, h2, h3, h4⟩ := hp; exact ⟨s1, h1, j, ⟨s2, h2, h3⟩, h4⟩
  | _ => exact hp
theorem aw_loopC {E : Env} {c : Code} {ι : Type} {id : Nat} {K : AX → ASt → Prop} {s : ASt} (I : ι → ASt → Prop) (mu : ι → Nat) (J : ASt → Prop) (i : ι) (h0 : I i s)
    (round : ∀ i s, I i s → aw E c (thenK (Back I mu i) (cutK id J (blockK id K))) s) (h2 : ∀ σ, J σ → K .nm σ) : aw E (.loop c) (blockK id K) s := by
  intro a w hr
  refine wp_mono (aw_loopB I mu i h0 round a w hr) (fun e a' w' hp => ?_)
  cases e with
  | exit j =>
    obtain ⟨s1, h1, h3⟩ := hp
    simp only [cutK] at h3
    split at h3
    · rename_i e
      obtain ⟨s2, h4, h5⟩ := h3
      exact ⟨s2, h4 _ _ _ h1, by simp only [blockK, e, if_true]; exact h2 s2 h5⟩
    · exact ⟨s1, h1, h3⟩
  | _ => exact hp
end
def regsAt (s : ASt) : Nat → List AV → Prop
  | _, [] => True
  | k, a :: l => s.m k = some a ∧ regsAt s (k + 1) l
/-- An own row is no longer than memory can be. -/
theorem aw_bnd {E : Env} {c : Code} {K : AX → ASt → Prop} {s : ASt} {r sz n : Nat} {p : List Nat} {cs : List AV} (hm : nodeOf s r p = some (.row true sz n cs)) (h : n ≤ 9223372036854775807 → aw E (.loop c) K s) : aw E (.loop c) K s := by
  intro a w hr
  refine h ?_ a w hr
  obtain ⟨M, G, hX⟩ := hr
  obtain ⟨T, N, _, _, h3, _, h5⟩ := nodeOf_spec hX hm
  cases h5 with
  | row b sz' n' cap cs' C e g1 g2 g3 g4 g5 g6 =>
    simp only [HT.erase, AV.row.injEq, true_and] at h3
    omega
  | nilrow sz' =>
    simp only [HT.erase, AV.row.injEq, true_and] at h3
    omega
  | leaf a v ha _ => simp only [HT.erase] at h3; subst h3; simp [AV.leafOk] at ha
  | _ => simp [HT.erase] at h3
theorem binS_sl {P : Program} {op : BinOp} {xt : TypeId} {r : Nat} {p : List Nat} {len : Nat} {R : ASt → Prop} {s : ASt} {d : Nat} : binS P op xt (.sl r p 0 len) (.lit (.slice none 0 0)) R s d = nilSl P op xt len R s d (nodeOf s r p) := nrfl rfl
theorem nilSl_row {P : Program} {op : BinOp} {xt : TypeId} {len sz n : Nat} {cs : List AV} {R : ASt → Prop} {s : ASt} {d : Nat} : nilSl P op xt len R s d (some (.row true sz n cs)) = ((((slT P xt).isSome = true ∧ op = .eql) ∧ len = n ∧ (n = 0 → sz = 0)) ∧ R (s.set d (.lit (.bool (decide (n = 0)))))) := nrfl rfl
end Go.Av
