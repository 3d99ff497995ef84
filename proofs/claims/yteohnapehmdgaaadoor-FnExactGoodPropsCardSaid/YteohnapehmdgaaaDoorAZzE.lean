/- A region whose order is drawn: quiet operations in whatever order, then the others in the text's. -/
import Derived.Test.YteohnapehmdgaaaDoorAZzD
set_option linter.unusedSimpArgs false
set_option linter.unusedVariables false
/-! A region whose order is drawn: quiet operations in whatever order, then the others in the text's. -/
namespace Go.Av

mutual
def AV.allRef (f : Nat → Bool) : AV → Bool
  | .sl r _ _ _ => f r
  | .ptr r _ _ => f r
  | .agg cs => AV.allRefs f cs
  | .tup cs => AV.allRefs f cs
  | .fn _ cs => AV.allRefs f cs
  | .lit _ => true
  | .row _ _ _ _ => true
  | .box _ _ => true
  | .junk => true
def AV.allRefs (f : Nat → Bool) : List AV → Bool
  | [] => true
  | c :: r => AV.allRef f c && AV.allRefs f r
end
mutual
theorem mapRef_id (g : Nat → List Nat → Option (Nat × List Nat)) (f : Nat → Bool) (hg : ∀ r p, f r = true → g r p = some (r, p)) : ∀ (a : AV), a.allRef f = true → a.mapRef g = a
  | .sl r p o l, h => by simp only [AV.allRef] at h; simp only [AV.mapRef, hg r p h]
  | .ptr r p o, h => by simp only [AV.allRef] at h; simp only [AV.mapRef, hg r p h]
  | .agg cs, h => by simp only [AV.allRef] at h; simp only [AV.mapRef, mapRefs_id g f hg cs h]
  | .tup cs, h => by simp only [AV.allRef] at h; simp only [AV.mapRef, mapRefs_id g f hg cs h]
  | .fn _ cs, h => by simp only [AV.allRef] at h; simp only [AV.mapRef, mapRefs_id g f hg cs h]
  | .lit _, _ => by simp only [AV.mapRef]
  | .row _ _ _ _, _ => by simp only [AV.mapRef]
  | .box _ _, _ => by simp only [AV.mapRef]
  | .junk, _ => by simp only [AV.mapRef]
theorem mapRefs_id (g : Nat → List Nat → Option (Nat × List Nat)) (f : Nat → Bool) (hg : ∀ r p, f r = true → g r p = some (r, p)) : ∀ (l : List AV), AV.allRefs f l = true → AV.mapRefs g l = l
  | [], _ => by simp only [AV.mapRefs]
  | c :: r, h => by
    simp only [AV.allRefs, Bool.and_eq_true] at h
    simp only [AV.mapRefs, mapRef_id g f hg c h.1, mapRefs_id g f hg r h.2]
end
mutual
theorem allRef_map (g : Nat → List Nat → Option (Nat × List Nat)) (f : Nat → Bool) (hg : ∀ r p r' p', g r p = some (r', p') → f r' = true) : ∀ (a : AV), (a.mapRef g).allRef f = true
  | .sl r p o l => by
    simp only [AV.mapRef]
    cases h : g r p with
    | none => simp only [AV.allRef]
    | some q => simp only [AV.allRef]; exact hg r p q.1 q.2 h
  | .ptr r p o => by
    simp only [AV.mapRef]
    cases h : g r p with
    | none => simp only [AV.allRef]
    | some q => simp only [AV.allRef]; exact hg r p q.1 q.2 h
  | .agg cs => by simp only [AV.mapRef, AV.allRef, allRefs_map g f hg cs]
  | .tup cs => by simp only [AV.mapRef, AV.allRef, allRefs_map g f hg cs]
  | .fn _ cs => by simp only [AV.mapRef, AV.allRef, allRefs_map g f hg cs]
  | .lit _ => by simp only [AV.mapRef, AV.allRef]
  | .row _ _ _ _ => by simp only [AV.mapRef, AV.allRef]
  | .box _ _ => by simp only [AV.mapRef, AV.allRef]
  | .junk => by simp only [AV.mapRef, AV.allRef]
theorem allRefs_map (g : Nat → List Nat → Option (Nat × List Nat)) (f : Nat → Bool) (hg : ∀ r p r' p', g r p = some (r', p') → f r' = true) : ∀ (l : List AV), AV.allRefs f (AV.mapRefs g l) = true
  | [] => by simp only [AV.mapRefs, AV.allRefs]
  | c :: r => by simp only [AV.mapRefs, AV.allRefs, allRef_map g f hg c, allRefs_map g f hg r, Bool.and_self]
end

/-- Which operation writes slot 'x'? -/
def wh (x : Nat) : List (Option Tmp) → Nat → Option Nat
  | [], _ => none
  | d :: r, i => if d = some x then some i else wh x r (i + 1)
def killL (ds : List (Option Tmp)) : Nat → List Nat → Option (Nat × List Nat) := fun r p => match wh r ds 0 with
  | some _ => none
  | none => some (r, p)
/-- The mark of an operation that takes in a region that was made here: its value, the region. -/
def tkL : List AV → Option (AV × Nat)
  | [v, .ptr x [] 0] => some (v, x)
  | _ => none
def tkV : AV → Option (AV × Nat)
  | .fn f cs => if f = 999999 then tkL cs else none
  | .lit _ => none
  | .junk => none
  | .row _ _ _ _ => none
  | .box _ _ => none
  | .sl _ _ _ _ => none
  | .ptr _ _ _ => none
  | .agg _ => none
  | .tup _ => none
def tkM (v : AV) (x : Nat) : AV := .fn 999999 [v, .ptr x [] 0]
theorem tkV_mark {v : AV} {x : Nat} : tkV (tkM v x) = some (v, x) := rfl
def outV (a : AV) : AV := match tkV a with
  | some p => p.1
  | none => a
theorem outV_of {a : AV} (h : tkV a = none) : outV a = a := by unfold outV; rw [h]
theorem outV_mark {v : AV} {x : Nat} : outV (tkM v x) = v := rfl
def upL (x : Nat) : List AV → List AV → Option AV
  | [], _ => none
  | .ptr r _ _ :: l, T :: Ts => if r = x then some T else upL x l Ts
  | _ :: _, _ => none
/-- Does this operation (a store into what was made in the region) put region 'x' anew? -/
def updOne (x : Nat) : Option Tmp → AV × Option AV → Option AV
  | none, (.ptr r _ _, some T) => if r = x then some T else none
  | none, (.tup l, some (.tup Ts)) => upL x l Ts
  | some _, (a, some _) => (match tkV a with
    | some p => if p.2 = x then some .junk else none
    | none => none)
  | _, _ => none
theorem updOne_n {x : Nat} {d : Option Tmp} {a : AV} {T : Option AV} (hd : d.isSome = true) (h : tkV a = none) : updOne x d (a, T) = none := by
  cases d with
  | none => cases hd
  | some d =>
    cases T with
    | none => rfl
    | some T => simp only [updOne, h]
def upd (x : Nat) (B : Nat → Bool) : List (Option Tmp) → List (AV × Option AV) → Nat → Option AV
  | d :: ds, o :: os, i => (match updOne x d o with
    | some T => if B i = true then some T else upd x B ds os (i + 1)
    | none => upd x B ds os (i + 1))
  | _, _, _ => none
def pickU (a b : Option AV) : Option AV := match a with
  | some T => some T
  | none => b
def IsU (ds : List (Option Tmp)) (outs : List (AV × Option AV)) (x k : Nat) (T : AV) : Prop := ∃ d o, ds[k]? = some d ∧ outs[k]? = some o ∧ updOne x d o = some T
theorem upd_some {x : Nat} {B : Nat → Bool} : ∀ {ds : List (Option Tmp)} {os : List (AV × Option AV)} {n : Nat} {T : AV}, upd x B ds os n = some T → ∃ k, IsU ds os x k T ∧ B (n + k) = true
  | [], os, n, T, h => by simp [upd] at h
  | d :: ds, [], n, T, h => by simp [upd] at h
  | d :: ds, o :: os, n, T, h => by
    simp only [upd] at h
    split at h
    · rename_i T' hT
      split at h
      · rename_i hb; cases h; exact ⟨0, ⟨d, o, rfl, rfl, hT⟩, hb⟩
      · obtain ⟨k, ⟨d', o', h1, h2, h3⟩, h4⟩ := upd_some h
        exact ⟨k + 1, ⟨d', o', by simpa using h1, by simpa using h2, h3⟩, by rw [show n + (k + 1) = n + 1 + k by omega]; exact h4⟩
    · obtain ⟨k, ⟨d', o', h1, h2, h3⟩, h4⟩ := upd_some h
      exact ⟨k + 1, ⟨d', o', by simpa using h1, by simpa using h2, h3⟩, by rw [show n + (k + 1) = n + 1 + k by omega]; exact h4⟩
theorem upd_congr {x : Nat} {B B' : Nat → Bool} : ∀ {ds : List (Option Tmp)} {os : List (AV × Option AV)} {n : Nat}, (∀ k T, IsU ds os x k T → B (n + k) = B' (n + k)) → upd x B ds os n = upd x B' ds os n
  | [], os, n, _ => by simp [upd]
  | d :: ds, [], n, _ => by simp [upd]
  | d :: ds, o :: os, n, h => by
    have ih := upd_congr (B := B) (B' := B') (x := x) (ds := ds) (os := os) (n := n + 1) (fun k T ⟨d', o', h1, h2, h3⟩ => by
      have := h (k + 1) T ⟨d', o', by simpa using h1, by simpa using h2, h3⟩
      rw [show n + (k + 1) = n + 1 + k by omega] at this; exact this)
    simp only [upd]
    cases hu : updOne x d o with
    | none => exact ih
    | some T =>
      have h0 := h 0 T ⟨d, o, rfl, rfl, hu⟩
      rw [Nat.add_zero] at h0
      simp only [h0, ih]
theorem upd_none {x : Nat} {B : Nat → Bool} : ∀ {ds : List (Option Tmp)} {os : List (AV × Option AV)} {n : Nat}, (∀ k T, IsU ds os x k T → B (n + k) = false) → upd x B ds os n = none := fun h => by
  cases hu : upd x B _ _ _ with
  | none => rfl
  | some T => obtain ⟨k, h1, h2⟩ := upd_some hu; rw [h k T h1] at h2; cases h2
theorem upd_is {x : Nat} {B : Nat → Bool} {ds : List (Option Tmp)} {os : List (AV × Option AV)} {k : Nat} {T : AV} (hu : ∀ k' T', IsU ds os x k' T' → k' = k ∧ T' = T) (h : IsU ds os x k T) (hb : B k = true) : upd x B ds os 0 = some T := by
  cases hq : upd x B ds os 0 with
  | some T' => obtain ⟨k', h1, _⟩ := upd_some hq; rw [(hu k' T' h1).2]
  | none =>
    exfalso
    have key : ∀ {ds : List (Option Tmp)} {os : List (AV × Option AV)} {n k : Nat} {T : AV}, IsU ds os x k T → B (n + k) = true → upd x B ds os n ≠ none := by
      intro ds
      induction ds with
      | nil => rintro os n k T ⟨d, o, h1, _⟩; simp at h1
      | cons d ds ih =>
        intro os n k T hk hb
        cases os with
        | nil => obtain ⟨d', o', _, h2, _⟩ := hk; simp at h2
        | cons o os =>
          simp only [upd]
          cases k with
          | zero =>
            obtain ⟨d', o', h1, h2, h3⟩ := hk
            simp only [List.getElem?_cons_zero, Option.some.injEq] at h1 h2
            subst h1; subst h2
            rw [h3]
            simp only []
            rw [if_pos (by simpa using hb)]; simp
          | succ k =>
            obtain ⟨d', o', h1, h2, h3⟩ := hk
            have := ih (os := os) (n := n + 1) (k := k) (T := T) ⟨d', o', by simpa using h1, by simpa using h2, h3⟩ (by rw [show n + 1 + k = n + (k + 1) by omega]; exact hb)
            split
            · split
              · simp
              · exact this
            · exact this
    exact key (n := 0) h (by simpa using hb) hq
theorem ASt.ext' {s s' : ASt} (h1 : s.t = s'.t) (h2 : s.m = s'.m) : s = s' := by cases s; cases s'; simp_all
theorem upd_ne {x : Nat} {B : Nat → Bool} : ∀ {ds : List (Option Tmp)} {os : List (AV × Option AV)} {n k : Nat} {T : AV}, IsU ds os x k T → B (n + k) = true → upd x B ds os n ≠ none := by
  intro ds
  induction ds with
  | nil => rintro os n k T ⟨d, o, h1, _⟩; simp at h1
  | cons d ds ih =>
    intro os n k T hk hb
    cases os with
    | nil => obtain ⟨d', o', _, h2, _⟩ := hk; simp at h2
    | cons o os =>
      simp only [upd]
      cases k with
      | zero =>
        obtain ⟨d', o', h1, h2, h3⟩ := hk
        simp only [List.getElem?_cons_zero, Option.some.injEq] at h1 h2
        subst h1; subst h2
        rw [h3]
        simp only []
        rw [if_pos (by simpa using hb)]; simp
      | succ k =>
        obtain ⟨d', o', h1, h2, h3⟩ := hk
        have := ih (os := os) (n := n + 1) (k := k) (T := T) ⟨d', o', by simpa using h1, by simpa using h2, h3⟩ (by rw [show n + 1 + k = n + (k + 1) by omega]; exact hb)
        split
        · split
          · simp
          · exact this
        · exact this
/-- The state in which the operations of 'B' have been carried out, and no others. -/
def SV (s : ASt) (ds : List (Option Tmp)) (outs : List (AV × Option AV)) (B : Nat → Bool) : ASt :=
  ⟨fun x => match wh x ds 0 with
    | some i => if B i = true then (match outs[i]? with | some o => outV o.1 | none => .junk) else .junk
    | none => (s.t x).mapRef (killL ds),
   fun x => match wh x ds 0 with
    | some i => if B i = true then pickU (upd x B ds outs 0) (match outs[i]? with | some o => o.2 | none => none) else none
    | none => s.m x⟩

theorem wh_some {x : Nat} : ∀ {ds : List (Option Tmp)} {i j : Nat}, wh x ds i = some j → i ≤ j ∧ ds[j - i]? = some (some x)
  | [], i, j, h => by simp [wh] at h
  | d :: r, i, j, h => by
    simp only [wh] at h
    split at h
    · rename_i e; cases h; simp [e]
    · have ⟨h1, h2⟩ := wh_some h
      refine ⟨by omega, ?_⟩
      rw [show j - i = (j - (i + 1)) + 1 by omega]
      simpa using h2
theorem wh_of {x : Nat} : ∀ {ds : List (Option Tmp)} {i j : Nat}, ds[j]? = some (some x) → (∀ a b : Nat, a < b → ds[a]? = some (some x) → ds[b]? ≠ some (some x)) → wh x ds i = some (i + j)
  | [], i, j, h, _ => by simp at h
  | d :: r, i, 0, h, _ => by simp at h; simp [wh, h]
  | d :: r, i, j + 1, h, hd => by
    have hne : d ≠ some x := fun e => hd 0 (j + 1) (by omega) (by simp [e]) h
    simp only [wh, hne, if_false]
    have := wh_of (i := i + 1) (ds := r) (j := j) (by simpa using h) (fun a b hab h1 h2 => hd (a + 1) (b + 1) (by omega) (by simpa using h1) (by simpa using h2))
    rw [this]; congr 1; omega

def bindsA (e : Edge) : Bool := Region.binds .any e
/-- 'T': for each operation, what must have been carried out before it; the first 'q' are quiet. -/
def chk (l : List Oper) (T : List (List Nat)) (q nt : Nat) : Bool :=
  q ≤ l.length &&
  (l.zipIdx.all fun (o, i) =>
    (o.after.toList.all fun e => !bindsA e || e.on < i) &&
    ((T.getD i []).all fun j => o.after.toList.any fun e => bindsA e && (e.on == j || (T.getD e.on []).contains j)) &&
    (match o.guard with | some (j, _) => (T.getD i []).contains j | none => true) &&
    (if i < q then (match o.dst with | some d => d < nt | none => true) else (List.range i).all fun j => (T.getD i []).contains j)) &&
  ((List.range q).all fun j => (List.range j).all fun i => match (l.getD i default).dst with
    | some d => !((l.getD j default).dst == some d)
    | none => true)

/-- An operation with its guard. -/
def QG (E : Env) (ops : Array Oper) (o : Oper) (s : ASt) (v : AV) (T : Option AV) : Prop :=
  (o.guard = none ∧ QJ E o s v T) ∨
  (∃ j b d, o.guard = some (j, b) ∧ (ops[j]?).bind (·.dst) = some d ∧ s.t d = .lit (.bool b) ∧ QJ E o s v T) ∨
  (∃ j b c d, o.guard = some (j, b) ∧ (ops[j]?).bind (·.dst) = some d ∧ s.t d = .lit c ∧ c ≠ .bool b ∧ v = .lit Go.undef ∧ T = none)

/-- What an operation gives names no memory of those that may come behind it. -/
def okV (ds : List (Option Tmp)) (B : List Nat) (i : Nat) (v : AV) : Bool := v.allRef fun r => match wh r ds 0 with
  | some j => j == i || B.contains j
  | none => true

/-- A store into region 'x' alone. -/
def UJ (E : Env) (o : Oper) (s : ASt) (x : Nat) (T : AV) : Prop :=
  (s.m x).isSome = true ∧ ∀ s', Le s s' → ∀ a w, Rel E s' a w → o.wp E.P a w (fun a' w' => Rel E (s'.updM x [] T) a' w') No
def upOk (T : List (List Nat)) (ds : List (Option Tmp)) (x k : Nat) : Bool := match wh x ds 0 with
  | some c => (T.getD k []).contains c && (List.range ds.length).all fun j => !(T.getD j []).contains c || (T.getD j []).contains k || (T.getD k []).contains j || j == k
  | none => false
/-- An operation that makes region 'd' and takes in region 'x'. -/
def TJ (E : Env) (o : Oper) (s : ASt) (d : Nat) (v Tn : AV) (x : Nat) : Prop :=
  (s.m x).isSome = true ∧ x ≠ d ∧ ∀ s', Le s s' → ∀ a w, Rel E s' a w → o.wp E.P a w (fun a' w' => Rel E ((s'.updM x [] .junk).new d v Tn) a' w') No
def DQ (E : Env) (ops : Array Oper) (T : List (List Nat)) (s : ASt) (ds : List (Option Tmp)) (tail : ASt → Prop) : List Oper → List (AV × Option AV) → Prop
  | [], outs => tail (SV s ds outs fun _ => true)
  | o :: rest, outs => (∃ v Tn, o.dst.isSome = true ∧ QG E ops o (SV s ds outs (T.getD outs.length []).contains) v Tn ∧ (okV ds (T.getD outs.length []) outs.length v = true ∧ tkV v = none) ∧ DQ E ops T s ds tail rest (outs ++ [(v, Tn)])) ∨
      (∃ d v Tn x, o.dst = some d ∧ o.guard = none ∧ TJ E o (SV s ds outs (T.getD outs.length []).contains) d v Tn x ∧ okV ds (T.getD outs.length []) outs.length v = true ∧ upOk T ds x outs.length = true ∧ (∀ k T'', k < outs.length → ¬ IsU ds outs x k T'') ∧ DQ E ops T s ds tail rest (outs ++ [(tkM v x, some Tn)])) ∨
      (∃ x T', o.dst = none ∧ o.guard = none ∧ UJ E o (SV s ds outs (T.getD outs.length []).contains) x T' ∧ upOk T ds x outs.length = true ∧ (∀ k T'', k < outs.length → ¬ IsU ds outs x k T'') ∧ DQ E ops T s ds tail rest (outs ++ [(.ptr x [] 0, some T')]))


theorem IsU.pre {ds : List (Option Tmp)} {outs outs0 : List (AV × Option AV)} {x k : Nat} {T : AV} (he : outs[k]? = outs0[k]?) : IsU ds outs x k T ↔ IsU ds outs0 x k T := by
  unfold IsU; rw [he]
theorem SV.pre {s : ASt} {ds : List (Option Tmp)} {outs outs0 : List (AV × Option AV)} {B : Nat → Bool} (hpre : ∀ i, i < outs0.length → outs[i]? = outs0[i]?) (hB : ∀ i, B i = true → i < outs0.length) : SV s ds outs0 B = SV s ds outs B := by
  have hu : ∀ x, upd x B ds outs0 0 = upd x B ds outs 0 := fun x => by
    have key : ∀ (ds : List (Option Tmp)) (o1 o2 : List (AV × Option AV)) (n : Nat), (∀ k, B (n + k) = true → o1[k]? = o2[k]?) → upd x B ds o1 n = upd x B ds o2 n := by
      intro ds
      induction ds with
      | nil => intro o1 o2 n _; simp [upd]
      | cons d ds ih =>
        intro o1 o2 n h
        have hr : ∀ (o1 : List (AV × Option AV)), (B n = true → o1[0]? = none) → upd x B (d :: ds) o1 n = upd x B ds o1.tail (n + 1) := fun o1 h0 => by
          cases o1 with
          | nil => cases ds <;> simp [upd]
          | cons a o1 =>
            have hb : B n = false := by
              cases hb : B n with
              | false => rfl
              | true => have := h0 hb; simp at this
            simp only [upd, List.tail_cons, hb, Bool.false_eq_true, if_false]
            split <;> rfl
        have hr2 : ∀ (a : AV × Option AV) (o1 : List (AV × Option AV)), B n = true → upd x B (d :: ds) (a :: o1) n = pickU (updOne x d a) (upd x B ds o1 (n + 1)) := fun a o1 hb => by
          simp only [upd, hb, if_true]
          cases updOne x d a <;> rfl
        have iht := ih o1.tail o2.tail (n + 1) (fun k hk => by
          have := h (k + 1) (by rw [show n + (k + 1) = n + 1 + k by omega]; exact hk)
          simpa [List.getElem?_tail] using this)
        cases hb : B n with
        | false => rw [hr o1 (by rw [hb]; simp), hr o2 (by rw [hb]; simp), iht]
        | true =>
          have h0 := h 0 (by simpa using hb)
          cases o1 with
          | nil =>
            cases o2 with
            | nil => rfl
            | cons b o2 => simp at h0
          | cons a o1 =>
            cases o2 with
            | nil => simp at h0
            | cons b o2 =>
              simp only [List.getElem?_cons_zero, Option.some.injEq] at h0
              subst h0
              rw [hr2 a o1 hb, hr2 a o2 hb]
              simp only [List.tail_cons] at iht
              rw [iht]
    exact key ds outs0 outs 0 (fun k hk => by rw [Nat.zero_add] at hk; exact (hpre k (hB k hk)).symm)
  simp only [SV, ASt.mk.injEq]
  constructor
  · funext x
    cases wh x ds 0 with
    | none => rfl
    | some i =>
      simp only []
      split
      · rename_i hc; rw [hpre i (hB i hc)]
      · rfl
  · funext x
    cases wh x ds 0 with
    | none => rfl
    | some i =>
      simp only []
      split
      · rename_i hc; rw [hpre i (hB i hc), hu]
      · rfl
/-- What is known of each operation of the quiet part. -/
def OutOk (E : Env) (ops : Array Oper) (T : List (List Nat)) (s : ASt) (ds : List (Option Tmp)) (outs : List (AV × Option AV)) (i : Nat) (o : Oper) : Prop :=
  (∃ v Tn, o.dst.isSome = true ∧ outs[i]? = some (v, Tn) ∧ QG E ops o (SV s ds outs (T.getD i []).contains) v Tn ∧ (okV ds (T.getD i []) i v = true ∧ tkV v = none)) ∨
  (∃ d v Tn x, o.dst = some d ∧ o.guard = none ∧ outs[i]? = some (tkM v x, some Tn) ∧ TJ E o (SV s ds outs (T.getD i []).contains) d v Tn x ∧ okV ds (T.getD i []) i v = true ∧ upOk T ds x i = true ∧ ∀ k T'', k < i → ¬ IsU ds outs x k T'') ∨
  (∃ x T', o.dst = none ∧ o.guard = none ∧ outs[i]? = some (.ptr x [] 0, some T') ∧ UJ E o (SV s ds outs (T.getD i []).contains) x T' ∧ upOk T ds x i = true ∧ ∀ k T'', k < i → ¬ IsU ds outs x k T'')
/-- The outcome of the whole quiet part. -/
theorem DQ.outs {E : Env} {ops : Array Oper} {T : List (List Nat)} {s : ASt} {ds : List (Option Tmp)} {tail : ASt → Prop} : ∀ {l : List Oper} {outs0 : List (AV × Option AV)}, DQ E ops T s ds tail l outs0 →
    (∀ i, outs0.length ≤ i → i < outs0.length + l.length → ∀ j ∈ T.getD i [], j < i) →
    ∃ outs, outs.length = outs0.length + l.length ∧ (∀ i, i < outs0.length → outs[i]? = outs0[i]?) ∧ tail (SV s ds outs fun _ => true) ∧
      ∀ i o, l[i]? = some o → OutOk E ops T s ds outs (outs0.length + i) o
  | [], outs0, h, _ => ⟨outs0, rfl, fun _ _ => rfl, h, fun i o ho => by simp at ho⟩
  | o :: rest, outs0, h, hT => by
    have step : ∀ e, DQ E ops T s ds tail rest (outs0 ++ [e]) → (∀ outs, (∀ i, i < outs0.length → outs[i]? = outs0[i]?) → outs[outs0.length]? = some e → SV s ds outs0 (T.getD outs0.length []).contains = SV s ds outs (T.getD outs0.length []).contains → OutOk E ops T s ds outs outs0.length o) →
        ∃ outs, outs.length = outs0.length + (o :: rest).length ∧ (∀ i, i < outs0.length → outs[i]? = outs0[i]?) ∧ tail (SV s ds outs fun _ => true) ∧ ∀ i o', (o :: rest)[i]? = some o' → OutOk E ops T s ds outs (outs0.length + i) o' := fun e h3 hok => by
      obtain ⟨outs, e1, e2, e3, e4⟩ := DQ.outs h3 (fun i hi hi' => hT i (by simp at hi; omega) (by simp at hi' ⊢; omega))
      simp only [List.length_append, List.length_cons, List.length_nil] at e1 e2 e4
      have hv : outs[outs0.length]? = some e := by rw [e2 _ (by omega)]; simp
      have hpre : ∀ i, i < outs0.length → outs[i]? = outs0[i]? := fun i hi => by rw [e2 i (by omega), List.getElem?_append_left hi]
      have hlt := hT outs0.length (Nat.le_refl _) (by simp)
      have hsv : SV s ds outs0 (T.getD outs0.length []).contains = SV s ds outs (T.getD outs0.length []).contains := SV.pre hpre (fun i hi => hlt i (by simpa using hi))
      refine ⟨outs, by simp only [List.length_cons]; omega, hpre, e3, fun i o' ho => ?_⟩
      cases i with
      | zero =>
        simp only [List.getElem?_cons_zero, Option.some.injEq] at ho
        subst ho
        exact hok outs hpre hv hsv
      | succ i =>
        have := e4 i o' (by simpa using ho)
        rw [show outs0.length + 1 + i = outs0.length + (i + 1) by omega] at this
        exact this
    rcases h with ⟨v, Tn, h0, h1, h2, h3⟩ | ⟨d, v, Tn, x, h0, h1, h2, h3, h4, h5, h6⟩ | ⟨x, T', h0, h1, h2, h3, h4, h5⟩
    · exact step _ h3 (fun outs hpre hv hsv => .inl ⟨v, Tn, h0, hv, by rw [← hsv]; exact h1, h2⟩)
    · exact step _ h6 (fun outs hpre hv hsv => .inr (.inl ⟨d, v, Tn, x, h0, h1, hv, by rw [← hsv]; exact h2, h3, h4, fun k T'' hk hu => h5 k T'' hk ((IsU.pre (hpre k hk)).1 hu)⟩))
    · exact step _ h5 (fun outs hpre hv hsv => .inr (.inr ⟨x, T', h0, h1, hv, by rw [← hsv]; exact h2, h3, fun k T'' hk hu => h4 k T'' hk ((IsU.pre (hpre k hk)).1 hu)⟩))

theorem RelX.sv0 {E : Env} {M : Nat → Option HT} {G : Nat → Prop} {s : ASt} {a : Act} {w : World} (h : RelX E M G s a w) (ds : List (Option Tmp)) (outs : List (AV × Option AV)) (hds : ∀ x : Nat, some x ∈ ds → x < E.nt) :
    Rel E (SV s ds outs fun _ => false) a w := by
  have hmem : ∀ {x j : Nat}, wh x ds 0 = some j → some x ∈ ds := fun e => List.mem_of_getElem? (wh_some e).2
  refine ⟨fun r => match wh r ds 0 with | some _ => none | none => M r, G, ⟨fun r => ?_, fun r T hT => ?_, fun r T hT => ?_, fun r r' T T' hr hT hT' => ?_, fun r T hT => ?_, h.gd, h.g0, fun i => ?_, h.ext, h.df, h.nt, h.n1, fun r v hv => ?_⟩⟩
  · simp only [SV]
    cases wh r ds 0 with
    | none => exact h.er r
    | some i => simp
  · cases hw : wh r ds 0 with
    | none => simp only [hw] at hT; exact h.sat r T hT
    | some i => simp [hw] at hT
  · cases hw : wh r ds 0 with
    | none => simp only [hw] at hT; exact h.nd r T hT
    | some i => simp [hw] at hT
  · cases hw : wh r ds 0 with
    | none =>
      cases hw' : wh r' ds 0 with
      | none => simp only [hw] at hT; simp only [hw'] at hT'; exact h.dj r r' T T' hr hT hT'
      | some i => simp [hw'] at hT'
    | some i => simp [hw] at hT
  · cases hw : wh r ds 0 with
    | none => simp only [hw] at hT; exact h.own r T hT
    | some i => simp [hw] at hT
  · simp only [SV]
    cases hw : wh i ds 0 with
    | some j => simp only [Bool.false_eq_true, if_false]; exact .junk _
    | none =>
      refine (h.sl i).mapRef (fun r p r' p' hf T' N' hT' hN' hm => ?_)
      simp only [killL] at hf
      cases hr : wh r ds 0 with
      | some j => simp [hr] at hf
      | none =>
        simp only [hr, Option.some.injEq, Prod.mk.injEq] at hf
        obtain ⟨rfl, rfl⟩ := hf
        simp only [hr] at hT'
        exact ⟨T', N', hT', hN', rfl⟩
  · obtain ⟨h1, T', h2, h3⟩ := h.pv r v hv
    refine ⟨h1, T', ?_, h3⟩
    cases hr : wh r ds 0 with
    | some j => have := hds r (hmem hr); have := h.n1; omega
    | none => exact h2


theorem chk_spec {l : List Oper} {T : List (List Nat)} {q nt : Nat} (h : chk l T q nt = true) :
    q ≤ l.length ∧ (∀ (i : Nat) (o : Oper), l[i]? = some o → (∀ e ∈ o.after, bindsA e = true → e.on < i) ∧ (∀ j ∈ T.getD i [], ∃ e ∈ o.after, bindsA e = true ∧ (e.on = j ∨ j ∈ T.getD e.on [])) ∧
      (∀ (j : Nat) (b : Bool), o.guard = some (j, b) → j ∈ T.getD i []) ∧ (i < q → ∀ d : Nat, o.dst = some d → d < nt) ∧ (q ≤ i → ∀ j, j < i → j ∈ T.getD i [])) ∧
    (∀ i j : Nat, j < q → i < j → ∀ d : Nat, (l.getD i default).dst = some d → (l.getD j default).dst ≠ some d) := by
  simp only [chk, Bool.and_eq_true, decide_eq_true_eq, List.all_eq_true, List.mem_zipIdx_iff_getElem?, List.mem_range] at h
  obtain ⟨⟨h1, h2⟩, h3⟩ := h
  refine ⟨h1, fun i o ho => ?_, fun i j hj hi d hd => ?_⟩
  · have := h2 (o, i) ho
    simp only [] at this
    obtain ⟨⟨⟨h4, h5⟩, h6⟩, h7⟩ := this
    refine ⟨fun e he hb => ?_, fun j hj => ?_, fun j b hg => ?_, fun hi d hd => ?_, fun hi j hj => ?_⟩
    · have := h4 e (by simpa using he)
      simpa [hb] using this
    · have := h5 j hj
      rw [List.any_eq_true] at this
      obtain ⟨e, he, h8⟩ := this
      exact ⟨e, by simpa using he, by simpa using h8⟩
    · simp only [hg] at h6
      simpa using h6
    · simp only [hi, if_true, hd] at h7
      simpa using h7
    · rw [if_neg (by omega)] at h7
      have := (List.all_eq_true.1 h7) j (by simpa using hj)
      simpa using this
  · have := h3 j hj i hi
    simp only [hd] at this
    simpa using this

theorem closedT {l : List Oper} {T : List (List Nat)} {q nt : Nat} (h : chk l T q nt = true) (D : Nat → Prop) (hD : ∀ i o, D i → l[i]? = some o → ∀ e ∈ o.after, bindsA e = true → D e.on) :
    ∀ (n i : Nat) (o : Oper), i < n → l[i]? = some o → (∀ e ∈ o.after, bindsA e = true → D e.on) → ∀ j ∈ T.getD i [], D j ∧ j < i
  | 0, i, o, hn, _, _, _, _ => by omega
  | n + 1, i, o, hn, ho, ha, j, hj => by
    obtain ⟨h1, h2, _⟩ := chk_spec h
    obtain ⟨h3, h4, _⟩ := h2 i o ho
    obtain ⟨e, he, hb, h5⟩ := h4 j hj
    have hlt := h3 e he hb
    rcases h5 with rfl | h5
    · exact ⟨ha e he hb, hlt⟩
    · have hil : i < l.length := (List.getElem?_eq_some_iff.1 ho).1
      obtain ⟨o', ho'⟩ : ∃ o', l[e.on]? = some o' := ⟨_, List.getElem?_eq_getElem (by omega)⟩
      have hde := ha e he hb
      obtain ⟨h6, h7⟩ := closedT h D hD n e.on o' (by omega) ho' (fun e' he' hb' => hD e.on o' hde ho' e' he' hb') j h5
      exact ⟨h6, by omega⟩


theorem filter_lt {p p' : Nat → Bool} (hp : ∀ x, p' x = true → p x = true) : ∀ (l : List Nat) (i : Nat), i ∈ l → p i = true → p' i = false → (l.filter p').length < (l.filter p).length
  | x :: r, i, hi, h1, h2 => by
    have hle : ∀ l : List Nat, (l.filter p').length ≤ (l.filter p).length := fun l => by
      induction l with
      | nil => simp
      | cons y t ih =>
        simp only [List.filter_cons]
        cases hy : p' y with
        | true => simp only [hp y hy, if_true, List.length_cons]; omega
        | false => simp only [Bool.false_eq_true, if_false]; split <;> (first | omega | (simp only [List.length_cons]; omega))
    rcases List.mem_cons.1 hi with rfl | hi
    · simp only [List.filter_cons, h1, h2, if_true, Bool.false_eq_true, if_false, List.length_cons]
      have := hle r; omega
    · have ih := filter_lt hp r i hi h1 h2
      simp only [List.filter_cons]
      cases hy : p' x with
      | true => simp only [hp x hy, if_true, List.length_cons]; omega
      | false => simp only [Bool.false_eq_true, if_false]; split <;> (first | omega | (simp only [List.length_cons]; omega))

theorem SV.congr' {s : ASt} {ds : List (Option Tmp)} {outs : List (AV × Option AV)} {B B' : Nat → Bool} (hw : ∀ x i, wh x ds 0 = some i → B i = B' i) (hu : ∀ x k T, IsU ds outs x k T → B k = B' k) : SV s ds outs B = SV s ds outs B' := by
  simp only [SV, ASt.mk.injEq]
  constructor
  · funext x
    cases hx : wh x ds 0 with
    | none => rfl
    | some i => simp only [hw x i hx]
  · funext x
    cases hx : wh x ds 0 with
    | none => rfl
    | some i =>
      simp only [hw x i hx]
      rw [upd_congr (B := B) (B' := B') (fun k T hk => by rw [Nat.zero_add]; exact hu x k T hk)]
theorem SV.congr {s : ASt} {ds : List (Option Tmp)} {outs : List (AV × Option AV)} {B B' : Nat → Bool} (h : ∀ i, i < ds.length → B i = B' i) : SV s ds outs B = SV s ds outs B' :=
  SV.congr' (fun x i e => h i (by
    have := (wh_some e).2
    exact (List.getElem?_eq_some_iff.1 this).1)) (fun x k T ⟨d, o, h1, _⟩ => h k (List.getElem?_eq_some_iff.1 h1).1)
theorem SV.le {s : ASt} {ds : List (Option Tmp)} {outs : List (AV × Option AV)} {B B' : Nat → Bool} (h : ∀ i, B i = true → B' i = true) (hu : ∀ x c k T, wh x ds 0 = some c → B c = true → IsU ds outs x k T → B k = B' k) : Le (SV s ds outs B) (SV s ds outs B') := by
  constructor
  · intro x
    simp only [SV]
    cases hx : wh x ds 0 with
    | none => exact .inr rfl
    | some i =>
      simp only []
      cases hb : B i with
      | true => rw [if_pos rfl, if_pos (h i hb)]; exact .inr rfl
      | false => exact .inl (if_neg (by simp))
  · intro r T
    simp only [SV]
    cases hx : wh r ds 0 with
    | none => exact id
    | some i =>
      simp only []
      cases hb : B i with
      | true =>
        rw [if_pos rfl, if_pos (h i hb), upd_congr (B := B) (B' := B') (fun k T hk => by rw [Nat.zero_add]; exact hu r i k T hx hb hk)]
        exact fun h => h
      | false => rw [if_neg (by simp)]; intro h; cases h

theorem AWP.drawn {E : Env} {id : Nat} {l : List Oper} {K : AX → ASt → Prop} {s : ASt} (hm : E.P.follows .mixedOrders = true) (T : List (List Nat)) (q : Nat) (hc : chk l T q E.nt = true)
    (h : DQ E l.toArray T s ((l.take q).map (·.dst)) (Seq E l.toArray (l.drop q) (K .nm)) (l.take q) []) : AWP E (.region id l.toArray true) K s := by
  intro a w hr
  obtain ⟨hq, hspec, hdist⟩ := chk_spec hc
  have hTlt : ∀ i, ∀ j ∈ T.getD i [], i < l.length → j < i := fun i j hj hi =>
    (closedT hc (fun _ => True) (fun _ _ _ _ _ _ _ => trivial) (i + 1) i l[i] (by omega) (List.getElem?_eq_getElem hi) (fun _ _ _ => trivial) j hj).2
  obtain ⟨outs, hlen, _, htail, hout⟩ := DQ.outs h (fun i _ hi j hj => hTlt i j hj (by simp at hi; omega))
  simp only [List.length_nil, Nat.zero_add] at hout hlen
  generalize hds : (l.take q).map (·.dst) = ds at *
  have hdsl : ds.length = q := by rw [← hds]; simp; omega
  have hdsi : ∀ i o, i < q → l[i]? = some o → ds[i]? = some o.dst := fun i o hi ho => by
    rw [← hds, List.getElem?_map, List.getElem?_take_of_lt hi, ho]; rfl
  have hwh : ∀ i o (d : Nat), i < q → l[i]? = some o → o.dst = some d → wh d ds 0 = some i := fun i o d hi ho hd => by
    have hdi := hdsi i o hi ho
    rw [hd] at hdi
    have := wh_of (i := 0) hdi (fun a b hab h1 h2 => by
      have hb : b < q := by rw [← hdsl]; exact (List.getElem?_eq_some_iff.1 h2).1
      have e1 : (l.getD a default).dst = some d := by
        have ha : a < l.length := by omega
        have := hdsi a l[a] (by omega) (List.getElem?_eq_getElem ha)
        rw [this] at h1
        simp only [List.getD_eq_getElem?_getD, List.getElem?_eq_getElem ha, Option.getD_some]
        exact Option.some.inj h1
      have e2 : (l.getD b default).dst = some d := by
        have hb' : b < l.length := by omega
        have := hdsi b l[b] hb (List.getElem?_eq_getElem hb')
        rw [this] at h2
        simp only [List.getD_eq_getElem?_getD, List.getElem?_eq_getElem hb', Option.getD_some]
        exact Option.some.inj h2
      exact hdist a b hb hab d e1 e2)
    simpa using this
  have hU : ∀ x k T', IsU ds outs x k T' → k < q ∧ upOk T ds x k = true ∧ (∀ k' T'', k' < k → ¬ IsU ds outs x k' T'') := fun x k T' ⟨d, e, h1, h2, h3⟩ => by
    have hkq : k < q := by rw [← hdsl]; exact (List.getElem?_eq_some_iff.1 h1).1
    have hkl : k < l.length := by omega
    have hd := hdsi k l[k] hkq (List.getElem?_eq_getElem hkl)
    rw [h1] at hd
    have hd := Option.some.inj hd
    rcases hout k l[k] (by rw [List.getElem?_take_of_lt hkq]; exact List.getElem?_eq_getElem hkl) with ⟨v, Tn, k0, k1, _, _, kt⟩ | ⟨d', v, Tn, x', k0, _, k1, _, _, k2, k3⟩ | ⟨x', T'', k0, _, k1, _, k2, k3⟩
    · rw [← hd] at k0
      rw [h2] at k1
      have k1 := Option.some.inj k1
      subst k1
      rw [updOne_n k0 kt] at h3; cases h3
    · rw [h2] at k1
      have k1 := Option.some.inj k1
      subst k1
      rw [hd, k0] at h3
      simp only [updOne, tkV_mark] at h3
      split at h3
      · rename_i hx; subst hx; exact ⟨hkq, k2, k3⟩
      · cases h3
    · rw [h2] at k1
      have k1 := Option.some.inj k1
      subst k1
      rw [hd, k0] at h3
      simp only [updOne] at h3
      split at h3
      · rename_i hx; subst hx; exact ⟨hkq, k2, k3⟩
      · cases h3
  have hUq : ∀ x k T' k' T'', IsU ds outs x k T' → IsU ds outs x k' T'' → k' = k ∧ T'' = T' := fun x k T' k' T'' h1 h2 => by
    have hk : k' = k := by
      rcases Nat.lt_trichotomy k' k with h | h | h
      · exact absurd h2 ((hU x k T' h1).2.2 k' T'' h)
      · exact h
      · exact absurd h1 ((hU x k' T'' h2).2.2 k T' h)
    subst hk
    obtain ⟨d, e, a1, a2, a3⟩ := h1
    obtain ⟨d', e', b1, b2, b3⟩ := h2
    rw [a1] at b1; cases b1
    rw [a2] at b2; cases b2
    rw [a3] at b3; cases b3
    exact ⟨rfl, rfl⟩
  have hUc : ∀ x k T', IsU ds outs x k T' → ∃ c, wh x ds 0 = some c ∧ c ∈ T.getD k [] ∧ ∀ j, j < q → c ∈ T.getD j [] → k ∈ T.getD j [] ∨ j ∈ T.getD k [] ∨ j = k := fun x k T' h => by
    have h2 := (hU x k T' h).2.1
    unfold upOk at h2
    split at h2
    · rename_i c hc
      simp only [Bool.and_eq_true, List.all_eq_true, List.mem_range, Bool.or_eq_true, Bool.not_eq_true', beq_iff_eq] at h2
      refine ⟨c, hc, by simpa using h2.1, fun j hj hcj => ?_⟩
      rcases h2.2 j (by omega) with ((h3 | h3) | h3) | h3
      · rw [List.contains_iff_mem.2 hcj] at h3; cases h3
      · exact .inl (List.contains_iff_mem.1 h3)
      · exact .inr (.inl (List.contains_iff_mem.1 h3))
      · exact .inr (.inr h3)
    · cases h2
  have hdnt : ∀ x : Nat, some x ∈ ds → x < E.nt := fun x hx => by
    obtain ⟨i, hi⟩ := List.getElem?_of_mem hx
    have hiq : i < q := by rw [← hdsl]; exact (List.getElem?_eq_some_iff.1 hi).1
    have hil : i < l.length := by omega
    have hd := hdsi i l[i] hiq (List.getElem?_eq_getElem hil)
    rw [hd] at hi
    exact (hspec i l[i] (List.getElem?_eq_getElem hil)).2.2.2.1 hiq x (Option.some.inj hi)
  let phase : Array Bool → Act → World → Prop := fun listed a w =>
    ((∃ i, i < q ∧ listed.getD i false = false) ∧ (∀ j, listed.getD j false = true → j < q) ∧ Rel E (SV s ds outs fun j => listed.getD j false) a w) ∨
    (∃ c, q ≤ c ∧ c ≤ l.length ∧ (∀ j, listed.getD j false = true ↔ j < c) ∧ wpList E.P l.toArray (NK E (K .nm)) (l.drop c) a w)
  have hready : ∀ listed : Array Bool, listed.size = l.length → ∀ j, j ∈ Region.ready .any l.toArray listed ↔ listed.getD j true = false ∧ ∃ o, l[j]? = some o ∧ ∀ e ∈ o.after, bindsA e = true → listed.getD e.on false = true := fun listed hs j => by
    rw [mem_ready]; simp [bindsA]
  have hnot : ∀ listed : Array Bool, listed.size = l.length → ∀ j, listed.getD j true = false → listed.getD j false = false ∧ j < l.length := fun listed hs j hj => by
    rw [Array.getD_eq_getD_getElem?] at hj ⊢
    cases hx : listed[j]? with
    | none => simp [hx] at hj
    | some b => simp [hx] at hj ⊢; exact ⟨hj, by rw [← hs]; exact (Array.getElem?_eq_some_iff.1 hx).1⟩
  have hnot' : ∀ listed : Array Bool, listed.size = l.length → ∀ j, j < l.length → listed.getD j false = false → listed.getD j true = false := fun listed hs j hj h => by
    rw [Array.getD_eq_getD_getElem?] at h ⊢
    have : listed[j]? = some listed[j] := Array.getElem?_eq_getElem (by omega)
    rw [this] at h ⊢; simpa using h
  -- the least that isn't listed is ready
  have hsome : ∀ listed : Array Bool, listed.size = l.length → ∀ n j, j < n → j < l.length → listed.getD j false = false → Region.ready .any l.toArray listed ≠ [] := by
    intro listed hs n
    induction n with
    | zero => intro j hj; omega
    | succ n ih =>
      intro j hj hjl hnl
      by_cases hall : ∀ e ∈ l[j].after, bindsA e = true → listed.getD e.on false = true
      · exact List.ne_nil_of_mem ((hready listed hs j).2 ⟨hnot' listed hs j hjl hnl, _, List.getElem?_eq_getElem hjl, hall⟩)
      · simp only [Classical.not_forall] at hall
        obtain ⟨e, he, hb, hn⟩ := hall
        have hlt := (hspec j l[j] (List.getElem?_eq_getElem hjl)).1 e he hb
        exact ih e.on (by omega) (by omega) (by simpa using hn)
  -- behind the quiet part
  have hbehind : ∀ (listed : Array Bool) a w, (∀ j, j < q → listed.getD j false = true) → Rel E (SV s ds outs fun j => listed.getD j false) a w → wpList E.P l.toArray (NK E (K .nm)) (l.drop q) a w := fun listed a w hall hr => by
    rw [SV.congr (B' := fun _ => true) (fun i hi => hall i (by omega))] at hr
    exact htail a w hr
  have main : ∀ fuel (listed : Array Bool) a w, listed.size = l.length → ((List.range l.length).filter fun j => !listed.getD j false).length ≤ fuel →
      (∀ i o, listed.getD i false = true → l[i]? = some o → ∀ e ∈ o.after, bindsA e = true → listed.getD e.on false = true) → phase listed a w → wpAny E.P .any l.toArray (NK E (K .nm)) fuel listed a w := by
    intro fuel
    have hdone : ∀ (listed : Array Bool) a w, listed.size = l.length → phase listed a w → Region.ready .any l.toArray listed = [] → NK E (K .nm) .normal a w := by
      intro listed a w hs hph hnil
      rcases hph with ⟨⟨i, hi, hn⟩, _⟩ | ⟨c, h1, h2, h3, h4⟩
      · exact absurd hnil (hsome listed hs (i + 1) i (by omega) (by omega) hn)
      · by_cases hcl : c < l.length
        · have hn : listed.getD c false = false := by
            cases hb : listed.getD c false with
            | false => rfl
            | true => exact absurd ((h3 c).1 hb) (by omega)
          exact absurd hnil (hsome listed hs (c + 1) c (by omega) hcl hn)
        · rw [List.drop_of_length_le (by omega)] at h4
          exact h4
    induction fuel with
    | zero =>
      intro listed a w hs hlen0 hcl hph
      have hnil : Region.ready .any l.toArray listed = [] := by
        cases hrd : Region.ready .any l.toArray listed with
        | nil => rfl
        | cons j rest =>
          obtain ⟨h1, _⟩ := (hready listed hs j).1 (by rw [hrd]; simp)
          obtain ⟨h2, h3⟩ := hnot listed hs j h1
          have : j ∈ (List.range l.length).filter fun j => !listed.getD j false := by simp only [List.mem_filter, List.mem_range, h2, h3, Bool.not_false, and_self]
          have := List.length_pos_of_mem this
          omega
      exact ⟨hnil, hdone listed a w hs hph hnil⟩
    | succ fuel ih =>
      intro listed a w hs hlen0 hcl hph
      refine ⟨hdone listed a w hs hph, fun i hi => ?_⟩
      obtain ⟨h1, o, ho, hafter⟩ := (hready listed hs i).1 hi
      obtain ⟨h2, hil⟩ := hnot listed hs i h1
      have hgi : (listed.setIfInBounds i true).getD i false = true := by simp [hs, hil]
      have hgo : ∀ j, j ≠ i → (listed.setIfInBounds i true).getD j false = listed.getD j false := fun j hj => getD_set_ne false (Ne.symm hj)
      have hmono : ∀ j, listed.getD j false = true → (listed.setIfInBounds i true).getD j false = true := fun j => getD_set_true
      have hs' : (listed.setIfInBounds i true).size = l.length := by simp [hs]
      have hlt' : ((List.range l.length).filter fun j => !(listed.setIfInBounds i true).getD j false).length ≤ fuel := by
        have := filter_lt (p := fun j => !listed.getD j false) (p' := fun j => !(listed.setIfInBounds i true).getD j false) (fun x hx => by
          cases hb : listed.getD x false with
          | false => rfl
          | true => rw [hmono x hb] at hx; simp at hx) (List.range l.length) i (by simp [hil]) (by rw [h2]; rfl) (by rw [hgi]; rfl)
        omega
      have hcl' : ∀ j o', (listed.setIfInBounds i true).getD j false = true → l[j]? = some o' → ∀ e ∈ o'.after, bindsA e = true → (listed.setIfInBounds i true).getD e.on false = true := fun j o' hj ho' e he hb => by
        by_cases hji : j = i
        · subst hji; rw [ho] at ho'; cases ho'; exact hmono _ (hafter e he hb)
        · rw [hgo j hji] at hj; exact hmono _ (hcl j o' hj ho' e he hb)
      have hTi : ∀ j ∈ T.getD i [], listed.getD j false = true ∧ j < i := closedT hc (fun j => listed.getD j false = true) hcl (i + 1) i o (by omega) ho hafter
      have next := fun a w hph => ih (listed.setIfInBounds i true) a w hs' hlt' hcl' hph
      have hopi : l.toArray[i]? = some o := by simpa using ho
      unfold wpOp
      simp only [hopi]
      rcases hph with ⟨⟨i0, hi0, hn0⟩, hDq, hrel⟩ | ⟨c, hqc, hcn, hDc, hwl⟩
      · -- quiet
        have hiq : i < q := by
          rcases Nat.lt_or_ge i q with h' | h'
          · exact h'
          · have := (hTi i0 ((hspec i o ho).2.2.2.2 h' i0 (by omega))).1
            rw [hn0] at this; cases this
        have hnext : ∀ a w, Rel E (SV s ds outs fun j => (listed.setIfInBounds i true).getD j false) a w → wpAny E.P .any l.toArray (NK E (K .nm)) fuel (listed.setIfInBounds i true) a w := fun a w hr => by
          apply next
          by_cases hall : ∀ j, j < q → (listed.setIfInBounds i true).getD j false = true
          · refine .inr ⟨q, Nat.le_refl _, hq, fun j => ⟨fun hj => ?_, hall j⟩, hbehind _ a w hall hr⟩
            by_cases hji : j = i
            · omega
            · rw [hgo j hji] at hj; exact hDq j hj
          · simp only [Classical.not_forall] at hall
            obtain ⟨j, hj, hn⟩ := hall
            refine .inl ⟨⟨j, hj, by simpa using hn⟩, fun j' hj' => ?_, hr⟩
            by_cases hji : j' = i
            · omega
            · rw [hgo j' hji] at hj'; exact hDq j' hj'
        have hcli : ∀ k, k < q → listed.getD k false = true → ∀ j ∈ T.getD k [], listed.getD j false = true := fun k hk hlk j hj => by
          have hkl : k < l.length := by omega
          exact (closedT hc (fun j => listed.getD j false = true) hcl (k + 1) k l[k] (by omega) (List.getElem?_eq_getElem hkl) (fun e he hb => hcl k l[k] hlk (List.getElem?_eq_getElem hkl) e he hb) j hj).1
        have hle : Le (SV s ds outs (T.getD i []).contains) (SV s ds outs fun j => listed.getD j false) := SV.le (fun j hj => (hTi j (by simpa using hj)).1) (fun x c k T' hcx hBc hk => by
          obtain ⟨c', hc', _, hcs⟩ := hUc x k T' hk
          rw [hcx] at hc'; cases hc'
          by_cases hki : k ∈ T.getD i []
          · rw [List.contains_iff_mem.2 hki, (hTi k hki).1]
          · have h3 : listed.getD k false = false := by
              cases hlk : listed.getD k false with
              | false => rfl
              | true =>
                exfalso
                rcases hcs i hiq (List.contains_iff_mem.1 hBc) with h4 | h4 | h4
                · exact hki h4
                · have := hcli k (hU x k T' hk).1 hlk i h4
                  rw [h2] at this; cases this
                · subst h4; rw [h2] at hlk; cases hlk
            rw [h3]
            cases hx : (T.getD i []).contains k with
            | false => rfl
            | true => exact absurd (List.contains_iff_mem.1 hx) hki)
        -- no value names the region that comes
        have hfreeG : ∀ d : Nat, o.dst = some d → ∀ x, x ≠ d → ((SV s ds outs fun j => listed.getD j false).t x).mapRef (killF d []) = (SV s ds outs fun j => listed.getD j false).t x := fun d hd x hxd => by
              have hwd := hwh i o d hiq ho hd
              have hwx : ∀ x j, wh x ds 0 = some j → x ≠ d → j ≠ i := fun x j hx hxd hji => by
                subst hji
                have h3 := (wh_some hx).2
                rw [Nat.sub_zero, hdsi j o hiq ho, hd] at h3
                exact hxd (Option.some.inj (Option.some.inj h3)).symm
              simp only [SV]
              cases hx : wh x ds 0 with
              | none =>
                simp only []
                refine mapRef_id _ (fun r => match wh r ds 0 with | some j => false | none => true) (fun r p hr => ?_) _ (allRef_map _ _ (fun r p r' p' hk => ?_) _)
                · have : r ≠ d := fun e => by subst e; simp [hwd] at hr
                  simp [killF, this]
                · simp only [killL] at hk
                  cases hrw : wh r ds 0 with
                  | some j => simp [hrw] at hk
                  | none => simp only [hrw, Option.some.injEq, Prod.mk.injEq] at hk; obtain ⟨rfl, _⟩ := hk; simp [hrw]
              | some j =>
                simp only []
                split
                · rename_i hlj
                  have hji := hwx x j hx hxd
                  have hjq : j < q := by rw [← hdsl]; exact (List.getElem?_eq_some_iff.1 (wh_some hx).2).1
                  have hdj : l[j].dst = some x := by
                    have h3 := (wh_some hx).2
                    rw [Nat.sub_zero, hdsi j l[j] hjq (List.getElem?_eq_getElem (by omega))] at h3
                    exact Option.some.inj h3
                  obtain ⟨e, vj, hovj, hev, hokj⟩ : ∃ (e : AV × Option AV) (vj : AV), outs[j]? = some e ∧ outV e.1 = vj ∧ okV ds (T.getD j []) j vj = true := by
                    rcases hout j l[j] (by rw [List.getElem?_take_of_lt hjq]; exact List.getElem?_eq_getElem (by omega)) with ⟨v, Tn, _, h1, _, h3, h4⟩ | ⟨d', v, Tn, x', _, _, h1, _, h3, _⟩ | ⟨_, _, h, _⟩
                    · exact ⟨_, _, h1, outV_of h4, h3⟩
                    · exact ⟨_, _, h1, outV_mark, h3⟩
                    · rw [hdj] at h; cases h
                  rw [hovj]
                  simp only [hev]
                  refine mapRef_id _ _ (fun r p hr => ?_) _ hokj
                  have : r ≠ d := fun e => by
                    subst e
                    simp only [hwd, Bool.or_eq_true, beq_iff_eq] at hr
                    rcases hr with h3 | h3
                    · exact hji h3.symm
                    · have hD := closedT hc (fun j => listed.getD j false = true) hcl (j + 1) j l[j] (by omega) (List.getElem?_eq_getElem (by omega)) (fun e he hb => hcl j l[j] hlj (List.getElem?_eq_getElem (by omega)) e he hb) i (by simpa using h3)
                      rw [h2] at hD; cases hD.1
                  simp [killF, this]
                · simp only [AV.mapRef]
        rcases hout i o (by rw [List.getElem?_take_of_lt hiq]; exact ho) with ⟨v, Tn, hsm, hov, hqg, hok, htk⟩ | ⟨d, v, Tn, x, hd, hgn, hov, ⟨hxs, hxd, htj⟩, hok, hup, _⟩ | ⟨x, T', hdn, hgn, hov, ⟨hxs, hqj⟩, hup, _⟩
        rotate_left 2
        · -- a store into what was made here
          have hisu : IsU ds outs x i T' := ⟨none, _, by rw [hdsi i o hiq ho, hdn], hov, by simp [updOne]⟩
          obtain ⟨c, hcx, hci, _⟩ := hUc x i T' hisu
          have hlc : listed.getD c false = true := (hTi c hci).1
          have hcne : ∀ y j, wh y ds 0 = some j → j ≠ i := fun y j hy hji => by
            subst hji
            have h3 := (wh_some hy).2
            rw [Nat.sub_zero, hdsi j o hiq ho, hdn] at h3
            cases h3
          have hmx : ∃ T0, (SV s ds outs fun j => listed.getD j false).m x = some T0 := by
            obtain ⟨T0, hT0⟩ := Option.isSome_iff_exists.1 hxs
            exact ⟨T0, hle.m x T0 hT0⟩
          have hst : SV s ds outs (fun j => (listed.setIfInBounds i true).getD j false) = (SV s ds outs fun j => listed.getD j false).updM x [] T' := by
            obtain ⟨T0, hT0⟩ := hmx
            have e1 : (SV s ds outs fun j => (listed.setIfInBounds i true).getD j false).t = ((SV s ds outs fun j => listed.getD j false).updM x [] T').t := by
              funext y
              simp only [SV, ASt.updM]
              cases hy : wh y ds 0 with
              | none => rfl
              | some j => simp only [hgo j (hcne y j hy)]
            have e2 : (SV s ds outs fun j => (listed.setIfInBounds i true).getD j false).m = ((SV s ds outs fun j => listed.getD j false).updM x [] T').m := by
              funext y
              by_cases hyx : y = x
              · subst hyx
                simp only [ASt.updM, if_true, hT0, Option.map_some]
                have : ∀ A : AV, A.upd [] T' = T' := fun A => by cases A <;> rfl
                rw [this]
                simp only [SV, hcx, hgo c (hcne y c hcx), hlc, if_true]
                rw [upd_is (k := i) (T := T') (fun k' T'' hk' => hUq y i T' k' T'' hisu hk') hisu hgi]
                rfl
              · simp only [ASt.updM, hyx, if_false]
                simp only [SV]
                cases hy : wh y ds 0 with
                | none => rfl
                | some j =>
                  simp only [hgo j (hcne y j hy)]
                  rw [upd_congr (B := fun j => (listed.setIfInBounds i true).getD j false) (B' := fun j => listed.getD j false) (fun k T'' hk => by
                    rw [Nat.zero_add]
                    refine hgo k (fun e => ?_)
                    subst e
                    obtain ⟨d', e', b1, b2, b3⟩ := hk
                    rw [hov] at b2; cases b2
                    cases d' with
                    | some d' => simp [updOne, tkV] at b3
                    | none =>
                      simp only [updOne] at b3
                      split at b3
                      · rename_i hh; exact hyx hh.symm
                      · cases b3)]
            exact ASt.ext' e1 e2
          rw [if_pos (by simp [Region.wanted, hgn])]
          exact .inl (Oper.wp_both (fun a' w' hr' => hnext a' w' (by rw [hst]; exact hr')) (hqj _ hle a w hrel))
        rotate_left
        · -- a region that was made here is taken in
          have hwd := hwh i o d hiq ho hd
          have hisu : IsU ds outs x i .junk := ⟨some d, _, by rw [hdsi i o hiq ho, hd], hov, by simp only [updOne, tkV_mark, if_true]⟩
          obtain ⟨c, hcx, hci, _⟩ := hUc x i .junk hisu
          have hlc : listed.getD c false = true := (hTi c hci).1
          have hci' : c ≠ i := fun e => by subst e; rw [h2] at hlc; cases hlc
          have hwx : ∀ y j, wh y ds 0 = some j → y ≠ d → j ≠ i := fun y j hy hyd hji => by
            subst hji
            have h3 := (wh_some hy).2
            rw [Nat.sub_zero, hdsi j o hiq ho, hd] at h3
            exact hyd (Option.some.inj (Option.some.inj h3)).symm
          have hfree := hfreeG d hd
          have hui : ∀ y k T'', IsU ds outs y k T'' → y ≠ x → k ≠ i := fun y k T'' ⟨d', e', b1, b2, b3⟩ hyx hki => by
            subst hki
            rw [hov] at b2; cases b2
            rw [hdsi k o hiq ho, hd] at b1; cases b1
            simp only [updOne, tkV_mark] at b3
            split at b3
            · rename_i hh; exact hyx hh.symm
            · cases b3
          have hud : ∀ y, y ≠ x → upd y (fun j => (listed.setIfInBounds i true).getD j false) ds outs 0 = upd y (fun j => listed.getD j false) ds outs 0 := fun y hyx =>
            upd_congr (fun k T'' hk => by rw [Nat.zero_add]; exact hgo k (hui y k T'' hk hyx))
          have hud0 : upd d (fun j => (listed.setIfInBounds i true).getD j false) ds outs 0 = none := upd_none (fun k T' hk => by
            rw [Nat.zero_add]
            obtain ⟨c, hcx, hck, _⟩ := hUc d k T' hk
            rw [hwd] at hcx; cases hcx
            cases hlk : (listed.setIfInBounds i true).getD k false with
            | false => rfl
            | true =>
              rw [hgo k (hui d k T' hk (Ne.symm hxd))] at hlk
              have := hcli k (hU d k T' hk).1 hlk i hck
              rw [h2] at this; cases this)
          have hmx : ∃ T0, (SV s ds outs fun j => listed.getD j false).m x = some T0 := by
            obtain ⟨T0, hT0⟩ := Option.isSome_iff_exists.1 hxs
            exact ⟨T0, hle.m x T0 hT0⟩
          have hst : ∀ a w, Rel E (((SV s ds outs fun j => listed.getD j false).updM x [] .junk).new d v Tn) a w → Rel E (SV s ds outs fun j => (listed.setIfInBounds i true).getD j false) a w := by
            rintro a w ⟨M, G, hX⟩
            refine ⟨M, G, hX.weak ?_ ?_⟩
            · funext y
              by_cases hyd : y = d
              · subst hyd
                simp only [ASt.new, SV, hwd, hgi, if_true, hov, hud0, pickU]
              · by_cases hyx : y = x
                · subst hyx
                  obtain ⟨T0, hT0⟩ := hmx
                  have e1 : (((SV s ds outs fun j => listed.getD j false).updM y [] .junk).new d v Tn).m y = some .junk := by
                    simp only [ASt.new, hyd, if_false, ASt.updM, if_true, hT0, Option.map_some]
                    cases T0 <;> rfl
                  have e2 : (SV s ds outs fun j => (listed.setIfInBounds i true).getD j false).m y = some .junk := by
                    simp only [SV, hcx, hgo c hci', hlc, if_true]
                    rw [upd_is (k := i) (T := .junk) (fun k' T'' hk' => hUq y i .junk k' T'' hisu hk') hisu hgi]; rfl
                  rw [e1, e2]
                · have e1 : (((SV s ds outs fun j => listed.getD j false).updM x [] .junk).new d v Tn).m y = (SV s ds outs fun j => listed.getD j false).m y := by
                    simp only [ASt.new, hyd, if_false, ASt.updM, hyx]
                  have e2 : (SV s ds outs fun j => (listed.setIfInBounds i true).getD j false).m y = (SV s ds outs fun j => listed.getD j false).m y := by
                    simp only [SV]
                    cases hy : wh y ds 0 with
                    | none => rfl
                    | some j => simp only [hgo j (hwx y j hy hyd), hud y hyx]
                  rw [e1, e2]
            · intro y u hu
              by_cases hyd : y = d
              · subst hyd
                simpa only [ASt.new, SV, hwd, hgi, if_true, hov, outV_mark] using hu
              · have e2 : (SV s ds outs fun j => (listed.setIfInBounds i true).getD j false).t y = (SV s ds outs fun j => listed.getD j false).t y := by
                  simp only [SV]
                  cases hy : wh y ds 0 with
                  | none => rfl
                  | some j => simp only [hgo j (hwx y j hy hyd)]
                rw [e2]
                simp only [ASt.new, hyd, if_false, ASt.updM, hfree y hyd] at hu
                exact hu
          rw [if_pos (by simp [Region.wanted, hgn])]
          exact .inl (Oper.wp_both (fun a' w' hr' => hnext a' w' (hst a' w' hr')) (htj _ hle a w hrel))
        -- what its outcome makes of the state
        have hput : ∀ a w, Rel E (put (SV s ds outs fun j => listed.getD j false) o.dst v Tn) a w → Rel E (SV s ds outs fun j => (listed.setIfInBounds i true).getD j false) a w := by
          rintro a w ⟨M, G, hX⟩
          cases hd : o.dst with
          | none => rw [hd] at hsm; cases hsm
          | some d =>
            rw [hd] at hX
            have hwd := hwh i o d hiq ho hd
            have hui : ∀ x k T', IsU ds outs x k T' → k ≠ i := fun x k T' ⟨d', e', b1, b2, b3⟩ hki => by
              subst hki
              rw [hdsi k o hiq ho, hd] at b1
              cases b1
              rw [hov] at b2
              cases b2
              rw [updOne_n rfl htk] at b3
              cases b3
            have hud : ∀ x, upd x (fun j => (listed.setIfInBounds i true).getD j false) ds outs 0 = upd x (fun j => listed.getD j false) ds outs 0 := fun x =>
              upd_congr (fun k T' hk => by rw [Nat.zero_add]; exact hgo k (hui x k T' hk))
            have hud0 : upd d (fun j => (listed.setIfInBounds i true).getD j false) ds outs 0 = none := upd_none (fun k T' hk => by
              rw [Nat.zero_add]
              obtain ⟨c, hcx, hck, _⟩ := hUc d k T' hk
              rw [hwd] at hcx; cases hcx
              cases hlk : (listed.setIfInBounds i true).getD k false with
              | false => rfl
              | true =>
                rw [hgo k (hui d k T' hk)] at hlk
                have := hcli k (hU d k T' hk).1 hlk i hck
                rw [h2] at this; cases this)
            have hwx : ∀ x j, wh x ds 0 = some j → x ≠ d → j ≠ i := fun x j hx hxd hji => by
              subst hji
              have h3 := (wh_some hx).2
              rw [Nat.sub_zero, hdsi j o hiq ho, hd] at h3
              exact hxd (Option.some.inj (Option.some.inj h3)).symm
            -- no value names region d
            have hfree := hfreeG d hd
            refine ⟨M, G, hX.weak ?_ ?_⟩
            · funext x
              by_cases hxd : x = d
              · subst hxd
                cases Tn with
                | none =>
                  simp only [put, ASt.set, SV, hwd, hgi, h2, if_true, hov, outV_of htk, Bool.false_eq_true, if_false, hud0, pickU]
                | some T' =>
                  simp only [put, ASt.new, SV, hwd, hgi, if_true, hov, hud0, pickU]
              · have e2 : (SV s ds outs fun j => (listed.setIfInBounds i true).getD j false).m x = (SV s ds outs fun j => listed.getD j false).m x := by
                  simp only [SV]
                  cases hx : wh x ds 0 with
                  | none => rfl
                  | some j => simp only [hgo j (hwx x j hx hxd), hud]
                rw [e2]
                cases Tn with
                | none => rfl
                | some T' => simp only [put, ASt.new, hxd, if_false]
            · intro x u hu
              by_cases hxd : x = d
              · subst hxd
                cases Tn with
                | none => simpa only [put, ASt.set, SV, hwd, hgi, if_true, hov, outV_of htk] using hu
                | some T' => simpa only [put, ASt.new, SV, hwd, hgi, if_true, hov, outV_of htk] using hu
              · have e2 : (SV s ds outs fun j => (listed.setIfInBounds i true).getD j false).t x = (SV s ds outs fun j => listed.getD j false).t x := by
                  simp only [SV]
                  cases hx : wh x ds 0 with
                  | none => rfl
                  | some j => simp only [hgo j (hwx x j hx hxd)]
                rw [e2]
                cases Tn with
                | none => simpa only [put, ASt.set, hxd, if_false] using hu
                | some T' => simp only [put, ASt.new, hxd, if_false, hfree x hxd] at hu; exact hu
        obtain ⟨M, G, hX⟩ := hrel
        rcases hqg with ⟨hg, hqj⟩ | ⟨j, b, d, hg, hdj, hb, hqj⟩ | ⟨j, b, c, d, hg, hdj, hb, hcb, rfl, rfl⟩
        · rw [if_pos (by simp [Region.wanted, hg])]
          exact .inl (Oper.wp_both (fun a' w' hr' => hnext a' w' (hput a' w' hr')) (hqj _ hle a w ⟨M, G, hX⟩))
        · have hv := hX.sl d
          rw [show (SV s ds outs fun j => listed.getD j false).t d = .lit (.bool b) from ((hle.t d).resolve_left (by rw [hb]; simp)).trans hb] at hv
          rw [if_pos (by simp [Region.wanted, hg, yielded_of hdj hv.bool])]
          exact .inl (Oper.wp_both (fun a' w' hr' => hnext a' w' (hput a' w' hr')) (hqj _ hle a w ⟨M, G, hX⟩))
        · have hv := hX.sl d
          rw [show (SV s ds outs fun j => listed.getD j false).t d = .lit c from ((hle.t d).resolve_left (by rw [hb]; simp)).trans hb] at hv
          rw [if_neg (by simp [Region.wanted, hg, yielded_not hdj hv.litv hcb])]
          exact hnext _ w (hput _ w ⟨M, G, hX.undef o.dst (fun x hx => (hspec i o ho).2.2.2.1 hiq x hx)⟩)
      · -- behind
        have hic : i = c := by
          have h3 : ¬ i < c := fun hlt => by have := (hDc i).2 hlt; rw [h2] at this; cases this
          have h4 : ¬ c < i := fun hlt => by
            have := (hDc c).1 (hTi c ((hspec i o ho).2.2.2.2 (by omega) c hlt)).1
            omega
          omega
        subst hic
        rw [List.drop_eq_getElem_cons hil] at hwl
        have hoi : l[i] = o := (List.getElem?_eq_some_iff.1 ho).2
        rw [hoi] at hwl
        have hnext : ∀ a w, wpList E.P l.toArray (NK E (K .nm)) (l.drop (i + 1)) a w → wpAny E.P .any l.toArray (NK E (K .nm)) fuel (listed.setIfInBounds i true) a w := fun a w hw => by
          refine next a w (.inr ⟨i + 1, by omega, by omega, fun j => ?_, hw⟩)
          by_cases hji : j = i
          · subst hji; simp only [hgi, true_iff]; omega
          · rw [hgo j hji, hDc]; omega
        unfold wpList at hwl
        split
        · rename_i hw; rw [if_pos hw] at hwl
          exact hwl.imp (Oper.wp_mono hnext) (fun h => h)
        · rename_i hw; rw [if_neg hw] at hwl
          exact hnext _ _ hwl
  obtain ⟨M, G, hX⟩ := hr
  have hX' : Rel E s a { w with drawn := w.drawn + 1 } := ⟨M, G, ⟨hX.er, fun r T hT => (hX.sat r T hT).congr (fun _ _ => rfl) (fun _ _ => rfl) (fun _ h => h), hX.nd, hX.dj, hX.own, hX.gd, hX.g0, fun i => (hX.sl i).congr (fun _ _ => rfl) (fun _ h => h), ⟨hX.ext.os, hX.ext.tape, hX.ext.output, hX.ext.size, hX.ext.block⟩, hX.df, hX.nt, hX.n1, hX.pv⟩⟩
  obtain ⟨M', G', hX'⟩ := hX'
  have h0 := hX'.sv0 ds outs hdnt
  have hfalse : ∀ j, (Array.replicate l.length false).getD j false = false := fun j => by
    rw [Array.getD_eq_getD_getElem?, Array.getElem?_replicate]; split <;> rfl
  have h0' : Rel E (SV s ds outs fun j => (Array.replicate l.length false).getD j false) a { w with drawn := w.drawn + 1 } := by
    rw [SV.congr (B' := fun _ => false) (fun i _ => hfalse i)]; exact h0
  refine wp_mono (wp_region_any hm (main _ _ _ _ (by simp) (by simp only [List.size_toArray]; exact Nat.le_trans (List.length_filter_le _ _) (by simp)) (fun i o hi => ?_) ?_)) (fun e a' w' hp => by obtain ⟨rfl, s', h1, h2⟩ := hp; exact ⟨s', h1, h2⟩)
  · simp only [List.size_toArray] at hi; rw [hfalse] at hi; cases hi
  · simp only [List.size_toArray]
    by_cases hq0 : q = 0
    · exact .inr ⟨0, by omega, by omega, fun j => by rw [hfalse]; simp, by
        have := hbehind (Array.replicate l.length false) a _ (fun j hj => by omega) h0'
        rw [hq0] at this; exact this⟩
    · refine .inl ⟨⟨0, by omega, hfalse 0⟩, fun j hj => ?_, h0'⟩
      rw [hfalse] at hj; cases hj

end Go.Av
