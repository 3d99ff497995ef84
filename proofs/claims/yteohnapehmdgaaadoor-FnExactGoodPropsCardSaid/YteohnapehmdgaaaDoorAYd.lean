/- Regions whose order is drawn, in which one operation turns what was there before the region. -/
import Derived.Test.YteohnapehmdgaaaDoorAYc
set_option linter.unusedSimpArgs false
set_option linter.unusedVariables false
/-! Regions whose order is drawn, in which one operation turns what was there before the region. -/
namespace Go.Av
/-- What an operation leaves: the region that 's2' holds where 's' knew one; refs go by 'f'. -/
def over (s s2 : ASt) (f : Nat → List Nat → Option (Nat × List Nat)) (s' : ASt) : ASt := ⟨fun i => (s'.t i).mapRef f, fun r => match s.m r with
  | some _ => s2.m r
  | none => s'.m r⟩
def Filt (f : Nat → List Nat → Option (Nat × List Nat)) : Prop := ∀ r p, f r p = none ∨ f r p = some (r, p)
/-- An operation that turns what was there. -/
def XJ (E : Env) (o : Oper) (s s2 : ASt) (f : Nat → List Nat → Option (Nat × List Nat)) (v : AV) (mo : Option AV) : Prop :=
  ∀ s', Le s s' → ∀ a w, Rel E s' a w → o.wp E.P a w (fun a' w' => Rel E (put (over s s2 f s') o.dst v mo) a' w') No
def ptrs (xs : List Nat) : List AV := xs.map fun x => .ptr x [] 0
def Shape (T : List (List Nat)) (ds : List (Option Tmp)) (outs : List (AV × Option AV)) (i : Nat) (o : Oper) : Prop :=
  (∃ v Tn, o.dst.isSome = true ∧ outs[i]? = some (v, Tn) ∧ okV ds (T.getD i []) i v = true ∧ tkV v = none) ∨
  (∃ d v Tn x, o.dst = some d ∧ outs[i]? = some (tkM v x, some Tn) ∧ okV ds (T.getD i []) i v = true ∧ upOk T ds x i = true ∧ ∀ k T'', k < i → ¬ IsU ds outs x k T'') ∨
  (∃ x T', o.dst = none ∧ outs[i]? = some (.ptr x [] 0, some T') ∧ upOk T ds x i = true ∧ ∀ k T'', k < i → ¬ IsU ds outs x k T'') ∨
  (o.dst = none ∧ outs[i]? = some (.junk, none)) ∨
  (∃ xs Ts, o.dst = none ∧ outs[i]? = some (.tup (ptrs xs), some (.tup Ts)) ∧ ∀ x T', upL x (ptrs xs) Ts = some T' → upOk T ds x i = true ∧ ∀ k T'', k < i → ¬ IsU ds outs x k T'')
/-- What is known of the operation that turns what was there. -/
def XOk (E : Env) (T : List (List Nat)) (s s1 : ASt) (ds : List (Option Tmp)) (outs : List (AV × Option AV)) (f : Nat → List Nat → Option (Nat × List Nat)) (i : Nat) (o : Oper) : Prop :=
  ∃ s2 v mo, o.guard = none ∧ XJ E o (SV s ds outs (T.getD i []).contains) s2 f v mo ∧
    (∀ r, wh r ds 0 = none → s1.m r = match s.m r with | some _ => s2.m r | none => none) ∧
    ((∃ d, o.dst = some d ∧ okV ds (T.getD i []) i v = true ∧ outs[i]? = some (v, mo) ∧ tkV v = none ∧ ∀ r c, wh r ds 0 = some c → r ≠ d → (SV s ds outs (T.getD i []).contains).m r ≠ none → s2.m r = (SV s ds outs (T.getD i []).contains).m r) ∨
     (∃ d x Tn, o.dst = some d ∧ okV ds (T.getD i []) i v = true ∧ mo = some Tn ∧ outs[i]? = some (tkM v x, some Tn) ∧ x ≠ d ∧ ((SV s ds outs (T.getD i []).contains).m x).isSome = true ∧ s2.m x = some .junk ∧ upOk T ds x i = true ∧ (∀ k T'', k < i → ¬ IsU ds outs x k T'') ∧
        ∀ r c, wh r ds 0 = some c → r ≠ d → r ≠ x → (SV s ds outs (T.getD i []).contains).m r ≠ none → s2.m r = (SV s ds outs (T.getD i []).contains).m r) ∨
     (o.dst = none ∧ outs[i]? = some (.junk, none) ∧ ∀ r c, wh r ds 0 = some c → (SV s ds outs (T.getD i []).contains).m r ≠ none → s2.m r = (SV s ds outs (T.getD i []).contains).m r) ∨
     (∃ x T', o.dst = none ∧ outs[i]? = some (.ptr x [] 0, some T') ∧ ((SV s ds outs (T.getD i []).contains).m x).isSome = true ∧ s2.m x = some T' ∧ upOk T ds x i = true ∧ (∀ k T'', k < i → ¬ IsU ds outs x k T'') ∧
        ∀ r c, wh r ds 0 = some c → r ≠ x → (SV s ds outs (T.getD i []).contains).m r ≠ none → s2.m r = (SV s ds outs (T.getD i []).contains).m r) ∨
     (∃ xs Ts, o.dst = none ∧ outs[i]? = some (.tup (ptrs xs), some (.tup Ts)) ∧ (∀ x ∈ xs, ((SV s ds outs (T.getD i []).contains).m x).isSome = true ∧ (upL x (ptrs xs) Ts).isSome = true) ∧ (∀ x T', upL x (ptrs xs) Ts = some T' → x ∈ xs ∧ s2.m x = some T' ∧ upOk T ds x i = true ∧ ∀ k T'', k < i → ¬ IsU ds outs x k T'') ∧
        ∀ r c, wh r ds 0 = some c → r ∉ xs → (SV s ds outs (T.getD i []).contains).m r ≠ none → s2.m r = (SV s ds outs (T.getD i []).contains).m r))
/-! ### The walk's form -/
theorem OutOk.ext {E : Env} {ops : Array Oper} {T : List (List Nat)} {s : ASt} {ds : List (Option Tmp)} {outs outs' : List (AV × Option AV)} {k : Nat} {o : Oper} (he : ∀ i, i ≤ k → outs[i]? = outs'[i]?) (hT : ∀ j ∈ T.getD k [], j < k) (hk : k < outs.length)
    (h : OutOk E ops T s ds outs k o) : OutOk E ops T s ds outs' k o := by
  have hS : SV s ds outs (T.getD k []).contains = SV s ds outs' (T.getD k []).contains := by
    have h1 : SV s ds (outs.take (k + 1)) (T.getD k []).contains = SV s ds outs (T.getD k []).contains :=
      SV.pre (fun i hi => by rw [List.getElem?_take]; rw [List.length_take] at hi; rw [if_pos (by omega)]) (fun i hi => by
        have := hT i (by simpa using hi); rw [List.length_take]; omega)
    have h2 : SV s ds (outs.take (k + 1)) (T.getD k []).contains = SV s ds outs' (T.getD k []).contains :=
      SV.pre (fun i hi => by rw [List.length_take] at hi; rw [List.getElem?_take, if_pos (by omega)]; exact (he i (by omega)).symm) (fun i hi => by
        have := hT i (by simpa using hi); rw [List.length_take]; omega)
    exact h1.symm.trans h2
  have hU : ∀ x j T'', j < k → (IsU ds outs x j T'' ↔ IsU ds outs' x j T'') := fun x j T'' hj => IsU.pre (he j (by omega))
  unfold OutOk at h ⊢
  rw [hS, he k (Nat.le_refl _)] at h
  rcases h with ⟨v, Tn, h1, h2, h3, h4⟩ | ⟨d, v, Tn, x, h1, h2, h3, h4, h5, h6, h7⟩ | ⟨x, T', h1, h2, h3, h4, h5, h6⟩
  · exact .inl ⟨v, Tn, h1, h2, h3, h4⟩
  · exact .inr (.inl ⟨d, v, Tn, x, h1, h2, h3, h4, h5, h6, fun j T'' hj hu => h7 j T'' hj ((hU x j T'' hj).2 hu)⟩)
  · exact .inr (.inr ⟨x, T', h1, h2, h3, h4, h5, fun j T'' hj hu => h6 j T'' hj ((hU x j T'' hj).2 hu)⟩)
/-! ### Operations that turn what was there -/
def over0 (s s2 s' : ASt) : ASt := ⟨s'.t, fun r => match s.m r with
  | some _ => s2.m r
  | none => s'.m r⟩
def Kn (s s1 : ASt) : Prop := s1.t = s.t ∧ ∀ r, (s1.m r).isSome = (s.m r).isSome
theorem Kn.refl (s : ASt) : Kn s s := ⟨rfl, fun _ => rfl⟩
theorem Kn.trans {a b c : ASt} (h : Kn a b) (k : Kn b c) : Kn a c := ⟨k.1.trans h.1, fun r => (k.2 r).trans (h.2 r)⟩
def fOf (P : Program) (t : TypeId) : AV → Nat → List Nat → Option (Nat × List Nat)
  | .ptr r p o => killR r p o (szN P t)
  | _ => fun _ _ => none
def idF : Nat → List Nat → Option (Nat × List Nat) := fun r p => some (r, p)
mutual
theorem mapRef_idF : ∀ (a : AV), a.mapRef idF = a
  | .sl r p o l => by simp only [AV.mapRef, idF]
  | .ptr r p o => by simp only [AV.mapRef, idF]
  | .agg cs => by simp only [AV.mapRef, mapRefs_idF cs]
  | .tup cs => by simp only [AV.mapRef, mapRefs_idF cs]
  | .fn _ cs => by simp only [AV.mapRef, mapRefs_idF cs]
  | .lit _ => by simp only [AV.mapRef]
  | .row _ _ _ _ => by simp only [AV.mapRef]
  | .box _ _ => by simp only [AV.mapRef]
  | .junk => by simp only [AV.mapRef]
theorem mapRefs_idF : ∀ (l : List AV), AV.mapRefs idF l = l
  | [] => by simp only [AV.mapRefs]
  | c :: r => by simp only [AV.mapRefs, mapRef_idF c, mapRefs_idF r]
end
/-! ### The whole region -/
def base1 (s st : ASt) (f : Nat → List Nat → Option (Nat × List Nat)) : ASt := ⟨fun i => (s.t i).mapRef f, fun r => match s.m r with
  | some _ => st.m r
  | none => none⟩
/-- The regions that were made here are what they were, but those of 'ex'. -/
def sameP (S st : ASt) (ex : List Nat) : List (Option Tmp) → Prop
  | [] => True
  | none :: l => sameP S st ex l
  | some r :: l => (if memB ex r = true then True else st.m r = S.m r) ∧ sameP S st ex l
def allUp (T : List (List Nat)) (ds : List (Option Tmp)) (outs : List (AV × Option AV)) (S : ASt) : List Nat → Prop
  | [] => True
  | x :: l => ((S.m x).isSome = true ∧ upOk T ds x outs.length = true ∧ noUp x ds outs = true) ∧ allUp T ds outs S l
def ptrsC : List Nat → List AV
  | [] => []
  | x :: l => .ptr x [] 0 :: ptrsC l
def getMs (st : ASt) : List Nat → Option (List AV)
  | [] => some []
  | x :: l => match st.m x with
    | some T => (getMs st l).map (T :: ·)
    | none => none
def dxL (f : Nat → List Nat → Option (Nat × List Nat)) (st : ASt) (K : (Nat → List Nat → Option (Nat × List Nat)) → ASt → List (AV × Option AV) → Prop) (outs : List (AV × Option AV)) (ps : List AV) : Option (List AV) → Prop
  | some Ts => K f st (outs ++ [(.tup ps, some (.tup Ts))])
  | none => False
def dxS (T : List (List Nat)) (ds : List (Option Tmp)) (outs : List (AV × Option AV)) (mk : List Nat) (S : ASt) (f : Nat → List Nat → Option (Nat × List Nat)) (K : (Nat → List Nat → Option (Nat × List Nat)) → ASt → List (AV × Option AV) → Prop) (st : ASt) : Prop := match mk with
  | [] => sameP S st [] ds ∧ K f st (outs ++ [(.junk, none)])
  | x :: l => (sameP S st (x :: l) ds ∧ allUp T ds outs S (x :: l)) ∧ dxL f st K outs (ptrsC (x :: l)) (getMs st (x :: l))
def dxA (T : List (List Nat)) (ds : List (Option Tmp)) (outs : List (AV × Option AV)) (mk : List Nat) (S : ASt) (d : Nat) (K : (Nat → List Nat → Option (Nat × List Nat)) → ASt → List (AV × Option AV) → Prop) (st : ASt) : Prop := match mk with
  | [] => (okV ds (T.getD outs.length []) outs.length (st.t d) = true ∧ tkV (st.t d) = none ∧ sameP S st [d] ds) ∧ K idF st (outs ++ [(st.t d, st.m d)])
  | [x] => (okV ds (T.getD outs.length []) outs.length (st.t d) = true ∧ sameP S st [d, x] ds ∧ x ≠ d ∧ (S.m x).isSome = true ∧ st.m x = some .junk ∧ upOk T ds x outs.length = true ∧ noUp x ds outs = true) ∧ K idF st (outs ++ [(tkM (st.t d) x, st.m d)])
  | _ => False
def dxop (E : Env) (T : List (List Nat)) (ds : List (Option Tmp)) (outs : List (AV × Option AV)) (mk : List Nat) (o : Oper) (K : (Nat → List Nat → Option (Nat × List Nat)) → ASt → List (AV × Option AV) → Prop) (S : ASt) : Prop := match o.dst, o.op, o.guard with
  | none, .store t x y, none => storeQ E.P t (S.ev x) (S.ev y) (dxS T ds outs mk S (fOf E.P t (S.ev x)) K) S
  | some d, .call { callee := .builtin .append, args := ⟨[x, y]⟩, argTypes := ⟨[t, t']⟩ }, none => (d < E.nt ∧ t' = t) ∧ appQ E.P t (S.ev x) (S.ev y) (dxA T ds outs mk S d K) S d
  | _, _, _ => False
def dqA (E : Env) (da : List (Option Tmp)) (T : List (List Nat)) (s : ASt) (ds : List (Option Tmp)) (K : List (AV × Option AV) → Prop) : List Oper → List (AV × Option AV) → Prop
  | [] => K
  | o :: rest => fun outs => dstep E da T ds o outs (dqA E da T s ds K rest) (SV s ds outs (memB (T.getD outs.length [])))
/-- Those ahead of it in the text that may come behind it. -/
def dqC (E : Env) (da : List (Option Tmp)) (T : List (List Nat)) (s1 : ASt) (ds : List (Option Tmp)) (ix : Nat) (outs : List (AV × Option AV)) : List Oper → Nat → Prop
  | [], _ => True
  | o :: rest, i => (if memB (T.getD ix []) i = true then True else dstep E da T ds o (outs.take i) (fun o' => o' = outs.take (i + 1)) (SV s1 ds (outs.take i) (memB (T.getD i [])))) ∧ dqC E da T s1 ds ix outs rest (i + 1)
def dqB (E : Env) (da : List (Option Tmp)) (T : List (List Nat)) (s s1 : ASt) (ds : List (Option Tmp)) (ix : Nat) (K : List (AV × Option AV) → Prop) : List Oper → List (AV × Option AV) → Prop
  | [] => K
  | o :: rest => fun outs => if memB (T.getD outs.length []) ix = true then dstep E da T ds o outs (dqB E da T s s1 ds ix K rest) (SV s1 ds outs (memB (T.getD outs.length []))) else
      dstep E da T ds o outs (fun outs1 => dstep E da T ds o outs (fun outs2 => outs2 = outs1) (SV s1 ds outs (memB (T.getD outs.length []))) ∧ dqB E da T s s1 ds ix K rest outs1) (SV s ds outs (memB (T.getD outs.length [])))
def fixP (T : List (List Nat)) (ix : Nat) (f : Nat → List Nat → Option (Nat × List Nat)) : List (AV × Option AV) → Nat → Prop
  | [], _ => True
  | e :: l, i => (if i = ix then True else if memB (T.getD i []) ix = true then True else (outV e.1).mapRef f = outV e.1) ∧ fixP T ix f l (i + 1)
def dqx3 (E : Env) (da : List (Option Tmp)) (T : List (List Nat)) (s : ASt) (ds : List (Option Tmp)) (ix : Nat) (tail : ASt → Prop) (pre rest : List Oper) (f : Nat → List Nat → Option (Nat × List Nat)) (st : ASt) (outs : List (AV × Option AV)) : Prop :=
  dqC E da T (base1 s st f) ds ix outs pre 0 ∧ dqB E da T s (base1 s st f) ds ix (fun outs => fixP T ix f outs 0 ∧ tail (SV (base1 s st f) ds outs fun _ => true)) rest outs
def dqx2 (E : Env) (da : List (Option Tmp)) (T : List (List Nat)) (s : ASt) (ds : List (Option Tmp)) (ix : Nat) (mk : List Nat) (tail : ASt → Prop) (pre : List Oper) (outs : List (AV × Option AV)) : List Oper → Prop
  | [] => False
  | o :: rest => dxop E T ds outs mk o (dqx3 E da T s ds ix tail pre rest) (SV s ds outs (memB (T.getD outs.length [])))
def dqX (E : Env) (da : List (Option Tmp)) (T : List (List Nat)) (s : ASt) (ds : List (Option Tmp)) (ix : Nat) (mk : List Nat) (tail : ASt → Prop) (l : List Oper) : Prop :=
  dqA E da T s ds (fun outs => dqx2 E da T s ds ix mk tail (l.take ix) outs (l.drop ix)) (l.take ix) []

theorem XOk.ext {E : Env} {T : List (List Nat)} {s s1 : ASt} {ds : List (Option Tmp)} {outs outs' : List (AV × Option AV)} {f : Nat → List Nat → Option (Nat × List Nat)} {k : Nat} {o : Oper} (he : ∀ i, i ≤ k → outs[i]? = outs'[i]?) (hT : ∀ j ∈ T.getD k [], j < k) (hk : k < outs.length)
    (h : XOk E T s s1 ds outs f k o) : XOk E T s s1 ds outs' f k o := by
  have hS : SV s ds outs (T.getD k []).contains = SV s ds outs' (T.getD k []).contains := by
    have h1 : SV s ds (outs.take (k + 1)) (T.getD k []).contains = SV s ds outs (T.getD k []).contains :=
      SV.pre (fun i hi => by rw [List.getElem?_take]; rw [List.length_take] at hi; rw [if_pos (by omega)]) (fun i hi => by
        have := hT i (by simpa using hi); rw [List.length_take]; omega)
    have h2 : SV s ds (outs.take (k + 1)) (T.getD k []).contains = SV s ds outs' (T.getD k []).contains :=
      SV.pre (fun i hi => by rw [List.length_take] at hi; rw [List.getElem?_take, if_pos (by omega)]; exact (he i (by omega)).symm) (fun i hi => by
        have := hT i (by simpa using hi); rw [List.length_take]; omega)
    exact h1.symm.trans h2
  have hU : ∀ x, (∀ j T'', j < k → ¬ IsU ds outs x j T'') → ∀ j T'', j < k → ¬ IsU ds outs' x j T'' := fun x h j T'' hj hu => h j T'' hj ((IsU.pre (he j (by omega))).2 hu)
  obtain ⟨s2, v, mo, h1, h2, h3, h4⟩ := h
  rw [hS] at h2
  rw [hS, he k (Nat.le_refl _)] at h4
  refine ⟨s2, v, mo, h1, h2, h3, ?_⟩
  rcases h4 with h | ⟨d, x, Tn, a1, a2, a3, a4, a5, a6, a7, a8, a9, a10⟩ | h | ⟨x, T', a1, a2, a3, a4, a5, a6, a7⟩ | ⟨xs, Ts, a1, a2, a3, a4, a5⟩
  · exact .inl h
  · exact .inr (.inl ⟨d, x, Tn, a1, a2, a3, a4, a5, a6, a7, a8, hU x a9, a10⟩)
  · exact .inr (.inr (.inl h))
  · exact .inr (.inr (.inr (.inl ⟨x, T', a1, a2, a3, a4, a5, hU x a6, a7⟩)))
  · exact .inr (.inr (.inr (.inr ⟨xs, Ts, a1, a2, a3, fun x T' hx => ⟨(a4 x T' hx).1, (a4 x T' hx).2.1, (a4 x T' hx).2.2.1, hU x (a4 x T' hx).2.2.2⟩, a5⟩)))
section
variable {E : Env} {K : List (AV × Option AV) → Prop} {s s1 st S : ASt} {da ds : List (Option Tmp)} {T : List (List Nat)} {tail : ASt → Prop} {outs : List (AV × Option AV)} {o : Oper} {rest pre l : List Oper} {ix i r : Nat} {mk : List Nat} {f : Nat → List Nat → Option (Nat × List Nat)} {ex : List Nat}
  {k3 : (Nat → List Nat → Option (Nat × List Nat)) → ASt → List (AV × Option AV) → Prop}
theorem dqX_def : dqX E da T s ds ix mk tail l = dqA E da T s ds (fun outs => dqx2 E da T s ds ix mk tail (l.take ix) outs (l.drop ix)) (l.take ix) [] := nrfl rfl
theorem dqA_nil : dqA E da T s ds K [] outs = K outs := nrfl rfl
theorem dqA_cons : dqA E da T s ds K (o :: rest) outs = dstep E da T ds o outs (dqA E da T s ds K rest) (SV s ds outs (memB (T.getD outs.length []))) := nrfl rfl
theorem dqx2_cons : dqx2 E da T s ds ix mk tail pre outs (o :: rest) = dxop E T ds outs mk o (dqx3 E da T s ds ix tail pre rest) (SV s ds outs (memB (T.getD outs.length []))) := nrfl rfl
theorem dqx3_def : dqx3 E da T s ds ix tail pre rest f st outs = (dqC E da T (base1 s st f) ds ix outs pre 0 ∧ dqB E da T s (base1 s st f) ds ix (fun outs => fixP T ix f outs 0 ∧ tail (SV (base1 s st f) ds outs fun _ => true)) rest outs) := nrfl rfl
theorem dqC_nil : dqC E da T s1 ds ix outs [] i = True := nrfl rfl
theorem dqC_cons : dqC E da T s1 ds ix outs (o :: rest) i = ((if memB (T.getD ix []) i = true then True else dstep E da T ds o (outs.take i) (fun o' => o' = outs.take (i + 1)) (SV s1 ds (outs.take i) (memB (T.getD i [])))) ∧ dqC E da T s1 ds ix outs rest (i + 1)) := nrfl rfl
theorem dqB_nil : dqB E da T s s1 ds ix K [] outs = K outs := nrfl rfl
theorem dqB_cons : dqB E da T s s1 ds ix K (o :: rest) outs = (if memB (T.getD outs.length []) ix = true then dstep E da T ds o outs (dqB E da T s s1 ds ix K rest) (SV s1 ds outs (memB (T.getD outs.length []))) else
      dstep E da T ds o outs (fun outs1 => dstep E da T ds o outs (fun outs2 => outs2 = outs1) (SV s1 ds outs (memB (T.getD outs.length []))) ∧ dqB E da T s s1 ds ix K rest outs1) (SV s ds outs (memB (T.getD outs.length [])))) := nrfl rfl
theorem fixP_nil : fixP T ix f [] i = True := nrfl rfl
theorem fixP_cons {e : AV × Option AV} {l : List (AV × Option AV)} : fixP T ix f (e :: l) i = ((if i = ix then True else if memB (T.getD i []) ix = true then True else (outV e.1).mapRef f = outV e.1) ∧ fixP T ix f l (i + 1)) := nrfl rfl
theorem sameP_nil : sameP S st ex [] = True := nrfl rfl
theorem sameP_none {l : List (Option Tmp)} : sameP S st ex (none :: l) = sameP S st ex l := nrfl rfl
theorem sameP_some {l : List (Option Tmp)} : sameP S st ex (some r :: l) = ((if memB ex r = true then True else st.m r = S.m r) ∧ sameP S st ex l) := nrfl rfl
theorem dxS_none : dxS T ds outs [] S f k3 st = (sameP S st [] ds ∧ k3 f st (outs ++ [(.junk, none)])) := nrfl rfl
theorem dxS_some {x : Nat} {l : List Nat} : dxS T ds outs (x :: l) S f k3 st = ((sameP S st (x :: l) ds ∧ allUp T ds outs S (x :: l)) ∧ dxL f st k3 outs (ptrsC (x :: l)) (getMs st (x :: l))) := nrfl rfl
theorem allUp_nil : allUp T ds outs S [] = True := nrfl rfl
theorem allUp_cons {x : Nat} {l : List Nat} : allUp T ds outs S (x :: l) = (((S.m x).isSome = true ∧ upOk T ds x outs.length = true ∧ noUp x ds outs = true) ∧ allUp T ds outs S l) := nrfl rfl
theorem ptrsC_nil : ptrsC [] = [] := nrfl rfl
theorem ptrsC_cons {x : Nat} {l : List Nat} : ptrsC (x :: l) = .ptr x [] 0 :: ptrsC l := nrfl rfl
theorem getMs_nil : getMs st [] = some [] := nrfl rfl
theorem getMs_cons {x : Nat} {l : List Nat} : getMs st (x :: l) = (match st.m x with
    | some T => (getMs st l).map (T :: ·)
    | none => none) := nrfl rfl
theorem dxL_some {ps Ts : List AV} : dxL f st k3 outs ps (some Ts) = k3 f st (outs ++ [(.tup ps, some (.tup Ts))]) := nrfl rfl
theorem dxA_none {d : Nat} : dxA T ds outs [] S d k3 st = ((okV ds (T.getD outs.length []) outs.length (st.t d) = true ∧ tkV (st.t d) = none ∧ sameP S st [d] ds) ∧ k3 idF st (outs ++ [(st.t d, st.m d)])) := nrfl rfl
theorem dxA_some {d x : Nat} : dxA T ds outs [x] S d k3 st = ((okV ds (T.getD outs.length []) outs.length (st.t d) = true ∧ sameP S st [d, x] ds ∧ x ≠ d ∧ (S.m x).isSome = true ∧ st.m x = some .junk ∧ upOk T ds x outs.length = true ∧ noUp x ds outs = true) ∧ k3 idF st (outs ++ [(tkM (st.t d) x, st.m d)])) := nrfl rfl
theorem dx_store {xt : TypeId} {x y : Operand} {t : TypeId} {pos : String} {after : Array Edge} : dxop E T ds outs mk ⟨none, .store xt x y, t, pos, after, none⟩ k3 S = storeQ E.P xt (S.ev x) (S.ev y) (dxS T ds outs mk S (fOf E.P xt (S.ev x)) k3) S := nrfl rfl
theorem dx_app {d : Tmp} {x y : Operand} {xt xt' t : TypeId} {pos : String} {after : Array Edge} : dxop E T ds outs mk ⟨some d, .call { callee := .builtin .append, args := #[x, y], argTypes := #[xt, xt'] }, t, pos, after, none⟩ k3 S = ((d < E.nt ∧ xt' = xt) ∧ appQ E.P xt (S.ev x) (S.ev y) (dxA T ds outs mk S d k3) S d) := nrfl rfl
theorem base1_t : (base1 s st f).t i = (s.t i).mapRef f := nrfl rfl
theorem base1_m : (base1 s st f).m r = match s.m r with | some _ => st.m r | none => none := nrfl rfl
theorem fOf_ptr {P : Program} {t : TypeId} {p : List Nat} {o : Nat} : fOf P t (.ptr r p o) = killR r p o (szN P t) := nrfl rfl
variable {next : List (AV × Option AV) → Prop}
theorem dst_none {d : Tmp} {op : Op} {t : TypeId} {pos : String} {after : Array Edge} : dstep E da T ds ⟨some d, op, t, pos, after, none⟩ outs next S = dq1 E ⟨some d, op, t, pos, after, none⟩ (dnx T ds outs.length d outs next) S := nrfl rfl
theorem dst_some {d : Tmp} {op : Op} {t : TypeId} {pos : String} {after : Array Edge} {j : Nat} {b : Bool} : dstep E da T ds ⟨some d, op, t, pos, after, some (j, b)⟩ outs next S = match da[j]? with
    | some (some d') => GD E (S.t d') b ⟨some d, op, t, pos, after, some (j, b)⟩ (dnx T ds outs.length d outs next) S
    | _ => False := nrfl rfl
theorem dst_store {xt : TypeId} {x y : Operand} {t : TypeId} {pos : String} {after : Array Edge} : dstep E da T ds ⟨none, .store xt x y, t, pos, after, none⟩ outs next S = dstoreQ E.P xt (S.ev x) (S.ev y) T ds outs next S := nrfl rfl
end

end Go.Av
