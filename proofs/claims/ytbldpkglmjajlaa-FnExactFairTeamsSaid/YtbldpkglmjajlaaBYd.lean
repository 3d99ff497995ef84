/- Regions whose order is drawn, in which one operation turns what was there before the region. -/
import Derived.Test.YtbldpkglmjajlaaBYc
set_option linter.unusedSimpArgs false
set_option linter.unusedVariables false
/-! Regions whose order is drawn, in which one operation turns what was there before the region. -/
namespace Go.Av
/-- What an operation leaves: the region that 's2' holds where 's' knew one; refs go by 'f'. -/
def over (s s2 : ASt) (f : Nat → List Nat → Option (Nat × List Nat)) (s' : ASt) : ASt := ⟨fun i => (s'.t i).mapRef f, fun r => match s.m r with
  | some _ => s2.m r
  | none => s'.m r⟩
def Filt (f : Nat → List Nat → Option (Nat × List Nat)) : Prop := ∀ r p, f r p = none ∨ f r p = some (r, p)
mutual
theorem mapRef_comm {f g : Nat → List Nat → Option (Nat × List Nat)} (hf : Filt f) (hg : Filt g) : ∀ (a : AV), (a.mapRef f).mapRef g = (a.mapRef g).mapRef f
  | .sl r p o l => by
    rcases hf r p with h | h <;> rcases hg r p with h' | h' <;> simp only [AV.mapRef, h, h']
  | .ptr r p o => by
    rcases hf r p with h | h <;> rcases hg r p with h' | h' <;> simp only [AV.mapRef, h, h']
  | .agg cs => by simp only [AV.mapRef, mapRefs_comm hf hg cs]
  | .tup cs => by simp only [AV.mapRef, mapRefs_comm hf hg cs]
  | .fn _ cs => by simp only [AV.mapRef, mapRefs_comm hf hg cs]
  | .lit _ => by simp only [AV.mapRef]
  | .row _ _ _ _ => by simp only [AV.mapRef]
  | .box _ _ => by simp only [AV.mapRef]
  | .junk => by simp only [AV.mapRef]
theorem mapRefs_comm {f g : Nat → List Nat → Option (Nat × List Nat)} (hf : Filt f) (hg : Filt g) : ∀ (l : List AV), AV.mapRefs g (AV.mapRefs f l) = AV.mapRefs f (AV.mapRefs g l)
  | [] => by simp only [AV.mapRefs]
  | c :: r => by simp only [AV.mapRefs, mapRef_comm hf hg c, mapRefs_comm hf hg r]
end
theorem killL_filt (ds : List (Option Tmp)) : Filt (killL ds) := fun r p => by
  simp only [killL]; cases wh r ds 0 with
  | none => exact .inr rfl
  | some _ => exact .inl rfl
/-- An operation that turns what was there. -/
def XJ (E : Env) (o : Oper) (s s2 : ASt) (f : Nat → List Nat → Option (Nat × List Nat)) (v : AV) (mo : Option AV) : Prop :=
  ∀ s', Le s s' → ∀ a w, Rel E s' a w → o.wp E.P a w (fun a' w' => Rel E (put (over s s2 f s') o.dst v mo) a' w') No
def ptrs (xs : List Nat) : List AV := xs.map fun x => .ptr x [] 0
def Shape (T : List (List Nat)) (ds : List (Option Tmp)) (outs : List (AV × Option AV)) (i : Nat) (o : Oper) : Prop :=
  (∃ v Tn, o.dst.isSome = true ∧ outs[i]? = some (v, Tn) ∧ okV ds (T.getD i []) i v = true ∧ tkV v = none) ∨
  (∃ d v Tn x, o.dst = some d ∧ outs[i]? = some (tkM v x, some Tn) ∧ okV ds (T.getD i []) i v = true ∧ upOk T ds x i = true ∧ ∀ k T'', k < i → ¬ IsU ds outs x k T'') ∨
  (∃ x T', o.dst = none ∧ outs[i]? = some (.ptr x [] 0, some T') ∧ upOk T ds x i = true ∧ ∀ k T'', k < i → ¬ IsU ds outs x k T'') ∨
  (o.dst = none ∧ outs[i]? = some (.junk, none)) ∨
  (∃ xs Ts, o.dst = none ∧ outs[i]? = some (.tup (ptrs xs), some (.tup Ts)) ∧ ∀ x T', upL x (ptrs xs) Ts = some T' → upOk T ds x i = true ∧ ∀ k T'', k < i → ¬ IsU ds outs x k T'')
theorem OutOk.shape {E : Env} {ops : Array Oper} {T : List (List Nat)} {s : ASt} {ds : List (Option Tmp)} {outs : List (AV × Option AV)} {i : Nat} {o : Oper} (h : OutOk E ops T s ds outs i o) : Shape T ds outs i o := by
  rcases h with ⟨v, Tn, k0, k1, _, k2, kt⟩ | ⟨d', v, Tn, x', k0, _, k1, _, kk, k2, k3⟩ | ⟨x', T'', k0, _, k1, _, k2, k3⟩
  · exact .inl ⟨v, Tn, k0, k1, k2, kt⟩
  · exact .inr (.inl ⟨d', v, Tn, x', k0, k1, kk, k2, k3⟩)
  · exact .inr (.inr (.inl ⟨x', T'', k0, k1, k2, k3⟩))
/-- What is known of the operation that turns what was there. -/
def XOk (E : Env) (T : List (List Nat)) (s s1 : ASt) (ds : List (Option Tmp)) (outs : List (AV × Option AV)) (f : Nat → List Nat → Option (Nat × List Nat)) (i : Nat) (o : Oper) : Prop :=
  ∃ s2 v mo, o.guard = none ∧ XJ E o (SV s ds outs (T.getD i []).contains) s2 f v mo ∧
    (∀ r, wh r ds 0 = none → s1.m r = match s.m r with | some _ => s2.m r | none => none) ∧
    ((∃ d, o.dst = some d ∧ okV ds (T.getD i []) i v = true ∧ outs[i]? = some (v, mo) ∧ tkV v = none ∧ ∀ r c, wh r ds 0 = some c → r ≠ d → (SV s ds outs (T.getD i []).contains).m r ≠ none → s2.m r = (SV s ds outs (T.getD i []).contains).m r) ∨
     (∃ d x Tn, o.dst = some d ∧ okV ds (T.getD i []) i v = true ∧ mo = some Tn ∧ outs[i]? = some (tkM v x, some Tn) ∧ x ≠ d ∧ ((SV s ds outs (T.getD i []).contains).m x).isSome = true ∧ s2.m x = some .junk ∧ upOk T ds x i = true ∧ (∀ k T'', k < i → ¬ IsU ds outs x k T'') ∧
        ∀ r c, wh r ds 0 = some c → r ≠ d → r ≠ x → (SV s ds outs (T.getD i []).contains).m r ≠ none → s2.m r = (SV s ds outs (T.getD i []).contains).m r) ∨
     (o.dst = none ∧ outs[i]? = some (.junk, none) ∧ ∀ r c, wh r ds 0 = some c → (SV s ds outs (T.getD i []).contains).m r ≠ none → s2.m r = (SV s ds outs (T.getD i []).contains).m r) ∨
     (∃ x T', o.dst = none ∧ outs[i]? = some (.ptr x [] 0, some T') ∧ ((SV s ds outs (T.getD i []).contains).m x).isSome = true ∧ s2.m x = some T' ∧ upOk T ds x i = true ∧ (∀ k T'', k < i → ¬ IsU ds outs x k T'') ∧
        ∀ r c, wh r ds 0 = some c → r ≠ x → (SV s ds outs (T.getD i []).contains).m r ≠ none → s2.m r = (SV s ds outs (T.getD i []).contains).m r) ∨
     (∃ xs Ts, o.dst = none ∧ outs[i]? = some (.tup (ptrs xs), some (.tup Ts)) ∧ (∀ x ∈ xs, ((SV s ds outs (T.getD i []).contains).m x).isSome = true ∧ (upL x (ptrs xs) Ts).isSome = true) ∧ (∀ x T', upL x (ptrs xs) Ts = some T' → x ∈ xs ∧ s2.m x = some T' ∧ upOk T ds x i = true ∧ ∀ k T'', k < i → ¬ IsU ds outs x k T'') ∧
        ∀ r c, wh r ds 0 = some c → r ∉ xs → (SV s ds outs (T.getD i []).contains).m r ≠ none → s2.m r = (SV s ds outs (T.getD i []).contains).m r))
theorem XOk.shape {E : Env} {T : List (List Nat)} {s s1 : ASt} {ds : List (Option Tmp)} {outs : List (AV × Option AV)} {f : Nat → List Nat → Option (Nat × List Nat)} {i : Nat} {o : Oper} (h : XOk E T s s1 ds outs f i o) : Shape T ds outs i o := by
  obtain ⟨s2, v, mo, _, _, _, h⟩ := h
  rcases h with ⟨d, h1, h2, h3, h4, _⟩ | ⟨d, x, Tn, h1, h2, _, h3, _, _, _, h4, h5, _⟩ | ⟨h1, h2, _⟩ | ⟨x, T', h1, h2, _, _, h3, h4, _⟩ | ⟨xs, Ts, h1, h2, _, h3, _⟩
  · exact .inl ⟨v, mo, by rw [h1]; rfl, h3, h2, h4⟩
  · exact .inr (.inl ⟨d, v, Tn, x, h1, h3, h2, h4, h5⟩)
  · exact .inr (.inr (.inr (.inl ⟨h1, h2⟩)))
  · exact .inr (.inr (.inl ⟨x, T', h1, h2, h3, h4⟩))
  · exact .inr (.inr (.inr (.inr ⟨xs, Ts, h1, h2, fun x T' hx => (h3 x T' hx).2.2⟩)))

theorem AWP.drawnX {E : Env} {id : Nat} {l : List Oper} {K : AX → ASt → Prop} {s s1 : ASt} (hm : E.P.follows .mixedOrders = true) (T : List (List Nat)) (q ix : Nat) (hc : chk l T q E.nt = true) (hix : ix < q)
    {outs : List (AV × Option AV)} {ds : List (Option Tmp)} {f : Nat → List Nat → Option (Nat × List Nat)} (hlen : outs.length = q) (hds : (l.take q).map (·.dst) = ds)
    (htail : Seq E l.toArray (l.drop q) (K .nm) (SV s1 ds outs fun _ => true))
    (h0 : ∀ i o, (l.take q)[i]? = some o → i ≠ ix → ix ∉ T.getD i [] → OutOk E l.toArray T s ds outs i o)
    (h1' : ∀ i o, (l.take q)[i]? = some o → i ≠ ix → i ∉ T.getD ix [] → OutOk E l.toArray T s1 ds outs i o)
    (hxo : ∀ o, l[ix]? = some o → XOk E T s s1 ds outs f ix o) (hfil : Filt f) (hs1 : ∀ i, s1.t i = (s.t i).mapRef f)
    (hfo : ∀ j e, outs[j]? = some e → j ≠ ix → ix ∉ T.getD j [] → (outV e.1).mapRef f = outV e.1) : AWP E (.region id l.toArray true) K s := by
  have hsh : ∀ i o, i < q → l[i]? = some o → Shape T ds outs i o := fun i o hi ho => by
    by_cases hixi : i = ix
    · subst hixi; exact (hxo o ho).shape
    · by_cases hT : ix ∈ T.getD i []
      · refine (h1' i o (by rw [List.getElem?_take_of_lt hi]; exact ho) hixi (fun hT' => ?_)).shape
        obtain ⟨hq, hspec, hdist⟩ := chk_spec hc
        have hTlt : ∀ i, ∀ j ∈ T.getD i [], i < l.length → j < i := fun i j hj hi =>
          (closedT hc (fun _ => True) (fun _ _ _ _ _ _ _ => trivial) (i + 1) i l[i] (by omega) (List.getElem?_eq_getElem hi) (fun _ _ _ => trivial) j hj).2
        have a1 := hTlt i ix hT (by omega)
        have a2 := hTlt ix i hT' (by omega)
        omega
      · exact (h0 i o (by rw [List.getElem?_take_of_lt hi]; exact ho) hixi hT).shape
  intro a w hr
  obtain ⟨hq, hspec, hdist⟩ := chk_spec hc
  have hTlt : ∀ i, ∀ j ∈ T.getD i [], i < l.length → j < i := fun i j hj hi =>
    (closedT hc (fun _ => True) (fun _ _ _ _ _ _ _ => trivial) (i + 1) i l[i] (by omega) (List.getElem?_eq_getElem hi) (fun _ _ _ => trivial) j hj).2
  have hdsl : ds.length = q := by rw [← hds]; simp; omega
  have hdsi : ∀ i o, i < q → l[i]? = some o → ds[i]? = some o.dst := fun i o hi ho => by
    rw [← hds, List.getElem?_map, List.getElem?_take_of_lt hi, ho]; rfl
  have hwh : ∀ i o (d : Nat), i < q → l[i]? = some o → o.dst = some d → wh d ds 0 = some i := fun i o d hi ho hd => by
    have hdi := hdsi i o hi ho
    rw [hd] at hdi
    have := wh_of (i := 0) hdi (fun a b hab h1 h2 => by
      have hb : b < q := by rw [← hdsl]; exact (List.getElem?_eq_some_iff.1 h2).1
      have e1 : (l.getD a default).dst = some d := by
        have ha : a < l.length := by omega
        have := hdsi a l[a] (by omega) (List.getElem?_eq_getElem ha)
        rw [this] at h1
        simp only [List.getD_eq_getElem?_getD, List.getElem?_eq_getElem ha, Option.getD_some]
        exact Option.some.inj h1
      have e2 : (l.getD b default).dst = some d := by
        have hb' : b < l.length := by omega
        have := hdsi b l[b] hb (List.getElem?_eq_getElem hb')
        rw [this] at h2
        simp only [List.getD_eq_getElem?_getD, List.getElem?_eq_getElem hb', Option.getD_some]
        exact Option.some.inj h2
      exact hdist a b hb hab d e1 e2)
    simpa using this
  have hU : ∀ x k T', IsU ds outs x k T' → k < q ∧ upOk T ds x k = true ∧ (∀ k' T'', k' < k → ¬ IsU ds outs x k' T'') := fun x k T' ⟨d, e, h1, h2, h3⟩ => by
    have hkq : k < q := by rw [← hdsl]; exact (List.getElem?_eq_some_iff.1 h1).1
    have hkl : k < l.length := by omega
    have hd := hdsi k l[k] hkq (List.getElem?_eq_getElem hkl)
    rw [h1] at hd
    have hd := Option.some.inj hd
    rcases hsh k l[k] hkq (List.getElem?_eq_getElem hkl) with ⟨v, Tn, k0, k1, _, kt⟩ | ⟨d', v, Tn, x', k0, k1, _, k2, k3⟩ | ⟨x', T'', k0, k1, k2, k3⟩ | ⟨k0, k1⟩ | ⟨xs, Ts, k0, k1, k2⟩
    · rw [← hd] at k0
      rw [h2] at k1
      have k1 := Option.some.inj k1
      subst k1
      rw [updOne_n k0 kt] at h3; cases h3
    · rw [h2] at k1
      have k1 := Option.some.inj k1
      subst k1
      rw [hd, k0] at h3
      simp only [updOne, tkV_mark] at h3
      split at h3
      · rename_i hx; subst hx; exact ⟨hkq, k2, k3⟩
      · cases h3
    · rw [h2] at k1
      have k1 := Option.some.inj k1
      subst k1
      rw [hd, k0] at h3
      simp only [updOne] at h3
      split at h3
      · rename_i hx; subst hx; exact ⟨hkq, k2, k3⟩
      · cases h3
    · rw [h2] at k1
      have k1 := Option.some.inj k1
      subst k1
      rw [hd, k0] at h3
      simp [updOne] at h3
    · rw [h2] at k1
      have k1 := Option.some.inj k1
      subst k1
      rw [hd, k0] at h3
      simp only [updOne] at h3
      have := k2 x T' h3
      exact ⟨hkq, this.1, this.2⟩
  have hUq : ∀ x k T' k' T'', IsU ds outs x k T' → IsU ds outs x k' T'' → k' = k ∧ T'' = T' := fun x k T' k' T'' h1 h2 => by
    have hk : k' = k := by
      rcases Nat.lt_trichotomy k' k with h | h | h
      · exact absurd h2 ((hU x k T' h1).2.2 k' T'' h)
      · exact h
      · exact absurd h1 ((hU x k' T'' h2).2.2 k T' h)
    subst hk
    obtain ⟨d, e, a1, a2, a3⟩ := h1
    obtain ⟨d', e', b1, b2, b3⟩ := h2
    rw [a1] at b1; cases b1
    rw [a2] at b2; cases b2
    rw [a3] at b3; cases b3
    exact ⟨rfl, rfl⟩
  have hUc : ∀ x k T', IsU ds outs x k T' → ∃ c, wh x ds 0 = some c ∧ c ∈ T.getD k [] ∧ ∀ j, j < q → c ∈ T.getD j [] → k ∈ T.getD j [] ∨ j ∈ T.getD k [] ∨ j = k := fun x k T' h => by
    have h2 := (hU x k T' h).2.1
    unfold upOk at h2
    split at h2
    · rename_i c hc
      simp only [Bool.and_eq_true, List.all_eq_true, List.mem_range, Bool.or_eq_true, Bool.not_eq_true', beq_iff_eq] at h2
      refine ⟨c, hc, by simpa using h2.1, fun j hj hcj => ?_⟩
      rcases h2.2 j (by omega) with ((h3 | h3) | h3) | h3
      · rw [List.contains_iff_mem.2 hcj] at h3; cases h3
      · exact .inl (List.contains_iff_mem.1 h3)
      · exact .inr (.inl (List.contains_iff_mem.1 h3))
      · exact .inr (.inr h3)
    · cases h2
  have hdnt : ∀ x : Nat, some x ∈ ds → x < E.nt := fun x hx => by
    obtain ⟨i, hi⟩ := List.getElem?_of_mem hx
    have hiq : i < q := by rw [← hdsl]; exact (List.getElem?_eq_some_iff.1 hi).1
    have hil : i < l.length := by omega
    have hd := hdsi i l[i] hiq (List.getElem?_eq_getElem hil)
    rw [hd] at hi
    exact (hspec i l[i] (List.getElem?_eq_getElem hil)).2.2.2.1 hiq x (Option.some.inj hi)
  let sb : Array Bool → ASt := fun listed => bif listed.getD ix false then s1 else s
  let phase : Array Bool → Act → World → Prop := fun listed a w =>
    ((∃ i, i < q ∧ listed.getD i false = false) ∧ (∀ j, listed.getD j false = true → j < q) ∧ Rel E (SV (sb listed) ds outs fun j => listed.getD j false) a w) ∨
    (∃ c, q ≤ c ∧ c ≤ l.length ∧ (∀ j, listed.getD j false = true ↔ j < c) ∧ wpList E.P l.toArray (NK E (K .nm)) (l.drop c) a w)
  have hready : ∀ listed : Array Bool, listed.size = l.length → ∀ j, j ∈ Region.ready .any l.toArray listed ↔ listed.getD j true = false ∧ ∃ o, l[j]? = some o ∧ ∀ e ∈ o.after, bindsA e = true → listed.getD e.on false = true := fun listed hs j => by
    rw [mem_ready]; simp [bindsA]
  have hnot : ∀ listed : Array Bool, listed.size = l.length → ∀ j, listed.getD j true = false → listed.getD j false = false ∧ j < l.length := fun listed hs j hj => by
    rw [Array.getD_eq_getD_getElem?] at hj ⊢
    cases hx : listed[j]? with
    | none => simp [hx] at hj
    | some b => simp [hx] at hj ⊢; exact ⟨hj, by rw [← hs]; exact (Array.getElem?_eq_some_iff.1 hx).1⟩
  have hnot' : ∀ listed : Array Bool, listed.size = l.length → ∀ j, j < l.length → listed.getD j false = false → listed.getD j true = false := fun listed hs j hj h => by
    rw [Array.getD_eq_getD_getElem?] at h ⊢
    have : listed[j]? = some listed[j] := Array.getElem?_eq_getElem (by omega)
    rw [this] at h ⊢; simpa using h
  -- the least that isn't listed is ready
  have hsome : ∀ listed : Array Bool, listed.size = l.length → ∀ n j, j < n → j < l.length → listed.getD j false = false → Region.ready .any l.toArray listed ≠ [] := by
    intro listed hs n
    induction n with
    | zero => intro j hj; omega
    | succ n ih =>
      intro j hj hjl hnl
      by_cases hall : ∀ e ∈ l[j].after, bindsA e = true → listed.getD e.on false = true
      · exact List.ne_nil_of_mem ((hready listed hs j).2 ⟨hnot' listed hs j hjl hnl, _, List.getElem?_eq_getElem hjl, hall⟩)
      · simp only [Classical.not_forall] at hall
        obtain ⟨e, he, hb, hn⟩ := hall
        have hlt := (hspec j l[j] (List.getElem?_eq_getElem hjl)).1 e he hb
        exact ih e.on (by omega) (by omega) (by simpa using hn)
  -- behind the quiet part
  have hbehind : ∀ (listed : Array Bool) a w, (∀ j, j < q → listed.getD j false = true) → Rel E (SV (sb listed) ds outs fun j => listed.getD j false) a w → wpList E.P l.toArray (NK E (K .nm)) (l.drop q) a w := fun listed a w hall hr => by
    rw [show sb listed = s1 from by simp only [sb, hall ix hix, cond_true], SV.congr (B' := fun _ => true) (fun i hi => hall i (by omega))] at hr
    exact htail a w hr
  have main : ∀ fuel (listed : Array Bool) a w, listed.size = l.length → ((List.range l.length).filter fun j => !listed.getD j false).length ≤ fuel →
      (∀ i o, listed.getD i false = true → l[i]? = some o → ∀ e ∈ o.after, bindsA e = true → listed.getD e.on false = true) → phase listed a w → wpAny E.P .any l.toArray (NK E (K .nm)) fuel listed a w := by
    intro fuel
    have hdone : ∀ (listed : Array Bool) a w, listed.size = l.length → phase listed a w → Region.ready .any l.toArray listed = [] → NK E (K .nm) .normal a w := by
      intro listed a w hs hph hnil
      rcases hph with ⟨⟨i, hi, hn⟩, _⟩ | ⟨c, h1, h2, h3, h4⟩
      · exact absurd hnil (hsome listed hs (i + 1) i (by omega) (by omega) hn)
      · by_cases hcl : c < l.length
        · have hn : listed.getD c false = false := by
            cases hb : listed.getD c false with
            | false => rfl
            | true => exact absurd ((h3 c).1 hb) (by omega)
          exact absurd hnil (hsome listed hs (c + 1) c (by omega) hcl hn)
        · rw [List.drop_of_length_le (by omega)] at h4
          exact h4
    induction fuel with
    | zero =>
      intro listed a w hs hlen0 hcl hph
      have hnil : Region.ready .any l.toArray listed = [] := by
        cases hrd : Region.ready .any l.toArray listed with
        | nil => rfl
        | cons j rest =>
          obtain ⟨h1, _⟩ := (hready listed hs j).1 (by rw [hrd]; simp)
          obtain ⟨h2, h3⟩ := hnot listed hs j h1
          have : j ∈ (List.range l.length).filter fun j => !listed.getD j false := by simp only [List.mem_filter, List.mem_range, h2, h3, Bool.not_false, and_self]
          have := List.length_pos_of_mem this
          omega
      exact ⟨hnil, hdone listed a w hs hph hnil⟩
    | succ fuel ih =>
      intro listed a w hs hlen0 hcl hph
      refine ⟨hdone listed a w hs hph, fun i hi => ?_⟩
      obtain ⟨h1, o, ho, hafter⟩ := (hready listed hs i).1 hi
      obtain ⟨h2, hil⟩ := hnot listed hs i h1
      have hgi : (listed.setIfInBounds i true).getD i false = true := by simp [hs, hil]
      have hgo : ∀ j, j ≠ i → (listed.setIfInBounds i true).getD j false = listed.getD j false := fun j hj => getD_set_ne false (Ne.symm hj)
      have hmono : ∀ j, listed.getD j false = true → (listed.setIfInBounds i true).getD j false = true := fun j => getD_set_true
      have hs' : (listed.setIfInBounds i true).size = l.length := by simp [hs]
      have hlt' : ((List.range l.length).filter fun j => !(listed.setIfInBounds i true).getD j false).length ≤ fuel := by
        have := filter_lt (p := fun j => !listed.getD j false) (p' := fun j => !(listed.setIfInBounds i true).getD j false) (fun x hx => by
          cases hb : listed.getD x false with
          | false => rfl
          | true => rw [hmono x hb] at hx; simp at hx) (List.range l.length) i (by simp [hil]) (by rw [h2]; rfl) (by rw [hgi]; rfl)
        omega
      have hcl' : ∀ j o', (listed.setIfInBounds i true).getD j false = true → l[j]? = some o' → ∀ e ∈ o'.after, bindsA e = true → (listed.setIfInBounds i true).getD e.on false = true := fun j o' hj ho' e he hb => by
        by_cases hji : j = i
        · subst hji; rw [ho] at ho'; cases ho'; exact hmono _ (hafter e he hb)
        · rw [hgo j hji] at hj; exact hmono _ (hcl j o' hj ho' e he hb)
      have hTi : ∀ j ∈ T.getD i [], listed.getD j false = true ∧ j < i := closedT hc (fun j => listed.getD j false = true) hcl (i + 1) i o (by omega) ho hafter
      have next := fun a w hph => ih (listed.setIfInBounds i true) a w hs' hlt' hcl' hph
      have hopi : l.toArray[i]? = some o := by simpa using ho
      unfold wpOp
      simp only [hopi]
      rcases hph with ⟨⟨i0, hi0, hn0⟩, hDq, hrel⟩ | ⟨c, hqc, hcn, hDc, hwl⟩
      · -- quiet
        have hiq : i < q := by
          rcases Nat.lt_or_ge i q with h' | h'
          · exact h'
          · have := (hTi i0 ((hspec i o ho).2.2.2.2 h' i0 (by omega))).1
            rw [hn0] at this; cases this
        have hnext0 : ∀ a w, Rel E (SV (sb (listed.setIfInBounds i true)) ds outs fun j => (listed.setIfInBounds i true).getD j false) a w → wpAny E.P .any l.toArray (NK E (K .nm)) fuel (listed.setIfInBounds i true) a w := fun a w hr => by
          apply next
          by_cases hall : ∀ j, j < q → (listed.setIfInBounds i true).getD j false = true
          · refine .inr ⟨q, Nat.le_refl _, hq, fun j => ⟨fun hj => ?_, hall j⟩, hbehind _ a w hall hr⟩
            by_cases hji : j = i
            · omega
            · rw [hgo j hji] at hj; exact hDq j hj
          · simp only [Classical.not_forall] at hall
            obtain ⟨j, hj, hn⟩ := hall
            refine .inl ⟨⟨j, hj, by simpa using hn⟩, fun j' hj' => ?_, hr⟩
            by_cases hji : j' = i
            · omega
            · rw [hgo j' hji] at hj'; exact hDq j' hj'
        have hcli : ∀ k, k < q → listed.getD k false = true → ∀ j ∈ T.getD k [], listed.getD j false = true := fun k hk hlk j hj => by
          have hkl : k < l.length := by omega
          exact (closedT hc (fun j => listed.getD j false = true) hcl (k + 1) k l[k] (by omega) (List.getElem?_eq_getElem hkl) (fun e he hb => hcl k l[k] hlk (List.getElem?_eq_getElem hkl) e he hb) j hj).1
        obtain ⟨sc, hsc⟩ : ∃ sc, sc = sb listed := ⟨_, rfl⟩
        rw [← hsc] at hrel
        have hle : Le (SV sc ds outs (T.getD i []).contains) (SV sc ds outs fun j => listed.getD j false) := SV.le (fun j hj => (hTi j (by simpa using hj)).1) (fun x c k T' hcx hBc hk => by
          obtain ⟨c', hc', _, hcs⟩ := hUc x k T' hk
          rw [hcx] at hc'; cases hc'
          by_cases hki : k ∈ T.getD i []
          · rw [List.contains_iff_mem.2 hki, (hTi k hki).1]
          · have h3 : listed.getD k false = false := by
              cases hlk : listed.getD k false with
              | false => rfl
              | true =>
                exfalso
                rcases hcs i hiq (List.contains_iff_mem.1 hBc) with h4 | h4 | h4
                · exact hki h4
                · have := hcli k (hU x k T' hk).1 hlk i h4
                  rw [h2] at this; cases this
                · subst h4; rw [h2] at hlk; cases hlk
            rw [h3]
            cases hx : (T.getD i []).contains k with
            | false => rfl
            | true => exact absurd (List.contains_iff_mem.1 hx) hki)
        -- no value names the region that comes
        have hfreeG : ∀ d : Nat, o.dst = some d → ∀ x, x ≠ d → ((SV sc ds outs fun j => listed.getD j false).t x).mapRef (killF d []) = (SV sc ds outs fun j => listed.getD j false).t x := fun d hd x hxd => by
              have hwd := hwh i o d hiq ho hd
              have hwx : ∀ x j, wh x ds 0 = some j → x ≠ d → j ≠ i := fun x j hx hxd hji => by
                subst hji
                have h3 := (wh_some hx).2
                rw [Nat.sub_zero, hdsi j o hiq ho, hd] at h3
                exact hxd (Option.some.inj (Option.some.inj h3)).symm
              simp only [SV]
              cases hx : wh x ds 0 with
              | none =>
                simp only []
                refine mapRef_id _ (fun r => match wh r ds 0 with | some j => false | none => true) (fun r p hr => ?_) _ (allRef_map _ _ (fun r p r' p' hk => ?_) _)
                · have : r ≠ d := fun e => by subst e; simp [hwd] at hr
                  simp [killF, this]
                · simp only [killL] at hk
                  cases hrw : wh r ds 0 with
                  | some j => simp [hrw] at hk
                  | none => simp only [hrw, Option.some.injEq, Prod.mk.injEq] at hk; obtain ⟨rfl, _⟩ := hk; simp [hrw]
              | some j =>
                simp only []
                split
                · rename_i hlj
                  have hji := hwx x j hx hxd
                  have hjq : j < q := by rw [← hdsl]; exact (List.getElem?_eq_some_iff.1 (wh_some hx).2).1
                  have hdj : l[j].dst = some x := by
                    have h3 := (wh_some hx).2
                    rw [Nat.sub_zero, hdsi j l[j] hjq (List.getElem?_eq_getElem (by omega))] at h3
                    exact Option.some.inj h3
                  obtain ⟨e, vj, hovj, hev, hokj⟩ : ∃ (e : AV × Option AV) (vj : AV), outs[j]? = some e ∧ outV e.1 = vj ∧ okV ds (T.getD j []) j vj = true := by
                    rcases hsh j l[j] hjq (List.getElem?_eq_getElem (by omega)) with ⟨v, Tn, _, h1, h3, h4⟩ | ⟨d', v, Tn, x', _, h1, h3, _⟩ | ⟨_, _, h, _⟩ | ⟨h, _⟩ | ⟨_, _, h, _⟩
                    · exact ⟨_, _, h1, outV_of h4, h3⟩
                    · exact ⟨_, _, h1, outV_mark, h3⟩
                    · rw [hdj] at h; cases h
                    · rw [hdj] at h; cases h
                    · rw [hdj] at h; cases h
                  rw [hovj]
                  simp only [hev]
                  refine mapRef_id _ _ (fun r p hr => ?_) _ hokj
                  have : r ≠ d := fun e => by
                    subst e
                    simp only [hwd, Bool.or_eq_true, beq_iff_eq] at hr
                    rcases hr with h3 | h3
                    · exact hji h3.symm
                    · have hD := closedT hc (fun j => listed.getD j false = true) hcl (j + 1) j l[j] (by omega) (List.getElem?_eq_getElem (by omega)) (fun e he hb => hcl j l[j] hlj (List.getElem?_eq_getElem (by omega)) e he hb) i (by simpa using h3)
                      rw [h2] at hD; cases hD.1
                  simp [killF, this]
                · simp only [AV.mapRef]
        by_cases hixi : i = ix
        · subst hixi
          have hlx : listed.getD i false = false := h2
          have hscs : sc = s := by rw [hsc]; simp only [sb, hlx, cond_false]
          rw [hscs] at hrel hle hfreeG
          have hsbn : sb (listed.setIfInBounds i true) = s1 := by simp only [sb, hgi, cond_true]
          obtain ⟨s2, v, mo, hgn, hxj, hbase, hent⟩ := hxo o ho
          rw [if_pos (by simp [Region.wanted, hgn])]
          refine .inl (Oper.wp_both (fun a' w' hr' => hnext0 a' w' ?_) (hxj _ hle a w hrel))
          rw [hsbn]
          have hwx : ∀ x j, wh x ds 0 = some j → (∀ d, o.dst = some d → x ≠ d) → j ≠ i := fun x j hx hxd hji => by
            subst hji
            have h3 := (wh_some hx).2
            rw [Nat.sub_zero, hdsi j o hiq ho] at h3
            exact hxd x (Option.some.inj h3) rfl
          -- slots
          have htt : ∀ y, (∀ d, o.dst = some d → y ≠ d) → (SV s1 ds outs fun j => (listed.setIfInBounds i true).getD j false).t y = (over (SV s ds outs (T.getD i []).contains) s2 f (SV s ds outs fun j => listed.getD j false)).t y := fun y hyd => by
            simp only [over, SV]
            cases hy : wh y ds 0 with
            | none => simp only [hs1]; exact mapRef_comm hfil (killL_filt ds) _
            | some j =>
              simp only []
              have hji := hwx y j hy hyd
              simp only [hgo j hji]
              have hjq : j < q := by rw [← hdsl]; exact (List.getElem?_eq_some_iff.1 (wh_some hy).2).1
              by_cases hlj : listed.getD j false = true
              · simp only [hlj, if_true]
                cases hoj : outs[j]? with
                | none => simp only [AV.mapRef]
                | some e => exact (hfo j e hoj hji (fun hT => by rw [hcli j hjq hlj i hT] at h2; cases h2)).symm
              · rw [if_neg hlj]; simp only [AV.mapRef]
          have hfr : ∀ d : Nat, o.dst = some d → ∀ y, y ≠ d → ((over (SV s ds outs (T.getD i []).contains) s2 f (SV s ds outs fun j => listed.getD j false)).t y).mapRef (killF d []) = (over (SV s ds outs (T.getD i []).contains) s2 f (SV s ds outs fun j => listed.getD j false)).t y := fun d hd y hyd => by
            have hk : Filt (killF d []) := fun r p => by
              simp only [killF]; split
              · exact .inl rfl
              · exact .inr rfl
            simp only [over]
            rw [mapRef_comm hfil hk, hfreeG d hd y hyd]
          -- regions
          have hmm : ∀ y, (∀ d, o.dst = some d → y ≠ d) → (∀ T', ¬ IsU ds outs y i T') → (∀ c, wh y ds 0 = some c → (SV s ds outs (T.getD i []).contains).m y ≠ none → s2.m y = (SV s ds outs (T.getD i []).contains).m y) →
              (SV s1 ds outs fun j => (listed.setIfInBounds i true).getD j false).m y = (over (SV s ds outs (T.getD i []).contains) s2 f (SV s ds outs fun j => listed.getD j false)).m y := fun y hyd hu hs2 => by
            have hud : upd y (fun j => (listed.setIfInBounds i true).getD j false) ds outs 0 = upd y (fun j => listed.getD j false) ds outs 0 :=
              upd_congr (fun k T'' hk => by rw [Nat.zero_add]; exact hgo k (fun e => hu T'' (e ▸ hk)))
            cases hy : wh y ds 0 with
            | none =>
              have e1 : (SV s1 ds outs fun j => (listed.setIfInBounds i true).getD j false).m y = s1.m y := by simp only [SV, hy]
              have e2 : (SV s ds outs (T.getD i []).contains).m y = s.m y := by simp only [SV, hy]
              have e3 : (SV s ds outs fun j => listed.getD j false).m y = s.m y := by simp only [SV, hy]
              rw [e1, hbase y hy]
              simp only [over, e2, e3]
              cases s.m y <;> rfl
            | some j =>
              have e1 : (SV s1 ds outs fun j => (listed.setIfInBounds i true).getD j false).m y = (SV s ds outs fun j => listed.getD j false).m y := by
                simp only [SV, hy, hgo j (hwx y j hy hyd), hud]
              rw [e1]
              simp only [over]
              cases hm0 : (SV s ds outs (T.getD i []).contains).m y with
              | none => rfl
              | some T0 =>
                simp only []
                rw [hs2 j hy (by rw [hm0]; simp), hm0, hle.m y T0 hm0]
          have hnoU : ∀ e, outs[i]? = some e → (∀ x dd, ds[i]? = some dd → updOne x dd e = none) → ∀ y T', ¬ IsU ds outs y i T' := fun e he hx y T' ⟨d', e', b1, b2, b3⟩ => by
            rw [he] at b2; cases b2
            rw [hx y d' b1] at b3; cases b3
          have hdi : ds[i]? = some o.dst := hdsi i o hiq ho
          have hud0 : ∀ d : Nat, o.dst = some d → (∀ T', ¬ IsU ds outs d i T') → upd d (fun j => (listed.setIfInBounds i true).getD j false) ds outs 0 = none := fun d hd hnu => upd_none (fun k T' hk => by
            rw [Nat.zero_add]
            obtain ⟨c, hcx, hck, _⟩ := hUc d k T' hk
            rw [hwh i o d hiq ho hd] at hcx; cases hcx
            cases hlk : (listed.setIfInBounds i true).getD k false with
            | false => rfl
            | true =>
              rw [hgo k (fun e => hnu T' (e ▸ hk))] at hlk
              have := hcli k (hU d k T' hk).1 hlk i hck
              rw [h2] at this; cases this)
          have hnotT : i ∉ T.getD i [] := fun hh => by have := (hTi i hh).2; omega
          have hSd : ∀ d : Nat, o.dst = some d → (SV s ds outs (T.getD i []).contains).m d = none ∧ (SV s ds outs fun j => listed.getD j false).m d = none := fun d hd => by
            have hwd := hwh i o d hiq ho hd
            constructor
            · simp only [SV, hwd]
              rw [if_neg (by simpa using hnotT)]
            · simp only [SV, hwd, h2, Bool.false_eq_true, if_false]
          obtain ⟨M, G, hX⟩ := hr'
          rcases hent with ⟨d, hd, hok, hov, htk, hsame⟩ | ⟨d, x, Tn, hd, hok, rfl, hov, hxd, hxs, hx2, hup, huq, hsame⟩ | ⟨hd, hov, hsame⟩ | ⟨x, T', hd, hov, hxs, hx2, hup, huq, hsame⟩ | ⟨xs, Ts, hd, hov, hxs, hx2, hsame⟩
          · -- a value comes
            have hwd := hwh i o d hiq ho hd
            have hnu := hnoU _ hov (fun x dd hdd => by rw [hdi, hd] at hdd; cases hdd; exact updOne_n rfl htk)
            rw [hd] at hX
            refine ⟨M, G, hX.weak ?_ ?_⟩
            · funext y
              by_cases hyd : y = d
              · subst hyd
                have e1 : (SV s1 ds outs fun j => (listed.setIfInBounds i true).getD j false).m y = mo := by
                  simp only [SV, hwd, hgi, if_true, hov, hud0 y hd (hnu y), pickU]
                rw [e1]
                cases mo with
                | none => simp only [put, ASt.set, over, (hSd y hd).1, (hSd y hd).2]
                | some Tn => simp only [put, ASt.new, if_true]
              · rw [hmm y (fun d' hd' => by rw [hd] at hd'; cases hd'; exact hyd) (hnu y) (fun c hc hn => hsame y c hc hyd hn)]
                cases mo with
                | none => rfl
                | some Tn => simp only [put, ASt.new, hyd, if_false]
            · intro y u hu
              by_cases hyd : y = d
              · subst hyd
                have e1 : (SV s1 ds outs fun j => (listed.setIfInBounds i true).getD j false).t y = v := by
                  simp only [SV, hwd, hgi, if_true, hov, outV_of htk]
                rw [e1]
                cases mo with
                | none => simpa only [put, ASt.set, if_true] using hu
                | some Tn => simpa only [put, ASt.new, if_true] using hu
              · rw [htt y (fun d' hd' => by rw [hd] at hd'; cases hd'; exact hyd)]
                cases mo with
                | none => simpa only [put, ASt.set, hyd, if_false] using hu
                | some Tn => simp only [put, ASt.new, hyd, if_false, hfr d hd y hyd] at hu; exact hu
          · -- a region comes, one that was made here goes
            have hwd := hwh i o d hiq ho hd
            have hisu : IsU ds outs x i .junk := ⟨some d, _, by rw [hdi, hd], hov, by simp only [updOne, tkV_mark, if_true]⟩
            have hnu : ∀ y, y ≠ x → ∀ T', ¬ IsU ds outs y i T' := fun y hyx T' ⟨d', e', b1, b2, b3⟩ => by
              rw [hov] at b2; cases b2
              rw [hdi, hd] at b1; cases b1
              simp only [updOne, tkV_mark] at b3
              split at b3
              · rename_i hh; exact hyx hh.symm
              · cases b3
            rw [hd] at hX
            refine ⟨M, G, hX.weak ?_ ?_⟩
            · funext y
              by_cases hyd : y = d
              · subst hyd
                simp only [SV, hwd, hgi, if_true, hov, hud0 y hd (hnu y (Ne.symm hxd)), pickU, put, ASt.new]
              · by_cases hyx : y = x
                · subst hyx
                  obtain ⟨c, hcx, hci, _⟩ := hUc y i .junk hisu
                  have hlc : listed.getD c false = true := (hTi c hci).1
                  have hci' : c ≠ i := fun e => by subst e; rw [h2] at hlc; cases hlc
                  obtain ⟨T0, hT0⟩ := Option.isSome_iff_exists.1 hxs
                  have e1 : (put (over (SV s ds outs (T.getD i []).contains) s2 f (SV s ds outs fun j => listed.getD j false)) (some d) v (some Tn)).m y = some .junk := by
                    simp only [put, ASt.new, hyd, if_false, over, hT0, hx2]
                  rw [e1]
                  simp only [SV, hcx, hgo c hci', hlc, if_true]
                  rw [upd_is (k := i) (T := .junk) (fun k' T'' hk' => hUq y i .junk k' T'' hisu hk') hisu hgi]; rfl
                · rw [hmm y (fun d' hd' => by rw [hd] at hd'; cases hd'; exact hyd) (hnu y hyx) (fun c hc hn => hsame y c hc hyd hyx hn)]
                  simp only [put, ASt.new, hyd, if_false]
            · intro y u hu
              by_cases hyd : y = d
              · subst hyd
                have e1 : (SV s1 ds outs fun j => (listed.setIfInBounds i true).getD j false).t y = v := by
                  simp only [SV, hwd, hgi, if_true, hov, outV_mark]
                rw [e1]
                simpa only [put, ASt.new, if_true] using hu
              · rw [htt y (fun d' hd' => by rw [hd] at hd'; cases hd'; exact hyd)]
                simp only [put, ASt.new, hyd, if_false, hfr d hd y hyd] at hu; exact hu
          · -- nothing comes
            have hnu := hnoU _ hov (fun x dd hdd => by rw [hdi, hd] at hdd; cases hdd; simp [updOne])
            have hnd : ∀ y (d : Nat), o.dst = some d → y ≠ d := fun y d hd' => by rw [hd] at hd'; cases hd'
            rw [hd] at hX
            have ep : put (over (SV s ds outs (T.getD i []).contains) s2 f (SV s ds outs fun j => listed.getD j false)) none v mo = over (SV s ds outs (T.getD i []).contains) s2 f (SV s ds outs fun j => listed.getD j false) := by cases mo <;> rfl
            rw [ep] at hX
            refine ⟨M, G, hX.weak ?_ ?_⟩
            · funext y
              exact hmm y (hnd y) (hnu y) (fun c hc hn => hsame y c hc hn)
            · intro y u hu
              rw [htt y (hnd y)]; exact hu
          · -- a region that was made here is put anew
            have hisu : IsU ds outs x i T' := ⟨none, _, by rw [hdi, hd], hov, by simp only [updOne, if_true]⟩
            have hnu : ∀ y, y ≠ x → ∀ T', ¬ IsU ds outs y i T' := fun y hyx T' ⟨d', e', b1, b2, b3⟩ => by
              rw [hov] at b2; cases b2
              rw [hdi, hd] at b1; cases b1
              simp only [updOne] at b3
              split at b3
              · rename_i hh; exact hyx hh.symm
              · cases b3
            have hnd : ∀ y (d : Nat), o.dst = some d → y ≠ d := fun y d hd' => by rw [hd] at hd'; cases hd'
            rw [hd] at hX
            have ep : put (over (SV s ds outs (T.getD i []).contains) s2 f (SV s ds outs fun j => listed.getD j false)) none v mo = over (SV s ds outs (T.getD i []).contains) s2 f (SV s ds outs fun j => listed.getD j false) := by cases mo <;> rfl
            rw [ep] at hX
            refine ⟨M, G, hX.weak ?_ ?_⟩
            · funext y
              by_cases hyx : y = x
              · subst hyx
                obtain ⟨c, hcx, hci, _⟩ := hUc y i T' hisu
                have hlc : listed.getD c false = true := (hTi c hci).1
                have hci' : c ≠ i := fun e => by subst e; rw [h2] at hlc; cases hlc
                obtain ⟨T0, hT0⟩ := Option.isSome_iff_exists.1 hxs
                simp only [over, hT0, hx2]
                simp only [SV, hcx, hgo c hci', hlc, if_true]
                rw [upd_is (k := i) (T := T') (fun k' T'' hk' => hUq y i T' k' T'' hisu hk') hisu hgi]; rfl
              · exact hmm y (hnd y) (hnu y hyx) (fun c hc hn => hsame y c hc hyx hn)
            · intro y u hu
              rw [htt y (hnd y)]; exact hu
          · -- several regions that were made here are put anew
            have hisu : ∀ x T', upL x (ptrs xs) Ts = some T' → IsU ds outs x i T' := fun x T' hx => ⟨none, _, by rw [hdi, hd], hov, by simp only [updOne]; exact hx⟩
            have hnu : ∀ y, y ∉ xs → ∀ T', ¬ IsU ds outs y i T' := fun y hyx T' ⟨d', e', b1, b2, b3⟩ => by
              rw [hov] at b2; cases b2
              rw [hdi, hd] at b1; cases b1
              simp only [updOne] at b3
              exact hyx (hx2 y T' b3).1
            have hnd : ∀ y (d : Nat), o.dst = some d → y ≠ d := fun y d hd' => by rw [hd] at hd'; cases hd'
            rw [hd] at hX
            have ep : put (over (SV s ds outs (T.getD i []).contains) s2 f (SV s ds outs fun j => listed.getD j false)) none v mo = over (SV s ds outs (T.getD i []).contains) s2 f (SV s ds outs fun j => listed.getD j false) := by cases mo <;> rfl
            rw [ep] at hX
            refine ⟨M, G, hX.weak ?_ ?_⟩
            · funext y
              by_cases hyx : y ∈ xs
              · obtain ⟨hy1, hy2⟩ := hxs y hyx
                obtain ⟨T', hT'⟩ := Option.isSome_iff_exists.1 hy2
                have hs2 := (hx2 y T' hT').2.1
                obtain ⟨c, hcx, hci, _⟩ := hUc y i T' (hisu y T' hT')
                have hlc : listed.getD c false = true := (hTi c hci).1
                have hci' : c ≠ i := fun e => by subst e; rw [h2] at hlc; cases hlc
                obtain ⟨T0, hT0⟩ := Option.isSome_iff_exists.1 hy1
                simp only [over, hT0, hs2]
                simp only [SV, hcx, hgo c hci', hlc, if_true]
                rw [upd_is (k := i) (T := T') (fun k' T'' hk' => hUq y i T' k' T'' (hisu y T' hT') hk') (hisu y T' hT') hgi]; rfl
              · exact hmm y (hnd y) (hnu y hyx) (fun c hc hn => hsame y c hc hyx hn)
            · intro y u hu
              rw [htt y (hnd y)]; exact hu
        have hsb : sb (listed.setIfInBounds i true) = sc := by rw [hsc]; simp only [sb, hgo ix (Ne.symm hixi)]
        have hnext : ∀ a w, Rel E (SV sc ds outs fun j => (listed.setIfInBounds i true).getD j false) a w → wpAny E.P .any l.toArray (NK E (K .nm)) fuel (listed.setIfInBounds i true) a w := fun a w hr => hnext0 a w (by rw [hsb]; exact hr)
        have hoc : OutOk E l.toArray T sc ds outs i o := by
          cases hlx : listed.getD ix false with
          | false =>
            rw [hsc, show sb listed = s from by simp only [sb, hlx, cond_false]]
            exact h0 i o (by rw [List.getElem?_take_of_lt hiq]; exact ho) hixi (fun hx => by rw [(hTi ix hx).1] at hlx; cases hlx)
          | true =>
            rw [hsc, show sb listed = s1 from by simp only [sb, hlx, cond_true]]
            exact h1' i o (by rw [List.getElem?_take_of_lt hiq]; exact ho) hixi (fun hx => by rw [hcli ix hix hlx i hx] at h2; cases h2)
        rcases hoc with ⟨v, Tn, hsm, hov, hqg, hok, htk⟩ | ⟨d, v, Tn, x, hd, hgn, hov, ⟨hxs, hxd, htj⟩, hok, hup, _⟩ | ⟨x, T', hdn, hgn, hov, ⟨hxs, hqj⟩, hup, _⟩
        rotate_left 2
        · -- a store into what was made here
          have hisu : IsU ds outs x i T' := ⟨none, _, by rw [hdsi i o hiq ho, hdn], hov, by simp [updOne]⟩
          obtain ⟨c, hcx, hci, _⟩ := hUc x i T' hisu
          have hlc : listed.getD c false = true := (hTi c hci).1
          have hcne : ∀ y j, wh y ds 0 = some j → j ≠ i := fun y j hy hji => by
            subst hji
            have h3 := (wh_some hy).2
            rw [Nat.sub_zero, hdsi j o hiq ho, hdn] at h3
            cases h3
          have hmx : ∃ T0, (SV sc ds outs fun j => listed.getD j false).m x = some T0 := by
            obtain ⟨T0, hT0⟩ := Option.isSome_iff_exists.1 hxs
            exact ⟨T0, hle.m x T0 hT0⟩
          have hst : SV sc ds outs (fun j => (listed.setIfInBounds i true).getD j false) = (SV sc ds outs fun j => listed.getD j false).updM x [] T' := by
            obtain ⟨T0, hT0⟩ := hmx
            have e1 : (SV sc ds outs fun j => (listed.setIfInBounds i true).getD j false).t = ((SV sc ds outs fun j => listed.getD j false).updM x [] T').t := by
              funext y
              simp only [SV, ASt.updM]
              cases hy : wh y ds 0 with
              | none => rfl
              | some j => simp only [hgo j (hcne y j hy)]
            have e2 : (SV sc ds outs fun j => (listed.setIfInBounds i true).getD j false).m = ((SV sc ds outs fun j => listed.getD j false).updM x [] T').m := by
              funext y
              by_cases hyx : y = x
              · subst hyx
                simp only [ASt.updM, if_true, hT0, Option.map_some]
                have : ∀ A : AV, A.upd [] T' = T' := fun A => by cases A <;> rfl
                rw [this]
                simp only [SV, hcx, hgo c (hcne y c hcx), hlc, if_true]
                rw [upd_is (k := i) (T := T') (fun k' T'' hk' => hUq y i T' k' T'' hisu hk') hisu hgi]
                rfl
              · simp only [ASt.updM, hyx, if_false]
                simp only [SV]
                cases hy : wh y ds 0 with
                | none => rfl
                | some j =>
                  simp only [hgo j (hcne y j hy)]
                  rw [upd_congr (B := fun j => (listed.setIfInBounds i true).getD j false) (B' := fun j => listed.getD j false) (fun k T'' hk => by
                    rw [Nat.zero_add]
                    refine hgo k (fun e => ?_)
                    subst e
                    obtain ⟨d', e', b1, b2, b3⟩ := hk
                    rw [hov] at b2; cases b2
                    cases d' with
                    | some d' => simp [updOne, tkV] at b3
                    | none =>
                      simp only [updOne] at b3
                      split at b3
                      · rename_i hh; exact hyx hh.symm
                      · cases b3)]
            exact ASt.ext' e1 e2
          rw [if_pos (by simp [Region.wanted, hgn])]
          exact .inl (Oper.wp_both (fun a' w' hr' => hnext a' w' (by rw [hst]; exact hr')) (hqj _ hle a w hrel))
        rotate_left
        · -- a region that was made here is taken in
          have hwd := hwh i o d hiq ho hd
          have hisu : IsU ds outs x i .junk := ⟨some d, _, by rw [hdsi i o hiq ho, hd], hov, by simp only [updOne, tkV_mark, if_true]⟩
          obtain ⟨c, hcx, hci, _⟩ := hUc x i .junk hisu
          have hlc : listed.getD c false = true := (hTi c hci).1
          have hci' : c ≠ i := fun e => by subst e; rw [h2] at hlc; cases hlc
          have hwx : ∀ y j, wh y ds 0 = some j → y ≠ d → j ≠ i := fun y j hy hyd hji => by
            subst hji
            have h3 := (wh_some hy).2
            rw [Nat.sub_zero, hdsi j o hiq ho, hd] at h3
            exact hyd (Option.some.inj (Option.some.inj h3)).symm
          have hfree := hfreeG d hd
          have hui : ∀ y k T'', IsU ds outs y k T'' → y ≠ x → k ≠ i := fun y k T'' ⟨d', e', b1, b2, b3⟩ hyx hki => by
            subst hki
            rw [hov] at b2; cases b2
            rw [hdsi k o hiq ho, hd] at b1; cases b1
            simp only [updOne, tkV_mark] at b3
            split at b3
            · rename_i hh; exact hyx hh.symm
            · cases b3
          have hud : ∀ y, y ≠ x → upd y (fun j => (listed.setIfInBounds i true).getD j false) ds outs 0 = upd y (fun j => listed.getD j false) ds outs 0 := fun y hyx =>
            upd_congr (fun k T'' hk => by rw [Nat.zero_add]; exact hgo k (hui y k T'' hk hyx))
          have hud0 : upd d (fun j => (listed.setIfInBounds i true).getD j false) ds outs 0 = none := upd_none (fun k T' hk => by
            rw [Nat.zero_add]
            obtain ⟨c, hcx, hck, _⟩ := hUc d k T' hk
            rw [hwd] at hcx; cases hcx
            cases hlk : (listed.setIfInBounds i true).getD k false with
            | false => rfl
            | true =>
              rw [hgo k (hui d k T' hk (Ne.symm hxd))] at hlk
              have := hcli k (hU d k T' hk).1 hlk i hck
              rw [h2] at this; cases this)
          have hmx : ∃ T0, (SV sc ds outs fun j => listed.getD j false).m x = some T0 := by
            obtain ⟨T0, hT0⟩ := Option.isSome_iff_exists.1 hxs
            exact ⟨T0, hle.m x T0 hT0⟩
          have hst : ∀ a w, Rel E (((SV sc ds outs fun j => listed.getD j false).updM x [] .junk).new d v Tn) a w → Rel E (SV sc ds outs fun j => (listed.setIfInBounds i true).getD j false) a w := by
            rintro a w ⟨M, G, hX⟩
            refine ⟨M, G, hX.weak ?_ ?_⟩
            · funext y
              by_cases hyd : y = d
              · subst hyd
                simp only [ASt.new, SV, hwd, hgi, if_true, hov, hud0, pickU]
              · by_cases hyx : y = x
                · subst hyx
                  obtain ⟨T0, hT0⟩ := hmx
                  have e1 : (((SV sc ds outs fun j => listed.getD j false).updM y [] .junk).new d v Tn).m y = some .junk := by
                    simp only [ASt.new, hyd, if_false, ASt.updM, if_true, hT0, Option.map_some]
                    cases T0 <;> rfl
                  have e2 : (SV sc ds outs fun j => (listed.setIfInBounds i true).getD j false).m y = some .junk := by
                    simp only [SV, hcx, hgo c hci', hlc, if_true]
                    rw [upd_is (k := i) (T := .junk) (fun k' T'' hk' => hUq y i .junk k' T'' hisu hk') hisu hgi]; rfl
                  rw [e1, e2]
                · have e1 : (((SV sc ds outs fun j => listed.getD j false).updM x [] .junk).new d v Tn).m y = (SV sc ds outs fun j => listed.getD j false).m y := by
                    simp only [ASt.new, hyd, if_false, ASt.updM, hyx]
                  have e2 : (SV sc ds outs fun j => (listed.setIfInBounds i true).getD j false).m y = (SV sc ds outs fun j => listed.getD j false).m y := by
                    simp only [SV]
                    cases hy : wh y ds 0 with
                    | none => rfl
                    | some j => simp only [hgo j (hwx y j hy hyd), hud y hyx]
                  rw [e1, e2]
            · intro y u hu
              by_cases hyd : y = d
              · subst hyd
                simpa only [ASt.new, SV, hwd, hgi, if_true, hov, outV_mark] using hu
              · have e2 : (SV sc ds outs fun j => (listed.setIfInBounds i true).getD j false).t y = (SV sc ds outs fun j => listed.getD j false).t y := by
                  simp only [SV]
                  cases hy : wh y ds 0 with
                  | none => rfl
                  | some j => simp only [hgo j (hwx y j hy hyd)]
                rw [e2]
                simp only [ASt.new, hyd, if_false, ASt.updM, hfree y hyd] at hu
                exact hu
          rw [if_pos (by simp [Region.wanted, hgn])]
          exact .inl (Oper.wp_both (fun a' w' hr' => hnext a' w' (hst a' w' hr')) (htj _ hle a w hrel))
        -- what its outcome makes of the state
        have hput : ∀ a w, Rel E (put (SV sc ds outs fun j => listed.getD j false) o.dst v Tn) a w → Rel E (SV sc ds outs fun j => (listed.setIfInBounds i true).getD j false) a w := by
          rintro a w ⟨M, G, hX⟩
          cases hd : o.dst with
          | none => rw [hd] at hsm; cases hsm
          | some d =>
            rw [hd] at hX
            have hwd := hwh i o d hiq ho hd
            have hui : ∀ x k T', IsU ds outs x k T' → k ≠ i := fun x k T' ⟨d', e', b1, b2, b3⟩ hki => by
              subst hki
              rw [hdsi k o hiq ho, hd] at b1
              cases b1
              rw [hov] at b2
              cases b2
              rw [updOne_n rfl htk] at b3
              cases b3
            have hud : ∀ x, upd x (fun j => (listed.setIfInBounds i true).getD j false) ds outs 0 = upd x (fun j => listed.getD j false) ds outs 0 := fun x =>
              upd_congr (fun k T' hk => by rw [Nat.zero_add]; exact hgo k (hui x k T' hk))
            have hud0 : upd d (fun j => (listed.setIfInBounds i true).getD j false) ds outs 0 = none := upd_none (fun k T' hk => by
              rw [Nat.zero_add]
              obtain ⟨c, hcx, hck, _⟩ := hUc d k T' hk
              rw [hwd] at hcx; cases hcx
              cases hlk : (listed.setIfInBounds i true).getD k false with
              | false => rfl
              | true =>
                rw [hgo k (hui d k T' hk)] at hlk
                have := hcli k (hU d k T' hk).1 hlk i hck
                rw [h2] at this; cases this)
            have hwx : ∀ x j, wh x ds 0 = some j → x ≠ d → j ≠ i := fun x j hx hxd hji => by
              subst hji
              have h3 := (wh_some hx).2
              rw [Nat.sub_zero, hdsi j o hiq ho, hd] at h3
              exact hxd (Option.some.inj (Option.some.inj h3)).symm
            -- no value names region d
            have hfree := hfreeG d hd
            refine ⟨M, G, hX.weak ?_ ?_⟩
            · funext x
              by_cases hxd : x = d
              · subst hxd
                cases Tn with
                | none =>
                  simp only [put, ASt.set, SV, hwd, hgi, h2, if_true, hov, outV_of htk, Bool.false_eq_true, if_false, hud0, pickU]
                | some T' =>
                  simp only [put, ASt.new, SV, hwd, hgi, if_true, hov, hud0, pickU]
              · have e2 : (SV sc ds outs fun j => (listed.setIfInBounds i true).getD j false).m x = (SV sc ds outs fun j => listed.getD j false).m x := by
                  simp only [SV]
                  cases hx : wh x ds 0 with
                  | none => rfl
                  | some j => simp only [hgo j (hwx x j hx hxd), hud]
                rw [e2]
                cases Tn with
                | none => rfl
                | some T' => simp only [put, ASt.new, hxd, if_false]
            · intro x u hu
              by_cases hxd : x = d
              · subst hxd
                cases Tn with
                | none => simpa only [put, ASt.set, SV, hwd, hgi, if_true, hov, outV_of htk] using hu
                | some T' => simpa only [put, ASt.new, SV, hwd, hgi, if_true, hov, outV_of htk] using hu
              · have e2 : (SV sc ds outs fun j => (listed.setIfInBounds i true).getD j false).t x = (SV sc ds outs fun j => listed.getD j false).t x := by
                  simp only [SV]
                  cases hx : wh x ds 0 with
                  | none => rfl
                  | some j => simp only [hgo j (hwx x j hx hxd)]
                rw [e2]
                cases Tn with
                | none => simpa only [put, ASt.set, hxd, if_false] using hu
                | some T' => simp only [put, ASt.new, hxd, if_false, hfree x hxd] at hu; exact hu
        obtain ⟨M, G, hX⟩ := hrel
        rcases hqg with ⟨hg, hqj⟩ | ⟨j, b, d, hg, hdj, hb, hqj⟩ | ⟨j, b, c, d, hg, hdj, hb, hcb, rfl, rfl⟩
        · rw [if_pos (by simp [Region.wanted, hg])]
          exact .inl (Oper.wp_both (fun a' w' hr' => hnext a' w' (hput a' w' hr')) (hqj _ hle a w ⟨M, G, hX⟩))
        · have hv := hX.sl d
          rw [show (SV sc ds outs fun j => listed.getD j false).t d = .lit (.bool b) from ((hle.t d).resolve_left (by rw [hb]; simp)).trans hb] at hv
          rw [if_pos (by simp [Region.wanted, hg, yielded_of hdj hv.bool])]
          exact .inl (Oper.wp_both (fun a' w' hr' => hnext a' w' (hput a' w' hr')) (hqj _ hle a w ⟨M, G, hX⟩))
        · have hv := hX.sl d
          rw [show (SV sc ds outs fun j => listed.getD j false).t d = .lit c from ((hle.t d).resolve_left (by rw [hb]; simp)).trans hb] at hv
          rw [if_neg (by simp [Region.wanted, hg, yielded_not hdj hv.litv hcb])]
          exact hnext _ w (hput _ w ⟨M, G, hX.undef o.dst (fun x hx => (hspec i o ho).2.2.2.1 hiq x hx)⟩)
      · -- behind
        have hic : i = c := by
          have h3 : ¬ i < c := fun hlt => by have := (hDc i).2 hlt; rw [h2] at this; cases this
          have h4 : ¬ c < i := fun hlt => by
            have := (hDc c).1 (hTi c ((hspec i o ho).2.2.2.2 (by omega) c hlt)).1
            omega
          omega
        subst hic
        rw [List.drop_eq_getElem_cons hil] at hwl
        have hoi : l[i] = o := (List.getElem?_eq_some_iff.1 ho).2
        rw [hoi] at hwl
        have hnext : ∀ a w, wpList E.P l.toArray (NK E (K .nm)) (l.drop (i + 1)) a w → wpAny E.P .any l.toArray (NK E (K .nm)) fuel (listed.setIfInBounds i true) a w := fun a w hw => by
          refine next a w (.inr ⟨i + 1, by omega, by omega, fun j => ?_, hw⟩)
          by_cases hji : j = i
          · subst hji; simp only [hgi, true_iff]; omega
          · rw [hgo j hji, hDc]; omega
        unfold wpList at hwl
        split
        · rename_i hw; rw [if_pos hw] at hwl
          exact hwl.imp (Oper.wp_mono hnext) (fun h => h)
        · rename_i hw; rw [if_neg hw] at hwl
          exact hnext _ _ hwl
  obtain ⟨M, G, hX⟩ := hr
  have hX' : Rel E s a { w with drawn := w.drawn + 1 } := ⟨M, G, ⟨hX.er, fun r T hT => (hX.sat r T hT).congr (fun _ _ => rfl) (fun _ _ => rfl) (fun _ h => h), hX.nd, hX.dj, hX.own, hX.gd, hX.g0, fun i => (hX.sl i).congr (fun _ _ => rfl) (fun _ h => h), ⟨hX.ext.os, hX.ext.tape, hX.ext.output, hX.ext.size, hX.ext.block⟩, hX.df, hX.nt, hX.n1, hX.pv⟩⟩
  obtain ⟨M', G', hX'⟩ := hX'
  have h00 := hX'.sv0 ds outs hdnt
  have hfalse : ∀ j, (Array.replicate l.length false).getD j false = false := fun j => by
    rw [Array.getD_eq_getD_getElem?, Array.getElem?_replicate]; split <;> rfl
  have h0' : Rel E (SV s ds outs fun j => (Array.replicate l.length false).getD j false) a { w with drawn := w.drawn + 1 } := by
    rw [SV.congr (B' := fun _ => false) (fun i _ => hfalse i)]; exact h00
  refine wp_mono (wp_region_any hm (main _ _ _ _ (by simp) (by simp only [List.size_toArray]; exact Nat.le_trans (List.length_filter_le _ _) (by simp)) (fun i o hi => ?_) ?_)) (fun e a' w' hp => by obtain ⟨rfl, s', h1, h2⟩ := hp; exact ⟨s', h1, h2⟩)
  · simp only [List.size_toArray] at hi; rw [hfalse] at hi; cases hi
  · simp only [List.size_toArray]
    have hq0 : q ≠ 0 := by omega
    · refine .inl ⟨⟨0, by omega, hfalse 0⟩, fun j hj => ?_, by rw [show sb (Array.replicate l.length false) = s from by simp only [sb, hfalse, cond_false]]; exact h0'⟩
      rw [hfalse] at hj; cases hj

/-! ### The walk's form -/
theorem OutOk.ext {E : Env} {ops : Array Oper} {T : List (List Nat)} {s : ASt} {ds : List (Option Tmp)} {outs outs' : List (AV × Option AV)} {k : Nat} {o : Oper} (he : ∀ i, i ≤ k → outs[i]? = outs'[i]?) (hT : ∀ j ∈ T.getD k [], j < k) (hk : k < outs.length)
    (h : OutOk E ops T s ds outs k o) : OutOk E ops T s ds outs' k o := by
  have hS : SV s ds outs (T.getD k []).contains = SV s ds outs' (T.getD k []).contains := by
    have h1 : SV s ds (outs.take (k + 1)) (T.getD k []).contains = SV s ds outs (T.getD k []).contains :=
      SV.pre (fun i hi => by rw [List.getElem?_take]; rw [List.length_take] at hi; rw [if_pos (by omega)]) (fun i hi => by
        have := hT i (by simpa using hi); rw [List.length_take]; omega)
    have h2 : SV s ds (outs.take (k + 1)) (T.getD k []).contains = SV s ds outs' (T.getD k []).contains :=
      SV.pre (fun i hi => by rw [List.length_take] at hi; rw [List.getElem?_take, if_pos (by omega)]; exact (he i (by omega)).symm) (fun i hi => by
        have := hT i (by simpa using hi); rw [List.length_take]; omega)
    exact h1.symm.trans h2
  have hU : ∀ x j T'', j < k → (IsU ds outs x j T'' ↔ IsU ds outs' x j T'') := fun x j T'' hj => IsU.pre (he j (by omega))
  unfold OutOk at h ⊢
  rw [hS, he k (Nat.le_refl _)] at h
  rcases h with ⟨v, Tn, h1, h2, h3, h4⟩ | ⟨d, v, Tn, x, h1, h2, h3, h4, h5, h6, h7⟩ | ⟨x, T', h1, h2, h3, h4, h5, h6⟩
  · exact .inl ⟨v, Tn, h1, h2, h3, h4⟩
  · exact .inr (.inl ⟨d, v, Tn, x, h1, h2, h3, h4, h5, h6, fun j T'' hj hu => h7 j T'' hj ((hU x j T'' hj).2 hu)⟩)
  · exact .inr (.inr ⟨x, T', h1, h2, h3, h4, h5, fun j T'' hj hu => h6 j T'' hj ((hU x j T'' hj).2 hu)⟩)
theorem dstep_sound {E : Env} {ops : Array Oper} {T : List (List Nat)} {s : ASt} {ds : List (Option Tmp)} {o : Oper} {outs : List (AV × Option AV)} {next : List (AV × Option AV) → Prop} (hT : ∀ j ∈ T.getD outs.length [], j < outs.length)
    (h : dstep E (ops.toList.map (·.dst)) T ds o outs next (SV s ds outs (memB (T.getD outs.length [])))) : ∃ e, OutOk E ops T s ds (outs ++ [e]) outs.length o ∧ next (outs ++ [e]) := by
  have hB : memB (T.getD outs.length []) = (T.getD outs.length []).contains := by funext i; exact memB_contains _ i
  rw [hB] at h
  have hS : ∀ e, SV s ds (outs ++ [e]) (T.getD outs.length []).contains = SV s ds outs (T.getD outs.length []).contains := fun e =>
    (SV.pre (fun i hi => by rw [List.getElem?_append_left hi]) (fun i hi => hT i (by simpa using hi))).symm
  have hU : ∀ e x j T'', j < outs.length → (IsU ds (outs ++ [e]) x j T'' ↔ IsU ds outs x j T'') := fun e x j T'' hj => IsU.pre (List.getElem?_append_left hj)
  have hg : ∀ e : AV × Option AV, (outs ++ [e])[outs.length]? = some e := fun e => by simp
  have q : ∀ v mo, o.dst.isSome = true → QG E ops o (SV s ds outs (T.getD outs.length []).contains) v mo → okV ds (T.getD outs.length []) outs.length v = true → tkV v = none → next (outs ++ [(v, mo)]) →
      ∃ e, OutOk E ops T s ds (outs ++ [e]) outs.length o ∧ next (outs ++ [e]) := fun v mo h1 h2 h3 h4 h5 => ⟨(v, mo), .inl ⟨v, mo, h1, hg _, by rw [hS]; exact h2, h3, h4⟩, h5⟩
  unfold dstep at h
  split at h
  · rename_i d0 hd0
    simp only [dst1] at h
    have fin : ∀ (d : Nat) v mo, o.dst = some d → unO mo = none → QG E ops o (SV s ds outs (T.getD outs.length []).contains) v mo → dnx T ds outs.length d0 outs next mo (put (SV s ds outs (T.getD outs.length []).contains) (some d) v mo) →
        ∃ e, OutOk E ops T s ds (outs ++ [e]) outs.length o ∧ next (outs ++ [e]) := fun d v mo hd hu hq hn => by
      rw [hd0] at hd; cases hd
      have hpt : (put (SV s ds outs (T.getD outs.length []).contains) (some d0) v mo).t d0 = v := by cases mo <;> simp [put, set_t, new_t]
      simp only [dnx, hpt, hu, dnx1] at hn
      exact q v mo (by rw [hd0]; rfl) hq hn.1.1 hn.1.2 hn.2
    have fin2 : ∀ (d : Nat) v Tn x, o.dst = some d → o.guard = none → TJ E o (SV s ds outs (T.getD outs.length []).contains) d v Tn x → dnx T ds outs.length d0 outs next (tkO Tn) ((SV s ds outs (T.getD outs.length []).contains).set d (tkM v x)) →
        ∃ e, OutOk E ops T s ds (outs ++ [e]) outs.length o ∧ next (outs ++ [e]) := fun d v Tn x hd hg' hq hn => by
      rw [hd0] at hd; cases hd
      simp only [dnx, set_t, if_true, unO_mark, dnx1, tkV_mark, tkC] at hn
      obtain ⟨⟨n1, n2, n3⟩, n4⟩ := hn
      refine ⟨(tkM v x, some Tn), .inr (.inl ⟨d0, v, Tn, x, hd0, hg', hg _, by rw [hS]; exact hq, ?_, n2, fun k T'' hk hu => ?_⟩), n4⟩
      · unfold okV tkM at n1
        simp only [AV.allRef, AV.allRefs, Bool.and_eq_true] at n1
        exact n1.1
      · unfold noUp at n3
        rw [Option.isNone_iff_eq_none] at n3
        exact upd_ne (B := fun _ => true) (n := 0) ((hU _ _ _ _ hk).1 hu) rfl n3
    split at h
    · rename_i hg
      rcases of_dq1 h with ⟨d, v, mo, h1, hu, h2, h3⟩ | ⟨d, v, Tn, x, h1, h2, h3, h4⟩
      · exact fin d v mo h1 hu (.inl ⟨hg, h2⟩) h3
      · exact fin2 d v Tn x h1 h2 h3 h4
    · rename_i j b hg
      split at h
      · rename_i d' hd
        have hd : (ops[j]?).bind (·.dst) = some d' := by
          rw [List.getElem?_map, Array.getElem?_toList] at hd
          cases hx : ops[j]? with
          | none => simp [hx] at hd
          | some o' => simp only [hx, Option.map_some, Option.some.injEq] at hd; simp [hd]
        obtain ⟨c, hc, h1⟩ := h
        rcases h1 with ⟨rfl, h1⟩ | ⟨hcb, h1⟩
        · rcases of_dq1 h1 with ⟨d, v, mo, g1, gu, g2, g3⟩ | ⟨d, v, Tn, x, g1, g2, g3, g4⟩
          · exact fin d v mo g1 gu (.inr (.inl ⟨j, b, d', hg, hd, hc, g2⟩)) g3
          · rw [hg] at g2; cases g2
        · have h2 := h1.2
          have : dOf o.dst = d0 := by rw [hd0]; rfl
          exact fin d0 (.lit Go.undef) none hd0 rfl (.inr (.inr ⟨j, b, c, d', hg, hd, hc, hcb, rfl, rfl⟩)) (by rw [this] at h2; exact h2)
      · exact h.elim
  · rename_i hd0
    split at h
    · rename_i xt x y hop hg'
      obtain ⟨d1, op, ty, pos, after, g⟩ := o
      simp only at hd0 hop hg'
      subst hd0; subst hop; subst hg'
      unfold dstoreQ at h
      split at h
      · rename_i r off hx
        obtain ⟨⟨h1, h2, h3, h4, h5, h6, h7, h8⟩, h9⟩ := h
        refine ⟨(.ptr r [] 0, _), .inr (.inr ⟨r, _, rfl, rfl, hg _, by rw [hS]; exact uj_store hx h1 h2 h3 h4 h5 h6, h7, fun k T'' hk hu => ?_⟩), h9⟩
        unfold noUp at h8
        rw [Option.isNone_iff_eq_none] at h8
        exact upd_ne (B := fun _ => true) (n := 0) ((hU _ _ _ _ hk).1 hu) rfl h8
      · exact h.elim
    · exact h.elim
/-! ### Operations that turn what was there -/
def over0 (s s2 s' : ASt) : ASt := ⟨s'.t, fun r => match s.m r with
  | some _ => s2.m r
  | none => s'.m r⟩
def Kn (s s1 : ASt) : Prop := s1.t = s.t ∧ ∀ r, (s1.m r).isSome = (s.m r).isSome
theorem over0_self {s s' : ASt} (h : Le s s') : over0 s s s' = s' := by
  refine ASt.ext' rfl ?_
  funext r
  simp only [over0]
  cases hr : s.m r with
  | none => rfl
  | some T => exact (h.m r T hr).symm
theorem over0_le {s s1 s' : ASt} (h : Le s s') (hk : Kn s s1) : Le s1 (over0 s s1 s') := ⟨fun i => by rw [hk.1]; exact h.t i, fun r T hr => by
  have := hk.2 r
  rw [hr] at this
  obtain ⟨T0, h0⟩ := Option.isSome_iff_exists.1 this.symm
  simp only [over0, h0, hr]⟩
theorem over0_trans {s s1 s2 s' : ASt} (hk : Kn s s1) : over0 s1 s2 (over0 s s1 s') = over0 s s2 s' := by
  refine ASt.ext' rfl ?_
  funext r
  have := hk.2 r
  simp only [over0]
  cases h1 : s1.m r with
  | none => rw [h1] at this; cases h0 : s.m r with
    | none => rfl
    | some T => rw [h0] at this; cases this
  | some T1 => rw [h1] at this; cases h0 : s.m r with
    | none => rw [h0] at this; cases this
    | some T => rfl
theorem Kn.refl (s : ASt) : Kn s s := ⟨rfl, fun _ => rfl⟩
theorem Kn.trans {a b c : ASt} (h : Kn a b) (k : Kn b c) : Kn a c := ⟨k.1.trans h.1, fun r => (k.2 r).trans (h.2 r)⟩
theorem kn_upd {s : ASt} {r : Nat} {p : List Nat} {N : AV} : Kn s (s.updM r p N) := ⟨rfl, fun q => by
  simp only [ASt.updM]; split
  · rename_i e; subst e; cases s.m q <;> rfl
  · rfl⟩
theorem over0_upd {s s' : ASt} (h : Le s s') {r : Nat} {p : List Nat} {A N : AV} (hA : nodeOf s r p = some A) : over0 s (s.updM r p N) s' = s'.updM r p N := by
  refine ASt.ext' rfl ?_
  funext q
  simp only [over0, ASt.updM]
  by_cases e : q = r
  · subst e
    cases hq : s.m q with
    | none => simp only [nodeOf, hq, Option.bind_none] at hA; cases hA
    | some T => simp only [if_true, h.m q T hq]
  · simp only [if_neg e]
    cases hq : s.m q with
    | none => rfl
    | some T => exact (h.m q T hq).symm
mutual
theorem closeV_over : ∀ (v : AV) {s s1 : ASt} {A : AV}, closeV s v = some (A, s1) → Kn s s1 ∧ ∀ s', Le s s' → closeV s' v = some (A, over0 s s1 s')
  | .lit v, s, s1, A, h => by simp only [closeV, Option.some.injEq, Prod.mk.injEq] at h; obtain ⟨rfl, rfl⟩ := h; exact ⟨.refl _, fun s' hl => by simp only [closeV, over0_self hl]⟩
  | .row true sz n cs, s, s1, A, h => by simp [closeV] at h
  | .row false sz n cs, s, s1, A, h => by simp only [closeV, Option.some.injEq, Prod.mk.injEq] at h; obtain ⟨rfl, rfl⟩ := h; exact ⟨.refl _, fun s' hl => by simp only [closeV, over0_self hl]⟩
  | .box true cs, s, s1, A, h => by simp [closeV] at h
  | .box false cs, s, s1, A, h => by simp only [closeV, Option.some.injEq, Prod.mk.injEq] at h; obtain ⟨rfl, rfl⟩ := h; exact ⟨.refl _, fun s' hl => by simp only [closeV, over0_self hl]⟩
  | .fn f cs, s, s1, A, h => by
    simp only [closeV] at h
    split at h
    · rename_i hn
      simp only [Option.some.injEq, Prod.mk.injEq] at h; obtain ⟨rfl, rfl⟩ := h; exact ⟨.refl _, fun s' hl => by simp only [closeV, hn, if_true, over0_self hl]⟩
    · cases h
  | .sl r p off len, s, s1, A, h => by
    simp only [closeV] at h
    split at h
    · rename_i sz n cs hn
      split at h
      · rename_i e
        simp only [Option.some.injEq, Prod.mk.injEq] at h; obtain ⟨rfl, rfl⟩ := h
        exact ⟨kn_upd, fun s' hl => by simp only [closeV, hl.node hn]; rw [if_pos e, over0_upd hl hn]⟩
      · cases h
    · cases h
  | .ptr r p o, s, s1, A, h => by
    simp only [closeV] at h
    split at h
    · rename_i cs hn
      split at h
      · rename_i e
        simp only [Option.some.injEq, Prod.mk.injEq] at h; obtain ⟨rfl, rfl⟩ := h
        exact ⟨kn_upd, fun s' hl => by simp only [closeV, hl.node hn]; rw [if_pos e, over0_upd hl hn]⟩
      · cases h
    · cases h
  | .agg cs, s, s1, A, h => by
    simp only [closeV] at h
    split at h
    · rename_i As s2 h1
      simp only [Option.some.injEq, Prod.mk.injEq] at h; obtain ⟨rfl, rfl⟩ := h
      obtain ⟨k1, k2⟩ := closeVs_over cs h1
      exact ⟨k1, fun s' hl => by simp only [closeV, k2 s' hl]⟩
    · cases h
  | .tup cs, s, s1, A, h => by
    simp only [closeV] at h
    split at h
    · rename_i As s2 h1
      simp only [Option.some.injEq, Prod.mk.injEq] at h; obtain ⟨rfl, rfl⟩ := h
      obtain ⟨k1, k2⟩ := closeVs_over cs h1
      exact ⟨k1, fun s' hl => by simp only [closeV, k2 s' hl]⟩
    · cases h
  | .junk, s, s1, A, h => by simp [closeV] at h
theorem closeVs_over : ∀ (vs : List AV) {s s1 : ASt} {As : List AV}, closeVs s vs = some (As, s1) → Kn s s1 ∧ ∀ s', Le s s' → closeVs s' vs = some (As, over0 s s1 s')
  | [], s, s1, As, h => by simp only [closeVs, Option.some.injEq, Prod.mk.injEq] at h; obtain ⟨rfl, rfl⟩ := h; exact ⟨.refl _, fun s' hl => by simp only [closeVs, over0_self hl]⟩
  | v :: vs, s, s1, As, h => by
    simp only [closeVs] at h
    split at h
    · rename_i A s2 h1
      split at h
      · rename_i Bs s3 h2
        simp only [Option.some.injEq, Prod.mk.injEq] at h; obtain ⟨rfl, rfl⟩ := h
        obtain ⟨k1, k2⟩ := closeV_over v h1
        obtain ⟨k3, k4⟩ := closeVs_over vs h2
        exact ⟨k1.trans k3, fun s' hl => by simp only [closeVs, k2 s' hl, k4 _ (over0_le hl k1), over0_trans k1]⟩
      · cases h
    · cases h
end
theorem Rel.filt {E : Env} {s : ASt} {a : Act} {w : World} {f : Nat → List Nat → Option (Nat × List Nat)} (hf : Filt f) (h : Rel E s a w) : Rel E (s.mapT f) a w := by
  obtain ⟨M, G, hX⟩ := h
  refine ⟨M, G, hX.weak rfl (fun i u hu => ?_)⟩
  refine VR.mapRef hu (fun r p r' p' he T' N' hT hN hm => ?_)
  rcases hf r p with h | h
  · rw [h] at he; cases he
  · rw [h] at he; cases he; exact ⟨T', N', hT, hN, rfl⟩
def fOf (P : Program) (t : TypeId) : AV → Nat → List Nat → Option (Nat × List Nat)
  | .ptr r p o => killR r p o (szN P t)
  | _ => fun _ _ => none
theorem killR_filt (r : Nat) (p : List Nat) (o n : Nat) : Filt (killR r p o n) := fun r' p' => by
  simp only [killR]
  split
  · split
    · exact .inl rfl
    · exact .inr rfl
  · exact .inr rfl
theorem fOf_filt (P : Program) (t : TypeId) (x : AV) : Filt (fOf P t x) := by
  unfold fOf; split
  · exact killR_filt _ _ _ _
  · exact fun _ _ => .inl rfl
theorem over_eq {s s2 s' : ASt} {f : Nat → List Nat → Option (Nat × List Nat)} : over s s2 f s' = (over0 s s2 s').mapT f := rfl
theorem over0_m {s st st' s' : ASt} (h : st.m = st'.m) : over0 s st s' = over0 s st' s' := by simp only [over0, h]
theorem xj_store {E : Env} {s : ASt} {x y : Operand} {t xt : TypeId} {pos : String} {after : Array Edge} {g : Option (Nat × Bool)} {K : ASt → Prop} (h : storeQ E.P xt (s.ev x) (s.ev y) K s) :
    ∃ st, K st ∧ XJ E ⟨none, .store xt x y, t, pos, after, g⟩ s st (fOf E.P xt (s.ev x)) .junk none := by
  unfold storeQ at h
  have tree : ∀ {r p o}, s.ev x = .ptr r p o → (s.ev y ≠ .junk) → treeQ E.P xt r p o K (closeVs s (s.ev y).parts) → ∃ st, K st ∧ XJ E ⟨none, .store xt x y, t, pos, after, g⟩ s st (fOf E.P xt (s.ev x)) .junk none := fun {r p o} hx hyj h => by
    unfold treeQ at h
    split at h
    · rename_i As s1 hc
      obtain ⟨⟨h2, h3, h4, h5, h6⟩, h7⟩ := h
      have hl := nilTs_len (nzT E.P xt) As
      obtain ⟨k1, k2⟩ := closeVs_over _ hc
      have hsz : szN E.P xt = (nilTs (nzT E.P xt) As).length := by unfold szN; rw [h3, hl]; rfl
      obtain ⟨A, hA⟩ : ∃ A, nodeOf s1 r p = some A := by cases hn : nodeOf s1 r p with
        | none => rw [hn] at h5; cases h5
        | some A => exact ⟨A, rfl⟩
      have main : ∀ st, st.m = (s1.updM r p (setNs o (nilTs (nzT E.P xt) As) (nodeOf s1 r p))).m → XJ E ⟨none, .store xt x y, t, pos, after, g⟩ s st (fOf E.P xt (s.ev x)) .junk none := fun st hst s' hle a w hr => by
        have hev : s'.ev x = .ptr r p o := hle.ev hx (by simp)
        have hevy : s'.ev y = s.ev y := hle.ev rfl hyj
        have hle1 := over0_le hle k1
        have hN := hle1.node hA
        have e0 : over0 s st s' = (over0 s s1 s').updM r p (setNs o (nilTs (nzT E.P xt) As) (nodeOf s1 r p)) := by
          rw [over0_m hst, ← over0_trans k1, over0_upd hle1 hA]
        have hlj := l_storeTree (E := E) (s := s') (x := x) (y := y) (t := t) (xt := xt) (pos := pos) (after := after) (g := g) (R := fun s'' => s'' = (over0 s s1 s').updM r p (setNs o (nilTs (nzT E.P xt) As) (nodeOf s1 r p)) ∨ s'' = ((over0 s s1 s').updM r p (setNs o (nilTs (nzT E.P xt) As) (nodeOf s1 r p))).mapT (killR r p o (nilTs (nzT E.P xt) As).length)) (nilTs_le (nzT E.P xt) As) hev (by rw [hevy]; exact k2 s' hle) h2 (by rw [hl]; exact h3) (by rw [hl]; exact h4) (by rw [hN]; rw [hA] at h5; exact h5) (by rw [hN, hl]; rw [hA] at h6; exact h6) (by rw [hN, hA]; split; exact .inl rfl; exact .inr rfl)
        refine Oper.wp_both (fun a' w' hp => ?_) (hlj a w hr)
        obtain ⟨s'', h1, h2⟩ := hp
        have hf : fOf E.P xt (s.ev x) = killR r p o (nilTs (nzT E.P xt) As).length := by rw [hx]; simp only [fOf, hsz]
        show Rel E (over s st (fOf E.P xt (s.ev x)) s') a' w'
        rw [over_eq, e0, hf]
        rcases h2 with rfl | rfl
        · exact h1.filt (killR_filt _ _ _ _)
        · exact h1
      unfold treeR at h7
      split at h7
      · exact ⟨_, h7, main _ rfl⟩
      · exact ⟨_, h7, main _ rfl⟩
    · exact h.elim
  split at h
  · rename_i h1 h2; exact tree h1 (by rw [h2]; simp) (by rw [h2]; exact h)
  · rename_i h1 h2; exact tree h1 (by rw [h2]; simp) (by rw [h2]; exact h)
  · rename_i h1 h2; exact tree h1 (by rw [h2]; simp) (by rw [h2]; exact h)
  · rename_i r p o h1 _ _ _
    obtain ⟨⟨⟨g1, g2, g3⟩, g4⟩, g5⟩ := h
    refine ⟨_, g5, fun s' hle a w hr => ?_⟩
    obtain ⟨A, hA⟩ : ∃ A, nodeOf s r p = some A := by cases hn : nodeOf s r p with
      | none => rw [hn] at g2; cases g2
      | some A => exact ⟨A, rfl⟩
    have hevy : s'.ev y = s.ev y := hle.ev rfl (fun e => by rw [e] at g4; cases g4)
    have hN := hle.node hA
    have hlj := l_store (E := E) (s := s') (x := x) (y := y) (t := t) (xt := xt) (pos := pos) (after := after) (g := g) (R := fun s'' => s'' = s'.updM r p (setN o (s.ev y) (nodeOf s r p))) g1 (hle.ev h1 (by simp)) (by rw [hN]; rw [hA] at g2; exact g2) (by rw [hN]; rw [hA] at g3; exact g3) (by rw [hevy]; exact g4) (by rw [hN, hA, hevy])
    refine Oper.wp_both (fun a' w' hp => ?_) (hlj a w hr)
    obtain ⟨s'', k1, rfl⟩ := hp
    show Rel E (over s _ (fOf E.P xt (s.ev x)) s') a' w'
    rw [over_eq, over0_upd hle hA]
    exact k1.filt (fOf_filt _ _ _)
  · exact h.elim
def idF : Nat → List Nat → Option (Nat × List Nat) := fun r p => some (r, p)
theorem idF_filt : Filt idF := fun _ _ => .inr rfl
mutual
theorem mapRef_idF : ∀ (a : AV), a.mapRef idF = a
  | .sl r p o l => by simp only [AV.mapRef, idF]
  | .ptr r p o => by simp only [AV.mapRef, idF]
  | .agg cs => by simp only [AV.mapRef, mapRefs_idF cs]
  | .tup cs => by simp only [AV.mapRef, mapRefs_idF cs]
  | .fn _ cs => by simp only [AV.mapRef, mapRefs_idF cs]
  | .lit _ => by simp only [AV.mapRef]
  | .row _ _ _ _ => by simp only [AV.mapRef]
  | .box _ _ => by simp only [AV.mapRef]
  | .junk => by simp only [AV.mapRef]
theorem mapRefs_idF : ∀ (l : List AV), AV.mapRefs idF l = l
  | [] => by simp only [AV.mapRefs]
  | c :: r => by simp only [AV.mapRefs, mapRef_idF c, mapRefs_idF r]
end
theorem appB_tr {P : Program} {t : TypeId} {y : AV} {k : Nat} {cs : List AV} {K : ASt → Prop} {s s1 : ASt} {d : Nat} (hk : Kn s s1) (h : appB P t y k cs K s s1 d) :
    ∃ s2 v T, K (s2.new d v T) ∧ Kn s s2 ∧ y ≠ .junk ∧ ∀ s', Le s s' → appB P t y k cs (fun s'' => s'' = (over0 s s2 s').new d v T) s' (over0 s s1 s') d := by
  unfold appB at h
  split at h
  · exact ⟨s1, _, _, h.2, hk, by simp, fun s' hl => by unfold appB; exact ⟨h.1, rfl⟩⟩
  · exact ⟨s1, _, _, h.2, hk, by simp, fun s' hl => by unfold appB; exact ⟨h.1, rfl⟩⟩
  · rename_i r p off m
    unfold appRow at h
    split at h
    · rename_i sz n es hA
      obtain ⟨h1, h2⟩ := h
      by_cases hl : leafCs (if off = 0 ∧ m = n then es else (es.drop (off * sz)).take (m * sz)) = true
      · rw [if_pos hl] at h2
        exact ⟨s1, _, _, h2, hk, by simp, fun s' hle => by unfold appB; simp only [hle.node hA, appRow]; refine ⟨h1, ?_⟩; rw [if_pos hl]; trivial⟩
      · rw [if_neg hl] at h2
        unfold appMv at h2
        split at h2
        · rename_i sz' n' es' hA1
          obtain ⟨h3, h4⟩ := h2
          refine ⟨s1.updM r p .junk, _, _, h4, hk.trans kn_upd, by simp, fun s' hle => ?_⟩
          have hle1 := over0_le hle hk
          unfold appB; simp only [hle.node hA, appRow]
          refine ⟨h1, ?_⟩
          rw [if_neg hl]
          simp only [hle1.node hA1, appMv]
          refine ⟨h3, ?_⟩
          have e := over0_upd (N := .junk) hle1 hA1
          rw [over0_trans hk] at e
          rw [e]
        · exact h2.elim
    · exact h.elim
  · exact h.elim
theorem appC_tr {P : Program} {t : TypeId} {r n : Nat} {p : List Nat} {y : AV} {k : Nat} {cs0 cs : List AV} {K : ASt → Prop} {s s1 : ASt} {d : Nat} (hk : Kn s s1) (h : appC P t r p n k cs0 cs y K s s1 d) :
    ∃ s2 v T, K (s2.new d v T) ∧ Kn s s2 ∧ y ≠ .junk ∧ ∀ s', Le s s' → appC P t r p n k cs0 cs y (fun s'' => s'' = (over0 s s2 s').new d v T) s' (over0 s s1 s') d := by
  unfold appC at h
  split at h
  · rename_i r' p' off' m'
    split at h
    · rename_i hc
      exact ⟨s1, _, _, h.2, hk, by simp, fun s' hl => by simp only [appC]; rw [if_pos hc]; exact ⟨h.1, rfl⟩⟩
    · rename_i hc
      obtain ⟨s2, v, T, h1, h2, h3, h4⟩ := appB_tr hk h
      exact ⟨s2, v, T, h1, h2, h3, fun s' hl => by simp only [appC]; rw [if_neg hc]; exact h4 s' hl⟩
  · rename_i hy
    obtain ⟨s2, v, T, h1, h2, h3, h4⟩ := appB_tr hk h
    refine ⟨s2, v, T, h1, h2, h3, fun s' hl => ?_⟩
    have := h4 s' hl
    unfold appC
    split
    · rename_i r' p' off' m'
      exact absurd rfl (hy r' p' off' m')
    · exact this
theorem xj_app {E : Env} {s : ASt} {x y : Operand} {d : Nat} {t xt : TypeId} {pos : String} {after : Array Edge} {g : Option (Nat × Bool)} {K : ASt → Prop} (hn : d < E.nt) (h : appQ E.P xt (s.ev x) (s.ev y) K s d) :
    ∃ st T, K st ∧ st.m d = some T ∧ XJ E ⟨some d, .call { callee := .builtin .append, args := #[x, y], argTypes := #[xt, xt] }, t, pos, after, g⟩ s st idF (st.t d) (some T) := by
  have fin : ∀ s2 v T, Kn s s2 → s.ev x ≠ .junk → s.ev y ≠ .junk → (∀ s', Le s s' → appQ E.P xt (s.ev x) (s.ev y) (fun s'' => s'' = (over0 s s2 s').new d v T) s' d) →
      XJ E ⟨some d, .call { callee := .builtin .append, args := #[x, y], argTypes := #[xt, xt] }, t, pos, after, g⟩ s (s2.new d v T) idF v (some T) := fun s2 v T hk hxj hyj h s' hle a w hr => by
    have hq := h s' hle
    rw [← hle.ev rfl hxj, ← hle.ev rfl hyj] at hq
    refine Oper.wp_both (fun a' w' hp => ?_) (of_append (E := E) (s := s') (t := t) (pos := pos) (after := after) (g := g) hn hq a w hr)
    obtain ⟨s'', h1, rfl⟩ := hp
    have e : put (over s (s2.new d v T) idF s') (some d) v (some T) = (over0 s s2 s').new d v T := by
      refine ASt.ext' ?_ ?_
      · funext i
        simp only [put, ASt.new, over, over0, mapRef_idF]
      · funext r
        simp only [put, ASt.new, over, over0]
        split
        · rfl
        · cases hm : s.m r with
          | none => rfl
          | some T0 => rfl
    show Rel E (put (over s (s2.new d v T) idF s') (some d) v (some T)) a' w'
    rw [e]; exact h1
  have tt : ∀ (s2 : ASt) v T, (s2.new d v T).t d = v ∧ (s2.new d v T).m d = some T := fun s2 v T => ⟨by simp [ASt.new], by simp [ASt.new]⟩
  unfold appQ at h
  split at h
  · rename_i hx
    obtain ⟨s2, v, T, h1, h2, h3, h4⟩ := appB_tr (Kn.refl s) h
    refine ⟨_, T, h1, (tt s2 v T).2, ?_⟩
    rw [(tt s2 v T).1]
    refine fin s2 v T h2 (by rw [hx]; simp) h3 (fun s' hle => ?_)
    have := h4 s' hle
    rw [over0_self hle] at this
    unfold appQ; rw [hx]; exact this
  · rename_i r p off k hx
    unfold appA at h
    split at h
    · rename_i sz n cs hA
      obtain ⟨c1, c2⟩ := h
      obtain ⟨s2, v, T, h1, h2, h3, h4⟩ := appC_tr kn_upd c2
      refine ⟨_, T, h1, (tt s2 v T).2, ?_⟩
      rw [(tt s2 v T).1]
      refine fin s2 v T h2 (by rw [hx]; simp) h3 (fun s' hle => ?_)
      have := h4 s' hle
      rw [over0_upd hle hA] at this
      unfold appQ; rw [hx]; simp only [hle.node hA, appA]
      exact ⟨c1, this⟩
    · exact h.elim
  · exact h.elim
/-! ### The whole region -/
def base1 (s st : ASt) (f : Nat → List Nat → Option (Nat × List Nat)) : ASt := ⟨fun i => (s.t i).mapRef f, fun r => match s.m r with
  | some _ => st.m r
  | none => none⟩
/-- The regions that were made here are what they were, but those of 'ex'. -/
def sameP (S st : ASt) (ex : List Nat) : List (Option Tmp) → Prop
  | [] => True
  | none :: l => sameP S st ex l
  | some r :: l => (if memB ex r = true then True else st.m r = S.m r) ∧ sameP S st ex l
theorem sameP_of {S st : ASt} {ex : List Nat} : ∀ {ds : List (Option Tmp)}, sameP S st ex ds → ∀ r, some r ∈ ds → r ∉ ex → st.m r = S.m r
  | [], _, r, h, _ => by simp at h
  | none :: l, h, r, hr, hx => by
    simp only [sameP] at h
    exact sameP_of h r (by simpa using hr) hx
  | some q :: l, h, r, hr, hx => by
    simp only [sameP] at h
    rcases List.mem_cons.1 hr with e | e
    · cases e
      have h1 := h.1
      rw [if_neg (by rw [memB_contains]; simpa using hx)] at h1
      exact h1
    · exact sameP_of h.2 r e hx
def allUp (T : List (List Nat)) (ds : List (Option Tmp)) (outs : List (AV × Option AV)) (S : ASt) : List Nat → Prop
  | [] => True
  | x :: l => ((S.m x).isSome = true ∧ upOk T ds x outs.length = true ∧ noUp x ds outs = true) ∧ allUp T ds outs S l
def ptrsC : List Nat → List AV
  | [] => []
  | x :: l => .ptr x [] 0 :: ptrsC l
theorem ptrsC_eq : ∀ (l : List Nat), ptrsC l = ptrs l
  | [] => rfl
  | x :: l => by simp [ptrsC, ptrs, ptrsC_eq l]
def getMs (st : ASt) : List Nat → Option (List AV)
  | [] => some []
  | x :: l => match st.m x with
    | some T => (getMs st l).map (T :: ·)
    | none => none
theorem allUp_mem {T : List (List Nat)} {ds : List (Option Tmp)} {outs : List (AV × Option AV)} {S : ASt} : ∀ {l : List Nat}, allUp T ds outs S l → ∀ x ∈ l, (S.m x).isSome = true ∧ upOk T ds x outs.length = true ∧ noUp x ds outs = true
  | [], _, x, h => by simp at h
  | y :: l, h, x, hx => by
    simp only [allUp] at h
    rcases List.mem_cons.1 hx with rfl | hx
    · exact h.1
    · exact allUp_mem h.2 x hx
theorem getMs_spec {st : ASt} : ∀ {l : List Nat} {Ts : List AV}, getMs st l = some Ts → (∀ x ∈ l, (upL x (ptrs l) Ts).isSome = true) ∧ ∀ x T', upL x (ptrs l) Ts = some T' → x ∈ l ∧ st.m x = some T'
  | [], Ts, h => ⟨by simp, fun x T' h => by simp [ptrs, upL] at h⟩
  | y :: l, Ts, h => by
    simp only [getMs] at h
    split at h
    · rename_i T hT
      cases hg : getMs st l with
      | none => rw [hg] at h; simp at h
      | some Us =>
        rw [hg] at h
        simp only [Option.map_some, Option.some.injEq] at h
        subst h
        obtain ⟨h1, h2⟩ := getMs_spec hg
        constructor
        · intro x hx
          simp only [ptrs, List.map_cons, upL]
          split
          · rfl
          · rename_i hne
            rcases List.mem_cons.1 hx with rfl | hx
            · exact absurd rfl hne
            · exact h1 x hx
        · intro x T' hx
          simp only [ptrs, List.map_cons, upL] at hx
          split at hx
          · rename_i e; subst e; cases hx; exact ⟨by simp, hT⟩
          · have := h2 x T' hx; exact ⟨by simp [this.1], this.2⟩
    · cases h
def dxL (f : Nat → List Nat → Option (Nat × List Nat)) (st : ASt) (K : (Nat → List Nat → Option (Nat × List Nat)) → ASt → List (AV × Option AV) → Prop) (outs : List (AV × Option AV)) (ps : List AV) : Option (List AV) → Prop
  | some Ts => K f st (outs ++ [(.tup ps, some (.tup Ts))])
  | none => False
def dxS (T : List (List Nat)) (ds : List (Option Tmp)) (outs : List (AV × Option AV)) (mk : List Nat) (S : ASt) (f : Nat → List Nat → Option (Nat × List Nat)) (K : (Nat → List Nat → Option (Nat × List Nat)) → ASt → List (AV × Option AV) → Prop) (st : ASt) : Prop := match mk with
  | [] => sameP S st [] ds ∧ K f st (outs ++ [(.junk, none)])
  | x :: l => (sameP S st (x :: l) ds ∧ allUp T ds outs S (x :: l)) ∧ dxL f st K outs (ptrsC (x :: l)) (getMs st (x :: l))
def dxA (T : List (List Nat)) (ds : List (Option Tmp)) (outs : List (AV × Option AV)) (mk : List Nat) (S : ASt) (d : Nat) (K : (Nat → List Nat → Option (Nat × List Nat)) → ASt → List (AV × Option AV) → Prop) (st : ASt) : Prop := match mk with
  | [] => (okV ds (T.getD outs.length []) outs.length (st.t d) = true ∧ tkV (st.t d) = none ∧ sameP S st [d] ds) ∧ K idF st (outs ++ [(st.t d, st.m d)])
  | [x] => (okV ds (T.getD outs.length []) outs.length (st.t d) = true ∧ sameP S st [d, x] ds ∧ x ≠ d ∧ (S.m x).isSome = true ∧ st.m x = some .junk ∧ upOk T ds x outs.length = true ∧ noUp x ds outs = true) ∧ K idF st (outs ++ [(tkM (st.t d) x, st.m d)])
  | _ => False
def dxop (E : Env) (T : List (List Nat)) (ds : List (Option Tmp)) (outs : List (AV × Option AV)) (mk : List Nat) (o : Oper) (K : (Nat → List Nat → Option (Nat × List Nat)) → ASt → List (AV × Option AV) → Prop) (S : ASt) : Prop := match o.dst, o.op, o.guard with
  | none, .store t x y, none => storeQ E.P t (S.ev x) (S.ev y) (dxS T ds outs mk S (fOf E.P t (S.ev x)) K) S
  | some d, .call { callee := .builtin .append, args := ⟨[x, y]⟩, argTypes := ⟨[t, t']⟩ }, none => (d < E.nt ∧ t' = t) ∧ appQ E.P t (S.ev x) (S.ev y) (dxA T ds outs mk S d K) S d
  | _, _, _ => False
def dqA (E : Env) (da : List (Option Tmp)) (T : List (List Nat)) (s : ASt) (ds : List (Option Tmp)) (K : List (AV × Option AV) → Prop) : List Oper → List (AV × Option AV) → Prop
  | [] => K
  | o :: rest => fun outs => dstep E da T ds o outs (dqA E da T s ds K rest) (SV s ds outs (memB (T.getD outs.length [])))
/-- Those ahead of it in the text that may come behind it. -/
def dqC (E : Env) (da : List (Option Tmp)) (T : List (List Nat)) (s1 : ASt) (ds : List (Option Tmp)) (ix : Nat) (outs : List (AV × Option AV)) : List Oper → Nat → Prop
  | [], _ => True
  | o :: rest, i => (if memB (T.getD ix []) i = true then True else dstep E da T ds o (outs.take i) (fun o' => o' = outs.take (i + 1)) (SV s1 ds (outs.take i) (memB (T.getD i [])))) ∧ dqC E da T s1 ds ix outs rest (i + 1)
def dqB (E : Env) (da : List (Option Tmp)) (T : List (List Nat)) (s s1 : ASt) (ds : List (Option Tmp)) (ix : Nat) (K : List (AV × Option AV) → Prop) : List Oper → List (AV × Option AV) → Prop
  | [] => K
  | o :: rest => fun outs => if memB (T.getD outs.length []) ix = true then dstep E da T ds o outs (dqB E da T s s1 ds ix K rest) (SV s1 ds outs (memB (T.getD outs.length []))) else
      dstep E da T ds o outs (fun outs1 => dstep E da T ds o outs (fun outs2 => outs2 = outs1) (SV s1 ds outs (memB (T.getD outs.length []))) ∧ dqB E da T s s1 ds ix K rest outs1) (SV s ds outs (memB (T.getD outs.length [])))
def fixP (T : List (List Nat)) (ix : Nat) (f : Nat → List Nat → Option (Nat × List Nat)) : List (AV × Option AV) → Nat → Prop
  | [], _ => True
  | e :: l, i => (if i = ix then True else if memB (T.getD i []) ix = true then True else (outV e.1).mapRef f = outV e.1) ∧ fixP T ix f l (i + 1)
def dqx3 (E : Env) (da : List (Option Tmp)) (T : List (List Nat)) (s : ASt) (ds : List (Option Tmp)) (ix : Nat) (tail : ASt → Prop) (pre rest : List Oper) (f : Nat → List Nat → Option (Nat × List Nat)) (st : ASt) (outs : List (AV × Option AV)) : Prop :=
  dqC E da T (base1 s st f) ds ix outs pre 0 ∧ dqB E da T s (base1 s st f) ds ix (fun outs => fixP T ix f outs 0 ∧ tail (SV (base1 s st f) ds outs fun _ => true)) rest outs
def dqx2 (E : Env) (da : List (Option Tmp)) (T : List (List Nat)) (s : ASt) (ds : List (Option Tmp)) (ix : Nat) (mk : List Nat) (tail : ASt → Prop) (pre : List Oper) (outs : List (AV × Option AV)) : List Oper → Prop
  | [] => False
  | o :: rest => dxop E T ds outs mk o (dqx3 E da T s ds ix tail pre rest) (SV s ds outs (memB (T.getD outs.length [])))
def dqX (E : Env) (da : List (Option Tmp)) (T : List (List Nat)) (s : ASt) (ds : List (Option Tmp)) (ix : Nat) (mk : List Nat) (tail : ASt → Prop) (l : List Oper) : Prop :=
  dqA E da T s ds (fun outs => dqx2 E da T s ds ix mk tail (l.take ix) outs (l.drop ix)) (l.take ix) []

theorem dqA_sound {E : Env} {ops : Array Oper} {T : List (List Nat)} {s : ASt} {ds : List (Option Tmp)} {K : List (AV × Option AV) → Prop} : ∀ {l : List Oper} {outs0 : List (AV × Option AV)}, dqA E (ops.toList.map (·.dst)) T s ds K l outs0 →
    (∀ i, outs0.length ≤ i → i < outs0.length + l.length → ∀ j ∈ T.getD i [], j < i) →
    ∃ outs, outs.length = outs0.length + l.length ∧ (∀ i, i < outs0.length → outs[i]? = outs0[i]?) ∧ K outs ∧ ∀ i o, l[i]? = some o → OutOk E ops T s ds outs (outs0.length + i) o
  | [], outs0, h, _ => ⟨outs0, rfl, fun _ _ => rfl, h, fun i o ho => by simp at ho⟩
  | o :: rest, outs0, h, hT => by
    obtain ⟨e, h1, h2⟩ := dstep_sound (hT _ (Nat.le_refl _) (by simp)) h
    obtain ⟨outs, e1, e2, e3, e4⟩ := dqA_sound h2 (fun i hi hi' => hT i (by simp at hi; omega) (by simp at hi' ⊢; omega))
    simp only [List.length_append, List.length_cons, List.length_nil] at e1 e2 e4
    refine ⟨outs, by rw [e1]; simp; omega, fun i hi => by rw [e2 i (by omega), List.getElem?_append_left hi], e3, fun i o' ho => ?_⟩
    cases i with
    | zero =>
      simp only [List.getElem?_cons_zero, Option.some.injEq] at ho; subst ho
      refine OutOk.ext (fun i hi => (e2 i (by omega)).symm) (hT _ (by omega) (by simp)) (by simp) h1
    | succ i =>
      have := e4 i o' (by simpa using ho)
      rwa [show outs0.length + (i + 1) = outs0.length + (0 + 1) + i by omega]
theorem take_cat {α : Type} {l : List α} {i : Nat} {e : α} (h : l.take (i + 1) = l.take i ++ [e]) (hi : i < l.length) : l[i]? = some e := by
  rw [List.take_succ_eq_append_getElem hi] at h
  have := List.append_cancel_left h
  simp only [List.cons.injEq, and_true] at this
  rw [List.getElem?_eq_getElem hi, this]
theorem dqC_sound {E : Env} {ops : Array Oper} {T : List (List Nat)} {s1 : ASt} {ds : List (Option Tmp)} {ix : Nat} {outs : List (AV × Option AV)} : ∀ {l : List Oper} {n : Nat}, dqC E (ops.toList.map (·.dst)) T s1 ds ix outs l n →
    (∀ i, n ≤ i → i < n + l.length → ∀ j ∈ T.getD i [], j < i) → n + l.length ≤ outs.length → ∀ i o, l[i]? = some o → n + i ∉ T.getD ix [] → OutOk E ops T s1 ds outs (n + i) o
  | [], n, h, _, _, i, o, ho, _ => by simp at ho
  | o :: rest, n, h, hT, hl, i, o', ho, hi => by
    simp only [dqC] at h
    obtain ⟨h1, h2⟩ := h
    simp only [List.length_cons] at hl
    cases i with
    | succ i =>
      have := dqC_sound h2 (fun i hi hi' => hT i (by omega) (by simp at hi' ⊢; omega)) (by omega) i o' (by simpa using ho) (by rw [show n + 1 + i = n + (i + 1) by omega]; exact hi)
      rwa [show n + (i + 1) = n + 1 + i by omega]
    | zero =>
      simp only [List.getElem?_cons_zero, Option.some.injEq] at ho; subst ho
      rw [if_neg (by rw [memB_contains]; simpa using hi)] at h1
      have hln : (outs.take n).length = n := by rw [List.length_take]; omega
      obtain ⟨e, g1, g2⟩ := dstep_sound (outs := outs.take n) (by rw [hln]; exact hT n (Nat.le_refl _) (by simp)) (by rw [hln]; exact h1)
      rw [hln] at g1
      have he : outs[n]? = some e := take_cat g2.symm (by omega)
      refine OutOk.ext (fun i hi => ?_) (hT n (Nat.le_refl _) (by simp)) (by simp; omega) g1
      rcases Nat.lt_or_ge i n with h | h
      · rw [List.getElem?_append_left (by omega), List.getElem?_take, if_pos h]
      · have : i = n := by omega
        subst this
        rw [List.getElem?_append_right (by omega), hln, Nat.sub_self, he]; rfl
theorem dqB_sound {E : Env} {ops : Array Oper} {T : List (List Nat)} {s s1 : ASt} {ds : List (Option Tmp)} {ix : Nat} {K : List (AV × Option AV) → Prop} : ∀ {l : List Oper} {outs0 : List (AV × Option AV)}, dqB E (ops.toList.map (·.dst)) T s s1 ds ix K l outs0 →
    (∀ i, outs0.length ≤ i → i < outs0.length + l.length → ∀ j ∈ T.getD i [], j < i) →
    ∃ outs, outs.length = outs0.length + l.length ∧ (∀ i, i < outs0.length → outs[i]? = outs0[i]?) ∧ K outs ∧ ∀ i o, l[i]? = some o → OutOk E ops T s1 ds outs (outs0.length + i) o ∧ (ix ∉ T.getD (outs0.length + i) [] → OutOk E ops T s ds outs (outs0.length + i) o)
  | [], outs0, h, _ => ⟨outs0, rfl, fun _ _ => rfl, h, fun i o ho => by simp at ho⟩
  | o :: rest, outs0, h, hT => by
    have hTn := hT _ (Nat.le_refl _) (by simp)
    have step : ∃ e, OutOk E ops T s1 ds (outs0 ++ [e]) outs0.length o ∧ (ix ∉ T.getD outs0.length [] → OutOk E ops T s ds (outs0 ++ [e]) outs0.length o) ∧ dqB E (ops.toList.map (·.dst)) T s s1 ds ix K rest (outs0 ++ [e]) := by
      simp only [dqB] at h
      split at h
      · rename_i hc
        obtain ⟨e, h1, h2⟩ := dstep_sound hTn h
        exact ⟨e, h1, fun hx => absurd (by rw [memB_contains] at hc; simpa using hc) hx, h2⟩
      · obtain ⟨e, h1, h2, h3⟩ := dstep_sound hTn h
        obtain ⟨e', h4, h5⟩ := dstep_sound hTn h2
        have : e' = e := by simpa using h5
        subst this
        exact ⟨e', h4, fun _ => h1, h3⟩
    obtain ⟨e, h1, h1', h2⟩ := step
    obtain ⟨outs, e1, e2, e3, e4⟩ := dqB_sound h2 (fun i hi hi' => hT i (by simp at hi; omega) (by simp at hi' ⊢; omega))
    simp only [List.length_append, List.length_cons, List.length_nil] at e1 e2 e4
    refine ⟨outs, by rw [e1]; simp; omega, fun i hi => by rw [e2 i (by omega), List.getElem?_append_left hi], e3, fun i o' ho => ?_⟩
    cases i with
    | zero =>
      simp only [List.getElem?_cons_zero, Option.some.injEq] at ho; subst ho
      exact ⟨OutOk.ext (fun i hi => (e2 i (by omega)).symm) hTn (by simp) h1, fun hx => OutOk.ext (fun i hi => (e2 i (by omega)).symm) hTn (by simp) (h1' hx)⟩
    | succ i =>
      have := e4 i o' (by simpa using ho)
      rwa [show outs0.length + (i + 1) = outs0.length + (0 + 1) + i by omega]
theorem fixP_sound {T : List (List Nat)} {ix : Nat} {f : Nat → List Nat → Option (Nat × List Nat)} : ∀ {outs : List (AV × Option AV)} {n : Nat}, fixP T ix f outs n → ∀ i e, outs[i]? = some e → n + i ≠ ix → ix ∉ T.getD (n + i) [] → (outV e.1).mapRef f = outV e.1
  | [], n, h, i, e, he, _, _ => by simp at he
  | e0 :: l, n, h, i, e, he, hi, hx => by
    simp only [fixP] at h
    cases i with
    | zero =>
      simp only [List.getElem?_cons_zero, Option.some.injEq] at he; subst he
      have h1 := h.1
      rw [Nat.add_zero] at hi hx
      rw [if_neg hi, if_neg (by rw [memB_contains]; simpa using hx)] at h1
      exact h1
    | succ i => exact fixP_sound h.2 i e (by simpa using he) (by omega) (by rw [show n + 1 + i = n + (i + 1) by omega]; exact hx)
theorem dxop_sound {E : Env} {T : List (List Nat)} {s : ASt} {ds : List (Option Tmp)} {outs : List (AV × Option AV)} {mk : List Nat} {o : Oper} {K : (Nat → List Nat → Option (Nat × List Nat)) → ASt → List (AV × Option AV) → Prop} (hT : ∀ j ∈ T.getD outs.length [], j < outs.length)
    (h : dxop E T ds outs mk o K (SV s ds outs (memB (T.getD outs.length [])))) : ∃ f st e, Filt f ∧ K f st (outs ++ [e]) ∧ XOk E T s (base1 s st f) ds (outs ++ [e]) f outs.length o := by
  have hB : memB (T.getD outs.length []) = (T.getD outs.length []).contains := by funext i; exact memB_contains _ i
  rw [hB] at h
  have hS : ∀ e, SV s ds (outs ++ [e]) (T.getD outs.length []).contains = SV s ds outs (T.getD outs.length []).contains := fun e =>
    (SV.pre (fun i hi => by rw [List.getElem?_append_left hi]) (fun i hi => hT i (by simpa using hi))).symm
  have hU : ∀ e x j T'', j < outs.length → (IsU ds (outs ++ [e]) x j T'' ↔ IsU ds outs x j T'') := fun e x j T'' hj => IsU.pre (List.getElem?_append_left hj)
  have hg : ∀ e : AV × Option AV, (outs ++ [e])[outs.length]? = some e := fun e => by simp
  have hno : ∀ x e, noUp x ds outs = true → ∀ k T'', k < outs.length → ¬ IsU ds (outs ++ [e]) x k T'' := fun x e h8 k T'' hk hu => by
    unfold noUp at h8
    rw [Option.isNone_iff_eq_none] at h8
    exact upd_ne (B := fun _ => true) (n := 0) ((hU _ _ _ _ hk).1 hu) rfl h8
  have hmem : ∀ {r c : Nat}, wh r ds 0 = some c → some r ∈ ds := fun e => List.mem_of_getElem? (wh_some e).2
  have hbase : ∀ st f r, wh r ds 0 = none → (base1 s st f).m r = match s.m r with | some _ => st.m r | none => none := fun st f r _ => rfl
  unfold dxop at h
  split at h
  · rename_i t x y hd hop hgu
    obtain ⟨d0, op, ty, pos, after, g⟩ := o
    simp only at hd hop hgu
    subst hd; subst hop; subst hgu
    obtain ⟨st, h1, h2⟩ := xj_store (t := ty) (pos := pos) (after := after) (g := none) h
    unfold dxS at h1
    split at h1
    · refine ⟨_, st, _, fOf_filt _ _ _, h1.2, st, .junk, none, rfl, by rw [hS]; exact h2, hbase _ _, .inr (.inr (.inl ⟨rfl, hg _, fun r c hr hn => ?_⟩))⟩
      rw [hS]; exact sameP_of h1.1 r (hmem hr) (by simp)
    · rename_i x0 l0
      obtain ⟨⟨k1, k2⟩, k3⟩ := h1
      unfold dxL at k3
      split at k3
      · rename_i Ts hTs
        obtain ⟨m1, m2⟩ := getMs_spec hTs
        refine ⟨_, st, _, fOf_filt _ _ _, k3, st, .junk, none, rfl, by rw [hS]; exact h2, hbase _ _, .inr (.inr (.inr (.inr ⟨x0 :: l0, Ts, rfl, by rw [hg, ptrsC_eq], fun x hx => ⟨by rw [hS]; exact (allUp_mem k2 x hx).1, m1 x hx⟩, fun x T' hx => ?_, fun r c hr hrx hn => ?_⟩)))⟩
        · obtain ⟨n1, n2⟩ := m2 x T' hx
          obtain ⟨_, n3, n4⟩ := allUp_mem k2 x n1
          exact ⟨n1, n2, n3, hno _ _ n4⟩
        · rw [hS]; exact sameP_of k1 r (hmem hr) hrx
      · exact k3.elim
  · rename_i d x y t t' hd hop hgu
    obtain ⟨d0, op, ty, pos, after, g⟩ := o
    simp only at hd hop hgu
    subst hd; subst hop; subst hgu
    obtain ⟨⟨hn, rfl⟩, h⟩ := h
    obtain ⟨st, Tn, h1, h2, h3⟩ := xj_app (t := ty) (pos := pos) (after := after) (g := none) hn h
    unfold dxA at h1
    split at h1
    · obtain ⟨⟨k1, k2, k3⟩, k4⟩ := h1
      refine ⟨_, st, _, idF_filt, k4, st, st.t d, some Tn, rfl, by rw [hS]; exact h3, hbase _ _, .inl ⟨d, rfl, k1, by rw [hg, h2], k2, fun r c hr hrd hn => ?_⟩⟩
      rw [hS]; exact sameP_of k3 r (hmem hr) (by simpa using hrd)
    · rename_i x0
      obtain ⟨⟨k1, k2, k3, k4, k5, k6, k7⟩, k8⟩ := h1
      refine ⟨_, st, _, idF_filt, k8, st, st.t d, some Tn, rfl, by rw [hS]; exact h3, hbase _ _, .inr (.inl ⟨d, x0, Tn, rfl, k1, rfl, by rw [hg, h2], k3, by rw [hS]; exact k4, k5, k6, hno _ _ k7, fun r c hr hrd hrx hn => ?_⟩)⟩
      rw [hS]; exact sameP_of k2 r (hmem hr) (by simp; exact ⟨hrd, hrx⟩)
    · exact h1.elim
  · exact h.elim
theorem XOk.ext {E : Env} {T : List (List Nat)} {s s1 : ASt} {ds : List (Option Tmp)} {outs outs' : List (AV × Option AV)} {f : Nat → List Nat → Option (Nat × List Nat)} {k : Nat} {o : Oper} (he : ∀ i, i ≤ k → outs[i]? = outs'[i]?) (hT : ∀ j ∈ T.getD k [], j < k) (hk : k < outs.length)
    (h : XOk E T s s1 ds outs f k o) : XOk E T s s1 ds outs' f k o := by
  have hS : SV s ds outs (T.getD k []).contains = SV s ds outs' (T.getD k []).contains := by
    have h1 : SV s ds (outs.take (k + 1)) (T.getD k []).contains = SV s ds outs (T.getD k []).contains :=
      SV.pre (fun i hi => by rw [List.getElem?_take]; rw [List.length_take] at hi; rw [if_pos (by omega)]) (fun i hi => by
        have := hT i (by simpa using hi); rw [List.length_take]; omega)
    have h2 : SV s ds (outs.take (k + 1)) (T.getD k []).contains = SV s ds outs' (T.getD k []).contains :=
      SV.pre (fun i hi => by rw [List.length_take] at hi; rw [List.getElem?_take, if_pos (by omega)]; exact (he i (by omega)).symm) (fun i hi => by
        have := hT i (by simpa using hi); rw [List.length_take]; omega)
    exact h1.symm.trans h2
  have hU : ∀ x, (∀ j T'', j < k → ¬ IsU ds outs x j T'') → ∀ j T'', j < k → ¬ IsU ds outs' x j T'' := fun x h j T'' hj hu => h j T'' hj ((IsU.pre (he j (by omega))).2 hu)
  obtain ⟨s2, v, mo, h1, h2, h3, h4⟩ := h
  rw [hS] at h2
  rw [hS, he k (Nat.le_refl _)] at h4
  refine ⟨s2, v, mo, h1, h2, h3, ?_⟩
  rcases h4 with h | ⟨d, x, Tn, a1, a2, a3, a4, a5, a6, a7, a8, a9, a10⟩ | h | ⟨x, T', a1, a2, a3, a4, a5, a6, a7⟩ | ⟨xs, Ts, a1, a2, a3, a4, a5⟩
  · exact .inl h
  · exact .inr (.inl ⟨d, x, Tn, a1, a2, a3, a4, a5, a6, a7, a8, hU x a9, a10⟩)
  · exact .inr (.inr (.inl h))
  · exact .inr (.inr (.inr (.inl ⟨x, T', a1, a2, a3, a4, a5, hU x a6, a7⟩)))
  · exact .inr (.inr (.inr (.inr ⟨xs, Ts, a1, a2, a3, fun x T' hx => ⟨(a4 x T' hx).1, (a4 x T' hx).2.1, (a4 x T' hx).2.2.1, hU x (a4 x T' hx).2.2.2⟩, a5⟩)))
/-- A region whose order is drawn, in which operation 'ix' turns what was there before; 'mk': the region made here that it turns as well. -/
theorem aw_drawnX {E : Env} {id : Nat} {l : List Oper} {K : AX → ASt → Prop} {s : ASt} (hm : E.P.follows .mixedOrders = true) (T : List (List Nat)) (q ix : Nat) (mk : List Nat) (hc : (chk l T q E.nt && decide (ix < q)) = true)
    (h : dqX E (l.map (·.dst)) T s ((l.take q).map (·.dst)) ix mk (sq E (l.map (·.dst)) (l.drop q) (K .nm)) (l.take q)) : aw E (.region id l.toArray true) K s := by
  simp only [Bool.and_eq_true, decide_eq_true_eq] at hc
  obtain ⟨hc, hix⟩ := hc
  obtain ⟨hq, hspec, hdist⟩ := chk_spec hc
  have hTlt : ∀ i, ∀ j ∈ T.getD i [], i < l.length → j < i := fun i j hj hi =>
    (closedT hc (fun _ => True) (fun _ _ _ _ _ _ _ => trivial) (i + 1) i l[i] (by omega) (List.getElem?_eq_getElem hi) (fun _ _ _ => trivial) j hj).2
  have hd : l.map (·.dst) = l.toArray.toList.map (·.dst) := by simp
  unfold dqX at h
  rw [hd] at h
  have hlt : ((l.take q).take ix).length = ix := by rw [List.length_take, List.length_take]; omega
  obtain ⟨outsA, e1, _, hA, hoA⟩ := dqA_sound h (fun i _ hi j hj => hTlt i j hj (by rw [hlt] at hi; simp at hi; omega))
  simp only [List.length_nil, Nat.zero_add, hlt] at e1 hoA
  have hil : ix < l.length := by omega
  have hdr : (l.take q).drop ix = l[ix] :: (l.take q).drop (ix + 1) := by
    rw [List.drop_eq_getElem_cons (by rw [List.length_take]; omega)]; simp
  rw [hdr] at hA
  simp only [dqx2] at hA
  obtain ⟨f, st, e, hf, hK, hX⟩ := dxop_sound (by rw [e1]; exact fun j hj => hTlt ix j hj hil) hA
  rw [e1] at hX
  unfold dqx3 at hK
  obtain ⟨hC, hB⟩ := hK
  have hlB : (outsA ++ [e]).length = ix + 1 := by simp [e1]
  have hlr : ((l.take q).drop (ix + 1)).length = q - (ix + 1) := by rw [List.length_drop, List.length_take]; omega
  obtain ⟨outs, f1, f2, ⟨hfix, htail⟩, hoB⟩ := dqB_sound hB (fun i _ hi j hj => hTlt i j hj (by rw [hlB, hlr] at hi; omega))
  rw [hlB, hlr] at f1
  rw [hlB] at f2 hoB
  have hoA' : ∀ i, i < ix → outs[i]? = outsA[i]? := fun i hi => by rw [f2 i (by omega), List.getElem?_append_left (by omega)]
  have hget : ∀ i o, (l.take q)[i]? = some o → i < q ∧ l[i]? = some o := fun i o ho => by
    rw [List.getElem?_take] at ho
    split at ho
    · rename_i hi; exact ⟨hi, ho⟩
    · cases ho
  have hgA : ∀ i o, i < ix → l[i]? = some o → ((l.take q).take ix)[i]? = some o := fun i o hi ho => by
    rw [List.getElem?_take, if_pos hi, List.getElem?_take, if_pos (by omega)]; exact ho
  refine AWP.drawnX (s1 := base1 s st f) (ds := (l.take q).map (·.dst)) (outs := outs) (f := f) hm T q ix hc hix (by omega) rfl (sq_sound (by rw [hd] at htail; exact htail)) (fun i o ho hi hT => ?_) (fun i o ho hi hT => ?_) (fun o ho => ?_) hf (fun _ => rfl) (fun j e' he hj hT => ?_)
  · obtain ⟨hiq, ho'⟩ := hget i o ho
    rcases Nat.lt_or_ge i ix with hlt | hge
    · have := hoA i o (hgA i o hlt ho')
      exact OutOk.ext (fun k hk => (hoA' k (by omega)).symm) (fun j hj => hTlt i j hj (by omega)) (by omega) this
    · have := (hoB (i - (ix + 1)) o (by rw [List.getElem?_drop, show ix + 1 + (i - (ix + 1)) = i by omega]; exact ho)).2
      rw [show ix + 1 + (i - (ix + 1)) = i by omega] at this
      exact this hT
  · obtain ⟨hiq, ho'⟩ := hget i o ho
    rcases Nat.lt_or_ge i ix with hlt' | hge
    · have := dqC_sound hC (fun i _ hi j hj => hTlt i j hj (by rw [hlt] at hi; omega)) (by rw [hlB, hlt]; omega) i o (hgA i o hlt' ho') (by rw [Nat.zero_add]; exact hT)
      rw [Nat.zero_add] at this
      exact OutOk.ext (fun k hk => (f2 k (by omega)).symm) (fun j hj => hTlt i j hj (by omega)) (by omega) this
    · have := (hoB (i - (ix + 1)) o (by rw [List.getElem?_drop, show ix + 1 + (i - (ix + 1)) = i by omega]; exact ho)).1
      rw [show ix + 1 + (i - (ix + 1)) = i by omega] at this
      exact this
  · have : o = l[ix] := by rw [List.getElem?_eq_getElem hil] at ho; exact (Option.some.inj ho).symm
    subst this
    exact XOk.ext (fun k hk => (f2 k (by omega)).symm) (fun j hj => hTlt ix j hj hil) (by omega) hX
  · have := fixP_sound hfix j e' he (by omega) (by rw [Nat.zero_add]; exact hT)
    exact this
section
variable {E : Env} {K : List (AV × Option AV) → Prop} {s s1 st S : ASt} {da ds : List (Option Tmp)} {T : List (List Nat)} {tail : ASt → Prop} {outs : List (AV × Option AV)} {o : Oper} {rest pre l : List Oper} {ix i r : Nat} {mk : List Nat} {f : Nat → List Nat → Option (Nat × List Nat)} {ex : List Nat}
  {k3 : (Nat → List Nat → Option (Nat × List Nat)) → ASt → List (AV × Option AV) → Prop}
theorem dqX_def : dqX E da T s ds ix mk tail l = dqA E da T s ds (fun outs => dqx2 E da T s ds ix mk tail (l.take ix) outs (l.drop ix)) (l.take ix) [] := nrfl rfl
theorem dqA_nil : dqA E da T s ds K [] outs = K outs := nrfl rfl
theorem dqA_cons : dqA E da T s ds K (o :: rest) outs = dstep E da T ds o outs (dqA E da T s ds K rest) (SV s ds outs (memB (T.getD outs.length []))) := nrfl rfl
theorem dqx2_cons : dqx2 E da T s ds ix mk tail pre outs (o :: rest) = dxop E T ds outs mk o (dqx3 E da T s ds ix tail pre rest) (SV s ds outs (memB (T.getD outs.length []))) := nrfl rfl
theorem dqx3_def : dqx3 E da T s ds ix tail pre rest f st outs = (dqC E da T (base1 s st f) ds ix outs pre 0 ∧ dqB E da T s (base1 s st f) ds ix (fun outs => fixP T ix f outs 0 ∧ tail (SV (base1 s st f) ds outs fun _ => true)) rest outs) := nrfl rfl
theorem dqC_nil : dqC E da T s1 ds ix outs [] i = True := nrfl rfl
theorem dqC_cons : dqC E da T s1 ds ix outs (o :: rest) i = ((if memB (T.getD ix []) i = true then True else dstep E da T ds o (outs.take i) (fun o' => o' = outs.take (i + 1)) (SV s1 ds (outs.take i) (memB (T.getD i [])))) ∧ dqC E da T s1 ds ix outs rest (i + 1)) := nrfl rfl
theorem dqB_nil : dqB E da T s s1 ds ix K [] outs = K outs := nrfl rfl
theorem dqB_cons : dqB E da T s s1 ds ix K (o :: rest) outs = (if memB (T.getD outs.length []) ix = true then dstep E da T ds o outs (dqB E da T s s1 ds ix K rest) (SV s1 ds outs (memB (T.getD outs.length []))) else
      dstep E da T ds o outs (fun outs1 => dstep E da T ds o outs (fun outs2 => outs2 = outs1) (SV s1 ds outs (memB (T.getD outs.length []))) ∧ dqB E da T s s1 ds ix K rest outs1) (SV s ds outs (memB (T.getD outs.length [])))) := nrfl rfl
theorem fixP_nil : fixP T ix f [] i = True := nrfl rfl
theorem fixP_cons {e : AV × Option AV} {l : List (AV × Option AV)} : fixP T ix f (e :: l) i = ((if i = ix then True else if memB (T.getD i []) ix = true then True else (outV e.1).mapRef f = outV e.1) ∧ fixP T ix f l (i + 1)) := nrfl rfl
theorem sameP_nil : sameP S st ex [] = True := nrfl rfl
theorem sameP_none {l : List (Option Tmp)} : sameP S st ex (none :: l) = sameP S st ex l := nrfl rfl
theorem sameP_some {l : List (Option Tmp)} : sameP S st ex (some r :: l) = ((if memB ex r = true then True else st.m r = S.m r) ∧ sameP S st ex l) := nrfl rfl
theorem dxS_none : dxS T ds outs [] S f k3 st = (sameP S st [] ds ∧ k3 f st (outs ++ [(.junk, none)])) := nrfl rfl
theorem dxS_some {x : Nat} {l : List Nat} : dxS T ds outs (x :: l) S f k3 st = ((sameP S st (x :: l) ds ∧ allUp T ds outs S (x :: l)) ∧ dxL f st k3 outs (ptrsC (x :: l)) (getMs st (x :: l))) := nrfl rfl
theorem allUp_nil : allUp T ds outs S [] = True := nrfl rfl
theorem allUp_cons {x : Nat} {l : List Nat} : allUp T ds outs S (x :: l) = (((S.m x).isSome = true ∧ upOk T ds x outs.length = true ∧ noUp x ds outs = true) ∧ allUp T ds outs S l) := nrfl rfl
theorem ptrsC_nil : ptrsC [] = [] := nrfl rfl
theorem ptrsC_cons {x : Nat} {l : List Nat} : ptrsC (x :: l) = .ptr x [] 0 :: ptrsC l := nrfl rfl
theorem getMs_nil : getMs st [] = some [] := nrfl rfl
theorem getMs_cons {x : Nat} {l : List Nat} : getMs st (x :: l) = (match st.m x with
    | some T => (getMs st l).map (T :: ·)
    | none => none) := nrfl rfl
theorem dxL_some {ps Ts : List AV} : dxL f st k3 outs ps (some Ts) = k3 f st (outs ++ [(.tup ps, some (.tup Ts))]) := nrfl rfl
theorem dxA_none {d : Nat} : dxA T ds outs [] S d k3 st = ((okV ds (T.getD outs.length []) outs.length (st.t d) = true ∧ tkV (st.t d) = none ∧ sameP S st [d] ds) ∧ k3 idF st (outs ++ [(st.t d, st.m d)])) := nrfl rfl
theorem dxA_some {d x : Nat} : dxA T ds outs [x] S d k3 st = ((okV ds (T.getD outs.length []) outs.length (st.t d) = true ∧ sameP S st [d, x] ds ∧ x ≠ d ∧ (S.m x).isSome = true ∧ st.m x = some .junk ∧ upOk T ds x outs.length = true ∧ noUp x ds outs = true) ∧ k3 idF st (outs ++ [(tkM (st.t d) x, st.m d)])) := nrfl rfl
theorem dx_store {xt : TypeId} {x y : Operand} {t : TypeId} {pos : String} {after : Array Edge} : dxop E T ds outs mk ⟨none, .store xt x y, t, pos, after, none⟩ k3 S = storeQ E.P xt (S.ev x) (S.ev y) (dxS T ds outs mk S (fOf E.P xt (S.ev x)) k3) S := nrfl rfl
theorem dx_app {d : Tmp} {x y : Operand} {xt xt' t : TypeId} {pos : String} {after : Array Edge} : dxop E T ds outs mk ⟨some d, .call { callee := .builtin .append, args := #[x, y], argTypes := #[xt, xt'] }, t, pos, after, none⟩ k3 S = ((d < E.nt ∧ xt' = xt) ∧ appQ E.P xt (S.ev x) (S.ev y) (dxA T ds outs mk S d k3) S d) := nrfl rfl
theorem base1_t : (base1 s st f).t i = (s.t i).mapRef f := nrfl rfl
theorem base1_m : (base1 s st f).m r = match s.m r with | some _ => st.m r | none => none := nrfl rfl
theorem fOf_ptr {P : Program} {t : TypeId} {p : List Nat} {o : Nat} : fOf P t (.ptr r p o) = killR r p o (szN P t) := nrfl rfl
variable {next : List (AV × Option AV) → Prop}
theorem dst_none {d : Tmp} {op : Op} {t : TypeId} {pos : String} {after : Array Edge} : dstep E da T ds ⟨some d, op, t, pos, after, none⟩ outs next S = dq1 E ⟨some d, op, t, pos, after, none⟩ (dnx T ds outs.length d outs next) S := nrfl rfl
theorem dst_some {d : Tmp} {op : Op} {t : TypeId} {pos : String} {after : Array Edge} {j : Nat} {b : Bool} : dstep E da T ds ⟨some d, op, t, pos, after, some (j, b)⟩ outs next S = match da[j]? with
    | some (some d') => GD E (S.t d') b ⟨some d, op, t, pos, after, some (j, b)⟩ (dnx T ds outs.length d outs next) S
    | _ => False := nrfl rfl
theorem dst_store {xt : TypeId} {x y : Operand} {t : TypeId} {pos : String} {after : Array Edge} : dstep E da T ds ⟨none, .store xt x y, t, pos, after, none⟩ outs next S = dstoreQ E.P xt (S.ev x) (S.ev y) T ds outs next S := nrfl rfl
end

end Go.Av
