/- What a call gives back, however many results it has; places that were lent to it. -/
import Derived.Test.YtbldpkglmjajlaaBYd
set_option linter.unusedSimpArgs false
set_option linter.unusedVariables false
/-! What a call gives back, however many results it has; places that were lent to it. -/
namespace Go.Av
def regsQ : List AV → Nat → ASt → Prop
  | [], _, _ => True
  | a :: l, r, s => s.m r = some a ∧ regsQ l (r + 1) s
theorem regsQ_at : ∀ {l : List AV} {r : Nat} {s : ASt}, regsQ l r s → ∀ j, j < l.length → s.m (r + j) = l[j]?
  | [], r, s, h, j, hj => by simp at hj
  | a :: l, r, s, h, 0, hj => by simp only [regsQ] at h; simpa using h.1
  | a :: l, r, s, h, j + 1, hj => by
    simp only [regsQ] at h
    have := regsQ_at h.2 j (by simpa using hj)
    rw [show r + (j + 1) = r + 1 + j by omega, this]; simp
theorem regsQ_ok {m' : List AV} {s : ASt} (h : regsQ m' 1000 s) : regsOk m' s := fun j hj => regsQ_at h j hj
def rvQ (P : Program) (s : ASt) (k : List AV → Prop) : List ResultVar → List AV → Prop
  | [], acc => k acc
  | x :: l, acc => match rview P s x with
    | some v => rvQ P s k l (acc ++ [v])
    | none => False
theorem rvQ_spec {P : Program} {s : ASt} {k : List AV → Prop} : ∀ {l : List ResultVar} {acc : List AV}, rvQ P s k l acc → ∃ vs : List AV, vs.length = l.length ∧ k (acc ++ vs) ∧ ∀ (i : Nat) (x : ResultVar), l[i]? = some x → ∃ v, vs[i]? = some v ∧ rview P s x = some v
  | [], acc, h => ⟨[], rfl, by simpa [rvQ] using h, fun i x h => by simp at h⟩
  | x :: l, acc, h => by
    simp only [rvQ] at h
    split at h
    · rename_i v hv
      obtain ⟨vs, h1, h2, h3⟩ := rvQ_spec h
      refine ⟨v :: vs, by simp [h1], by simpa using h2, fun i y hy => ?_⟩
      cases i with
      | zero => simp at hy; subst hy; exact ⟨v, rfl, hv⟩
      | succ i => simpa using h3 i y (by simpa using hy)
    · exact h.elim
theorem mapM_rv {E : Env} {M : Nat → Option HT} {G : Nat → Prop} {s : ASt} {a : Act} {w : World} (hX : RelX E M G s a w) : ∀ (xs : List ResultVar) (vs : List AV), vs.length = xs.length → (∀ (i : Nat) (x : ResultVar), xs[i]? = some x → ∃ v, vs[i]? = some v ∧ rview E.P s x = some v) →
    ∃ us : List Value, (xs.mapM (rvSem a.tmps)).run E.P w = .ok us w ∧ us.length = vs.length ∧ ∀ (i : Nat) (v : AV) (u : Value), vs[i]? = some v → us[i]? = some u → VR w G M v u
  | [], vs, hl, h => by
    have : vs = [] := List.eq_nil_of_length_eq_zero hl
    subst this
    exact ⟨[], by simp, rfl, fun i v u h => by simp at h⟩
  | x :: xs, vs, hl, h => by
    cases vs with
    | nil => simp at hl
    | cons v vs =>
      obtain ⟨v', h1, h2⟩ := h 0 x rfl
      simp only [List.getElem?_cons_zero, Option.some.injEq] at h1
      subst h1
      obtain ⟨u, g1, g2⟩ := rview_val hX h2
      obtain ⟨us, k1, k2, k3⟩ := mapM_rv hX xs vs (by simpa using hl) (fun i y hy => by simpa using h (i + 1) y (by simpa using hy))
      refine ⟨u :: us, by simp [List.mapM_cons, g1, k1], by simp [k2], fun i c z a1 a2 => ?_⟩
      cases i with
      | zero => simp at a1 a2; subst a1; subst a2; exact g2
      | succ i => exact k3 i c z (by simpa using a1) (by simpa using a2)
theorem results_n {fn : Func} {xs : List ResultVar} (hr : fn.results = xs.toArray) (hn : xs.length ≠ 1) {P : Program} {tmps : Array Value} {w : World} {us : List Value} (h : (xs.mapM (rvSem tmps)).run P w = .ok us w) (hl : us.length = xs.length) :
    (results fn tmps).run P w = .ok (.tuple us.toArray) w := by
  rw [results_rv, hr, List.mapM_toArray]
  have : us.toArray.size ≠ 1 := by simpa [hl] using hn
  have h1 : us.length ≠ 1 := by omega
  simp [h, this]
  exact fun e => absurd e h1
theorem ret_pn {E : Env} {fn : Func} {s : ASt} {res : List AV} (xs : List ResultVar) (hr : fn.results = xs.toArray) (hn : xs.length ≠ 1) (h : rvQ E.P s (fun vs => retCs res (closeVs s vs)) xs []) : RetJ E fn (.tup res) s := by
  obtain ⟨vs, h1, h2, h3⟩ := rvQ_spec h
  unfold retCs at h2
  split at h2
  · rename_i As s' hc
    rw [List.nil_append] at hc
    subst h2
    intro M G a w hX
    obtain ⟨us, g1, g2, g3⟩ := mapM_rv hX xs vs h1 h3
    obtain ⟨M', Ts, e1, e2, e3, e4, e5, e6, _⟩ := closeVs_spec vs hc M G a w hX us g2 g3
    refine ⟨.tup Ts, ?_, by simp only [HT.erase, e3], .tup Ts e4, by simpa [HT.blocks] using e5, fun x hx => (e6 x (by simpa [HT.blocks] using hx)).2.2⟩
    simp only [HT.value, e2]
    exact results_n hr hn g1 (by omega)
  · exact h2.elim
def retXCq (res : AV) (m' : List AV) : Option (AV × ASt) → Prop
  | some (A, s') => A = res ∧ regsQ m' 1000 s'
  | none => False
def retXq1 (s : ASt) (res : AV) (m' : List AV) : Option AV → Prop
  | some v => retXCq res m' (closeV s v)
  | none => False
theorem retX_p1 {E : Env} {fn : Func} {res : AV} {m' : List AV} {s : ASt} {x : ResultVar} (hr : fn.results = #[x]) (h : retXq1 s res m' (rview E.P s x)) : RetX E fn res m' s := by
  refine retX_q1 hr ?_
  unfold retXq1 at h
  split at h
  · rename_i v hv
    rw [hv]
    unfold retXCq at h
    split at h
    · rename_i A s' hc
      simp only [retX1, hc, retXC]
      exact ⟨h.1, regsQ_ok h.2⟩
    · exact h.elim
  · exact h.elim
def retXCsq (res : List AV) (m' : List AV) : Option (List AV × ASt) → Prop
  | some (A, s') => A = res ∧ regsQ m' 1000 s'
  | none => False
theorem retX_pn {E : Env} {fn : Func} {s : ASt} {res m' : List AV} (xs : List ResultVar) (hr : fn.results = xs.toArray) (hn : xs.length ≠ 1) (h : rvQ E.P s (fun vs => retXCsq res m' (closeVs s vs)) xs []) : RetX E fn (.tup res) m' s := by
  obtain ⟨vs, h1, h2, h3⟩ := rvQ_spec h
  unfold retXCsq at h2
  split at h2
  · rename_i As s' hc
    rw [List.nil_append] at hc
    obtain ⟨rfl, hm⟩ := h2
    intro M G a w hX
    obtain ⟨us, g1, g2, g3⟩ := mapM_rv hX xs vs h1 h3
    obtain ⟨M', Ts, e1, e2, e3, e4, e5, e6, _⟩ := closeVs_spec vs hc M G a w hX us g2 g3
    refine ⟨.tup Ts, M', s', ?_, by simp only [HT.erase, e3], .tup Ts e4, by simpa only [HT.blocks] using e5, fun x hx => (e6 x (by simpa only [HT.blocks] using hx)).2, e1, regsQ_ok hm⟩
    simp only [HT.value, e2]
    exact results_n hr hn g1 (by omega)
  · exact h2.elim
section
variable {P : Program} {s : ASt} {k : List AV → Prop} {l : List ResultVar} {acc : List AV} {a : AV} {r : Nat} {m' : List AV}
theorem rvQ_nil : rvQ P s k [] acc = k acc := nrfl rfl
theorem rvQ_tmp {t : Nat} : rvQ P s k (.tmp t :: l) acc = rvQ P s k l (acc ++ [s.t t]) := nrfl rfl
theorem rvQ_cell {t : Nat} {ty : TypeId} : rvQ P s k (.cell t ty :: l) acc = (match viewOf P ty s (s.t t) with
    | some v => rvQ P s k l (acc ++ [v])
    | none => False) := nrfl rfl
theorem regsQ_nil : regsQ [] r s = True := nrfl rfl
theorem regsQ_cons : regsQ (a :: m') r s = (s.m r = some a ∧ regsQ m' (r + 1) s) := nrfl rfl
end
end Go.Av
