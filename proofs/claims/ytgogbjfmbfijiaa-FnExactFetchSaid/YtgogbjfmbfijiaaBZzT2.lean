/- Own memory lent to a callee, in a region whose order is drawn. -/
import Derived.Test.YtgogbjfmbfijiaaBZzV
set_option linter.unusedSimpArgs false
set_option linter.unusedVariables false
/-! Own memory lent to a callee, in a region whose order is drawn. -/
namespace Go.Av
theorem Le.node' {s s' : ASt} (h : Le s s') {r : Nat} {p : List Nat} {A : AV} (hA : nodeOf s r p = some A) : nodeOf s' r p = some A := by
  unfold nodeOf at hA ⊢
  cases hm : s.m r with
  | none => simp [hm] at hA
  | some T => rw [h.m r T hm]; rw [hm] at hA; exact hA
mutual
theorem borrow_le {s s' : ASt} (h : Le s s') : ∀ (v A : AV), borrowV s v = some A → borrowV s' v = some A
  | .lit v, A, hA => by simpa [borrowV] using hA
  | .row false sz n cs, A, hA => by simpa [borrowV] using hA
  | .row true sz n cs, A, hA => by simp [borrowV] at hA
  | .box false cs, A, hA => by simpa [borrowV] using hA
  | .box true cs, A, hA => by simp [borrowV] at hA
  | .fn f cs, A, hA => by
    simp only [borrowV] at hA ⊢
    cases hb : borrowVs s cs with
    | none => simp [hb] at hA
    | some Bs => rw [borrows_le h cs Bs hb]; rw [hb] at hA; exact hA
  | .sl r p off len, A, hA => by
    simp only [borrowV] at hA ⊢
    cases hn : nodeOf s r p with
    | none => simp [hn] at hA
    | some N => rw [h.node' hn]; rw [hn] at hA; exact hA
  | .ptr r p o, A, hA => by
    simp only [borrowV] at hA ⊢
    cases hn : nodeOf s r p with
    | none => simp [hn] at hA
    | some N => rw [h.node' hn]; rw [hn] at hA; exact hA
  | .agg cs, A, hA => by
    simp only [borrowV] at hA ⊢
    cases hb : borrowVs s cs with
    | none => simp [hb] at hA
    | some Bs => rw [borrows_le h cs Bs hb]; rw [hb] at hA; exact hA
  | .tup cs, A, hA => by
    simp only [borrowV] at hA ⊢
    cases hb : borrowVs s cs with
    | none => simp [hb] at hA
    | some Bs => rw [borrows_le h cs Bs hb]; rw [hb] at hA; exact hA
  | .junk, A, hA => by simp [borrowV] at hA
theorem borrows_le {s s' : ASt} (h : Le s s') : ∀ (vs As : List AV), borrowVs s vs = some As → borrowVs s' vs = some As
  | [], As, hA => by simpa [borrowVs] using hA
  | v :: vs, As, hA => by
    simp only [borrowVs] at hA ⊢
    cases h1 : borrowV s v with
    | none => simp [h1] at hA
    | some B =>
      cases h2 : borrowVs s vs with
      | none => simp [h1, h2] at hA
      | some Bs => rw [borrow_le h v B h1, borrows_le h vs Bs h2]; rw [h1, h2] at hA; exact hA
end
theorem borrows_ev {s s' : ASt} (h : Le s s') {caps : List AV} : ∀ (xs : List Operand) (As : List AV), borrowVs s (xs.map s.ev ++ caps) = some As → xs.map s'.ev = xs.map s.ev
  | [], _, _ => rfl
  | x :: xs, As, hA => by
    simp only [List.map_cons, List.cons_append, borrowVs] at hA
    cases h1 : borrowV s (s.ev x) with
    | none => simp [h1] at hA
    | some B =>
      cases h2 : borrowVs s (xs.map s.ev ++ caps) with
      | none => simp [h1, h2] at hA
      | some Bs =>
        have : s'.ev x = s.ev x := h.ev rfl (fun e => by rw [e] at h1; simp [borrowV] at h1)
        rw [List.map_cons, List.map_cons, this, borrows_ev h xs Bs h2]
section
variable {E : Env} {s : ASt} {d : Nat} {t : TypeId} {pos : String} {after : Array Edge} {g : Option (Nat × Bool)}
theorem q_lendOwn {fo : Operand} {f : FuncId} {caps : List AV} {xs : List Operand} {ts : Array TypeId} {as : List AV} {res : AV} (hn : d < E.nt) (hf : s.ev fo = .fn f caps) (he : entB E.P f = true) (ha : borrowVs s (xs.map s.ev ++ caps) = some as)
    (hd : Does E.P f as res) (hp : pureV res = true) : QJ E ⟨some d, .call { callee := .value fo, args := xs.toArray, argTypes := ts }, t, pos, after, g⟩ s (openV d [] res) (some res) := by
  intro s' hle a w hr
  have hf' : s'.ev fo = .fn f caps := hle.ev hf (by simp)
  have ha' : borrowVs s' (xs.map s'.ev ++ caps) = some as := by rw [borrows_ev hle xs as ha]; exact borrows_le hle _ _ ha
  have := l_callOwn (R := fun s1 => s1 = s'.new d (openV d [] res) res) (t := t) (pos := pos) (after := after) (g := g) (ts := ts) hn hf' he ha' hd hp rfl a w hr
  exact Oper.wp_mono (fun a' w' ⟨s1, h1, h2⟩ => by subst h2; exact h1) this
theorem q_lendSh {fo : Operand} {f : FuncId} {caps : List AV} {xs : List Operand} {ts : Array TypeId} {as : List AV} {res : AV} (hn : d < E.nt) (hf : s.ev fo = .fn f caps) (he : entB E.P f = true) (ha : borrowVs s (xs.map s.ev ++ caps) = some as)
    (hd : Does E.P f as res) (hp : pureV res = true) : QJ E ⟨some d, .call { callee := .value fo, args := xs.toArray, argTypes := ts }, t, pos, after, g⟩ s res.share none := by
  intro s' hle a w hr
  have hf' : s'.ev fo = .fn f caps := hle.ev hf (by simp)
  have ha' : borrowVs s' (xs.map s'.ev ++ caps) = some as := by rw [borrows_ev hle xs as ha]; exact borrows_le hle _ _ ha
  have := l_callSh (R := fun s1 => s1 = s'.set d res.share) (t := t) (pos := pos) (after := after) (g := g) (ts := ts) hn hf' he ha' hd hp rfl a w hr
  exact Oper.wp_mono (fun a' w' ⟨s1, h1, h2⟩ => by subst h2; exact h1) this
end
section
variable {P : Program} {G0 X : Nat → Prop} {w0 : World} {nt : Nat} {pv : Nat → Option Value} {s : ASt} {d : Nat} {t : TypeId} {pos : String} {after : Array Edge} {g : Option (Nat × Bool)} {fo : Operand} {f : FuncId} {xs : List Operand} {ts : Array TypeId} {as : List AV} {res : AV}
theorem cq_dlend {R : Option AV → ASt → Prop} (hd : Does P f as res) (hf : fnId (s.ev fo) = some f) (he : entB P f = true) (h : (lendQ as (borrowVs s (xs.map s.ev ++ capsOf (s.ev fo))) ∧ d < nt ∧ pureV res = true) ∧ R none (s.set d res.share)) :
    dop ⟨P, G0, X, w0, nt, pv⟩ ⟨some d, .call { callee := .value fo, args := xs.toArray, argTypes := ts }, t, pos, after, g⟩ R s :=
  ⟨d, _, none, rfl, rfl, q_lendSh (E := ⟨P, G0, X, w0, nt, pv⟩) h.1.2.1 (fn_of hf) he (lend_some h.1.1) hd h.1.2.2, h.2⟩
theorem cq_dlendOwn {R : Option AV → ASt → Prop} (hd : Does P f as res) (hf : fnId (s.ev fo) = some f) (he : entB P f = true) (h : (lendQ as (borrowVs s (xs.map s.ev ++ capsOf (s.ev fo))) ∧ d < nt ∧ pureV res = true ∧ moV res = none) ∧ R (some res) (s.new d (openV d [] res) res)) :
    dop ⟨P, G0, X, w0, nt, pv⟩ ⟨some d, .call { callee := .value fo, args := xs.toArray, argTypes := ts }, t, pos, after, g⟩ R s :=
  ⟨d, _, some res, rfl, h.1.2.2.2, q_lendOwn (E := ⟨P, G0, X, w0, nt, pv⟩) h.1.2.1 (fn_of hf) he (lend_some h.1.1) hd h.1.2.2.1, h.2⟩
end
end Go.Av
