/- Places of the caller's own memory, lent to a callee that changes what lies there. -/
import Derived.Test.YteohnapehmdgaaaDoorAZzT
set_option linter.unusedSimpArgs false
set_option linter.unusedVariables false
/-! Places of the caller's own memory, lent to a callee that changes what lies there. -/
namespace Go.Av

/-- Refs strictly under a lent place go. -/
def swapF (rep : Nat → Option (List Nat)) : Nat → List Nat → Option (Nat × List Nat) := fun r p' => match rep r with
  | some p => if p.isPrefixOf p' = true ∧ p ≠ p' then none else some (r, p')
  | none => some (r, p')
def swapM (M : Nat → Option HT) (rep : Nat → Option (List Nat)) (new : Nat → HT) : Nat → Option HT := fun r => match rep r with
  | some p => (M r).map (·.upd p (new r))
  | none => M r
def ASt.swap (s : ASt) (rep : Nat → Option (List Nat)) (new : Nat → AV) : ASt := ⟨fun i => (s.t i).mapRef (swapF rep), fun r => match rep r with
  | some p => (s.m r).map (·.upd p (new r))
  | none => s.m r⟩

theorem at_upd_self : ∀ (p : List Nat) {T N N' : HT}, T.at_ p = some N → (T.upd p N').at_ p = some N'
  | [], T, N, N', h => by simp [HT.upd, HT.at_]
  | i :: p, T, N, N', h => by
    simp only [HT.at_] at h
    split at h
    · rename_i c hc
      obtain ⟨hi, hc'⟩ := List.getElem?_eq_some_iff.1 hc
      simp only [HT.upd, hc, HT.at_, HT.withKids_kids hc, List.getElem?_set]
      simp only [hi, if_true]
      exact at_upd_self p h
    · cases h

theorem RelX.swap {E : Env} {M : Nat → Option HT} {G G' : Nat → Prop} {s : ASt} {a : Act} {w w' : World} (h : RelX E M G s a w) (rep : Nat → Option (List Nat)) (old new : Nat → HT) (L : Nat → Prop)
    (hrep : ∀ r p, rep r = some p → ∃ T, M r = some T ∧ T.at_ p = some (old r) ∧ (new r).value = (old r).value ∧ ((new r).isMem = true → (new r).hd = (old r).hd) ∧ Sat w' G' (new r) ∧ (new r).blocks.Nodup)
    (hL : ∀ x, L x → ∃ r p, rep r = some p ∧ x ∈ (old r).blocks) (hL' : ∀ r p, rep r = some p → ∀ x ∈ (old r).blocks, L x) (hw : Ext L w w')
    (hb : ∀ r p, rep r = some p → ∀ x ∈ (new r).blocks, (L x ∨ w.heap.size ≤ x) ∧ x < w'.heap.size ∧ ¬ G' x)
    (hdj : ∀ r r' p p', r ≠ r' → rep r = some p → rep r' = some p' → ∀ x ∈ (new r).blocks, x ∉ (new r').blocks)
    (hGG : ∀ x, G x → G' x) (hG' : ∀ x, G' x → G x ∨ (w.heap.size ≤ x ∧ x < w'.heap.size)) :
    RelX E (swapM M rep new) G' (s.swap rep (fun r => (new r).erase)) a w' := by
  have hLM : ∀ x, L x → ∃ r p T, rep r = some p ∧ M r = some T ∧ x ∈ (old r).blocks ∧ x ∈ T.blocks := fun x hx => by
    obtain ⟨r, p, h1, h2⟩ := hL x hx
    obtain ⟨T, h3, h4, _⟩ := hrep r p h1
    exact ⟨r, p, T, h1, h3, h2, at_blocks p h4 x h2⟩
  have hLX : ∀ x, L x → x < w.heap.size ∧ ¬ G x ∧ (E.w0.heap.size ≤ x ∨ E.X x) := fun x hx => by
    obtain ⟨r, p, T, h1, h2, h3, h4⟩ := hLM x hx
    exact h.own r T h2 x h4
  have hGb : ∀ b, G b → w'.heap[b]? = w.heap[b]? := fun b hg => hw.block b (h.gd b hg).1 (fun hx => (hLX b hx).2.1 hg)
  -- a block of a region that is lent lies in what is lent of that region
  have hin : ∀ r p T x, rep r = some p → M r = some T → L x → x ∈ T.blocks → x ∈ (old r).blocks := fun r p T x h1 h2 h3 h4 => by
    obtain ⟨r', p', T', k1, k2, k3, k4⟩ := hLM x h3
    by_cases e : r = r'
    · subst e; exact k3
    · exact absurd k4 (h.dj r r' T T' e h2 k2 x h4)
  have hout : ∀ r T x, rep r = none → M r = some T → x ∈ T.blocks → ¬ L x := fun r T x h1 h2 h3 h4 => by
    obtain ⟨r', p', T', k1, k2, k3, k4⟩ := hLM x h4
    by_cases e : r = r'
    · subst e; rw [h1] at k1; cases k1
    · exact h.dj r r' T T' e h2 k2 x h3 k4
  -- what a region is now
  have hM : ∀ r T', swapM M rep new r = some T' → (rep r = none ∧ M r = some T') ∨ ∃ p T, rep r = some p ∧ M r = some T ∧ T' = T.upd p (new r) := fun r T' hT => by
    unfold swapM at hT
    split at hT
    · rename_i p hp
      obtain ⟨T, h1, _⟩ := hrep r p hp
      rw [h1] at hT
      simp only [Option.map_some, Option.some.injEq] at hT
      exact .inr ⟨p, T, hp, h1, hT.symm⟩
    · rename_i hp
      exact .inl ⟨hp, hT⟩
  have hbl : ∀ r T', swapM M rep new r = some T' → ∀ x ∈ T'.blocks, (∃ p, rep r = some p ∧ x ∈ (new r).blocks) ∨ (∃ T, M r = some T ∧ x ∈ T.blocks ∧ ¬ L x) := fun r T' hT x hx => by
    rcases hM r T' hT with ⟨h1, h2⟩ | ⟨p, T, h1, h2, rfl⟩
    · exact .inr ⟨T', h2, hx, hout r T' x h1 h2 hx⟩
    · obtain ⟨T0, k1, k2, _⟩ := hrep r p h1
      rw [h2] at k1; cases k1
      rcases mem_blocks_upd p k2 (h.nd r T h2) x hx with h4 | ⟨h4, h5⟩
      · exact .inl ⟨p, h1, h4⟩
      · exact .inr ⟨T, h2, h4, fun hl => h5 (hin r p T x h1 h2 hl h4)⟩
  refine ⟨fun r => ?_, fun r T' hT' => ?_, fun r T' hT' => ?_, fun r r' T1 T2 hr h1 h2 x hx hx' => ?_, fun r T' hT' x hx => ?_, fun x hx => ?_, fun x hx => hGG x (h.g0 x hx), fun i => ?_, ?_, h.df, h.nt, h.n1, fun r v hv => ?_⟩
  · simp only [ASt.swap, swapM]
    split
    · rename_i p hp
      obtain ⟨T, h1, h2, _⟩ := hrep r p hp
      rw [h.er, h1]
      simp only [Option.map_some]
      rw [erase_upd p (h.sat r T h1) h2]
    · exact h.er r
  · rcases hM r T' hT' with ⟨h1, h2⟩ | ⟨p, T, h1, h2, rfl⟩
    · exact (h.sat r T' h2).congr (fun b hx => hw.block b (h.own r T' h2 b hx).1 (hout r T' b h1 h2 hx)) hGb hGG
    · obtain ⟨T0, k1, k2, k3, k4, k5, k6⟩ := hrep r p h1
      rw [h2] at k1; cases k1
      exact Sat.upd hGb hGG p (h.sat r T h2) k2 (h.nd r T h2) k3 k5 (fun b hb1 hb2 => hw.block b (h.own r T h2 b hb1).1 (fun hl => hb2 (hin r p T b h1 h2 hl hb1)))
  · rcases hM r T' hT' with ⟨h1, h2⟩ | ⟨p, T, h1, h2, rfl⟩
    · exact h.nd r T' h2
    · obtain ⟨T0, k1, k2, k3, k4, k5, k6⟩ := hrep r p h1
      rw [h2] at k1; cases k1
      refine nodup_upd p k2 (h.nd r T h2) k6 (fun x hx hxT => ?_)
      rcases (hb r p h1 x hx).1 with hl | hl
      · exact hin r p T x h1 h2 hl hxT
      · have := (h.own r T h2 x hxT).1; omega
  · rcases hbl r T1 h1 x hx with ⟨p, k1, k2⟩ | ⟨T, k1, k2, k3⟩ <;> rcases hbl r' T2 h2 x hx' with ⟨p', k1', k2'⟩ | ⟨T', k1', k2', k3'⟩
    · exact hdj r r' p p' hr k1 k1' x k2 k2'
    · rcases (hb r p k1 x k2).1 with hl | hl
      · exact k3' hl
      · have := (h.own r' T' k1' x k2').1; omega
    · rcases (hb r' p' k1' x k2').1 with hl | hl
      · exact k3 hl
      · have := (h.own r T k1 x k2).1; omega
    · exact h.dj r r' T T' hr k1 k1' x k2 k2'
  · rcases hbl r T' hT' x hx with ⟨p, k1, k2⟩ | ⟨T, k1, k2, k3⟩
    · obtain ⟨g1, g2, g3⟩ := hb r p k1 x k2
      refine ⟨g2, g3, ?_⟩
      rcases g1 with hl | hl
      · exact (hLX x hl).2.2
      · exact .inl (Nat.le_trans h.ext.size hl)
    · obtain ⟨g1, g2, g3⟩ := h.own r T k1 x k2
      exact ⟨Nat.lt_of_lt_of_le g1 hw.size, fun hg => (hG' x hg).elim g2 (fun h4 => by omega), g3⟩
  · rcases hG' x hx with hg | ⟨h1, h2⟩
    · obtain ⟨h1, h2⟩ := h.gd x hg
      exact ⟨Nat.lt_of_lt_of_le h1 hw.size, h2⟩
    · exact ⟨h2, .inr (Nat.le_trans h.ext.size h1)⟩
  · simp only [ASt.swap]
    refine ((h.sl i).congr hGb hGG).mapRef (fun r p r' p' hf T' N' hT' hN' hm => ?_)
    simp only [swapF] at hf
    rcases hM _ T' hT' with ⟨h1, h2⟩ | ⟨p0, T, h1, h2, rfl⟩
    · cases hr : rep r with
      | none =>
        rw [hr] at hf
        simp only [Option.some.injEq, Prod.mk.injEq] at hf
        obtain ⟨rfl, rfl⟩ := hf
        exact ⟨T', N', h2, hN', rfl⟩
      | some p0 =>
        rw [hr] at hf
        simp only at hf
        split at hf
        · cases hf
        · simp only [Option.some.injEq, Prod.mk.injEq] at hf
          obtain ⟨rfl, rfl⟩ := hf
          rw [h1] at hr; cases hr
    · cases hr : rep r with
      | none =>
        rw [hr] at hf
        simp only [Option.some.injEq, Prod.mk.injEq] at hf
        obtain ⟨rfl, rfl⟩ := hf
        rw [h1] at hr; cases hr
      | some p1 =>
        rw [hr] at hf
        simp only at hf
        split at hf
        · cases hf
        · rename_i hk
          simp only [Option.some.injEq, Prod.mk.injEq] at hf
          obtain ⟨rfl, rfl⟩ := hf
          rw [h1] at hr
          simp only [Option.some.injEq] at hr
          subst hr
          obtain ⟨T0, k1, k2, k3, k4, k5, k6⟩ := hrep r p0 h1
          rw [h2] at k1; cases k1
          by_cases hpe : p0 = p
          · subst hpe
            rw [at_upd_self p0 k2] at hN'
            simp only [Option.some.injEq] at hN'
            subst hN'
            exact ⟨T, _, h2, k2, (k4 hm).symm⟩
          · have hnp : p0.isPrefixOf p ≠ true := fun e => hk ⟨e, hpe⟩
            have := Heads.upd p0 k2 (ex := fun _ => True) (fun q M' hx _ _ => absurd trivial hx) (N' := new r)
            obtain ⟨N, n1, n2⟩ := this p N' (fun ⟨q', e, _⟩ => hnp (by rw [e]; exact List.isPrefixOf_iff_prefix.2 ⟨q', rfl⟩)) hN' hm
            exact ⟨T, N, h2, n1, n2⟩
  · exact h.ext.trans hw (fun i hi hx => (hLX i hx).2.2.resolve_left (by omega))
  · obtain ⟨h1, T, h2, h3⟩ := h.pv r v hv
    refine ⟨h1, ?_⟩
    cases hr : rep r with
    | none => exact ⟨T, by simp only [swapM, hr]; exact h2, h3⟩
    | some p =>
      obtain ⟨T0, k1, k2, k3, _⟩ := hrep r p hr
      rw [h2] at k1; cases k1
      exact ⟨T.upd p (new r), by simp only [swapM, hr, h2, Option.map_some], by rw [value_upd p k2 k3]; exact h3⟩

/-! ### The call -/
def renP (pl : List (Nat × List Nat)) : Nat → List Nat → Option (Nat × List Nat) := fun r p => if 1000 ≤ r then (match pl[r - 1000]? with
  | some (q, p0) => some (q, p0 ++ p)
  | none => none) else none
def repP : List (Nat × List Nat) → Nat → Option (List Nat)
  | [], _ => none
  | (q, p) :: l, r => if r = q then some p else repP l r
def newP : List (Nat × List Nat) → List HT → Nat → HT
  | (q, _) :: l, K :: Ks, r => if r = q then K else newP l Ks r
  | _, _, _ => .leaf .junk undef
def newA : List (Nat × List Nat) → List AV → Nat → AV
  | (q, _) :: l, K :: Ks, r => if r = q then K else newA l Ks r
  | _, _, _ => .junk
def lentOk (s : ASt) : List (Nat × List Nat) → List AV → Prop
  | [], [] => True
  | (r, p) :: pl, A :: m => nodeOf s r p = some A ∧ lentOk s pl m
  | _, _ => False
def hdOk : AV → AV → Bool
  | .row true sz n _, .row true sz' n' _ => decide (sz = sz') && decide (n = n')
  | .box true _, .box true _ => true
  | _, .junk => true
  | _, _ => false
def hdsOk : List AV → List AV → Bool
  | [], [] => true
  | a :: l, b :: k => hdOk a b && hdsOk l k
  | _, _ => false

section
variable {E : Env} {s : ASt} {d : Nat} {x y : Operand} {t xt : TypeId} {pos : String} {after : Array Edge} {g : Option (Nat × Bool)} {R : ASt → Prop}
end
end Go.Av
