/- What an operation does to the state of a call. -/
import Derived.Test.YteohnapehmdgaaaDoorAZzB
set_option linter.unusedSimpArgs false
set_option linter.unusedVariables false
/-! What an operation does to the state of a call. -/
namespace Go.Av

def Heads (ex : List Nat → Prop) (T T' : HT) : Prop := ∀ q M', ¬ ex q → T'.at_ q = some M' → M'.isMem = true → ∃ M, T.at_ q = some M ∧ M.hd = M'.hd

theorem Heads.refl (ex : List Nat → Prop) (T : HT) : Heads ex T T := fun q M' _ h _ => ⟨M', h, rfl⟩
theorem Heads.leaf (ex : List Nat → Prop) (T : HT) (a : AV) (v : Value) : Heads ex T (.leaf a v) := fun q M' _ h hm => by
  cases q with
  | nil => simp only [HT.at_, Option.some.injEq] at h; subst h; simp [HT.isMem] at hm
  | cons i q => simp [HT.at_, HT.kids] at h

theorem Heads.upd : ∀ (p : List Nat) {ex : List Nat → Prop} {T N N' : HT}, T.at_ p = some N → Heads ex N N' → Heads (fun q => ∃ q', q = p ++ q' ∧ ex q') T (T.upd p N')
  | [], ex, T, N, N', hn, h, q, M', hx, hq, hm => by
    simp only [HT.at_, Option.some.injEq] at hn; subst hn
    simp only [HT.upd] at hq
    exact h q M' (fun e => hx ⟨q, rfl, e⟩) hq hm
  | i :: p, ex, T, N, N', hn, h, q, M', hx, hq, hm => by
    simp only [HT.at_] at hn
    split at hn
    · rename_i c hc
      simp only [HT.upd, hc] at hq
      obtain ⟨hi, hc'⟩ := List.getElem?_eq_some_iff.1 hc
      cases q with
      | nil =>
        simp only [HT.at_, Option.some.injEq] at hq
        subst hq
        exact ⟨T, rfl, (HT.withKids_hd hc _).symm⟩
      | cons j q =>
        simp only [HT.at_, HT.withKids_kids hc, List.getElem?_set] at hq
        by_cases hij : i = j
        · subst hij
          simp only [if_true, hi] at hq
          obtain ⟨M, h1, h2⟩ := Heads.upd p hn h q M' (fun ⟨q', e, e'⟩ => hx ⟨q', by simp [e], e'⟩) hq hm
          exact ⟨M, by simp [HT.at_, hc, h1], h2⟩
        · simp only [hij, if_false] at hq
          exact ⟨M', by simpa only [HT.at_] using hq, rfl⟩
    · cases hn

def updF (M : Nat → Option HT) (r : Nat) (T : Option HT) : Nat → Option HT := fun q => if q = r then T else M q

/-- A new region. -/
theorem RelX.new {E : Env} {M : Nat → Option HT} {G G' : Nat → Prop} {s : ASt} {a : Act} {w w' : World} (h : RelX E M G s a w) {d : Nat} (hd : d < E.nt) {v : AV} {u : Value} {T : HT}
    (hw : Ext (fun _ => False) w w') (hGG : ∀ x, G x → G' x) (hG' : ∀ x, G' x → G x ∨ (w.heap.size ≤ x ∧ x < w'.heap.size)) (hT : Sat w' G' T) (hnd : T.blocks.Nodup)
    (hb : ∀ x ∈ T.blocks, w.heap.size ≤ x ∧ x < w'.heap.size ∧ ¬ G' x) (hv : VR w' G' (updF M d (some T)) v u) :
    RelX E (updF M d (some T)) G' (s.new d v T.erase) (a.put (some d) u) w' := by
  have hbl : ∀ b, b < w.heap.size → w'.heap[b]? = w.heap[b]? := fun b hb => hw.block b hb (fun h => h)
  refine ⟨fun r => ?_, fun r T' hT' => ?_, fun r T' hT' => ?_, fun r r' T1 T2 hr h1 h2 x hx hx' => ?_, fun r T' hT' x hx => ?_, fun x hx => ?_, fun x hx => hGG x (h.g0 x hx), fun i => ?_, ?_, h.df, ?_, h.n1, fun r v hv => ?_⟩
  · simp only [ASt.new, updF]
    split
    · rfl
    · exact h.er r
  · simp only [updF] at hT'
    split at hT'
    · cases hT'; exact hT
    · exact (h.sat r T' hT').congr (fun b hx => hbl b (h.own r T' hT' b hx).1) (fun b hx => hbl b (h.gd b hx).1) hGG
  · simp only [updF] at hT'
    split at hT'
    · cases hT'; exact hnd
    · exact h.nd r T' hT'
  · simp only [updF] at h1 h2
    split at h1 <;> split at h2
    · omega
    · cases h1; have := (hb x hx).1; have := (h.own r' T2 h2 x hx').1; omega
    · cases h2; have := (hb x hx').1; have := (h.own r T1 h1 x hx).1; omega
    · exact h.dj r r' T1 T2 hr h1 h2 x hx hx'
  · simp only [updF] at hT'
    split at hT'
    · cases hT'
      obtain ⟨h1, h2, h3⟩ := hb x hx
      exact ⟨h2, h3, .inl (Nat.le_trans h.ext.size h1)⟩
    · obtain ⟨h1, h2, h3⟩ := h.own r T' hT' x hx
      exact ⟨Nat.lt_of_lt_of_le h1 hw.size, fun hg => (hG' x hg).elim h2 (fun h4 => by omega), h3⟩
  · rcases hG' x hx with hg | ⟨h1, h2⟩
    · obtain ⟨h1, h2⟩ := h.gd x hg
      exact ⟨Nat.lt_of_lt_of_le h1 hw.size, h2⟩
    · exact ⟨h2, .inr (Nat.le_trans h.ext.size h1)⟩
  · rw [put_getD a d i u (by rw [h.nt]; exact hd)]
    simp only [ASt.new]
    split
    · exact hv
    · refine ((h.sl i).congr (fun b hx => hbl b (h.gd b hx).1) hGG).mapRef (fun r p r' p' hf T' N' hT' hN' hm => ?_)
      simp only [killF] at hf
      split at hf
      · cases hf
      · rename_i hk
        simp only [Option.some.injEq, Prod.mk.injEq] at hf
        obtain ⟨rfl, rfl⟩ := hf
        have hrd : r ≠ d := fun e => hk ⟨e, by simp⟩
        simp only [updF, hrd, if_false] at hT'
        exact ⟨T', N', hT', hN', rfl⟩
  · exact h.ext.trans hw (fun i _ hi => hi.elim)
  · simp [put_some, h.nt]
  · obtain ⟨h1, T', h2, h3⟩ := h.pv r v hv
    have := h.n1
    exact ⟨h1, T', by simp only [updF]; rw [if_neg (by omega)]; exact h2, h3⟩

/-- What lies at a place is put anew, under the same head. -/
theorem RelX.write {E : Env} {M : Nat → Option HT} {G : Nat → Prop} {s : ASt} {a : Act} {w w' : World} (h : RelX E M G s a w) {r : Nat} {p : List Nat} {T N N' : HT} (hr : M r = some T) (hp : T.at_ p = some N)
    (hv : N'.value = N.value) (hh : Heads (fun _ => False) N N') (hw : Ext (fun x => x ∈ N.blocks) w w') (hs : Sat w' G N') (hnd : N'.blocks.Nodup)
    (hb : ∀ x ∈ N'.blocks, x ∈ N.blocks ∨ ((∀ r T, M r = some T → x ∉ T.blocks) ∧ x < w.heap.size ∧ ¬ G x ∧ (E.w0.heap.size ≤ x ∨ E.X x))) :
    RelX E (updF M r (some (T.upd p N'))) G (s.updM r p N'.erase) a w' := by
  have hN := at_blocks p hp
  have hsT := h.sat r T hr
  have hndT := h.nd r T hr
  have hG : ∀ b, G b → w'.heap[b]? = w.heap[b]? := fun b hg => hw.block b (h.gd b hg).1 (fun hx => (h.own r T hr b (hN b hx)).2.1 hg)
  have hmem := mem_blocks_upd p (N' := N') hp hndT
  refine ⟨fun q => ?_, fun q T' hT' => ?_, fun q T' hT' => ?_, fun q q' T1 T2 hq h1 h2 x hx hx' => ?_, fun q T' hT' x hx => ?_, fun x hx => ?_, h.g0, fun i => ?_, ?_, h.df, h.nt, h.n1, fun q v hv' => ?_⟩
  · simp only [ASt.updM, updF]
    split
    · rename_i e; subst e
      simp only [h.er, hr, Option.map_some]
      rw [erase_upd p hsT hp]
    · exact h.er q
  · simp only [updF] at hT'
    split at hT'
    · rename_i e; subst e
      cases hT'
      exact Sat.upd hG (fun _ hg => hg) p hsT hp hndT hv hs (fun b hb1 hb2 => hw.block b (h.own q T hr b hb1).1 hb2)
    · rename_i e
      exact (h.sat q T' hT').congr (fun b hx => hw.block b (h.own q T' hT' b hx).1 (fun hx' => h.dj q r T' T e hT' hr b hx (hN b hx'))) hG (fun _ hg => hg)
  · simp only [updF] at hT'
    split at hT'
    · cases hT'
      exact nodup_upd p hp hndT hnd (fun x hx hxT => (hb x hx).elim id (fun hf => absurd hxT (hf.1 r T hr)))
    · exact h.nd q T' hT'
  · have key : ∀ T3 q3, q3 ≠ r → M q3 = some T3 → ∀ y, y ∈ (T.upd p N').blocks → y ∉ T3.blocks := fun T3 q3 hq3 h3 y hy hy3 => by
      rcases hmem y hy with h4 | ⟨h4, _⟩
      · rcases hb y h4 with h5 | h5
        · exact h.dj r q3 T T3 (Ne.symm hq3) hr h3 y (hN y h5) hy3
        · exact h5.1 q3 T3 h3 hy3
      · exact h.dj r q3 T T3 (Ne.symm hq3) hr h3 y h4 hy3
    simp only [updF] at h1 h2
    split at h1 <;> split at h2
    · omega
    · cases h1; exact key T2 q' (by assumption) h2 x hx hx'
    · cases h2; exact key T1 q (by assumption) h1 x hx' hx
    · exact h.dj q q' T1 T2 hq h1 h2 x hx hx'
  · simp only [updF] at hT'
    split at hT'
    · cases hT'
      have : x ∈ T.blocks ∨ (x < w.heap.size ∧ ¬ G x ∧ (E.w0.heap.size ≤ x ∨ E.X x)) := by
        rcases hmem x hx with h4 | ⟨h4, _⟩
        · rcases hb x h4 with h5 | h5
          · exact .inl (hN x h5)
          · exact .inr h5.2
        · exact .inl h4
      rcases this with h4 | ⟨h5, h6, h7⟩
      · obtain ⟨h5, h6, h7⟩ := h.own r T hr x h4
        exact ⟨Nat.lt_of_lt_of_le h5 hw.size, h6, h7⟩
      · exact ⟨Nat.lt_of_lt_of_le h5 hw.size, h6, h7⟩
    · obtain ⟨h5, h6, h7⟩ := h.own q T' hT' x hx
      exact ⟨Nat.lt_of_lt_of_le h5 hw.size, h6, h7⟩
  · obtain ⟨h1, h2⟩ := h.gd x hx
    exact ⟨Nat.lt_of_lt_of_le h1 hw.size, h2⟩
  · refine ((h.sl i).congr hG (fun _ hg => hg)).heads (fun q p' T' M' hT' hM' hm => ?_)
    simp only [updF] at hT'
    split at hT'
    · rename_i e; subst e; cases hT'
      obtain ⟨M1, h1, h2⟩ := Heads.upd p hp hh p' M' (by simp) hM' hm
      exact ⟨T, M1, hr, h1, h2⟩
    · exact ⟨T', M', hT', hM', rfl⟩
  · exact h.ext.trans hw (fun i hi hx => (h.own r T hr i (hN i hx)).2.2.resolve_left (by omega))
  · obtain ⟨h1, T', h2, h3⟩ := h.pv q v hv'
    by_cases e : q = r
    · subst e
      rw [hr] at h2; cases h2
      exact ⟨h1, T.upd p N', by simp [updF], (value_upd p hp hv).trans h3⟩
    · exact ⟨h1, T', by simp only [updF, e, if_false]; exact h2, h3⟩

/-- What lies at a place is taken away from it. -/
theorem RelX.take {E : Env} {M : Nat → Option HT} {G : Nat → Prop} {s : ASt} {a : Act} {w : World} (h : RelX E M G s a w) {r : Nat} {p : List Nat} {T N : HT} (hr : M r = some T) (hp : T.at_ p = some N) :
    RelX E (updF M r (some (T.upd p (.leaf .junk N.value)))) G (s.updM r p .junk) a w ∧ Sat w G N ∧ N.blocks.Nodup ∧
      (∀ x ∈ N.blocks, (∀ q T', updF M r (some (T.upd p (.leaf .junk N.value))) q = some T' → x ∉ T'.blocks) ∧ x < w.heap.size ∧ ¬ G x ∧ (E.w0.heap.size ≤ x ∨ E.X x)) := by
  have hN := at_blocks p hp
  have hndT := h.nd r T hr
  have hnd : N.blocks.Nodup := by
    have key : ∀ (p : List Nat) (T N : HT), T.at_ p = some N → T.blocks.Nodup → N.blocks.Nodup := by
      intro p
      induction p with
      | nil => intro T N hn hd; simp only [HT.at_, Option.some.injEq] at hn; exact hn ▸ hd
      | cons i p ih =>
        intro T N hn hd
        simp only [HT.at_] at hn
        split at hn
        · rename_i c hc
          obtain ⟨e1, _⟩ := flatMap_set HT.blocks T.kids i c c hc
          rw [HT.blocks_kids, e1] at hd
          simp only [List.nodup_append] at hd
          exact ih c N hn hd.2.1.2.1.1
        · cases hn
    exact key p T N hp hndT
  refine ⟨h.write hr hp rfl (Heads.leaf _ _ _ _) (Ext.refl _ _) (.leaf _ _ rfl (.junk _)) (by simp [HT.blocks]) (by simp [HT.blocks]), (h.sat r T hr).at_ p hp, hnd, fun x hx => ⟨fun q T' hT' hx' => ?_, h.own r T hr x (hN x hx)⟩⟩
  simp only [updF] at hT'
  split at hT'
  · cases hT'
    rcases mem_blocks_upd p hp hndT x hx' with h1 | ⟨_, h1⟩
    · simp [HT.blocks] at h1
    · exact h1 hx
  · rename_i e
    exact h.dj q r T' T e hT' hr x hx' (hN x hx)

/-- Less may be known of a slot. -/
theorem RelX.weak {E : Env} {M : Nat → Option HT} {G : Nat → Prop} {s s' : ASt} {a : Act} {w : World} (h : RelX E M G s a w) (hm : s'.m = s.m) (ht : ∀ i u, VR w G M (s.t i) u → VR w G M (s'.t i) u) : RelX E M G s' a w :=
  ⟨fun r => by rw [hm]; exact h.er r, h.sat, h.nd, h.dj, h.own, h.gd, h.g0, fun i => ht i _ (h.sl i), h.ext, h.df, h.nt, h.n1, h.pv⟩

end Go.Av
