/- Trees of the call's own: values put together, taken out, laid down elsewhere. -/
import Derived.Test.YteohnapehmdgaaaDoorAZzZ0
import Derived.Laws.IdiomCopy
import Derived.Test.YteohnapehmdgaaaDoorAZzH
set_option linter.unusedSimpArgs false
set_option linter.unusedVariables false
/-! Trees of the call's own: values put together, taken out, laid down elsewhere. -/
namespace Go.Av

/-- What lies at a place is put anew; slots that name what lay there name nothing any more. -/
theorem RelX.write2 {E : Env} {M : Nat → Option HT} {G : Nat → Prop} {s : ASt} {a : Act} {w w' : World} (h : RelX E M G s a w) {r : Nat} {p : List Nat} {T N N' : HT} (hr : M r = some T) (hp : T.at_ p = some N)
    (hv : N'.value = N.value) (ex : List Nat → Prop) (f : Nat → List Nat → Option (Nat × List Nat)) (hf : ∀ r0 p0 r' p', f r0 p0 = some (r', p') → r' = r0 ∧ p' = p0 ∧ ¬ (r0 = r ∧ ∃ q, p0 = p ++ q ∧ ex q)) (hh : Heads ex N N') (hw : Ext (fun x => x ∈ N.blocks) w w') (hs : Sat w' G N') (hnd : N'.blocks.Nodup)
    (hb : ∀ x ∈ N'.blocks, x ∈ N.blocks ∨ ((∀ r T, M r = some T → x ∉ T.blocks) ∧ x < w.heap.size ∧ ¬ G x ∧ (E.w0.heap.size ≤ x ∨ E.X x))) :
    RelX E (updF M r (some (T.upd p N'))) G ((s.updM r p N'.erase).mapT f) a w' := by
  have hN := at_blocks p hp
  have hsT := h.sat r T hr
  have hndT := h.nd r T hr
  have hG : ∀ b, G b → w'.heap[b]? = w.heap[b]? := fun b hg => hw.block b (h.gd b hg).1 (fun hx => (h.own r T hr b (hN b hx)).2.1 hg)
  have hmem := mem_blocks_upd p (N' := N') hp hndT
  refine ⟨fun q => ?_, fun q T' hT' => ?_, fun q T' hT' => ?_, fun q q' T1 T2 hq h1 h2 x hx hx' => ?_, fun q T' hT' x hx => ?_, fun x hx => ?_, h.g0, fun i => ?_, ?_, h.df, h.nt, h.n1, fun q v hv' => ?_⟩
  · simp only [ASt.mapT, ASt.updM, updF]
    split
    · rename_i e; subst e
      simp only [h.er, hr, Option.map_some]
      rw [erase_upd p hsT hp]
    · exact h.er q
  · simp only [updF] at hT'
    split at hT'
    · rename_i e; subst e
      cases hT'
      exact Sat.upd hG (fun _ hg => hg) p hsT hp hndT hv hs (fun b hb1 hb2 => hw.block b (h.own q T hr b hb1).1 hb2)
    · rename_i e
      exact (h.sat q T' hT').congr (fun b hx => hw.block b (h.own q T' hT' b hx).1 (fun hx' => h.dj q r T' T e hT' hr b hx (hN b hx'))) hG (fun _ hg => hg)
  · simp only [updF] at hT'
    split at hT'
    · cases hT'
      exact nodup_upd p hp hndT hnd (fun x hx hxT => (hb x hx).elim id (fun hf => absurd hxT (hf.1 r T hr)))
    · exact h.nd q T' hT'
  · have key : ∀ T3 q3, q3 ≠ r → M q3 = some T3 → ∀ y, y ∈ (T.upd p N').blocks → y ∉ T3.blocks := fun T3 q3 hq3 h3 y hy hy3 => by
      rcases hmem y hy with h4 | ⟨h4, _⟩
      · rcases hb y h4 with h5 | h5
        · exact h.dj r q3 T T3 (Ne.symm hq3) hr h3 y (hN y h5) hy3
        · exact h5.1 q3 T3 h3 hy3
      · exact h.dj r q3 T T3 (Ne.symm hq3) hr h3 y h4 hy3
    simp only [updF] at h1 h2
    split at h1 <;> split at h2
    · omega
    · cases h1; exact key T2 q' (by assumption) h2 x hx hx'
    · cases h2; exact key T1 q (by assumption) h1 x hx' hx
    · exact h.dj q q' T1 T2 hq h1 h2 x hx hx'
  · simp only [updF] at hT'
    split at hT'
    · cases hT'
      have : x ∈ T.blocks ∨ (x < w.heap.size ∧ ¬ G x ∧ (E.w0.heap.size ≤ x ∨ E.X x)) := by
        rcases hmem x hx with h4 | ⟨h4, _⟩
        · rcases hb x h4 with h5 | h5
          · exact .inl (hN x h5)
          · exact .inr h5.2
        · exact .inl h4
      rcases this with h4 | ⟨h5, h6, h7⟩
      · obtain ⟨h5, h6, h7⟩ := h.own r T hr x h4
        exact ⟨Nat.lt_of_lt_of_le h5 hw.size, h6, h7⟩
      · exact ⟨Nat.lt_of_lt_of_le h5 hw.size, h6, h7⟩
    · obtain ⟨h5, h6, h7⟩ := h.own q T' hT' x hx
      exact ⟨Nat.lt_of_lt_of_le h5 hw.size, h6, h7⟩
  · obtain ⟨h1, h2⟩ := h.gd x hx
    exact ⟨Nat.lt_of_lt_of_le h1 hw.size, h2⟩
  · refine ((h.sl i).congr hG (fun _ hg => hg)).mapRef (fun q p' q1 p1 hfe T' M' hT' hM' hm => ?_)
    obtain ⟨rfl, rfl, hne⟩ := hf _ _ _ _ hfe
    simp only [updF] at hT'
    split at hT'
    · rename_i e; subst e; cases hT'
      obtain ⟨M1, h1, h2⟩ := Heads.upd p hp hh p1 M' (fun h => hne ⟨rfl, h⟩) hM' hm
      exact ⟨T, M1, hr, h1, h2⟩
    · exact ⟨T', M', hT', hM', rfl⟩
  · exact h.ext.trans hw (fun i hi hx => (h.own r T hr i (hN i hx)).2.2.resolve_left (by omega))
  · obtain ⟨h1, T', h2, h3⟩ := h.pv q v hv'
    by_cases e : q = r
    · subst e
      rw [hr] at h2; cases h2
      exact ⟨h1, T.upd p N', by simp [updF], (value_upd p hp hv).trans h3⟩
    · exact ⟨h1, T', by simp only [updF, e, if_false]; exact h2, h3⟩


def setL {α : Type} (cs : List α) (o : Nat) (vs : List α) : List α := cs.take o ++ (vs ++ cs.drop (o + vs.length))
theorem setL_len {α : Type} {cs vs : List α} {o : Nat} (h : o + vs.length ≤ cs.length) : (setL cs o vs).length = cs.length := by simp [setL]; omega
theorem setL_map {α β : Type} (f : α → β) (cs vs : List α) (o : Nat) : (setL cs o vs).map f = setL (cs.map f) o (vs.map f) := by simp [setL, List.map_take, List.map_drop]
theorem setL_get {α : Type} {cs vs : List α} {o : Nat} (h : o + vs.length ≤ cs.length) (i : Nat) : (setL cs o vs)[i]? = if o ≤ i ∧ i < o + vs.length then vs[i - o]? else cs[i]? := by
  have hto : (cs.take o).length = o := by simp; omega
  unfold setL
  by_cases h1 : i < o
  · rw [List.getElem?_append_left (by omega), List.getElem?_take, if_pos h1, if_neg (by omega)]
  · rw [List.getElem?_append_right (by omega), hto]
    by_cases h2 : i - o < vs.length
    · rw [List.getElem?_append_left h2, if_pos (by omega)]
    · rw [List.getElem?_append_right (by omega), List.getElem?_drop, if_neg (by omega)]
      congr 1; omega
theorem setL_split {α : Type} {cs : List α} {o n : Nat} : cs = cs.take o ++ ((cs.drop o).take n ++ cs.drop (o + n)) := by
  rw [← List.drop_drop, List.take_append_drop, List.take_append_drop]

theorem setCells_fx (b : Nat) : ∀ (us : List Value) (o : Nat) (w : World) (C : Array Value) (e : TypeId) (fr : Nat × Nat), w.heap[b]? = some (.cells C e fr) → o + us.length ≤ C.size →
    ∃ C' : Array Value, (w.setCells b o us).heap[b]? = some (.cells C' e fr) ∧ C'.size = C.size ∧ (∀ i, C'[i]? = if o ≤ i ∧ i < o + us.length then us[i - o]? else C[i]?) ∧ (∀ k, k ≠ b → (w.setCells b o us).heap[k]? = w.heap[k]?) ∧
      (w.setCells b o us).os = w.os ∧ (w.setCells b o us).tape = w.tape ∧ (w.setCells b o us).output = w.output ∧ (w.setCells b o us).heap.size = w.heap.size
  | [], o, w, C, e, fr, h, hl => ⟨C, h, rfl, fun i => by rw [if_neg (by simp only [List.length_nil]; omega)], fun k _ => rfl, rfl, rfl, rfl, rfl⟩
  | u :: us, o, w, C, e, fr, h, hl => by
    have h1 : (w.setCell ⟨b, o, none⟩ u).heap[b]? = some (.cells (C.setIfInBounds o u) e fr) := by simp [World.setCell, Array.getElem?_modify, h]
    simp only [List.length_cons] at hl
    obtain ⟨C', g1, g2, g3, g4, g5, g6, g7, g8⟩ := setCells_fx b us (o + 1) (w.setCell ⟨b, o, none⟩ u) _ e fr h1 (by simp; omega)
    refine ⟨C', g1, by rw [g2]; simp, fun i => ?_, fun k hk => ?_, g5, g6, g7, by rw [show (w.setCells b o (u :: us)).heap.size = _ from g8]; simp [World.setCell]⟩
    · rw [g3 i]
      by_cases h2 : i = o
      · subst h2
        rw [if_neg (by omega), if_pos (by simp), Array.getElem?_setIfInBounds, if_pos rfl, if_pos (by omega)]
        simp
      · by_cases h3 : o + 1 ≤ i ∧ i < o + 1 + us.length
        · rw [if_pos h3, if_pos (by simp; omega), show i - o = (i - (o + 1)) + 1 by omega, List.getElem?_cons_succ]
        · rw [if_neg h3, if_neg (by simp; omega), Array.getElem?_setIfInBounds_ne (by omega)]
    · rw [show (w.setCells b o (u :: us)).heap[k]? = _ from g4 k hk]
      simp only [World.setCell, Array.getElem?_modify]
      rw [if_neg (by simpa using hk.symm)]

def under : List Nat → Nat → Nat → List Nat → Bool
  | [], _, _, [] => false
  | [], o, n, i :: _ => decide (o ≤ i) && decide (i < o + n)
  | _ :: _, _, _, [] => false
  | a :: p, o, n, b :: q => (a == b) && under p o n q
theorem under_spec : ∀ (p : List Nat) (o n : Nat) (q : List Nat), under p o n q = false → ¬ ∃ q', q = p ++ q' ∧ ∃ i q'', q' = i :: q'' ∧ o ≤ i ∧ i < o + n
  | [], o, n, [], _, ⟨q', h, i, q'', h', _⟩ => by subst h'; simp at h
  | [], o, n, i :: q, hu, ⟨q', h, j, q'', h', h1, h2⟩ => by
    subst h'
    simp only [List.nil_append, List.cons.injEq] at h
    obtain ⟨rfl, _⟩ := h
    simp [under, h1] at hu
    omega
  | a :: p, o, n, [], _, ⟨q', h, _⟩ => by simp at h
  | a :: p, o, n, b :: q, hu, ⟨q', h, k⟩ => by
    simp only [List.cons_append, List.cons.injEq] at h
    obtain ⟨rfl, h⟩ := h
    simp only [under, beq_self_eq_true, Bool.true_and] at hu
    exact under_spec p o n q hu ⟨q', h, k⟩
def killR (r : Nat) (p : List Nat) (o n : Nat) : Nat → List Nat → Option (Nat × List Nat) := fun r' p' => if r' = r then (if under p o n p' = true then none else some (r', p')) else some (r', p')

theorem flat_setL {ks vs : List HT} {o : Nat} : (∀ x, x ∈ (setL ks o vs).flatMap HT.blocks → x ∈ ks.flatMap HT.blocks ∨ x ∈ vs.flatMap HT.blocks) ∧
    ((ks.flatMap HT.blocks).Nodup → (vs.flatMap HT.blocks).Nodup → (∀ x ∈ vs.flatMap HT.blocks, x ∉ ks.flatMap HT.blocks) → ((setL ks o vs).flatMap HT.blocks).Nodup) := by
  have e : ks.flatMap HT.blocks = (ks.take o).flatMap HT.blocks ++ (((ks.drop o).take vs.length).flatMap HT.blocks ++ (ks.drop (o + vs.length)).flatMap HT.blocks) := by
    rw [← List.flatMap_append, ← List.flatMap_append, ← setL_split]
  have e2 : (setL ks o vs).flatMap HT.blocks = (ks.take o).flatMap HT.blocks ++ (vs.flatMap HT.blocks ++ (ks.drop (o + vs.length)).flatMap HT.blocks) := by
    simp [setL]
  rw [e, e2]
  constructor
  · intro x hx
    simp only [List.mem_append] at hx ⊢
    rcases hx with h | h | h
    · exact .inl (.inl h)
    · exact .inr h
    · exact .inl (.inr (.inr h))
  · intro h1 h2 h3
    simp only [List.nodup_append, List.mem_append] at h1 ⊢
    obtain ⟨a1, ⟨a2, a3, a4⟩, a5⟩ := h1
    refine ⟨a1, ⟨h2, a3, fun x hx y hy e => ?_⟩, fun x hx y hy e => ?_⟩
    · subst e; exact h3 x hx (by simp only [List.mem_append]; exact .inr (.inr hy))
    · subst e
      rcases hy with hy | hy
      · exact h3 x hy (by simp only [List.mem_append]; exact .inl hx)
      · exact a5 x hx x (.inr hy) rfl

/-- Cells of a node are written: trees are laid there. -/
theorem RelX.lay_facts {E : Env} {M : Nat → Option HT} {G : Nat → Prop} {s : ASt} {a : Act} {w : World} (hX : RelX E M G s a w) {r o b : Nat} {p : List Nat} {T N : HT} {C : Array Value} {e : TypeId} (hM : M r = some T) (hN : T.at_ p = some N)
    (hb : N.ownb = [b]) (hC : w.heap[b]? = some (.cells C e (0, 0))) {Ks : List HT} (ho : o + Ks.length ≤ N.kids.length) (h0 : 0 < Ks.length) (hsat : ∀ K ∈ Ks, Sat w G K) (hnd : (Ks.flatMap HT.blocks).Nodup)
    (hfree : ∀ x ∈ Ks.flatMap HT.blocks, (∀ r T, M r = some T → x ∉ T.blocks) ∧ x < w.heap.size ∧ ¬ G x ∧ (E.w0.heap.size ≤ x ∨ E.X x)) :
    (N.withKids (setL N.kids o Ks)).value = N.value ∧ Ext (fun x => x ∈ N.blocks) w (w.setCells b o (Ks.map HT.value)) ∧ Sat (w.setCells b o (Ks.map HT.value)) G (N.withKids (setL N.kids o Ks)) ∧ (N.withKids (setL N.kids o Ks)).blocks.Nodup ∧
    (∀ x ∈ (N.withKids (setL N.kids o Ks)).blocks, x ∈ N.blocks ∨ ((∀ r T, M r = some T → x ∉ T.blocks) ∧ x < w.heap.size ∧ ¬ G x ∧ (E.w0.heap.size ≤ x ∨ E.X x))) ∧
    (∀ j q M', (N.withKids (setL N.kids o Ks)).at_ (j :: q) = some M' → (∃ K, Ks[j - o]? = some K ∧ o ≤ j ∧ j < o + Ks.length ∧ K.at_ q = some M') ∨ (¬ (o ≤ j ∧ j < o + Ks.length) ∧ N.at_ (j :: q) = some M')) ∧ (N.withKids (setL N.kids o Ks)).hd = N.hd := by
  have hsN := (hX.sat r T hM).at_ p hN
  have hkC : N.kids.length ≤ C.size ∧ ∀ (i : Nat) (T : HT), N.kids[i]? = some T → C[i]? = some T.value := by
    cases hsN with
    | row b' sz n cap cs C' e' g1 g2 g3 g4 g5 g6 g7 g8 =>
      simp only [HT.ownb, List.cons.injEq, and_true] at hb; subst hb
      rw [g1] at hC; cases hC
      exact ⟨by simp only [HT.kids, g2, g4]; exact Nat.mul_le_mul_right _ g3, g7⟩
    | box b' cs C' e' g1 g2 g7 g8 =>
      simp only [HT.ownb, List.cons.injEq, and_true] at hb; subst hb
      rw [g1] at hC; cases hC
      exact ⟨by simp only [HT.kids, g2]; exact Nat.le_refl _, g7⟩
    | _ => simp [HT.ownb] at hb
  obtain ⟨C', c1, c2, c3, c4, c5, c6, c7, c8⟩ := setCells_fx b (Ks.map HT.value) o w C e (0, 0) hC (by simp; omega)
  have hc0 : N.kids[o]? = some N.kids[o] := List.getElem?_eq_getElem (by omega)
  have hbN : b ∈ N.blocks := by rw [HT.blocks_kids, hb]; simp
  have hbG : ¬ G b := (hX.own r T hM b (at_blocks p hN b hbN)).2.1
  have hG : ∀ k, G k → (w.setCells b o (Ks.map HT.value)).heap[k]? = w.heap[k]? := fun k hk => c4 k (fun e => hbG (e ▸ hk))
  have hndN : N.blocks.Nodup := (hX.take hM hN).2.2.1
  rw [HT.blocks_kids, hb] at hndN
  have hbk : b ∉ N.kids.flatMap HT.blocks := by
    simp only [List.cons_append, List.nil_append, List.nodup_cons] at hndN; exact hndN.1
  have hndk : (N.kids.flatMap HT.blocks).Nodup := by
    simp only [List.cons_append, List.nil_append, List.nodup_cons] at hndN; exact hndN.2
  have hbK : b ∉ Ks.flatMap HT.blocks := fun h => (hfree b h).1 r T hM (at_blocks p hN b hbN)
  have hdis : ∀ x ∈ Ks.flatMap HT.blocks, x ∉ N.kids.flatMap HT.blocks := fun x hx hx' => (hfree x hx).1 r T hM (at_blocks p hN x (by rw [HT.blocks_kids]; simp only [List.mem_append]; exact .inr hx'))
  have hlen := setL_len ho
  have hkids : ∀ i c, (setL N.kids o Ks)[i]? = some c → C'[i]? = some c.value ∧ Sat (w.setCells b o (Ks.map HT.value)) G c := fun i c hc => by
    rw [setL_get ho] at hc
    rw [c3 i]
    simp only [List.length_map]
    by_cases hi : o ≤ i ∧ i < o + Ks.length
    · rw [if_pos hi] at hc ⊢
      rw [List.getElem?_map, hc]
      have hm := List.mem_of_getElem? hc
      exact ⟨rfl, (hsat c hm).congr (fun k hk => c4 k (fun e => hbK (List.mem_flatMap.2 ⟨c, hm, e ▸ hk⟩))) hG (fun _ h => h)⟩
    · rw [if_neg hi] at hc ⊢
      exact ⟨hkC.2 i c hc, (hsN.kids i c hc).congr (fun k hk => c4 k (fun e => hbk (List.mem_flatMap.2 ⟨c, List.mem_of_getElem? hc, e ▸ hk⟩))) hG (fun _ h => h)⟩
  refine ⟨?_, ?_, ?_, ?_, ?_, ?_, HT.withKids_hd hc0 _⟩
  · cases N <;> simp [HT.ownb] at hb <;> simp [HT.withKids, HT.value]
  · exact ⟨c5, c6, c7, by rw [c8]; exact Nat.le_refl _, fun k hk hkb => c4 k (fun e => hkb (e ▸ hbN))⟩
  · cases hsN with
    | row b' sz n cap cs C0 e' g1 g2 g3 g4 g5 g6 g7 g8 =>
      simp only [HT.ownb, List.cons.injEq, and_true] at hb; subst hb
      rw [g1] at hC; cases hC
      exact .row _ _ _ _ _ _ _ c1 (by simpa [HT.kids] using hlen.trans g2) g3 (c2.trans g4) g5 g6 (fun i c hc' => (hkids i c hc').1) (fun i c hc' => (hkids i c hc').2)
    | box b' cs C0 e' g1 g2 g7 g8 =>
      simp only [HT.ownb, List.cons.injEq, and_true] at hb; subst hb
      rw [g1] at hC; cases hC
      exact .box _ _ _ _ c1 (by simpa [HT.kids] using (hlen.trans g2).trans c2.symm) (fun i c hc' => (hkids i c hc').1) (fun i c hc' => (hkids i c hc').2)
    | _ => simp [HT.ownb] at hb
  · rw [HT.withKids_blocks hc0, hb]
    simp only [List.cons_append, List.nil_append, List.nodup_cons]
    exact ⟨fun hx => (flat_setL.1 b hx).elim hbk hbK, flat_setL.2 hndk hnd hdis⟩
  · intro z hz
    rw [HT.withKids_blocks hc0] at hz
    rw [HT.blocks_kids]
    simp only [List.mem_append] at hz ⊢
    rcases hz with h | h
    · exact .inl (.inl h)
    · rcases flat_setL.1 z h with h | h
      · exact .inl (.inr h)
      · exact .inr (hfree z h)
  · intro j q M' hq
    simp only [HT.at_, HT.withKids_kids hc0] at hq
    rw [setL_get ho] at hq
    by_cases hj : o ≤ j ∧ j < o + Ks.length
    · rw [if_pos hj] at hq
      split at hq
      · rename_i K hK; exact .inl ⟨K, hK, hj.1, hj.2, hq⟩
      · cases hq
    · rw [if_neg hj] at hq
      exact .inr ⟨hj, by simpa only [HT.at_] using hq⟩

theorem RelX.lay {E : Env} {M : Nat → Option HT} {G : Nat → Prop} {s : ASt} {a : Act} {w : World} (hX : RelX E M G s a w) {r o b : Nat} {p : List Nat} {T N : HT} {C : Array Value} {e : TypeId} (hM : M r = some T) (hN : T.at_ p = some N)
    (hb : N.ownb = [b]) (hC : w.heap[b]? = some (.cells C e (0, 0))) {Ks : List HT} (ho : o + Ks.length ≤ N.kids.length) (h0 : 0 < Ks.length) (hsat : ∀ K ∈ Ks, Sat w G K) (hnd : (Ks.flatMap HT.blocks).Nodup)
    (hfree : ∀ x ∈ Ks.flatMap HT.blocks, (∀ r T, M r = some T → x ∉ T.blocks) ∧ x < w.heap.size ∧ ¬ G x ∧ (E.w0.heap.size ≤ x ∨ E.X x)) :
    RelX E (updF M r (some (T.upd p (N.withKids (setL N.kids o Ks))))) G ((s.updM r p (N.withKids (setL N.kids o Ks)).erase).mapT (killR r p o Ks.length)) a (w.setCells b o (Ks.map HT.value)) := by
  obtain ⟨f1, f2, f3, f4, f5, f6, f7⟩ := hX.lay_facts hM hN hb hC ho h0 hsat hnd hfree
  refine hX.write2 hM hN (N' := N.withKids (setL N.kids o Ks)) f1 (fun q => ∃ i q'', q = i :: q'' ∧ o ≤ i ∧ i < o + Ks.length) (killR r p o Ks.length) ?_ ?_ f2 f3 f4 f5
  · intro r0 p0 r' p' h
    simp only [killR] at h
    split at h
    · split at h
      · cases h
      · rename_i e1 e2
        cases h
        exact ⟨rfl, rfl, fun ⟨_, q, h1, i, q'', h2⟩ => under_spec p o Ks.length p0 (by simpa using e2) ⟨q, h1, i, q'', h2⟩⟩
    · rename_i e1
      cases h
      exact ⟨rfl, rfl, fun h => e1 h.1⟩
  · intro q M' hx hq hmem
    cases q with
    | nil => simp only [HT.at_, Option.some.injEq] at hq; subst hq; exact ⟨N, rfl, f7.symm⟩
    | cons j q =>
      rcases f6 j q M' hq with ⟨K, h1, h2, h3, _⟩ | ⟨_, h1⟩
      · exact absurd ⟨j, q, rfl, h2, h3⟩ hx
      · exact ⟨M', h1, rfl⟩
/-- The same, with leaves alone. -/
theorem RelX.layLeaves {E : Env} {M : Nat → Option HT} {G : Nat → Prop} {s : ASt} {a : Act} {w : World} (hX : RelX E M G s a w) {r o b : Nat} {p : List Nat} {T N : HT} {C : Array Value} {e : TypeId} (hM : M r = some T) (hN : T.at_ p = some N)
    (hb : N.ownb = [b]) (hC : w.heap[b]? = some (.cells C e (0, 0))) {Ks : List HT} (ho : o + Ks.length ≤ N.kids.length) (h0 : 0 < Ks.length) (hsat : ∀ K ∈ Ks, Sat w G K) (hnd : (Ks.flatMap HT.blocks).Nodup)
    (hleaf : ∀ K ∈ Ks, K.isMem = false ∧ K.kids = [])
    (hfree : ∀ x ∈ Ks.flatMap HT.blocks, (∀ r T, M r = some T → x ∉ T.blocks) ∧ x < w.heap.size ∧ ¬ G x ∧ (E.w0.heap.size ≤ x ∨ E.X x)) :
    RelX E (updF M r (some (T.upd p (N.withKids (setL N.kids o Ks))))) G (s.updM r p (N.withKids (setL N.kids o Ks)).erase) a (w.setCells b o (Ks.map HT.value)) := by
  obtain ⟨f1, f2, f3, f4, f5, f6, f7⟩ := hX.lay_facts hM hN hb hC ho h0 hsat hnd hfree
  refine hX.write hM hN (N' := N.withKids (setL N.kids o Ks)) f1 ?_ f2 f3 f4 f5
  intro q M' hx hq hmem
  cases q with
  | nil => simp only [HT.at_, Option.some.injEq] at hq; subst hq; exact ⟨N, rfl, f7.symm⟩
  | cons j q =>
    rcases f6 j q M' hq with ⟨K, h1, h2, h3, h4⟩ | ⟨_, h1⟩
    · obtain ⟨g1, g2⟩ := hleaf K (List.mem_of_getElem? h1)
      cases q with
      | nil => simp only [HT.at_, Option.some.injEq] at h4; subst h4; rw [g1] at hmem; cases hmem
      | cons i q => simp [HT.at_, g2] at h4
    · exact ⟨M', h1, rfl⟩

/-- A whole row of the call's own. -/
theorem close_whole {E : Env} {s : ASt} {r : Nat} {p : List Nat} {sz n : Nat} {cs : List AV} (hA : nodeOf s r p = some (.row true sz n cs)) : CloseJ E s (.sl r p 0 n) (.row true sz n cs) (s.updM r p .junk) := fun M G a w hX u hv => by
  obtain ⟨T, N, hM, hN, he, _, hsN⟩ := nodeOf_spec hX hA
  have hlen : cs.length = n * sz := by
    cases hsN with
    | row b sz' n' cap cs' C e g1 g2 =>
      simp only [HT.erase, AV.row.injEq, true_and, HT.erases_eq] at he
      obtain ⟨rfl, rfl, rfl⟩ := he
      simpa using g2
    | nilrow sz' =>
      simp only [HT.erase, AV.row.injEq, true_and] at he
      obtain ⟨rfl, rfl, rfl⟩ := he
      simp
    | leaf a' v' ha _ => simp only [HT.erase] at he; subst he; simp [AV.leafOk] at ha
    | box => simp [HT.erase] at he
    | agg => simp [HT.erase] at he
    | tup => simp [HT.erase] at he
  unfold nodeOf at hA
  cases hm : s.m r with
  | none => rw [hm] at hA; cases hA
  | some A =>
    rw [hm] at hA
    have := close_sl (E := E) hm hA (Nat.le_refl n)
    rw [List.take_of_length_le (by omega)] at this
    exact this M G a w hX u hv

/-- A variable of the call's own. -/
theorem close_box {E : Env} {s : ASt} {r : Nat} {p : List Nat} {cs : List AV} (hA : nodeOf s r p = some (.box true cs)) : CloseJ E s (.ptr r p 0) (.box true cs) (s.updM r p .junk) := fun M G a w hX u hv => by
  obtain ⟨T, N, hM, hN, he, _, hsN⟩ := nodeOf_spec hX hA
  obtain ⟨h1, h2, h3, h4⟩ := hX.take hM hN
  refine ⟨_, N, h1, ?_, he, h2, h3, fun x hx => ⟨⟨r, T, hM, at_blocks p hN x hx⟩, h4 x hx⟩, fun v u h => h.heads (fun q p' T' M' hT' hM' hm' => ?_), fun q T' hq x hx => ?_⟩
  · cases hsN with
    | box b cs' C e g1 g2 =>
      cases hv with
      | ptr _ _ _ _ _ h' => rw [h' T hM _ _ hN]; rfl
    | leaf a' v' ha _ => simp only [HT.erase] at he; subst he; simp [AV.leafOk] at ha
    | row => simp [HT.erase] at he
    | nilrow => simp [HT.erase] at he
    | agg => simp [HT.erase] at he
    | tup => simp [HT.erase] at he
  · simp only [updF] at hT'
    split at hT'
    · rename_i e; subst e; cases hT'
      obtain ⟨M1, g1, g2⟩ := Heads.upd p hN (Heads.leaf (fun _ => False) N .junk N.value) p' M' (by simp) hM' hm'
      exact ⟨T, M1, hM, g1, g2⟩
    · exact ⟨T', M', hT', hM', rfl⟩
  · simp only [updF] at hq
    split at hq
    · cases hq
      rcases mem_blocks_upd p hN (hX.nd r T hM) x hx with g | ⟨g, _⟩
      · simp [HT.blocks] at g
      · exact ⟨r, T, hM, g⟩
    · exact ⟨q, T', hq, hx⟩

mutual
/-- What a slot holds, with all that belongs to it, is taken out: what it is; what is left. -/
def closeV (s : ASt) : AV → Option (AV × ASt)
  | .lit v => some (.lit v, s)
  | .row false sz n cs => some (.row false sz n cs, s)
  | .box false cs => some (.box false cs, s)
  | .fn f cs => if AV.noRefs cs = true then some (.fn f cs, s) else none
  | .sl r p off len => match nodeOf s r p with
    | some (.row true sz n cs) => if off = 0 ∧ len = n then some (.row true sz n cs, s.updM r p .junk) else none
    | _ => none
  | .ptr r p o => match nodeOf s r p with
    | some (.box true cs) => if o = 0 then some (.box true cs, s.updM r p .junk) else none
    | _ => none
  | .agg cs => match closeVs s cs with
    | some (As, s') => some (.agg As, s')
    | none => none
  | .tup cs => match closeVs s cs with
    | some (As, s') => some (.tup As, s')
    | none => none
  | _ => none
def closeVs (s : ASt) : List AV → Option (List AV × ASt)
  | [] => some ([], s)
  | v :: vs => match closeV s v with
    | some (A, s1) => match closeVs s1 vs with
      | some (As, s2) => some (A :: As, s2)
      | none => none
    | none => none
end
mutual
theorem closeV_spec {E : Env} : ∀ (v : AV) {s s' : ASt} {A : AV}, closeV s v = some (A, s') → CloseJ E s v A s'
  | .lit v, s, s', A, h => by simp only [closeV, Option.some.injEq, Prod.mk.injEq] at h; obtain ⟨rfl, rfl⟩ := h; exact close_free rfl
  | .row true sz n cs, s, s', A, h => by simp [closeV] at h
  | .row false sz n cs, s, s', A, h => by simp only [closeV, Option.some.injEq, Prod.mk.injEq] at h; obtain ⟨rfl, rfl⟩ := h; exact close_free rfl
  | .box true cs, s, s', A, h => by simp [closeV] at h
  | .box false cs, s, s', A, h => by simp only [closeV, Option.some.injEq, Prod.mk.injEq] at h; obtain ⟨rfl, rfl⟩ := h; exact close_free rfl
  | .fn f cs, s, s', A, h => by
    simp only [closeV] at h
    split at h
    · rename_i hn
      simp only [Option.some.injEq, Prod.mk.injEq] at h; obtain ⟨rfl, rfl⟩ := h; exact close_free (by simpa [AV.noRef] using hn)
    · cases h
  | .sl r p off len, s, s', A, h => by
    simp only [closeV] at h
    split at h
    · rename_i sz n cs hn
      split at h
      · rename_i e
        obtain ⟨rfl, rfl⟩ := e
        simp only [Option.some.injEq, Prod.mk.injEq] at h; obtain ⟨rfl, rfl⟩ := h
        exact close_whole hn
      · cases h
    · cases h
  | .ptr r p o, s, s', A, h => by
    simp only [closeV] at h
    split at h
    · rename_i cs hn
      split at h
      · rename_i e
        subst e
        simp only [Option.some.injEq, Prod.mk.injEq] at h; obtain ⟨rfl, rfl⟩ := h
        exact close_box hn
      · cases h
    · cases h
  | .agg cs, s, s', A, h => by
    simp only [closeV] at h
    split at h
    · rename_i As s1 h1
      simp only [Option.some.injEq, Prod.mk.injEq] at h; obtain ⟨rfl, rfl⟩ := h
      exact close_agg (closeVs_spec cs h1)
    · cases h
  | .tup cs, s, s', A, h => by
    simp only [closeV] at h
    split at h
    · rename_i As s1 h1
      simp only [Option.some.injEq, Prod.mk.injEq] at h; obtain ⟨rfl, rfl⟩ := h
      exact close_tup (closeVs_spec cs h1)
    · cases h
  | .junk, s, s', A, h => by simp [closeV] at h
theorem closeVs_spec {E : Env} : ∀ (vs : List AV) {s s' : ASt} {As : List AV}, closeVs s vs = some (As, s') → CloseLJ E s vs As s'
  | [], s, s', As, h => by simp only [closeVs, Option.some.injEq, Prod.mk.injEq] at h; obtain ⟨rfl, rfl⟩ := h; exact close_nil
  | v :: vs, s, s', As, h => by
    simp only [closeVs] at h
    split at h
    · rename_i A s1 h1
      split at h
      · rename_i Bs s2 h2
        simp only [Option.some.injEq, Prod.mk.injEq] at h; obtain ⟨rfl, rfl⟩ := h
        exact close_cons (closeV_spec v h1) (closeVs_spec vs h2)
      · cases h
    · cases h
end

def AV.parts : AV → List AV
  | .agg cs => cs
  | a => [a]
/-- May it lie in one cell? -/
def fitC : AV → Bool
  | .lit v => v.oneCell'
  | .row _ _ _ _ => true
  | .box _ _ => true
  | .fn _ _ => true
  | _ => false
def fitCs : List AV → Bool
  | [] => true
  | a :: r => fitC a && fitCs r
theorem fitCs_mem {l : List AV} : fitCs l = true ↔ ∀ a ∈ l, fitC a = true := by
  induction l with
  | nil => simp [fitCs]
  | cons a r ih => simp [fitCs, ih]
theorem fit_val {w : World} {G : Nat → Prop} {T : HT} (hs : Sat w G T) (h : fitC T.erase = true) : T.value.oneCell' = true ∧ T.value.cells = #[T.value] := by
  cases hs with
  | leaf a v ha hv =>
    simp only [HT.erase] at h
    simp only [HT.value]
    cases hv with
    | lit => cases v <;> simp_all [fitC, Value.oneCell', Value.cells]
    | row0 => simp [Value.oneCell', Value.cells]
    | row => simp [Value.oneCell', Value.cells]
    | box => simp [Value.oneCell', Value.cells]
    | fn => simp [Value.oneCell', Value.cells]
    | _ => simp [fitC] at h
  | row => simp [HT.value, Value.oneCell', Value.cells]
  | nilrow => simp [HT.value, Value.oneCell', Value.cells]
  | box => simp [HT.value, Value.oneCell', Value.cells]
  | agg => simp [HT.erase, fitC] at h
  | tup => simp [HT.erase, fitC] at h

theorem parts_val {E : Env} {M : Nat → Option HT} {G : Nat → Prop} {s s1 : ASt} {a : Act} {w : World} {v : AV} {u : Value} {As : List AV} (hX : RelX E M G s a w) (hv : VR w G M v u) (hc : closeVs s v.parts = some (As, s1)) (hf : fitCs As = true) :
    ∃ M' Ts, RelX E M' G s1 a w ∧ u.cells = (HT.values Ts).toArray ∧ HT.erases Ts = As ∧ (∀ K ∈ Ts, Sat w G K ∧ K.value.oneCell' = true) ∧ (Ts.flatMap HT.blocks).Nodup ∧
      (∀ x ∈ Ts.flatMap HT.blocks, (∀ r T, M' r = some T → x ∉ T.blocks) ∧ x < w.heap.size ∧ ¬ G x ∧ (E.w0.heap.size ≤ x ∨ E.X x)) ∧ (∀ v u, VR w G M v u → VR w G M' v u) := by
  have key : ∃ us : List Value, us.length = v.parts.length ∧ (∀ (i : Nat) (c : AV) (x : Value), v.parts[i]? = some c → us[i]? = some x → VR w G M c x) ∧ (∀ Ts : List HT, HT.values Ts = us → (∀ K ∈ Ts, Sat w G K) → HT.erases Ts = As → u.cells = us.toArray) := by
    have one : v.parts = [v] → ∃ us : List Value, us.length = v.parts.length ∧ (∀ (i : Nat) (c : AV) (x : Value), v.parts[i]? = some c → us[i]? = some x → VR w G M c x) ∧ (∀ Ts : List HT, HT.values Ts = us → (∀ K ∈ Ts, Sat w G K) → HT.erases Ts = As → u.cells = us.toArray) := fun e => by
      rw [e]
      refine ⟨[u], rfl, fun i c x h1 h2 => ?_, fun Ts h1 h2 h3 => ?_⟩
      · cases i with
        | zero => simp only [List.getElem?_cons_zero, Option.some.injEq] at h1 h2; subst h1; subst h2; exact hv
        | succ i => simp at h1
      · cases Ts with
        | nil => simp [HT.values] at h1
        | cons K r =>
          simp only [HT.values, List.cons.injEq] at h1
          obtain ⟨h1, h4⟩ := h1
          subst h1
          exact (fit_val (h2 K (by simp)) (fitCs_mem.1 hf _ (by rw [← h3, HT.erases_eq]; simp))).2
    cases v with
    | agg cs =>
      cases hv with
      | agg _ us hl hh => exact ⟨us, hl, hh, fun _ _ _ _ => rfl⟩
    | _ => exact one rfl
  obtain ⟨us, hl, hh, hu⟩ := key
  obtain ⟨M', Ts, h1, h2, h3, h4, h5, h6, h7, _⟩ := closeVs_spec (E := E) v.parts hc M G a w hX us hl hh
  have hsat : ∀ K ∈ Ts, Sat w G K := fun K hK => by
    obtain ⟨i, hi⟩ := List.getElem?_of_mem hK
    exact h4 i K hi
  refine ⟨M', Ts, h1, by rw [hu Ts h2 hsat h3, h2], h3, fun K hK => ⟨hsat K hK, ?_⟩, by rw [← HT.blockss_eq]; exact h5, fun x hx => by rw [← HT.blockss_eq] at hx; exact (h6 x hx).2, h7⟩
  refine (fit_val (hsat K hK) (fitCs_mem.1 hf _ ?_)).1
  rw [← h3, HT.erases_eq]
  exact List.mem_map.2 ⟨K, hK, rfl⟩

theorem parts_valN {E : Env} {M : Nat → Option HT} {G : Nat → Prop} {s s1 : ASt} {a : Act} {w : World} {v : AV} {u : Value} {As Bs : List AV} (hX : RelX E M G s a w) (hv : VR w G M v u) (hc : closeVs s v.parts = some (As, s1)) (hf : fitCs As = true) (hN : NilLes As Bs) :
    ∃ M' Ts, RelX E M' G s1 a w ∧ u.cells = (HT.values Ts).toArray ∧ HT.erases Ts = Bs ∧ (∀ K ∈ Ts, Sat w G K ∧ K.value.oneCell' = true) ∧ (Ts.flatMap HT.blocks).Nodup ∧
      (∀ x ∈ Ts.flatMap HT.blocks, (∀ r T, M' r = some T → x ∉ T.blocks) ∧ x < w.heap.size ∧ ¬ G x ∧ (E.w0.heap.size ≤ x ∨ E.X x)) ∧ (∀ v u, VR w G M v u → VR w G M' v u) := by
  obtain ⟨M', Ts, h1, h2, rfl, h4, h5, h6, h7⟩ := parts_val hX hv hc hf
  obtain ⟨Ts', e1, e2, e3, e4⟩ := nilUps Ts Bs (fun K hK => (h4 K hK).1) hN
  rw [← HT.blockss_eq] at h5 h6
  refine ⟨M', Ts', h1, by rw [h2, e2], e1, fun K hK => ⟨e4 K hK, ?_⟩, by rw [← HT.blockss_eq, e3]; exact h5, fun x hx => by rw [← HT.blockss_eq, e3] at hx; exact h6 x hx, h7⟩
  have : K.value ∈ HT.values Ts := by rw [← e2, HT.values_eq]; exact List.mem_map.2 ⟨K, hK, rfl⟩
  rw [HT.values_eq] at this
  obtain ⟨K0, hK0, e⟩ := List.mem_map.1 this
  rw [← e]; exact (h4 K0 hK0).2

def setNs (o : Nat) (vs : List AV) : Option AV → AV
  | some (.row true sz n cs) => .row true sz n (setL cs o vs)
  | some (.box true cs) => .box true (setL cs o vs)
  | _ => .junk
theorem setNs_erase {N : HT} {b : Nat} (hb : N.ownb = [b]) (o : Nat) (Ks : List HT) (h : memN (some N.erase) = true) : setNs o (HT.erases Ks) (some N.erase) = (N.withKids (setL N.kids o Ks)).erase := by
  cases N <;> simp_all [HT.ownb, HT.erase, setNs, HT.withKids, HT.kids, HT.erases_eq, setL_map, memN]

section
variable {E : Env} {s s1 : ASt} {d : Nat} {x y : Operand} {t xt : TypeId} {pos : String} {after : Array Edge} {g : Option (Nat × Bool)} {R : ASt → Prop}

def leafCs : List AV → Bool
  | [] => true
  | a :: r => a.leafOk && leafCs r
theorem leafCs_mem {l : List AV} : leafCs l = true ↔ ∀ a ∈ l, a.leafOk = true := by
  induction l with
  | nil => simp [leafCs]
  | cons a r ih => simp [leafCs, ih]

/-- A value is stored, with all that belongs to it. -/
theorem l_storeTree {r o : Nat} {p : List Nat} {As0 As : List AV} (hN : NilLes As0 As) (hx : s.ev x = .ptr r p o) (hc : closeVs s (s.ev y).parts = some (As0, s1)) (hf : fitCs As0 = true) (hz : szT E.P xt = some As.length) (h0 : 0 < As.length)
    (hm : memN (nodeOf s1 r p) = true) (ho : o + As.length ≤ (cellsOf (nodeOf s1 r p)).length)
    (hR : if leafCs As = true then R (s1.updM r p (setNs o As (nodeOf s1 r p))) else R ((s1.updM r p (setNs o As (nodeOf s1 r p))).mapT (killR r p o As.length))) : LJ E ⟨none, .store xt x y, t, pos, after, g⟩ s R := by
  rintro a w ⟨M0, G, hX0⟩
  obtain ⟨M, Ts, hX, hu, rfl, hsat, hnd, hfree, hmono⟩ := parts_valN hX0 (hX0.ev y) hc hf hN
  have hlen : (HT.erases Ts).length = Ts.length := by simp [HT.erases_eq]
  rw [hlen] at hz h0 ho hR
  have hxv := hmono _ _ (hX0.ev x)
  rw [hx] at hxv
  cases hA : nodeOf s1 r p with
  | none => rw [hA] at hm; cases hm
  | some A =>
    rw [hA] at hm ho hR
    obtain ⟨T, N, hM, hN, rfl, hsT, hsN⟩ := nodeOf_spec hX hA
    rcases memN_spec hsN hm with ⟨sz, rfl⟩ | ⟨b, C, e, h1, h2, h3, h4, h5, h6, h7⟩
    · have : (cellsOf (some (HT.nilrow sz).erase)).length = 0 := rfl
      omega
    · rw [h3] at ho
      have ho' : o + Ts.length ≤ N.kids.length := by simpa using ho
      have hp := ptr_val hX hxv hM hN h1
      have hrun : (execOp a.eval ⟨none, .store xt x y, t, pos, after, g⟩).run E.P w = .ok .skip (w.setCells b o (Ts.map HT.value)) := by
        have hst := run_storeCells_cells (P := E.P) b o (Ts.map HT.value) 0 w (fun j hj => by
            have hj' : j < Ts.length := by simpa using hj
            have hk : N.kids[o + j]? = some N.kids[o + j] := List.getElem?_eq_getElem (by omega)
            simp [World.cell?, h2, h5 _ _ hk]) (fun j hj => by simp [World.frozen?, h2]) (fun v hv => by
            obtain ⟨K, hK, rfl⟩ := List.mem_map.1 hv
            exact (hsat K hK).2)
        rw [Nat.add_zero] at hst
        simp only [execOp, hp, Instr.storeAt, Instr.sureAddr, storeVar, hu, Sem.run_bind, run_size hz, Result.andThen_ok, Sem.run_pure, HT.values_eq, List.size_toArray, List.length_map]
        simp [hst]
      unfold Oper.wp
      rw [hrun]
      simp only [Oper.upon, Act.put]
      have he : setNs o (HT.erases Ts) (some N.erase) = (N.withKids (setL N.kids o Ts)).erase := setNs_erase h1 o Ts hm
      rw [he] at hR
      split at hR
      · rename_i hl
        refine ⟨_, ⟨_, G, hX.layLeaves hM hN h1 h2 ho' h0 (fun K hK => (hsat K hK).1) hnd (fun K hK => ?_) hfree⟩, hR⟩
        have hk : K.erase.leafOk = true := leafCs_mem.1 hl _ (by rw [HT.erases_eq]; exact List.mem_map.2 ⟨K, hK, rfl⟩)
        cases K <;> simp_all [HT.isMem, HT.kids, HT.erase, AV.leafOk]
      · exact ⟨_, ⟨_, G, hX.lay hM hN h1 h2 ho' h0 (fun K hK => (hsat K hK).1) hnd hfree⟩, hR⟩
end

/-- A new region; what belongs to it may have been there. -/
theorem RelX.new2 {E : Env} {M : Nat → Option HT} {G : Nat → Prop} {s : ASt} {a : Act} {w w' : World} (h : RelX E M G s a w) {d : Nat} (hd : d < E.nt) {v : AV} {u : Value} {T : HT}
    (hw : Ext (fun x => x ∈ T.blocks) w w') (hT : Sat w' G T) (hnd : T.blocks.Nodup)
    (hb : ∀ x ∈ T.blocks, (∀ r T, M r = some T → x ∉ T.blocks) ∧ x < w'.heap.size ∧ ¬ G x ∧ (E.w0.heap.size ≤ x ∨ E.X x)) (hv : VR w' G (updF M d (some T)) v u) :
    RelX E (updF M d (some T)) G (s.new d v T.erase) (a.put (some d) u) w' := by
  have hGb : ∀ b, G b → w'.heap[b]? = w.heap[b]? := fun b hg => hw.block b (h.gd b hg).1 (fun hx => (hb b hx).2.2.1 hg)
  refine ⟨fun r => ?_, fun r T' hT' => ?_, fun r T' hT' => ?_, fun r r' T1 T2 hr h1 h2 x hx hx' => ?_, fun r T' hT' x hx => ?_, fun x hx => ?_, h.g0, fun i => ?_, ?_, h.df, ?_, h.n1, fun r v hv => ?_⟩
  · simp only [ASt.new, updF]
    split
    · rfl
    · exact h.er r
  · simp only [updF] at hT'
    split at hT'
    · cases hT'; exact hT
    · exact (h.sat r T' hT').congr (fun b hx => hw.block b (h.own r T' hT' b hx).1 (fun hx' => (hb b hx').1 r T' hT' hx)) hGb (fun _ hg => hg)
  · simp only [updF] at hT'
    split at hT'
    · cases hT'; exact hnd
    · exact h.nd r T' hT'
  · simp only [updF] at h1 h2
    split at h1 <;> split at h2
    · omega
    · cases h1; exact (hb x hx).1 r' T2 h2 hx'
    · cases h2; exact (hb x hx').1 r T1 h1 hx
    · exact h.dj r r' T1 T2 hr h1 h2 x hx hx'
  · simp only [updF] at hT'
    split at hT'
    · cases hT'; exact (hb x hx).2
    · obtain ⟨h1, h2, h3⟩ := h.own r T' hT' x hx
      exact ⟨Nat.lt_of_lt_of_le h1 hw.size, h2, h3⟩
  · obtain ⟨h1, h2⟩ := h.gd x hx
    exact ⟨Nat.lt_of_lt_of_le h1 hw.size, h2⟩
  · rw [put_getD a d i u (by rw [h.nt]; exact hd)]
    simp only [ASt.new]
    split
    · exact hv
    · refine ((h.sl i).congr hGb (fun _ hg => hg)).mapRef (fun r p r' p' hf T' N' hT' hN' hm => ?_)
      simp only [killF] at hf
      split at hf
      · cases hf
      · rename_i hk
        simp only [Option.some.injEq, Prod.mk.injEq] at hf
        obtain ⟨rfl, rfl⟩ := hf
        have hrd : r ≠ d := fun e => hk ⟨e, by simp⟩
        simp only [updF, hrd, if_false] at hT'
        exact ⟨T', N', hT', hN', rfl⟩
  · exact h.ext.trans hw (fun i hi hx => (hb i hx).2.2.2.resolve_left (by omega))
  · simp [put_some, h.nt]
  · obtain ⟨h1, T', h2, h3⟩ := h.pv r v hv
    have := h.n1
    exact ⟨h1, T', by simp only [updF]; rw [if_neg (by omega)]; exact h2, h3⟩

section
variable {E : Env} {s s1 : ASt} {d : Nat} {x y : Operand} {t xt : TypeId} {pos : String} {after : Array Edge} {g : Option (Nat × Bool)} {R : ASt → Prop}

/-- The blocks of trees in a block that has just been made. -/
theorem fresh_blocks {M' : Nat → Option HT} {G : Nat → Prop} {a : Act} {w : World} (hX : RelX E M' G s1 a w) {Ts : List HT} (o : Obj) (hnd : (Ts.flatMap HT.blocks).Nodup)
    (hfree : ∀ x ∈ Ts.flatMap HT.blocks, (∀ r T, M' r = some T → x ∉ T.blocks) ∧ x < w.heap.size ∧ ¬ G x ∧ (E.w0.heap.size ≤ x ∨ E.X x)) :
    (w.heap.size :: Ts.flatMap HT.blocks).Nodup ∧ ∀ x ∈ w.heap.size :: Ts.flatMap HT.blocks, (∀ r T, M' r = some T → x ∉ T.blocks) ∧ x < (w.alloc o).heap.size ∧ ¬ G x ∧ (E.w0.heap.size ≤ x ∨ E.X x) := by
  constructor
  · refine List.nodup_cons.2 ⟨fun h => ?_, hnd⟩
    have := (hfree _ h).2.1; omega
  · intro x hx
    rcases List.mem_cons.1 hx with rfl | hx
    · refine ⟨fun r T hT hx => ?_, by simp, fun hg => ?_, .inl hX.ext.size⟩
      · have := (hX.own r T hT _ hx).1; omega
      · have := (hX.gd _ hg).1; omega
    · obtain ⟨h1, h2, h3⟩ := hfree x hx
      exact ⟨h1, by simp; omega, h3⟩

/-- A new variable that holds these trees. -/
theorem RelX.newBox {M' : Nat → Option HT} {G : Nat → Prop} {a : Act} {w : World} (hX : RelX E M' G s1 a w) (hd : d < E.nt) (e : TypeId) {Ts : List HT} (hsat : ∀ K ∈ Ts, Sat w G K) (hnd : (Ts.flatMap HT.blocks).Nodup)
    (hfree : ∀ x ∈ Ts.flatMap HT.blocks, (∀ r T, M' r = some T → x ∉ T.blocks) ∧ x < w.heap.size ∧ ¬ G x ∧ (E.w0.heap.size ≤ x ∨ E.X x)) :
    RelX E (updF M' d (some (.box w.heap.size Ts))) G (s1.new d (.ptr d [] 0) (.box true (HT.erases Ts))) (a.put (some d) (.pointer (some ⟨w.heap.size, 0, none⟩))) (w.alloc (.cells (HT.values Ts).toArray e)) := by
  obtain ⟨f1, f2⟩ := fresh_blocks hX (.cells (HT.values Ts).toArray e) hnd hfree
  have hold : ∀ b, b < w.heap.size → (w.alloc (.cells (HT.values Ts).toArray e)).heap[b]? = w.heap[b]? := fun b hb => alloc_old w _ b hb
  refine hX.new2 (T := .box w.heap.size Ts) hd ?_ ?_ ?_ ?_ ?_
  · exact ⟨rfl, rfl, rfl, by simp, fun k hk _ => alloc_old w _ k hk⟩
  · refine .box _ _ _ e (alloc_new w _) (by simp [HT.values_eq]) (fun i K hK => by simp [HT.values_eq, hK]) (fun i K hK => ?_)
    have hm := List.mem_of_getElem? hK
    exact (hsat K hm).congr (fun b hb => hold b (hfree b (List.mem_flatMap.2 ⟨K, hm, hb⟩)).2.1) (fun b hb => hold b (hX.gd b hb).1) (fun _ h => h)
  · simpa only [HT.blocks, HT.blockss_eq] using f1
  · intro x hx
    exact f2 x (by simpa only [HT.blocks, HT.blockss_eq] using hx)
  · refine .ptr _ _ _ _ (fun T' hT' b' sz' n' cap' cs' hN' => ?_) (fun T' hT' b' cs' hN' => ?_)
    · simp only [updF, if_true, Option.some.injEq] at hT'; subst hT'
      simp [HT.at_] at hN'
    · simp only [updF, if_true, Option.some.injEq] at hT'; subst hT'
      simp only [HT.at_, Option.some.injEq, HT.box.injEq] at hN'
      obtain ⟨rfl, rfl⟩ := hN'
      rfl

/-- A new row that holds these trees. -/
theorem RelX.newRow {M' : Nat → Option HT} {G : Nat → Prop} {a : Act} {w : World} (hX : RelX E M' G s1 a w) (hd : d < E.nt) (e : TypeId) {Ts : List HT} (sz n cap : Nat) (C : Array Value) (hsz : 0 < sz) (hn : Ts.length = n * sz) (hc : n ≤ cap) (hmax : cap ≤ 9223372036854775807) (hC : C.size = cap * sz)
    (hv : ∀ (i : Nat) (K : HT), Ts[i]? = some K → C[i]? = some K.value) (hsat : ∀ K ∈ Ts, Sat w G K) (hnd : (Ts.flatMap HT.blocks).Nodup)
    (hfree : ∀ x ∈ Ts.flatMap HT.blocks, (∀ r T, M' r = some T → x ∉ T.blocks) ∧ x < w.heap.size ∧ ¬ G x ∧ (E.w0.heap.size ≤ x ∨ E.X x)) :
    RelX E (updF M' d (some (.row w.heap.size sz n cap Ts))) G (s1.new d (.sl d [] 0 n) (.row true sz n (HT.erases Ts))) (a.put (some d) (.slice (some ⟨w.heap.size, 0, none⟩) n cap)) (w.alloc (.cells C e)) := by
  obtain ⟨f1, f2⟩ := fresh_blocks hX (.cells C e) hnd hfree
  have hold : ∀ b, b < w.heap.size → (w.alloc (.cells C e)).heap[b]? = w.heap[b]? := fun b hb => alloc_old w _ b hb
  refine hX.new2 (T := .row w.heap.size sz n cap Ts) hd ?_ ?_ ?_ ?_ ?_
  · exact ⟨rfl, rfl, rfl, by simp, fun k hk _ => alloc_old w _ k hk⟩
  · refine .row _ _ _ _ _ _ e (alloc_new w _) hn hc hC hsz hmax hv (fun i K hK => ?_)
    have hm := List.mem_of_getElem? hK
    exact (hsat K hm).congr (fun b hb => hold b (hfree b (List.mem_flatMap.2 ⟨K, hm, hb⟩)).2.1) (fun b hb => hold b (hX.gd b hb).1) (fun _ h => h)
  · simpa only [HT.blocks, HT.blockss_eq] using f1
  · intro x hx
    exact f2 x (by simpa only [HT.blocks, HT.blockss_eq] using hx)
  · refine .sl _ _ _ _ _ (fun T' hT' b' sz' n' cap' cs' hN' hle => ?_) (fun T' hT' sz' hN' hle => ?_)
    · simp only [updF, if_true, Option.some.injEq] at hT'; subst hT'
      simp only [HT.at_, Option.some.injEq, HT.row.injEq] at hN'
      obtain ⟨rfl, rfl, rfl, rfl, rfl⟩ := hN'
      exact ⟨_, _, rfl, hc, by omega, .inr (by simp), fun _ => ⟨rfl, rfl⟩⟩
    · simp only [updF, if_true, Option.some.injEq] at hT'; subst hT'
      simp [HT.at_] at hN'

/-- 'box': a value is laid into a new variable. -/
theorem l_box {As : List AV} (hd : d < E.nt) (hc : closeVs s (s.ev x).parts = some (As, s1)) (hf : fitCs As = true)
    (hR : R (s1.new d (.ptr d [] 0) (.box true As))) : LJ E ⟨some d, .box xt x, t, pos, after, g⟩ s R := by
  rintro a w ⟨M0, G, hX0⟩
  obtain ⟨M, Ts, hX, hu, rfl, hsat, hnd, hfree, hmono⟩ := parts_val hX0 (hX0.ev x) hc hf
  have hrun : (execOp a.eval ⟨some d, .box xt x, t, pos, after, g⟩).run E.P w = .ok (.value (.pointer (some ⟨w.heap.size, 0, none⟩))) (w.alloc (.cells (HT.values Ts).toArray xt)) := by
    simp [execOp, Instr.box, newVar, newRow, hu]
  unfold Oper.wp
  rw [hrun]
  exact ⟨_, ⟨_, G, hX.newBox hd xt (fun K hK => (hsat K hK).1) hnd hfree⟩, hR⟩

/-- A type's empty cells. -/
def zvT (P : Program) (t : TypeId) : Option (List Value) := match P.info? t with
  | some i => i.zero.map fun z => z.cells.toList
  | none => none
theorem run_zero {P : Program} {t : TypeId} {zs : List Value} (h : zvT P t = some zs) (w : World) : ∃ z, (zeroValue t).run P w = .ok z w ∧ z.cells.toList = zs := by
  unfold zvT at h
  split at h
  · rename_i i hi
    cases hz : i.zero with
    | none => rw [hz] at h; cases h
    | some z =>
      rw [hz] at h
      simp only [Option.map_some, Option.some.injEq] at h
      exact ⟨z, by simp [zeroValue, typeInfo, hi, hz], h⟩
  · cases h
theorem leaves_lit {w : World} {G : Nat → Prop} (zs : List Value) : ∃ Ks : List HT, HT.values Ks = zs ∧ HT.erases Ks = zs.map .lit ∧ Ks.flatMap HT.blocks = [] ∧ ∀ K ∈ Ks, Sat w G K :=
  ⟨zs.map fun z => .leaf (.lit z) z, by simp [HT.values_eq, HT.value, Function.comp_def], by simp [HT.erases_eq, HT.erase, Function.comp_def], by simp [HT.blocks], fun K hK => by
    obtain ⟨z, _, rfl⟩ := List.mem_map.1 hK
    exact .leaf _ _ rfl (.lit z)⟩
/-- 'alloc': a new variable, empty. -/
theorem l_alloc {zs : List Value} {As : List AV} (hN : NilLes (zs.map .lit) As) (hd : d < E.nt) (hz : zvT E.P xt = some zs) (hR : R (s.new d (.ptr d [] 0) (.box true As))) : LJ E ⟨some d, .alloc xt, t, pos, after, g⟩ s R := by
  rintro a w ⟨M, G, hX⟩
  obtain ⟨z, h1, h2⟩ := run_zero (P := E.P) hz w
  obtain ⟨Ts0, e1, e2, e3, e4⟩ := leaves_lit (w := w) (G := G) zs
  obtain ⟨Ts, f1, f2, f3, f4⟩ := nilUps Ts0 As (fun K hK => e4 K hK) (by rw [e2]; exact hN)
  rw [← f2] at e1
  have hrun : (execOp a.eval ⟨some d, .alloc xt, t, pos, after, g⟩).run E.P w = .ok (.value (.pointer (some ⟨w.heap.size, 0, none⟩))) (w.alloc (.cells (HT.values Ts).toArray xt)) := by
    simp only [e1, ← h2, Array.toArray_toList]
    simp [execOp, Instr.alloc, newVar, newRow, h1]
  unfold Oper.wp
  rw [hrun]
  refine ⟨_, ⟨_, G, hX.newBox hd xt f4 (by rw [← HT.blockss_eq, f3, HT.blockss_eq, e3]; exact List.nodup_nil) (by rw [← HT.blockss_eq, f3, HT.blockss_eq, e3]; simp)⟩, by rw [f1]; exact hR⟩
end

theorem openCs_get (r : Nat) (p : List Nat) : ∀ (o : Nat) (cs : List AV) (i : Nat), (openCs r p o cs)[i]? = (cs[i]?).map (openC r (p ++ [o + i]))
  | o, [], i => by simp [openCs]
  | o, c :: l, 0 => by simp [openCs]
  | o, c :: l, i + 1 => by
    simp only [openCs, List.getElem?_cons_succ]
    rw [openCs_get r p (o + 1) l i, show o + 1 + i = o + (i + 1) by omega]
theorem openCs_len (r : Nat) (p : List Nat) : ∀ (o : Nat) (cs : List AV), (openCs r p o cs).length = cs.length
  | o, [] => rfl
  | o, c :: l => by simp [openCs, openCs_len r p (o + 1) l]

/-- What is read of a variable in memory. -/
def viewOf (P : Program) (t : TypeId) (s : ASt) : AV → Option AV
  | .ptr r p o => if memN (nodeOf s r p) = true then (match agT P t with
      | some true => (match szT P t with
        | some n => if 0 < n ∧ o + n ≤ (cellsOf (nodeOf s r p)).length then some (.agg (openCs r p o (((cellsOf (nodeOf s r p)).drop o).take n))) else none
        | none => none)
      | some false => if o < (cellsOf (nodeOf s r p)).length then some (openC r (p ++ [o]) ((cellsOf (nodeOf s r p)).getD o .junk)) else none
      | none => none) else none
  | _ => none

theorem load_val {E : Env} {M : Nat → Option HT} {G : Nat → Prop} {s : ASt} {a : Act} {w : World} {t : TypeId} {x v : AV} {u : Value} (hX : RelX E M G s a w) (hx : VR w G M x u) (h : viewOf E.P t s x = some v) :
    ∃ A u', u = .pointer (some A) ∧ (loadVar t A).run E.P w = .ok u' w ∧ VR w G M v u' := by
  unfold viewOf at h
  split at h
  · rename_i r p o
    split at h
    · rename_i hm
      cases hA : nodeOf s r p with
      | none => rw [hA] at hm; cases hm
      | some A =>
        rw [hA] at hm h
        obtain ⟨T, N, hM, hN, rfl, hsT, hsN⟩ := nodeOf_spec hX hA
        rcases memN_spec hsN hm with ⟨sz, rfl⟩ | ⟨b, C, e, h1, h2, h3, h4, h5, h6, _⟩
        · exfalso
          have e0 : cellsOf (some (HT.nilrow sz).erase) = [] := rfl
          rw [e0] at h
          split at h
          · split at h
            · split at h
              · rename_i h0; simp at h0; omega
              · cases h
            · cases h
          · split at h
            · rename_i h0; simp at h0
            · cases h
          · cases h
        · rw [h3] at h
          have hp := ptr_val hX hx hM hN h1
          have hcell : ∀ i (hi : i < N.kids.length), w.cell? ⟨b, i, none⟩ = some N.kids[i].value := fun i hi => by simp [World.cell?, h2, h5 i _ (List.getElem?_eq_getElem hi)]
          split at h
          · rename_i ht
            split at h
            · rename_i n hz
              split at h
              · rename_i hle
                simp only [List.length_map] at hle
                simp only [Option.some.injEq] at h
                subst h
                have hf : ∀ j, j < n → w.cell? ((⟨b, o, none⟩ : Addr).add j) = some ((N.kids.getD (o + j) default).value) := fun j hj => by
                  rw [add0, hcell (o + j) (by omega)]
                  simp [List.getD, show o + j < N.kids.length by omega]
                refine ⟨_, .agg ((List.range n).map fun j => (N.kids.getD (o + j) default).value).toArray, hp, ?_, ?_⟩
                · simp [loadVar, run_agg ht, run_size hz, run_loadCells w _ n _ hf]
                · refine .agg _ _ (by rw [openCs_len]; simp; omega) (fun i c u' hc' hu => ?_)
                  rw [openCs_get] at hc'
                  have hi : i < n := by
                    rcases Nat.lt_or_ge i n with h | h
                    · exact h
                    · rw [List.getElem?_map, List.getElem?_eq_none (by simpa using h)] at hu; cases hu
                  rw [List.getElem?_map, List.getElem?_range hi] at hu
                  simp only [Option.map_some, Option.some.injEq] at hu
                  subst hu
                  rw [List.getElem?_take_of_lt hi, List.getElem?_drop, List.getElem?_map, List.getElem?_eq_getElem (show o + i < N.kids.length by omega)] at hc'
                  simp only [Option.map_some, Option.some.injEq] at hc'
                  subst hc'
                  have hk := List.getElem?_eq_getElem (show o + i < N.kids.length by omega)
                  have := open_val hX hM hN hk (hsN.kids _ _ hk)
                  simpa [List.getD, hk] using this
              · cases h
            · cases h
          · rename_i ht
            split at h
            · rename_i ho
              simp only [List.length_map] at ho
              simp only [Option.some.injEq] at h
              subst h
              refine ⟨_, N.kids[o].value, hp, by simp [loadVar, run_agg ht, hcell o ho], ?_⟩
              have hk := List.getElem?_eq_getElem ho
              have := open_val hX hM hN hk (hsN.kids _ _ hk)
              simpa [List.getD, hk] using this
            · cases h
          · cases h
    · cases h
  · cases h

section
variable {E : Env} {s s1 : ASt} {d : Nat} {x y : Operand} {t xt : TypeId} {pos : String} {after : Array Edge} {g : Option (Nat × Bool)} {R : ASt → Prop}
theorem Le.view {P : Program} {s s' : ASt} (h : Le s s') {t : TypeId} {x v : AV} (hv : viewOf P t s x = some v) : viewOf P t s' x = some v := by
  cases x with
  | ptr r p o =>
    simp only [viewOf] at hv ⊢
    cases hA : nodeOf s r p with
    | none => rw [hA] at hv; simp [memN] at hv
    | some A => rw [hA] at hv; rw [h.node hA]; exact hv
  | _ => simp [viewOf] at hv
theorem q_loadView {v : AV} (hn : d < E.nt) (h : viewOf E.P xt s (s.ev x) = some v) : QJ E ⟨some d, .load xt x, t, pos, after, g⟩ s v none :=
  .val rfl hn fun s' M G a w hle hX => by
    obtain ⟨A, u', h1, h2, h3⟩ := load_val hX (hX.evLe hle x) (hle.view h)
    exact ⟨u', w, by simp [execOp, h1, Instr.loadAt, Instr.sureAddr, h2], Ext.refl _ _, h3⟩
end

/-- What a result slot gives. -/
def rview (P : Program) (s : ASt) : ResultVar → Option AV
  | .tmp t => some (s.t t)
  | .cell a t => viewOf P t s (s.t a)
def rvSem (tmps : Array Value) : ResultVar → Sem Value
  | .tmp t => pure (tmps.getD t undef)
  | .cell a t => do loadVar t (← asAddr (tmps.getD a undef))
theorem rview_val {E : Env} {M : Nat → Option HT} {G : Nat → Prop} {s : ASt} {a : Act} {w : World} {x : ResultVar} {v : AV} (hX : RelX E M G s a w) (h : rview E.P s x = some v) :
    ∃ u, (rvSem a.tmps x).run E.P w = .ok u w ∧ VR w G M v u := by
  cases x with
  | tmp t => simp only [rview, Option.some.injEq] at h; subst h; exact ⟨_, rfl, hX.sl t⟩
  | cell c t =>
    obtain ⟨A, u', h1, h2, h3⟩ := load_val hX (hX.sl c) h
    exact ⟨u', by simp [rvSem, h1, asAddr, h2], h3⟩
theorem results_rv (fn : Func) (tmps : Array Value) : results fn tmps = (do let vs ← fn.results.mapM (rvSem tmps); pure (if h : vs.size = 1 then vs[0] else .tuple vs)) := by
  unfold results
  congr 1
theorem ret_v1 {E : Env} {fn : Func} {res : AV} {s s' : ASt} {x : ResultVar} {v : AV} (hr : fn.results = #[x]) (h1 : rview E.P s x = some v) (h : closeV s v = some (res, s')) : RetJ E fn res s := fun M G a w hX => by
  obtain ⟨u, g1, g2⟩ := rview_val hX h1
  obtain ⟨M', T, e1, e2, e3, e4, e5, e6, _⟩ := closeV_spec v h M G a w hX u g2
  refine ⟨T, ?_, e3, e4, e5, fun x hx => (e6 x hx).2.2⟩
  rw [results_rv, hr, e2]
  simp [g1]
end Go.Av
