/- Trees of the call's own: values put together, taken out, laid down elsewhere. -/
import Derived.Test.YtlcdgjgenccakaaDoorCK0
import Derived.Laws.IdiomCopy
import Derived.ArgAppend
import Derived.Laws.Tables
import Derived.Laws.Slices
import Derived.Laws.BytesString
import Derived.WalkSpells
import GoSem.Core.Float
section
set_option linter.unusedSimpArgs false
set_option linter.unusedVariables false
/-! Trees of the call's own: values put together, taken out, laid down elsewhere. -/
namespace Go.Av

/-- What lies at a place is put anew; slots that name what lay there name nothing any more. -/
theorem RelX.write2 {E : Env} {M : Nat → Option HT} {G : Nat → Prop} {s : ASt} {a : Act} {w w' : World} (h : RelX E M G s a w) {r : Nat} {p : List Nat} {T N N' : HT} (hr : M r = some T) (hp : T.at_ p = some N)
    (hv : N'.value = N.value) (ex : List Nat → Prop) (f : Nat → List Nat → Option (Nat × List Nat)) (hf : ∀ r0 p0 r' p', f r0 p0 = some (r', p') → r' = r0 ∧ p' = p0 ∧ ¬ (r0 = r ∧ ∃ q, p0 = p ++ q ∧ ex q)) (hh : Heads ex N N') (hw : Ext (fun x => x ∈ N.blocks) w w') (hs : Sat w' G N') (hnd : N'.blocks.Nodup)
    (hb : ∀ x ∈ N'.blocks, x ∈ N.blocks ∨ ((∀ r T, M r = some T → x ∉ T.blocks) ∧ x < w.heap.size ∧ ¬ G x ∧ (E.w0.heap.size ≤ x ∨ E.X x))) :
    RelX E (updF M r (some (T.upd p N'))) G ((s.updM r p N'.erase).mapT f) a w' := by
  have hN := at_blocks p hp
  have hsT := h.sat r T hr
  have hndT := h.nd r T hr
  have hG : ∀ b, G b → w'.heap[b]? = w.heap[b]? := fun b hg => hw.block b (h.gd b hg).1 (fun hx => (h.own r T hr b (hN b hx)).2.1 hg)
  have hmem := mem_blocks_upd p (N' := N') hp hndT
  refine ⟨fun q => ?_, fun q T' hT' => ?_, fun q T' hT' => ?_, fun q q' T1 T2 hq h1 h2 x hx hx' => ?_, fun q T' hT' x hx => ?_, fun x hx => ?_, h.g0, fun i => ?_, ?_, h.df, h.nt, h.n1, fun q v hv' => ?_⟩
  · simp only [ASt.mapT, ASt.updM, updF]
    split
    · rename_i e; subst e
      simp only [h.er, hr, Option.map_some]
      rw [erase_upd p hsT hp]
    · exact h.er q
  · simp only [updF] at hT'
    split at hT'
    · rename_i e; subst e
      cases hT'
      exact Sat.upd hG (fun _ hg => hg) p hsT hp hndT hv hs (fun b hb1 hb2 => hw.block b (h.own q T hr b hb1).1 hb2)
    · rename_i e
      exact (h.sat q T' hT').congr (fun b hx => hw.block b (h.own q T' hT' b hx).1 (fun hx' => h.dj q r T' T e hT' hr b hx (hN b hx'))) hG (fun _ hg => hg)
  · simp only [updF] at hT'
    split at hT'
    · cases hT'
      exact nodup_upd p hp hndT hnd (fun x hx hxT => (hb x hx).elim id (fun hf => absurd hxT (hf.1 r T hr)))
    · exact h.nd q T' hT'
  · have key : ∀ T3 q3, q3 ≠ r → M q3 = some T3 → ∀ y, y ∈ (T.upd p N').blocks → y ∉ T3.blocks := fun T3 q3 hq3 h3 y hy hy3 => by
      rcases hmem y hy with h4 | ⟨h4, _⟩
      · rcases hb y h4 with h5 | h5
        · exact h.dj r q3 T T3 (Ne.symm hq3) hr h3 y (hN y h5) hy3
        · exact h5.1 q3 T3 h3 hy3
      · exact h.dj r q3 T T3 (Ne.symm hq3) hr h3 y h4 hy3
    simp only [updF] at h1 h2
    split at h1 <;> split at h2
    · omega
    · cases h1; exact key T2 q' (by assumption) h2 x hx hx'
    · cases h2; exact key T1 q (by assumption) h1 x hx' hx
    · exact h.dj q q' T1 T2 hq h1 h2 x hx hx'
  · simp only [updF] at hT'
    split at hT'
    · cases hT'
      have : x ∈ T.blocks ∨ (x < w.heap.size ∧ ¬ G x ∧ (E.w0.heap.size ≤ x ∨ E.X x)) := by
        rcases hmem x hx with h4 | ⟨h4, _⟩
        · rcases hb x h4 with h5 | h5
          · exact .inl (hN x h5)
          · exact .inr h5.2
        · exact .inl h4
      rcases this with h4 | ⟨h5, h6, h7⟩
      · obtain ⟨h5, h6, h7⟩ := h.own r T hr x h4
        exact ⟨Nat.lt_of_lt_of_le h5 hw.size, h6, h7⟩
      · exact ⟨Nat.lt_of_lt_of_le h5 hw.size, h6, h7⟩
    · obtain ⟨h5, h6, h7⟩ := h.own q T' hT' x hx
      exact ⟨Nat.lt_of_lt_of_le h5 hw.size, h6, h7⟩
  · obtain ⟨h1, h2⟩ := h.gd x hx
    exact ⟨Nat.lt_of_lt_of_le h1 hw.size, h2⟩
  · refine ((h.sl i).congr hG (fun _ hg => hg)).mapRef (fun q p' q1 p1 hfe T' M' hT' hM' hm => ?_)
    obtain ⟨rfl, rfl, hne⟩ := hf _ _ _ _ hfe
    simp only [updF] at hT'
    split at hT'
    · rename_i e; subst e; cases hT'
      obtain ⟨M1, h1, h2⟩ := Heads.upd p hp hh p1 M' (fun h => hne ⟨rfl, h⟩) hM' hm
      exact ⟨T, M1, hr, h1, h2⟩
    · exact ⟨T', M', hT', hM', rfl⟩
  · exact h.ext.trans hw (fun i hi hx => (h.own r T hr i (hN i hx)).2.2.resolve_left (by omega))
  · obtain ⟨h1, T', h2, h3⟩ := h.pv q v hv'
    by_cases e : q = r
    · subst e
      rw [hr] at h2; cases h2
      exact ⟨h1, T.upd p N', by simp [updF], (value_upd p hp hv).trans h3⟩
    · exact ⟨h1, T', by simp only [updF, e, if_false]; exact h2, h3⟩


def setL {α : Type} (cs : List α) (o : Nat) (vs : List α) : List α := cs.take o ++ (vs ++ cs.drop (o + vs.length))
theorem setL_len {α : Type} {cs vs : List α} {o : Nat} (h : o + vs.length ≤ cs.length) : (setL cs o vs).length = cs.length := by simp [setL]; omega
theorem setL_map {α β : Type} (f : α → β) (cs vs : List α) (o : Nat) : (setL cs o vs).map f = setL (cs.map f) o (vs.map f) := by simp [setL, List.map_take, List.map_drop]
theorem setL_get {α : Type} {cs vs : List α} {o : Nat} (h : o + vs.length ≤ cs.length) (i : Nat) : (setL cs o vs)[i]? = if o ≤ i ∧ i < o + vs.length then vs[i - o]? else cs[i]? := by
  have hto : (cs.take o).length = o := by simp; omega
  unfold setL
  by_cases h1 : i < o
  · rw [List.getElem?_append_left (by omega), List.getElem?_take, if_pos h1, if_neg (by omega)]
  · rw [List.getElem?_append_right (by omega), hto]
    by_cases h2 : i - o < vs.length
    · rw [List.getElem?_append_left h2, if_pos (by omega)]
    · rw [List.getElem?_append_right (by omega), List.getElem?_drop, if_neg (by omega)]
      congr 1; omega
theorem setL_split {α : Type} {cs : List α} {o n : Nat} : cs = cs.take o ++ ((cs.drop o).take n ++ cs.drop (o + n)) := by
  rw [← List.drop_drop, List.take_append_drop, List.take_append_drop]

theorem setCells_fx (b : Nat) : ∀ (us : List Value) (o : Nat) (w : World) (C : Array Value) (e : TypeId) (fr : Nat × Nat), w.heap[b]? = some (.cells C e fr) → o + us.length ≤ C.size →
    ∃ C' : Array Value, (w.setCells b o us).heap[b]? = some (.cells C' e fr) ∧ C'.size = C.size ∧ (∀ i, C'[i]? = if o ≤ i ∧ i < o + us.length then us[i - o]? else C[i]?) ∧ (∀ k, k ≠ b → (w.setCells b o us).heap[k]? = w.heap[k]?) ∧
      (w.setCells b o us).os = w.os ∧ (w.setCells b o us).tape = w.tape ∧ (w.setCells b o us).output = w.output ∧ (w.setCells b o us).heap.size = w.heap.size
  | [], o, w, C, e, fr, h, hl => ⟨C, h, rfl, fun i => by rw [if_neg (by simp only [List.length_nil]; omega)], fun k _ => rfl, rfl, rfl, rfl, rfl⟩
  | u :: us, o, w, C, e, fr, h, hl => by
    have h1 : (w.setCell ⟨b, o, none⟩ u).heap[b]? = some (.cells (C.setIfInBounds o u) e fr) := by simp [World.setCell, Array.getElem?_modify, h]
    simp only [List.length_cons] at hl
    obtain ⟨C', g1, g2, g3, g4, g5, g6, g7, g8⟩ := setCells_fx b us (o + 1) (w.setCell ⟨b, o, none⟩ u) _ e fr h1 (by simp; omega)
    refine ⟨C', g1, by rw [g2]; simp, fun i => ?_, fun k hk => ?_, g5, g6, g7, by rw [show (w.setCells b o (u :: us)).heap.size = _ from g8]; simp [World.setCell]⟩
    · rw [g3 i]
      by_cases h2 : i = o
      · subst h2
        rw [if_neg (by omega), if_pos (by simp), Array.getElem?_setIfInBounds, if_pos rfl, if_pos (by omega)]
        simp
      · by_cases h3 : o + 1 ≤ i ∧ i < o + 1 + us.length
        · rw [if_pos h3, if_pos (by simp; omega), show i - o = (i - (o + 1)) + 1 by omega, List.getElem?_cons_succ]
        · rw [if_neg h3, if_neg (by simp; omega), Array.getElem?_setIfInBounds_ne (by omega)]
    · rw [show (w.setCells b o (u :: us)).heap[k]? = _ from g4 k hk]
      simp only [World.setCell, Array.getElem?_modify]
      rw [if_neg (by simpa using hk.symm)]

def under : List Nat → Nat → Nat → List Nat → Bool
  | [], _, _, [] => false
  | [], o, n, i :: _ => decide (o ≤ i) && decide (i < o + n)
  | _ :: _, _, _, [] => false
  | a :: p, o, n, b :: q => (a == b) && under p o n q
theorem under_spec : ∀ (p : List Nat) (o n : Nat) (q : List Nat), under p o n q = false → ¬ ∃ q', q = p ++ q' ∧ ∃ i q'', q' = i :: q'' ∧ o ≤ i ∧ i < o + n
  | [], o, n, [], _, ⟨q', h, i, q'', h', _⟩ => by subst h'; simp at h
  | [], o, n, i :: q, hu, ⟨q', h, j, q'', h', h1, h2⟩ => by
    subst h'
    simp only [List.nil_append, List.cons.injEq] at h
    obtain ⟨rfl, _⟩ := h
    simp [under, h1] at hu
    omega
  | a :: p, o, n, [], _, ⟨q', h, _⟩ => by simp at h
  | a :: p, o, n, b :: q, hu, ⟨q', h, k⟩ => by
    simp only [List.cons_append, List.cons.injEq] at h
    obtain ⟨rfl, h⟩ := h
    simp only [under, beq_self_eq_true, Bool.true_and] at hu
    exact under_spec p o n q hu ⟨q', h, k⟩
def killR (r : Nat) (p : List Nat) (o n : Nat) : Nat → List Nat → Option (Nat × List Nat) := fun r' p' => if r' = r then (if under p o n p' = true then none else some (r', p')) else some (r', p')

theorem flat_setL {ks vs : List HT} {o : Nat} : (∀ x, x ∈ (setL ks o vs).flatMap HT.blocks → x ∈ ks.flatMap HT.blocks ∨ x ∈ vs.flatMap HT.blocks) ∧
    ((ks.flatMap HT.blocks).Nodup → (vs.flatMap HT.blocks).Nodup → (∀ x ∈ vs.flatMap HT.blocks, x ∉ ks.flatMap HT.blocks) → ((setL ks o vs).flatMap HT.blocks).Nodup) := by
  have e : ks.flatMap HT.blocks = (ks.take o).flatMap HT.blocks ++ (((ks.drop o).take vs.length).flatMap HT.blocks ++ (ks.drop (o + vs.length)).flatMap HT.blocks) := by
    rw [← List.flatMap_append, ← List.flatMap_append, ← setL_split]
  have e2 : (setL ks o vs).flatMap HT.blocks = (ks.take o).flatMap HT.blocks ++ (vs.flatMap HT.blocks ++ (ks.drop (o + vs.length)).flatMap HT.blocks) := by
    simp [setL]
  rw [e, e2]
  constructor
  · intro x hx
    simp only [List.mem_append] at hx ⊢
    rcases hx with h | h | h
    · exact .inl (.inl h)
    · exact .inr h
    · exact .inl (.inr (.inr h))
  · intro h1 h2 h3
    simp only [List.nodup_append, List.mem_append] at h1 ⊢
    obtain ⟨a1, ⟨a2, a3, a4⟩, a5⟩ := h1
    refine ⟨a1, ⟨h2, a3, fun x hx y hy e => ?_⟩, fun x hx y hy e => ?_⟩
    · subst e; exact h3 x hx (by simp only [List.mem_append]; exact .inr (.inr hy))
    · subst e
      rcases hy with hy | hy
      · exact h3 x hy (by simp only [List.mem_append]; exact .inl hx)
      · exact a5 x hx x (.inr hy) rfl

/-- Cells of a node are written: trees are laid there. -/
theorem RelX.lay_facts {E : Env} {M : Nat → Option HT} {G : Nat → Prop} {s : ASt} {a : Act} {w : World} (hX : RelX E M G s a w) {r o b : Nat} {p : List Nat} {T N : HT} {C : Array Value} {e : TypeId} (hM : M r = some T) (hN : T.at_ p = some N)
    (hb : N.ownb = [b]) (hC : w.heap[b]? = some (.cells C e (0, 0))) {Ks : List HT} (ho : o + Ks.length ≤ N.kids.length) (h0 : 0 < Ks.length) (hsat : ∀ K ∈ Ks, Sat w G K) (hnd : (Ks.flatMap HT.blocks).Nodup)
    (hfree : ∀ x ∈ Ks.flatMap HT.blocks, (∀ r T, M r = some T → x ∉ T.blocks) ∧ x < w.heap.size ∧ ¬ G x ∧ (E.w0.heap.size ≤ x ∨ E.X x)) :
    (N.withKids (setL N.kids o Ks)).value = N.value ∧ Ext (fun x => x ∈ N.blocks) w (w.setCells b o (Ks.map HT.value)) ∧ Sat (w.setCells b o (Ks.map HT.value)) G (N.withKids (setL N.kids o Ks)) ∧ (N.withKids (setL N.kids o Ks)).blocks.Nodup ∧
    (∀ x ∈ (N.withKids (setL N.kids o Ks)).blocks, x ∈ N.blocks ∨ ((∀ r T, M r = some T → x ∉ T.blocks) ∧ x < w.heap.size ∧ ¬ G x ∧ (E.w0.heap.size ≤ x ∨ E.X x))) ∧
    (∀ j q M', (N.withKids (setL N.kids o Ks)).at_ (j :: q) = some M' → (∃ K, Ks[j - o]? = some K ∧ o ≤ j ∧ j < o + Ks.length ∧ K.at_ q = some M') ∨ (¬ (o ≤ j ∧ j < o + Ks.length) ∧ N.at_ (j :: q) = some M')) ∧ (N.withKids (setL N.kids o Ks)).hd = N.hd := by
  have hsN := (hX.sat r T hM).at_ p hN
  have hkC : N.kids.length ≤ C.size ∧ ∀ (i : Nat) (T : HT), N.kids[i]? = some T → C[i]? = some T.value := by
    cases hsN with
    | row b' sz n cap cs C' e' g1 g2 g3 g4 g5 g6 g7 g8 =>
      simp only [HT.ownb, List.cons.injEq, and_true] at hb; subst hb
      rw [g1] at hC; cases hC
      exact ⟨by simp only [HT.kids, g2, g4]; exact Nat.mul_le_mul_right _ g3, g7⟩
    | box b' cs C' e' g1 g2 g7 g8 =>
      simp only [HT.ownb, List.cons.injEq, and_true] at hb; subst hb
      rw [g1] at hC; cases hC
      exact ⟨by simp only [HT.kids, g2]; exact Nat.le_refl _, g7⟩
    | _ => simp [HT.ownb] at hb
  obtain ⟨C', c1, c2, c3, c4, c5, c6, c7, c8⟩ := setCells_fx b (Ks.map HT.value) o w C e (0, 0) hC (by simp; omega)
  have hc0 : N.kids[o]? = some N.kids[o] := List.getElem?_eq_getElem (by omega)
  have hbN : b ∈ N.blocks := by rw [HT.blocks_kids, hb]; simp
  have hbG : ¬ G b := (hX.own r T hM b (at_blocks p hN b hbN)).2.1
  have hG : ∀ k, G k → (w.setCells b o (Ks.map HT.value)).heap[k]? = w.heap[k]? := fun k hk => c4 k (fun e => hbG (e ▸ hk))
  have hndN : N.blocks.Nodup := (hX.take hM hN).2.2.1
  rw [HT.blocks_kids, hb] at hndN
  have hbk : b ∉ N.kids.flatMap HT.blocks := by
    simp only [List.cons_append, List.nil_append, List.nodup_cons] at hndN; exact hndN.1
  have hndk : (N.kids.flatMap HT.blocks).Nodup := by
    simp only [List.cons_append, List.nil_append, List.nodup_cons] at hndN; exact hndN.2
  have hbK : b ∉ Ks.flatMap HT.blocks := fun h => (hfree b h).1 r T hM (at_blocks p hN b hbN)
  have hdis : ∀ x ∈ Ks.flatMap HT.blocks, x ∉ N.kids.flatMap HT.blocks := fun x hx hx' => (hfree x hx).1 r T hM (at_blocks p hN x (by rw [HT.blocks_kids]; simp only [List.mem_append]; exact .inr hx'))
  have hlen := setL_len ho
  have hkids : ∀ i c, (setL N.kids o Ks)[i]? = some c → C'[i]? = some c.value ∧ Sat (w.setCells b o (Ks.map HT.value)) G c := fun i c hc => by
    rw [setL_get ho] at hc
    rw [c3 i]
    simp only [List.length_map]
    by_cases hi : o ≤ i ∧ i < o + Ks.length
    · rw [if_pos hi] at hc ⊢
      rw [List.getElem?_map, hc]
      have hm := List.mem_of_getElem? hc
      exact ⟨rfl, (hsat c hm).congr (fun k hk => c4 k (fun e => hbK (List.mem_flatMap.2 ⟨c, hm, e ▸ hk⟩))) hG (fun _ h => h)⟩
    · rw [if_neg hi] at hc ⊢
      exact ⟨hkC.2 i c hc, (hsN.kids i c hc).congr (fun k hk => c4 k (fun e => hbk (List.mem_flatMap.2 ⟨c, List.mem_of_getElem? hc, e ▸ hk⟩))) hG (fun _ h => h)⟩
  refine ⟨?_, ?_, ?_, ?_, ?_, ?_, HT.withKids_hd hc0 _⟩
  · cases N <;> simp [HT.ownb] at hb <;> simp [HT.withKids, HT.value]
  · exact ⟨c5, c6, c7, by rw [c8]; exact Nat.le_refl _, fun k hk hkb => c4 k (fun e => hkb (e ▸ hbN))⟩
  · cases hsN with
    | row b' sz n cap cs C0 e' g1 g2 g3 g4 g5 g6 g7 g8 =>
      simp only [HT.ownb, List.cons.injEq, and_true] at hb; subst hb
      rw [g1] at hC; cases hC
      exact .row _ _ _ _ _ _ _ c1 (by simpa [HT.kids] using hlen.trans g2) g3 (c2.trans g4) g5 g6 (fun i c hc' => (hkids i c hc').1) (fun i c hc' => (hkids i c hc').2)
    | box b' cs C0 e' g1 g2 g7 g8 =>
      simp only [HT.ownb, List.cons.injEq, and_true] at hb; subst hb
      rw [g1] at hC; cases hC
      exact .box _ _ _ _ c1 (by simpa [HT.kids] using (hlen.trans g2).trans c2.symm) (fun i c hc' => (hkids i c hc').1) (fun i c hc' => (hkids i c hc').2)
    | _ => simp [HT.ownb] at hb
  · rw [HT.withKids_blocks hc0, hb]
    simp only [List.cons_append, List.nil_append, List.nodup_cons]
    exact ⟨fun hx => (flat_setL.1 b hx).elim hbk hbK, flat_setL.2 hndk hnd hdis⟩
  · intro z hz
    rw [HT.withKids_blocks hc0] at hz
    rw [HT.blocks_kids]
    simp only [List.mem_append] at hz ⊢
    rcases hz with h | h
    · exact .inl (.inl h)
    · rcases flat_setL.1 z h with h | h
      · exact .inl (.inr h)
      · exact .inr (hfree z h)
  · intro j q M' hq
    simp only [HT.at_, HT.withKids_kids hc0] at hq
    rw [setL_get ho] at hq
    by_cases hj : o ≤ j ∧ j < o + Ks.length
    · rw [if_pos hj] at hq
      split at hq
      · rename_i K hK; exact .inl ⟨K, hK, hj.1, hj.2, hq⟩
      · cases hq
    · rw [if_neg hj] at hq
      exact .inr ⟨hj, by simpa only [HT.at_] using hq⟩

theorem RelX.lay {E : Env} {M : Nat → Option HT} {G : Nat → Prop} {s : ASt} {a : Act} {w : World} (hX : RelX E M G s a w) {r o b : Nat} {p : List Nat} {T N : HT} {C : Array Value} {e : TypeId} (hM : M r = some T) (hN : T.at_ p = some N)
    (hb : N.ownb = [b]) (hC : w.heap[b]? = some (.cells C e (0, 0))) {Ks : List HT} (ho : o + Ks.length ≤ N.kids.length) (h0 : 0 < Ks.length) (hsat : ∀ K ∈ Ks, Sat w G K) (hnd : (Ks.flatMap HT.blocks).Nodup)
    (hfree : ∀ x ∈ Ks.flatMap HT.blocks, (∀ r T, M r = some T → x ∉ T.blocks) ∧ x < w.heap.size ∧ ¬ G x ∧ (E.w0.heap.size ≤ x ∨ E.X x)) :
    RelX E (updF M r (some (T.upd p (N.withKids (setL N.kids o Ks))))) G ((s.updM r p (N.withKids (setL N.kids o Ks)).erase).mapT (killR r p o Ks.length)) a (w.setCells b o (Ks.map HT.value)) := by
  obtain ⟨f1, f2, f3, f4, f5, f6, f7⟩ := hX.lay_facts hM hN hb hC ho h0 hsat hnd hfree
  refine hX.write2 hM hN (N' := N.withKids (setL N.kids o Ks)) f1 (fun q => ∃ i q'', q = i :: q'' ∧ o ≤ i ∧ i < o + Ks.length) (killR r p o Ks.length) ?_ ?_ f2 f3 f4 f5
  · intro r0 p0 r' p' h
    simp only [killR] at h
    split at h
    · split at h
      · cases h
      · rename_i e1 e2
        cases h
        exact ⟨rfl, rfl, fun ⟨_, q, h1, i, q'', h2⟩ => under_spec p o Ks.length p0 (by simpa using e2) ⟨q, h1, i, q'', h2⟩⟩
    · rename_i e1
      cases h
      exact ⟨rfl, rfl, fun h => e1 h.1⟩
  · intro q M' hx hq hmem
    cases q with
    | nil => simp only [HT.at_, Option.some.injEq] at hq; subst hq; exact ⟨N, rfl, f7.symm⟩
    | cons j q =>
      rcases f6 j q M' hq with ⟨K, h1, h2, h3, _⟩ | ⟨_, h1⟩
      · exact absurd ⟨j, q, rfl, h2, h3⟩ hx
      · exact ⟨M', h1, rfl⟩
/-- The same, with leaves alone. -/
theorem RelX.layLeaves {E : Env} {M : Nat → Option HT} {G : Nat → Prop} {s : ASt} {a : Act} {w : World} (hX : RelX E M G s a w) {r o b : Nat} {p : List Nat} {T N : HT} {C : Array Value} {e : TypeId} (hM : M r = some T) (hN : T.at_ p = some N)
    (hb : N.ownb = [b]) (hC : w.heap[b]? = some (.cells C e (0, 0))) {Ks : List HT} (ho : o + Ks.length ≤ N.kids.length) (h0 : 0 < Ks.length) (hsat : ∀ K ∈ Ks, Sat w G K) (hnd : (Ks.flatMap HT.blocks).Nodup)
    (hleaf : ∀ K ∈ Ks, K.isMem = false ∧ K.kids = [])
    (hfree : ∀ x ∈ Ks.flatMap HT.blocks, (∀ r T, M r = some T → x ∉ T.blocks) ∧ x < w.heap.size ∧ ¬ G x ∧ (E.w0.heap.size ≤ x ∨ E.X x)) :
    RelX E (updF M r (some (T.upd p (N.withKids (setL N.kids o Ks))))) G (s.updM r p (N.withKids (setL N.kids o Ks)).erase) a (w.setCells b o (Ks.map HT.value)) := by
  obtain ⟨f1, f2, f3, f4, f5, f6, f7⟩ := hX.lay_facts hM hN hb hC ho h0 hsat hnd hfree
  refine hX.write hM hN (N' := N.withKids (setL N.kids o Ks)) f1 ?_ f2 f3 f4 f5
  intro q M' hx hq hmem
  cases q with
  | nil => simp only [HT.at_, Option.some.injEq] at hq; subst hq; exact ⟨N, rfl, f7.symm⟩
  | cons j q =>
    rcases f6 j q M' hq with ⟨K, h1, h2, h3, h4⟩ | ⟨_, h1⟩
    · obtain ⟨g1, g2⟩ := hleaf K (List.mem_of_getElem? h1)
      cases q with
      | nil => simp only [HT.at_, Option.some.injEq] at h4; subst h4; rw [g1] at hmem; cases hmem
      | cons i q => simp [HT.at_, g2] at h4
    · exact ⟨M', h1, rfl⟩

/-- A whole row of the call's own. -/
theorem close_whole {E : Env} {s : ASt} {r : Nat} {p : List Nat} {sz n : Nat} {cs : List AV} (hA : nodeOf s r p = some (.row true sz n cs)) : CloseJ E s (.sl r p 0 n) (.row true sz n cs) (s.updM r p .junk) := fun M G a w hX u hv => by
  obtain ⟨T, N, hM, hN, he, _, hsN⟩ := nodeOf_spec hX hA
  have hlen : cs.length = n * sz := by
    cases hsN with
    | row b sz' n' cap cs' C e g1 g2 =>
      simp only [HT.erase, AV.row.injEq, true_and, HT.erases_eq] at he
      obtain ⟨rfl, rfl, rfl⟩ := he
      simpa using g2
    | nilrow sz' =>
      simp only [HT.erase, AV.row.injEq, true_and] at he
      obtain ⟨rfl, rfl, rfl⟩ := he
      simp
    | leaf a' v' ha _ => simp only [HT.erase] at he; subst he; simp [AV.leafOk] at ha
    | box => simp [HT.erase] at he
    | agg => simp [HT.erase] at he
    | tup => simp [HT.erase] at he
  unfold nodeOf at hA
  cases hm : s.m r with
  | none => rw [hm] at hA; cases hA
  | some A =>
    rw [hm] at hA
    have := close_sl (E := E) hm hA (Nat.le_refl n)
    rw [List.take_of_length_le (by omega)] at this
    exact this M G a w hX u hv

/-- A variable of the call's own. -/
theorem close_box {E : Env} {s : ASt} {r : Nat} {p : List Nat} {cs : List AV} (hA : nodeOf s r p = some (.box true cs)) : CloseJ E s (.ptr r p 0) (.box true cs) (s.updM r p .junk) := fun M G a w hX u hv => by
  obtain ⟨T, N, hM, hN, he, _, hsN⟩ := nodeOf_spec hX hA
  obtain ⟨h1, h2, h3, h4⟩ := hX.take hM hN
  refine ⟨_, N, h1, ?_, he, h2, h3, fun x hx => ⟨⟨r, T, hM, at_blocks p hN x hx⟩, h4 x hx⟩, fun v u h => h.heads (fun q p' T' M' hT' hM' hm' => ?_), fun q T' hq x hx => ?_⟩
  · cases hsN with
    | box b cs' C e g1 g2 =>
      cases hv with
      | ptr _ _ _ _ _ h' => rw [h' T hM _ _ hN]; rfl
    | leaf a' v' ha _ => simp only [HT.erase] at he; subst he; simp [AV.leafOk] at ha
    | row => simp [HT.erase] at he
    | nilrow => simp [HT.erase] at he
    | agg => simp [HT.erase] at he
    | tup => simp [HT.erase] at he
  · simp only [updF] at hT'
    split at hT'
    · rename_i e; subst e; cases hT'
      obtain ⟨M1, g1, g2⟩ := Heads.upd p hN (Heads.leaf (fun _ => False) N .junk N.value) p' M' (by simp) hM' hm'
      exact ⟨T, M1, hM, g1, g2⟩
    · exact ⟨T', M', hT', hM', rfl⟩
  · simp only [updF] at hq
    split at hq
    · cases hq
      rcases mem_blocks_upd p hN (hX.nd r T hM) x hx with g | ⟨g, _⟩
      · simp [HT.blocks] at g
      · exact ⟨r, T, hM, g⟩
    · exact ⟨q, T', hq, hx⟩

mutual
/-- What a slot holds, with all that belongs to it, is taken out: what it is; what is left. -/
def closeV (s : ASt) : AV → Option (AV × ASt)
  | .lit v => some (.lit v, s)
  | .row false sz n cs => some (.row false sz n cs, s)
  | .box false cs => some (.box false cs, s)
  | .fn f cs => if AV.noRefs cs = true then some (.fn f cs, s) else none
  | .sl r p off len => match nodeOf s r p with
    | some (.row true sz n cs) => if off = 0 ∧ len = n then some (.row true sz n cs, s.updM r p .junk) else none
    | _ => none
  | .ptr r p o => match nodeOf s r p with
    | some (.box true cs) => if o = 0 then some (.box true cs, s.updM r p .junk) else none
    | _ => none
  | .agg cs => match closeVs s cs with
    | some (As, s') => some (.agg As, s')
    | none => none
  | .tup cs => match closeVs s cs with
    | some (As, s') => some (.tup As, s')
    | none => none
  | _ => none
def closeVs (s : ASt) : List AV → Option (List AV × ASt)
  | [] => some ([], s)
  | v :: vs => match closeV s v with
    | some (A, s1) => match closeVs s1 vs with
      | some (As, s2) => some (A :: As, s2)
      | none => none
    | none => none
end
mutual
theorem closeV_spec {E : Env} : ∀ (v : AV) {s s' : ASt} {A : AV}, closeV s v = some (A, s') → CloseJ E s v A s'
  | .lit v, s, s', A, h => by simp only [closeV, Option.some.injEq, Prod.mk.injEq] at h; obtain ⟨rfl, rfl⟩ := h; exact close_free rfl
  | .row true sz n cs, s, s', A, h => by simp [closeV] at h
  | .row false sz n cs, s, s', A, h => by simp only [closeV, Option.some.injEq, Prod.mk.injEq] at h; obtain ⟨rfl, rfl⟩ := h; exact close_free rfl
  | .box true cs, s, s', A, h => by simp [closeV] at h
  | .box false cs, s, s', A, h => by simp only [closeV, Option.some.injEq, Prod.mk.injEq] at h; obtain ⟨rfl, rfl⟩ := h; exact close_free rfl
  | .fn f cs, s, s', A, h => by
    simp only [closeV] at h
    split at h
    · rename_i hn
      simp only [Option.some.injEq, Prod.mk.injEq] at h; obtain ⟨rfl, rfl⟩ := h; exact close_free (by simpa [AV.noRef] using hn)
    · cases h
  | .sl r p off len, s, s', A, h => by
    simp only [closeV] at h
    split at h
    · rename_i sz n cs hn
      split at h
      · rename_i e
        obtain ⟨rfl, rfl⟩ := e
        simp only [Option.some.injEq, Prod.mk.injEq] at h; obtain ⟨rfl, rfl⟩ := h
        exact close_whole hn
      · cases h
    · cases h
  | .ptr r p o, s, s', A, h => by
    simp only [closeV] at h
    split at h
    · rename_i cs hn
      split at h
      · rename_i e
        subst e
        simp only [Option.some.injEq, Prod.mk.injEq] at h; obtain ⟨rfl, rfl⟩ := h
        exact close_box hn
      · cases h
    · cases h
  | .agg cs, s, s', A, h => by
    simp only [closeV] at h
    split at h
    · rename_i As s1 h1
      simp only [Option.some.injEq, Prod.mk.injEq] at h; obtain ⟨rfl, rfl⟩ := h
      exact close_agg (closeVs_spec cs h1)
    · cases h
  | .tup cs, s, s', A, h => by
    simp only [closeV] at h
    split at h
    · rename_i As s1 h1
      simp only [Option.some.injEq, Prod.mk.injEq] at h; obtain ⟨rfl, rfl⟩ := h
      exact close_tup (closeVs_spec cs h1)
    · cases h
  | .junk, s, s', A, h => by simp [closeV] at h
theorem closeVs_spec {E : Env} : ∀ (vs : List AV) {s s' : ASt} {As : List AV}, closeVs s vs = some (As, s') → CloseLJ E s vs As s'
  | [], s, s', As, h => by simp only [closeVs, Option.some.injEq, Prod.mk.injEq] at h; obtain ⟨rfl, rfl⟩ := h; exact close_nil
  | v :: vs, s, s', As, h => by
    simp only [closeVs] at h
    split at h
    · rename_i A s1 h1
      split at h
      · rename_i Bs s2 h2
        simp only [Option.some.injEq, Prod.mk.injEq] at h; obtain ⟨rfl, rfl⟩ := h
        exact close_cons (closeV_spec v h1) (closeVs_spec vs h2)
      · cases h
    · cases h
end

def AV.parts : AV → List AV
  | .agg cs => cs
  | a => [a]
/-- May it lie in one cell? -/
def fitC : AV → Bool
  | .lit v => v.oneCell'
  | .row _ _ _ _ => true
  | .box _ _ => true
  | .fn _ _ => true
  | _ => false
def fitCs : List AV → Bool
  | [] => true
  | a :: r => fitC a && fitCs r
theorem fitCs_mem {l : List AV} : fitCs l = true ↔ ∀ a ∈ l, fitC a = true := by
  induction l with
  | nil => simp [fitCs]
  | cons a r ih => simp [fitCs, ih]
theorem fit_val {w : World} {G : Nat → Prop} {T : HT} (hs : Sat w G T) (h : fitC T.erase = true) : T.value.oneCell' = true ∧ T.value.cells = #[T.value] := by
  cases hs with
  | leaf a v ha hv =>
    simp only [HT.erase] at h
    simp only [HT.value]
    cases hv with
    | lit => cases v <;> simp_all [fitC, Value.oneCell', Value.cells]
    | row0 => simp [Value.oneCell', Value.cells]
    | row => simp [Value.oneCell', Value.cells]
    | box => simp [Value.oneCell', Value.cells]
    | fn => simp [Value.oneCell', Value.cells]
    | _ => simp [fitC] at h
  | row => simp [HT.value, Value.oneCell', Value.cells]
  | nilrow => simp [HT.value, Value.oneCell', Value.cells]
  | box => simp [HT.value, Value.oneCell', Value.cells]
  | agg => simp [HT.erase, fitC] at h
  | tup => simp [HT.erase, fitC] at h

theorem parts_val {E : Env} {M : Nat → Option HT} {G : Nat → Prop} {s s1 : ASt} {a : Act} {w : World} {v : AV} {u : Value} {As : List AV} (hX : RelX E M G s a w) (hv : VR w G M v u) (hc : closeVs s v.parts = some (As, s1)) (hf : fitCs As = true) :
    ∃ M' Ts, RelX E M' G s1 a w ∧ u.cells = (HT.values Ts).toArray ∧ HT.erases Ts = As ∧ (∀ K ∈ Ts, Sat w G K ∧ K.value.oneCell' = true) ∧ (Ts.flatMap HT.blocks).Nodup ∧
      (∀ x ∈ Ts.flatMap HT.blocks, (∀ r T, M' r = some T → x ∉ T.blocks) ∧ x < w.heap.size ∧ ¬ G x ∧ (E.w0.heap.size ≤ x ∨ E.X x)) ∧ (∀ v u, VR w G M v u → VR w G M' v u) := by
  have key : ∃ us : List Value, us.length = v.parts.length ∧ (∀ (i : Nat) (c : AV) (x : Value), v.parts[i]? = some c → us[i]? = some x → VR w G M c x) ∧ (∀ Ts : List HT, HT.values Ts = us → (∀ K ∈ Ts, Sat w G K) → HT.erases Ts = As → u.cells = us.toArray) := by
    have one : v.parts = [v] → ∃ us : List Value, us.length = v.parts.length ∧ (∀ (i : Nat) (c : AV) (x : Value), v.parts[i]? = some c → us[i]? = some x → VR w G M c x) ∧ (∀ Ts : List HT, HT.values Ts = us → (∀ K ∈ Ts, Sat w G K) → HT.erases Ts = As → u.cells = us.toArray) := fun e => by
      rw [e]
      refine ⟨[u], rfl, fun i c x h1 h2 => ?_, fun Ts h1 h2 h3 => ?_⟩
      · cases i with
        | zero => simp only [List.getElem?_cons_zero, Option.some.injEq] at h1 h2; subst h1; subst h2; exact hv
        | succ i => simp at h1
      · cases Ts with
        | nil => simp [HT.values] at h1
        | cons K r =>
          simp only [HT.values, List.cons.injEq] at h1
          obtain ⟨h1, h4⟩ := h1
          subst h1
          exact (fit_val (h2 K (by simp)) (fitCs_mem.1 hf _ (by rw [← h3, HT.erases_eq]; simp))).2
    cases v with
    | agg cs =>
      cases hv with
      | agg _ us hl hh => exact ⟨us, hl, hh, fun _ _ _ _ => rfl⟩
    | _ => exact one rfl
  obtain ⟨us, hl, hh, hu⟩ := key
  obtain ⟨M', Ts, h1, h2, h3, h4, h5, h6, h7, _⟩ := closeVs_spec (E := E) v.parts hc M G a w hX us hl hh
  have hsat : ∀ K ∈ Ts, Sat w G K := fun K hK => by
    obtain ⟨i, hi⟩ := List.getElem?_of_mem hK
    exact h4 i K hi
  refine ⟨M', Ts, h1, by rw [hu Ts h2 hsat h3, h2], h3, fun K hK => ⟨hsat K hK, ?_⟩, by rw [← HT.blockss_eq]; exact h5, fun x hx => by rw [← HT.blockss_eq] at hx; exact (h6 x hx).2, h7⟩
  refine (fit_val (hsat K hK) (fitCs_mem.1 hf _ ?_)).1
  rw [← h3, HT.erases_eq]
  exact List.mem_map.2 ⟨K, hK, rfl⟩

theorem parts_valN {E : Env} {M : Nat → Option HT} {G : Nat → Prop} {s s1 : ASt} {a : Act} {w : World} {v : AV} {u : Value} {As Bs : List AV} (hX : RelX E M G s a w) (hv : VR w G M v u) (hc : closeVs s v.parts = some (As, s1)) (hf : fitCs As = true) (hN : NilLes As Bs) :
    ∃ M' Ts, RelX E M' G s1 a w ∧ u.cells = (HT.values Ts).toArray ∧ HT.erases Ts = Bs ∧ (∀ K ∈ Ts, Sat w G K ∧ K.value.oneCell' = true) ∧ (Ts.flatMap HT.blocks).Nodup ∧
      (∀ x ∈ Ts.flatMap HT.blocks, (∀ r T, M' r = some T → x ∉ T.blocks) ∧ x < w.heap.size ∧ ¬ G x ∧ (E.w0.heap.size ≤ x ∨ E.X x)) ∧ (∀ v u, VR w G M v u → VR w G M' v u) := by
  obtain ⟨M', Ts, h1, h2, rfl, h4, h5, h6, h7⟩ := parts_val hX hv hc hf
  obtain ⟨Ts', e1, e2, e3, e4⟩ := nilUps Ts Bs (fun K hK => (h4 K hK).1) hN
  rw [← HT.blockss_eq] at h5 h6
  refine ⟨M', Ts', h1, by rw [h2, e2], e1, fun K hK => ⟨e4 K hK, ?_⟩, by rw [← HT.blockss_eq, e3]; exact h5, fun x hx => by rw [← HT.blockss_eq, e3] at hx; exact h6 x hx, h7⟩
  have : K.value ∈ HT.values Ts := by rw [← e2, HT.values_eq]; exact List.mem_map.2 ⟨K, hK, rfl⟩
  rw [HT.values_eq] at this
  obtain ⟨K0, hK0, e⟩ := List.mem_map.1 this
  rw [← e]; exact (h4 K0 hK0).2

def setNs (o : Nat) (vs : List AV) : Option AV → AV
  | some (.row true sz n cs) => .row true sz n (setL cs o vs)
  | some (.box true cs) => .box true (setL cs o vs)
  | _ => .junk
theorem setNs_erase {N : HT} {b : Nat} (hb : N.ownb = [b]) (o : Nat) (Ks : List HT) (h : memN (some N.erase) = true) : setNs o (HT.erases Ks) (some N.erase) = (N.withKids (setL N.kids o Ks)).erase := by
  cases N <;> simp_all [HT.ownb, HT.erase, setNs, HT.withKids, HT.kids, HT.erases_eq, setL_map, memN]

section
variable {E : Env} {s s1 : ASt} {d : Nat} {x y : Operand} {t xt : TypeId} {pos : String} {after : Array Edge} {g : Option (Nat × Bool)} {R : ASt → Prop}

def leafCs : List AV → Bool
  | [] => true
  | a :: r => a.leafOk && leafCs r
theorem leafCs_mem {l : List AV} : leafCs l = true ↔ ∀ a ∈ l, a.leafOk = true := by
  induction l with
  | nil => simp [leafCs]
  | cons a r ih => simp [leafCs, ih]

/-- A value is stored, with all that belongs to it. -/
theorem l_storeTree {r o : Nat} {p : List Nat} {As0 As : List AV} (hN : NilLes As0 As) (hx : s.ev x = .ptr r p o) (hc : closeVs s (s.ev y).parts = some (As0, s1)) (hf : fitCs As0 = true) (hz : szT E.P xt = some As.length) (h0 : 0 < As.length)
    (hm : memN (nodeOf s1 r p) = true) (ho : o + As.length ≤ (cellsOf (nodeOf s1 r p)).length)
    (hR : if leafCs As = true then R (s1.updM r p (setNs o As (nodeOf s1 r p))) else R ((s1.updM r p (setNs o As (nodeOf s1 r p))).mapT (killR r p o As.length))) : LJ E ⟨none, .store xt x y, t, pos, after, g⟩ s R := by
  rintro a w ⟨M0, G, hX0⟩
  obtain ⟨M, Ts, hX, hu, rfl, hsat, hnd, hfree, hmono⟩ := parts_valN hX0 (hX0.ev y) hc hf hN
  have hlen : (HT.erases Ts).length = Ts.length := by simp [HT.erases_eq]
  rw [hlen] at hz h0 ho hR
  have hxv := hmono _ _ (hX0.ev x)
  rw [hx] at hxv
  cases hA : nodeOf s1 r p with
  | none => rw [hA] at hm; cases hm
  | some A =>
    rw [hA] at hm ho hR
    obtain ⟨T, N, hM, hN, rfl, hsT, hsN⟩ := nodeOf_spec hX hA
    rcases memN_spec hsN hm with ⟨sz, rfl⟩ | ⟨b, C, e, h1, h2, h3, h4, h5, h6, h7⟩
    · have : (cellsOf (some (HT.nilrow sz).erase)).length = 0 := rfl
      omega
    · rw [h3] at ho
      have ho' : o + Ts.length ≤ N.kids.length := by simpa using ho
      have hp := ptr_val hX hxv hM hN h1
      have hrun : (execOp a.eval ⟨none, .store xt x y, t, pos, after, g⟩).run E.P w = .ok .skip (w.setCells b o (Ts.map HT.value)) := by
        have hst := run_storeCells_cells (P := E.P) b o (Ts.map HT.value) 0 w (fun j hj => by
            have hj' : j < Ts.length := by simpa using hj
            have hk : N.kids[o + j]? = some N.kids[o + j] := List.getElem?_eq_getElem (by omega)
            simp [World.cell?, h2, h5 _ _ hk]) (fun j hj => by simp [World.frozen?, h2]) (fun v hv => by
            obtain ⟨K, hK, rfl⟩ := List.mem_map.1 hv
            exact (hsat K hK).2)
        rw [Nat.add_zero] at hst
        simp only [execOp, hp, Instr.storeAt, Instr.sureAddr, storeVar, hu, Sem.run_bind, run_size hz, Result.andThen_ok, Sem.run_pure, HT.values_eq, List.size_toArray, List.length_map]
        simp [hst]
      unfold Oper.wp
      rw [hrun]
      simp only [Oper.upon, Act.put]
      have he : setNs o (HT.erases Ts) (some N.erase) = (N.withKids (setL N.kids o Ts)).erase := setNs_erase h1 o Ts hm
      rw [he] at hR
      split at hR
      · rename_i hl
        refine ⟨_, ⟨_, G, hX.layLeaves hM hN h1 h2 ho' h0 (fun K hK => (hsat K hK).1) hnd (fun K hK => ?_) hfree⟩, hR⟩
        have hk : K.erase.leafOk = true := leafCs_mem.1 hl _ (by rw [HT.erases_eq]; exact List.mem_map.2 ⟨K, hK, rfl⟩)
        cases K <;> simp_all [HT.isMem, HT.kids, HT.erase, AV.leafOk]
      · exact ⟨_, ⟨_, G, hX.lay hM hN h1 h2 ho' h0 (fun K hK => (hsat K hK).1) hnd hfree⟩, hR⟩
end

/-- A new region; what belongs to it may have been there. -/
theorem RelX.new2 {E : Env} {M : Nat → Option HT} {G : Nat → Prop} {s : ASt} {a : Act} {w w' : World} (h : RelX E M G s a w) {d : Nat} (hd : d < E.nt) {v : AV} {u : Value} {T : HT}
    (hw : Ext (fun x => x ∈ T.blocks) w w') (hT : Sat w' G T) (hnd : T.blocks.Nodup)
    (hb : ∀ x ∈ T.blocks, (∀ r T, M r = some T → x ∉ T.blocks) ∧ x < w'.heap.size ∧ ¬ G x ∧ (E.w0.heap.size ≤ x ∨ E.X x)) (hv : VR w' G (updF M d (some T)) v u) :
    RelX E (updF M d (some T)) G (s.new d v T.erase) (a.put (some d) u) w' := by
  have hGb : ∀ b, G b → w'.heap[b]? = w.heap[b]? := fun b hg => hw.block b (h.gd b hg).1 (fun hx => (hb b hx).2.2.1 hg)
  refine ⟨fun r => ?_, fun r T' hT' => ?_, fun r T' hT' => ?_, fun r r' T1 T2 hr h1 h2 x hx hx' => ?_, fun r T' hT' x hx => ?_, fun x hx => ?_, h.g0, fun i => ?_, ?_, h.df, ?_, h.n1, fun r v hv => ?_⟩
  · simp only [ASt.new, updF]
    split
    · rfl
    · exact h.er r
  · simp only [updF] at hT'
    split at hT'
    · cases hT'; exact hT
    · exact (h.sat r T' hT').congr (fun b hx => hw.block b (h.own r T' hT' b hx).1 (fun hx' => (hb b hx').1 r T' hT' hx)) hGb (fun _ hg => hg)
  · simp only [updF] at hT'
    split at hT'
    · cases hT'; exact hnd
    · exact h.nd r T' hT'
  · simp only [updF] at h1 h2
    split at h1 <;> split at h2
    · omega
    · cases h1; exact (hb x hx).1 r' T2 h2 hx'
    · cases h2; exact (hb x hx').1 r T1 h1 hx
    · exact h.dj r r' T1 T2 hr h1 h2 x hx hx'
  · simp only [updF] at hT'
    split at hT'
    · cases hT'; exact (hb x hx).2
    · obtain ⟨h1, h2, h3⟩ := h.own r T' hT' x hx
      exact ⟨Nat.lt_of_lt_of_le h1 hw.size, h2, h3⟩
  · obtain ⟨h1, h2⟩ := h.gd x hx
    exact ⟨Nat.lt_of_lt_of_le h1 hw.size, h2⟩
  · rw [put_getD a d i u (by rw [h.nt]; exact hd)]
    simp only [ASt.new]
    split
    · exact hv
    · refine ((h.sl i).congr hGb (fun _ hg => hg)).mapRef (fun r p r' p' hf T' N' hT' hN' hm => ?_)
      simp only [killF] at hf
      split at hf
      · cases hf
      · rename_i hk
        simp only [Option.some.injEq, Prod.mk.injEq] at hf
        obtain ⟨rfl, rfl⟩ := hf
        have hrd : r ≠ d := fun e => hk ⟨e, by simp⟩
        simp only [updF, hrd, if_false] at hT'
        exact ⟨T', N', hT', hN', rfl⟩
  · exact h.ext.trans hw (fun i hi hx => (hb i hx).2.2.2.resolve_left (by omega))
  · simp [put_some, h.nt]
  · obtain ⟨h1, T', h2, h3⟩ := h.pv r v hv
    have := h.n1
    exact ⟨h1, T', by simp only [updF]; rw [if_neg (by omega)]; exact h2, h3⟩

section
variable {E : Env} {s s1 : ASt} {d : Nat} {x y : Operand} {t xt : TypeId} {pos : String} {after : Array Edge} {g : Option (Nat × Bool)} {R : ASt → Prop}

/-- The blocks of trees in a block that has just been made. -/
theorem fresh_blocks {M' : Nat → Option HT} {G : Nat → Prop} {a : Act} {w : World} (hX : RelX E M' G s1 a w) {Ts : List HT} (o : Obj) (hnd : (Ts.flatMap HT.blocks).Nodup)
    (hfree : ∀ x ∈ Ts.flatMap HT.blocks, (∀ r T, M' r = some T → x ∉ T.blocks) ∧ x < w.heap.size ∧ ¬ G x ∧ (E.w0.heap.size ≤ x ∨ E.X x)) :
    (w.heap.size :: Ts.flatMap HT.blocks).Nodup ∧ ∀ x ∈ w.heap.size :: Ts.flatMap HT.blocks, (∀ r T, M' r = some T → x ∉ T.blocks) ∧ x < (w.alloc o).heap.size ∧ ¬ G x ∧ (E.w0.heap.size ≤ x ∨ E.X x) := by
  constructor
  · refine List.nodup_cons.2 ⟨fun h => ?_, hnd⟩
    have := (hfree _ h).2.1; omega
  · intro x hx
    rcases List.mem_cons.1 hx with rfl | hx
    · refine ⟨fun r T hT hx => ?_, by simp, fun hg => ?_, .inl hX.ext.size⟩
      · have := (hX.own r T hT _ hx).1; omega
      · have := (hX.gd _ hg).1; omega
    · obtain ⟨h1, h2, h3⟩ := hfree x hx
      exact ⟨h1, by simp; omega, h3⟩

/-- A new variable that holds these trees. -/
theorem RelX.newBox {M' : Nat → Option HT} {G : Nat → Prop} {a : Act} {w : World} (hX : RelX E M' G s1 a w) (hd : d < E.nt) (e : TypeId) {Ts : List HT} (hsat : ∀ K ∈ Ts, Sat w G K) (hnd : (Ts.flatMap HT.blocks).Nodup)
    (hfree : ∀ x ∈ Ts.flatMap HT.blocks, (∀ r T, M' r = some T → x ∉ T.blocks) ∧ x < w.heap.size ∧ ¬ G x ∧ (E.w0.heap.size ≤ x ∨ E.X x)) :
    RelX E (updF M' d (some (.box w.heap.size Ts))) G (s1.new d (.ptr d [] 0) (.box true (HT.erases Ts))) (a.put (some d) (.pointer (some ⟨w.heap.size, 0, none⟩))) (w.alloc (.cells (HT.values Ts).toArray e)) := by
  obtain ⟨f1, f2⟩ := fresh_blocks hX (.cells (HT.values Ts).toArray e) hnd hfree
  have hold : ∀ b, b < w.heap.size → (w.alloc (.cells (HT.values Ts).toArray e)).heap[b]? = w.heap[b]? := fun b hb => alloc_old w _ b hb
  refine hX.new2 (T := .box w.heap.size Ts) hd ?_ ?_ ?_ ?_ ?_
  · exact ⟨rfl, rfl, rfl, by simp, fun k hk _ => alloc_old w _ k hk⟩
  · refine .box _ _ _ e (alloc_new w _) (by simp [HT.values_eq]) (fun i K hK => by simp [HT.values_eq, hK]) (fun i K hK => ?_)
    have hm := List.mem_of_getElem? hK
    exact (hsat K hm).congr (fun b hb => hold b (hfree b (List.mem_flatMap.2 ⟨K, hm, hb⟩)).2.1) (fun b hb => hold b (hX.gd b hb).1) (fun _ h => h)
  · simpa only [HT.blocks, HT.blockss_eq] using f1
  · intro x hx
    exact f2 x (by simpa only [HT.blocks, HT.blockss_eq] using hx)
  · refine .ptr _ _ _ _ (fun T' hT' b' sz' n' cap' cs' hN' => ?_) (fun T' hT' b' cs' hN' => ?_)
    · simp only [updF, if_true, Option.some.injEq] at hT'; subst hT'
      simp [HT.at_] at hN'
    · simp only [updF, if_true, Option.some.injEq] at hT'; subst hT'
      simp only [HT.at_, Option.some.injEq, HT.box.injEq] at hN'
      obtain ⟨rfl, rfl⟩ := hN'
      rfl

/-- A new row that holds these trees. -/
theorem RelX.newRow {M' : Nat → Option HT} {G : Nat → Prop} {a : Act} {w : World} (hX : RelX E M' G s1 a w) (hd : d < E.nt) (e : TypeId) {Ts : List HT} (sz n cap : Nat) (C : Array Value) (hsz : 0 < sz) (hn : Ts.length = n * sz) (hc : n ≤ cap) (hmax : cap ≤ 9223372036854775807) (hC : C.size = cap * sz)
    (hv : ∀ (i : Nat) (K : HT), Ts[i]? = some K → C[i]? = some K.value) (hsat : ∀ K ∈ Ts, Sat w G K) (hnd : (Ts.flatMap HT.blocks).Nodup)
    (hfree : ∀ x ∈ Ts.flatMap HT.blocks, (∀ r T, M' r = some T → x ∉ T.blocks) ∧ x < w.heap.size ∧ ¬ G x ∧ (E.w0.heap.size ≤ x ∨ E.X x)) :
    RelX E (updF M' d (some (.row w.heap.size sz n cap Ts))) G (s1.new d (.sl d [] 0 n) (.row true sz n (HT.erases Ts))) (a.put (some d) (.slice (some ⟨w.heap.size, 0, none⟩) n cap)) (w.alloc (.cells C e)) := by
  obtain ⟨f1, f2⟩ := fresh_blocks hX (.cells C e) hnd hfree
  have hold : ∀ b, b < w.heap.size → (w.alloc (.cells C e)).heap[b]? = w.heap[b]? := fun b hb => alloc_old w _ b hb
  refine hX.new2 (T := .row w.heap.size sz n cap Ts) hd ?_ ?_ ?_ ?_ ?_
  · exact ⟨rfl, rfl, rfl, by simp, fun k hk _ => alloc_old w _ k hk⟩
  · refine .row _ _ _ _ _ _ e (alloc_new w _) hn hc hC hsz hmax hv (fun i K hK => ?_)
    have hm := List.mem_of_getElem? hK
    exact (hsat K hm).congr (fun b hb => hold b (hfree b (List.mem_flatMap.2 ⟨K, hm, hb⟩)).2.1) (fun b hb => hold b (hX.gd b hb).1) (fun _ h => h)
  · simpa only [HT.blocks, HT.blockss_eq] using f1
  · intro x hx
    exact f2 x (by simpa only [HT.blocks, HT.blockss_eq] using hx)
  · refine .sl _ _ _ _ _ (fun T' hT' b' sz' n' cap' cs' hN' hle => ?_) (fun T' hT' sz' hN' hle => ?_)
    · simp only [updF, if_true, Option.some.injEq] at hT'; subst hT'
      simp only [HT.at_, Option.some.injEq, HT.row.injEq] at hN'
      obtain ⟨rfl, rfl, rfl, rfl, rfl⟩ := hN'
      exact ⟨_, _, rfl, hc, by omega, .inr (by simp), fun _ => ⟨rfl, rfl⟩⟩
    · simp only [updF, if_true, Option.some.injEq] at hT'; subst hT'
      simp [HT.at_] at hN'

/-- 'box': a value is laid into a new variable. -/
theorem l_box {As : List AV} (hd : d < E.nt) (hc : closeVs s (s.ev x).parts = some (As, s1)) (hf : fitCs As = true)
    (hR : R (s1.new d (.ptr d [] 0) (.box true As))) : LJ E ⟨some d, .box xt x, t, pos, after, g⟩ s R := by
  rintro a w ⟨M0, G, hX0⟩
  obtain ⟨M, Ts, hX, hu, rfl, hsat, hnd, hfree, hmono⟩ := parts_val hX0 (hX0.ev x) hc hf
  have hrun : (execOp a.eval ⟨some d, .box xt x, t, pos, after, g⟩).run E.P w = .ok (.value (.pointer (some ⟨w.heap.size, 0, none⟩))) (w.alloc (.cells (HT.values Ts).toArray xt)) := by
    simp [execOp, Instr.box, newVar, newRow, hu]
  unfold Oper.wp
  rw [hrun]
  exact ⟨_, ⟨_, G, hX.newBox hd xt (fun K hK => (hsat K hK).1) hnd hfree⟩, hR⟩

/-- A type's empty cells. -/
def zvT (P : Program) (t : TypeId) : Option (List Value) := match P.info? t with
  | some i => i.zero.map fun z => z.cells.toList
  | none => none
theorem run_zero {P : Program} {t : TypeId} {zs : List Value} (h : zvT P t = some zs) (w : World) : ∃ z, (zeroValue t).run P w = .ok z w ∧ z.cells.toList = zs := by
  unfold zvT at h
  split at h
  · rename_i i hi
    cases hz : i.zero with
    | none => rw [hz] at h; cases h
    | some z =>
      rw [hz] at h
      simp only [Option.map_some, Option.some.injEq] at h
      exact ⟨z, by simp [zeroValue, typeInfo, hi, hz], h⟩
  · cases h
theorem leaves_lit {w : World} {G : Nat → Prop} (zs : List Value) : ∃ Ks : List HT, HT.values Ks = zs ∧ HT.erases Ks = zs.map .lit ∧ Ks.flatMap HT.blocks = [] ∧ ∀ K ∈ Ks, Sat w G K :=
  ⟨zs.map fun z => .leaf (.lit z) z, by simp [HT.values_eq, HT.value, Function.comp_def], by simp [HT.erases_eq, HT.erase, Function.comp_def], by simp [HT.blocks], fun K hK => by
    obtain ⟨z, _, rfl⟩ := List.mem_map.1 hK
    exact .leaf _ _ rfl (.lit z)⟩
/-- 'alloc': a new variable, empty. -/
theorem l_alloc {zs : List Value} {As : List AV} (hN : NilLes (zs.map .lit) As) (hd : d < E.nt) (hz : zvT E.P xt = some zs) (hR : R (s.new d (.ptr d [] 0) (.box true As))) : LJ E ⟨some d, .alloc xt, t, pos, after, g⟩ s R := by
  rintro a w ⟨M, G, hX⟩
  obtain ⟨z, h1, h2⟩ := run_zero (P := E.P) hz w
  obtain ⟨Ts0, e1, e2, e3, e4⟩ := leaves_lit (w := w) (G := G) zs
  obtain ⟨Ts, f1, f2, f3, f4⟩ := nilUps Ts0 As (fun K hK => e4 K hK) (by rw [e2]; exact hN)
  rw [← f2] at e1
  have hrun : (execOp a.eval ⟨some d, .alloc xt, t, pos, after, g⟩).run E.P w = .ok (.value (.pointer (some ⟨w.heap.size, 0, none⟩))) (w.alloc (.cells (HT.values Ts).toArray xt)) := by
    simp only [e1, ← h2, Array.toArray_toList]
    simp [execOp, Instr.alloc, newVar, newRow, h1]
  unfold Oper.wp
  rw [hrun]
  refine ⟨_, ⟨_, G, hX.newBox hd xt f4 (by rw [← HT.blockss_eq, f3, HT.blockss_eq, e3]; exact List.nodup_nil) (by rw [← HT.blockss_eq, f3, HT.blockss_eq, e3]; simp)⟩, by rw [f1]; exact hR⟩
end

theorem openCs_get (r : Nat) (p : List Nat) : ∀ (o : Nat) (cs : List AV) (i : Nat), (openCs r p o cs)[i]? = (cs[i]?).map (openC r (p ++ [o + i]))
  | o, [], i => by simp [openCs]
  | o, c :: l, 0 => by simp [openCs]
  | o, c :: l, i + 1 => by
    simp only [openCs, List.getElem?_cons_succ]
    rw [openCs_get r p (o + 1) l i, show o + 1 + i = o + (i + 1) by omega]
theorem openCs_len (r : Nat) (p : List Nat) : ∀ (o : Nat) (cs : List AV), (openCs r p o cs).length = cs.length
  | o, [] => rfl
  | o, c :: l => by simp [openCs, openCs_len r p (o + 1) l]

/-- What is read of a variable in memory. -/
def viewOf (P : Program) (t : TypeId) (s : ASt) : AV → Option AV
  | .ptr r p o => if memN (nodeOf s r p) = true then (match agT P t with
      | some true => (match szT P t with
        | some n => if 0 < n ∧ o + n ≤ (cellsOf (nodeOf s r p)).length then some (.agg (openCs r p o (((cellsOf (nodeOf s r p)).drop o).take n))) else none
        | none => none)
      | some false => if o < (cellsOf (nodeOf s r p)).length then some (openC r (p ++ [o]) ((cellsOf (nodeOf s r p)).getD o .junk)) else none
      | none => none) else none
  | _ => none

theorem load_val {E : Env} {M : Nat → Option HT} {G : Nat → Prop} {s : ASt} {a : Act} {w : World} {t : TypeId} {x v : AV} {u : Value} (hX : RelX E M G s a w) (hx : VR w G M x u) (h : viewOf E.P t s x = some v) :
    ∃ A u', u = .pointer (some A) ∧ (loadVar t A).run E.P w = .ok u' w ∧ VR w G M v u' := by
  unfold viewOf at h
  split at h
  · rename_i r p o
    split at h
    · rename_i hm
      cases hA : nodeOf s r p with
      | none => rw [hA] at hm; cases hm
      | some A =>
        rw [hA] at hm h
        obtain ⟨T, N, hM, hN, rfl, hsT, hsN⟩ := nodeOf_spec hX hA
        rcases memN_spec hsN hm with ⟨sz, rfl⟩ | ⟨b, C, e, h1, h2, h3, h4, h5, h6, _⟩
        · exfalso
          have e0 : cellsOf (some (HT.nilrow sz).erase) = [] := rfl
          rw [e0] at h
          split at h
          · split at h
            · split at h
              · rename_i h0; simp at h0; omega
              · cases h
            · cases h
          · split at h
            · rename_i h0; simp at h0
            · cases h
          · cases h
        · rw [h3] at h
          have hp := ptr_val hX hx hM hN h1
          have hcell : ∀ i (hi : i < N.kids.length), w.cell? ⟨b, i, none⟩ = some N.kids[i].value := fun i hi => by simp [World.cell?, h2, h5 i _ (List.getElem?_eq_getElem hi)]
          split at h
          · rename_i ht
            split at h
            · rename_i n hz
              split at h
              · rename_i hle
                simp only [List.length_map] at hle
                simp only [Option.some.injEq] at h
                subst h
                have hf : ∀ j, j < n → w.cell? ((⟨b, o, none⟩ : Addr).add j) = some ((N.kids.getD (o + j) default).value) := fun j hj => by
                  rw [add0, hcell (o + j) (by omega)]
                  simp [List.getD, show o + j < N.kids.length by omega]
                refine ⟨_, .agg ((List.range n).map fun j => (N.kids.getD (o + j) default).value).toArray, hp, ?_, ?_⟩
                · simp [loadVar, run_agg ht, run_size hz, run_loadCells w _ n _ hf]
                · refine .agg _ _ (by rw [openCs_len]; simp; omega) (fun i c u' hc' hu => ?_)
                  rw [openCs_get] at hc'
                  have hi : i < n := by
                    rcases Nat.lt_or_ge i n with h | h
                    · exact h
                    · rw [List.getElem?_map, List.getElem?_eq_none (by simpa using h)] at hu; cases hu
                  rw [List.getElem?_map, List.getElem?_range hi] at hu
                  simp only [Option.map_some, Option.some.injEq] at hu
                  subst hu
                  rw [List.getElem?_take_of_lt hi, List.getElem?_drop, List.getElem?_map, List.getElem?_eq_getElem (show o + i < N.kids.length by omega)] at hc'
                  simp only [Option.map_some, Option.some.injEq] at hc'
                  subst hc'
                  have hk := List.getElem?_eq_getElem (show o + i < N.kids.length by omega)
                  have := open_val hX hM hN hk (hsN.kids _ _ hk)
                  simpa [List.getD, hk] using this
              · cases h
            · cases h
          · rename_i ht
            split at h
            · rename_i ho
              simp only [List.length_map] at ho
              simp only [Option.some.injEq] at h
              subst h
              refine ⟨_, N.kids[o].value, hp, by simp [loadVar, run_agg ht, hcell o ho], ?_⟩
              have hk := List.getElem?_eq_getElem ho
              have := open_val hX hM hN hk (hsN.kids _ _ hk)
              simpa [List.getD, hk] using this
            · cases h
          · cases h
    · cases h
  · cases h

section
variable {E : Env} {s s1 : ASt} {d : Nat} {x y : Operand} {t xt : TypeId} {pos : String} {after : Array Edge} {g : Option (Nat × Bool)} {R : ASt → Prop}
theorem Le.view {P : Program} {s s' : ASt} (h : Le s s') {t : TypeId} {x v : AV} (hv : viewOf P t s x = some v) : viewOf P t s' x = some v := by
  cases x with
  | ptr r p o =>
    simp only [viewOf] at hv ⊢
    cases hA : nodeOf s r p with
    | none => rw [hA] at hv; simp [memN] at hv
    | some A => rw [hA] at hv; rw [h.node hA]; exact hv
  | _ => simp [viewOf] at hv
theorem q_loadView {v : AV} (hn : d < E.nt) (h : viewOf E.P xt s (s.ev x) = some v) : QJ E ⟨some d, .load xt x, t, pos, after, g⟩ s v none :=
  .val rfl hn fun s' M G a w hle hX => by
    obtain ⟨A, u', h1, h2, h3⟩ := load_val hX (hX.evLe hle x) (hle.view h)
    exact ⟨u', w, by simp [execOp, h1, Instr.loadAt, Instr.sureAddr, h2], Ext.refl _ _, h3⟩
end

/-- What a result slot gives. -/
def rview (P : Program) (s : ASt) : ResultVar → Option AV
  | .tmp t => some (s.t t)
  | .cell a t => viewOf P t s (s.t a)
def rvSem (tmps : Array Value) : ResultVar → Sem Value
  | .tmp t => pure (tmps.getD t undef)
  | .cell a t => do loadVar t (← asAddr (tmps.getD a undef))
theorem rview_val {E : Env} {M : Nat → Option HT} {G : Nat → Prop} {s : ASt} {a : Act} {w : World} {x : ResultVar} {v : AV} (hX : RelX E M G s a w) (h : rview E.P s x = some v) :
    ∃ u, (rvSem a.tmps x).run E.P w = .ok u w ∧ VR w G M v u := by
  cases x with
  | tmp t => simp only [rview, Option.some.injEq] at h; subst h; exact ⟨_, rfl, hX.sl t⟩
  | cell c t =>
    obtain ⟨A, u', h1, h2, h3⟩ := load_val hX (hX.sl c) h
    exact ⟨u', by simp [rvSem, h1, asAddr, h2], h3⟩
theorem results_rv (fn : Func) (tmps : Array Value) : results fn tmps = (do let vs ← fn.results.mapM (rvSem tmps); pure (if h : vs.size = 1 then vs[0] else .tuple vs)) := by
  unfold results
  congr 1
theorem ret_v1 {E : Env} {fn : Func} {res : AV} {s s' : ASt} {x : ResultVar} {v : AV} (hr : fn.results = #[x]) (h1 : rview E.P s x = some v) (h : closeV s v = some (res, s')) : RetJ E fn res s := fun M G a w hX => by
  obtain ⟨u, g1, g2⟩ := rview_val hX h1
  obtain ⟨M', T, e1, e2, e3, e4, e5, e6, _⟩ := closeV_spec v h M G a w hX u g2
  refine ⟨T, ?_, e3, e4, e5, fun x hx => (e6 x hx).2.2⟩
  rw [results_rv, hr, e2]
  simp [g1]
theorem ret_v2 {E : Env} {fn : Func} {A B : AV} {s s' : ASt} {x y : ResultVar} {v v' : AV} (hr : fn.results = #[x, y]) (h1 : rview E.P s x = some v) (h2 : rview E.P s y = some v') (h : closeVs s [v, v'] = some ([A, B], s')) : RetJ E fn (.tup [A, B]) s := fun M G a w hX => by
  obtain ⟨u, g1, g2⟩ := rview_val hX h1
  obtain ⟨u', k1, k2⟩ := rview_val hX h2
  obtain ⟨M', Ts, e1, e2, e3, e4, e5, e6, _⟩ := closeVs_spec [v, v'] h M G a w hX [u, u'] rfl (fun i c z a1 a2 => by
    match i with
    | 0 => simp only [List.getElem?_cons_zero, Option.some.injEq] at a1 a2; subst a1; subst a2; exact g2
    | 1 => simp only [List.getElem?_cons_succ, List.getElem?_cons_zero, Option.some.injEq] at a1 a2; subst a1; subst a2; exact k2
    | i + 2 => simp at a1)
  refine ⟨.tup Ts, ?_, by simp only [HT.erase, e3], .tup Ts e4, by simpa [HT.blocks] using e5, fun x hx => (e6 x (by simpa [HT.blocks] using hx)).2.2⟩
  simp only [HT.value, e2]
  rw [results_rv, hr]
  simp [g1, k1]
end Go.Av
end
section
set_option linter.unusedSimpArgs false
set_option linter.unusedVariables false
/-! What a call gives stays the caller's own. -/
namespace Go.Av
mutual
/-- A tree that lies at place 'p' of region 'r', as a slot holds it. -/
def openV (r : Nat) (p : List Nat) : AV → AV
  | .agg cs => .agg (openVs r p 0 cs)
  | .tup cs => .tup (openVs r p 0 cs)
  | .row true _ n _ => .sl r p 0 n
  | .box true _ => .ptr r p 0
  | .sl _ _ _ _ => .junk
  | .ptr _ _ _ => .junk
  | a => a
def openVs (r : Nat) (p : List Nat) : Nat → List AV → List AV
  | _, [] => []
  | o, c :: l => openV r (p ++ [o]) c :: openVs r p (o + 1) l
end
theorem openVs_get (r : Nat) (p : List Nat) : ∀ (o : Nat) (cs : List AV) (i : Nat), (openVs r p o cs)[i]? = (cs[i]?).map (openV r (p ++ [o + i]))
  | o, [], i => by simp [openVs]
  | o, c :: l, 0 => by simp [openVs]
  | o, c :: l, i + 1 => by
    simp only [openVs, List.getElem?_cons_succ]
    rw [openVs_get r p (o + 1) l i, show o + 1 + i = o + (i + 1) by omega]
theorem openVs_len (r : Nat) (p : List Nat) : ∀ (o : Nat) (cs : List AV), (openVs r p o cs).length = cs.length
  | o, [] => rfl
  | o, c :: l => by simp [openVs, openVs_len r p (o + 1) l]

theorem Sat.opened {w : World} {G : Nat → Prop} {M : Nat → Option HT} {r : Nat} {T0 T : HT} (hs : Sat w G T) : ∀ {p : List Nat}, M r = some T0 → T0.at_ p = some T → VR w G M (openV r p T.erase) T.value := by
  induction hs with
  | leaf a v ha h =>
    intro p hM hat
    have hr := leafOk_noRef ha
    have : openV r p a = a := by
      cases a with
      | row o sz n cs => cases o <;> simp_all [openV, AV.leafOk]
      | box o cs => cases o <;> simp_all [openV, AV.leafOk]
      | _ => simp_all [openV, AV.leafOk]
    simp only [HT.erase, HT.value, this]
    exact h.free hr
  | row b sz n cap cs C e g1 g2 g3 g4 g5 g6 g7 g8 =>
    intro p hM hat
    simp only [HT.erase, openV, HT.value]
    refine .sl _ _ _ _ _ (fun T' hT' b' sz' n' cap' cs' hN' hle => ?_) (fun T' hT' sz' hN' hle => ?_)
    · rw [hM] at hT'; cases hT'; rw [hat] at hN'; cases hN'
      exact ⟨_, _, rfl, g3, by omega, .inr (by simp), fun _ => ⟨rfl, rfl⟩⟩
    · rw [hM] at hT'; cases hT'; rw [hat] at hN'; cases hN'
  | nilrow sz =>
    intro p hM hat
    simp only [HT.erase, openV, HT.value]
    refine .sl _ _ _ _ _ (fun T' hT' b' sz' n' cap' cs' hN' hle => ?_) (fun T' hT' sz' hN' hle => rfl)
    rw [hM] at hT'; cases hT'; rw [hat] at hN'; cases hN'
  | box b cs C e g1 g2 g7 g8 =>
    intro p hM hat
    simp only [HT.erase, openV, HT.value]
    refine .ptr _ _ _ _ (fun T' hT' b' sz' n' cap' cs' hN' => ?_) (fun T' hT' b' cs' hN' => ?_)
    · rw [hM] at hT'; cases hT'; rw [hat] at hN'; cases hN'
    · rw [hM] at hT'; cases hT'; rw [hat] at hN'; cases hN'; rfl
  | agg cs h ih =>
    intro p hM hat
    simp only [HT.erase, openV, HT.value, HT.erases_eq, HT.values_eq]
    refine .agg _ _ (by rw [openVs_len]; simp) (fun i a u h1 h2 => ?_)
    rw [openVs_get, List.getElem?_map] at h1
    rw [List.getElem?_map] at h2
    cases hc : cs[i]? with
    | none => rw [hc] at h2; cases h2
    | some c =>
      rw [hc] at h1 h2
      simp only [Option.map_some, Option.some.injEq, Nat.zero_add] at h1 h2
      subst h1; subst h2
      exact ih i c hc hM (at_snoc p hat hc)
  | tup cs h ih =>
    intro p hM hat
    simp only [HT.erase, openV, HT.value, HT.erases_eq, HT.values_eq]
    refine .tup _ _ (by rw [openVs_len]; simp) (fun i a u h1 h2 => ?_)
    rw [openVs_get, List.getElem?_map] at h1
    rw [List.getElem?_map] at h2
    cases hc : cs[i]? with
    | none => rw [hc] at h2; cases h2
    | some c =>
      rw [hc] at h1 h2
      simp only [Option.map_some, Option.some.injEq, Nat.zero_add] at h1 h2
      subst h1; subst h2
      exact ih i c hc hM (at_snoc p hat hc)

section
variable {E : Env} {s : ASt} {d : Nat} {x y : Operand} {t xt : TypeId} {pos : String} {after : Array Edge} {g : Option (Nat × Bool)}
/-- A call whose result stays the caller's own. -/
theorem q_callOwn {fo : Operand} {f : FuncId} {caps : List AV} {xs : List Operand} {ts : Array TypeId} {as : List AV} {res : AV} (hn : d < E.nt) (hf : s.ev fo = .fn f caps) (he : entB E.P f = true) (ha : xs.map s.ev ++ caps = as) (hr : AV.noRefs as = true)
    (hd : Does E.P f as res) : QJ E ⟨some d, .call { callee := .value fo, args := xs.toArray, argTypes := ts }, t, pos, after, g⟩ s (openV d [] res) (some res) := by
  rintro s' hle a w ⟨M, G, hX⟩
  have hcl : ∀ l1 l2 : List AV, AV.noRefs (l1 ++ l2) = true → AV.noRefs l1 = true ∧ AV.noRefs l2 = true := fun l1 l2 h => by
    rw [AV.noRefs_mem] at h; exact ⟨AV.noRefs_mem.2 fun a ha => h a (by simp [ha]), AV.noRefs_mem.2 fun a ha => h a (by simp [ha])⟩
  obtain ⟨hr1, hr2⟩ := hcl _ _ (by rw [ha]; exact hr)
  obtain ⟨hl, hv⟩ := args_vr hX hle xs _ rfl hr1
  have hfv := hX.evLe hle fo
  rw [hf] at hfv
  generalize hfe : a.eval fo = fv at hfv
  cases hfv with
  | fn _ _ us hul huv =>
    have hrun : (execOp a.eval ⟨some d, .call { callee := .value fo, args := xs.toArray, argTypes := ts }, t, pos, after, g⟩).run E.P w = .ok (.enter f (xs.map a.eval ++ us).toArray) w := by
      simp [execOp, resolve, hfe, Deferred.ofValue, invoke, callFunc_of he]
    unfold Oper.wp
    rw [hrun]
    simp only [Oper.upon]
    refine (hd w G (xs.map a.eval ++ us) (fun x hx => (hX.gd x hx).1) (by rw [← ha]; simp [hul]) (fun i A v h1 h2 => ?_)).mono ?_
    · rw [← ha] at h1
      by_cases hi : i < (xs.map s.ev).length
      · rw [List.getElem?_append_left hi] at h1
        rw [List.getElem?_append_left (by simpa using hi)] at h2
        exact hv i A v h1 h2
      · rw [List.getElem?_append_right (by omega)] at h1
        rw [List.getElem?_append_right (by simpa using hi)] at h2
        simp only [List.length_map] at h1 h2
        exact (huv _ A v h1 h2).free (AV.noRefs_mem.1 hr2 A (List.mem_of_getElem? h1))
    · rintro e w' ⟨T, rfl, rfl, hw, hnd, hb, G', hGG, hG', hnG, hT⟩
      simp only [put]
      exact ⟨_, G', hX.new hn hw hGG hG' hT hnd (fun x hx => ⟨(hb x hx).1, (hb x hx).2, hnG x hx⟩) (hT.opened (M := updF M d (some T)) (T0 := T) (by simp [updF]) rfl)⟩
end
mutual
/-- A value, with the call's own memory behind it as memory that is only read. -/
def borrowV (s : ASt) : AV → Option AV
  | .lit v => some (.lit v)
  | .row false sz n cs => some (.row false sz n cs)
  | .box false cs => some (.box false cs)
  | .fn f cs => match borrowVs s cs with
    | some As => some (.fn f As)
    | none => none
  | .sl r p off len => match nodeOf s r p with
    | some (.row true sz n cs) => if off = 0 ∧ len = n then some (.row false sz n (AV.shares cs)) else none
    | _ => none
  | .ptr r p o => match nodeOf s r p with
    | some (.box true cs) => if o = 0 then some (.box false (AV.shares cs)) else none
    | _ => none
  | .agg cs => match borrowVs s cs with
    | some As => some (.agg As)
    | none => none
  | .tup cs => match borrowVs s cs with
    | some As => some (.tup As)
    | none => none
  | _ => none
def borrowVs (s : ASt) : List AV → Option (List AV)
  | [] => some []
  | v :: vs => match borrowV s v with
    | some A => match borrowVs s vs with
      | some As => some (A :: As)
      | none => none
    | none => none
end

/-- All memory of the call's own. -/
def Mine (M : Nat → Option HT) (x : Nat) : Prop := ∃ r T, M r = some T ∧ x ∈ T.blocks

theorem borrow_sl {E : Env} {M : Nat → Option HT} {G : Nat → Prop} {s : ASt} {a : Act} {w : World} (hX : RelX E M G s a w) {r n sz : Nat} {p : List Nat} {cs : List AV} {u : Value} (hv : VR w G M (.sl r p 0 n) u) (hA : nodeOf s r p = some (.row true sz n cs)) :
    VR w (fun x => G x ∨ Mine M x) none_ (.row false sz n (AV.shares cs)) u ∧ (AV.row false sz n (AV.shares cs)).noRef = true := by
  obtain ⟨T, N, hM, hN, he, hsT, hsN⟩ := nodeOf_spec hX hA
  have hu : u = N.value := by
    cases hv with
    | sl _ _ _ _ _ h h0 =>
      cases N with
      | row b sz' n' cap cs' =>
        simp only [HT.erase, AV.row.injEq, true_and] at he
        obtain ⟨rfl, rfl, _⟩ := he
        obtain ⟨A, c, rfl, _, _, _, h5⟩ := h T hM _ _ _ _ _ hN (by omega)
        obtain ⟨rfl, rfl⟩ := h5 rfl
        rfl
      | nilrow sz' =>
        simp only [HT.erase, AV.row.injEq, true_and] at he
        obtain ⟨rfl, rfl, _⟩ := he
        rw [h0 T hM _ hN (by omega)]; rfl
      | leaf a' v' =>
        cases hsN with
        | leaf _ _ ha _ => simp only [HT.erase] at he; subst he; simp [AV.leafOk] at ha
      | box => simp [HT.erase] at he
      | agg => simp [HT.erase] at he
      | tup => simp [HT.erase] at he
  have := hsN.share (G' := fun x => G x ∨ Mine M x) (fun x h => .inl h) (fun x hx => .inr ⟨r, T, hM, at_blocks p hN x hx⟩) none_
  rw [he] at this
  simpa only [AV.share, hu] using this
theorem borrow_ptr {E : Env} {M : Nat → Option HT} {G : Nat → Prop} {s : ASt} {a : Act} {w : World} (hX : RelX E M G s a w) {r : Nat} {p : List Nat} {cs : List AV} {u : Value} (hv : VR w G M (.ptr r p 0) u) (hA : nodeOf s r p = some (.box true cs)) :
    VR w (fun x => G x ∨ Mine M x) none_ (.box false (AV.shares cs)) u ∧ (AV.box false (AV.shares cs)).noRef = true := by
  obtain ⟨T, N, hM, hN, he, hsT, hsN⟩ := nodeOf_spec hX hA
  have hu : u = N.value := by
    cases hv with
    | ptr _ _ _ _ h h' =>
      cases N with
      | box b cs' => rw [h' T hM _ _ hN]; rfl
      | leaf a' v' =>
        cases hsN with
        | leaf _ _ ha _ => simp only [HT.erase] at he; subst he; simp [AV.leafOk] at ha
      | row => simp [HT.erase] at he
      | nilrow => simp [HT.erase] at he
      | agg => simp [HT.erase] at he
      | tup => simp [HT.erase] at he
  have := hsN.share (G' := fun x => G x ∨ Mine M x) (fun x h => .inl h) (fun x hx => .inr ⟨r, T, hM, at_blocks p hN x hx⟩) none_
  rw [he] at this
  simpa only [AV.share, hu] using this
theorem borrow_free {w : World} {G G' : Nat → Prop} {m : Nat → Option HT} {v : AV} {u : Value} (h : VR w G m v u) (hr : v.noRef = true) (hG : ∀ x, G x → G' x) : VR w G' none_ v u := (h.free hr).congr (fun _ _ => rfl) hG

mutual
theorem borrow_spec {E : Env} {M : Nat → Option HT} {G : Nat → Prop} {s : ASt} {a : Act} {w : World} (hX : RelX E M G s a w) : ∀ (v : AV) {A : AV} {u : Value}, borrowV s v = some A → VR w G M v u → VR w (fun x => G x ∨ Mine M x) none_ A u ∧ A.noRef = true
  | .lit v, A, u, h, hv => by simp only [borrowV, Option.some.injEq] at h; subst h; exact ⟨borrow_free hv rfl (fun _ h => .inl h), rfl⟩
  | .row true sz n cs, A, u, h, hv => by simp [borrowV] at h
  | .row false sz n cs, A, u, h, hv => by simp only [borrowV, Option.some.injEq] at h; subst h; exact ⟨borrow_free hv rfl (fun _ h => .inl h), rfl⟩
  | .box true cs, A, u, h, hv => by simp [borrowV] at h
  | .box false cs, A, u, h, hv => by simp only [borrowV, Option.some.injEq] at h; subst h; exact ⟨borrow_free hv rfl (fun _ h => .inl h), rfl⟩
  | .fn f cs, A, u, h, hv => by
    simp only [borrowV] at h
    split at h
    · rename_i As h1
      simp only [Option.some.injEq] at h; subst h
      cases hv with
      | fn _ _ us hl hh =>
        obtain ⟨e1, e2, e3⟩ := borrows_spec hX cs h1 hl hh
        exact ⟨.fn _ _ _ e1 e2, by simpa [AV.noRef] using e3⟩
    · cases h
  | .sl r p off len, A, u, h, hv => by
    simp only [borrowV] at h
    split at h
    · rename_i sz n cs hn
      split at h
      · rename_i e
        obtain ⟨rfl, rfl⟩ := e
        simp only [Option.some.injEq] at h; subst h
        exact borrow_sl hX hv hn
      · cases h
    · cases h
  | .ptr r p o, A, u, h, hv => by
    simp only [borrowV] at h
    split at h
    · rename_i cs hn
      split at h
      · rename_i e
        subst e
        simp only [Option.some.injEq] at h; subst h
        exact borrow_ptr hX hv hn
      · cases h
    · cases h
  | .agg cs, A, u, h, hv => by
    simp only [borrowV] at h
    split at h
    · rename_i As h1
      simp only [Option.some.injEq] at h; subst h
      cases hv with
      | agg _ us hl hh =>
        obtain ⟨e1, e2, e3⟩ := borrows_spec hX cs h1 hl hh
        exact ⟨.agg _ _ e1 e2, by simpa [AV.noRef] using e3⟩
    · cases h
  | .tup cs, A, u, h, hv => by
    simp only [borrowV] at h
    split at h
    · rename_i As h1
      simp only [Option.some.injEq] at h; subst h
      cases hv with
      | tup _ us hl hh =>
        obtain ⟨e1, e2, e3⟩ := borrows_spec hX cs h1 hl hh
        exact ⟨.tup _ _ e1 e2, by simpa [AV.noRef] using e3⟩
    · cases h
  | .junk, A, u, h, hv => by simp [borrowV] at h
theorem borrows_spec {E : Env} {M : Nat → Option HT} {G : Nat → Prop} {s : ASt} {a : Act} {w : World} (hX : RelX E M G s a w) : ∀ (vs : List AV) {As : List AV} {us : List Value}, borrowVs s vs = some As → us.length = vs.length →
    (∀ (i : Nat) (v : AV) (u : Value), vs[i]? = some v → us[i]? = some u → VR w G M v u) →
    us.length = As.length ∧ (∀ (i : Nat) (v : AV) (u : Value), As[i]? = some v → us[i]? = some u → VR w (fun x => G x ∨ Mine M x) none_ v u) ∧ AV.noRefs As = true
  | [], As, us, h, hl, hv => by
    simp only [borrowVs, Option.some.injEq] at h; subst h
    exact ⟨hl, fun i v u h1 => by simp at h1, rfl⟩
  | v :: vs, As, us, h, hl, hv => by
    simp only [borrowVs] at h
    split at h
    · rename_i A h1
      split at h
      · rename_i Bs h2
        simp only [Option.some.injEq] at h; subst h
        match us, hl with
        | u :: us, hl =>
          obtain ⟨e1, e2⟩ := borrow_spec hX v h1 (hv 0 v u rfl rfl)
          obtain ⟨f1, f2, f3⟩ := borrows_spec hX vs h2 (by simpa using hl) (fun i v' u' a b => hv (i + 1) v' u' (by simpa using a) (by simpa using b))
          refine ⟨by simp [f1], fun i v' u' a b => ?_, by simp [AV.noRefs, e2, f3]⟩
          cases i with
          | zero => simp at a b; subst a; subst b; exact e1
          | succ i => exact f2 i v' u' (by simpa using a) (by simpa using b)
      · cases h
    · cases h
end
mutual
/-- Does it name no memory but its own? -/
def pureV : AV → Bool
  | .lit _ | .junk => true
  | .row true _ _ cs => pureVs cs
  | .box true cs => pureVs cs
  | .agg cs | .tup cs => pureVs cs
  | .fn _ cs => pureVs cs
  | _ => false
def pureVs : List AV → Bool
  | [] => true
  | c :: r => pureV c && pureVs r
end
theorem pureVs_mem {l : List AV} : pureVs l = true ↔ ∀ a ∈ l, pureV a = true := by
  induction l with
  | nil => simp [pureVs]
  | cons a r ih => simp [pureVs, ih]
theorem VR.pure {w : World} {G G' : Nat → Prop} {m : Nat → Option HT} {v : AV} {u : Value} (h : VR w G m v u) (hp : pureV v = true) : VR w G' none_ v u := by
  induction h with
  | lit v => exact .lit v
  | junk v => exact .junk v
  | row0 => simp [pureV] at hp
  | row => simp [pureV] at hp
  | box => simp [pureV] at hp
  | agg cs us hl h ih => exact .agg cs us hl (fun i a u h1 h2 => ih i a u h1 h2 (pureVs_mem.1 (by simpa [pureV] using hp) a (List.mem_of_getElem? h1)))
  | tup cs us hl h ih => exact .tup cs us hl (fun i a u h1 h2 => ih i a u h1 h2 (pureVs_mem.1 (by simpa [pureV] using hp) a (List.mem_of_getElem? h1)))
  | fn f cs us hl h ih => exact .fn f cs us hl (fun i a u h1 h2 => ih i a u h1 h2 (pureVs_mem.1 (by simpa [pureV] using hp) a (List.mem_of_getElem? h1)))
  | sl => simp [pureV] at hp
  | ptr => simp [pureV] at hp
theorem Sat.pure {w : World} {G G' : Nat → Prop} {T : HT} (h : Sat w G T) (hp : pureV T.erase = true) : Sat w G' T := by
  induction h with
  | leaf a v ha h => exact .leaf a v ha (h.pure hp)
  | row b sz n cap cs C e g1 g2 g3 g4 g5 g6 g7 g8 ih =>
    have hp' : ∀ a ∈ HT.erases cs, pureV a = true := pureVs_mem.1 (by simpa [HT.erase, pureV] using hp)
    exact .row b sz n cap cs C e g1 g2 g3 g4 g5 g6 g7 (fun i T hT => ih i T hT (hp' _ (by rw [HT.erases_eq]; exact List.mem_map.2 ⟨T, List.mem_of_getElem? hT, rfl⟩)))
  | nilrow sz => exact .nilrow sz
  | box b cs C e g1 g2 g7 g8 ih =>
    have hp' : ∀ a ∈ HT.erases cs, pureV a = true := pureVs_mem.1 (by simpa [HT.erase, pureV] using hp)
    exact .box b cs C e g1 g2 g7 (fun i T hT => ih i T hT (hp' _ (by rw [HT.erases_eq]; exact List.mem_map.2 ⟨T, List.mem_of_getElem? hT, rfl⟩)))
  | agg cs h ih =>
    have hp' : ∀ a ∈ HT.erases cs, pureV a = true := pureVs_mem.1 (by simpa [HT.erase, pureV] using hp)
    exact .agg cs (fun i T hT => ih i T hT (hp' _ (by rw [HT.erases_eq]; exact List.mem_map.2 ⟨T, List.mem_of_getElem? hT, rfl⟩)))
  | tup cs h ih =>
    have hp' : ∀ a ∈ HT.erases cs, pureV a = true := pureVs_mem.1 (by simpa [HT.erase, pureV] using hp)
    exact .tup cs (fun i T hT => ih i T hT (hp' _ (by rw [HT.erases_eq]; exact List.mem_map.2 ⟨T, List.mem_of_getElem? hT, rfl⟩)))

section
variable {E : Env} {s : ASt} {d : Nat} {x y : Operand} {t xt : TypeId} {pos : String} {after : Array Edge} {g : Option (Nat × Bool)} {R : ASt → Prop}
theorem call_core {fo : Operand} {f : FuncId} {caps : List AV} {xs : List Operand} {ts : Array TypeId} {as : List AV} {res : AV} (hf : s.ev fo = .fn f caps) (he : entB E.P f = true) (ha : borrowVs s (xs.map s.ev ++ caps) = some as)
    (hd : Does E.P f as res) (hp : pureV res = true) {M : Nat → Option HT} {G : Nat → Prop} {a : Act} {w : World} (hX : RelX E M G s a w) {K : Act → World → Prop} {Q : Exit → Act → World → Prop}
    (hK : ∀ (T : HT) w' (G' : Nat → Prop), T.erase = res → Ext (fun _ => False) w w' → T.blocks.Nodup → (∀ x, G x → G' x) → (∀ x, G' x → G x ∨ (w.heap.size ≤ x ∧ x < w'.heap.size)) → (∀ x ∈ T.blocks, w.heap.size ≤ x ∧ x < w'.heap.size ∧ ¬ G' x) → Sat w' G' T → K (a.put (some d) T.value) w') :
    (⟨some d, .call { callee := .value fo, args := xs.toArray, argTypes := ts }, t, pos, after, g⟩ : Oper).wp E.P a w K Q := by
  have hfv := hX.ev fo
  rw [hf] at hfv
  generalize hfe : a.eval fo = fv at hfv
  cases hfv with
  | fn _ _ us hul huv =>
    have hrun : (execOp a.eval ⟨some d, .call { callee := .value fo, args := xs.toArray, argTypes := ts }, t, pos, after, g⟩).run E.P w = .ok (.enter f (xs.map a.eval ++ us).toArray) w := by
      simp [execOp, resolve, hfe, Deferred.ofValue, invoke, callFunc_of he]
    obtain ⟨e1, e2, e3⟩ := borrows_spec hX (xs.map s.ev ++ caps) ha (us := xs.map a.eval ++ us) (by simp [hul]) (fun i v u h1 h2 => by
      by_cases hi : i < (xs.map s.ev).length
      · rw [List.getElem?_append_left hi] at h1
        rw [List.getElem?_append_left (by simpa using hi)] at h2
        rw [List.getElem?_map] at h1 h2
        cases hx : xs[i]? with
        | none => rw [hx] at h1; cases h1
        | some z =>
          rw [hx] at h1 h2
          simp only [Option.map_some, Option.some.injEq] at h1 h2
          subst h1; subst h2
          exact hX.ev z
      · rw [List.getElem?_append_right (by omega)] at h1
        rw [List.getElem?_append_right (by simpa using hi)] at h2
        simp only [List.length_map] at h1 h2
        exact huv _ v u h1 h2)
    unfold Oper.wp
    rw [hrun]
    simp only [Oper.upon]
    have hmine : ∀ x, Mine M x → x < w.heap.size ∧ ¬ G x := fun x ⟨r, T, hM, hx⟩ => ⟨(hX.own r T hM x hx).1, (hX.own r T hM x hx).2.1⟩
    refine (hd w (fun x => G x ∨ Mine M x) (xs.map a.eval ++ us) (fun x hx => hx.elim (fun h => (hX.gd x h).1) (fun h => (hmine x h).1)) e1 e2).mono ?_
    rintro e w' ⟨T, rfl, rfl, hw, hnd, hb, G', hGG, hG', hnG, hT⟩
    refine hK T w' (fun x => G' x ∧ ¬ Mine M x) rfl hw hnd (fun x hx => ⟨hGG x (.inl hx), fun h => (hmine x h).2 hx⟩) (fun x hx => ?_) (fun x hx => ⟨(hb x hx).1, (hb x hx).2, fun h => hnG x hx h.1⟩) (hT.pure hp)
    rcases hG' x hx.1 with (h | h) | h
    · exact .inl h
    · exact absurd h hx.2
    · exact .inr h
/-- A call with own memory lent; the result is the caller's own. -/
theorem l_callOwn {fo : Operand} {f : FuncId} {caps : List AV} {xs : List Operand} {ts : Array TypeId} {as : List AV} {res : AV} (hn : d < E.nt) (hf : s.ev fo = .fn f caps) (he : entB E.P f = true) (ha : borrowVs s (xs.map s.ev ++ caps) = some as)
    (hd : Does E.P f as res) (hp : pureV res = true) (hR : R (s.new d (openV d [] res) res)) : LJ E ⟨some d, .call { callee := .value fo, args := xs.toArray, argTypes := ts }, t, pos, after, g⟩ s R := by
  rintro a w ⟨M, G, hX⟩
  refine call_core hf he ha hd hp hX (fun T w' G' h1 h2 h3 h4 h5 h6 h7 => ?_)
  subst h1
  exact ⟨_, ⟨_, G', hX.new hn h2 h4 h5 h7 h3 h6 (h7.opened (M := updF M d (some T)) (T0 := T) (by simp [updF]) rfl)⟩, hR⟩
/-- The same; the result is read alone from here on. -/
theorem l_callSh {fo : Operand} {f : FuncId} {caps : List AV} {xs : List Operand} {ts : Array TypeId} {as : List AV} {res : AV} (hn : d < E.nt) (hf : s.ev fo = .fn f caps) (he : entB E.P f = true) (ha : borrowVs s (xs.map s.ev ++ caps) = some as)
    (hd : Does E.P f as res) (hp : pureV res = true) (hR : R (s.set d res.share)) : LJ E ⟨some d, .call { callee := .value fo, args := xs.toArray, argTypes := ts }, t, pos, after, g⟩ s R := by
  rintro a w ⟨M, G, hX⟩
  refine call_core hf he ha hd hp hX (fun T w' G' h1 h2 h3 h4 h5 h6 h7 => ?_)
  subst h1
  exact ⟨_, ⟨M, fun x => G' x ∨ x ∈ T.blocks, hX.setG hn h2 (fun x hx => .inl (h4 x hx)) (fun x hx => hx.elim (h5 x) (fun h => .inr ⟨(h6 x h).1, (h6 x h).2.1⟩)) (h7.share (fun x hx => .inl hx) (fun x hx => .inr hx) M).1⟩, hR⟩
end
end Go.Av
end
section
set_option linter.unusedSimpArgs false
set_option linter.unusedVariables false
/-! append. -/
namespace Go.Av

theorem RelX.world {E : Env} {M : Nat → Option HT} {G : Nat → Prop} {s : ASt} {a : Act} {w w' : World} (h : RelX E M G s a w) (hw : Ext (fun _ => False) w w') : RelX E M G s a w' := by
  have hb : ∀ b, b < w.heap.size → w'.heap[b]? = w.heap[b]? := fun b hb => hw.block b hb (fun h => h)
  refine ⟨h.er, fun r T hT => (h.sat r T hT).congr (fun b hx => hb b (h.own r T hT b hx).1) (fun b hx => hb b (h.gd b hx).1) (fun _ hx => hx), h.nd, h.dj, fun r T hT x hx => ?_, fun x hx => ?_, h.g0, fun i => ?_, ?_, h.df, h.nt, h.n1, h.pv⟩
  · obtain ⟨h1, h2, h3⟩ := h.own r T hT x hx
    exact ⟨Nat.lt_of_lt_of_le h1 hw.size, h2, h3⟩
  · obtain ⟨h1, h2⟩ := h.gd x hx
    exact ⟨Nat.lt_of_lt_of_le h1 hw.size, h2⟩
  · exact (h.sl i).congr (fun b hx => hb b (h.gd b hx).1) (fun _ hx => hx)
  · exact h.ext.trans hw (fun i _ hi => hi.elim)

theorem drew_ext (w : World) : Ext (fun _ => False) w w.drew := ⟨rfl, rfl, rfl, Nat.le_refl _, fun _ _ _ => rfl⟩

/-- What 'append' does to a row that belongs to nobody else. -/
theorem run_app {P : Program} {t ty : TypeId} {zs : List Value} {by_ : Nat} (hz : zcT P t = some (zs, by_)) (hz0 : 0 < zs.length) (w : World) {u : Value} {k : Nat} {olds : List Value}
    (hu : (u = .slice none 0 0 ∧ k = 0 ∧ olds = []) ∨ ∃ (b cap : Nat) (C : Array Value) (e0 : TypeId), u = .slice (some ⟨b, 0, none⟩) k cap ∧ w.heap[b]? = some (.cells C e0 (0, 0)) ∧ k ≤ cap ∧ C.size = cap * zs.length ∧ olds.length = k * zs.length ∧ ∀ (j : Nat) (v : Value), olds[j]? = some v → C[j]? = some v)
    {A : Option Addr} {m c : Nat} {news : List Value} (hl : news.length = m * zs.length) (hnews : ∀ (j : Nat) (v : Value), news[j]? = some v → ∃ ad, A = some ad ∧ w.cell? (ad.add j) = some v) (h1 : ∀ v ∈ news, v.oneCell' = true)
    (b1 : k + m ≤ 9223372036854775807) (b2 : (k + m) * by_ ≤ 140737488355328) :
    (u = .slice none 0 0 ∧ m = 0 ∧ (Builtin.append_ #[t, t] ty #[u, .slice A m c]).run P w = .ok (.slice none 0 0) w) ∨
    (∃ b cap, u = .slice (some ⟨b, 0, none⟩) k cap ∧ k + m ≤ cap ∧ (Builtin.append_ #[t, t] ty #[u, .slice A m c]).run P w = .ok (.slice (some ⟨b, 0, none⟩) (k + m) cap) (w.setCells b (k * zs.length) news)) ∨
    (∃ (cap' : Nat) (C' : Array Value) (e : TypeId), k + m ≤ cap' ∧ cap' ≤ 9223372036854775807 ∧ C'.size = cap' * zs.length ∧ (∀ (j : Nat) (v : Value), (olds ++ news)[j]? = some v → C'[j]? = some v) ∧
      (Builtin.append_ #[t, t] ty #[u, .slice A m c]).run P w = .ok (.slice (some ⟨w.heap.size, 0, none⟩) (k + m) cap') (w.drew.alloc (.cells C' e))) := by
  obtain ⟨e, i, z, ht, hi, hzz, h5, h6, h7, _⟩ := zcT_spec hz
  subst h6
  rw [← h7] at hl hz0 ⊢
  have hzs : z.cells.size = i.size := by rw [h7, ← h5]; simp
  have hmax : ∀ old, grownCap w (k + m) old e ≤ 9223372036854775807 := fun old => by
    have := grownCap_le_maxLen w (k + m) old e (by simp only [maxLen]; omega)
    simp only [maxLen] at this; omega
  have hsize : ∀ (old : Nat) (l : List Value), l.length = (k + m) * i.size → (l.toArray ++ Builtin.zeroCells z.cells (grownCap w (k + m) old e - (k + m))).size = grownCap w (k + m) old e * i.size := fun old l hll => by
    have := grownCap_ge w (k + m) old e
    rw [Array.size_append, List.size_toArray, size_zeroCells, hzs, hll, ← Nat.add_mul]
    congr 1; omega
  rcases hu with ⟨rfl, rfl, rfl⟩ | ⟨b, cap, C, e0, rfl, hb, hkc, hC, hol, holds⟩
  · by_cases hm : m = 0
    · subst hm
      refine .inl ⟨rfl, rfl, ?_⟩
      have : (Builtin.firstCells i.size 0 (.slice A 0 c)).run P w = .ok #[] w := by
        cases A <;> simp [Builtin.firstCells, loadCells, loadCellsFrom]
      simp [Builtin.append_, run_underlying ht, sizeOf, typeInfo, hi, Builtin.lenOf, this]
    · have h0 : 0 < news.length := by rw [hl]; exact Nat.mul_pos (by omega) hz0
      obtain ⟨ad, rfl, _⟩ := hnews 0 news[0] (List.getElem?_eq_getElem h0)
      have hr := run_append_nil (P := P) w t ty e i z ht hi hzz ad m c news hl (fun j v hj => by obtain ⟨ad', h, h'⟩ := hnews j v hj; cases h; exact h') (by omega) (by omega) (by simp only [Nat.zero_add] at b2; omega)
      have g2 := hmax 0
      have g3 := hsize 0 news (by simpa using hl)
      simp only [Nat.zero_add, List.nil_append] at g2 g3 ⊢
      refine .inr (.inr ⟨_, _, e, grownCap_ge w m 0 e, g2, g3, ?_, hr⟩)
      intro j v hj
      have := (List.getElem?_eq_some_iff.1 hj).1
      rw [Array.getElem?_append_left (by simpa using this)]
      simpa using hj
  · have holdc : ∀ (j : Nat) (v : Value), olds[j]? = some v → w.cell? ((⟨b, 0, none⟩ : Addr).add j) = some v := fun j v hj => by
      rw [add0, Nat.zero_add]
      simp [World.cell?, hb, holds j v hj]
    by_cases hm : m = 0
    · subst hm
      refine .inr (.inl ⟨b, cap, rfl, by omega, ?_⟩)
      have hn : news = [] := List.eq_nil_of_length_eq_zero (by simpa using hl)
      subst hn
      have : (Builtin.firstCells i.size 0 (.slice A 0 c)).run P w = .ok #[] w := by
        cases A <;> simp [Builtin.firstCells, loadCells, loadCellsFrom]
      simp [Builtin.append_, run_underlying ht, sizeOf, typeInfo, hi, Builtin.lenOf, this, hkc, storeCells, World.setCells]
    · have h0 : 0 < news.length := by rw [hl]; exact Nat.mul_pos (by omega) hz0
      obtain ⟨ad, rfl, _⟩ := hnews 0 news[0] (List.getElem?_eq_getElem h0)
      have hn' : ∀ (j : Nat) (v : Value), news[j]? = some v → w.cell? (ad.add j) = some v := fun j v hj => by obtain ⟨ad', h, h'⟩ := hnews j v hj; cases h; exact h'
      by_cases hroom : k + m ≤ cap
      · refine .inr (.inl ⟨b, cap, rfl, hroom, ?_⟩)
        have := run_append_room_cells (P := P) w t ty e i ht hi b 0 k cap ad m c news hl hn' h1 hroom (fun j hj => by
          have : k * i.size + j < C.size := by
            rw [hC, ← h7]
            have : (k + m) * i.size ≤ cap * i.size := Nat.mul_le_mul_right _ hroom
            rw [Nat.add_mul] at this; omega
          simp [World.cell?, hb, this]) (fun j hj => by simp [World.frozen?, hb])
        simpa using this
      · refine .inr (.inr ⟨_, _, e, ?_, ?_, ?_, ?_, run_append_grow w t ty e i z ht hi hzz ⟨b, 0, none⟩ k cap olds (by rw [hol, h7]) holdc ad m c news hl hn' (by omega) (by omega) (growslice_fits (by omega) b2)⟩)
        · exact grownCap_ge w (k + m) cap e
        · exact hmax cap
        · have := hsize cap (olds ++ news) (by rw [List.length_append, hol, hl, ← h7, Nat.add_mul])
          simpa using this
        · intro j v hj
          have := (List.getElem?_eq_some_iff.1 hj).1
          have e1 : olds.toArray ++ news.toArray = (olds ++ news).toArray := by simp
          rw [e1, Array.getElem?_append_left (by simpa using this)]
          simpa using hj

section
variable {E : Env} {s s1 : ASt} {d : Nat} {x y : Operand} {t ty xt : TypeId} {pos : String} {after : Array Edge} {g : Option (Nat × Bool)} {R : ASt → Prop}
theorem append_core {M : Nat → Option HT} {G : Nat → Prop} {a : Act} {w : World} (hX : RelX E M G s1 a w) (hd : d < E.nt) {zs : List Value} {by_ : Nat} (hz : zcT E.P t = some (zs, by_)) (hz0 : 0 < zs.length)
    {T : HT} {Vs : List HT} {k m : Nat} {cs : List AV} (hT : Sat w G T) (hTe : T.erase = .row true zs.length k cs) (hTv : T.value = a.eval x) (hTn : T.blocks.Nodup)
    (hTf : ∀ b ∈ T.blocks, (∀ r T', M r = some T' → b ∉ T'.blocks) ∧ b < w.heap.size ∧ ¬ G b ∧ (E.w0.heap.size ≤ b ∨ E.X b))
    {A : Option Addr} {c : Nat} (hu : a.eval y = .slice A m c) (hVl : Vs.length = m * zs.length) (hVs : ∀ V ∈ Vs, Sat w G V ∧ V.value.oneCell' = true) (hVn : (Vs.flatMap HT.blocks).Nodup)
    (hVf : ∀ b ∈ Vs.flatMap HT.blocks, (∀ r T', M r = some T' → b ∉ T'.blocks) ∧ b < w.heap.size ∧ ¬ G b ∧ (E.w0.heap.size ≤ b ∨ E.X b)) (hVT : ∀ b ∈ Vs.flatMap HT.blocks, b ∉ T.blocks)
    (hVc : ∀ (j : Nat) (V : HT), Vs[j]? = some V → ∃ ad, A = some ad ∧ w.cell? (ad.add j) = some V.value)
    (b1 : k + m ≤ 9223372036854775807) (b2 : (k + m) * by_ ≤ 140737488355328) {K : Act → World → Prop} {Q : Exit → Act → World → Prop}
    (hK : ∀ a' w', Rel E (s1.new d (.sl d [] 0 (k + m)) (.row true zs.length (k + m) (cs ++ HT.erases Vs))) a' w' → K a' w') :
    (⟨some d, .call { callee := .builtin .append, args := #[x, y], argTypes := #[t, t] }, ty, pos, after, g⟩ : Oper).wp E.P a w K Q := by
  -- the old row
  obtain ⟨Ks, hKe, hKv, hKsub⟩ : ∃ Ks : List HT, HT.erases Ks = cs ∧ ((T.value = .slice none 0 0 ∧ k = 0 ∧ Ks = []) ∨ ∃ (b cap : Nat) (C : Array Value) (e0 : TypeId), T.value = .slice (some ⟨b, 0, none⟩) k cap ∧ w.heap[b]? = some (.cells C e0 (0, 0)) ∧ k ≤ cap ∧ cap ≤ 9223372036854775807 ∧ C.size = cap * zs.length ∧ Ks.length = k * zs.length ∧
      (∀ (i : Nat) (K : HT), Ks[i]? = some K → C[i]? = some K.value ∧ Sat w G K) ∧ T.blocks = b :: Ks.flatMap HT.blocks) ∧ True := by
    cases hT with
    | leaf a v ha _ => cases a with
      | row o _ _ _ => cases o <;> simp_all [HT.erase, AV.leafOk]
      | _ => simp_all [HT.erase, AV.leafOk]
    | row b sz n cap cs' C e g1 g2 g3 g4 g5 g6 g7 g8 =>
      simp only [HT.erase, AV.row.injEq, true_and] at hTe
      obtain ⟨rfl, rfl, rfl⟩ := hTe
      exact ⟨cs', rfl, .inr ⟨b, cap, C, e, rfl, g1, g3, g6, g4, g2, fun i K hK => ⟨g7 i K hK, g8 i K hK⟩, by simp [HT.blocks, HT.blockss_eq]⟩, trivial⟩
    | nilrow sz =>
      simp only [HT.erase, AV.row.injEq, true_and] at hTe
      obtain ⟨rfl, rfl, rfl⟩ := hTe
      exact ⟨[], rfl, .inl ⟨rfl, rfl, rfl⟩, trivial⟩
    | box => simp [HT.erase] at hTe
    | agg => simp [HT.erase] at hTe
    | tup => simp [HT.erase] at hTe
  subst hKe
  have hnews : ∀ (j : Nat) (v : Value), (HT.values Vs)[j]? = some v → ∃ ad, A = some ad ∧ w.cell? (ad.add j) = some v := fun j v hj => by
    rw [HT.values_eq, List.getElem?_map] at hj
    cases hV : Vs[j]? with
    | none => rw [hV] at hj; cases hj
    | some V =>
      rw [hV] at hj
      simp only [Option.map_some, Option.some.injEq] at hj
      subst hj
      exact hVc j V hV
  have hone : ∀ v ∈ HT.values Vs, v.oneCell' = true := fun v hv => by
    rw [HT.values_eq] at hv
    obtain ⟨V, h1, rfl⟩ := List.mem_map.1 hv
    exact (hVs V h1).2
  have hKblk : ∀ x ∈ Ks.flatMap HT.blocks, x ∈ T.blocks := fun x hx => by
    rcases hKv with ⟨_, _, rfl⟩ | ⟨b, cap, C, e0, _, _, _, _, _, _, _, h⟩
    · simp at hx
    · rw [h]; exact List.mem_cons_of_mem _ hx
  have hKnd : (Ks.flatMap HT.blocks).Nodup := by
    rcases hKv with ⟨_, _, rfl⟩ | ⟨b, cap, C, e0, _, _, _, _, _, _, _, h⟩
    · simp
    · rw [h] at hTn; exact (List.nodup_cons.1 hTn).2
  have hKsat : ∀ K ∈ Ks, Sat w G K := fun K hK' => by
    rcases hKv with ⟨_, _, rfl⟩ | ⟨b, cap, C, e0, _, _, _, _, _, _, h, _⟩
    · simp at hK'
    · obtain ⟨i, hi⟩ := List.getElem?_of_mem hK'
      exact (h i K hi).2
  have hall : ((Ks ++ Vs).flatMap HT.blocks).Nodup := by
    rw [List.flatMap_append, List.nodup_append]
    exact ⟨hKnd, hVn, fun x hx y hy e => hVT y hy (by subst e; exact hKblk _ hx)⟩
  have hallf : ∀ b ∈ (Ks ++ Vs).flatMap HT.blocks, (∀ r T', M r = some T' → b ∉ T'.blocks) ∧ b < w.heap.size ∧ ¬ G b ∧ (E.w0.heap.size ≤ b ∨ E.X b) := fun b hb => by
    rw [List.flatMap_append, List.mem_append] at hb
    rcases hb with hb | hb
    · exact hTf b (hKblk b hb)
    · exact hVf b hb
  have hallS : ∀ K ∈ Ks ++ Vs, Sat w G K := fun K hk => (List.mem_append.1 hk).elim (hKsat K) (fun h => (hVs K h).1)
  have her : HT.erases (Ks ++ Vs) = HT.erases Ks ++ HT.erases Vs := by simp [HT.erases_eq]
  have hrun := run_app (P := E.P) (t := t) (ty := ty) hz hz0 w (u := T.value) (k := k) (olds := HT.values Ks) (hKv.imp (fun ⟨h1, h2, h3⟩ => ⟨h1, h2, by subst h3; rfl⟩) (fun ⟨b, cap, C, e0, h1, h2, h3, h4, h5, h6, h7, h8⟩ => ⟨b, cap, C, e0, h1, h2, h3, h5, by rw [HT.values_eq, List.length_map, h6], fun j v hj => by
    rw [HT.values_eq, List.getElem?_map] at hj
    cases hV : Ks[j]? with
    | none => rw [hV] at hj; cases hj
    | some V =>
      rw [hV] at hj
      simp only [Option.map_some, Option.some.injEq] at hj
      subst hj
      exact (h7 j V hV).1⟩)) (A := A) (m := m) (c := c) (news := HT.values Vs) (by rw [HT.values_eq, List.length_map, hVl]) hnews hone b1 b2
  have hexec : ∀ v' w', (Builtin.append_ #[t, t] ty #[T.value, .slice A m c]).run E.P w = .ok v' w' → (execOp a.eval ⟨some d, .call { callee := .builtin .append, args := #[x, y], argTypes := #[t, t] }, ty, pos, after, g⟩).run E.P w = .ok (.value v') w' := fun v' w' h => by
    rw [hTv] at h
    simp [execOp, resolve, invoke, builtin, hu, h, Result.andThen]
  unfold Oper.wp
  rcases hrun with ⟨h1, rfl, h2⟩ | ⟨b, cap, h1, hcap, h2⟩ | ⟨cap', C', e, g1, g2, g3, g4, h2⟩
  · rw [hexec _ _ h2]
    simp only [Oper.upon]
    have hV0 : Vs = [] := List.eq_nil_of_length_eq_zero (by simpa using hVl)
    subst hV0
    have hk : k = 0 ∧ Ks = [] := by
      rcases hKv with ⟨_, h3, h4⟩ | ⟨b, cap, C, e0, h3, _⟩
      · exact ⟨h3, h4⟩
      · rw [h1] at h3; simp at h3
    obtain ⟨rfl, rfl⟩ := hk
    have := hX.new2 (T := .nilrow zs.length) (v := .sl d [] 0 0) (u := .slice none 0 0) hd (w' := w) ⟨rfl, rfl, rfl, Nat.le_refl _, fun _ _ _ => rfl⟩ (.nilrow _) (by simp [HT.blocks]) (by simp [HT.blocks])
      ((Sat.nilrow (w := w) (G := G) zs.length).opened (M := updF M d (some (.nilrow zs.length))) (r := d) (T0 := .nilrow zs.length) (by simp [updF]) (p := []) rfl)
    exact hK _ _ ⟨_, G, by simpa only [Nat.add_zero, HT.erases, List.append_nil, HT.erase] using this⟩
  · rcases hKv with ⟨h3, _⟩ | ⟨b', cap', C, e0, h3, k1, k2, k3, k4, k5, k6, k7⟩
    · rw [h1] at h3; simp at h3
    rw [h1] at h3
    simp only [Value.slice.injEq, Option.some.injEq, Addr.mk.injEq, and_true, true_and] at h3
    obtain ⟨rfl, rfl⟩ := h3
    rw [hexec _ _ h2]
    simp only [Oper.upon]
    have hbT : b ∈ T.blocks := by rw [k7]; simp
    have hfit : k * zs.length + (HT.values Vs).length ≤ C.size := by
      rw [HT.values_eq, List.length_map, hVl, ← Nat.add_mul, k4]
      exact Nat.mul_le_mul_right _ hcap
    obtain ⟨C', c1, c2, c3, c4, c5, c6, c7, c8⟩ := setCells_fx b (HT.values Vs) (k * zs.length) w C e0 (0, 0) k1 hfit
    have hbK : b ∉ (Ks ++ Vs).flatMap HT.blocks := fun hb => by
      rw [List.flatMap_append, List.mem_append] at hb
      rcases hb with hb | hb
      · rw [k7] at hTn; exact (List.nodup_cons.1 hTn).1 hb
      · exact hVT b hb hbT
    have hnew := hX.new2 (T := .row b zs.length (k + m) cap (Ks ++ Vs)) (v := .sl d [] 0 (k + m)) (u := .slice (some ⟨b, 0, none⟩) (k + m) cap) hd (w' := w.setCells b (k * zs.length) (HT.values Vs)) ?_ ?_ ?_ ?_ ?_
    · exact hK _ _ ⟨_, G, by simpa only [HT.erase, her] using hnew⟩
    · refine ⟨c5, c6, c7, by omega, fun i hi hx => c4 i (fun e => hx ?_)⟩
      subst e; simp [HT.blocks]
    · refine .row b _ _ _ _ C' e0 c1 (by rw [List.length_append, k5, hVl, Nat.add_mul]) hcap (by rw [c2, k4]) hz0 k3 (fun i T' hi => ?_) (fun i T' hi => ?_)
      · rw [c3 i]
        by_cases hlt : i < k * zs.length
        · rw [if_neg (by omega)]
          rw [List.getElem?_append_left (by omega)] at hi
          exact (k6 i T' hi).1
        · rw [List.getElem?_append_right (by omega)] at hi
          have := (List.getElem?_eq_some_iff.1 hi).1
          rw [if_pos ⟨by omega, by rw [HT.values_eq, List.length_map]; omega⟩, HT.values_eq, List.getElem?_map]
          rw [k5] at hi; rw [hi]; rfl
      · have hm := List.mem_of_getElem? hi
        refine (hallS T' hm).congr (fun x hx => c4 x (fun e => hbK ?_)) (fun x hx => c4 x (fun e => ?_)) (fun _ h => h)
        · subst e; exact List.mem_flatMap.2 ⟨T', hm, hx⟩
        · subst e; exact (hTf x hbT).2.2.1 hx
    · simp only [HT.blocks, HT.blockss_eq]
      exact List.nodup_cons.2 ⟨hbK, hall⟩
    · intro z hz'
      simp only [HT.blocks, HT.blockss_eq, List.mem_cons] at hz'
      rw [c8]
      rcases hz' with rfl | hz'
      · exact hTf z hbT
      · exact hallf z hz'
    · refine .sl _ _ _ _ _ (fun T' hT' b' sz' n' cap' cs' hN' hle => ?_) (fun T' hT' sz' hN' hle => ?_)
      · simp only [updF, if_true, Option.some.injEq] at hT'; subst hT'
        simp only [HT.at_, Option.some.injEq, HT.row.injEq] at hN'
        obtain ⟨rfl, rfl, rfl, rfl, rfl⟩ := hN'
        exact ⟨_, _, rfl, hcap, by omega, .inr (by simp), fun _ => ⟨rfl, rfl⟩⟩
      · simp only [updF, if_true, Option.some.injEq] at hT'; subst hT'
        simp [HT.at_] at hN'
  · rw [hexec _ _ h2]
    simp only [Oper.upon]
    have hX' := hX.world (drew_ext w)
    have := hX'.newRow hd e (Ts := Ks ++ Vs) zs.length (k + m) cap' C' hz0 (by
      rw [List.length_append, hVl, Nat.add_mul]
      rcases hKv with ⟨_, rfl, rfl⟩ | ⟨b, cap, C, e0, _, _, _, _, _, h5, _⟩
      · simp
      · rw [h5]) g1 g2 g3 (fun i K hi => g4 i K.value (by
      have : HT.values Ks ++ HT.values Vs = HT.values (Ks ++ Vs) := by simp [HT.values_eq]
      rw [this, HT.values_eq, List.getElem?_map, hi]; rfl)) (fun K hk => (hallS K hk).congr (fun _ _ => rfl) (fun _ _ => rfl) (fun _ h => h)) hall hallf
    rw [her] at this
    exact hK _ _ ⟨_, G, this⟩

theorem close_nilslice {sz : Nat} : CloseJ E s (.lit (.slice none 0 0)) (.row true sz 0 []) s := fun M G a w hX u hu =>
  ⟨M, .nilrow sz, hX, by rw [hu.litv]; rfl, rfl, .nilrow sz, by simp [HT.blocks], by simp [HT.blocks], fun v u h => h, fun q T' hq x hx => ⟨q, T', hq, hx⟩⟩
/-- What is appended, read alone. -/
def YJ (E : Env) (s : ASt) (y : AV) (sz m : Nat) (es : List AV) : Prop :=
  ∀ M G a w, RelX E M G s a w → ∀ u, VR w G M y u → ∃ (Vs : List HT) (A : Option Addr) (c : Nat), u = .slice A m c ∧ HT.erases Vs = es ∧ Vs.length = m * sz ∧ (∀ V ∈ Vs, Sat w G V ∧ V.value.oneCell' = true) ∧ Vs.flatMap HT.blocks = [] ∧
    ∀ (j : Nat) (V : HT), Vs[j]? = some V → ∃ ad, A = some ad ∧ w.cell? (ad.add j) = some V.value

theorem l_append {zs : List Value} {by_ k m : Nat} {cs es : List AV} (hd : d < E.nt) (hz : zcT E.P t = some (zs, by_)) (hz0 : 0 < zs.length) (hx : CloseJ E s (s.ev x) (.row true zs.length k cs) s1) (hy : YJ E s (s.ev y) zs.length m es)
    (b1 : k + m ≤ 9223372036854775807) (b2 : (k + m) * by_ ≤ 140737488355328) (hR : R (s1.new d (.sl d [] 0 (k + m)) (.row true zs.length (k + m) (cs ++ es)))) :
    LJ E ⟨some d, .call { callee := .builtin .append, args := #[x, y], argTypes := #[t, t] }, ty, pos, after, g⟩ s R := by
  rintro a w ⟨M, G, hX⟩
  obtain ⟨M1, T, h1, h2, h3, h4, h5, h6, h7, h8⟩ := hx M G a w hX _ (hX.ev x)
  obtain ⟨Vs, A, c, v1, v2, v3, v4, v5, v6⟩ := hy M G a w hX _ (hX.ev y)
  subst v2
  exact append_core (x := x) (y := y) h1 hd hz hz0 h4 h3 h2 h5 (fun b hb => (h6 b hb).2) v1 v3 v4 (by rw [v5]; simp) (by rw [v5]; simp) (by rw [v5]; simp) v6 b1 b2 (fun a' w' h => ⟨_, h, hR⟩)
/-- With all that belongs to what is appended. -/
theorem l_appendMove {zs : List Value} {by_ k m : Nat} {cs es : List AV} (hd : d < E.nt) (hz : zcT E.P t = some (zs, by_)) (hz0 : 0 < zs.length) (hxy : CloseLJ E s [s.ev x, s.ev y] [.row true zs.length k cs, .row true zs.length m es] s1) (hf : fitCs es = true)
    (b1 : k + m ≤ 9223372036854775807) (b2 : (k + m) * by_ ≤ 140737488355328) (hR : R (s1.new d (.sl d [] 0 (k + m)) (.row true zs.length (k + m) (cs ++ es)))) :
    LJ E ⟨some d, .call { callee := .builtin .append, args := #[x, y], argTypes := #[t, t] }, ty, pos, after, g⟩ s R := by
  rintro a w ⟨M, G, hX⟩
  obtain ⟨M1, Ts, h1, h2, h3, h4, h5, h6, h7, h8⟩ := hxy M G a w hX [a.eval x, a.eval y] rfl (fun i c z a1 a2 => by
        match i, a1, a2 with
        | 0, a1, a2 => simp only [List.getElem?_cons_zero, Option.some.injEq] at a1 a2; subst a1; subst a2; exact hX.ev x
        | 1, a1, a2 => simp only [List.getElem?_cons_succ, List.getElem?_cons_zero, Option.some.injEq] at a1 a2; subst a1; subst a2; exact hX.ev y
        | i + 2, a1, a2 => simp at a1)
  obtain ⟨T, U, rfl⟩ : ∃ T U, Ts = [T, U] := by
    match Ts, h2 with
    | [T, U], _ => exact ⟨T, U, rfl⟩
    | [], h2 => simp [HT.values] at h2
    | [_], h2 => simp [HT.values] at h2
    | _ :: _ :: _ :: _, h2 => simp [HT.values] at h2
  · simp only [HT.values, List.cons.injEq, and_true] at h2
    simp only [HT.erases, List.cons.injEq, and_true] at h3
    obtain ⟨h3a, h3⟩ := h3
    simp only [HT.blockss, List.append_nil] at h5 h6
    have hT := h4 0 T rfl
    have hU := h4 1 U rfl
    rw [List.nodup_append] at h5
    have hUf : ∀ b ∈ U.blocks, _ := fun b hb => (h6 b (List.mem_append.2 (.inr hb))).2
    generalize hUU : U = U' at hU
    cases hU with
    | leaf a v ha _ => cases a with
      | row o _ _ _ => cases o <;> simp_all [HT.erase, AV.leafOk]
      | _ => simp_all [HT.erase, AV.leafOk]
    | row b sz n cap cs' C e g1 g2 g3 g4 g5 g6 g7 g8 =>
      subst hUU
      simp only [HT.erase, AV.row.injEq, true_and] at h3
      obtain ⟨rfl, rfl, rfl⟩ := h3
      simp only [HT.blocks, HT.blockss_eq] at h5 h6 hUf
      refine append_core (x := x) (y := y) (Vs := cs') h1 hd hz hz0 hT h3a h2.1 h5.1 (fun b hb => (h6 b (List.mem_append.2 (.inl hb))).2) (A := some ⟨b, 0, none⟩) (c := cap) (by rw [← h2.2]; rfl) g2 (fun V hV => ?_) (List.nodup_cons.1 h5.2.1).2 (fun x hx => hUf x (List.mem_cons_of_mem _ hx)) (fun x hx hx' => h5.2.2 x hx' x (List.mem_cons_of_mem _ hx) rfl) (fun j V hj => ⟨_, rfl, ?_⟩) b1 b2 (fun a' w' h => ⟨_, h, hR⟩)
      · obtain ⟨i, hi⟩ := List.getElem?_of_mem hV
        refine ⟨g8 i V hi, (fit_val (g8 i V hi) (fitCs_mem.1 hf _ ?_)).1⟩
        rw [HT.erases_eq]; exact List.mem_map.2 ⟨V, hV, rfl⟩
      · rw [add0, Nat.zero_add]
        simp [World.cell?, g1, g7 j V hj]
    | nilrow sz =>
      subst hUU
      simp only [HT.erase, AV.row.injEq, true_and] at h3
      obtain ⟨rfl, rfl, rfl⟩ := h3
      exact append_core (x := x) (y := y) (Vs := []) h1 hd hz hz0 hT h3a h2.1 h5.1 (fun b hb => (h6 b (List.mem_append.2 (.inl hb))).2) (A := none) (c := 0) (by rw [← h2.2]; rfl) (by simp) (by simp) (by simp) (by simp) (by simp) (by simp) b1 b2 (fun a' w' h => ⟨_, h, hR⟩)
    | box => subst hUU; simp [HT.erase] at h3
    | agg => subst hUU; simp [HT.erase] at h3
    | tup => subst hUU; simp [HT.erase] at h3
end
end Go.Av
end
section
set_option linter.unusedSimpArgs false
set_option linter.unusedVariables false
/-! Values built out of parts; rows written out; slices of slices; regions called anew. -/
namespace Go.Av

/-! ### fill -/
theorem zip_set (off : Nat) : ∀ (vs : List Value) (j : Nat) (C : Array Value), off + j + vs.length ≤ C.size →
    ((vs.zipIdx j).foldl (fun (cs : Array Value) (p : Value × Nat) => cs.setIfInBounds (off + p.2) p.1) C).toList = setL C.toList (off + j) vs
  | [], j, C, h => by simp [setL]
  | v :: r, j, C, h => by
    simp only [List.zipIdx_cons, List.foldl_cons]
    rw [zip_set off r (j + 1) _ (by simp only [List.length_cons] at h; simp; omega)]
    have h1 : off + j < C.toList.length := by simp only [List.length_cons] at h; simp; omega
    simp only [setL, Array.toList_setIfInBounds, List.length_cons]
    have e1 : List.take (off + (j + 1)) (C.toList.set (off + j) v) = List.take (off + j) C.toList ++ [v] := by
      rw [← Nat.add_assoc, List.take_succ_eq_append_getElem (by simpa using h1)]
      congr 1
      · rw [List.take_set_of_le (Nat.le_refl _)]
      · simp
    have e2 : List.drop (off + (j + 1) + r.length) (C.toList.set (off + j) v) = List.drop (off + j + (r.length + 1)) C.toList := by
      rw [List.drop_set_of_lt (by omega)]
      congr 1; omega
    rw [e1, e2]
    simp
def fillL (pl : Nat → Option (Nat × Nat)) : List Value → List (Nat × List Value) → Option (List Value)
  | cs, [] => some cs
  | cs, (i, vs) :: rest => match pl i with
    | some (off, size) => if vs.length = size ∧ off + size ≤ cs.length then fillL pl (setL cs off vs) rest else none
    | none => none
theorem fill_L (pl : Nat → Option (Nat × Nat)) : ∀ (parts : List (Nat × Value)) (C : Array Value) (r : List Value), fillL pl C.toList (parts.map fun p => (p.1, p.2.cells.toList)) = some r →
    ∃ C', Instr.fill pl C parts = some C' ∧ C'.toList = r
  | [], C, r, h => by simp only [List.map_nil, fillL, Option.some.injEq] at h; exact ⟨C, rfl, h⟩
  | (i, v) :: rest, C, r, h => by
    simp only [List.map_cons, fillL] at h
    split at h
    · rename_i off size hp
      split at h
      · rename_i hc
        obtain ⟨h1, h2⟩ := hc
        simp only [Array.length_toList] at h1 h2
        have hz := zip_set off v.cells.toList 0 C (by simp; omega)
        simp only [Nat.add_zero] at hz
        rw [← hz] at h
        obtain ⟨C', k1, k2⟩ := fill_L pl rest _ r h
        refine ⟨C', ?_, k2⟩
        simp only [Instr.fill, hp]
        rw [if_neg (by simp; omega)]
        rw [← k1]
        congr 1
        rw [← Array.foldl_toList]
        simp
      · cases h
    · cases h
/-- The same over abstract values. -/
def fillA (pl : Nat → Option (Nat × Nat)) : List AV → List (Nat × List AV) → Option (List AV)
  | cs, [] => some cs
  | cs, (i, vs) :: rest => match pl i with
    | some (off, size) => if vs.length = size ∧ off + size ≤ cs.length then fillA pl (setL cs off vs) rest else none
    | none => none
def VRs (w : World) (G : Nat → Prop) (m : Nat → Option HT) (as : List AV) (us : List Value) : Prop := us.length = as.length ∧ ∀ (i : Nat) (a : AV) (u : Value), as[i]? = some a → us[i]? = some u → VR w G m a u
theorem VRs.setL {w : World} {G : Nat → Prop} {m : Nat → Option HT} {as bs : List AV} {us vs : List Value} {o : Nat} (h : VRs w G m as us) (k : VRs w G m bs vs) (ho : o + bs.length ≤ as.length) : VRs w G m (setL as o bs) (setL us o vs) := by
  refine ⟨by rw [setL_len (by rw [k.1, h.1]; exact ho), setL_len ho]; exact h.1, fun i a u h1 h2 => ?_⟩
  rw [setL_get ho] at h1
  rw [setL_get (by rw [k.1, h.1]; exact ho), k.1] at h2
  split at h1
  · rename_i hc
    rw [if_pos hc] at h2
    exact k.2 _ a u h1 h2
  · rename_i hc
    rw [if_neg hc] at h2
    exact h.2 _ a u h1 h2
theorem fill_VR {w : World} {G : Nat → Prop} {m : Nat → Option HT} (pl : Nat → Option (Nat × Nat)) : ∀ (pa : List (Nat × List AV)) (pv : List (Nat × List Value)) (as : List AV) (us : List Value) (r : List AV), VRs w G m as us → pa.map Prod.fst = pv.map Prod.fst →
    (∀ (i : Nat) a v, pa[i]? = some a → pv[i]? = some v → VRs w G m a.2 v.2) → fillA pl as pa = some r → ∃ r', fillL pl us pv = some r' ∧ VRs w G m r r'
  | [], [], as, us, r, h, _, _, hf => by simp only [fillA, Option.some.injEq] at hf; subst hf; exact ⟨us, rfl, h⟩
  | [], _ :: _, as, us, r, h, he, _, hf => by simp at he
  | _ :: _, [], as, us, r, h, he, _, hf => by simp at he
  | (i, a) :: pa, (j, v) :: pv, as, us, r, h, he, hp, hf => by
    simp only [List.map_cons, List.cons.injEq] at he
    obtain ⟨rfl, he⟩ := he
    have h0 := hp 0 _ _ rfl rfl
    simp only at h0
    simp only [fillA] at hf
    split at hf
    · rename_i off size hpl
      split at hf
      · rename_i hc
        simp only [fillL, hpl]
        rw [if_pos ⟨by rw [h0.1]; exact hc.1, by rw [h.1]; exact hc.2⟩]
        exact fill_VR pl pa pv _ _ r (h.setL h0 (by omega)) he (fun i a v h1 h2 => hp (i + 1) a v h1 h2) hf
      · cases hf
    · cases hf

/-! ### build -/
def plT (P : Program) (t : TypeId) (i : Nat) : Option (Nat × Nat) := match P.underlying t with
  | some (.struct fs) => (fs[i]?).bind fun f => (szT P f.type).map fun n => (f.offset, n)
  | some (.array _ e) => (szT P e).map fun n => (i * n, n)
  | _ => none
def bdOk (P : Program) (t : TypeId) : Bool := match P.info? t, P.underlying t with
  | some it, some (.array _ e) => (P.info? e).isSome && it.zero.isSome
  | some it, some (.struct fs) => (fs.toList.mapM (fun f => (P.info? f.type).map fun i => (f.offset, i.size))).isSome && it.zero.isSome
  | _, _ => false
theorem places_get {P : Program} : ∀ (fs : List Field) (places : List (Nat × Nat)) (i : Nat), fs.mapM (fun f => (P.info? f.type).map fun i => (f.offset, i.size)) = some places → places[i]? = (fs[i]?).bind fun f => (szT P f.type).map fun n => (f.offset, n)
  | [], places, i, h => by simp at h; subst h; simp
  | f :: fs, places, i, h => by
    simp only [List.mapM_cons, Option.bind_eq_bind, Option.pure_def] at h
    cases hi : P.info? f.type with
    | none => simp [hi] at h
    | some ii =>
      cases hr : fs.mapM (fun f => (P.info? f.type).map fun i => (f.offset, i.size)) with
      | none => simp [hi, hr] at h
      | some rest =>
        simp [hi, hr] at h
        subst h
        cases i with
        | zero => simp [szT, hi]
        | succ i => simpa using places_get fs rest i hr
theorem built_of {P : Program} {t : TypeId} {zs : List Value} (h : bdOk P t = true) (hz : zvT P t = some zs) (parts : List (Nat × Value)) {r : List Value} (hf : fillL (plT P t) zs (parts.map fun p => (p.1, p.2.cells.toList)) = some r) :
    ∃ C, P.built t parts = some C ∧ C.toList = r := by
  unfold bdOk at h
  unfold zvT at hz
  cases hit : P.info? t with
  | none => simp [hit] at h
  | some it =>
    rw [hit] at hz
    simp only at hz
    cases hzz : it.zero with
    | none => rw [hzz] at hz; cases hz
    | some z =>
      rw [hzz] at hz
      simp only [Option.map_some, Option.some.injEq] at hz
      subst hz
      cases hu : P.underlying t with
      | none => simp [hit, hu] at h
      | some dd =>
        cases dd with
        | array n e =>
          simp only [hit, hu, hzz, Option.isSome_some, Bool.and_true] at h
          obtain ⟨ie, hie⟩ := Option.isSome_iff_exists.1 h
          have hpl : plT P t = fun i => some (i * ie.size, ie.size) := by funext i; simp [plT, hu, szT, hie]
          rw [hpl] at hf
          simp only [Program.built, hit, hu, hzz, hie]
          exact fill_L _ parts z.cells r hf
        | struct fs =>
          simp only [hit, hu, hzz, Option.isSome_some, Bool.and_true] at h
          obtain ⟨places, hp⟩ := Option.isSome_iff_exists.1 h
          have hpl : plT P t = fun i => places[i]? := by
            funext i
            simp only [plT, hu]
            rw [places_get _ _ i hp]
            simp
          rw [hpl] at hf
          simp only [Program.built, hit, hu, hzz, hp]
          have := fill_L _ parts z.cells r hf
          simpa using this
        | _ => simp [hit, hu] at h

def rowAny (s : ASt) (r : Nat) (p : List Nat) (m : Nat) : Prop := ∃ sz n cs, nodeOf s r p = some (.row true sz n cs) ∧ m ≤ n
/-- Is it of a known number of cells? -/
def cellOk (s : ASt) : AV → Prop
  | .lit v => v.oneCell' = true
  | .row false _ _ _ => True
  | .box false _ => True
  | .fn _ _ => True
  | .agg _ => True
  | .sl r p off len => rowAny s r p (off + len)
  | .ptr r p _ => memN (nodeOf s r p) = true ∧ (cellsOf (nodeOf s r p)).length ≠ 0
  | _ => False
theorem cells_val {E : Env} {M : Nat → Option HT} {G : Nat → Prop} {s : ASt} {a : Act} {w : World} (hX : RelX E M G s a w) {v : AV} {u : Value} (hv : VR w G M v u) (hc : cellOk s v) : VRs w G M v.parts u.cells.toList := by
  have one : v.parts = [v] → u.cells = #[u] → VRs w G M v.parts u.cells.toList := fun h1 h2 => by
    rw [h1, h2]
    refine ⟨rfl, fun i a x e1 e2 => ?_⟩
    cases i with
    | zero => simp only [List.getElem?_cons_zero, Option.some.injEq] at e1 e2; subst e1; subst e2; exact hv
    | succ i => simp at e1
  cases v with
  | lit c =>
    have := hv.litv; subst this
    refine one rfl ?_
    simp only [cellOk] at hc
    cases u <;> simp_all [Value.oneCell', Value.cells]
  | row o sz n cs => cases o with
    | false =>
      refine one rfl ?_
      cases hv <;> rfl
    | true => simp [cellOk] at hc
  | box o cs => cases o with
    | false =>
      refine one rfl ?_
      cases hv; rfl
    | true => simp [cellOk] at hc
  | fn f cs =>
    refine one rfl ?_
    cases hv; rfl
  | agg cs =>
    cases hv with
    | agg _ us hl h => exact ⟨by simpa [AV.parts, Value.cells] using hl, fun i a x e1 e2 => h i a x (by simpa [AV.parts] using e1) (by simpa [Value.cells] using e2)⟩
  | sl r p off len =>
    obtain ⟨sz, n, cs, h1, h2⟩ := hc
    obtain ⟨A, c, h3, _⟩ := sl_val hX hv h1 h2
    exact one rfl (by rw [h3]; rfl)
  | ptr r p o =>
    simp only [cellOk] at hc
    cases hA : nodeOf s r p with
    | none => rw [hA] at hc; simp [memN] at hc
    | some A =>
      rw [hA] at hc
      obtain ⟨T, N, k1, k2, rfl, _, hsN⟩ := nodeOf_spec hX hA
      rcases memN_spec hsN hc.1 with ⟨sz, rfl⟩ | ⟨b, C, e, h1, _⟩
      · simp [HT.erase, cellsOf] at hc
      · have := ptr_val hX hv k1 k2 h1
        exact one rfl (by rw [this]; rfl)
  | tup cs => simp [cellOk] at hc
  | junk => simp [cellOk] at hc
theorem Le.cellOk {s s' : ASt} (h : Le s s') {v : AV} (hc : cellOk s v) : cellOk s' v := by
  cases v with
  | sl r p off len =>
    obtain ⟨sz, n, cs, h1, h2⟩ := hc
    exact ⟨sz, n, cs, h.node h1, h2⟩
  | ptr r p o =>
    simp only [Av.cellOk] at hc ⊢
    cases hA : nodeOf s r p with
    | none => rw [hA] at hc; simp [memN] at hc
    | some A => rw [hA] at hc; rw [h.node hA]; exact hc
  | row o sz n cs => cases o <;> exact hc
  | box o cs => cases o <;> exact hc
  | _ => exact hc
section
variable {E : Env} {s s1 : ASt} {d : Nat} {x y : Operand} {t ty xt : TypeId} {pos : String} {after : Array Edge} {g : Option (Nat × Bool)} {R : ASt → Prop}
theorem parts_VR {M : Nat → Option HT} {G : Nat → Prop} {a : Act} {w : World} {s' : ASt} (hX : RelX E M G s' a w) (hle : Le s s') (parts : List (Nat × Operand)) (hc : ∀ p ∈ parts, cellOk s (s.ev p.2)) :
    ∀ (i : Nat) (p : Nat × List AV) (v : Nat × List Value), (parts.map fun p => (p.1, (s.ev p.2).parts))[i]? = some p → ((parts.map fun p => (p.1, a.eval p.2)).map fun p => (p.1, p.2.cells.toList))[i]? = some v → VRs w G M p.2 v.2 := fun i p v h1 h2 => by
  rw [List.map_map, List.getElem?_map] at h2
  rw [List.getElem?_map] at h1
  cases hp : parts[i]? with
  | none => rw [hp] at h1; cases h1
  | some q =>
    rw [hp] at h1 h2
    simp only [Option.map_some, Option.some.injEq, Function.comp] at h1 h2
    subst h1; subst h2
    have := hc q (List.mem_of_getElem? hp)
    exact cells_val hX (hX.evLe hle q.2) (hle.cellOk this)
theorem q_build {parts : List (Nat × Operand)} {zs : List Value} {r : List AV} (hn : d < E.nt) (hb : bdOk E.P xt = true) (hz : zvT E.P xt = some zs) (hc : ∀ p ∈ parts, cellOk s (s.ev p.2))
    (hf : fillA (plT E.P xt) (zs.map .lit) (parts.map fun p => (p.1, (s.ev p.2).parts)) = some r) :
    QJ E ⟨some d, .build xt parts.toArray, t, pos, after, g⟩ s (.agg r) none :=
  .val rfl hn fun s' M G a w hle hX => by
    have hzs : VRs w G M (zs.map AV.lit) zs := ⟨by simp, fun i a u h1 h2 => by
      rw [List.getElem?_map, h2] at h1
      simp only [Option.map_some, Option.some.injEq] at h1
      subst h1; exact .lit u⟩
    obtain ⟨us, h1, h2⟩ := fill_VR (plT E.P xt) _ ((parts.map fun p => (p.1, a.eval p.2)).map fun p => (p.1, p.2.cells.toList)) _ _ r hzs (by simp) (parts_VR hX hle parts hc) hf
    obtain ⟨C, h3, h4⟩ := built_of hb hz (parts.map fun p => (p.1, a.eval p.2)) h1
    refine ⟨.agg C, w, ?_, Ext.refl _ _, ?_⟩
    · have := run_build (P := E.P) w xt (parts.map fun p => (p.1, a.eval p.2)).toArray C (by simpa using h3)
      simp only [execOp, List.map_toArray, Sem.run_bind, this, Result.andThen_ok]
      rfl
    · have e : C = us.toArray := by rw [← h4]
      rw [e]
      exact .agg r us h2.1 h2.2
end
end Go.Av
end
section
set_option linter.unusedSimpArgs false
set_option linter.unusedVariables false
/-! Rows written out; slices of slices; regions called anew. -/
namespace Go.Av
theorem setL_at {α : Type} (pre rest vs : List α) (h : vs.length ≤ rest.length) : setL (pre ++ rest) pre.length vs = pre ++ vs ++ rest.drop vs.length := by
  simp [setL, List.take_append, List.drop_append]
theorem fill_row (sz : Nat) : ∀ (vss : List (List Value)) (k : Nat) (pre rest : List Value), pre.length = k * sz → rest.length = vss.length * sz → (∀ v ∈ vss, v.length = sz) →
    fillL (fun i => some (i * sz, sz)) (pre ++ rest) ((List.range' k vss.length).zip vss) = some (pre ++ vss.flatten)
  | [], k, pre, rest, h1, h2, _ => by
    have : rest = [] := List.eq_nil_of_length_eq_zero (by simpa using h2)
    simp [fillL, this]
  | v :: vss, k, pre, rest, h1, h2, h3 => by
    have hv : v.length = sz := h3 v (by simp)
    have hr : v.length ≤ rest.length := by rw [h2, hv, List.length_cons, Nat.add_mul]; omega
    simp only [List.length_cons, List.range'_succ, List.zip_cons_cons, fillL]
    rw [if_pos ⟨hv, by rw [List.length_append, h1]; omega⟩, ← h1, setL_at pre rest v hr]
    have := fill_row sz vss (k + 1) (pre ++ v) (rest.drop v.length) (by rw [List.length_append, h1, hv, Nat.add_mul]; omega) (by rw [List.length_drop, h2, hv, List.length_cons, Nat.add_mul]; omega) (fun u hu => h3 u (by simp [hu]))
    rw [this]
    simp

def bsOk (s : ASt) (sz : Nat) : Nat → List (Nat × Operand) → Prop
  | _, [] => True
  | k, (i, x) :: l => (i = k ∧ cellOk s (s.ev x) ∧ (s.ev x).parts.length = sz) ∧ bsOk s sz (k + 1) l
def bsA (s : ASt) : List (Nat × Operand) → List AV
  | [] => []
  | (i, x) :: l => (s.ev x).parts ++ bsA s l
section
variable {E : Env} {s s1 : ASt} {d : Nat} {x y : Operand} {t ty xt : TypeId} {pos : String} {after : Array Edge} {g : Option (Nat × Bool)} {R : ASt → Prop}
theorem bs_spec {M : Nat → Option HT} {G : Nat → Prop} {a : Act} {w : World} (hX : RelX E M G s a w) (sz : Nat) : ∀ (k : Nat) (l : List (Nat × Operand)), bsOk s sz k l →
    ∃ vss : List (List Value), vss.length = l.length ∧ (l.map fun p => (p.1, (a.eval p.2).cells.toList)) = (List.range' k l.length).zip vss ∧ (∀ v ∈ vss, v.length = sz) ∧ VRs w G M (bsA s l) vss.flatten
  | k, [], _ => ⟨[], rfl, rfl, by simp, ⟨rfl, fun i a u h => by simp [bsA] at h⟩⟩
  | k, (i, x) :: l, h => by
    obtain ⟨⟨rfl, h1, h2⟩, h3⟩ := h
    obtain ⟨vss, k1, k2, k3, k4⟩ := bs_spec hX sz (i + 1) l h3
    have hv := cells_val hX (hX.ev x) h1
    refine ⟨(a.eval x).cells.toList :: vss, by simp [k1], ?_, fun v hv' => ?_, ?_⟩
    · simp only [List.map_cons, List.length_cons, List.range'_succ, List.zip_cons_cons, k2]
    · rcases List.mem_cons.1 hv' with rfl | hv'
      · rw [hv.1, h2]
      · exact k3 v hv'
    · simp only [bsA, List.flatten_cons]
      refine ⟨by rw [List.length_append, List.length_append, hv.1, k4.1], fun j b u e1 e2 => ?_⟩
      by_cases hj : j < (s.ev x).parts.length
      · rw [List.getElem?_append_left hj] at e1
        rw [List.getElem?_append_left (by rw [hv.1]; exact hj)] at e2
        exact hv.2 j b u e1 e2
      · rw [List.getElem?_append_right (by omega)] at e1
        rw [List.getElem?_append_right (by rw [hv.1]; omega), hv.1] at e2
        exact k4.2 _ b u e1 e2
theorem bsA_len (sz : Nat) : ∀ (k : Nat) (l : List (Nat × Operand)), bsOk s sz k l → (bsA s l).length = l.length * sz
  | k, [], _ => by simp [bsA]
  | k, (i, x) :: l, h => by
    obtain ⟨⟨rfl, h1, h2⟩, h3⟩ := h
    simp only [bsA, List.length_append, h2, bsA_len sz (i + 1) l h3, List.length_cons, Nat.add_mul]
    omega
theorem zc_zero {zs : List Value} {by_ : Nat} (h : zcT E.P t = some (zs, by_)) : ∃ e z, E.P.underlying t = some (.slice e) ∧ (∀ w, (sizeOf e).run E.P w = .ok zs.length w) ∧ (∀ w, (zeroValue e).run E.P w = .ok z w) ∧ z.cells.toList = zs := by
  obtain ⟨e, i, z, ht, hi, hzz, h5, h6, h7, _⟩ := zcT_spec h
  exact ⟨e, z, ht, fun w => by simp [sizeOf, typeInfo, hi, h7], fun w => by simp [zeroValue, typeInfo, hi, hzz], h5⟩
theorem l_buildSlice {parts : List (Nat × Operand)} {zs : List Value} {by_ : Nat} {As0 As : List AV} (hN : NilLes As0 As) (hd : d < E.nt) (hz : zcT E.P xt = some (zs, by_)) (hz0 : 0 < zs.length) (hb : bsOk s zs.length 0 parts) (hl : parts.length * zs.length ≤ 16777216)
    (hc : closeVs s (bsA s parts) = some (As0, s1)) (hR : R (s1.new d (.sl d [] 0 parts.length) (.row true zs.length parts.length As))) :
    LJ E ⟨some d, .buildSlice xt parts.length parts.toArray, t, pos, after, g⟩ s R := by
  rintro a w ⟨M, G, hX⟩
  obtain ⟨vss, k1, k2, k3, k4⟩ := bs_spec hX zs.length 0 parts hb
  have hlen := bsA_len zs.length 0 parts hb
  obtain ⟨M1, Ts0, h1, h2, h3, h4, h5, h6, h7, h8⟩ := closeVs_spec (E := E) _ hc M G a w hX vss.flatten k4.1 k4.2
  obtain ⟨Ts, f1, f2, f3, f4⟩ := nilUps Ts0 As (fun K hK => by obtain ⟨i, hi⟩ := List.getElem?_of_mem hK; exact h4 i K hi) (by rw [h3]; exact hN)
  rw [← f2] at h2
  rw [← f3] at h5 h6
  have h4 : ∀ (i : Nat) (T : HT), Ts[i]? = some T → Sat w G T := fun i T hi => f4 T (List.mem_of_getElem? hi)
  subst f1
  obtain ⟨e, z, ht, hsz, hzv, hzc⟩ := zc_zero hz
  have hmax : parts.length ≤ 16777216 := by
    have := Nat.le_mul_of_pos_right parts.length hz0
    omega
  have hTl : Ts.length = parts.length * zs.length := by
    have := congrArg List.length h2
    rw [HT.values_eq, List.length_map, k4.1, hlen] at this
    exact this
  obtain ⟨C, c1, c2⟩ : ∃ C, Instr.fill (fun i => some (i * zs.length, zs.length)) ((Array.range (parts.length * zs.length)).map fun x => (if parts.length * zs.length = 0 then #[] else z.cells)[x % (if parts.length * zs.length = 0 then #[] else z.cells).size]!) (parts.map fun p => (p.1, a.eval p.2)) = some C ∧ C.toList = HT.values Ts := by
    refine fill_L _ _ _ _ ?_
    have := fill_row zs.length vss 0 [] ((Array.range (parts.length * zs.length)).map fun x => (if parts.length * zs.length = 0 then #[] else z.cells)[x % (if parts.length * zs.length = 0 then #[] else z.cells).size]!).toList (by simp) (by simp [k1]) k3
    simp only [List.nil_append, k1] at this
    rw [List.map_map]
    have e2 : ((fun p : Nat × Value => (p.1, p.2.cells.toList)) ∘ fun p : Nat × Operand => (p.1, a.eval p.2)) = fun p => (p.1, (a.eval p.2).cells.toList) := rfl
    rw [e2, k2, this, h2]
  have hrun : (execOp a.eval ⟨some d, .buildSlice xt parts.length parts.toArray, t, pos, after, g⟩).run E.P w = .ok (.value (.slice (some ⟨w.heap.size, 0, none⟩) parts.length parts.length)) (w.alloc (.cells C e)) := by
    have hn : ¬ (16777216 < parts.length * zs.length) := by omega
    by_cases h0 : parts.length * zs.length = 0
    · simp only [h0, if_true] at c1
      simp [execOp, Instr.buildSlice, run_underlying ht, hsz, hn, h0, hzv, newRow]
      simp at c1
      simp [c1]
    · simp only [h0, if_false] at c1
      simp [execOp, Instr.buildSlice, run_underlying ht, hsz, hn, h0, hzv, newRow]
      simp [c1]
  unfold Oper.wp
  rw [hrun]
  simp only [Oper.upon]
  have hmem : ∀ K ∈ Ts, Sat w G K := fun K hK => by
    obtain ⟨i, hi⟩ := List.getElem?_of_mem hK
    exact h4 i K hi
  have := h1.newRow hd e (Ts := Ts) zs.length parts.length parts.length C hz0 hTl (Nat.le_refl _) (by omega) (by
    have := congrArg List.length c2
    rw [HT.values_eq, List.length_map, Array.length_toList, hTl] at this
    exact this) (fun i K hi => by
      rw [← Array.getElem?_toList, c2, HT.values_eq, List.getElem?_map, hi]; rfl) hmem (by rw [← HT.blockss_eq]; exact h5) (fun b hb => by
      rw [← HT.blockss_eq] at hb
      exact (h6 b hb).2)
  exact ⟨_, ⟨_, G, this⟩, hR⟩

/-! ### a region's new name -/
def ASt.ren (s : ASt) (r d : Nat) (v : AV) : ASt := ⟨fun i => if i = d then v else (s.t i).mapRef (renF r d), fun q => if q = d then s.m r else if q = r then none else s.m q⟩
theorem RelX.ren {M : Nat → Option HT} {G : Nat → Prop} {a : Act} {w : World} (hX : RelX E M G s a w) (hd : d < E.nt) {r : Nat} (hr : r < 1000) (hrd : r ≠ d) {v v' : AV} {u : Value} (hv : VR w G M v u) (hv' : v.mapRef (renF r d) = v') :
    RelX E (fun q => if q = d then M r else if q = r then none else M q) G (s.ren r d v') (a.put (some d) u) w := by
  have key : ∀ q T, (if q = d then M r else if q = r then none else M q) = some T → ∃ q', M q' = some T ∧ (q = d ∧ q' = r ∨ q ≠ d ∧ q ≠ r ∧ q' = q) := fun q T h => by
    split at h
    · exact ⟨r, h, .inl ⟨by assumption, rfl⟩⟩
    · split at h
      · cases h
      · exact ⟨q, h, .inr ⟨by assumption, by assumption, rfl⟩⟩
  have hmap : ∀ {v : AV} {u : Value}, VR w G M v u → VR w G (fun q => if q = d then M r else if q = r then none else M q) (v.mapRef (renF r d)) u := fun h => h.mapRef (fun r0 p0 r' p' hf T' N' hT' hN' hm => by
    simp only [renF] at hf
    split at hf
    · simp only [Option.some.injEq, Prod.mk.injEq] at hf
      obtain ⟨rfl, rfl⟩ := hf
      simp only [if_true] at hT'
      rename_i e; subst e
      exact ⟨T', N', hT', hN', rfl⟩
    · split at hf
      · cases hf
      · simp only [Option.some.injEq, Prod.mk.injEq] at hf
        obtain ⟨rfl, rfl⟩ := hf
        rename_i e1 e2
        simp only [e1, e2, if_false] at hT'
        exact ⟨T', N', hT', hN', rfl⟩)
  have hn := hX.n1
  refine ⟨fun q => ?_, fun q T h => ?_, fun q T h => ?_, fun q q' T T' hq h h' x hx hx' => ?_, fun q T h x hx => ?_, hX.gd, hX.g0, fun i => ?_, hX.ext, hX.df, by simp [put_some, hX.nt], hX.n1, fun q v hv => ?_⟩
  · simp only [ASt.ren]
    split
    · exact hX.er r
    · split
      · rfl
      · exact hX.er q
  · obtain ⟨q', h1, _⟩ := key q T h; exact hX.sat q' T h1
  · obtain ⟨q', h1, _⟩ := key q T h; exact hX.nd q' T h1
  · obtain ⟨q1, h1, e1⟩ := key q T h
    obtain ⟨q2, h2, e2⟩ := key q' T' h'
    exact hX.dj q1 q2 T T' (by omega) h1 h2 x hx hx'
  · obtain ⟨q', h1, _⟩ := key q T h; exact hX.own q' T h1 x hx
  · rw [put_getD a d i u (by rw [hX.nt]; exact hd)]
    simp only [ASt.ren]
    split
    · subst hv'; exact hmap hv
    · exact hmap (hX.sl i)
  · obtain ⟨h1, T, h2, h3⟩ := hX.pv q v hv
    exact ⟨h1, T, by rw [if_neg (by omega), if_neg (by omega)]; exact h2, h3⟩
/-- A slice comes into a variable: its region is called after that. -/
theorem l_assignRen {r off len : Nat} (hd : d < E.nt) (hx : s.ev x = .sl r [] off len) (hr : r < 1000) (hrd : r ≠ d) (hR : R (s.ren r d (.sl d [] off len))) : LJ E ⟨some d, .assign x, t, pos, after, g⟩ s R := by
  rintro a w ⟨M, G, hX⟩
  unfold Oper.wp
  simp only [execOp, Sem.run_pure, Oper.upon]
  exact ⟨_, ⟨_, G, hX.ren hd hr hrd (hX.ev x) (by rw [hx]; simp [AV.mapRef, renF])⟩, hR⟩
/-- Nothing comes into a variable that is a slice: a row of its own, empty. -/
theorem l_assignNil {sz : Nat} (hd : d < E.nt) (hx : s.ev x = .lit (.slice none 0 0)) (hR : R (s.new d (.sl d [] 0 0) (.row true sz 0 []))) : LJ E ⟨some d, .assign x, t, pos, after, g⟩ s R := by
  rintro a w ⟨M, G, hX⟩
  have hv := hX.ev x
  rw [hx] at hv
  have hv := hv.litv
  unfold Oper.wp
  simp only [execOp, Sem.run_pure, Oper.upon, hv]
  have := hX.new2 (T := .nilrow sz) (v := .sl d [] 0 0) (u := .slice none 0 0) hd (w' := w) ⟨rfl, rfl, rfl, Nat.le_refl _, fun _ _ _ => rfl⟩ (.nilrow _) (by simp [HT.blocks]) (by simp [HT.blocks])
      ((Sat.nilrow (w := w) (G := G) sz).opened (M := updF M d (some (.nilrow sz))) (r := d) (T0 := .nilrow sz) (by simp [updF]) (p := []) rfl)
  exact ⟨_, ⟨_, G, this⟩, hR⟩
end

/-- A new row that holds leaves alone; nil slices in it are rows of no element. -/
theorem new_rowN {E : Env} {M : Nat → Option HT} {G : Nat → Prop} {s' : ASt} {a : Act} {w : World} {d : Nat} (hX : RelX E M G s' a w) (e : TypeId) (sz n : Nat) (hsz : 0 < sz) (hmax : n ≤ 9223372036854775807) (vs As : List AV) (us : List Value) (hl : us.length = vs.length) (hn : vs.length = n * sz) (hN : NilLes vs As)
    (h : ∀ (i : Nat) (v : AV) (u : Value), vs[i]? = some v → us[i]? = some u → Sat w G (.leaf v u)) :
    ∃ T : HT, T.erase = .row true sz n As ∧ Sat (w.alloc (.cells us.toArray e)) G T ∧ T.blocks.Nodup ∧ (∀ x ∈ T.blocks, w.heap.size ≤ x ∧ x < (w.alloc (.cells us.toArray e)).heap.size ∧ ¬ G x) ∧ T.value = .slice (some ⟨w.heap.size, 0, none⟩) n n ∧
      VR (w.alloc (.cells us.toArray e)) G (updF M d (some T)) (.sl d [] 0 n) (.slice (some ⟨w.heap.size, 0, none⟩) n n) := by
  obtain ⟨Ks0, h1, h2, h3, h4, h5⟩ := leaves vs us hl h
  have hs : ∀ K ∈ Ks0, Sat w G K := fun K hK => by obtain ⟨i, hi⟩ := List.mem_iff_getElem?.1 hK; exact (h5 i K hi).1
  obtain ⟨Ks, f1, f2, f3, f4⟩ := nilUps Ks0 As hs (by rw [h2]; exact hN)
  have fb : ∀ K ∈ Ks, ∀ b ∈ K.blocks, False := fun K hK b hb => by
    have : b ∈ HT.blockss Ks := by rw [HT.blockss_eq]; exact List.mem_flatMap.2 ⟨K, hK, hb⟩
    rw [f3, h3] at this; cases this
  have fl : Ks.length = us.length := by
    have e : (HT.values Ks).length = (HT.values Ks0).length := by rw [f2]
    rw [HT.values_eq, HT.values_eq, List.length_map, List.length_map] at e
    rw [e, h4, hl]
  have fv : ∀ (i : Nat) (K : HT), Ks[i]? = some K → us[i]? = some K.value := fun i K hK => by
    have e : (HT.values Ks)[i]? = (HT.values Ks0)[i]? := by rw [f2]
    rw [HT.values_eq, HT.values_eq, List.getElem?_map, List.getElem?_map, hK] at e
    cases h0 : Ks0[i]? with
    | none => rw [h0] at e; simp at e
    | some K0 => rw [h0] at e; simp at e; rw [e]; exact (h5 i K0 h0).2
  refine ⟨.row w.heap.size sz n n Ks, by simp [HT.erase, f1], ?_, by simp [HT.blocks, f3, h3], fun x hx => ?_, rfl, ?_⟩
  · have hG : ∀ b, G b → (w.alloc (.cells us.toArray e)).heap[b]? = w.heap[b]? := fun b hb => (alloc_ext w _).block b (hX.gd b hb).1 (fun h => h)
    refine .row _ _ _ _ _ us.toArray e (alloc_new w _) (by rw [fl, hl, hn]) (Nat.le_refl _) (by simp [hl, hn]) hsz hmax (fun i K hK => by simpa using fv i K hK) (fun i K hK => (f4 K (List.mem_of_getElem? hK)).congr (fun b hb => (fb K (List.mem_of_getElem? hK) b hb).elim) hG (fun _ h => h))
  · simp only [HT.blocks, f3, h3, List.mem_singleton] at hx
    subst hx
    exact ⟨Nat.le_refl _, by simp, fun hg => Nat.lt_irrefl _ (hX.gd _ hg).1⟩
  · refine .sl _ _ _ _ _ (fun T' hT' b' sz' n' cap' cs' hN' hle => ?_) (fun T' hT' sz' hN' hle => ?_)
    · simp only [updF, if_true, Option.some.injEq] at hT'; subst hT'
      simp only [HT.at_, Option.some.injEq, HT.row.injEq] at hN'
      obtain ⟨rfl, rfl, rfl, rfl, rfl⟩ := hN'
      exact ⟨_, _, rfl, Nat.le_refl _, by omega, .inr (by simp), fun _ => ⟨rfl, rfl⟩⟩
    · simp only [updF, if_true, Option.some.injEq] at hT'; subst hT'
      simp [HT.at_] at hN'
section
variable {E : Env} {s : ASt} {d : Nat} {x y : Operand} {t xt : TypeId} {pos : String} {after : Array Edge} {g : Option (Nat × Bool)}
theorem q_makeN {k k' : IntKind} {n : Nat} {zs : List Value} {by_ : Nat} {As : List AV} (hN : NilLes ((zCells zs n).map .lit) As) (hn : d < E.nt) (ht : zcT E.P xt = some (zs, by_)) (hx : s.ev x = .lit (.int k n)) (hy : s.ev y = .lit (.int k' n)) (hz : 0 < zs.length) (hb : by_ * n ≤ 281474976710656) (hm : n ≤ 9223372036854775807) :
    QJ E ⟨some d, .makeSlice xt x y, t, pos, after, g⟩ s (.sl d [] 0 n) (some (.row true zs.length n As)) :=
  .mem rfl hn fun s' M G a w hle hX => by
    obtain ⟨e, i, z, h1, h2, h3, h4, h5, h6, _⟩ := zcT_spec ht
    have h7 : ((by_ * n : Nat) : Int) ≤ 281474976710656 := by omega
    rw [Int.natCast_mul] at h7
    have hrun := run_make (P := E.P) w xt e i z h1 h2 h3 k k' (n : Int) (n : Int) (by omega) (by omega) (by rw [h5]; exact h7) (by omega)
    have hsize : z.cells.size = zs.length := by rw [← h4]; simp
    have hcells : madeCells z.cells (n * i.size) = (zCells zs n).toArray := by
      simp only [madeCells, zCells, h6]
      apply Array.ext'
      simp only [Array.toList_map, Array.toList_range]
      apply List.map_congr_left
      intro j hj
      have hlt : j % z.cells.size < z.cells.size := Nat.mod_lt _ (by omega)
      subst h4
      simp only [Array.length_toList, List.getD_eq_getElem?_getD, Array.getElem?_toList]
      rw [getElem!_pos z.cells _ hlt, Array.getElem?_eq_getElem hlt]
      rfl
    simp only [Int.toNat_natCast] at hrun
    rw [hcells] at hrun
    obtain ⟨T, g1, g2, g3, g4, g5, g6⟩ := new_rowN (d := d) hX e zs.length n hz hm ((zCells zs n).map .lit) As (zCells zs n) (by simp) (by simp [zCells]) hN (fun j v u hv hu => by
      rw [List.getElem?_map, hu] at hv
      simp only [Option.map_some, Option.some.injEq] at hv
      subst hv
      exact .leaf _ _ rfl (.lit _))
    exact ⟨_, _, G, T, by simp [execOp, hX.lit hle hx, hX.lit hle hy, hrun], alloc_ext _ _, fun _ h => h, fun _ h => .inl h, g1, g2, g3, g4, g6⟩
end
end Go.Av
end
section
set_option linter.unusedSimpArgs false
set_option linter.unusedVariables false
/-! Slices of slices, of texts; bytes as a text; what is appended. -/
namespace Go.Av
theorem run_sl {P : Program} (w : World) {t : TypeId} {sz : Nat} (ht : slT P t = some sz) (A : Option Addr) (len c : Nat) {low high : Option Value} {l h : Nat}
    (hl : (low = none ∧ l = 0) ∨ ∃ k, low = some (.int k l)) (hh : (high = none ∧ h = len) ∨ ∃ k, high = some (.int k h)) (h1 : l ≤ h) (h2 : h ≤ c) (h3 : h ≤ len) :
    (Instr.sliceAt t (.slice A len c) low high none).run P w = .ok (.slice (if c = l then A else A.map (·.add (l * sz))) (h - l) (c - l)) w := by
  obtain ⟨e, i, hu, hi, hs⟩ := slT_spec ht
  have hsz : (sizeOf e).run P w = .ok sz w := by simp [sizeOf, typeInfo, hi, hs]
  have b1 : ∀ k (y : Nat) code, l ≤ y → (Instr.sliceBound (.int k l) y code).run P w = .ok l w := fun k y code hy => by
    rw [run_sliceBound (P := P) w k l y code (by omega) (by omega)]; simp
  have b2 : ∀ k (y : Nat) code, h ≤ y → (Instr.sliceBound (.int k h) y code).run P w = .ok h w := fun k y code hy => by
    rw [run_sliceBound (P := P) w k h y code (by omega) (by omega)]; simp
  simp only [Instr.sliceAt, Instr.slice, Sem.run_bind, run_underlying hu, Result.andThen_ok, Instr.sliceBounds]
  rcases hl with ⟨rfl, rfl⟩ | ⟨k, rfl⟩ <;> rcases hh with ⟨rfl, rfl⟩ | ⟨k', rfl⟩ <;> simp [b1, b2, h1, h2, hsz]
theorem run_slS {P : Program} (w : World) {t : TypeId} (ht : P.underlying t = some .string) (b : ByteArray) {low high : Option Value} {l h : Nat}
    (hl : (low = none ∧ l = 0) ∨ ∃ k, low = some (.int k l)) (hh : (high = none ∧ h = b.size) ∨ ∃ k, high = some (.int k h)) (h1 : l ≤ h) (h2 : h ≤ b.size) :
    (Instr.sliceAt t (.string b) low high none).run P w = .ok (.string (b.extract l h)) w := by
  have b1 : ∀ k (y : Nat) code, l ≤ y → (Instr.sliceBound (.int k l) y code).run P w = .ok l w := fun k y code hy => by
    rw [run_sliceBound (P := P) w k l y code (by omega) (by omega)]; simp
  have b2 : ∀ k (y : Nat) code, h ≤ y → (Instr.sliceBound (.int k h) y code).run P w = .ok h w := fun k y code hy => by
    rw [run_sliceBound (P := P) w k h y code (by omega) (by omega)]; simp
  simp only [Instr.sliceAt, Instr.slice, Sem.run_bind, run_underlying ht, Result.andThen_ok, Instr.sliceBounds]
  rcases hl with ⟨rfl, rfl⟩ | ⟨k, rfl⟩ <;> rcases hh with ⟨rfl, rfl⟩ | ⟨k', rfl⟩ <;> simp [b1, b2, h1, h2]

/-- A bound of a slice expression. -/
def bndQ (s : ASt) (z : Int) : Option Operand → Option Int
  | none => some z
  | some x => match s.ev x with
    | .lit (.int _ n) => some n
    | _ => none
section
variable {E : Env} {s s1 : ASt} {d : Nat} {x y : Operand} {t ty xt : TypeId} {pos : String} {after : Array Edge} {g : Option (Nat × Bool)} {R : ASt → Prop}
theorem bnd_val {M : Nat → Option HT} {G : Nat → Prop} {s' : ASt} {a : Act} {w : World} (hX : RelX E M G s' a w) (hle : Le s s') {z n : Int} {o : Option Operand} (h : bndQ s z o = some n) (hn : 0 ≤ n) :
    (o.map a.eval = none ∧ n.toNat = z.toNat) ∨ ∃ k, o.map a.eval = some (.int k n.toNat) := by
  cases o with
  | none => simp only [bndQ, Option.some.injEq] at h; subst h; exact .inl ⟨rfl, rfl⟩
  | some x =>
    simp only [bndQ] at h
    split at h
    · rename_i k m hx
      simp only [Option.some.injEq] at h; subst h
      have := hX.lit hle hx
      exact .inr ⟨k, by simp [this, Int.toNat_of_nonneg hn]⟩
    · cases h
theorem q_sliceOwn {lo hi : Option Operand} {r off len sz n : Nat} {p : List Nat} {cs : List AV} {l h : Int} (hn : d < E.nt) (ht : slT E.P xt = some sz) (hx : s.ev x = .sl r p off len) (hA : nodeOf s r p = some (.row true sz n cs)) (hl : off + len ≤ n)
    (h1 : bndQ s 0 lo = some l) (h2 : bndQ s len hi = some h) (h3 : 0 ≤ l) (h4 : l ≤ h) (h5 : h ≤ len) :
    QJ E ⟨some d, .slice xt x lo hi none, t, pos, after, g⟩ s (.sl r p (off + l.toNat) (h.toNat - l.toNat)) none :=
  .val rfl hn fun s' M G a w hle hX => by
    have hv := hX.evLe hle x
    rw [hx] at hv
    have hA' := hle.node hA
    obtain ⟨T, N, hM, hN, hNe, hsT, hsN⟩ := nodeOf_spec hX hA'
    have e1 := bnd_val hX hle h1 h3
    have e2 := bnd_val hX hle h2 (by omega)
    simp only [Int.toNat_zero, Int.toNat_natCast] at e1 e2
    have hln : l.toNat ≤ h.toNat := by omega
    have hhn : h.toNat ≤ len := by omega
    generalize hav : a.eval x = v at hv
    cases hv with
    | sl _ _ _ _ _ q q0 =>
      cases hsN with
      | row b sz' n' cap cs' C e g1 g2 g3 g4 g5 g6 g7 g8 =>
        simp only [HT.erase, AV.row.injEq, true_and] at hNe
        obtain ⟨rfl, rfl, _⟩ := hNe
        obtain ⟨A, c, rfl, q2, q3, q4, q5⟩ := q T hM b sz' n' cap cs' hN hl
        refine ⟨.slice (if c = l.toNat then A else A.map (·.add (l.toNat * sz'))) (h.toNat - l.toNat) (c - l.toNat), w, ?_, Ext.refl _ _, ?_⟩
        · simp only [execOp, Sem.run_bind, hav]
          rw [show (none : Option Operand).map a.eval = none from rfl, run_sl (P := E.P) w ht A len c e1 e2 hln (by omega) hhn]
          rfl
        · refine .sl _ _ _ _ _ (fun T' hT' b1 sz1 n1 cap1 cs1 hN1 hle1 => ?_) (fun T' hT' sz1 hN1 hle1 => ?_)
          · rw [hM] at hT'; cases hT'; rw [hN] at hN1; cases hN1
            refine ⟨_, _, rfl, by omega, by omega, ?_, fun h0 => ?_⟩
            · by_cases hc : c = l.toNat
              · exact .inl (by omega)
              · right
                rw [if_neg hc]
                rcases q4 with q4 | q4
                · omega
                · rw [q4]; simp [add0, Nat.add_mul]
            · obtain ⟨rfl, rfl⟩ := q5 (by omega)
              have : l.toNat = 0 := by omega
              refine ⟨by omega, ?_⟩
              split <;> simp [add0, this]
          · rw [hM] at hT'; cases hT'; rw [hN] at hN1; cases hN1
      | nilrow sz' =>
        simp only [HT.erase, AV.row.injEq, true_and] at hNe
        obtain ⟨rfl, rfl, _⟩ := hNe
        have := q0 T hM sz' hN (by omega)
        subst this
        have hl0 : len = 0 := by omega
        subst hl0
        refine ⟨.slice (if 0 = l.toNat then none else (none : Option Addr).map (·.add (l.toNat * sz'))) (h.toNat - l.toNat) (0 - l.toNat), w, ?_, Ext.refl _ _, ?_⟩
        · simp only [execOp, Sem.run_bind, hav]
          rw [show (none : Option Operand).map a.eval = none from rfl, run_sl (P := E.P) w ht none 0 0 e1 e2 hln (by omega) hhn]
          rfl
        · refine .sl _ _ _ _ _ (fun T' hT' b1 sz1 n1 cap1 cs1 hN1 hle1 => ?_) (fun T' hT' sz1 hN1 hle1 => ?_)
          · rw [hM] at hT'; cases hT'; rw [hN] at hN1; cases hN1
          · have h0 : l.toNat = 0 ∧ h.toNat = 0 := by omega
            simp [h0]
      | leaf a v ha _ => cases a with
        | row o _ _ _ => cases o <;> simp_all [HT.erase, AV.leafOk]
        | _ => simp_all [HT.erase, AV.leafOk]
      | box => simp [HT.erase] at hNe
      | agg => simp [HT.erase] at hNe
      | tup => simp [HT.erase] at hNe
theorem q_sliceSh {lo hi : Option Operand} {sz n : Nat} {cs : List AV} {l h : Int} (hn : d < E.nt) (ht : slT E.P xt = some sz) (hx : s.ev x = .row false sz n cs)
    (h1 : bndQ s 0 lo = some l) (h2 : bndQ s n hi = some h) (h3 : 0 ≤ l) (h4 : l ≤ h) (h5 : h ≤ n) :
    QJ E ⟨some d, .slice xt x lo hi none, t, pos, after, g⟩ s (.row false sz (h.toNat - l.toNat) ((cs.drop (l.toNat * sz)).take ((h.toNat - l.toNat) * sz))) none :=
  .val rfl hn fun s' M G a w hle hX => by
    have hv := hX.evLe hle x
    rw [hx] at hv
    have e1 := bnd_val hX hle h1 h3
    have e2 := bnd_val hX hle h2 (by omega)
    simp only [Int.toNat_zero, Int.toNat_natCast] at e1 e2
    have hln : l.toNat ≤ h.toNat := by omega
    have hhn : h.toNat ≤ n := by omega
    generalize hav : a.eval x = v at hv
    have hrun : ∀ A c, v = .slice A n c → n ≤ c → (execOp a.eval ⟨some d, .slice xt x lo hi none, t, pos, after, g⟩).run E.P w = .ok (.value (.slice (if c = l.toNat then A else A.map (·.add (l.toNat * sz))) (h.toNat - l.toNat) (c - l.toNat))) w := fun A c hvv hc => by
      subst hvv
      simp only [execOp, Sem.run_bind, hav]
      rw [show (none : Option Operand).map a.eval = none from rfl, run_sl (P := E.P) w ht A n c e1 e2 hln (by omega) hhn]
      rfl
    by_cases h0 : h.toNat - l.toNat = 0
    · have : ∃ A c, v = .slice A n c ∧ n ≤ c := by
        cases hv with
        | row0 _ A c => exact ⟨A, c, rfl, Nat.zero_le _⟩
        | row _ _ c b off _ us C e fr g1 g2 g3 g4 g5 g6 g7 g8 => exact ⟨_, c, rfl, g4⟩
      obtain ⟨A, c, hvv, hc⟩ := this
      refine ⟨_, w, hrun A c hvv hc, Ext.refl _ _, ?_⟩
      rw [h0]
      simp only [Nat.zero_mul, List.take_zero]
      exact .row0 _ _ _
    · cases hv with
      | row0 _ A c => omega
      | row _ _ c b off _ us C e fr g1 g2 g3 g4 g5 g6 g7 g8 =>
        refine ⟨_, w, hrun _ c rfl g4, Ext.refl _ _, ?_⟩
        have hc : ¬ c = l.toNat := by omega
        rw [if_neg hc, Option.map_some, add0]
        have hle2 : l.toNat * sz + (h.toNat - l.toNat) * sz ≤ cs.length := by
          rw [g3, ← Nat.add_mul]; exact Nat.mul_le_mul_right _ (by omega)
        have hlen : ((cs.drop (l.toNat * sz)).take ((h.toNat - l.toNat) * sz)).length = (h.toNat - l.toNat) * sz := by
          rw [List.length_take, List.length_drop]; omega
        have hget : ∀ i, i < (h.toNat - l.toNat) * sz → ((cs.drop (l.toNat * sz)).take ((h.toNat - l.toNat) * sz))[i]? = cs[l.toNat * sz + i]? := fun i hi => by
          rw [List.getElem?_take_of_lt hi, List.getElem?_drop]
        refine .row _ _ _ b _ _ (fun i => us (l.toNat * sz + i)) C e fr g1 g2 hlen (by omega) (by omega) (fun i hi => ?_) (fun c' hc' => ?_) (fun i a' hi => ?_)
        · rw [hlen] at hi
          rw [Nat.add_assoc]
          exact g6 _ (by omega)
        · exact g7 c' (List.mem_of_mem_drop (List.mem_of_mem_take hc'))
        · have hi' : i < (h.toNat - l.toNat) * sz := by rw [← hlen]; exact (List.getElem?_eq_some_iff.1 hi).1
          rw [hget i hi'] at hi
          exact g8 _ a' hi
theorem q_sliceStr {lo hi : Option Operand} {b : ByteArray} {l h : Int} (hn : d < E.nt) (ht : E.P.underlying xt = some .string) (hx : s.ev x = .lit (.string b))
    (h1 : bndQ s 0 lo = some l) (h2 : bndQ s b.size hi = some h) (h3 : 0 ≤ l) (h4 : l ≤ h) (h5 : h ≤ b.size) :
    QJ E ⟨some d, .slice xt x lo hi none, t, pos, after, g⟩ s (.lit (.string (b.extract l.toNat h.toNat))) none :=
  .val rfl hn fun s' M G a w hle hX => by
    have hv := hX.lit hle hx
    have e1 := bnd_val hX hle h1 h3
    have e2 := bnd_val hX hle h2 (by omega)
    simp only [Int.toNat_zero, Int.toNat_natCast] at e1 e2
    refine ⟨_, w, ?_, Ext.refl _ _, .lit _⟩
    simp only [execOp, Sem.run_bind, hv]
    rw [show (none : Option Operand).map a.eval = none from rfl, run_slS (P := E.P) w ht b e1 e2 (by omega) (by omega)]
    rfl

/-! ### what is appended -/
theorem yj_nil {sz : Nat} : YJ E s (.lit (.slice none 0 0)) sz 0 [] := fun M G a w hX u hu =>
  ⟨[], none, 0, hu.litv, rfl, by simp, by simp, rfl, by simp⟩
theorem leaf_of {T : HT} (h : T.erase.leafOk = true) : T.blocks = [] := by
  cases T <;> simp_all [HT.erase, AV.leafOk, HT.blocks]
theorem yj_own {r off m sz n : Nat} {p : List Nat} {cs : List AV} (hA : nodeOf s r p = some (.row true sz n cs)) (hl : off + m ≤ n) (h1 : leafCs ((cs.drop (off * sz)).take (m * sz)) = true) (h2 : fitCs ((cs.drop (off * sz)).take (m * sz)) = true) :
    YJ E s (.sl r p off m) sz m ((cs.drop (off * sz)).take (m * sz)) := fun M G a w hX u hu => by
  obtain ⟨T, N, hM, hN, hNe, hsT, hsN⟩ := nodeOf_spec hX hA
  cases hu with
  | sl _ _ _ _ _ q q0 =>
    cases hsN with
    | row b sz' n' cap cs' C e g1 g2 g3 g4 g5 g6 g7 g8 =>
      simp only [HT.erase, AV.row.injEq, true_and] at hNe
      obtain ⟨rfl, rfl, rfl⟩ := hNe
      obtain ⟨A, c, rfl, q2, q3, q4, q5⟩ := q T hM b sz' n' cap cs' hN hl
      have hle2 : off * sz' + m * sz' ≤ cs'.length := by
        rw [g2, ← Nat.add_mul]; exact Nat.mul_le_mul_right _ hl
      have her : HT.erases ((cs'.drop (off * sz')).take (m * sz')) = ((HT.erases cs').drop (off * sz')).take (m * sz') := by simp [HT.erases_eq, List.map_take, List.map_drop]
      have hmem : ∀ V ∈ (cs'.drop (off * sz')).take (m * sz'), Sat w G V ∧ V.erase ∈ HT.erases ((cs'.drop (off * sz')).take (m * sz')) := fun V hV => by
        refine ⟨?_, by rw [HT.erases_eq]; exact List.mem_map.2 ⟨V, hV, rfl⟩⟩
        obtain ⟨i, hi⟩ := List.getElem?_of_mem (List.mem_of_mem_drop (List.mem_of_mem_take hV))
        exact g8 i V hi
      rw [← her] at h1 h2 ⊢
      refine ⟨_, A, c, rfl, rfl, by rw [List.length_take, List.length_drop]; omega, fun V hV => ⟨(hmem V hV).1, (fit_val (hmem V hV).1 (fitCs_mem.1 h2 _ (hmem V hV).2)).1⟩, ?_, fun j V hj => ?_⟩
      · rw [List.flatMap_eq_nil_iff]
        exact fun V hV => leaf_of (leafCs_mem.1 h1 _ (hmem V hV).2)
      · have hjl : j < m * sz' := by
          have := (List.getElem?_eq_some_iff.1 hj).1
          rw [List.length_take] at this; omega
        have hm0 : 0 < m := by
          rcases Nat.eq_zero_or_pos m with h | h
          · subst h; simp at hjl
          · exact h
        rw [List.getElem?_take_of_lt hjl, List.getElem?_drop] at hj
        rcases q4 with q4 | q4
        · omega
        · refine ⟨_, q4, ?_⟩
          rw [add0]
          simp [World.cell?, g1, g7 _ V hj]
    | nilrow sz' =>
      simp only [HT.erase, AV.row.injEq, true_and] at hNe
      obtain ⟨rfl, rfl, rfl⟩ := hNe
      have := q0 T hM sz' hN (by omega)
      have hm : m = 0 := by omega
      subst hm
      subst this
      exact ⟨[], none, 0, rfl, by simp [HT.erases], by simp, by simp, rfl, by simp⟩
    | leaf a v ha _ => cases a with
      | row o _ _ _ => cases o <;> simp_all [HT.erase, AV.leafOk]
      | _ => simp_all [HT.erase, AV.leafOk]
    | box => simp [HT.erase] at hNe
    | agg => simp [HT.erase] at hNe
    | tup => simp [HT.erase] at hNe
theorem sat_leaves {w : World} {G : Nat → Prop} {cs : List AV} {us : Nat → Value} (hl : leafCs cs = true) (h : ∀ (i : Nat) (a : AV), cs[i]? = some a → VR w G none_ a (us i)) :
    ∃ Vs : List HT, HT.erases Vs = cs ∧ Vs.length = cs.length ∧ (∀ V ∈ Vs, Sat w G V) ∧ Vs.flatMap HT.blocks = [] ∧ ∀ (j : Nat) (V : HT), Vs[j]? = some V → V.value = us j := by
  refine ⟨cs.zipIdx.map fun p => .leaf p.1 (us p.2), ?_, by simp, fun V hV => ?_, ?_, fun j V hj => ?_⟩
  · rw [HT.erases_eq, List.map_map]
    have : (HT.erase ∘ fun p : AV × Nat => HT.leaf p.1 (us p.2)) = Prod.fst := rfl
    rw [this]
    apply List.ext_getElem?
    intro i
    rw [List.getElem?_map, List.getElem?_zipIdx]
    cases cs[i]? <;> rfl
  · obtain ⟨p, hp, rfl⟩ := List.mem_map.1 hV
    obtain ⟨a, i⟩ := p
    have hi := List.mk_mem_zipIdx_iff_getElem?.1 hp
    exact .leaf _ _ (leafCs_mem.1 hl a (List.mem_of_getElem? hi)) (h i a hi)
  · rw [List.flatMap_eq_nil_iff]
    intro V hV
    obtain ⟨p, hp, rfl⟩ := List.mem_map.1 hV
    rfl
  · rw [List.getElem?_map, List.getElem?_zipIdx] at hj
    cases hc : cs[j]? with
    | none => rw [hc] at hj; cases hj
    | some c =>
      rw [hc] at hj
      simp only [Option.map_some, Option.some.injEq, Nat.zero_add] at hj
      subst hj
      rfl
theorem yj_sh {m sz : Nat} {cs : List AV} (h1 : leafCs cs = true) (h2 : fitCs cs = true) : YJ E s (.row false sz m cs) sz m cs := fun M G a w hX u hu => by
  cases hu with
  | row0 _ A c => exact ⟨[], A, c, rfl, rfl, by simp, by simp, rfl, by simp⟩
  | row _ _ c b off _ us C e fr g1 g2 g3 g4 g5 g6 g7 g8 =>
    obtain ⟨Vs, v1, v2, v3, v4, v5⟩ := sat_leaves (us := us) h1 g8
    refine ⟨Vs, _, c, rfl, v1, by rw [v2, g3], fun V hV => ⟨v3 V hV, (fit_val (v3 V hV) (fitCs_mem.1 h2 _ ?_)).1⟩, v4, fun j V hj => ⟨_, rfl, ?_⟩⟩
    · rw [← v1, HT.erases_eq]; exact List.mem_map.2 ⟨V, hV, rfl⟩
    · have hjl : j < cs.length := by rw [← v2]; exact (List.getElem?_eq_some_iff.1 hj).1
      rw [add0, v5 j V hj]
      simp [World.cell?, g2, g6 j hjl]

/-! ### bytes as a text -/
def u8sl (P : Program) (t : TypeId) : Bool := match P.underlying t with
  | some (.slice e) => (match P.underlying e with
    | some (.int .u8) => true
    | _ => false)
  | _ => false
def strOf (ns : List Int) : ByteArray := ⟨(ns.map fun n => UInt8.ofNat n.toNat).toArray⟩
def bytesA : List AV → Option (List Int)
  | [] => some []
  | .lit (.int .u8 n) :: l => (bytesA l).map (n :: ·)
  | _ :: _ => none
theorem foldl_push : ∀ (ns : List Int) (b : ByteArray), ns.foldl (fun r n => r.push (UInt8.ofNat n.toNat)) b = ⟨b.data ++ (ns.map fun n => UInt8.ofNat n.toNat).toArray⟩
  | [], b => by simp
  | n :: l, b => by
    rw [List.foldl_cons, foldl_push l]
    simp [ByteArray.push]
theorem bytesA_get : ∀ {cs : List AV} {ns : List Int}, bytesA cs = some ns → ns.length = cs.length ∧ ∀ (i : Nat) (n : Int), ns[i]? = some n → cs[i]? = some (.lit (.int .u8 n))
  | [], ns, h => by simp only [bytesA, Option.some.injEq] at h; subst h; simp
  | .lit (.int .u8 n) :: l, ns, h => by
    simp only [bytesA] at h
    cases hl : bytesA l with
    | none => rw [hl] at h; cases h
    | some ms =>
      rw [hl] at h
      simp only [Option.map_some, Option.some.injEq] at h
      subst h
      obtain ⟨h1, h2⟩ := bytesA_get hl
      refine ⟨by simp [h1], fun i m hi => ?_⟩
      cases i with
      | zero => simp only [List.getElem?_cons_zero, Option.some.injEq] at hi; subst hi; rfl
      | succ i => exact h2 i m (by simpa using hi)
theorem q_convBytes {sz m : Nat} {cs : List AV} {ns : List Int} {src dst : TypeId} (hn : d < E.nt) (h1 : u8sl E.P src = true) (h2 : E.P.underlying dst = some .string) (hb : bytesA cs = some ns)
    (hY : ∀ s', Le s s' → YJ E s' (s.ev x) 1 m cs) (hj : s.ev x ≠ .junk) :
    QJ E ⟨some d, .convert src dst x, t, pos, after, g⟩ s (.lit (.string (strOf ns))) none :=
  .val rfl hn fun s' M G a w hle hX => by
    unfold u8sl at h1
    split at h1
    · rename_i e he
      split at h1
      · rename_i hu8
        have hv := hX.evLe hle x
        obtain ⟨Vs, A, c, v1, v2, v3, v4, v5, v6⟩ := hY s' hle M G a w hX _ hv
        obtain ⟨n1, n2⟩ := bytesA_get hb
        have hVl : Vs.length = cs.length := by rw [← v2, HT.erases_eq, List.length_map]
        have hval : ∀ (j : Nat) (n : Int), ns[j]? = some n → ∃ ad, A = some ad ∧ w.cell? (ad.add j) = some (.int .u8 n) := fun j n hjn => by
          have hjl : j < Vs.length := by rw [hVl, ← n1]; exact (List.getElem?_eq_some_iff.1 hjn).1
          have hV := List.getElem?_eq_getElem hjl
          obtain ⟨ad, k1, k2⟩ := v6 j _ hV
          refine ⟨ad, k1, k2.trans ?_⟩
          have he2 : (Vs[j]).erase = .lit (.int .u8 n) := by
            have := n2 j n hjn
            rw [← v2, HT.erases_eq, List.getElem?_map, hV] at this
            simpa using this
          have hs := (v4 _ (List.mem_of_getElem? hV)).1
          generalize Vs[j] = V at he2 hs
          cases hs with
          | leaf a v ha hv' => simp only [HT.erase] at he2; subst he2; simp only [HT.value, hv'.litv]
          | _ => simp [HT.erase] at he2
        refine ⟨_, w, ?_, Ext.refl _ _, .lit _⟩
        simp only [execOp, Sem.run_bind, v1]
        rw [run_convert_bytes_string (P := E.P) w src dst e A m c he hu8 h2]
        by_cases hm : ns = []
        · subst hm
          have hm0 : m = 0 := by simp at n1; rw [← hVl] at n1; omega
          subst hm0
          cases A with
          | none => simp [Conv.bytesToString, strOf]; rfl
          | some ad => simp [Conv.bytesToString, strOf, loadCells, loadCellsFrom]; rfl
        · obtain ⟨n0, hn0⟩ : ∃ n0, ns[0]? = some n0 := by
            cases ns with
            | nil => exact absurd rfl hm
            | cons a l => exact ⟨a, rfl⟩
          obtain ⟨ad, rfl, _⟩ := hval 0 n0 hn0
          have hload := run_loadCells_list (P := E.P) w ad (ns.map (Value.int .u8)) (fun j v hjv => by
            rw [List.getElem?_map] at hjv
            cases hnj : ns[j]? with
            | none => rw [hnj] at hjv; cases hjv
            | some n =>
              rw [hnj] at hjv
              simp only [Option.map_some, Option.some.injEq] at hjv
              subst hjv
              obtain ⟨ad', k1, k2⟩ := hval j n hnj
              cases k1; exact k2)
          rw [List.length_map, n1, ← hVl, v3, Nat.mul_one] at hload
          rw [run_bytesToString (P := E.P) w ad m c ns hload, foldl_push]
          have : (ByteArray.empty.data ++ (ns.map fun n => UInt8.ofNat n.toNat).toArray) = (ns.map fun n => UInt8.ofNat n.toNat).toArray := by
            show #[] ++ _ = _
            simp
          rw [this]
          rfl
      · cases h1
    · cases h1
end
end Go.Av
end
section
set_option linter.unusedSimpArgs false
set_option linter.unusedVariables false
/-! The walk: what is to be shown of a piece of code, for 'simp only [walk lemmas]'. -/
namespace Go.Av

/-! One operation: 'R': what is to be shown behind it; 'd': the slot that it writes. No binder stands round 'R': 'simp' does not look into what is not yet to be done. -/
def fdO (P : Program) (t : TypeId) (f : Nat) : Nat := match fdT P t f with
  | some (o, _, _) => o
  | none => 0
def fdOk (P : Program) (t : TypeId) (f : Nat) : Bool := match fdT P t f with
  | some (_, n, _) => n != 0
  | none => false
def fdN (P : Program) (t : TypeId) (f : Nat) : Nat := match fdT P t f with
  | some (_, n, _) => n
  | none => 0
def fdS (P : Program) (t : TypeId) (f : Nat) : Bool := match fdT P t f with
  | some (_, _, g) => !g
  | none => false
def ldA (P : Program) (t : TypeId) : Bool := match agT P t with
  | some b => b
  | none => false
def ldS (P : Program) (t : TypeId) : Bool := match agT P t with
  | some b => !b
  | none => false
def szN (P : Program) (t : TypeId) : Nat := (szT P t).getD 0
def isStr (P : Program) (t : TypeId) : Bool := match P.underlying t with
  | some .string => true
  | _ => false
def isBl (P : Program) (t : TypeId) : Bool := match P.underlying t with
  | some .bool => true
  | _ => false
def intKd (P : Program) (t : TypeId) : Option IntKind := match P.underlying t with
  | some (.int k) => some k
  | _ => none

def slSz (P : Program) (t : TypeId) : Nat := (slT P t).getD 0
def zsN (P : Program) (t : TypeId) : List Value := match zcT P t with
  | some (zs, _) => zs
  | none => []
def byN (P : Program) (t : TypeId) : Nat := match zcT P t with
  | some (_, b) => b
  | none => 0
def zOk (P : Program) (t : TypeId) : Bool := match zcT P t with
  | some (zs, _) => decide (0 < zs.length) && zs.all (·.oneCell')
  | none => false
/-- A row of the call's own of at least 'm' elements lies there. -/
def rowIn (s : ASt) (r : Nat) (p : List Nat) (sz m : Nat) : Prop := ∃ n cs, nodeOf s r p = some (.row true sz n cs) ∧ m ≤ n

/-- Two floats. -/
def fltV (op : BinOp) (k : FloatKind) (x y : Nat) : Option Value := match op with
  | .add => (k.format.add x y).map (.float k)
  | .sub => (k.format.sub x y).map (.float k)
  | .mul => (k.format.mul x y).map (.float k)
  | .quo => (k.format.div x y).map (.float k)
  | .eql => some (.bool (k.format.order x y == some .eq))
  | .neq => some (.bool (k.format.order x y != some .eq))
  | .lss => some (.bool (k.format.order x y == some .lt))
  | .leq => some (.bool (k.format.order x y == some .lt || k.format.order x y == some .eq))
  | .gtr => some (.bool (k.format.order x y == some .gt))
  | .geq => some (.bool (k.format.order x y == some .gt || k.format.order x y == some .eq))
  | _ => none
def fltKd (P : Program) (t : TypeId) : Option FloatKind := match P.underlying t with
  | some (.float k) => some k
  | _ => none
def pickQ (c a b : AV) (R : ASt → Prop) (s : ASt) (d : Nat) : Prop := match c with
  | .lit (.bool x) => R (s.set d (bif x then a else b))
  | _ => False
def binQ (P : Program) (op : BinOp) (t : TypeId) (x y : AV) (R : ASt → Prop) (s : ASt) (d : Nat) : Prop := match x, y with
  | .lit (.int j a), .lit (.int j' b) => intOk op j j' b ∧ R (s.set d (.lit (intV op j a b)))
  | .lit (.string a), .lit (.string b) => strOk op a b ∧ R (s.set d (.lit (strV op a b)))
  | .lit (.float j a), .lit (.float j' b) => (match fltV op j a b with
    | some v => j = j' ∧ R (s.set d (.lit v))
    | none => False)
  | .lit (.bool a), .lit (.bool b) => (isBl P t = true ∧ (op = .eql ∨ op = .neq)) ∧ R (s.set d (.lit (.bool (if op = .eql then a == b else !(a == b)))))
  | _, _ => False
/-- A row of no element that is known to be nil has the size 0. -/
def nsz (n sz : Nat) : Nat := if n = 0 then 0 else sz
theorem nsz_zero {z : Nat} : nsz 0 z = 0 := nrfl rfl
theorem nsz_one {z : Nat} : nsz 1 z = z := nrfl rfl
theorem nsz_two {z : Nat} : nsz 2 z = z := nrfl rfl
theorem nsz_succ {n z : Nat} : nsz (n + 1) z = z := if_neg (Nat.succ_ne_zero n)
theorem nsz_imp {n z : Nat} : (n = 0 → nsz n z = 0) = True := eq_true (fun h => if_pos h)
def nilSl (P : Program) (op : BinOp) (t : TypeId) (len : Nat) (R : ASt → Prop) (s : ASt) (d : Nat) : Option AV → Prop
  | some (.row true sz n _) => (((slT P t).isSome = true ∧ op = .eql) ∧ len = n ∧ (n = 0 → sz = 0)) ∧ R (s.set d (.lit (.bool (decide (n = 0)))))
  | _ => False
/-- Two structs of bare values, compared. -/
def aggQ (P : Program) (op : BinOp) (t : TypeId) (xs ys : List AV) (R : ASt → Prop) (s : ASt) (d : Nat) : Prop :=
  ∃ (us vs : List Value) (b : Bool), xs = us.map AV.lit ∧ ys = vs.map AV.lit ∧ (∀ x y w, (eqGuard op t x y (.agg us.toArray) (.agg vs.toArray)).run P w = .ok () w) ∧ (∀ w, (binOp op t (.agg us.toArray) (.agg vs.toArray)).run P w = .ok (.bool b) w) ∧ R (s.set d (.lit (.bool b)))
/-- As binQ; a slice that somebody else owns may be compared with nil: an empty one may be nil or not. -/
def binS (P : Program) (op : BinOp) (t : TypeId) (x y : AV) (R : ASt → Prop) (s : ASt) (d : Nat) : Prop := match x, y with
  | .row _ _ n _, .lit (.slice none 0 0) => ((slT P t).isSome = true ∧ (op = .eql ∨ op = .neq)) ∧ ∀ b : Bool, (0 < n → b = (if op = .eql then false else true)) → R (s.set d (.lit (.bool b)))
  | .sl r p 0 len, .lit (.slice none 0 0) => nilSl P op t len R s d (nodeOf s r p)
  | .agg xs, .agg ys => aggQ P op t xs ys R s d
  | _, _ => binQ P op t x y R s d
def unQ (op : UnOp) (x : AV) (R : ASt → Prop) (s : ASt) (d : Nat) : Prop := match op, x with
  | .neg, .lit (.int k n) => R (s.set d (.lit (.int k (k.wrap (0 - n)))))
  | .not, .lit (.bool b) => R (s.set d (.lit (.bool !b)))
  | .xor, .lit (.int k n) => R (s.set d (.lit (.int k (k.wrap (BitVec.ofInt k.bits (if k.signed then -1 else k.max) ^^^ BitVec.ofInt k.bits n).toNat))))
  | .neg, .lit (.float k b) => R (s.set d (.lit (.float k (Op.negFloat k b))))
  | _, _ => False
def rowB (R : ASt → Prop) (s : ASt) (d : Nat) : Option (List Int) → Prop
  | some ns => R (s.set d (.lit (.string (strOf ns))))
  | none => False
def convSl (P : Program) (a b : TypeId) (off len : Nat) (R : ASt → Prop) (s : ASt) (d : Nat) : Option AV → Prop
  | some (.row true 1 n cs) => (u8sl P a = true ∧ isStr P b = true ∧ off + len ≤ n ∧ leafCs ((cs.drop (off * 1)).take (len * 1)) = true ∧ fitCs ((cs.drop (off * 1)).take (len * 1)) = true) ∧ rowB R s d (bytesA ((cs.drop (off * 1)).take (len * 1)))
  | _ => False
def convQ (P : Program) (a b : TypeId) (x : AV) (R : ASt → Prop) (s : ASt) (d : Nat) : Prop := match x with
  | .lit (.int _ n) => if (intKd P b).isSome = true then (intKd P a).isSome = true ∧ R (s.set d (.lit (.int ((intKd P b).getD .i64) (((intKd P b).getD .i64).wrap n)))) else
      ((intKd P a).isSome = true ∧ (fltKd P b).isSome = true) ∧ R (s.set d (.lit (.float ((fltKd P b).getD .f64) (((fltKd P b).getD .f64).nearest n))))
  | .lit (.string z) => (isStr P a = true ∧ isStr P b = true) ∧ R (s.set d (.lit (.string z)))
  | .row false 1 n cs => (u8sl P a = true ∧ isStr P b = true ∧ leafCs cs = true ∧ fitCs cs = true) ∧ rowB R s d (bytesA cs)
  | .sl r p off len => convSl P a b off len R s d (nodeOf s r p)
  | _ => False
def lenQ (P : Program) (t : TypeId) (x : AV) (R : ASt → Prop) (s : ASt) (d : Nat) : Prop := match x with
  | .lit (.string a) => isStr P t = true ∧ R (s.set d (.lit (.int .i64 a.size)))
  | .row false _ n _ => (slT P t).isSome = true ∧ R (s.set d (.lit (.int .i64 n)))
  | .sl r p off len => ((slT P t).isSome = true ∧ rowAny s r p (off + len)) ∧ R (s.set d (.lit (.int .i64 len)))
  | _ => False
def maxQ (x y : AV) (R : ASt → Prop) (s : ASt) (d : Nat) : Prop := match x, y with
  | .lit (.int k a), .lit (.int _ b) => R (s.set d (.lit (.int k (if b > a then b else a))))
  | _, _ => False
def minQ (x y : AV) (R : ASt → Prop) (s : ASt) (d : Nat) : Prop := match x, y with
  | .lit (.int k a), .lit (.int _ b) => R (s.set d (.lit (.int k (if b < a then b else a))))
  | _, _ => False
def indexAddrQ (P : Program) (t : TypeId) (x i : AV) (R : ASt → Prop) (s : ASt) (d : Nat) : Prop := match x, i with
  | .row false sz n cs, .lit (.int _ j) => (slT P t = some sz ∧ (0 ≤ j ∧ j < n)) ∧ R (s.set d (.box false (cs.drop (j.toNat * sz))))
  | .sl r p off len, .lit (.int _ j) => (((slT P t).isSome = true ∧ rowIn s r p (slSz P t) (off + len)) ∧ (0 ≤ j ∧ j < len)) ∧ R (s.set d (.ptr r p ((off + j.toNat) * slSz P t)))
  | _, _ => False
def indexQ (P : Program) (t : TypeId) (x i : AV) (R : ASt → Prop) (s : ASt) (d : Nat) : Prop := match x, i with
  | .lit (.string a), .lit (.int _ j) => (isStr P t = true ∧ (0 ≤ j ∧ j < a.size)) ∧ R (s.set d (.lit (.int .u8 (byteAt a j))))
  | _, _ => False
def fieldAddrQ (P : Program) (t : TypeId) (x : AV) (f : Nat) (R : ASt → Prop) (s : ASt) (d : Nat) : Prop := match x with
  | .box false cs => fdOk P t f = true ∧ R (s.set d (.box false (cs.drop (fdO P t f))))
  | .ptr r p o => (fdOk P t f = true ∧ memN (nodeOf s r p) = true ∧ (cellsOf (nodeOf s r p)).length ≠ 0) ∧ R (s.set d (.ptr r p (o + fdO P t f)))
  | _ => False
def loadQ (P : Program) (t : TypeId) (x : AV) (R : ASt → Prop) (s : ASt) (d : Nat) : Prop := match x with
  | .box false cs => if ldA P t = true then ((szT P t).isSome = true ∧ szN P t ≤ cs.length) ∧ R (s.set d (.agg (cs.take (szN P t)))) else (ldS P t = true ∧ 0 < cs.length) ∧ R (s.set d (cs.getD 0 .junk))
  | .ptr r p o => if ldA P t = true then ((szT P t).isSome = true ∧ memN (nodeOf s r p) = true ∧ 0 < szN P t ∧ o + szN P t ≤ (cellsOf (nodeOf s r p)).length) ∧ R (s.set d (.agg (openCs r p o (((cellsOf (nodeOf s r p)).drop o).take (szN P t))))) else (ldS P t = true ∧ memN (nodeOf s r p) = true ∧ o < (cellsOf (nodeOf s r p)).length) ∧ R (s.set d (openC r (p ++ [o]) ((cellsOf (nodeOf s r p)).getD o .junk)))
  | _ => False
def treeR (r : Nat) (p : List Nat) (o : Nat) (R : ASt → Prop) (s1 : ASt) (As : List AV) : Prop :=
  if leafCs As = true then R (s1.updM r p (setNs o As (nodeOf s1 r p))) else R ((s1.updM r p (setNs o As (nodeOf s1 r p))).mapT (killR r p o As.length))
def treeQ (P : Program) (t : TypeId) (r : Nat) (p : List Nat) (o : Nat) (R : ASt → Prop) : Option (List AV × ASt) → Prop
  | some (As, s1) => (fitCs As = true ∧ szT P t = some As.length ∧ 0 < As.length ∧ memN (nodeOf s1 r p) = true ∧ o + As.length ≤ (cellsOf (nodeOf s1 r p)).length) ∧ treeR r p o R s1 (nilTs (nzT P t) As)
  | none => False
def nilQ (x : AV) (R : ASt → Prop) (s : ASt) (d : Nat) : Prop := match x with
  | .box false cs => R (s.set d (.box false cs))
  | .ptr r p o => (memN (nodeOf s r p) = true ∧ (cellsOf (nodeOf s r p)).length ≠ 0) ∧ R (s.set d (.ptr r p o))
  | _ => False
def storeQ (P : Program) (t : TypeId) (x v : AV) (R : ASt → Prop) (s : ASt) : Prop := match x, v with
  | .ptr r p o, .agg vs => treeQ P t r p o R (closeVs s vs)
  | .ptr r p o, .sl q p' o' l => treeQ P t r p o R (closeVs s [.sl q p' o' l])
  | .ptr r p o, .ptr q p' o' => treeQ P t r p o R (closeVs s [.ptr q p' o'])
  | .ptr r p o, v => ((szT P t = some 1 ∧ memN (nodeOf s r p) = true ∧ o < (cellsOf (nodeOf s r p)).length) ∧ stOk v = true) ∧ R (s.updM r p (setN o v (nodeOf s r p)))
  | _, _ => False
def boxQ (d : Nat) (R : ASt → Prop) : Option (List AV × ASt) → Prop
  | some (As, s1) => fitCs As = true ∧ R (s1.new d (.ptr d [] 0) (.box true As))
  | none => False
def allocQ (P : Program) (t : TypeId) (d : Nat) (R : ASt → Prop) (s : ASt) : Prop := match zvT P t with
  | some zs => R (s.new d (.ptr d [] 0) (.box true (nilTs (nzT P t) (zs.map .lit))))
  | none => False
def makeQ (P : Program) (t : TypeId) (x y : AV) (R : ASt → Prop) (s : ASt) (d : Nat) : Prop := match x, y with
  | .lit (.int _ n), .lit (.int _ m) => (zOk P t = true ∧ 0 ≤ n ∧ m = n ∧ (byN P t : Int) * n ≤ 281474976710656 ∧ n ≤ 9223372036854775807) ∧ R (s.new d (.sl d [] 0 n.toNat) (.row true (zsN P t).length n.toNat (nilRq (nzE P t) n.toNat ((zCells (zsN P t) n.toNat).map .lit))))
  | _, _ => False
def fieldQ (P : Program) (t : TypeId) (x : AV) (f : Nat) (R : ASt → Prop) (s : ASt) (d : Nat) : Prop := match x with
  | .agg cs => if fdS P t f = true then (fdO P t f < cs.length) ∧ R (s.set d (cs.getD (fdO P t f) .junk)) else
      (fdOk P t f = true ∧ fdO P t f + fdN P t f ≤ cs.length) ∧ R (s.set d (.agg ((cs.drop (fdO P t f)).take (fdN P t f))))
  | _ => False
def buildR (R : ASt → Prop) (s : ASt) (d : Nat) : Option (List AV) → Prop
  | some r => R (s.set d (.agg r))
  | none => False
def cellsOk (s : ASt) : List (Nat × Operand) → Prop
  | [] => True
  | (_, x) :: l => cellOk s (s.ev x) ∧ cellsOk s l
def partsA (s : ASt) : List (Nat × Operand) → List (Nat × List AV)
  | [] => []
  | (i, x) :: l => (i, (s.ev x).parts) :: partsA s l
def buildQ (P : Program) (t : TypeId) (parts : List (Nat × Operand)) (R : ASt → Prop) (s : ASt) (d : Nat) : Prop := match zvT P t with
  | some zs => (bdOk P t = true ∧ cellsOk s parts) ∧ buildR R s d (fillA (plT P t) (zs.map .lit) (partsA s parts))
  | none => False
def rowQ (d sz len : Nat) (nz : List (Option Nat)) (R : ASt → Prop) : Option (List AV × ASt) → Prop
  | some (As, s1) => R (s1.new d (.sl d [] 0 len) (.row true sz len (nilRs nz len As)))
  | none => False
def buildSliceQ (P : Program) (t : TypeId) (len : Nat) (parts : List (Nat × Operand)) (R : ASt → Prop) (s : ASt) (d : Nat) : Prop :=
  (zOk P t = true ∧ parts.length = len ∧ len * slSz P t ≤ 16777216 ∧ bsOk s (slSz P t) 0 parts) ∧ rowQ d (slSz P t) len (nzE P t) R (closeVs s (bsA s parts))
def sliceSl (P : Program) (t : TypeId) (r : Nat) (p : List Nat) (off len : Nat) (R : ASt → Prop) (s : ASt) (d : Nat) : Option Int → Option Int → Prop
  | some l, some h => (((slT P t).isSome = true ∧ rowIn s r p (slSz P t) (off + len)) ∧ (0 ≤ l ∧ l ≤ h ∧ h ≤ len)) ∧ R (s.set d (.sl r p (off + l.toNat) (h.toNat - l.toNat)))
  | _, _ => False
def sliceSh (P : Program) (t : TypeId) (sz n : Nat) (cs : List AV) (R : ASt → Prop) (s : ASt) (d : Nat) : Option Int → Option Int → Prop
  | some l, some h => (slT P t = some sz ∧ (0 ≤ l ∧ l ≤ h ∧ h ≤ n)) ∧ R (s.set d (.row false sz (h.toNat - l.toNat) ((cs.drop (l.toNat * sz)).take ((h.toNat - l.toNat) * sz))))
  | _, _ => False
def sliceSt (P : Program) (t : TypeId) (b : ByteArray) (R : ASt → Prop) (s : ASt) (d : Nat) : Option Int → Option Int → Prop
  | some l, some h => (isStr P t = true ∧ (0 ≤ l ∧ l ≤ h ∧ h ≤ b.size)) ∧ R (s.set d (.lit (.string (b.extract l.toNat h.toNat))))
  | _, _ => False
def sliceQ (P : Program) (t : TypeId) (x : AV) (lo hi : Option Operand) (R : ASt → Prop) (s : ASt) (d : Nat) : Prop := match x with
  | .sl r p off len => sliceSl P t r p off len R s d (bndQ s 0 lo) (bndQ s len hi)
  | .row false sz n cs => sliceSh P t sz n cs R s d (bndQ s 0 lo) (bndQ s n hi)
  | .lit (.string b) => sliceSt P t b R s d (bndQ s 0 lo) (bndQ s b.size hi)
  | _ => False
/-- 'append': 'k', 'cs': the old row, taken out of 's1'. -/
def appOk (P : Program) (t : TypeId) (k m : Nat) : Prop := zOk P t = true ∧ k + m ≤ 9223372036854775807 ∧ (k + m) * byN P t ≤ 140737488355328
def appMv (t : TypeId) (P : Program) (r : Nat) (p : List Nat) (off m n k : Nat) (cs es : List AV) (R : ASt → Prop) (s1 : ASt) (d : Nat) : Option AV → Prop
  | some (.row true sz' n' es') => (off = 0 ∧ m = n ∧ n' = n ∧ sz' = slSz P t ∧ es' = es) ∧ R ((s1.updM r p .junk).new d (.sl d [] 0 (k + m)) (.row true (slSz P t) (k + m) (cs ++ es)))
  | _ => False
def appRow (P : Program) (t : TypeId) (r : Nat) (p : List Nat) (off m k : Nat) (cs : List AV) (R : ASt → Prop) (s1 : ASt) (d : Nat) : Option AV → Prop
  | some (.row true sz n es) => (appOk P t k m ∧ sz = slSz P t ∧ off + m ≤ n ∧ fitCs (if off = 0 ∧ m = n then es else (es.drop (off * sz)).take (m * sz)) = true ∧ es.length = n * sz) ∧
      (if leafCs (if off = 0 ∧ m = n then es else (es.drop (off * sz)).take (m * sz)) = true then R (s1.new d (.sl d [] 0 (k + m)) (.row true (slSz P t) (k + m) (cs ++ (if off = 0 ∧ m = n then es else (es.drop (off * sz)).take (m * sz)))))
        else appMv t P r p off m n k cs es R s1 d (nodeOf s1 r p))
  | _ => False
def appB (P : Program) (t : TypeId) (y : AV) (k : Nat) (cs : List AV) (R : ASt → Prop) (s s1 : ASt) (d : Nat) : Prop := match y with
  | .lit (.slice none 0 0) => appOk P t k 0 ∧ R (s1.new d (.sl d [] 0 k) (.row true (slSz P t) k cs))
  | .row false sz m es => (appOk P t k m ∧ sz = slSz P t ∧ leafCs es = true ∧ fitCs es = true) ∧ R (s1.new d (.sl d [] 0 (k + m)) (.row true (slSz P t) (k + m) (cs ++ es)))
  | .sl r p off m => appRow P t r p off m k cs R s1 d (nodeOf s r p)
  | _ => False
/-- An append within one row whose cells own memory: what is appended lies behind what it is appended to. -/
def appSelf (P : Program) (t : TypeId) (off m n k : Nat) (cs0 cs : List AV) (R : ASt → Prop) (s1 : ASt) (d : Nat) : Prop :=
  (appOk P t k m ∧ off + m ≤ n ∧ k ≤ off ∧ fitCs (if off = 0 ∧ m = n then cs else (cs.drop (off * slSz P t)).take (m * slSz P t)) = true) ∧
    R (s1.new d (.sl d [] 0 (k + m)) (.row true (slSz P t) (k + m) (cs0 ++ (if off = 0 ∧ m = n then cs else (cs.drop (off * slSz P t)).take (m * slSz P t)))))
def appC (P : Program) (t : TypeId) (r : Nat) (p : List Nat) (n k : Nat) (cs0 cs : List AV) (y : AV) (R : ASt → Prop) (s s1 : ASt) (d : Nat) : Prop := match y with
  | .sl r' p' off m => if nilB (nzE P t) = true ∧ r' = r ∧ p' = p then appSelf P t off m n k cs0 cs R s1 d else appB P t (.sl r' p' off m) k cs0 R s s1 d
  | y => appB P t y k cs0 R s s1 d
def appA (P : Program) (t : TypeId) (r : Nat) (p : List Nat) (off k : Nat) (y : AV) (R : ASt → Prop) (s : ASt) (d : Nat) : Option AV → Prop
  | some (.row true sz n cs) => (off = 0 ∧ sz = slSz P t ∧ k ≤ n ∧ cs.length = n * sz) ∧ appC P t r p n k (if k = n then cs else cs.take (k * sz)) cs y R s (s.updM r p .junk) d
  | _ => False
def appQ (P : Program) (t : TypeId) (x y : AV) (R : ASt → Prop) (s : ASt) (d : Nat) : Prop := match x with
  | .lit (.slice none 0 0) => appB P t y 0 [] R s s d
  | .sl r p off k => appA P t r p off k y R s d (nodeOf s r p)
  | _ => False
/-- What comes into a variable. -/
def assignQ (P : Program) (t : TypeId) (x : AV) (R : ASt → Prop) (s : ASt) (d : Nat) : Prop := match x with
  | .lit (.slice none 0 0) => R (s.new d (.sl d [] 0 0) (.row true (slSz P t) 0 []))
  | .sl r [] off len => if r < 1000 ∧ r ≠ d then R (s.ren r d (.sl d [] off len)) else R (s.set d (.sl r [] off len))
  | v => R (s.set d v)
def extractQ (x : AV) (i : Nat) (R : ASt → Prop) (s : ASt) (d : Nat) : Prop := match x with
  | .tup cs => i < cs.length ∧ R (s.set d (cs.getD i .junk))
  | _ => False

section
variable {E : Env} {s : ASt} {d : Nat} {t : TypeId} {pos : String} {after : Array Edge} {g : Option (Nat × Bool)} {R : ASt → Prop}
theorem of_pick {c x y : Operand} (hn : d < E.nt) (h : pickQ (s.ev c) (s.ev x) (s.ev y) R s d) : ∃ v, QJ E ⟨some d, .pick c x y, t, pos, after, g⟩ s v none ∧ R (s.set d v) := by
  unfold pickQ at h
  split at h
  · rename_i b hb; exact ⟨_, q_pick hn hb, h⟩
  · exact h.elim
theorem of_bin {op : BinOp} {x y : Operand} {xt yt : TypeId} (hn : d < E.nt) (h : binQ E.P op xt (s.ev x) (s.ev y) R s d) : ∃ v, QJ E ⟨some d, .binOp op xt x y yt, t, pos, after, g⟩ s v none ∧ R (s.set d v) := by
  unfold binQ at h
  split at h
  · rename_i h1 h2; exact ⟨_, q_int hn h1 h2 h.1, h.2⟩
  · rename_i h1 h2; exact ⟨_, q_str hn h1 h2 h.1, h.2⟩
  · rename_i k a k' b h1 h2
    split at h
    · rename_i v hv
      obtain ⟨rfl, h4⟩ := h
      refine ⟨_, .val rfl hn (fun s' M G a' w hle hX => ?_), h4⟩
      have e1 := hX.lit hle h1
      have e2 := hX.lit hle h2
      refine ⟨_, w, ?_, Ext.refl _ _, .lit _⟩
      have key : (binOp op xt (.float k a) (.float k b)).run E.P w = .ok v w := by
        unfold fltV at hv
        cases op <;> simp only [Option.map_eq_some_iff, Option.some.injEq, reduceCtorEq] at hv <;> first
          | (obtain ⟨r, hr, rfl⟩ := hv; simp [binOp, Op.floatArith, hr])
          | (subst hv; simp [binOp, Op.floatCmp])
      unfold execOp
      have he : (eqGuard op xt x y (.float k a) (.float k b)) = pure () := eqGuard_of op xt x y _ _ rfl
      simp [e1, e2, he, key]
    · exact h.elim
  · rename_i h1 h2
    obtain ⟨⟨h3, h4⟩, h5⟩ := h
    have hb : E.P.underlying xt = some .bool := by unfold isBl at h3; split at h3 <;> first | assumption | cases h3
    rcases h4 with rfl | rfl
    · exact ⟨_, q_bool hn hb h1 h2 rfl, h5⟩
    · exact ⟨_, q_bool hn hb h1 h2 rfl, h5⟩
  · exact h.elim
theorem aggLit {w : World} {G : Nat → Prop} {m : Nat → Option HT} {us : List Value} {v : Value} (h : VR w G m (.agg (us.map AV.lit)) v) : v = .agg us.toArray := by
  cases h with
  | agg cs us' hl hh =>
    have : us' = us := by
      apply List.ext_getElem?
      intro i
      rw [List.length_map] at hl
      by_cases hi : i < us.length
      · have h1 : us'[i]? = some (us'[i]'(by omega)) := List.getElem?_eq_getElem _
        have h2 : (us.map AV.lit)[i]? = some (.lit us[i]) := by rw [List.getElem?_map, List.getElem?_eq_getElem hi]; rfl
        have := hh i _ _ h2 h1
        generalize hu : us'[i]'(by omega) = u at *
        cases this
        rw [h1, List.getElem?_eq_getElem hi]
      · rw [List.getElem?_eq_none (by omega), List.getElem?_eq_none (by omega)]
    rw [this]
theorem of_binS {op : BinOp} {x y : Operand} {xt yt : TypeId} (hn : d < E.nt) (h : binS E.P op xt (s.ev x) (s.ev y) R s d) : LJ E ⟨some d, .binOp op xt x y yt, t, pos, after, g⟩ s R := by
  unfold binS at h
  split at h
  · rename_i o sz n cs h1 h2
    obtain ⟨⟨h3, h4⟩, h5⟩ := h
    obtain ⟨z, hz⟩ := Option.isSome_iff_exists.1 h3
    obtain ⟨e, _, he, _⟩ := slT_spec hz
    rintro a w ⟨M, G, hX⟩
    have hv := hX.ev x
    rw [h1] at hv
    have e2 := hX.lit (Le.refl s) h2
    obtain ⟨A, n', c, hu, hb⟩ : ∃ (A : Option Addr) (n' c : Nat), a.eval x = .slice A n' c ∧ (0 < n → A.isNone = false) := by
      generalize a.eval x = u at hv
      cases hv with
      | row0 sz A c => exact ⟨A, 0, c, rfl, fun h => absurd h (by omega)⟩
      | row sz n c b off => exact ⟨_, _, _, rfl, fun _ => rfl⟩
    rcases h4 with rfl | rfl
    · have key := Lib.run_eql_slice_nil w xt e A n' c 0 0 he
      unfold Oper.wp
      have hg : eqGuard .eql xt x y (.slice A n' c) (.slice none 0 0) = pure () := eqGuard_of _ xt x y _ _ rfl
      simp only [execOp, hu, e2]
      simp [hg, key, Oper.upon]
      exact ⟨_, ⟨M, G, hX.set hn (Ext.refl _ _) (.lit _)⟩, h5 _ (fun h => by simpa using hb h)⟩
    · have key := run_neq_slice_nil_any w xt e A n' c 0 0 he
      unfold Oper.wp
      have hg : eqGuard .neq xt x y (.slice A n' c) (.slice none 0 0) = pure () := eqGuard_of _ xt x y _ _ rfl
      simp only [execOp, hu, e2]
      simp [hg, key, Oper.upon]
      exact ⟨_, ⟨M, G, hX.set hn (Ext.refl _ _) (.lit _)⟩, h5 _ (fun h => by simpa using hb h)⟩
  · rename_i r p len h1 h2
    unfold nilSl at h
    split at h
    · rename_i sz n cs hA
      obtain ⟨⟨⟨h3, rfl⟩, rfl, h6⟩, h5⟩ := h
      obtain ⟨z, hz⟩ := Option.isSome_iff_exists.1 h3
      obtain ⟨e, _, he, _⟩ := slT_spec hz
      rintro a w ⟨M, G, hX⟩
      have hv := hX.ev x
      rw [h1] at hv
      have e2 := hX.lit (Le.refl s) h2
      obtain ⟨T, N, hM, hN, hNe, hsT, hsN⟩ := nodeOf_spec hX hA
      obtain ⟨A, n', c, hu, hb⟩ : ∃ (A : Option Addr) (n' c : Nat), a.eval x = .slice A n' c ∧ A.isNone = decide (len = 0) := by
        generalize a.eval x = u at hv
        cases hv with
        | sl _ _ _ _ _ q q0 =>
          cases hsN with
          | row b sz' n' cap cs' C e0 g1 g2 g3 g4 g5 g6 g7 g8 =>
            simp only [HT.erase, AV.row.injEq, true_and] at hNe
            obtain ⟨rfl, rfl, _⟩ := hNe
            obtain ⟨A0, c0, rfl, q2, q3, q4, q5⟩ := q T hM b sz' n' cap cs' hN (by omega)
            obtain ⟨rfl, rfl⟩ := q5 rfl
            refine ⟨_, _, _, rfl, ?_⟩
            have : n' ≠ 0 := fun h0 => by have := h6 h0; omega
            simp [this]
          | nilrow sz' =>
            simp only [HT.erase, AV.row.injEq, true_and] at hNe
            obtain ⟨rfl, rfl, _⟩ := hNe
            have := q0 T hM sz' hN (by omega)
            subst this
            exact ⟨_, _, _, rfl, rfl⟩
          | leaf a' v' ha _ => cases a' with
            | row o _ _ _ => cases o <;> simp_all [HT.erase, AV.leafOk]
            | _ => simp_all [HT.erase, AV.leafOk]
          | box => simp [HT.erase] at hNe
          | agg => simp [HT.erase] at hNe
          | tup => simp [HT.erase] at hNe
      have key := Lib.run_eql_slice_nil w xt e A n' c 0 0 he
      unfold Oper.wp
      have hg : eqGuard .eql xt x y (.slice A n' c) (.slice none 0 0) = pure () := eqGuard_of _ xt x y _ _ rfl
      simp only [execOp, hu, e2]
      simp [hg, key, Oper.upon]
      rw [← hb] at h5
      exact ⟨_, ⟨M, G, hX.set hn (Ext.refl _ _) (.lit _)⟩, h5⟩
    · exact h.elim
  · rename_i xs ys h1 h2
    obtain ⟨us, vs, b, rfl, rfl, hg, hb, hR⟩ := h
    rintro a w ⟨M, G, hX⟩
    have e1 : a.eval x = .agg us.toArray := aggLit (h1 ▸ hX.ev x)
    have e2 : a.eval y = .agg vs.toArray := aggLit (h2 ▸ hX.ev y)
    unfold Oper.wp
    simp only [execOp, e1, e2]
    simp [hg, hb, Oper.upon]
    exact ⟨_, ⟨M, G, hX.set hn (Ext.refl _ _) (.lit _)⟩, hR⟩
  · obtain ⟨v, h1, h2⟩ := of_bin hn h
    exact LJ.of_q h1 h2
theorem of_un {op : UnOp} {x : Operand} {xt : TypeId} (hn : d < E.nt) (h : unQ op (s.ev x) R s d) : ∃ v, QJ E ⟨some d, .unOp op xt x, t, pos, after, g⟩ s v none ∧ R (s.set d v) := by
  unfold unQ at h
  split at h
  · rename_i h1; exact ⟨_, q_un hn h1 rfl, h⟩
  · rename_i h1; exact ⟨_, q_un hn h1 rfl, h⟩
  · rename_i h1; exact ⟨_, q_un hn h1 rfl, h⟩
  · rename_i h1; exact ⟨_, q_un hn h1 rfl, h⟩
  · exact h.elim
theorem of_isStr {P : Program} {t : TypeId} (h : isStr P t = true) : P.underlying t = some .string := by unfold isStr at h; split at h <;> first | assumption | cases h
theorem of_intKd {P : Program} {z : TypeId} (hz : (intKd P z).isSome = true) : P.underlying z = some (.int ((intKd P z).getD .i64)) := by
  unfold intKd at hz ⊢
  split at hz
  · rename_i e; simp only [e, Option.getD_some]
  · cases hz
theorem of_fltKd {P : Program} {z : TypeId} (hz : (fltKd P z).isSome = true) : P.underlying z = some (.float ((fltKd P z).getD .f64)) := by
  unfold fltKd at hz ⊢
  split at hz
  · rename_i e; simp only [e, Option.getD_some]
  · cases hz
theorem of_rowB {x : Operand} {a b : TypeId} {m : Nat} {cs : List AV} (hn : d < E.nt) (h1 : u8sl E.P a = true) (h2 : isStr E.P b = true) (hY : ∀ s', Le s s' → YJ E s' (s.ev x) 1 m cs) (hj : s.ev x ≠ .junk) (h : rowB R s d (bytesA cs)) :
    ∃ v, QJ E ⟨some d, .convert a b x, t, pos, after, g⟩ s v none ∧ R (s.set d v) := by
  unfold rowB at h
  split at h
  · rename_i ns hb
    exact ⟨_, q_convBytes (sz := 1) hn h1 (of_isStr h2) hb hY hj, h⟩
  · exact h.elim
theorem of_conv {x : Operand} {a b : TypeId} (hn : d < E.nt) (h : convQ E.P a b (s.ev x) R s d) : ∃ v, QJ E ⟨some d, .convert a b x, t, pos, after, g⟩ s v none ∧ R (s.set d v) := by
  unfold convQ at h
  split at h
  · rename_i k n h1
    split at h
    · rename_i h3
      exact ⟨_, q_convInt hn (of_intKd h.1) (of_intKd h3) h1, h.2⟩
    · refine ⟨_, .val rfl hn (fun s' M G a' w hle hX => ?_), h.2⟩
      have hv := hX.lit hle h1
      refine ⟨_, w, ?_, Ext.refl _ _, .lit _⟩
      have ha := of_intKd h.1.1
      have hb := of_fltKd h.1.2
      generalize (fltKd E.P b).getD .f64 = kk at hb ⊢
      unfold execOp
      simp [hv, convert, run_underlying ha, run_underlying hb, Conv.intToFloat]
  · rename_i z h1
    refine ⟨_, .val rfl hn (fun s' M G a' w hle hX => ?_), h.2⟩
    have hv := hX.lit hle h1
    refine ⟨_, w, ?_, Ext.refl _ _, .lit _⟩
    unfold execOp
    simp [hv, convert, run_underlying (of_isStr h.1.1), run_underlying (of_isStr h.1.2)]
  · rename_i n cs h1
    exact of_rowB hn h.1.1 h.1.2.1 (fun s' _ => by rw [h1]; exact yj_sh h.1.2.2.1 h.1.2.2.2) (by rw [h1]; simp) h.2
  · rename_i r p off len h1
    unfold convSl at h
    split at h
    · rename_i n cs hA
      exact of_rowB hn h.1.1 h.1.2.1 (fun s' hle => by rw [h1]; exact yj_own (hle.node hA) h.1.2.2.1 h.1.2.2.2.1 h.1.2.2.2.2) (by rw [h1]; simp) h.2
    · exact h.elim
  · exact h.elim
theorem of_len {x : Operand} {xt : TypeId} (hn : d < E.nt) (h : lenQ E.P xt (s.ev x) R s d) : ∃ v, QJ E ⟨some d, .call { callee := .builtin .len, args := #[x], argTypes := #[xt] }, t, pos, after, g⟩ s v none ∧ R (s.set d v) := by
  unfold lenQ at h
  split at h
  · rename_i h1; exact ⟨_, q_lenStr hn (of_isStr h.1) h1, h.2⟩
  · rename_i h1; obtain ⟨z, hz⟩ := Option.isSome_iff_exists.1 h.1; exact ⟨_, q_lenSh hn hz h1, h.2⟩
  · rename_i h1; obtain ⟨z, hz⟩ := Option.isSome_iff_exists.1 h.1.1; obtain ⟨sz, n, cs, h2, h3⟩ := h.1.2; exact ⟨_, q_lenOwn hn hz h1 h2 h3, h.2⟩
  · exact h.elim
theorem of_max {x y : Operand} {ts : Array TypeId} (hn : d < E.nt) (h : maxQ (s.ev x) (s.ev y) R s d) : ∃ v, QJ E ⟨some d, .call { callee := .builtin .max, args := #[x, y], argTypes := ts }, t, pos, after, g⟩ s v none ∧ R (s.set d v) := by
  unfold maxQ at h
  split at h
  · rename_i h1 h2
    exact ⟨_, .val rfl hn fun s' M G a w hle hX => ⟨_, w, by simp [execOp, resolve, invoke, builtin, hX.lit hle h1, hX.lit hle h2, run_max_int2], Ext.refl _ _, .lit _⟩, h⟩
  · exact h.elim
theorem of_min {x y : Operand} {ts : Array TypeId} (hn : d < E.nt) (h : minQ (s.ev x) (s.ev y) R s d) : ∃ v, QJ E ⟨some d, .call { callee := .builtin .min, args := #[x, y], argTypes := ts }, t, pos, after, g⟩ s v none ∧ R (s.set d v) := by
  unfold minQ at h
  split at h
  · rename_i h1 h2
    exact ⟨_, .val rfl hn fun s' M G a w hle hX => ⟨_, w, by simp [execOp, resolve, invoke, builtin, hX.lit hle h1, hX.lit hle h2, run_min_int2], Ext.refl _ _, .lit _⟩, h⟩
  · exact h.elim
theorem of_indexAddr {x y : Operand} {xt : TypeId} (hn : d < E.nt) (h : indexAddrQ E.P xt (s.ev x) (s.ev y) R s d) : ∃ v, QJ E ⟨some d, .indexAddr xt x y, t, pos, after, g⟩ s v none ∧ R (s.set d v) := by
  unfold indexAddrQ at h
  split at h
  · rename_i h1 h2; exact ⟨_, q_indexSh hn h.1.1 h1 h2 h.1.2, h.2⟩
  · rename_i h1 h2
    obtain ⟨⟨⟨h3, n, cs, h4, h5⟩, h6⟩, h7⟩ := h
    obtain ⟨z, hz⟩ := Option.isSome_iff_exists.1 h3
    have hz' : slT E.P xt = some (slSz E.P xt) := by simp [slSz, hz]
    exact ⟨_, q_indexOwn hn hz' h1 h2 h4 h5 h6, h7⟩
  · exact h.elim
theorem of_index {x y : Operand} {xt : TypeId} (hn : d < E.nt) (h : indexQ E.P xt (s.ev x) (s.ev y) R s d) : ∃ v, QJ E ⟨some d, .index xt x y, t, pos, after, g⟩ s v none ∧ R (s.set d v) := by
  unfold indexQ at h
  split at h
  · rename_i h1 h2; exact ⟨_, q_indexStr hn (of_isStr h.1.1) h1 h2 h.1.2, h.2⟩
  · exact h.elim
theorem of_fdOk {P : Program} {t : TypeId} {f : Nat} (h : fdOk P t f = true) : ∃ n g, fdT P t f = some (fdO P t f, n, g) ∧ n ≠ 0 := by
  unfold fdOk at h
  split at h
  · rename_i o n g e; exact ⟨n, g, by simp [fdO, e], by simpa using h⟩
  · cases h
theorem of_fieldAddr {x : Operand} {xt : TypeId} {f : Nat} (hn : d < E.nt) (h : fieldAddrQ E.P xt (s.ev x) f R s d) : ∃ v, QJ E ⟨some d, .fieldAddr xt x f, t, pos, after, g⟩ s v none ∧ R (s.set d v) := by
  unfold fieldAddrQ at h
  split at h
  · rename_i h1; obtain ⟨n, gg, h2, h3⟩ := of_fdOk h.1; exact ⟨_, q_fieldSh hn h2 h3 h1, h.2⟩
  · rename_i h1; obtain ⟨n, gg, h2, h3⟩ := of_fdOk h.1.1; exact ⟨_, q_fieldOwn hn h2 h3 h1 h.1.2.1 h.1.2.2, h.2⟩
  · exact h.elim
theorem of_load {x : Operand} {xt : TypeId} (hn : d < E.nt) (h : loadQ E.P xt (s.ev x) R s d) : ∃ v, QJ E ⟨some d, .load xt x, t, pos, after, g⟩ s v none ∧ R (s.set d v) := by
  unfold loadQ at h
  split at h
  · rename_i cs h1
    split at h
    · rename_i h2
      have ha : agT E.P xt = some true := by unfold ldA at h2; split at h2 <;> simp_all
      obtain ⟨⟨h3, h4⟩, h5⟩ := h
      obtain ⟨z, hz⟩ := Option.isSome_iff_exists.1 h3
      exact ⟨_, q_loadShAgg hn ha (by simp [szN, hz]) h1 h4, h5⟩
    · obtain ⟨⟨h3, h4⟩, h5⟩ := h
      have ha : agT E.P xt = some false := by unfold ldS at h3; split at h3 <;> simp_all
      exact ⟨_, q_loadSh hn ha h1 (c := cs.getD 0 .junk) (by simp [List.getD, List.getElem?_eq_getElem h4]), h5⟩
  · rename_i h1
    split at h
    · rename_i h2
      have ha : agT E.P xt = some true := by unfold ldA at h2; split at h2 <;> simp_all
      obtain ⟨⟨h3, h4, h5, h5'⟩, h6⟩ := h
      obtain ⟨z, hz⟩ := Option.isSome_iff_exists.1 h3
      have hz' : szN E.P xt = z := by simp [szN, hz]
      exact ⟨_, q_loadView hn (by rw [h1]; simp only [viewOf, h4, ha, hz, if_true]; rw [hz'] at h5 h5'; rw [if_pos ⟨h5, h5'⟩]), by rw [hz'] at h6; exact h6⟩
    · obtain ⟨⟨h3, h4, h5⟩, h6⟩ := h
      have ha : agT E.P xt = some false := by unfold ldS at h3; split at h3 <;> simp_all
      exact ⟨_, q_loadOwn hn ha h1 h4 h5, h6⟩
  · exact h.elim
theorem of_nck {x : Operand} (hn : d < E.nt) (h : nilQ (s.ev x) R s d) : ∃ v, QJ E ⟨some d, .nilCheck x, t, pos, after, g⟩ s v none ∧ R (s.set d v) := by
  unfold nilQ at h
  split at h
  · rename_i cs hx
    refine ⟨_, .val rfl hn (fun s' M G a w hle hX => ?_), h⟩
    have hv := hX.evLe hle x
    rw [hx] at hv
    obtain ⟨b, off, hv', _, _⟩ := hv.boxAt
    refine ⟨a.eval x, w, ?_, Ext.refl _ _, hv⟩
    unfold execOp
    simp [hv']
  · rename_i r p o hx
    obtain ⟨⟨hm, hc⟩, h⟩ := h
    refine ⟨_, .val rfl hn (fun s' M G a w hle hX => ?_), h⟩
    have hv := hX.evLe hle x
    rw [hx] at hv
    refine ⟨a.eval x, w, ?_, Ext.refl _ _, hv⟩
    cases hA : nodeOf s r p with
    | none => rw [hA] at hm; cases hm
    | some A =>
      rw [hA] at hm hc
      obtain ⟨T, N, hM, hN, rfl, hsT, hsN⟩ := nodeOf_spec hX (hle.node hA)
      rcases memN_spec hsN hm with ⟨sz, rfl⟩ | ⟨b, C, e, h1, h2, h3, h4, h5, h6, _⟩
      · simp [HT.erase, cellsOf] at hc
      · have hp := ptr_val hX hv hM hN h1
        unfold execOp
        simp [hp]
  · exact h.elim
theorem of_store {x y : Operand} {xt : TypeId} (h : storeQ E.P xt (s.ev x) (s.ev y) R s) : LJ E ⟨none, .store xt x y, t, pos, after, g⟩ s R := by
  unfold storeQ at h
  have tree : ∀ {r p o}, s.ev x = .ptr r p o → treeQ E.P xt r p o R (closeVs s (s.ev y).parts) → LJ E ⟨none, .store xt x y, t, pos, after, g⟩ s R := fun h1 h => by
    unfold treeQ at h
    split at h
    · rename_i As s1 hc
      obtain ⟨⟨h2, h3, h4, h5, h6⟩, h7⟩ := h
      have hl := nilTs_len (nzT E.P xt) As
      exact l_storeTree (nilTs_le (nzT E.P xt) As) h1 hc h2 (by rw [hl]; exact h3) (by rw [hl]; exact h4) h5 (by rw [hl]; exact h6) h7
    · exact h.elim
  split at h
  · rename_i h1 h2; exact tree h1 (by rw [h2]; exact h)
  · rename_i h1 h2; exact tree h1 (by rw [h2]; exact h)
  · rename_i h1 h2; exact tree h1 (by rw [h2]; exact h)
  · rename_i h1 _ _ _; exact l_store h.1.1.1 h1 h.1.1.2.1 h.1.1.2.2 h.1.2 h.2
  · exact h.elim
theorem of_box {x : Operand} {xt : TypeId} (hn : d < E.nt) (h : boxQ d R (closeVs s (s.ev x).parts)) : LJ E ⟨some d, .box xt x, t, pos, after, g⟩ s R := by
  unfold boxQ at h
  split at h
  · rename_i As s1 hc; exact l_box hn hc h.1 h.2
  · exact h.elim
theorem of_alloc {xt : TypeId} (hn : d < E.nt) (h : allocQ E.P xt d R s) : LJ E ⟨some d, .alloc xt, t, pos, after, g⟩ s R := by
  unfold allocQ at h
  split at h
  · rename_i zs hz; exact l_alloc (nilTs_le _ _) hn hz h
  · exact h.elim
theorem of_make {x y : Operand} {xt : TypeId} (hn : d < E.nt) (h : makeQ E.P xt (s.ev x) (s.ev y) R s d) : LJ E ⟨some d, .makeSlice xt x y, t, pos, after, g⟩ s R := by
  unfold makeQ at h
  split at h
  · rename_i k n k' m h1 h2
    obtain ⟨⟨h3, h4, rfl, h5, h6⟩, h7⟩ := h
    obtain ⟨n, rfl⟩ := Int.eq_ofNat_of_zero_le h4
    have : ∃ zs b, zcT E.P xt = some (zs, b) ∧ zsN E.P xt = zs ∧ byN E.P xt = b ∧ 0 < zs.length ∧ zs.all (·.oneCell') = true := by
      unfold zOk at h3
      split at h3
      · rename_i zs b e
        simp only [Bool.and_eq_true, decide_eq_true_eq] at h3
        exact ⟨zs, b, e, by simp [zsN, e], by simp [byN, e], h3.1, h3.2⟩
      · cases h3
    obtain ⟨zs, b, e1, e2, e3, e4, e5⟩ := this
    rw [e2] at h7
    rw [e3] at h5
    exact LJ.of_q (q_makeN (nilRq_le _ _ _) hn e1 h1 h2 e4 (by have : ((b * n : Nat) : Int) ≤ 281474976710656 := (by rw [Int.natCast_mul]; exact h5); omega) (by omega)) h7
  · exact h.elim
theorem of_field {x : Operand} {xt : TypeId} {f : Nat} (hn : d < E.nt) (h : fieldQ E.P xt (s.ev x) f R s d) : ∃ v, QJ E ⟨some d, .field xt x f, t, pos, after, g⟩ s v none ∧ R (s.set d v) := by
  unfold fieldQ at h
  split at h
  · rename_i cs h1
    split at h
    · rename_i h2
      obtain ⟨h3, h4⟩ := h
      have : ∃ n, fdT E.P xt f = some (fdO E.P xt f, n, false) := by
        unfold fdS at h2
        split at h2
        · rename_i o n g e
          exact ⟨n, by simp [fdO, e] at *; exact h2⟩
        · cases h2
      obtain ⟨n, hn'⟩ := this
      exact ⟨_, q_field hn hn' h1 (c := cs.getD (fdO E.P xt f) .junk) (by simp [List.getD, List.getElem?_eq_getElem h3]), h4⟩
    · rename_i h2
      obtain ⟨⟨h3, h5⟩, h4⟩ := h
      have : fdT E.P xt f = some (fdO E.P xt f, fdN E.P xt f, true) := by
        unfold fdS at h2
        unfold fdOk at h3
        split at h3
        · rename_i o n g e
          simp only [e, Bool.not_eq_true', Bool.not_eq_false] at h2
          simp [fdO, fdN, e, h2]
        · cases h3
      refine ⟨_, .val rfl hn (fun s' M G a w hle hX => ?_), h4⟩
      obtain ⟨fs, z, g1, g2, g3, g4, g5⟩ := fdT_spec this
      have hv := hX.evLe hle x
      rw [h1] at hv
      generalize hav : a.eval x = v at hv
      cases hv with
      | agg _ us hl hh =>
        refine ⟨.agg ((us.drop (fdO E.P xt f)).take (fdN E.P xt f)).toArray, w, ?_, Ext.refl _ _, .agg _ _ (by simp [hl]) (fun i c u e1 e2 => ?_)⟩
        · have hbd : fdO E.P xt f + fdN E.P xt f ≤ us.length := by rw [hl]; exact h5
          have hex : us.toArray.extract (fdO E.P xt f) (fdO E.P xt f + fdN E.P xt f) = ((us.drop (fdO E.P xt f)).take (fdN E.P xt f)).toArray := by
            apply Array.ext'
            simp [List.extract_eq_take_drop]
          simp [execOp, hav, Instr.field, run_underlying g1, g2, asAgg, part, run_agg g5, g3, run_size g4, hex]
        · by_cases hi : i < fdN E.P xt f
          · rw [List.getElem?_take_of_lt hi, List.getElem?_drop] at e1 e2
            exact hh _ c u e1 e2
          · rw [List.getElem?_eq_none (by rw [List.length_take]; omega)] at e1; cases e1
  · exact h.elim
theorem of_extract {x : Operand} {i : Nat} (hn : d < E.nt) (h : extractQ (s.ev x) i R s d) : ∃ v, QJ E ⟨some d, .extract x i, t, pos, after, g⟩ s v none ∧ R (s.set d v) := by
  unfold extractQ at h
  split at h
  · rename_i cs h1; exact ⟨_, q_extract hn h1 (c := cs.getD i .junk) (by simp [List.getD, List.getElem?_eq_getElem h.1]), h.2⟩
  · exact h.elim
end

theorem of_zOk {P : Program} {t : TypeId} (h : zOk P t = true) : zcT P t = some (zsN P t, byN P t) ∧ 0 < (zsN P t).length ∧ slSz P t = (zsN P t).length ∧ slT P t = some (zsN P t).length := by
  unfold zOk at h
  split at h
  · rename_i zs b e
    simp only [Bool.and_eq_true, decide_eq_true_eq] at h
    obtain ⟨_, _, _, _, _, _, _, _, _, h8⟩ := zcT_spec e
    have e1 : zsN P t = zs := by simp [zsN, e]
    have e2 : byN P t = b := by simp [byN, e]
    rw [e1, e2]
    exact ⟨e, h.1, by simp [slSz, h8], h8⟩
  · cases h
theorem cellsOk_mem {s : ASt} : ∀ {l : List (Nat × Operand)}, cellsOk s l → ∀ p ∈ l, cellOk s (s.ev p.2)
  | [], _, p, h => by simp at h
  | (i, x) :: l, hc, p, h => by
    rcases List.mem_cons.1 h with rfl | h
    · exact hc.1
    · exact cellsOk_mem hc.2 p h
theorem partsA_eq {s : ASt} : ∀ (l : List (Nat × Operand)), partsA s l = l.map fun p => (p.1, (s.ev p.2).parts)
  | [] => rfl
  | (i, x) :: l => by simp [partsA, partsA_eq l]
section
variable {E : Env} {s : ASt} {d : Nat} {t : TypeId} {pos : String} {after : Array Edge} {g : Option (Nat × Bool)} {R : ASt → Prop}
theorem of_build {xt : TypeId} {parts : List (Nat × Operand)} (hn : d < E.nt) (h : buildQ E.P xt parts R s d) : ∃ v, QJ E ⟨some d, .build xt parts.toArray, t, pos, after, g⟩ s v none ∧ R (s.set d v) := by
  unfold buildQ at h
  split at h
  · rename_i zs hz
    obtain ⟨⟨h1, h2⟩, h3⟩ := h
    unfold buildR at h3
    split at h3
    · rename_i r hr
      rw [partsA_eq] at hr
      exact ⟨_, q_build hn h1 hz (cellsOk_mem h2) hr, h3⟩
    · exact h3.elim
  · exact h.elim
theorem of_buildSlice {xt : TypeId} {len : Nat} {parts : List (Nat × Operand)} (hn : d < E.nt) (h : buildSliceQ E.P xt len parts R s d) : LJ E ⟨some d, .buildSlice xt len parts.toArray, t, pos, after, g⟩ s R := by
  obtain ⟨⟨h1, rfl, h3, h4⟩, h5⟩ := h
  obtain ⟨z1, z2, z3, z4⟩ := of_zOk h1
  unfold rowQ at h5
  split at h5
  · rename_i As s1 hc
    rw [z3] at h3 h4 h5
    exact l_buildSlice (nilRs_le _ _ _) hn z1 z2 h4 h3 hc h5
  · exact h5.elim
theorem of_slSz {P : Program} {t : TypeId} (h : (slT P t).isSome = true) : slT P t = some (slSz P t) := by
  obtain ⟨n, hn⟩ := Option.isSome_iff_exists.1 h
  simp [slSz, hn]
theorem of_slice {xt : TypeId} {x : Operand} {lo hi : Option Operand} (hn : d < E.nt) (h : sliceQ E.P xt (s.ev x) lo hi R s d) : ∃ v, QJ E ⟨some d, .slice xt x lo hi none, t, pos, after, g⟩ s v none ∧ R (s.set d v) := by
  unfold sliceQ at h
  split at h
  · rename_i r p off len hx
    unfold sliceSl at h
    split at h
    · rename_i l h' e1 e2
      obtain ⟨⟨⟨h1, n, cs, h2, h3⟩, h4, h5, h6⟩, h7⟩ := h
      exact ⟨_, q_sliceOwn hn (of_slSz h1) hx h2 h3 e1 e2 h4 h5 h6, h7⟩
    · exact h.elim
  · rename_i sz n cs hx
    unfold sliceSh at h
    split at h
    · rename_i l h' e1 e2
      obtain ⟨⟨h1, h4, h5, h6⟩, h7⟩ := h
      exact ⟨_, q_sliceSh hn h1 hx e1 e2 h4 h5 h6, h7⟩
    · exact h.elim
  · rename_i b hx
    unfold sliceSt at h
    split at h
    · rename_i l h' e1 e2
      obtain ⟨⟨h1, h4, h5, h6⟩, h7⟩ := h
      exact ⟨_, q_sliceStr hn (of_isStr h1) hx e1 e2 h4 h5 h6, h7⟩
    · exact h.elim
  · exact h.elim
theorem close_slN {r : Nat} {p : List Nat} {len sz n : Nat} {cs : List AV} (hA : nodeOf s r p = some (.row true sz n cs)) (hl : len ≤ n) :
    CloseJ E s (.sl r p 0 len) (.row true sz len (cs.take (len * sz))) (s.updM r p .junk) := by
  unfold nodeOf at hA
  cases hm : s.m r with
  | none => rw [hm] at hA; cases hA
  | some A => rw [hm] at hA; exact close_sl hm hA hl
theorem of_appB {xt : TypeId} {x y : Operand} {k : Nat} {cs : List AV} {s1 : ASt} (hn : d < E.nt) (hx : CloseJ E s (s.ev x) (.row true (slSz E.P xt) k cs) s1) (h : appB E.P xt (s.ev y) k cs R s s1 d) :
    LJ E ⟨some d, .call { callee := .builtin .append, args := #[x, y], argTypes := #[xt, xt] }, t, pos, after, g⟩ s R := by
  unfold appB at h
  split at h
  · rename_i hy
    obtain ⟨⟨h1, h2, h3⟩, h4⟩ := h
    obtain ⟨z1, z2, z3, z4⟩ := of_zOk h1
    rw [z3] at hx h4
    exact l_append (m := 0) (es := []) hn z1 z2 hx (by rw [hy]; exact yj_nil) h2 h3 (by simpa using h4)
  · rename_i sz m es hy
    obtain ⟨⟨⟨h1, h2, h3⟩, h5, h6, h7⟩, h4⟩ := h
    obtain ⟨z1, z2, z3, z4⟩ := of_zOk h1
    rw [z3] at hx h4 h5
    subst h5
    exact l_append hn z1 z2 hx (by rw [hy]; exact yj_sh h6 h7) h2 h3 h4
  · rename_i r p off m hy
    unfold appRow at h
    split at h
    · rename_i sz n es hA
      obtain ⟨⟨⟨h1, h2, h3⟩, h5, h6, h7, h8⟩, h4⟩ := h
      obtain ⟨z1, z2, z3, z4⟩ := of_zOk h1
      rw [z3] at hx h4 h5
      subst h5
      have hes : (if off = 0 ∧ m = n then es else (es.drop (off * (zsN E.P xt).length)).take (m * (zsN E.P xt).length)) = (es.drop (off * (zsN E.P xt).length)).take (m * (zsN E.P xt).length) := by
        split
        · rename_i hc
          obtain ⟨rfl, rfl⟩ := hc
          simp [← h8]
        · rfl
      rw [hes] at h4 h7
      split at h4
      · rename_i hl
        exact l_append hn z1 z2 hx (by rw [hy]; exact yj_own hA h6 hl h7) h2 h3 h4
      · unfold appMv at h4
        split at h4
        · rename_i sz' n' es' hA1
          obtain ⟨⟨rfl, rfl, rfl, q2, rfl⟩, q4⟩ := h4
          rw [z3] at q2 q4
          subst q2
          have he : (es'.drop (0 * (zsN E.P xt).length)).take (n' * (zsN E.P xt).length) = es' := by simp [← h8]
          rw [he] at h7
          have hy2 : CloseJ E s1 (s.ev y) (.row true (zsN E.P xt).length n' es') (s1.updM r p .junk) := by
            rw [hy]
            have := close_slN (E := E) hA1 (Nat.le_refl n')
            rw [← h8, List.take_length] at this
            exact this
          exact l_appendMove hn z1 z2 (close_cons hx (close_cons hy2 close_nil)) h7 h2 h3 q4
        · exact h4.elim
    · exact h.elim
  · exact h.elim
theorem sub_take (l : List HT) (n : Nat) : List.Sublist ((l.take n).flatMap HT.blocks) (l.flatMap HT.blocks) := by
  conv => rhs; rw [← List.take_append_drop n l]
  rw [List.flatMap_append]
  exact List.sublist_append_left _ _
theorem l_appSelf {xt : TypeId} {x y : Operand} {r k off m n : Nat} {p : List Nat} {cs : List AV} {zs : List Value} {by_ : Nat} (hd : d < E.nt) (hz : zcT E.P xt = some (zs, by_)) (hz0 : 0 < zs.length) (hx : s.ev x = .sl r p 0 k) (hy : s.ev y = .sl r p off m)
    (hA : nodeOf s r p = some (.row true zs.length n cs)) (h1 : off + m ≤ n) (h2 : k ≤ off) (hf : fitCs ((cs.drop (off * zs.length)).take (m * zs.length)) = true) (b1 : k + m ≤ 9223372036854775807) (b2 : (k + m) * by_ ≤ 140737488355328)
    (hR : R ((s.updM r p .junk).new d (.sl d [] 0 (k + m)) (.row true zs.length (k + m) (cs.take (k * zs.length) ++ (cs.drop (off * zs.length)).take (m * zs.length))))) :
    LJ E ⟨some d, .call { callee := .builtin .append, args := #[x, y], argTypes := #[xt, xt] }, t, pos, after, g⟩ s R := by
  rintro a w ⟨M, G, hX⟩
  obtain ⟨T, N, hM, hN, hNe, hsT, hsN⟩ := nodeOf_spec hX hA
  obtain ⟨t1, t2, t3, t4⟩ := hX.take hM hN
  have hv := hX.ev x
  have hv2 := hX.ev y
  rw [hx] at hv
  rw [hy] at hv2
  generalize hav : a.eval x = v at hv
  generalize hav2 : a.eval y = v2 at hv2
  generalize hszE : zs.length = sz at *
  cases hv with
  | sl _ _ _ _ _ q q0 =>
  cases hv2 with
  | sl _ _ _ _ _ qy qy0 =>
    generalize hNN : N = N' at hsN
    cases hsN with
    | row b sz' n' cap cs' C e0 g1 g2 g3 g4 g5 g6 g7 g8 =>
      subst hNN
      simp only [HT.erase, AV.row.injEq, true_and] at hNe
      obtain ⟨rfl, rfl, hcs⟩ := hNe
      obtain ⟨A0, c0, rfl, q2, q3, q4, q5⟩ := q T hM b sz' n' cap cs' hN (by omega)
      obtain ⟨rfl, rfl⟩ := q5 rfl
      obtain ⟨A1, c1, rfl, y2, y3, y4, y5⟩ := qy T hM b sz' n' c0 cs' hN h1
      have hle2 : off * sz' + m * sz' ≤ cs'.length := by rw [g2, ← Nat.add_mul]; exact Nat.mul_le_mul_right _ h1
      have hle3 : k * sz' ≤ off * sz' := Nat.mul_le_mul_right _ h2
      have her : HT.erases ((cs'.drop (off * sz')).take (m * sz')) = (cs.drop (off * sz')).take (m * sz') := by rw [← hcs]; simp [HT.erases_eq, List.map_take, List.map_drop]
      have hek : HT.erases (cs'.take (k * sz')) = cs.take (k * sz') := by rw [← hcs]; simp [HT.erases_eq, List.map_take]
      simp only [HT.blocks, HT.blockss_eq, List.nodup_cons] at t3
      have hsp : List.Sublist ((cs'.take (k * sz')).flatMap HT.blocks ++ ((cs'.drop (off * sz')).take (m * sz')).flatMap HT.blocks) (cs'.flatMap HT.blocks) := by
        have e : cs'.flatMap HT.blocks = (cs'.take (off * sz')).flatMap HT.blocks ++ (cs'.drop (off * sz')).flatMap HT.blocks := by rw [← List.flatMap_append, List.take_append_drop]
        rw [e]
        refine List.Sublist.append ?_ ?_
        · have : cs'.take (k * sz') = (cs'.take (off * sz')).take (k * sz') := by rw [List.take_take, Nat.min_eq_left hle3]
          rw [this]
          exact sub_take _ _
        · exact sub_take _ _
      have hnd := hsp.nodup t3.2
      rw [List.nodup_append] at hnd
      have hsb : ∀ z, z ∈ (cs'.take (k * sz')).flatMap HT.blocks ∨ z ∈ ((cs'.drop (off * sz')).take (m * sz')).flatMap HT.blocks → z ∈ cs'.flatMap HT.blocks := fun z hz => hsp.subset (List.mem_append.2 hz)
      have hfr : ∀ z, z ∈ cs'.flatMap HT.blocks → _ := fun z hz => t4 z (by simp only [HT.blocks, HT.blockss_eq]; exact List.mem_cons_of_mem _ hz)
      refine append_core (x := x) (y := y) t1 hd hz (by omega) (T := .row b sz' k c0 (cs'.take (k * sz'))) (Vs := (cs'.drop (off * sz')).take (m * sz')) (k := k) (m := m) (cs := cs.take (k * sz')) (a := a)
        (.row _ _ _ _ _ C e0 g1 (by rw [List.length_take]; omega) (by omega) g4 g5 g6 (fun i K hi => g7 i K (by rw [List.getElem?_take] at hi; split at hi; exact hi; cases hi)) (fun i K hi => g8 i K (by rw [List.getElem?_take] at hi; split at hi; exact hi; cases hi)))
        (by rw [HT.erase, hek, hszE]) (by rw [hav]; rfl) (by simp only [HT.blocks, HT.blockss_eq, List.nodup_cons]; exact ⟨fun h => t3.1 (hsb _ (.inl h)), hnd.1⟩)
        (fun z hz => by
          simp only [HT.blocks, HT.blockss_eq, List.mem_cons] at hz
          rcases hz with rfl | hz
          · exact t4 _ (by simp [HT.blocks])
          · exact hfr z (hsb z (.inl hz)))
        (A := A1) (c := c1) hav2 (by rw [List.length_take, List.length_drop, hszE]; omega) (fun V hV => by
          obtain ⟨i, hi⟩ := List.getElem?_of_mem (List.mem_of_mem_drop (List.mem_of_mem_take hV))
          refine ⟨g8 i V hi, (fit_val (g8 i V hi) (fitCs_mem.1 hf _ ?_)).1⟩
          rw [← her, HT.erases_eq]; exact List.mem_map.2 ⟨V, hV, rfl⟩) hnd.2.1 (fun z hz => hfr z (hsb z (.inr hz)))
        (fun z hz hz' => by
          simp only [HT.blocks, HT.blockss_eq, List.mem_cons] at hz'
          rcases hz' with rfl | hz'
          · exact t3.1 (hsb _ (.inr hz))
          · exact hnd.2.2 z hz' z hz rfl)
        (fun j V hj => by
          have hjl : j < m * sz' := by
            have := (List.getElem?_eq_some_iff.1 hj).1
            rw [List.length_take] at this; omega
          have hm0 : 0 < m := by
            rcases Nat.eq_zero_or_pos m with h | h
            · subst h; simp at hjl
            · exact h
          rw [List.getElem?_take_of_lt hjl, List.getElem?_drop] at hj
          rcases y4 with y4 | y4
          · omega
          · refine ⟨_, y4, ?_⟩
            rw [add0]
            simp [World.cell?, g1, g7 _ V hj]) b1 b2 (fun a' w' h => ⟨_, h, ?_⟩)
      rw [her, hszE]
      exact hR
    | nilrow sz' =>
      subst hNN
      simp only [HT.erase, AV.row.injEq, true_and] at hNe
      obtain ⟨rfl, rfl, rfl⟩ := hNe
      have e1 := q0 T hM sz' hN (by omega)
      have e2 := qy0 T hM sz' hN (by omega)
      obtain rfl : k = 0 := by omega
      obtain rfl : m = 0 := by omega
      subst e1; subst e2
      refine append_core (x := x) (y := y) t1 hd hz (by omega) (T := .nilrow sz') (Vs := []) (k := 0) (m := 0) (cs := []) (.nilrow _) (by rw [HT.erase, hszE]) (by rw [hav]; rfl) (by simp [HT.blocks]) (by simp [HT.blocks]) (A := none) (c := 0) hav2 (by simp) (by simp) (by simp) (by simp) (by simp) (by simp) b1 b2 (fun a' w' h => ⟨_, h, ?_⟩)
      simpa [HT.erases, hszE] using hR
    | leaf a' v' ha _ => subst hNN; cases a' with
      | row o _ _ _ => cases o <;> simp_all [HT.erase, AV.leafOk]
      | _ => simp_all [HT.erase, AV.leafOk]
    | box => subst hNN; simp [HT.erase] at hNe
    | agg => subst hNN; simp [HT.erase] at hNe
    | tup => subst hNN; simp [HT.erase] at hNe
theorem of_append {xt : TypeId} {x y : Operand} (hn : d < E.nt) (h : appQ E.P xt (s.ev x) (s.ev y) R s d) : LJ E ⟨some d, .call { callee := .builtin .append, args := #[x, y], argTypes := #[xt, xt] }, t, pos, after, g⟩ s R := by
  unfold appQ at h
  split at h
  · rename_i hx
    exact of_appB hn (by rw [hx]; exact close_nilslice) h
  · rename_i r p off k hx
    unfold appA at h
    split at h
    · rename_i sz n cs hA
      obtain ⟨⟨rfl, rfl, h3, h5⟩, h4⟩ := h
      have hcs : (if k = n then cs else cs.take (k * slSz E.P xt)) = cs.take (k * slSz E.P xt) := by
        split
        · rename_i e; subst e; simp [← h5]
        · rfl
      rw [hcs] at h4
      unfold appC at h4
      split at h4
      · rename_i r' p' off' m' hy
        split at h4
        · rename_i hc
          obtain ⟨_, rfl, rfl⟩ := hc
          obtain ⟨⟨⟨c1, c2, c3⟩, c4, c5, c6⟩, c7⟩ := h4
          obtain ⟨z1, z2, z3, z4⟩ := of_zOk c1
          have hes : (if off' = 0 ∧ m' = n then cs else (cs.drop (off' * slSz E.P xt)).take (m' * slSz E.P xt)) = (cs.drop (off' * slSz E.P xt)).take (m' * slSz E.P xt) := by
            split
            · rename_i hc
              obtain ⟨rfl, rfl⟩ := hc
              simp [← h5]
            · rfl
          rw [hes] at c6 c7
          rw [z3] at c6 c7 hA
          exact l_appSelf hn z1 z2 hx hy hA c4 c5 c6 c2 c3 c7
        · rename_i hy' _
          exact of_appB hn (by rw [hx]; exact close_slN hA h3) (by rw [hy]; exact h4)
      · exact of_appB hn (by rw [hx]; exact close_slN hA h3) h4
    · exact h.elim
  · exact h.elim
theorem of_assign {ty : TypeId} {x : Operand} (hn : d < E.nt) (h : assignQ E.P ty (s.ev x) R s d) : LJ E ⟨some d, .assign x, t, pos, after, g⟩ s R := by
  unfold assignQ at h
  split at h
  · rename_i hx
    exact l_assignNil hn hx h
  · rename_i r off len hx
    split at h
    · rename_i hc
      exact l_assignRen hn hx hc.1 hc.2 h
    · exact LJ.of_q (q_assign hn) (by rw [hx]; exact h)
  · exact LJ.of_q (q_assign hn) h
end

/-- What is to be shown of an operation. -/
def opq (E : Env) (o : Oper) (R : ASt → Prop) (s : ASt) : Prop := LJ E o s R
def qv (E : Env) (o : Oper) (d : Nat) (R : ASt → Prop) (s : ASt) : Prop := match o.op with
  | .move x => d < E.nt ∧ R (s.set d (s.ev x))
  | .assign x => d < E.nt ∧ R (s.set d (s.ev x))
  | .pick c a b => d < E.nt ∧ pickQ (s.ev c) (s.ev a) (s.ev b) R s d
  | .binOp op t x y _ => d < E.nt ∧ binQ E.P op t (s.ev x) (s.ev y) R s d
  | .unOp op _ x => d < E.nt ∧ unQ op (s.ev x) R s d
  | .convert a b x => d < E.nt ∧ convQ E.P a b (s.ev x) R s d
  | .call { callee := .builtin .len, args := ⟨[x]⟩, argTypes := ⟨[t]⟩ } => d < E.nt ∧ lenQ E.P t (s.ev x) R s d
  | .call { callee := .builtin .max, args := ⟨[x, y]⟩, .. } => d < E.nt ∧ maxQ (s.ev x) (s.ev y) R s d
  | .call { callee := .builtin .min, args := ⟨[x, y]⟩, .. } => d < E.nt ∧ minQ (s.ev x) (s.ev y) R s d
  | .indexAddr t x i => d < E.nt ∧ indexAddrQ E.P t (s.ev x) (s.ev i) R s d
  | .index t x i => d < E.nt ∧ indexQ E.P t (s.ev x) (s.ev i) R s d
  | .fieldAddr t x f => d < E.nt ∧ fieldAddrQ E.P t (s.ev x) f R s d
  | .load t x => d < E.nt ∧ loadQ E.P t (s.ev x) R s d
  | .nilCheck x => d < E.nt ∧ nilQ (s.ev x) R s d
  | .field t x f => d < E.nt ∧ fieldQ E.P t (s.ev x) f R s d
  | .extract x i => d < E.nt ∧ extractQ (s.ev x) i R s d
  | .makeFunc (.func f) ⟨[]⟩ ⟨caps⟩ => d < E.nt ∧ R (s.set d (.fn f (caps.map s.ev)))
  | .makeSlice t x y => d < E.nt ∧ makeQ E.P t (s.ev x) (s.ev y) R s d
  | .box t x => d < E.nt ∧ boxQ d R (closeVs s (s.ev x).parts)
  | .alloc t => d < E.nt ∧ allocQ E.P t d R s
  | .build t ⟨parts⟩ => d < E.nt ∧ buildQ E.P t parts R s d
  | .buildSlice t len ⟨parts⟩ => d < E.nt ∧ buildSliceQ E.P t len parts R s d
  | .slice t x lo hi none => d < E.nt ∧ sliceQ E.P t (s.ev x) lo hi R s d
  | .call { callee := .builtin .append, args := ⟨[x, y]⟩, argTypes := ⟨[t, t']⟩ } => (d < E.nt ∧ t' = t) ∧ appQ E.P t (s.ev x) (s.ev y) R s d
  | _ => opq E o R s
def qn (E : Env) (o : Oper) (R : ASt → Prop) (s : ASt) : Prop := match o.op with
  | .store t x y => storeQ E.P t (s.ev x) (s.ev y) R s
  | _ => opq E o R s
/-- A place in a row; a slot that holds a bare value stops the walk: it may be a row that is lent (opq_relit). -/
def idxS (E : Env) (o : Oper) (t : TypeId) (x i : AV) (R : ASt → Prop) (s : ASt) (d : Nat) : Prop := match x with
  | .lit _ => opq E o R s
  | _ => d < E.nt ∧ indexAddrQ E.P t x i R s d
def qs (E : Env) (o : Oper) (d : Nat) (R : ASt → Prop) (s : ASt) : Prop := match o.op with
  | .assign x => d < E.nt ∧ assignQ E.P o.type (s.ev x) R s d
  | .binOp op t x y _ => d < E.nt ∧ binS E.P op t (s.ev x) (s.ev y) R s d
  | .indexAddr t x i => idxS E o t (s.ev x) (s.ev i) R s d
  | _ => qv E o d R s
def st1 (E : Env) (o : Oper) (R : ASt → Prop) (s : ASt) : Prop := match o.dst with
  | some d => qs E o d R s
  | none => qn E o R s

theorem of_st1 {E : Env} {o : Oper} {R : ASt → Prop} {s : ASt} (h : st1 E o R s) : LJ E o s R := by
  unfold st1 at h
  split at h
  · rename_i d hd
    obtain ⟨d0, op, t, pos, after, g⟩ := o
    simp only at hd
    subst hd
    have fin : (∃ v, QJ E ⟨some d, op, t, pos, after, g⟩ s v none ∧ R (s.set d v)) → LJ E ⟨some d, op, t, pos, after, g⟩ s R := fun ⟨v, h1, h2⟩ => LJ.of_q h1 h2
    unfold qs at h
    split at h
    · rename_i e; simp only at e; subst e; exact of_assign h.1 h.2
    · rename_i e; simp only at e; subst e; exact of_binS h.1 h.2
    · rename_i e; simp only at e; subst e
      unfold idxS at h
      split at h
      · exact h
      · exact fin (of_indexAddr h.1 h.2)
    unfold qv at h
    split at h
    · rename_i e; simp only at e; subst e; exact fin ⟨_, q_move h.1, h.2⟩
    · rename_i e; simp only at e; subst e; exact fin ⟨_, q_assign h.1, h.2⟩
    · rename_i e; simp only at e; subst e; exact fin (of_pick h.1 h.2)
    · rename_i e; simp only at e; subst e; exact fin (of_bin h.1 h.2)
    · rename_i e; simp only at e; subst e; exact fin (of_un h.1 h.2)
    · rename_i e; simp only at e; subst e; exact fin (of_conv h.1 h.2)
    · rename_i e; simp only at e; subst e; exact fin (of_len h.1 h.2)
    · rename_i e; simp only at e; subst e; exact fin (of_max h.1 h.2)
    · rename_i e; simp only at e; subst e; exact fin (of_min h.1 h.2)
    · rename_i e; simp only at e; subst e; exact fin (of_indexAddr h.1 h.2)
    · rename_i e; simp only at e; subst e; exact fin (of_index h.1 h.2)
    · rename_i e; simp only at e; subst e; exact fin (of_fieldAddr h.1 h.2)
    · rename_i e; simp only at e; subst e; exact fin (of_load h.1 h.2)
    · rename_i e; simp only at e; subst e; exact fin (of_nck h.1 h.2)
    · rename_i e; simp only at e; subst e; exact fin (of_field h.1 h.2)
    · rename_i e; simp only at e; subst e; exact fin (of_extract h.1 h.2)
    · rename_i e; simp only at e; subst e; exact fin ⟨_, q_makeFunc h.1, h.2⟩
    · rename_i e; simp only at e; subst e; exact of_make h.1 h.2
    · rename_i e; simp only at e; subst e; exact of_box h.1 h.2
    · rename_i e; simp only at e; subst e; exact of_alloc h.1 h.2
    · rename_i e; simp only at e; subst e; exact fin (of_build h.1 h.2)
    · rename_i e; simp only at e; subst e; exact of_buildSlice h.1 h.2
    · rename_i e; simp only at e; subst e; exact fin (of_slice h.1 h.2)
    · rename_i e; simp only at e; subst e; obtain ⟨⟨h1, h3⟩, h2⟩ := h; subst h3; exact of_append h1 h2
    · exact h
  · rename_i hd
    obtain ⟨d0, op, t, pos, after, g⟩ := o
    simp only at hd
    subst hd
    unfold qn at h
    split at h
    · rename_i e; simp only at e; subst e; exact of_store h
    · exact h

def skip1 (E : Env) (d : Option Tmp) (R : ASt → Prop) (s : ASt) : Prop := (∀ x, d = some x → x < E.nt) ∧ R (put s d (.lit Go.undef) none)
/-- An operation under a guard: 'v': what the guard gave, 'b': what it must be. -/
def GQ (E : Env) (v : AV) (b : Bool) (o : Oper) (R : ASt → Prop) (s : ASt) : Prop := ∃ c, v = .lit c ∧ ((c = .bool b ∧ st1 E o R s) ∨ (c ≠ .bool b ∧ skip1 E o.dst R s))

/-- The operations of a region, in the text's order; 'ds': the slots that they write. -/
def sq (E : Env) (ds : List (Option Tmp)) : List Oper → (ASt → Prop) → (ASt → Prop)
  | [] => fun k => k
  | o :: rest => fun k s => match o.guard with
    | none => st1 E o (sq E ds rest k) s
    | some (j, b) => match ds[j]? with
      | some (some d') => GQ E (s.t d') b o (sq E ds rest k) s
      | _ => False

theorem LJ.mono {E : Env} {o : Oper} {s : ASt} {k k' : ASt → Prop} (h : LJ E o s k) (hk : ∀ s, k s → k' s) : LJ E o s k' := fun a w hr =>
  Oper.wp_mono (fun a' w' ⟨s', h1, h2⟩ => ⟨s', h1, hk s' h2⟩) (h a w hr)

theorem sq_sound {E : Env} {ops : Array Oper} : ∀ {l : List Oper} {k : ASt → Prop} {s : ASt}, sq E (ops.toList.map (·.dst)) l k s → Seq E ops l k s
  | [], k, s, h => Seq.nil h
  | o :: rest, k, s, h => by
    simp only [sq] at h
    split at h
    · rename_i hg
      exact Seq.cons hg ((of_st1 h).mono fun s h => sq_sound h)
    · rename_i j b hg
      split at h
      · rename_i d hd
        have hd : (ops[j]?).bind (·.dst) = some d := by
          rw [List.getElem?_map, Array.getElem?_toList] at hd
          cases hx : ops[j]? with
          | none => simp [hx] at hd
          | some o' => simp only [hx, Option.map_some, Option.some.injEq] at hd; simp [hd]
        obtain ⟨c, hc, h1⟩ := h
        rcases h1 with ⟨rfl, h1⟩ | ⟨hcb, h1⟩
        · exact Seq.yes hg hd hc ((of_st1 h1).mono fun s h => sq_sound h)
        · exact Seq.no hg hd hc hcb h1.1 (sq_sound h1.2)
      · exact h.elim

/-- A test whose answer is 'v'. -/
def CBC (v : AV) (A B : ASt → Prop) (s : ASt) : Prop := ∃ b, v = .lit (.bool b) ∧ if b = true then A s else B s

/-- What is to be shown of a piece of code. -/
def aw (E : Env) : Code → (AX → ASt → Prop) → (ASt → Prop)
  | .skip => fun K => K .nm
  | .ret => fun K => K .rt
  | .exit id => fun K => K (.ex id)
  | .label _ => fun K => K .nm
  | .seq x y => fun K => aw E x (thenK (aw E y K) K)
  | .block id c => fun K => aw E c (blockK id K)
  | .cond c x y => fun K s => CBC (s.ev c) (aw E x K) (aw E y K) s
  | .region _ ops false => fun K => sq E (ops.toList.map (·.dst)) ops.toList (K .nm)
  | c => fun K => AWP E c K

theorem aw_sound {E : Env} : ∀ {c : Code} {K : AX → ASt → Prop} {s : ASt}, aw E c K s → AWP E c K s := by
  intro c
  induction c with
  | skip => intro K s h; exact AWP.skip h
  | ret => intro K s h; exact AWP.ret h
  | exit id => intro K s h; exact AWP.exit h
  | label l => intro K s h; exact AWP.label h
  | seq x y ihx ihy =>
    intro K s h
    exact AWP.seq ((ihx h).mono fun e s h => by cases e <;> first | exact ihy h | exact h)
  | block id c ih => intro K s h; exact AWP.block (ih h)
  | cond c x y ihx ihy =>
    intro K s h
    obtain ⟨b, h1, h2⟩ := h
    exact AWP.cond h1 (fun e => ihx (by rw [if_pos e] at h2; exact h2)) (fun e => ihy (by rw [if_neg (by simp [e])] at h2; exact h2))
  | region id ops draw =>
    intro K s h
    cases draw with
    | false =>
      obtain ⟨l⟩ := ops
      exact AWP.region (sq_sound h)
    | true => exact h
  | loop c _ => intro K s h; exact h
  | rangeFunc => intro K s h; exact h
  | scope c _ => intro K s h; exact h
  | goto l => intro K s h; exact h
  | refuse w => intro K s h; exact h

/-! ### The rules for 'simp only' -/
section
variable {E : Env} {K : AX → ASt → Prop} {k R A B : ASt → Prop} {s : ASt} {ds : List (Option Tmp)} {rest : List Oper}
theorem aw_skip : aw E .skip K s = K .nm s := nrfl rfl
theorem aw_ret : aw E .ret K s = K .rt s := nrfl rfl
theorem aw_exit {id : Nat} : aw E (.exit id) K s = K (.ex id) s := nrfl rfl
theorem aw_seq {x y : Code} : aw E (.seq x y) K s = aw E x (thenK (aw E y K) K) s := nrfl rfl
theorem aw_block {id : Nat} {c : Code} : aw E (.block id c) K s = aw E c (blockK id K) s := nrfl rfl
theorem aw_cond {c : Operand} {x y : Code} : aw E (.cond c x y) K s = CBC (s.ev c) (aw E x K) (aw E y K) s := nrfl rfl
theorem aw_region {id : Nat} {l : List Oper} : aw E (.region id l.toArray false) K s = sq E (l.map (·.dst)) l (K .nm) s := nrfl rfl
theorem thenK_nm : thenK k K .nm s = k s := nrfl rfl
theorem thenK_rt : thenK k K .rt s = K .rt s := nrfl rfl
theorem thenK_ex {i : Nat} : thenK k K (.ex i) s = K (.ex i) s := nrfl rfl
theorem blockK_nm {id : Nat} : blockK id K .nm s = K .nm s := nrfl rfl
theorem blockK_rt {id : Nat} : blockK id K .rt s = K .rt s := nrfl rfl
theorem blockK_ex {id i : Nat} : blockK id K (.ex i) s = if i = id then K .nm s else K (.ex i) s := nrfl rfl
theorem sq_nil : sq E ds [] k s = k s := nrfl rfl
theorem sq_none {d : Option Tmp} {op : Op} {t : TypeId} {pos : String} {after : Array Edge} : sq E ds (⟨d, op, t, pos, after, none⟩ :: rest) k s = st1 E ⟨d, op, t, pos, after, none⟩ (sq E ds rest k) s := nrfl rfl
theorem sq_some {d : Option Tmp} {op : Op} {t : TypeId} {pos : String} {after : Array Edge} {j : Nat} {b : Bool} : sq E ds (⟨d, op, t, pos, after, some (j, b)⟩ :: rest) k s = match ds[j]? with
    | some (some d') => GQ E (s.t d') b ⟨d, op, t, pos, after, some (j, b)⟩ (sq E ds rest k) s
    | _ => False := nrfl rfl
theorem GQ_same {b : Bool} {o : Oper} : GQ E (.lit (.bool b)) b o R s = st1 E o R s :=
  propext ⟨fun ⟨c, h1, h2⟩ => by
    simp only [AV.lit.injEq] at h1
    subst h1
    rcases h2 with h | h
    · exact h.2
    · exact absurd rfl h.1, fun h => ⟨_, rfl, .inl ⟨rfl, h⟩⟩⟩
theorem GQ_not {c : Value} {b : Bool} {o : Oper} (hc : c ≠ .bool b) : GQ E (.lit c) b o R s = skip1 E o.dst R s :=
  propext ⟨fun ⟨c', h1, h2⟩ => by
    simp only [AV.lit.injEq] at h1
    subst h1
    rcases h2 with h | h
    · exact absurd h.1 hc
    · exact h.2, fun h => ⟨_, rfl, .inr ⟨hc, h⟩⟩⟩
theorem GQ_tf {o : Oper} : GQ E (.lit (.bool true)) false o R s = skip1 E o.dst R s := GQ_not (by simp)
theorem GQ_ft {o : Oper} : GQ E (.lit (.bool false)) true o R s = skip1 E o.dst R s := GQ_not (by simp)
theorem GQ_undef {b : Bool} {o : Oper} : GQ E (.lit Go.undef) b o R s = skip1 E o.dst R s := GQ_not (by simp [Go.undef])
theorem CBC_true : CBC (.lit (.bool true)) A B s = A s :=
  propext ⟨fun ⟨c, h1, h2⟩ => by simp only [AV.lit.injEq, Value.bool.injEq] at h1; subst h1; simpa using h2, fun h => ⟨true, rfl, by simpa using h⟩⟩
theorem CBC_false : CBC (.lit (.bool false)) A B s = B s :=
  propext ⟨fun ⟨c, h1, h2⟩ => by simp only [AV.lit.injEq, Value.bool.injEq] at h1; subst h1; simpa using h2, fun h => ⟨false, rfl, by simpa using h⟩⟩
theorem CBC_not {b : Bool} : CBC (.lit (.bool !b)) A B s = CBC (.lit (.bool b)) B A s := by cases b <;> simp only [Bool.not_true, Bool.not_false, CBC_true, CBC_false]
theorem set_t {d i : Nat} {v : AV} : (s.set d v).t i = if i = d then v else s.t i := nrfl rfl
theorem set_m {d : Nat} {v : AV} : (s.set d v).m = s.m := nrfl rfl
theorem new_t {d i : Nat} {v T : AV} : (s.new d v T).t i = if i = d then v else (s.t i).mapRef (killF d []) := nrfl rfl
theorem new_m {d r : Nat} {v T : AV} : (s.new d v T).m r = if r = d then some T else s.m r := nrfl rfl
theorem updM_t {r i : Nat} {p : List Nat} {T : AV} : (s.updM r p T).t i = s.t i := nrfl rfl
theorem updM_m {r q : Nat} {p : List Nat} {T : AV} : (s.updM r p T).m q = if q = r then (s.m r).map (·.upd p T) else s.m q := nrfl rfl
theorem nodeOf_nil {r : Nat} : nodeOf s r [] = s.m r := by cases h : s.m r <;> simp [nodeOf, h, AV.at_]
theorem upd_nil {A T : AV} : A.upd [] T = T := by simp [AV.upd]
theorem ev_tmp {t : Nat} : s.ev (.tmp t) = s.t t := nrfl rfl
theorem ev_const {v : Value} : s.ev (.const v) = .lit v := nrfl rfl
theorem ev_func {f : Nat} : s.ev (.func f) = .fn f [] := nrfl rfl
theorem skip1_some {d : Nat} : skip1 E (some d) R s = (d < E.nt ∧ R (s.set d (.lit Go.undef))) := propext ⟨fun h => ⟨h.1 d rfl, h.2⟩, fun h => ⟨fun x e => (by cases e; exact h.1), h.2⟩⟩
theorem skip1_none : skip1 E none R s = R s := propext ⟨fun h => h.2, fun h => ⟨fun x e => (by cases e), h⟩⟩
theorem startT_t {args : List AV} {i : Nat} : (startT args).t i = args.getD i .junk := by simp [startT, List.getD]
end

/-! ### One operation -/
section
variable {E : Env} {R : ASt → Prop} {s : ASt} {d : Nat} {t : TypeId} {pos : String} {after : Array Edge} {g : Option (Nat × Bool)}
theorem st_move {x : Operand} : st1 E ⟨some d, .move x, t, pos, after, g⟩ R s = (d < E.nt ∧ R (s.set d (s.ev x))) := nrfl rfl
theorem st_pick {c x y : Operand} : st1 E ⟨some d, .pick c x y, t, pos, after, g⟩ R s = (d < E.nt ∧ pickQ (s.ev c) (s.ev x) (s.ev y) R s d) := nrfl rfl
theorem st_bin {op : BinOp} {x y : Operand} {xt yt : TypeId} : st1 E ⟨some d, .binOp op xt x y yt, t, pos, after, g⟩ R s = (d < E.nt ∧ binS E.P op xt (s.ev x) (s.ev y) R s d) := nrfl rfl
theorem binS_lit {P : Program} {op : BinOp} {xt : TypeId} {v : Value} {y : AV} : binS P op xt (.lit v) y R s d = binQ P op xt (.lit v) y R s d := nrfl rfl
theorem binS_row {P : Program} {op : BinOp} {xt : TypeId} {o : Bool} {sz n : Nat} {cs : List AV} : binS P op xt (.row o sz n cs) (.lit (.slice none 0 0)) R s d = (((slT P xt).isSome = true ∧ (op = .eql ∨ op = .neq)) ∧ ∀ b : Bool, (0 < n → b = (if op = .eql then false else true)) → R (s.set d (.lit (.bool b)))) := nrfl rfl
theorem st_un {op : UnOp} {x : Operand} {xt : TypeId} : st1 E ⟨some d, .unOp op xt x, t, pos, after, g⟩ R s = (d < E.nt ∧ unQ op (s.ev x) R s d) := nrfl rfl
theorem st_conv {a b : TypeId} {x : Operand} : st1 E ⟨some d, .convert a b x, t, pos, after, g⟩ R s = (d < E.nt ∧ convQ E.P a b (s.ev x) R s d) := nrfl rfl
theorem st_len {x : Operand} {xt : TypeId} : st1 E ⟨some d, .call { callee := .builtin .len, args := #[x], argTypes := #[xt] }, t, pos, after, g⟩ R s = (d < E.nt ∧ lenQ E.P xt (s.ev x) R s d) := nrfl rfl
theorem st_max {x y : Operand} {ts : Array TypeId} : st1 E ⟨some d, .call { callee := .builtin .max, args := #[x, y], argTypes := ts }, t, pos, after, g⟩ R s = (d < E.nt ∧ maxQ (s.ev x) (s.ev y) R s d) := nrfl rfl
theorem st_min {x y : Operand} {ts : Array TypeId} : st1 E ⟨some d, .call { callee := .builtin .min, args := #[x, y], argTypes := ts }, t, pos, after, g⟩ R s = (d < E.nt ∧ minQ (s.ev x) (s.ev y) R s d) := nrfl rfl
theorem st_indexAddr {x y : Operand} {xt : TypeId} : st1 E ⟨some d, .indexAddr xt x y, t, pos, after, g⟩ R s = idxS E ⟨some d, .indexAddr xt x y, t, pos, after, g⟩ xt (s.ev x) (s.ev y) R s d := nrfl rfl
theorem idxS_row {o : Oper} {xt : TypeId} {b : Bool} {sz n : Nat} {cs : List AV} {i : AV} : idxS E o xt (.row b sz n cs) i R s d = (d < E.nt ∧ indexAddrQ E.P xt (.row b sz n cs) i R s d) := nrfl rfl
theorem idxS_sl {o : Oper} {xt : TypeId} {r : Nat} {p : List Nat} {f n : Nat} {i : AV} : idxS E o xt (.sl r p f n) i R s d = (d < E.nt ∧ indexAddrQ E.P xt (.sl r p f n) i R s d) := nrfl rfl
theorem idxS_lit {o : Oper} {xt : TypeId} {v : Value} {i : AV} : idxS E o xt (.lit v) i R s d = opq E o R s := nrfl rfl
theorem st_index {x y : Operand} {xt : TypeId} : st1 E ⟨some d, .index xt x y, t, pos, after, g⟩ R s = (d < E.nt ∧ indexQ E.P xt (s.ev x) (s.ev y) R s d) := nrfl rfl
theorem st_fieldAddr {x : Operand} {xt : TypeId} {f : Nat} : st1 E ⟨some d, .fieldAddr xt x f, t, pos, after, g⟩ R s = (d < E.nt ∧ fieldAddrQ E.P xt (s.ev x) f R s d) := nrfl rfl
theorem st_load {x : Operand} {xt : TypeId} : st1 E ⟨some d, .load xt x, t, pos, after, g⟩ R s = (d < E.nt ∧ loadQ E.P xt (s.ev x) R s d) := nrfl rfl
theorem st_nck {x : Operand} : st1 E ⟨some d, .nilCheck x, t, pos, after, g⟩ R s = (d < E.nt ∧ nilQ (s.ev x) R s d) := nrfl rfl
theorem st_field {x : Operand} {xt : TypeId} {f : Nat} : st1 E ⟨some d, .field xt x f, t, pos, after, g⟩ R s = (d < E.nt ∧ fieldQ E.P xt (s.ev x) f R s d) := nrfl rfl
theorem st_extract {x : Operand} {i : Nat} : st1 E ⟨some d, .extract x i, t, pos, after, g⟩ R s = (d < E.nt ∧ extractQ (s.ev x) i R s d) := nrfl rfl
theorem st_makeFunc {f : FuncId} {caps : List Operand} : st1 E ⟨some d, .makeFunc (.func f) #[] caps.toArray, t, pos, after, g⟩ R s = (d < E.nt ∧ R (s.set d (.fn f (caps.map s.ev)))) := nrfl rfl
theorem st_build {xt : TypeId} {parts : List (Nat × Operand)} : st1 E ⟨some d, .build xt parts.toArray, t, pos, after, g⟩ R s = (d < E.nt ∧ buildQ E.P xt parts R s d) := nrfl rfl
theorem st_slice {x : Operand} {xt : TypeId} {lo hi : Option Operand} : st1 E ⟨some d, .slice xt x lo hi none, t, pos, after, g⟩ R s = (d < E.nt ∧ sliceQ E.P xt (s.ev x) lo hi R s d) := nrfl rfl
theorem st_make {x y : Operand} {xt : TypeId} : st1 E ⟨some d, .makeSlice xt x y, t, pos, after, g⟩ R s = (d < E.nt ∧ makeQ E.P xt (s.ev x) (s.ev y) R s d) := nrfl rfl
theorem st_box {x : Operand} {xt : TypeId} : st1 E ⟨some d, .box xt x, t, pos, after, g⟩ R s = (d < E.nt ∧ boxQ d R (closeVs s (s.ev x).parts)) := nrfl rfl
theorem st_alloc {xt : TypeId} : st1 E ⟨some d, .alloc xt, t, pos, after, g⟩ R s = (d < E.nt ∧ allocQ E.P xt d R s) := nrfl rfl
theorem st_buildSlice {xt : TypeId} {len : Nat} {parts : List (Nat × Operand)} : st1 E ⟨some d, .buildSlice xt len parts.toArray, t, pos, after, g⟩ R s = (d < E.nt ∧ buildSliceQ E.P xt len parts R s d) := nrfl rfl
theorem st_append {x y : Operand} {xt xt' : TypeId} : st1 E ⟨some d, .call { callee := .builtin .append, args := #[x, y], argTypes := #[xt, xt'] }, t, pos, after, g⟩ R s = ((d < E.nt ∧ xt' = xt) ∧ appQ E.P xt (s.ev x) (s.ev y) R s d) := nrfl rfl
theorem st_assign {x : Operand} : st1 E ⟨some d, .assign x, t, pos, after, g⟩ R s = (d < E.nt ∧ assignQ E.P t (s.ev x) R s d) := nrfl rfl
theorem st_call {fo : Operand} {xs : List Operand} {ts : Array TypeId} {d : Option Tmp} : st1 E ⟨d, .call { callee := .value fo, args := xs.toArray, argTypes := ts }, t, pos, after, g⟩ R s = opq E ⟨d, .call { callee := .value fo, args := xs.toArray, argTypes := ts }, t, pos, after, g⟩ R s := by cases d <;> rfl
theorem st_store {xt : TypeId} {x y : Operand} : st1 E ⟨none, .store xt x y, t, pos, after, g⟩ R s = storeQ E.P xt (s.ev x) (s.ev y) R s := nrfl rfl
end
end Go.Av
end
