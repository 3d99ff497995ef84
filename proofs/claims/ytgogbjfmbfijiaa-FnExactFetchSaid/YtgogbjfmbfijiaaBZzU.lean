/- Places of the caller's own memory, lent to a callee that changes what lies there. -/
import Derived.Test.YtgogbjfmbfijiaaBZzT
set_option linter.unusedSimpArgs false
set_option linter.unusedVariables false
/-! Places of the caller's own memory, lent to a callee that changes what lies there. -/
namespace Go.Av

/-- Refs strictly under a lent place go. -/
def swapF (rep : Nat → Option (List Nat)) : Nat → List Nat → Option (Nat × List Nat) := fun r p' => match rep r with
  | some p => if p.isPrefixOf p' = true ∧ p ≠ p' then none else some (r, p')
  | none => some (r, p')
def swapM (M : Nat → Option HT) (rep : Nat → Option (List Nat)) (new : Nat → HT) : Nat → Option HT := fun r => match rep r with
  | some p => (M r).map (·.upd p (new r))
  | none => M r
def ASt.swap (s : ASt) (rep : Nat → Option (List Nat)) (new : Nat → AV) : ASt := ⟨fun i => (s.t i).mapRef (swapF rep), fun r => match rep r with
  | some p => (s.m r).map (·.upd p (new r))
  | none => s.m r⟩

theorem at_upd_self : ∀ (p : List Nat) {T N N' : HT}, T.at_ p = some N → (T.upd p N').at_ p = some N'
  | [], T, N, N', h => by simp [HT.upd, HT.at_]
  | i :: p, T, N, N', h => by
    simp only [HT.at_] at h
    split at h
    · rename_i c hc
      obtain ⟨hi, hc'⟩ := List.getElem?_eq_some_iff.1 hc
      simp only [HT.upd, hc, HT.at_, HT.withKids_kids hc, List.getElem?_set]
      simp only [hi, if_true]
      exact at_upd_self p h
    · cases h

theorem nodup_inj {α : Type} : ∀ {l : List α} {i j : Nat} {x : α}, l.Nodup → l[i]? = some x → l[j]? = some x → i = j
  | [], i, j, x, _, h, _ => by simp at h
  | a :: l, 0, 0, x, _, _, _ => rfl
  | a :: l, 0, j + 1, x, hn, h, h' => by
    simp only [List.getElem?_cons_zero, Option.some.injEq, List.getElem?_cons_succ] at h h'
    subst h
    exact absurd (List.mem_of_getElem? h') (List.nodup_cons.1 hn).1
  | a :: l, i + 1, 0, x, hn, h, h' => by
    simp only [List.getElem?_cons_zero, Option.some.injEq, List.getElem?_cons_succ] at h h'
    subst h'
    exact absurd (List.mem_of_getElem? h) (List.nodup_cons.1 hn).1
  | a :: l, i + 1, j + 1, x, hn, h, h' => by
    have := nodup_inj (i := i) (j := j) (x := x) (List.nodup_cons.1 hn).2 (by simpa using h) (by simpa using h')
    omega
theorem nodup_at : ∀ (p : List Nat) {T N : HT}, T.at_ p = some N → T.blocks.Nodup → N.blocks.Nodup
  | [], T, N, h, hn => by simp only [HT.at_, Option.some.injEq] at h; exact h ▸ hn
  | i :: p, T, N, h, hn => by
    simp only [HT.at_] at h
    split at h
    · rename_i c hc
      refine nodup_at p h ?_
      rw [HT.blocks_kids] at hn
      have := (List.nodup_append.1 hn).2.1
      rw [(flatMap_set HT.blocks T.kids i c c hc).1] at this
      exact (List.nodup_append.1 (List.nodup_append.1 this).2.1).1
    · cases h

theorem RelX.swap {E : Env} {M : Nat → Option HT} {G G' : Nat → Prop} {s : ASt} {a : Act} {w w' : World} (h : RelX E M G s a w) (rep : Nat → Option (List Nat)) (old new : Nat → HT) (L : Nat → Prop)
    (hrep : ∀ r p, rep r = some p → ∃ T, M r = some T ∧ T.at_ p = some (old r) ∧ (new r).value = (old r).value ∧ ((new r).isMem = true → (new r).hd = (old r).hd) ∧ Sat w' G' (new r) ∧ (new r).blocks.Nodup)
    (hL : ∀ x, L x → ∃ r p, rep r = some p ∧ x ∈ (old r).blocks) (hL' : ∀ r p, rep r = some p → ∀ x ∈ (old r).blocks, L x) (hw : Ext L w w')
    (hb : ∀ r p, rep r = some p → ∀ x ∈ (new r).blocks, (L x ∨ w.heap.size ≤ x) ∧ x < w'.heap.size ∧ ¬ G' x)
    (hdj : ∀ r r' p p', r ≠ r' → rep r = some p → rep r' = some p' → ∀ x ∈ (new r).blocks, x ∉ (new r').blocks)
    (hGG : ∀ x, G x → G' x) (hG' : ∀ x, G' x → G x ∨ (w.heap.size ≤ x ∧ x < w'.heap.size)) :
    RelX E (swapM M rep new) G' (s.swap rep (fun r => (new r).erase)) a w' := by
  have hLM : ∀ x, L x → ∃ r p T, rep r = some p ∧ M r = some T ∧ x ∈ (old r).blocks ∧ x ∈ T.blocks := fun x hx => by
    obtain ⟨r, p, h1, h2⟩ := hL x hx
    obtain ⟨T, h3, h4, _⟩ := hrep r p h1
    exact ⟨r, p, T, h1, h3, h2, at_blocks p h4 x h2⟩
  have hLX : ∀ x, L x → x < w.heap.size ∧ ¬ G x ∧ (E.w0.heap.size ≤ x ∨ E.X x) := fun x hx => by
    obtain ⟨r, p, T, h1, h2, h3, h4⟩ := hLM x hx
    exact h.own r T h2 x h4
  have hGb : ∀ b, G b → w'.heap[b]? = w.heap[b]? := fun b hg => hw.block b (h.gd b hg).1 (fun hx => (hLX b hx).2.1 hg)
  -- a block of a region that is lent lies in what is lent of that region
  have hin : ∀ r p T x, rep r = some p → M r = some T → L x → x ∈ T.blocks → x ∈ (old r).blocks := fun r p T x h1 h2 h3 h4 => by
    obtain ⟨r', p', T', k1, k2, k3, k4⟩ := hLM x h3
    by_cases e : r = r'
    · subst e; exact k3
    · exact absurd k4 (h.dj r r' T T' e h2 k2 x h4)
  have hout : ∀ r T x, rep r = none → M r = some T → x ∈ T.blocks → ¬ L x := fun r T x h1 h2 h3 h4 => by
    obtain ⟨r', p', T', k1, k2, k3, k4⟩ := hLM x h4
    by_cases e : r = r'
    · subst e; rw [h1] at k1; cases k1
    · exact h.dj r r' T T' e h2 k2 x h3 k4
  -- what a region is now
  have hM : ∀ r T', swapM M rep new r = some T' → (rep r = none ∧ M r = some T') ∨ ∃ p T, rep r = some p ∧ M r = some T ∧ T' = T.upd p (new r) := fun r T' hT => by
    unfold swapM at hT
    split at hT
    · rename_i p hp
      obtain ⟨T, h1, _⟩ := hrep r p hp
      rw [h1] at hT
      simp only [Option.map_some, Option.some.injEq] at hT
      exact .inr ⟨p, T, hp, h1, hT.symm⟩
    · rename_i hp
      exact .inl ⟨hp, hT⟩
  have hbl : ∀ r T', swapM M rep new r = some T' → ∀ x ∈ T'.blocks, (∃ p, rep r = some p ∧ x ∈ (new r).blocks) ∨ (∃ T, M r = some T ∧ x ∈ T.blocks ∧ ¬ L x) := fun r T' hT x hx => by
    rcases hM r T' hT with ⟨h1, h2⟩ | ⟨p, T, h1, h2, rfl⟩
    · exact .inr ⟨T', h2, hx, hout r T' x h1 h2 hx⟩
    · obtain ⟨T0, k1, k2, _⟩ := hrep r p h1
      rw [h2] at k1; cases k1
      rcases mem_blocks_upd p k2 (h.nd r T h2) x hx with h4 | ⟨h4, h5⟩
      · exact .inl ⟨p, h1, h4⟩
      · exact .inr ⟨T, h2, h4, fun hl => h5 (hin r p T x h1 h2 hl h4)⟩
  refine ⟨fun r => ?_, fun r T' hT' => ?_, fun r T' hT' => ?_, fun r r' T1 T2 hr h1 h2 x hx hx' => ?_, fun r T' hT' x hx => ?_, fun x hx => ?_, fun x hx => hGG x (h.g0 x hx), fun i => ?_, ?_, h.df, h.nt, h.n1, fun r v hv => ?_⟩
  · simp only [ASt.swap, swapM]
    split
    · rename_i p hp
      obtain ⟨T, h1, h2, _⟩ := hrep r p hp
      rw [h.er, h1]
      simp only [Option.map_some]
      rw [erase_upd p (h.sat r T h1) h2]
    · exact h.er r
  · rcases hM r T' hT' with ⟨h1, h2⟩ | ⟨p, T, h1, h2, rfl⟩
    · exact (h.sat r T' h2).congr (fun b hx => hw.block b (h.own r T' h2 b hx).1 (hout r T' b h1 h2 hx)) hGb hGG
    · obtain ⟨T0, k1, k2, k3, k4, k5, k6⟩ := hrep r p h1
      rw [h2] at k1; cases k1
      exact Sat.upd hGb hGG p (h.sat r T h2) k2 (h.nd r T h2) k3 k5 (fun b hb1 hb2 => hw.block b (h.own r T h2 b hb1).1 (fun hl => hb2 (hin r p T b h1 h2 hl hb1)))
  · rcases hM r T' hT' with ⟨h1, h2⟩ | ⟨p, T, h1, h2, rfl⟩
    · exact h.nd r T' h2
    · obtain ⟨T0, k1, k2, k3, k4, k5, k6⟩ := hrep r p h1
      rw [h2] at k1; cases k1
      refine nodup_upd p k2 (h.nd r T h2) k6 (fun x hx hxT => ?_)
      rcases (hb r p h1 x hx).1 with hl | hl
      · exact hin r p T x h1 h2 hl hxT
      · have := (h.own r T h2 x hxT).1; omega
  · rcases hbl r T1 h1 x hx with ⟨p, k1, k2⟩ | ⟨T, k1, k2, k3⟩ <;> rcases hbl r' T2 h2 x hx' with ⟨p', k1', k2'⟩ | ⟨T', k1', k2', k3'⟩
    · exact hdj r r' p p' hr k1 k1' x k2 k2'
    · rcases (hb r p k1 x k2).1 with hl | hl
      · exact k3' hl
      · have := (h.own r' T' k1' x k2').1; omega
    · rcases (hb r' p' k1' x k2').1 with hl | hl
      · exact k3 hl
      · have := (h.own r T k1 x k2).1; omega
    · exact h.dj r r' T T' hr k1 k1' x k2 k2'
  · rcases hbl r T' hT' x hx with ⟨p, k1, k2⟩ | ⟨T, k1, k2, k3⟩
    · obtain ⟨g1, g2, g3⟩ := hb r p k1 x k2
      refine ⟨g2, g3, ?_⟩
      rcases g1 with hl | hl
      · exact (hLX x hl).2.2
      · exact .inl (Nat.le_trans h.ext.size hl)
    · obtain ⟨g1, g2, g3⟩ := h.own r T k1 x k2
      exact ⟨Nat.lt_of_lt_of_le g1 hw.size, fun hg => (hG' x hg).elim g2 (fun h4 => by omega), g3⟩
  · rcases hG' x hx with hg | ⟨h1, h2⟩
    · obtain ⟨h1, h2⟩ := h.gd x hg
      exact ⟨Nat.lt_of_lt_of_le h1 hw.size, h2⟩
    · exact ⟨h2, .inr (Nat.le_trans h.ext.size h1)⟩
  · simp only [ASt.swap]
    refine ((h.sl i).congr hGb hGG).mapRef (fun r p r' p' hf T' N' hT' hN' hm => ?_)
    simp only [swapF] at hf
    rcases hM _ T' hT' with ⟨h1, h2⟩ | ⟨p0, T, h1, h2, rfl⟩
    · cases hr : rep r with
      | none =>
        rw [hr] at hf
        simp only [Option.some.injEq, Prod.mk.injEq] at hf
        obtain ⟨rfl, rfl⟩ := hf
        exact ⟨T', N', h2, hN', rfl⟩
      | some p0 =>
        rw [hr] at hf
        simp only at hf
        split at hf
        · cases hf
        · simp only [Option.some.injEq, Prod.mk.injEq] at hf
          obtain ⟨rfl, rfl⟩ := hf
          rw [h1] at hr; cases hr
    · cases hr : rep r with
      | none =>
        rw [hr] at hf
        simp only [Option.some.injEq, Prod.mk.injEq] at hf
        obtain ⟨rfl, rfl⟩ := hf
        rw [h1] at hr; cases hr
      | some p1 =>
        rw [hr] at hf
        simp only at hf
        split at hf
        · cases hf
        · rename_i hk
          simp only [Option.some.injEq, Prod.mk.injEq] at hf
          obtain ⟨rfl, rfl⟩ := hf
          rw [h1] at hr
          simp only [Option.some.injEq] at hr
          subst hr
          obtain ⟨T0, k1, k2, k3, k4, k5, k6⟩ := hrep r p0 h1
          rw [h2] at k1; cases k1
          by_cases hpe : p0 = p
          · subst hpe
            rw [at_upd_self p0 k2] at hN'
            simp only [Option.some.injEq] at hN'
            subst hN'
            exact ⟨T, _, h2, k2, (k4 hm).symm⟩
          · have hnp : p0.isPrefixOf p ≠ true := fun e => hk ⟨e, hpe⟩
            have := Heads.upd p0 k2 (ex := fun _ => True) (fun q M' hx _ _ => absurd trivial hx) (N' := new r)
            obtain ⟨N, n1, n2⟩ := this p N' (fun ⟨q', e, _⟩ => hnp (by rw [e]; exact List.isPrefixOf_iff_prefix.2 ⟨q', rfl⟩)) hN' hm
            exact ⟨T, N, h2, n1, n2⟩
  · exact h.ext.trans hw (fun i hi hx => (hLX i hx).2.2.resolve_left (by omega))
  · obtain ⟨h1, T, h2, h3⟩ := h.pv r v hv
    refine ⟨h1, ?_⟩
    cases hr : rep r with
    | none => exact ⟨T, by simp only [swapM, hr]; exact h2, h3⟩
    | some p =>
      obtain ⟨T0, k1, k2, k3, _⟩ := hrep r p hr
      rw [h2] at k1; cases k1
      exact ⟨T.upd p (new r), by simp only [swapM, hr, h2, Option.map_some], by rw [value_upd p k2 k3]; exact h3⟩

/-! ### The call -/
def renP (pl : List (Nat × List Nat)) : Nat → List Nat → Option (Nat × List Nat) := fun r p => if 1000 ≤ r then (match pl[r - 1000]? with
  | some (q, p0) => some (q, p0 ++ p)
  | none => none) else none
def repP : List (Nat × List Nat) → Nat → Option (List Nat)
  | [], _ => none
  | (q, p) :: l, r => if r = q then some p else repP l r
def newP : List (Nat × List Nat) → List HT → Nat → HT
  | (q, _) :: l, K :: Ks, r => if r = q then K else newP l Ks r
  | _, _, _ => .leaf .junk undef
def newA : List (Nat × List Nat) → List AV → Nat → AV
  | (q, _) :: l, K :: Ks, r => if r = q then K else newA l Ks r
  | _, _, _ => .junk
def lentOk (s : ASt) : List (Nat × List Nat) → List AV → Prop
  | [], [] => True
  | (r, p) :: pl, A :: m => nodeOf s r p = some A ∧ lentOk s pl m
  | _, _ => False
def hdOk : AV → AV → Bool
  | .row true sz n _, .row true sz' n' _ => decide (sz = sz') && decide (n = n')
  | .box true _, .box true _ => true
  | _, .junk => true
  | _, _ => false
def hdsOk : List AV → List AV → Bool
  | [], [] => true
  | a :: l, b :: k => hdOk a b && hdsOk l k
  | _, _ => false

theorem newP_erase : ∀ (pl : List (Nat × List Nat)) (Ks : List HT) (r : Nat), (newP pl Ks r).erase = newA pl (HT.erases Ks) r
  | [], [], r => rfl
  | [], _ :: _, r => rfl
  | (q, p) :: l, [], r => rfl
  | (q, p) :: l, K :: Ks, r => by
    simp only [newP, HT.erases, newA]
    split
    · rfl
    · exact newP_erase l Ks r

theorem repP_spec : ∀ {pl : List (Nat × List Nat)} {Ks : List HT} {r : Nat} {p : List Nat}, repP pl r = some p → Ks.length = pl.length → ∃ (j : Nat) (K : HT), pl[j]? = some (r, p) ∧ Ks[j]? = some K ∧ newP pl Ks r = K
  | [], Ks, r, p, h, _ => by simp [repP] at h
  | (q, p0) :: l, [], r, p, h, hl => by simp at hl
  | (q, p0) :: l, K :: Ks, r, p, h, hl => by
    simp only [repP] at h
    split at h
    · rename_i e; subst e
      simp only [Option.some.injEq] at h; subst h
      exact ⟨0, K, rfl, rfl, by simp [newP]⟩
    · rename_i e
      obtain ⟨j, K', h1, h2, h3⟩ := repP_spec (Ks := Ks) h (by simpa using hl)
      exact ⟨j + 1, K', by simpa using h1, by simpa using h2, by simp only [newP, e, if_false]; exact h3⟩
theorem repP_of : ∀ {pl : List (Nat × List Nat)} {Ks : List HT} {j r : Nat} {p : List Nat} {K : HT}, (pl.map Prod.fst).Nodup → pl[j]? = some (r, p) → Ks[j]? = some K → repP pl r = some p ∧ newP pl Ks r = K
  | [], Ks, j, r, p, K, _, h, _ => by simp at h
  | (q, p0) :: l, [], j, r, p, K, _, _, h => by simp at h
  | (q, p0) :: l, K0 :: Ks, 0, r, p, K, _, h, h' => by
    simp only [List.getElem?_cons_zero, Option.some.injEq, Prod.mk.injEq] at h h'
    obtain ⟨rfl, rfl⟩ := h
    subst h'
    simp [repP, newP]
  | (q, p0) :: l, K0 :: Ks, j + 1, r, p, K, hn, h, h' => by
    simp only [List.getElem?_cons_succ] at h h'
    simp only [List.map_cons, List.nodup_cons] at hn
    have hne : r ≠ q := fun e => hn.1 (by subst e; exact List.mem_map.2 ⟨(r, p), List.mem_of_getElem? h, rfl⟩)
    obtain ⟨h1, h2⟩ := repP_of (Ks := Ks) hn.2 h h'
    simp only [repP, newP, hne, if_false]
    exact ⟨h1, h2⟩

theorem lent_spec {E : Env} {M : Nat → Option HT} {G : Nat → Prop} {s : ASt} {a : Act} {w : World} (hX : RelX E M G s a w) : ∀ {pl : List (Nat × List Nat)} {m : List AV}, lentOk s pl m →
    ∃ Ts : List HT, HT.erases Ts = m ∧ Ts.length = pl.length ∧ ∀ (j r : Nat) (p : List Nat) (N : HT), pl[j]? = some (r, p) → Ts[j]? = some N → ∃ T, M r = some T ∧ T.at_ p = some N ∧ Sat w G N
  | [], [], _ => ⟨[], rfl, rfl, fun j r p N h => by simp at h⟩
  | (r, p) :: pl, A :: m, h => by
    obtain ⟨T, N, h1, h2, h3, _, h4⟩ := nodeOf_spec hX h.1
    obtain ⟨Ts, k1, k2, k3⟩ := lent_spec hX h.2
    refine ⟨N :: Ts, by simp [HT.erases, h3, k1], by simp [k2], fun j r' p' N' hj hN => ?_⟩
    cases j with
    | zero =>
      simp only [List.getElem?_cons_zero, Option.some.injEq, Prod.mk.injEq] at hj hN
      obtain ⟨rfl, rfl⟩ := hj; subst hN
      exact ⟨T, h1, h2, h4⟩
    | succ j => exact k3 j r' p' N' (by simpa using hj) (by simpa using hN)
  | [], _ :: _, h => h.elim
  | (_, _) :: _, [], h => h.elim

theorem hds_get : ∀ {m m' : List AV} {j : Nat} {A B : AV}, hdsOk m m' = true → m[j]? = some A → m'[j]? = some B → hdOk A B = true
  | [], _, j, A, B, _, h, _ => by simp at h
  | _ :: _, [], j, A, B, h, _, _ => by simp [hdsOk] at h
  | a :: l, b :: k, 0, A, B, h, h1, h2 => by
    simp only [hdsOk, Bool.and_eq_true] at h
    simp only [List.getElem?_cons_zero, Option.some.injEq] at h1 h2
    subst h1; subst h2; exact h.1
  | a :: l, b :: k, j + 1, A, B, h, h1, h2 => by
    simp only [hdsOk, Bool.and_eq_true] at h
    exact hds_get h.2 (by simpa using h1) (by simpa using h2)
theorem hdsOk_len : ∀ {m m' : List AV}, hdsOk m m' = true → m.length = m'.length
  | [], [], _ => rfl
  | [], _ :: _, h => by simp [hdsOk] at h
  | _ :: _, [], h => by simp [hdsOk] at h
  | a :: l, b :: k, h => by
    simp only [hdsOk, Bool.and_eq_true] at h
    simp [hdsOk_len h.2]

theorem hd_of {w w' : World} {G G' : Nat → Prop} {N N' : HT} (hs : Sat w G N) (hs' : Sat w' G' N') (hv : N'.value = N.value) (h : hdOk N.erase N'.erase = true) (hm : N'.isMem = true) : N'.hd = N.hd := by
  cases hs' with
  | leaf a v ha h' => simp [HT.isMem] at hm
  | agg cs h' => simp [HT.isMem] at hm
  | tup cs h' => simp [HT.isMem] at hm
  | row b sz n cap cs C e _ _ _ _ _ _ _ _ =>
    cases hs with
    | row b' sz' n' cap' cs' C' e' _ _ _ _ _ _ _ _ =>
      simp only [HT.value, Value.slice.injEq, Option.some.injEq, Addr.mk.injEq, and_true, true_and] at hv
      obtain ⟨rfl, rfl, rfl⟩ := hv
      simp only [HT.erase, hdOk, Bool.and_eq_true, decide_eq_true_eq, and_true] at h
      subst h
      simp [HT.hd]
    | nilrow sz' => simp [HT.value] at hv
    | leaf a v ha h' => cases a with
      | row o _ _ _ => cases o <;> simp_all [HT.erase, hdOk, AV.leafOk]
      | _ => simp_all [HT.erase, hdOk, AV.leafOk]
    | box => simp [HT.value] at hv
    | agg => simp [HT.value] at hv
    | tup => simp [HT.value] at hv
  | nilrow sz =>
    cases hs with
    | nilrow sz' => simp only [HT.erase, hdOk, Bool.and_eq_true, decide_eq_true_eq, and_true] at h; simp [HT.hd, h]
    | row => simp [HT.value] at hv
    | leaf a v ha h' => cases a with
      | row o _ _ _ => cases o <;> simp_all [HT.erase, hdOk, AV.leafOk]
      | _ => simp_all [HT.erase, hdOk, AV.leafOk]
    | box => simp [HT.value] at hv
    | agg => simp [HT.value] at hv
    | tup => simp [HT.value] at hv
  | box b cs C e _ _ _ _ =>
    cases hs with
    | box b' cs' C' e' _ _ _ _ =>
      simp only [HT.value, Value.pointer.injEq, Option.some.injEq, Addr.mk.injEq, and_true] at hv
      subst hv
      simp [HT.hd]
    | leaf a v ha h' => cases a with
      | box o _ => cases o <;> simp_all [HT.erase, hdOk, AV.leafOk]
      | _ => simp_all [HT.erase, hdOk, AV.leafOk]
    | row => simp [HT.value] at hv
    | nilrow => simp [HT.value] at hv
    | agg => simp [HT.value] at hv
    | tup => simp [HT.value] at hv

theorem at_append : ∀ (p q : List Nat) {T N : HT}, T.at_ p = some N → T.at_ (p ++ q) = N.at_ q
  | [], q, T, N, h => by simp only [HT.at_, Option.some.injEq] at h; subst h; rfl
  | i :: p, q, T, N, h => by
    simp only [HT.at_] at h
    split at h
    · rename_i c hc
      simp only [List.cons_append, HT.at_, hc]
      exact at_append p q h
    · cases h

mutual
theorem unren {M : Nat → Option HT} {G : Nat → Prop} {w : World} {Ts : List HT} (f : Nat → List Nat → Option (Nat × List Nat))
    (hf : ∀ r p N0, regs Ts r = some N0 → ∃ r' p0 T, f r p = some (r', p0 ++ p) ∧ M r' = some T ∧ T.at_ p0 = some N0) : ∀ (a : AV) {v : Value}, VR w G M (a.mapRef f) v → VR w G (regs Ts) a v
  | .lit c, v, h => by simp only [AV.mapRef] at h; exact h.free rfl
  | .junk, v, h => .junk v
  | .row false sz n cs, v, h => by simp only [AV.mapRef] at h; exact h.free rfl
  | .row true sz n cs, v, h => by simp only [AV.mapRef] at h; cases h
  | .box false cs, v, h => by simp only [AV.mapRef] at h; exact h.free rfl
  | .box true cs, v, h => by simp only [AV.mapRef] at h; cases h
  | .sl r p off len, v, h => by
    refine .sl r p off len v (fun N0 hN0 b sz n cap cs hN hle => ?_) (fun N0 hN0 sz hN hle => ?_)
    · obtain ⟨r', p0, T, e1, e2, e3⟩ := hf r p N0 hN0
      simp only [AV.mapRef, e1] at h
      cases h with
      | sl _ _ _ _ _ h h0 => exact h T e2 b sz n cap cs (by rw [at_append p0 p e3]; exact hN) hle
    · obtain ⟨r', p0, T, e1, e2, e3⟩ := hf r p N0 hN0
      simp only [AV.mapRef, e1] at h
      cases h with
      | sl _ _ _ _ _ h h0 => exact h0 T e2 sz (by rw [at_append p0 p e3]; exact hN) hle
  | .ptr r p o, v, h => by
    refine .ptr r p o v (fun N0 hN0 b sz n cap cs hN => ?_) (fun N0 hN0 b cs hN => ?_)
    · obtain ⟨r', p0, T, e1, e2, e3⟩ := hf r p N0 hN0
      simp only [AV.mapRef, e1] at h
      cases h with
      | ptr _ _ _ _ h h0 => exact h T e2 b sz n cap cs (by rw [at_append p0 p e3]; exact hN)
    · obtain ⟨r', p0, T, e1, e2, e3⟩ := hf r p N0 hN0
      simp only [AV.mapRef, e1] at h
      cases h with
      | ptr _ _ _ _ h h0 => exact h0 T e2 b cs (by rw [at_append p0 p e3]; exact hN)
  | .agg cs, v, h => by
    simp only [AV.mapRef] at h
    cases h with
    | agg _ us hl h => exact .agg cs us (by rw [hl, AV.mapRefs_eq, List.length_map]) (fun i a u hi hu => unrens f hf cs i a u hi (fun b hb => h i b u hb hu))
  | .tup cs, v, h => by
    simp only [AV.mapRef] at h
    cases h with
    | tup _ us hl h => exact .tup cs us (by rw [hl, AV.mapRefs_eq, List.length_map]) (fun i a u hi hu => unrens f hf cs i a u hi (fun b hb => h i b u hb hu))
  | .fn g cs, v, h => by
    simp only [AV.mapRef] at h
    cases h with
    | fn _ _ us hl h => exact .fn g cs us (by rw [hl, AV.mapRefs_eq, List.length_map]) (fun i a u hi hu => unrens f hf cs i a u hi (fun b hb => h i b u hb hu))
theorem unrens {M : Nat → Option HT} {G : Nat → Prop} {w : World} {Ts : List HT} (f : Nat → List Nat → Option (Nat × List Nat))
    (hf : ∀ r p N0, regs Ts r = some N0 → ∃ r' p0 T, f r p = some (r', p0 ++ p) ∧ M r' = some T ∧ T.at_ p0 = some N0) : ∀ (cs : List AV) (i : Nat) (a : AV) (u : Value), cs[i]? = some a → (∀ b, (AV.mapRefs f cs)[i]? = some b → VR w G M b u) → VR w G (regs Ts) a u
  | [], i, a, u, h, _ => by simp at h
  | c :: l, 0, a, u, h, hb => by
    simp only [List.getElem?_cons_zero, Option.some.injEq] at h; subst h
    exact unren f hf c (hb (AV.mapRef f c) (by simp only [AV.mapRefs, List.getElem?_cons_zero]))
  | c :: l, i + 1, a, u, h, hb => unrens f hf l i a u (by simpa using h) (fun b h' => hb b (by simpa [AV.mapRefs] using h'))
end

section
variable {E : Env} {s : ASt} {d : Nat} {x y : Operand} {t xt : TypeId} {pos : String} {after : Array Edge} {g : Option (Nat × Bool)} {R : ASt → Prop}
theorem callX_core {dst : Option Tmp} {fo : Operand} {f : FuncId} {caps : List AV} {xs : List Operand} {ts : Array TypeId} {args m m' : List AV} {res : AV} {pl : List (Nat × List Nat)} (hf : s.ev fo = .fn f caps) (he : entB E.P f = true)
    (ha : xs.map s.ev ++ caps = AV.mapRefs (renP pl) args) (hd : DoesX E.P f args m res m') (hm : lentOk s pl m) (hpl : (pl.map Prod.fst).Nodup) (hh : hdsOk m m' = true) {M : Nat → Option HT} {G : Nat → Prop} {a : Act} {w : World} (hX : RelX E M G s a w)
    {K : Act → World → Prop} {Q : Exit → Act → World → Prop}
    (hK : ∀ (T : HT) M' w' (G' : Nat → Prop), T.erase = res → RelX E M' G' (s.swap (repP pl) (newA pl m')) a w' → T.blocks.Nodup → (∀ x ∈ T.blocks, (∀ r T', M' r = some T' → x ∉ T'.blocks) ∧ x < w'.heap.size ∧ ¬ G' x ∧ (E.w0.heap.size ≤ x ∨ E.X x)) → Sat w' G' T → K (a.put dst T.value) w') :
    (⟨dst, .call { callee := .value fo, args := xs.toArray, argTypes := ts }, t, pos, after, g⟩ : Oper).wp E.P a w K Q := by
  have hfv := hX.ev fo
  rw [hf] at hfv
  generalize hfe : a.eval fo = fv at hfv
  cases hfv with
  | fn _ _ us hul huv =>
    have hrun : (execOp a.eval ⟨dst, .call { callee := .value fo, args := xs.toArray, argTypes := ts }, t, pos, after, g⟩).run E.P w = .ok (.enter f (xs.map a.eval ++ us).toArray) w := by
      simp [execOp, resolve, hfe, Deferred.ofValue, invoke, callFunc_of he]
    obtain ⟨Ts, e1, e2, e3⟩ := lent_spec hX hm
    have hargs : ∀ (i : Nat) (v : AV) (u : Value), (xs.map s.ev ++ caps)[i]? = some v → (xs.map a.eval ++ us)[i]? = some u → VR w G M v u := fun i v u h1 h2 => by
      by_cases hi : i < (xs.map s.ev).length
      · rw [List.getElem?_append_left hi] at h1
        rw [List.getElem?_append_left (by simpa using hi)] at h2
        rw [List.getElem?_map] at h1 h2
        cases hx : xs[i]? with
        | none => rw [hx] at h1; cases h1
        | some z =>
          rw [hx] at h1 h2
          simp only [Option.map_some, Option.some.injEq] at h1 h2
          subst h1; subst h2
          exact hX.ev z
      · rw [List.getElem?_append_right (by omega)] at h1
        rw [List.getElem?_append_right (by simpa using hi)] at h2
        simp only [List.length_map] at h1 h2
        exact huv _ v u h1 h2
    have hlen : (xs.map a.eval ++ us).length = args.length := by
      have := congrArg List.length ha
      simp only [List.length_append, List.length_map, AV.mapRefs_eq] at this ⊢
      omega
    have hget : ∀ (j : Nat) (N : HT), Ts[j]? = some N → ∃ r p T, pl[j]? = some (r, p) ∧ M r = some T ∧ T.at_ p = some N ∧ Sat w G N := fun j N hj => by
      have hjl : j < pl.length := by rw [← e2]; exact (List.getElem?_eq_some_iff.1 hj).1
      obtain ⟨T, k1, k2, k3⟩ := e3 j pl[j].1 pl[j].2 N (List.getElem?_eq_getElem hjl) hj
      exact ⟨_, _, T, List.getElem?_eq_getElem hjl, k1, k2, k3⟩
    have hne : ∀ (i j r : Nat) (p p' : List Nat), i ≠ j → pl[i]? = some (r, p) → pl[j]? ≠ some (r, p') := fun i j r p p' hij h1 h2 => by
      have h3 : (pl.map Prod.fst)[i]? = some r := by rw [List.getElem?_map, h1]; rfl
      have h4 : (pl.map Prod.fst)[j]? = some r := by rw [List.getElem?_map, h2]; rfl
      exact hij (nodup_inj hpl h3 h4)
    have hnd : (Ts.flatMap HT.blocks).Nodup := nodup_flat Ts (fun i T hi => by
      obtain ⟨r, p, T0, k1, k2, k3, _⟩ := hget i T hi
      refine ⟨nodup_at p k3 (hX.nd r T0 k2), fun j T' hij hj x hx hx' => ?_⟩
      obtain ⟨r', p', T0', k1', k2', k3', _⟩ := hget j T' hj
      have hrr : r ≠ r' := fun e => by subst e; exact hne i j r p p' hij k1 k1'
      exact hX.dj r r' T0 T0' hrr k2 k2' x (at_blocks p k3 x hx) (at_blocks p' k3' x hx'))
    have hmem : ∀ x ∈ Ts.flatMap HT.blocks, ∃ (j : Nat) (N : HT), Ts[j]? = some N ∧ x ∈ N.blocks := fun x hx => by
      obtain ⟨N, h1, h2⟩ := List.mem_flatMap.1 hx
      obtain ⟨j, hj⟩ := List.getElem?_of_mem h1
      exact ⟨j, N, hj, h2⟩
    have hown : ∀ x ∈ Ts.flatMap HT.blocks, x < w.heap.size ∧ ¬ G x := fun x hx => by
      obtain ⟨j, N, h1, h2⟩ := hmem x hx
      obtain ⟨r, p, T0, k1, k2, k3, _⟩ := hget j N h1
      have := hX.own r T0 k2 x (at_blocks p k3 x h2)
      exact ⟨this.1, this.2.1⟩
    have hrf : ∀ r p N0, regs Ts r = some N0 → ∃ r' p0 T, renP pl r p = some (r', p0 ++ p) ∧ M r' = some T ∧ T.at_ p0 = some N0 := fun r p N0 hr => by
      unfold regs at hr
      split at hr
      · rename_i h1000
        obtain ⟨r', p0, T, k1, k2, k3, _⟩ := hget _ N0 hr
        exact ⟨r', p0, T, by simp only [renP, h1000, if_true, k1], k2, k3⟩
      · cases hr
    unfold Oper.wp
    rw [hrun]
    simp only [Oper.upon]
    refine (hd w G Ts (xs.map a.eval ++ us) (fun x hx => (hX.gd x hx).1) e1 (fun K hK => ?_) hnd hown hlen (fun i A v hA hv => unrens _ hrf args i A v hA (fun b hb => hargs i b v (by rw [ha]; exact hb) hv))).mono ?_
    · obtain ⟨j, hj⟩ := List.getElem?_of_mem hK
      obtain ⟨r, p, T0, k1, k2, k3, k4⟩ := hget j K hj
      exact k4
    · rintro e w' ⟨T, Ts', rfl, rfl, q1, q2, q3, q4, q5, G', hGG, hG', q6, q7, q8⟩
      have hl' : Ts'.length = Ts.length := by
        have := hdsOk_len hh
        rw [← e1, ← q1, HT.erases_eq, HT.erases_eq, List.length_map, List.length_map] at this
        exact this.symm
      have hval : ∀ (j : Nat) (N N' : HT), Ts[j]? = some N → Ts'[j]? = some N' → N'.value = N.value ∧ hdOk N.erase N'.erase = true := fun j N N' h1 h2 => by
        constructor
        · have : (HT.values Ts')[j]? = (HT.values Ts)[j]? := by rw [q2]
          rw [HT.values_eq, HT.values_eq, List.getElem?_map, List.getElem?_map, h1, h2] at this
          simpa using this
        · exact hds_get hh (by rw [← e1, HT.erases_eq, List.getElem?_map, h1]; rfl) (by rw [← q1, HT.erases_eq, List.getElem?_map, h2]; rfl)
      have hjj : ∀ r p, repP pl r = some p → ∃ (j : Nat) (N N' : HT), pl[j]? = some (r, p) ∧ Ts[j]? = some N ∧ Ts'[j]? = some N' ∧ newP pl Ts r = N ∧ newP pl Ts' r = N' := fun r p hr => by
        obtain ⟨j, N, h1, h2, h3⟩ := repP_spec (Ks := Ts) hr e2
        have hj' : j < Ts'.length := by rw [hl']; exact (List.getElem?_eq_some_iff.1 h2).1
        exact ⟨j, N, Ts'[j], h1, h2, List.getElem?_eq_getElem hj', h3, (repP_of hpl h1 (List.getElem?_eq_getElem hj')).2⟩
      have hnd' := List.nodup_append.1 q4
      have hS := RelX.swap hX (repP pl) (newP pl Ts) (newP pl Ts') (fun x => x ∈ Ts.flatMap HT.blocks) (w' := w') (G' := G')
        (fun r p hr => by
          obtain ⟨j, N, N', h1, h2, h3, h4, h5⟩ := hjj r p hr
          obtain ⟨T0, k1, k2, k3⟩ := e3 j r p N h1 h2
          rw [h4, h5]
          have hN' := q8 N' (List.mem_of_getElem? h3)
          exact ⟨T0, k1, k2, (hval j N N' h2 h3).1, fun hm => hd_of k3 hN' (hval j N N' h2 h3).1 (hval j N N' h2 h3).2 hm, hN', (flat_nodup Ts' hnd'.2.1 j N' h3).1⟩)
        (fun x hx => by
          obtain ⟨j, N, h1, h2⟩ := hmem x hx
          obtain ⟨r, p, T0, k1, k2, k3, _⟩ := hget j N h1
          obtain ⟨g1, g2⟩ := repP_of hpl k1 h1
          exact ⟨r, p, g1, by rw [g2]; exact h2⟩)
        (fun r p hr x hx => by
          obtain ⟨j, N, N', h1, h2, h3, h4, h5⟩ := hjj r p hr
          rw [h4] at hx
          exact List.mem_flatMap.2 ⟨N, List.mem_of_getElem? h2, hx⟩)
        q3
        (fun r p hr x hx => by
          obtain ⟨j, N, N', h1, h2, h3, h4, h5⟩ := hjj r p hr
          rw [h5] at hx
          have hx' : x ∈ T.blocks ++ Ts'.flatMap HT.blocks := List.mem_append.2 (.inr (List.mem_flatMap.2 ⟨N', List.mem_of_getElem? h3, hx⟩))
          exact ⟨(q5 x hx').1, (q5 x hx').2, q6 x hx'⟩)
        (fun r r' p p' hrr hr hr' x hx hx' => by
          obtain ⟨j, N, N', h1, h2, h3, h4, h5⟩ := hjj r p hr
          obtain ⟨j', M1, M1', h1', h2', h3', h4', h5'⟩ := hjj r' p' hr'
          rw [h5] at hx; rw [h5'] at hx'
          have hij : j ≠ j' := fun e => by
            subst e; rw [h1] at h1'
            simp only [Option.some.injEq, Prod.mk.injEq] at h1'
            exact hrr h1'.1
          exact (flat_nodup Ts' hnd'.2.1 j N' h3).2 j' M1' hij h3' x hx hx')
        hGG hG'
      have hen : (fun r => (newP pl Ts' r).erase) = newA pl m' := by
        funext r; rw [newP_erase, q1]
      rw [hen] at hS
      refine hK T _ w' G' rfl hS hnd'.1 (fun x hx => ?_) q7
      have hx0 : x ∈ T.blocks ++ Ts'.flatMap HT.blocks := List.mem_append.2 (.inl hx)
      have hw := (q5 x hx0)
      refine ⟨fun r T' hT' hxT => ?_, hw.2, q6 x hx0, ?_⟩
      · unfold swapM at hT'
        split at hT'
        · rename_i p hp
          obtain ⟨j, N, N', h1, h2, h3, h4, h5⟩ := hjj r p hp
          obtain ⟨T0, k1, k2, k3⟩ := e3 j r p N h1 h2
          rw [k1] at hT'
          simp only [Option.map_some, Option.some.injEq] at hT'
          subst hT'
          rcases mem_blocks_upd p k2 (hX.nd r T0 k1) x hxT with h6 | ⟨h6, h7⟩
          · rw [h5] at h6
            exact hnd'.2.2 x hx x (List.mem_flatMap.2 ⟨N', List.mem_of_getElem? h3, h6⟩) rfl
          · rcases hw.1 with h8 | h8
            · obtain ⟨j', N1, g1, g2⟩ := hmem x h8
              obtain ⟨r', p', T1, k1', k2', k3', _⟩ := hget j' N1 g1
              by_cases e : r = r'
              · subst e
                have : j = j' := Classical.byContradiction fun hij => hne j j' r p p' hij h1 k1'
                subst this
                rw [h2] at g1; cases g1
                exact h7 g2
              · exact hX.dj r r' T0 T1 e k1 k2' x h6 (at_blocks p' k3' x g2)
            · have := (hX.own r T0 k1 x h6).1; omega
        · rename_i hp
          rcases hw.1 with h8 | h8
          · obtain ⟨j', N1, g1, g2⟩ := hmem x h8
            obtain ⟨r', p', T1, k1', k2', k3', _⟩ := hget j' N1 g1
            by_cases e : r = r'
            · subst e
              have := (repP_of (Ks := Ts) hpl k1' g1).1
              rw [hp] at this; cases this
            · exact hX.dj r r' T' T1 e hT' k2' x hxT (at_blocks p' k3' x g2)
          · have := (hX.own r T' hT' x hxT).1; omega
      · rcases hw.1 with h8 | h8
        · obtain ⟨j', N1, g1, g2⟩ := hmem x h8
          obtain ⟨r', p', T1, k1', k2', k3', _⟩ := hget j' N1 g1
          exact (hX.own r' T1 k2' x (at_blocks p' k3' x g2)).2.2
        · exact .inl (Nat.le_trans hX.ext.size h8)
end
end Go.Av
