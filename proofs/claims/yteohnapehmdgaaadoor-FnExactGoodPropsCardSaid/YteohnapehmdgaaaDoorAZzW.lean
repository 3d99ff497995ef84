/- append. -/
import Derived.Test.YteohnapehmdgaaaDoorAZzR
import Derived.ArgAppend
set_option linter.unusedSimpArgs false
set_option linter.unusedVariables false
/-! append. -/
namespace Go.Av

theorem RelX.world {E : Env} {M : Nat → Option HT} {G : Nat → Prop} {s : ASt} {a : Act} {w w' : World} (h : RelX E M G s a w) (hw : Ext (fun _ => False) w w') : RelX E M G s a w' := by
  have hb : ∀ b, b < w.heap.size → w'.heap[b]? = w.heap[b]? := fun b hb => hw.block b hb (fun h => h)
  refine ⟨h.er, fun r T hT => (h.sat r T hT).congr (fun b hx => hb b (h.own r T hT b hx).1) (fun b hx => hb b (h.gd b hx).1) (fun _ hx => hx), h.nd, h.dj, fun r T hT x hx => ?_, fun x hx => ?_, h.g0, fun i => ?_, ?_, h.df, h.nt, h.n1, h.pv⟩
  · obtain ⟨h1, h2, h3⟩ := h.own r T hT x hx
    exact ⟨Nat.lt_of_lt_of_le h1 hw.size, h2, h3⟩
  · obtain ⟨h1, h2⟩ := h.gd x hx
    exact ⟨Nat.lt_of_lt_of_le h1 hw.size, h2⟩
  · exact (h.sl i).congr (fun b hx => hb b (h.gd b hx).1) (fun _ hx => hx)
  · exact h.ext.trans hw (fun i _ hi => hi.elim)

theorem drew_ext (w : World) : Ext (fun _ => False) w w.drew := ⟨rfl, rfl, rfl, Nat.le_refl _, fun _ _ _ => rfl⟩

/-- What 'append' does to a row that belongs to nobody else. -/
theorem run_app {P : Program} {t ty : TypeId} {zs : List Value} {by_ : Nat} (hz : zcT P t = some (zs, by_)) (hz0 : 0 < zs.length) (w : World) {u : Value} {k : Nat} {olds : List Value}
    (hu : (u = .slice none 0 0 ∧ k = 0 ∧ olds = []) ∨ ∃ (b cap : Nat) (C : Array Value) (e0 : TypeId), u = .slice (some ⟨b, 0, none⟩) k cap ∧ w.heap[b]? = some (.cells C e0 (0, 0)) ∧ k ≤ cap ∧ C.size = cap * zs.length ∧ olds.length = k * zs.length ∧ ∀ (j : Nat) (v : Value), olds[j]? = some v → C[j]? = some v)
    {A : Option Addr} {m c : Nat} {news : List Value} (hl : news.length = m * zs.length) (hnews : ∀ (j : Nat) (v : Value), news[j]? = some v → ∃ ad, A = some ad ∧ w.cell? (ad.add j) = some v) (h1 : ∀ v ∈ news, v.oneCell' = true)
    (b1 : k + m ≤ 9223372036854775807) (b2 : (k + m) * by_ ≤ 140737488355328) :
    (u = .slice none 0 0 ∧ m = 0 ∧ (Builtin.append_ #[t, t] ty #[u, .slice A m c]).run P w = .ok (.slice none 0 0) w) ∨
    (∃ b cap, u = .slice (some ⟨b, 0, none⟩) k cap ∧ k + m ≤ cap ∧ (Builtin.append_ #[t, t] ty #[u, .slice A m c]).run P w = .ok (.slice (some ⟨b, 0, none⟩) (k + m) cap) (w.setCells b (k * zs.length) news)) ∨
    (∃ (cap' : Nat) (C' : Array Value) (e : TypeId), k + m ≤ cap' ∧ cap' ≤ 9223372036854775807 ∧ C'.size = cap' * zs.length ∧ (∀ (j : Nat) (v : Value), (olds ++ news)[j]? = some v → C'[j]? = some v) ∧
      (Builtin.append_ #[t, t] ty #[u, .slice A m c]).run P w = .ok (.slice (some ⟨w.heap.size, 0, none⟩) (k + m) cap') (w.drew.alloc (.cells C' e))) := by
  obtain ⟨e, i, z, ht, hi, hzz, h5, h6, h7, _⟩ := zcT_spec hz
  subst h6
  rw [← h7] at hl hz0 ⊢
  have hzs : z.cells.size = i.size := by rw [h7, ← h5]; simp
  have hmax : ∀ old, grownCap w (k + m) old e ≤ 9223372036854775807 := fun old => by
    have := grownCap_le_maxLen w (k + m) old e (by simp only [maxLen]; omega)
    simp only [maxLen] at this; omega
  have hsize : ∀ (old : Nat) (l : List Value), l.length = (k + m) * i.size → (l.toArray ++ Builtin.zeroCells z.cells (grownCap w (k + m) old e - (k + m))).size = grownCap w (k + m) old e * i.size := fun old l hll => by
    have := grownCap_ge w (k + m) old e
    rw [Array.size_append, List.size_toArray, size_zeroCells, hzs, hll, ← Nat.add_mul]
    congr 1; omega
  rcases hu with ⟨rfl, rfl, rfl⟩ | ⟨b, cap, C, e0, rfl, hb, hkc, hC, hol, holds⟩
  · by_cases hm : m = 0
    · subst hm
      refine .inl ⟨rfl, rfl, ?_⟩
      have : (Builtin.firstCells i.size 0 (.slice A 0 c)).run P w = .ok #[] w := by
        cases A <;> simp [Builtin.firstCells, loadCells, loadCellsFrom]
      simp [Builtin.append_, run_underlying ht, sizeOf, typeInfo, hi, Builtin.lenOf, this]
    · have h0 : 0 < news.length := by rw [hl]; exact Nat.mul_pos (by omega) hz0
      obtain ⟨ad, rfl, _⟩ := hnews 0 news[0] (List.getElem?_eq_getElem h0)
      have hr := run_append_nil (P := P) w t ty e i z ht hi hzz ad m c news hl (fun j v hj => by obtain ⟨ad', h, h'⟩ := hnews j v hj; cases h; exact h') (by omega) (by omega) (by simp only [Nat.zero_add] at b2; omega)
      have g2 := hmax 0
      have g3 := hsize 0 news (by simpa using hl)
      simp only [Nat.zero_add, List.nil_append] at g2 g3 ⊢
      refine .inr (.inr ⟨_, _, e, grownCap_ge w m 0 e, g2, g3, ?_, hr⟩)
      intro j v hj
      have := (List.getElem?_eq_some_iff.1 hj).1
      rw [Array.getElem?_append_left (by simpa using this)]
      simpa using hj
  · have holdc : ∀ (j : Nat) (v : Value), olds[j]? = some v → w.cell? ((⟨b, 0, none⟩ : Addr).add j) = some v := fun j v hj => by
      rw [add0, Nat.zero_add]
      simp [World.cell?, hb, holds j v hj]
    by_cases hm : m = 0
    · subst hm
      refine .inr (.inl ⟨b, cap, rfl, by omega, ?_⟩)
      have hn : news = [] := List.eq_nil_of_length_eq_zero (by simpa using hl)
      subst hn
      have : (Builtin.firstCells i.size 0 (.slice A 0 c)).run P w = .ok #[] w := by
        cases A <;> simp [Builtin.firstCells, loadCells, loadCellsFrom]
      simp [Builtin.append_, run_underlying ht, sizeOf, typeInfo, hi, Builtin.lenOf, this, hkc, storeCells, World.setCells]
    · have h0 : 0 < news.length := by rw [hl]; exact Nat.mul_pos (by omega) hz0
      obtain ⟨ad, rfl, _⟩ := hnews 0 news[0] (List.getElem?_eq_getElem h0)
      have hn' : ∀ (j : Nat) (v : Value), news[j]? = some v → w.cell? (ad.add j) = some v := fun j v hj => by obtain ⟨ad', h, h'⟩ := hnews j v hj; cases h; exact h'
      by_cases hroom : k + m ≤ cap
      · refine .inr (.inl ⟨b, cap, rfl, hroom, ?_⟩)
        have := run_append_room_cells (P := P) w t ty e i ht hi b 0 k cap ad m c news hl hn' h1 hroom (fun j hj => by
          have : k * i.size + j < C.size := by
            rw [hC, ← h7]
            have : (k + m) * i.size ≤ cap * i.size := Nat.mul_le_mul_right _ hroom
            rw [Nat.add_mul] at this; omega
          simp [World.cell?, hb, this]) (fun j hj => by simp [World.frozen?, hb])
        simpa using this
      · refine .inr (.inr ⟨_, _, e, ?_, ?_, ?_, ?_, run_append_grow w t ty e i z ht hi hzz ⟨b, 0, none⟩ k cap olds (by rw [hol, h7]) holdc ad m c news hl hn' (by omega) (by omega) (growslice_fits (by omega) b2)⟩)
        · exact grownCap_ge w (k + m) cap e
        · exact hmax cap
        · have := hsize cap (olds ++ news) (by rw [List.length_append, hol, hl, ← h7, Nat.add_mul])
          simpa using this
        · intro j v hj
          have := (List.getElem?_eq_some_iff.1 hj).1
          have e1 : olds.toArray ++ news.toArray = (olds ++ news).toArray := by simp
          rw [e1, Array.getElem?_append_left (by simpa using this)]
          simpa using hj

section
variable {E : Env} {s s1 : ASt} {d : Nat} {x y : Operand} {t ty xt : TypeId} {pos : String} {after : Array Edge} {g : Option (Nat × Bool)} {R : ASt → Prop}
theorem append_core {M : Nat → Option HT} {G : Nat → Prop} {a : Act} {w : World} (hX : RelX E M G s1 a w) (hd : d < E.nt) {zs : List Value} {by_ : Nat} (hz : zcT E.P t = some (zs, by_)) (hz0 : 0 < zs.length)
    {T : HT} {Vs : List HT} {k m : Nat} {cs : List AV} (hT : Sat w G T) (hTe : T.erase = .row true zs.length k cs) (hTv : T.value = a.eval x) (hTn : T.blocks.Nodup)
    (hTf : ∀ b ∈ T.blocks, (∀ r T', M r = some T' → b ∉ T'.blocks) ∧ b < w.heap.size ∧ ¬ G b ∧ (E.w0.heap.size ≤ b ∨ E.X b))
    {A : Option Addr} {c : Nat} (hu : a.eval y = .slice A m c) (hVl : Vs.length = m * zs.length) (hVs : ∀ V ∈ Vs, Sat w G V ∧ V.value.oneCell' = true) (hVn : (Vs.flatMap HT.blocks).Nodup)
    (hVf : ∀ b ∈ Vs.flatMap HT.blocks, (∀ r T', M r = some T' → b ∉ T'.blocks) ∧ b < w.heap.size ∧ ¬ G b ∧ (E.w0.heap.size ≤ b ∨ E.X b)) (hVT : ∀ b ∈ Vs.flatMap HT.blocks, b ∉ T.blocks)
    (hVc : ∀ (j : Nat) (V : HT), Vs[j]? = some V → ∃ ad, A = some ad ∧ w.cell? (ad.add j) = some V.value)
    (b1 : k + m ≤ 9223372036854775807) (b2 : (k + m) * by_ ≤ 140737488355328) {K : Act → World → Prop} {Q : Exit → Act → World → Prop}
    (hK : ∀ a' w', Rel E (s1.new d (.sl d [] 0 (k + m)) (.row true zs.length (k + m) (cs ++ HT.erases Vs))) a' w' → K a' w') :
    (⟨some d, .call { callee := .builtin .append, args := #[x, y], argTypes := #[t, t] }, ty, pos, after, g⟩ : Oper).wp E.P a w K Q := by
  -- the old row
  obtain ⟨Ks, hKe, hKv, hKsub⟩ : ∃ Ks : List HT, HT.erases Ks = cs ∧ ((T.value = .slice none 0 0 ∧ k = 0 ∧ Ks = []) ∨ ∃ (b cap : Nat) (C : Array Value) (e0 : TypeId), T.value = .slice (some ⟨b, 0, none⟩) k cap ∧ w.heap[b]? = some (.cells C e0 (0, 0)) ∧ k ≤ cap ∧ cap ≤ 9223372036854775807 ∧ C.size = cap * zs.length ∧ Ks.length = k * zs.length ∧
      (∀ (i : Nat) (K : HT), Ks[i]? = some K → C[i]? = some K.value ∧ Sat w G K) ∧ T.blocks = b :: Ks.flatMap HT.blocks) ∧ True := by
    cases hT with
    | leaf a v ha _ => cases a with
      | row o _ _ _ => cases o <;> simp_all [HT.erase, AV.leafOk]
      | _ => simp_all [HT.erase, AV.leafOk]
    | row b sz n cap cs' C e g1 g2 g3 g4 g5 g6 g7 g8 =>
      simp only [HT.erase, AV.row.injEq, true_and] at hTe
      obtain ⟨rfl, rfl, rfl⟩ := hTe
      exact ⟨cs', rfl, .inr ⟨b, cap, C, e, rfl, g1, g3, g6, g4, g2, fun i K hK => ⟨g7 i K hK, g8 i K hK⟩, by simp [HT.blocks, HT.blockss_eq]⟩, trivial⟩
    | nilrow sz =>
      simp only [HT.erase, AV.row.injEq, true_and] at hTe
      obtain ⟨rfl, rfl, rfl⟩ := hTe
      exact ⟨[], rfl, .inl ⟨rfl, rfl, rfl⟩, trivial⟩
    | box => simp [HT.erase] at hTe
    | agg => simp [HT.erase] at hTe
    | tup => simp [HT.erase] at hTe
  subst hKe
  have hnews : ∀ (j : Nat) (v : Value), (HT.values Vs)[j]? = some v → ∃ ad, A = some ad ∧ w.cell? (ad.add j) = some v := fun j v hj => by
    rw [HT.values_eq, List.getElem?_map] at hj
    cases hV : Vs[j]? with
    | none => rw [hV] at hj; cases hj
    | some V =>
      rw [hV] at hj
      simp only [Option.map_some, Option.some.injEq] at hj
      subst hj
      exact hVc j V hV
  have hone : ∀ v ∈ HT.values Vs, v.oneCell' = true := fun v hv => by
    rw [HT.values_eq] at hv
    obtain ⟨V, h1, rfl⟩ := List.mem_map.1 hv
    exact (hVs V h1).2
  have hKblk : ∀ x ∈ Ks.flatMap HT.blocks, x ∈ T.blocks := fun x hx => by
    rcases hKv with ⟨_, _, rfl⟩ | ⟨b, cap, C, e0, _, _, _, _, _, _, _, h⟩
    · simp at hx
    · rw [h]; exact List.mem_cons_of_mem _ hx
  have hKnd : (Ks.flatMap HT.blocks).Nodup := by
    rcases hKv with ⟨_, _, rfl⟩ | ⟨b, cap, C, e0, _, _, _, _, _, _, _, h⟩
    · simp
    · rw [h] at hTn; exact (List.nodup_cons.1 hTn).2
  have hKsat : ∀ K ∈ Ks, Sat w G K := fun K hK' => by
    rcases hKv with ⟨_, _, rfl⟩ | ⟨b, cap, C, e0, _, _, _, _, _, _, h, _⟩
    · simp at hK'
    · obtain ⟨i, hi⟩ := List.getElem?_of_mem hK'
      exact (h i K hi).2
  have hall : ((Ks ++ Vs).flatMap HT.blocks).Nodup := by
    rw [List.flatMap_append, List.nodup_append]
    exact ⟨hKnd, hVn, fun x hx y hy e => hVT y hy (by subst e; exact hKblk _ hx)⟩
  have hallf : ∀ b ∈ (Ks ++ Vs).flatMap HT.blocks, (∀ r T', M r = some T' → b ∉ T'.blocks) ∧ b < w.heap.size ∧ ¬ G b ∧ (E.w0.heap.size ≤ b ∨ E.X b) := fun b hb => by
    rw [List.flatMap_append, List.mem_append] at hb
    rcases hb with hb | hb
    · exact hTf b (hKblk b hb)
    · exact hVf b hb
  have hallS : ∀ K ∈ Ks ++ Vs, Sat w G K := fun K hk => (List.mem_append.1 hk).elim (hKsat K) (fun h => (hVs K h).1)
  have her : HT.erases (Ks ++ Vs) = HT.erases Ks ++ HT.erases Vs := by simp [HT.erases_eq]
  have hrun := run_app (P := E.P) (t := t) (ty := ty) hz hz0 w (u := T.value) (k := k) (olds := HT.values Ks) (hKv.imp (fun ⟨h1, h2, h3⟩ => ⟨h1, h2, by subst h3; rfl⟩) (fun ⟨b, cap, C, e0, h1, h2, h3, h4, h5, h6, h7, h8⟩ => ⟨b, cap, C, e0, h1, h2, h3, h5, by rw [HT.values_eq, List.length_map, h6], fun j v hj => by
    rw [HT.values_eq, List.getElem?_map] at hj
    cases hV : Ks[j]? with
    | none => rw [hV] at hj; cases hj
    | some V =>
      rw [hV] at hj
      simp only [Option.map_some, Option.some.injEq] at hj
      subst hj
      exact (h7 j V hV).1⟩)) (A := A) (m := m) (c := c) (news := HT.values Vs) (by rw [HT.values_eq, List.length_map, hVl]) hnews hone b1 b2
  have hexec : ∀ v' w', (Builtin.append_ #[t, t] ty #[T.value, .slice A m c]).run E.P w = .ok v' w' → (execOp a.eval ⟨some d, .call { callee := .builtin .append, args := #[x, y], argTypes := #[t, t] }, ty, pos, after, g⟩).run E.P w = .ok (.value v') w' := fun v' w' h => by
    rw [hTv] at h
    simp [execOp, resolve, invoke, builtin, hu, h, Result.andThen]
  unfold Oper.wp
  rcases hrun with ⟨h1, rfl, h2⟩ | ⟨b, cap, h1, hcap, h2⟩ | ⟨cap', C', e, g1, g2, g3, g4, h2⟩
  · rw [hexec _ _ h2]
    simp only [Oper.upon]
    have hV0 : Vs = [] := List.eq_nil_of_length_eq_zero (by simpa using hVl)
    subst hV0
    have hk : k = 0 ∧ Ks = [] := by
      rcases hKv with ⟨_, h3, h4⟩ | ⟨b, cap, C, e0, h3, _⟩
      · exact ⟨h3, h4⟩
      · rw [h1] at h3; simp at h3
    obtain ⟨rfl, rfl⟩ := hk
    have := hX.new2 (T := .nilrow zs.length) (v := .sl d [] 0 0) (u := .slice none 0 0) hd (w' := w) ⟨rfl, rfl, rfl, Nat.le_refl _, fun _ _ _ => rfl⟩ (.nilrow _) (by simp [HT.blocks]) (by simp [HT.blocks])
      ((Sat.nilrow (w := w) (G := G) zs.length).opened (M := updF M d (some (.nilrow zs.length))) (r := d) (T0 := .nilrow zs.length) (by simp [updF]) (p := []) rfl)
    exact hK _ _ ⟨_, G, by simpa only [Nat.add_zero, HT.erases, List.append_nil, HT.erase] using this⟩
  · rcases hKv with ⟨h3, _⟩ | ⟨b', cap', C, e0, h3, k1, k2, k3, k4, k5, k6, k7⟩
    · rw [h1] at h3; simp at h3
    rw [h1] at h3
    simp only [Value.slice.injEq, Option.some.injEq, Addr.mk.injEq, and_true, true_and] at h3
    obtain ⟨rfl, rfl⟩ := h3
    rw [hexec _ _ h2]
    simp only [Oper.upon]
    have hbT : b ∈ T.blocks := by rw [k7]; simp
    have hfit : k * zs.length + (HT.values Vs).length ≤ C.size := by
      rw [HT.values_eq, List.length_map, hVl, ← Nat.add_mul, k4]
      exact Nat.mul_le_mul_right _ hcap
    obtain ⟨C', c1, c2, c3, c4, c5, c6, c7, c8⟩ := setCells_fx b (HT.values Vs) (k * zs.length) w C e0 (0, 0) k1 hfit
    have hbK : b ∉ (Ks ++ Vs).flatMap HT.blocks := fun hb => by
      rw [List.flatMap_append, List.mem_append] at hb
      rcases hb with hb | hb
      · rw [k7] at hTn; exact (List.nodup_cons.1 hTn).1 hb
      · exact hVT b hb hbT
    have hnew := hX.new2 (T := .row b zs.length (k + m) cap (Ks ++ Vs)) (v := .sl d [] 0 (k + m)) (u := .slice (some ⟨b, 0, none⟩) (k + m) cap) hd (w' := w.setCells b (k * zs.length) (HT.values Vs)) ?_ ?_ ?_ ?_ ?_
    · exact hK _ _ ⟨_, G, by simpa only [HT.erase, her] using hnew⟩
    · refine ⟨c5, c6, c7, by omega, fun i hi hx => c4 i (fun e => hx ?_)⟩
      subst e; simp [HT.blocks]
    · refine .row b _ _ _ _ C' e0 c1 (by rw [List.length_append, k5, hVl, Nat.add_mul]) hcap (by rw [c2, k4]) hz0 k3 (fun i T' hi => ?_) (fun i T' hi => ?_)
      · rw [c3 i]
        by_cases hlt : i < k * zs.length
        · rw [if_neg (by omega)]
          rw [List.getElem?_append_left (by omega)] at hi
          exact (k6 i T' hi).1
        · rw [List.getElem?_append_right (by omega)] at hi
          have := (List.getElem?_eq_some_iff.1 hi).1
          rw [if_pos ⟨by omega, by rw [HT.values_eq, List.length_map]; omega⟩, HT.values_eq, List.getElem?_map]
          rw [k5] at hi; rw [hi]; rfl
      · have hm := List.mem_of_getElem? hi
        refine (hallS T' hm).congr (fun x hx => c4 x (fun e => hbK ?_)) (fun x hx => c4 x (fun e => ?_)) (fun _ h => h)
        · subst e; exact List.mem_flatMap.2 ⟨T', hm, hx⟩
        · subst e; exact (hTf x hbT).2.2.1 hx
    · simp only [HT.blocks, HT.blockss_eq]
      exact List.nodup_cons.2 ⟨hbK, hall⟩
    · intro z hz'
      simp only [HT.blocks, HT.blockss_eq, List.mem_cons] at hz'
      rw [c8]
      rcases hz' with rfl | hz'
      · exact hTf z hbT
      · exact hallf z hz'
    · refine .sl _ _ _ _ _ (fun T' hT' b' sz' n' cap' cs' hN' hle => ?_) (fun T' hT' sz' hN' hle => ?_)
      · simp only [updF, if_true, Option.some.injEq] at hT'; subst hT'
        simp only [HT.at_, Option.some.injEq, HT.row.injEq] at hN'
        obtain ⟨rfl, rfl, rfl, rfl, rfl⟩ := hN'
        exact ⟨_, _, rfl, hcap, by omega, .inr (by simp), fun _ => ⟨rfl, rfl⟩⟩
      · simp only [updF, if_true, Option.some.injEq] at hT'; subst hT'
        simp [HT.at_] at hN'
  · rw [hexec _ _ h2]
    simp only [Oper.upon]
    have hX' := hX.world (drew_ext w)
    have := hX'.newRow hd e (Ts := Ks ++ Vs) zs.length (k + m) cap' C' hz0 (by
      rw [List.length_append, hVl, Nat.add_mul]
      rcases hKv with ⟨_, rfl, rfl⟩ | ⟨b, cap, C, e0, _, _, _, _, _, h5, _⟩
      · simp
      · rw [h5]) g1 g2 g3 (fun i K hi => g4 i K.value (by
      have : HT.values Ks ++ HT.values Vs = HT.values (Ks ++ Vs) := by simp [HT.values_eq]
      rw [this, HT.values_eq, List.getElem?_map, hi]; rfl)) (fun K hk => (hallS K hk).congr (fun _ _ => rfl) (fun _ _ => rfl) (fun _ h => h)) hall hallf
    rw [her] at this
    exact hK _ _ ⟨_, G, this⟩

theorem close_nilslice {sz : Nat} : CloseJ E s (.lit (.slice none 0 0)) (.row true sz 0 []) s := fun M G a w hX u hu =>
  ⟨M, .nilrow sz, hX, by rw [hu.litv]; rfl, rfl, .nilrow sz, by simp [HT.blocks], by simp [HT.blocks], fun v u h => h, fun q T' hq x hx => ⟨q, T', hq, hx⟩⟩
/-- What is appended, read alone. -/
def YJ (E : Env) (s : ASt) (y : AV) (sz m : Nat) (es : List AV) : Prop :=
  ∀ M G a w, RelX E M G s a w → ∀ u, VR w G M y u → ∃ (Vs : List HT) (A : Option Addr) (c : Nat), u = .slice A m c ∧ HT.erases Vs = es ∧ Vs.length = m * sz ∧ (∀ V ∈ Vs, Sat w G V ∧ V.value.oneCell' = true) ∧ Vs.flatMap HT.blocks = [] ∧
    ∀ (j : Nat) (V : HT), Vs[j]? = some V → ∃ ad, A = some ad ∧ w.cell? (ad.add j) = some V.value

theorem l_append {zs : List Value} {by_ k m : Nat} {cs es : List AV} (hd : d < E.nt) (hz : zcT E.P t = some (zs, by_)) (hz0 : 0 < zs.length) (hx : CloseJ E s (s.ev x) (.row true zs.length k cs) s1) (hy : YJ E s (s.ev y) zs.length m es)
    (b1 : k + m ≤ 9223372036854775807) (b2 : (k + m) * by_ ≤ 140737488355328) (hR : R (s1.new d (.sl d [] 0 (k + m)) (.row true zs.length (k + m) (cs ++ es)))) :
    LJ E ⟨some d, .call { callee := .builtin .append, args := #[x, y], argTypes := #[t, t] }, ty, pos, after, g⟩ s R := by
  rintro a w ⟨M, G, hX⟩
  obtain ⟨M1, T, h1, h2, h3, h4, h5, h6, h7, h8⟩ := hx M G a w hX _ (hX.ev x)
  obtain ⟨Vs, A, c, v1, v2, v3, v4, v5, v6⟩ := hy M G a w hX _ (hX.ev y)
  subst v2
  exact append_core (x := x) (y := y) h1 hd hz hz0 h4 h3 h2 h5 (fun b hb => (h6 b hb).2) v1 v3 v4 (by rw [v5]; simp) (by rw [v5]; simp) (by rw [v5]; simp) v6 b1 b2 (fun a' w' h => ⟨_, h, hR⟩)
/-- With all that belongs to what is appended. -/
theorem l_appendMove {zs : List Value} {by_ k m : Nat} {cs es : List AV} (hd : d < E.nt) (hz : zcT E.P t = some (zs, by_)) (hz0 : 0 < zs.length) (hxy : CloseLJ E s [s.ev x, s.ev y] [.row true zs.length k cs, .row true zs.length m es] s1) (hf : fitCs es = true)
    (b1 : k + m ≤ 9223372036854775807) (b2 : (k + m) * by_ ≤ 140737488355328) (hR : R (s1.new d (.sl d [] 0 (k + m)) (.row true zs.length (k + m) (cs ++ es)))) :
    LJ E ⟨some d, .call { callee := .builtin .append, args := #[x, y], argTypes := #[t, t] }, ty, pos, after, g⟩ s R := by
  rintro a w ⟨M, G, hX⟩
  obtain ⟨M1, Ts, h1, h2, h3, h4, h5, h6, h7, h8⟩ := hxy M G a w hX [a.eval x, a.eval y] rfl (fun i c z a1 a2 => by
        match i, a1, a2 with
        | 0, a1, a2 => simp only [List.getElem?_cons_zero, Option.some.injEq] at a1 a2; subst a1; subst a2; exact hX.ev x
        | 1, a1, a2 => simp only [List.getElem?_cons_succ, List.getElem?_cons_zero, Option.some.injEq] at a1 a2; subst a1; subst a2; exact hX.ev y
        | i + 2, a1, a2 => simp at a1)
  obtain ⟨T, U, rfl⟩ : ∃ T U, Ts = [T, U] := by
    match Ts, h2 with
    | [T, U], _ => exact ⟨T, U, rfl⟩
    | [], h2 => simp [HT.values] at h2
    | [_], h2 => simp [HT.values] at h2
    | _ :: _ :: _ :: _, h2 => simp [HT.values] at h2
  · simp only [HT.values, List.cons.injEq, and_true] at h2
    simp only [HT.erases, List.cons.injEq, and_true] at h3
    obtain ⟨h3a, h3⟩ := h3
    simp only [HT.blockss, List.append_nil] at h5 h6
    have hT := h4 0 T rfl
    have hU := h4 1 U rfl
    rw [List.nodup_append] at h5
    have hUf : ∀ b ∈ U.blocks, _ := fun b hb => (h6 b (List.mem_append.2 (.inr hb))).2
    generalize hUU : U = U' at hU
    cases hU with
    | leaf a v ha _ => cases a with
      | row o _ _ _ => cases o <;> simp_all [HT.erase, AV.leafOk]
      | _ => simp_all [HT.erase, AV.leafOk]
    | row b sz n cap cs' C e g1 g2 g3 g4 g5 g6 g7 g8 =>
      subst hUU
      simp only [HT.erase, AV.row.injEq, true_and] at h3
      obtain ⟨rfl, rfl, rfl⟩ := h3
      simp only [HT.blocks, HT.blockss_eq] at h5 h6 hUf
      refine append_core (x := x) (y := y) (Vs := cs') h1 hd hz hz0 hT h3a h2.1 h5.1 (fun b hb => (h6 b (List.mem_append.2 (.inl hb))).2) (A := some ⟨b, 0, none⟩) (c := cap) (by rw [← h2.2]; rfl) g2 (fun V hV => ?_) (List.nodup_cons.1 h5.2.1).2 (fun x hx => hUf x (List.mem_cons_of_mem _ hx)) (fun x hx hx' => h5.2.2 x hx' x (List.mem_cons_of_mem _ hx) rfl) (fun j V hj => ⟨_, rfl, ?_⟩) b1 b2 (fun a' w' h => ⟨_, h, hR⟩)
      · obtain ⟨i, hi⟩ := List.getElem?_of_mem hV
        refine ⟨g8 i V hi, (fit_val (g8 i V hi) (fitCs_mem.1 hf _ ?_)).1⟩
        rw [HT.erases_eq]; exact List.mem_map.2 ⟨V, hV, rfl⟩
      · rw [add0, Nat.zero_add]
        simp [World.cell?, g1, g7 j V hj]
    | nilrow sz =>
      subst hUU
      simp only [HT.erase, AV.row.injEq, true_and] at h3
      obtain ⟨rfl, rfl, rfl⟩ := h3
      exact append_core (x := x) (y := y) (Vs := []) h1 hd hz hz0 hT h3a h2.1 h5.1 (fun b hb => (h6 b (List.mem_append.2 (.inl hb))).2) (A := none) (c := 0) (by rw [← h2.2]; rfl) (by simp) (by simp) (by simp) (by simp) (by simp) (by simp) b1 b2 (fun a' w' h => ⟨_, h, hR⟩)
    | box => subst hUU; simp [HT.erase] at h3
    | agg => subst hUU; simp [HT.erase] at h3
    | tup => subst hUU; simp [HT.erase] at h3
end
end Go.Av
