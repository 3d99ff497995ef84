/- slices.Insert: the room of a row that came in ('cap'), a row made longer within its room, copies of cells, an append that needs a new row. -/
import Derived.Test.YtgogbjfmbfijiaaBYh
import Derived.Lib.Overlaps
set_option linter.unusedSimpArgs false
set_option linter.unusedVariables false
/-! slices.Insert: the room of a row that came in ('cap'), a row made longer within its room, copies of cells, an append that needs a new row. -/
namespace Go.Av
theorem pv_row {E : Env} {M : Nat → Option HT} {G : Nat → Prop} {s : ASt} {a : Act} {w : World} (hX : RelX E M G s a w) {r sz n : Nat} {cs : List AV} {v : Value} (hp : E.pv r = some v) (hm : s.m r = some (.row true sz n cs)) :
    ∃ T, M r = some T ∧ T.value = v ∧ T.erase = .row true sz n cs ∧ Sat w G T := by
  obtain ⟨_, T, h1, h2⟩ := hX.pv r v hp
  have he := hX.er r
  rw [hm, h1] at he
  simp only [Option.map_some, Option.some.injEq] at he
  exact ⟨T, h1, h2, he.symm, hX.sat r T h1⟩
/-- What is known of the value of a row that came in. -/
theorem awp_pvcap {E : Env} {c : Code} {K : AX → ASt → Prop} {s : ASt} {r sz n : Nat} {cs : List AV} {v : Value} (hp : E.pv r = some v) (hm : s.m r = some (.row true sz n cs))
    (h : ∀ A cp, v = .slice A n cp → n ≤ cp → cp ≤ 9223372036854775807 → AWP E c K s) : AWP E c K s := by
  rintro a w ⟨M, G, hX⟩
  obtain ⟨T, h1, h2, h3, hs⟩ := pv_row hX hp hm
  cases hs with
  | row b sz' n' cap cs' C e g1 g2 g3 g4 g5 g6 g7 g8 =>
    simp only [HT.erase, AV.row.injEq, true_and] at h3
    obtain ⟨rfl, rfl, _⟩ := h3
    exact h _ _ h2.symm g3 g6 a w ⟨M, G, hX⟩
  | nilrow sz' =>
    simp only [HT.erase, AV.row.injEq, true_and] at h3
    obtain ⟨rfl, rfl, _⟩ := h3
    exact h _ _ h2.symm (Nat.le_refl _) (by decide) a w ⟨M, G, hX⟩
  | leaf a' v' ha _ => cases a' with
    | row o _ _ _ => cases o <;> simp_all [HT.erase, AV.leafOk]
    | _ => simp_all [HT.erase, AV.leafOk]
  | box => simp [HT.erase] at h3
  | agg => simp [HT.erase] at h3
  | tup => simp [HT.erase] at h3
/-- A row that is not needed any more. -/
theorem awp_drop {E : Env} {c : Code} {K : AX → ASt → Prop} {s : ASt} {r : Nat} {A : AV} (hm : s.m r = some A) (h : AWP E c K (s.updM r [] .junk)) : AWP E c K s := by
  rintro a w ⟨M, G, hX⟩
  have he := hX.er r
  rw [hm] at he
  cases hM : M r with
  | none => rw [hM] at he; cases he
  | some T =>
    obtain ⟨h1, _⟩ := hX.take hM (p := []) rfl
    exact h a w ⟨_, G, h1⟩
theorem run_copyN {P : Program} (w : World) (dT sT ty elem : TypeId) {i : TypeInfo} (b o dLen dCap : Nat) (a : Addr) (sLen sCap : Nat) (cs : List Value)
    (hu : P.underlying dT = some (.slice elem)) (hs : P.info? elem = some i) (hn : cs.length = Nat.min sLen dLen * i.size)
    (hsrc : ∀ j v, cs[j]? = some v → w.cell? (a.add j) = some v) (hc : ∀ j, j < cs.length → (w.cell? ⟨b, o + j, none⟩).isSome = true) (hf : ∀ j, j < cs.length → w.frozen? ⟨b, o + j, none⟩ = false) (h1 : ∀ v ∈ cs, v.oneCell' = true) :
    (Builtin.copy_ #[dT, sT] ty #[.slice (some ⟨b, o, none⟩) dLen dCap, .slice (some a) sLen sCap]).run P w = .ok (goInt (Nat.min sLen dLen)) (w.setCells b o cs) := by
  have hl := run_loadCells_list (P := P) w a cs hsrc
  have hst := run_storeCells_cells (P := P) b o cs 0 w (by simpa using hc) (by simpa using hf) h1
  simp [Builtin.copy_, run_underlying hu, Builtin.lenOf, Builtin.firstCells, sizeOf, typeInfo, hs, ← hn, hl, hst]
section
variable {E : Env} {s s1 : ASt} {d : Nat} {x y : Operand} {t ty xt : TypeId} {pos : String} {after : Array Edge} {g : Option (Nat × Bool)} {R : ASt → Prop}
theorem l_cap {r n sz sz' c : Nat} {cs : List AV} {A : Option Addr} (hd : d < E.nt) (ht : slT E.P t = some sz') (hx : s.ev x = .sl r [] 0 n) (hm : s.m r = some (.row true sz n cs)) (hp : E.pv r = some (.slice A n c)) (hR : R (s.set d (.lit (.int .i64 c)))) :
    LJ E ⟨some d, .call { callee := .builtin .cap, args := #[x], argTypes := #[t] }, ty, pos, after, g⟩ s R := by
  obtain ⟨e, i, hu, _⟩ := slT_spec ht
  rintro a w ⟨M, G, hX⟩
  have hv := hX.ev x
  rw [hx] at hv
  obtain ⟨T, h1, h2, h3, hs⟩ := pv_row hX hp hm
  have hval : a.eval x = .slice A n c := by
    generalize a.eval x = v at hv
    cases hv with
    | sl _ _ _ _ _ q q0 =>
      cases hs with
      | row b sz' n' cap cs' C e g1 g2 g3 g4 g5 g6 g7 g8 =>
        simp only [HT.erase, AV.row.injEq, true_and] at h3
        obtain ⟨rfl, rfl, _⟩ := h3
        obtain ⟨A0, c0, rfl, _, _, _, q5⟩ := q _ h1 b _ _ cap cs' rfl (by omega)
        obtain ⟨rfl, rfl⟩ := q5 rfl
        exact h2
      | nilrow sz' =>
        simp only [HT.erase, AV.row.injEq, true_and] at h3
        obtain ⟨rfl, rfl, _⟩ := h3
        rw [q0 _ h1 _ rfl (by omega)]
        exact h2
      | leaf a' v' ha _ => cases a' with
        | row o _ _ _ => cases o <;> simp_all [HT.erase, AV.leafOk]
        | _ => simp_all [HT.erase, AV.leafOk]
      | box => simp [HT.erase] at h3
      | agg => simp [HT.erase] at h3
      | tup => simp [HT.erase] at h3
  have key := run_cap_slice (P := E.P) w t ty A n c (by rw [hu]; simp [Program.elem, hu])
  unfold Oper.wp
  simp [execOp, resolve, invoke, builtin, hval, key, Oper.upon, Result.andThen]
  exact ⟨_, ⟨M, G, hX.set hd (Ext.refl _ _) (.lit _)⟩, hR⟩
/-- A row made longer, within its room. -/
theorem l_slExt {r n sz c h : Nat} {cs : List AV} {A : Option Addr} {yh : Operand} {k : IntKind} (hd : d < E.nt) (ht : slT E.P xt = some sz) (hx : s.ev x = .sl r [] 0 n) (hm : s.m r = some (.row true sz n cs)) (hp : E.pv r = some (.slice A n c))
    (hy : s.ev yh = .lit (.int k h)) (h1 : n ≤ h) (h2 : h ≤ c) (hR : R ((s.updM r [] .junk).new d (.sl d [] 0 h) (.row true sz h (cs ++ List.replicate (h * sz - n * sz) .junk)))) :
    LJ E ⟨some d, .slice xt x none (some yh) none, t, pos, after, g⟩ s R := by
  rintro a w ⟨M, G, hX⟩
  have hv := hX.ev x
  rw [hx] at hv
  have hyv := hX.lit (Le.refl s) hy
  obtain ⟨T, hM, hT2, hT3, hs⟩ := pv_row hX hp hm
  obtain ⟨t1, t2, t3, t4⟩ := hX.take hM (p := []) rfl
  have hrun : ∀ A' c', c' = c → (a.eval x = .slice A' n c') → (execOp a.eval ⟨some d, .slice xt x none (some yh) none, t, pos, after, g⟩).run E.P w = .ok (.value (.slice (if c' = 0 then A' else A'.map (·.add (0 * sz))) (h - 0) (c' - 0))) w := fun A' c' hc hav => by
    subst hc
    simp only [execOp, Sem.run_bind, hav, hyv, Option.map_some, Option.map_none]
    rw [run_slCap (P := E.P) w ht _ n c' (low := none) (high := some (.int k h)) (l := 0) (h := h) (.inl ⟨rfl, rfl⟩) ⟨k, rfl⟩ (by omega) h2]
    rfl
  generalize hav : a.eval x = v at hv hrun
  cases hv with
  | sl _ _ _ _ _ q q0 =>
    cases hs with
    | row b sz' n' cap cs' C e g1 g2 g3 g4 g5 g6 g7 g8 =>
      simp only [HT.erase, AV.row.injEq, true_and] at hT3
      obtain ⟨rfl, rfl, hcs⟩ := hT3
      obtain ⟨A0, c0, rfl, _, _, _, q5⟩ := q _ hM b _ _ cap cs' rfl (by omega)
      obtain ⟨rfl, rfl⟩ := q5 rfl
      have hc : c0 = c := by simp only [HT.value, Value.slice.injEq, true_and] at hT2; exact hT2.2
      subst hc
      unfold Oper.wp
      rw [hrun _ _ rfl rfl]
      simp only [Oper.upon, Nat.sub_zero, Nat.zero_mul]
      have hval : (if c0 = 0 then some (⟨b, 0, none⟩ : Addr) else (some (⟨b, 0, none⟩ : Addr)).map (·.add 0)) = some ⟨b, 0, none⟩ := by split <;> simp [add0]
      rw [hval]
      have hhs : h * sz' ≤ c0 * sz' := Nat.mul_le_mul_right _ h2
      have hns : n' * sz' ≤ h * sz' := Nat.mul_le_mul_right _ h1
      obtain ⟨Z, hZl, hZe, hZg, hZb⟩ : ∃ Z : List HT, Z.length = h * sz' - n' * sz' ∧ HT.erases Z = List.replicate (h * sz' - n' * sz') .junk ∧ (∀ i K, Z[i]? = some K → C[n' * sz' + i]? = some K.value ∧ Sat w G K) ∧ Z.flatMap HT.blocks = [] := by
        refine ⟨(List.range (h * sz' - n' * sz')).map fun i => .leaf .junk (C[n' * sz' + i]?.getD undef), by simp, ?_, fun i K hi => ?_, ?_⟩
        · rw [HT.erases_eq, List.map_map]
          refine List.ext_getElem? (fun j => ?_)
          rw [List.getElem?_map, List.getElem?_replicate]
          by_cases hj : j < h * sz' - n' * sz'
          · rw [if_pos hj, List.getElem?_range hj]; rfl
          · rw [if_neg hj, List.getElem?_eq_none (by simpa using hj)]; rfl
        · rw [List.getElem?_map] at hi
          have hj : i < h * sz' - n' * sz' := by
            apply Classical.byContradiction; intro hn
            rw [List.getElem?_eq_none (by simpa using hn)] at hi; cases hi
          rw [List.getElem?_range hj] at hi
          simp only [Option.map_some, Option.some.injEq] at hi
          subst hi
          have hlt : n' * sz' + i < C.size := by omega
          refine ⟨?_, .leaf _ _ rfl (.junk _)⟩
          rw [Array.getElem?_eq_getElem hlt]; simp [HT.value]
        · rw [List.flatMap_eq_nil_iff]
          intro K hK
          obtain ⟨j, _, rfl⟩ := List.mem_map.1 hK
          rfl
      have hbl : (cs' ++ Z).flatMap HT.blocks = cs'.flatMap HT.blocks := by rw [List.flatMap_append, hZb, List.append_nil]
      have hnew := t1.new2 (T := .row b sz' h c0 (cs' ++ Z)) (v := .sl d [] 0 h) (u := .slice (some ⟨b, 0, none⟩) h c0) hd (w' := w) ⟨rfl, rfl, rfl, Nat.le_refl _, fun _ _ _ => rfl⟩ ?_ ?_ ?_ ?_
      · have her : (HT.row b sz' h c0 (cs' ++ Z)).erase = .row true sz' h (cs ++ List.replicate (h * sz' - n' * sz') .junk) := by
          simp only [HT.erase]
          rw [HT.erases_eq, List.map_append, ← HT.erases_eq, ← HT.erases_eq, hZe, hcs]
        rw [her] at hnew
        exact ⟨_, ⟨_, _, hnew⟩, hR⟩
      · refine .row _ _ _ _ _ C e g1 (by rw [List.length_append, hZl, g2]; omega) h2 g4 g5 g6 (fun i K hi => ?_) (fun i K hi => ?_)
        · by_cases hlt : i < cs'.length
          · rw [List.getElem?_append_left hlt] at hi; exact g7 i K hi
          · rw [List.getElem?_append_right (by omega)] at hi
            have := (hZg _ K hi).1
            rw [← this]; congr 1; omega
        · by_cases hlt : i < cs'.length
          · rw [List.getElem?_append_left hlt] at hi; exact g8 i K hi
          · rw [List.getElem?_append_right (by omega)] at hi; exact (hZg _ K hi).2
      · simp only [HT.blocks, HT.blockss_eq] at t3 ⊢
        rw [hbl]; exact t3
      · intro z hz
        refine t4 z ?_
        simp only [HT.blocks, HT.blockss_eq] at hz ⊢
        rw [hbl] at hz; exact hz
      · refine .sl _ _ _ _ _ (fun T' hT' b1 sz1 n1 cap1 cs1 hN1 hle1 => ?_) (fun T' hT' sz1 hN1 hle1 => ?_)
        · simp only [updF, if_true, Option.some.injEq] at hT'; subst hT'
          simp only [HT.at_, Option.some.injEq, HT.row.injEq] at hN1
          obtain ⟨rfl, rfl, rfl, rfl, rfl⟩ := hN1
          exact ⟨_, _, rfl, h2, by omega, .inr (by simp), fun _ => ⟨rfl, rfl⟩⟩
        · simp only [updF, if_true, Option.some.injEq] at hT'; subst hT'
          simp [HT.at_] at hN1
    | nilrow sz' =>
      simp only [HT.erase, AV.row.injEq, true_and] at hT3
      obtain ⟨rfl, rfl, rfl⟩ := hT3
      have e1 := q0 _ hM _ rfl (by omega)
      subst e1
      have hc : 0 = c := by simp only [HT.value, Value.slice.injEq, true_and] at hT2; exact hT2.2
      subst hc
      obtain rfl : h = 0 := by omega
      unfold Oper.wp
      rw [hrun _ _ rfl rfl]
      simp only [Oper.upon, if_true]
      have hnew := t1.new2 (T := .nilrow sz') (v := .sl d [] 0 0) (u := .slice none 0 0) hd (w' := w) ⟨rfl, rfl, rfl, Nat.le_refl _, fun _ _ _ => rfl⟩ (.nilrow _) (by simp [HT.blocks]) (by simp [HT.blocks])
        ((Sat.nilrow (w := w) (G := G) sz').opened (M := updF _ d (some (.nilrow sz'))) (r := d) (T0 := .nilrow sz') (by simp [updF]) (p := []) rfl)
      exact ⟨_, ⟨_, _, hnew⟩, by simpa [HT.erase] using hR⟩
    | leaf a' v' ha _ => cases a' with
      | row o _ _ _ => cases o <;> simp_all [HT.erase, AV.leafOk]
      | _ => simp_all [HT.erase, AV.leafOk]
    | box => simp [HT.erase] at hT3
    | agg => simp [HT.erase] at hT3
    | tup => simp [HT.erase] at hT3
/-- The first 'k' of the 'm' elements of a slice, read alone. -/
def YK (E : Env) (s : ASt) (y : AV) (sz m k : Nat) (es : List AV) : Prop :=
  ∀ M G a w, RelX E M G s a w → ∀ u, VR w G M y u → ∃ (Vs : List HT) (A : Option Addr) (c : Nat), u = .slice A m c ∧ HT.erases Vs = es ∧ Vs.length = k * sz ∧ (∀ V ∈ Vs, Sat w G V ∧ V.value.oneCell' = true) ∧ Vs.flatMap HT.blocks = [] ∧
    ∀ (j : Nat) (V : HT), Vs[j]? = some V → ∃ ad, A = some ad ∧ w.cell? (ad.add j) = some V.value
theorem yk_own {r off m k sz n : Nat} {p : List Nat} {cs : List AV} (hA : nodeOf s r p = some (.row true sz n cs)) (hl : off + m ≤ n) (hk : k ≤ m) (h1 : leafCs ((cs.drop (off * sz)).take (k * sz)) = true) (h2 : fitCs ((cs.drop (off * sz)).take (k * sz)) = true) :
    YK E s (.sl r p off m) sz m k ((cs.drop (off * sz)).take (k * sz)) := fun M G a w hX u hu => by
  obtain ⟨T, N, hM, hN, hNe, hsT, hsN⟩ := nodeOf_spec hX hA
  cases hu with
  | sl _ _ _ _ _ q q0 =>
    cases hsN with
    | row b sz' n' cap cs' C e g1 g2 g3 g4 g5 g6 g7 g8 =>
      simp only [HT.erase, AV.row.injEq, true_and] at hNe
      obtain ⟨rfl, rfl, rfl⟩ := hNe
      obtain ⟨A, c, rfl, q2, q3, q4, q5⟩ := q T hM b sz' n' cap cs' hN hl
      have hkm : k * sz' ≤ m * sz' := Nat.mul_le_mul_right _ hk
      have hle2 : off * sz' + m * sz' ≤ cs'.length := by
        rw [g2, ← Nat.add_mul]; exact Nat.mul_le_mul_right _ hl
      have her : HT.erases ((cs'.drop (off * sz')).take (k * sz')) = ((HT.erases cs').drop (off * sz')).take (k * sz') := by simp [HT.erases_eq, List.map_take, List.map_drop]
      have hmem : ∀ V ∈ (cs'.drop (off * sz')).take (k * sz'), Sat w G V ∧ V.erase ∈ HT.erases ((cs'.drop (off * sz')).take (k * sz')) := fun V hV => by
        refine ⟨?_, by rw [HT.erases_eq]; exact List.mem_map.2 ⟨V, hV, rfl⟩⟩
        obtain ⟨i, hi⟩ := List.getElem?_of_mem (List.mem_of_mem_drop (List.mem_of_mem_take hV))
        exact g8 i V hi
      rw [← her] at h1 h2 ⊢
      refine ⟨_, A, c, rfl, rfl, by rw [List.length_take, List.length_drop]; omega, fun V hV => ⟨(hmem V hV).1, (fit_val (hmem V hV).1 (fitCs_mem.1 h2 _ (hmem V hV).2)).1⟩, ?_, fun j V hj => ?_⟩
      · rw [List.flatMap_eq_nil_iff]
        exact fun V hV => leaf_of (leafCs_mem.1 h1 _ (hmem V hV).2)
      · have hjl : j < k * sz' := by
          have := (List.getElem?_eq_some_iff.1 hj).1
          rw [List.length_take] at this; omega
        have hm0 : 0 < m := by
          rcases Nat.eq_zero_or_pos m with h | h
          · subst h; simp at hkm; omega
          · exact h
        rw [List.getElem?_take_of_lt hjl, List.getElem?_drop] at hj
        rcases q4 with q4 | q4
        · omega
        · refine ⟨_, q4, ?_⟩
          rw [add0]
          simp [World.cell?, g1, g7 _ V hj]
    | nilrow sz' =>
      simp only [HT.erase, AV.row.injEq, true_and] at hNe
      obtain ⟨rfl, rfl, rfl⟩ := hNe
      have := q0 T hM sz' hN (by omega)
      obtain rfl : m = 0 := by omega
      obtain rfl : k = 0 := by omega
      subst this
      exact ⟨[], none, 0, rfl, by simp [HT.erases], by simp, by simp, rfl, by simp⟩
    | leaf a v ha _ => cases a with
      | row o _ _ _ => cases o <;> simp_all [HT.erase, AV.leafOk]
      | _ => simp_all [HT.erase, AV.leafOk]
    | box => simp [HT.erase] at hNe
    | agg => simp [HT.erase] at hNe
    | tup => simp [HT.erase] at hNe
/-- Copies of leaves. -/
theorem l_copy {r o l1 l2 n sz : Nat} {p : List Nat} {cs es : List AV} {dd : Option Tmp} (hd : ∀ d, dd = some d → d < E.nt) (ht : slT E.P t = some sz) (hx : s.ev x = .sl r p o l1) (hA : nodeOf s r p = some (.row true sz n cs)) (hl : o + l1 ≤ n) (hy : YK E s (s.ev y) sz l2 (min l2 l1) es) (hlf : leafCs es = true) (h0 : 0 < min l2 l1)
    (hR : ∀ s', s' = s.updM r p (.row true sz n (setL cs (o * sz) (es))) → R (match dd with | none => s' | some d => s'.set d (.lit (.int .i64 (min l2 l1 : Nat))))) :
    LJ E ⟨dd, .call { callee := .builtin .copy, args := #[x, y], argTypes := #[t, t] }, ty, pos, after, g⟩ s R := by
  obtain ⟨e, i, hu, hi, hs⟩ := slT_spec ht
  rintro a w ⟨M, G, hX⟩
  obtain ⟨Vs, A, c, hyv, hVe, hVl, hVs, hVb, hVc⟩ := hy M G a w hX _ (hX.ev y)
  obtain ⟨T, N, hM, hN, hNe, hsT, hsN⟩ := nodeOf_spec hX hA
  have hv := hX.ev x
  rw [hx] at hv
  generalize hav : a.eval x = v at hv
  cases hv with
  | sl _ _ _ _ _ q q0 =>
    generalize hNN : N = N' at hsN
    cases hsN with
    | row b sz' n' cap cs' C e0 g1 g2 g3 g4 g5 g6 g7 g8 =>
      subst hNN
      simp only [HT.erase, AV.row.injEq, true_and] at hNe
      obtain ⟨rfl, rfl, hcs⟩ := hNe
      obtain ⟨A0, c0, rfl, q2, q3, q4, q5⟩ := q T hM b sz' n' cap cs' hN hl
      have q4 : A0 = some ⟨b, o * sz', none⟩ := q4.resolve_left (by omega)
      subst q4
      have hml : min l2 l1 * sz' ≤ l2 * sz' := Nat.mul_le_mul_right _ (Nat.min_le_left _ _)
      have hml1 : min l2 l1 * sz' ≤ l1 * sz' := Nat.mul_le_mul_right _ (Nat.min_le_right _ _)
      have hpos : 0 < min l2 l1 * sz' := Nat.mul_pos h0 g5
      have hUt : Vs.take (min l2 l1 * sz') = Vs := List.take_of_length_le (by omega)
      have hUl : (Vs.take (min l2 l1 * sz')).length = min l2 l1 * sz' := by rw [hUt, hVl]
      have hfit : o * sz' + (Vs.take (min l2 l1 * sz')).length ≤ cs'.length := by
        rw [hUl, g2]
        have : (o + l1) * sz' ≤ n' * sz' := Nat.mul_le_mul_right _ hl
        rw [Nat.add_mul] at this; omega
      have hcap : cs'.length ≤ C.size := by rw [g2, g4]; exact Nat.mul_le_mul_right _ g3
      have hVl0 : 0 < Vs.length := by rw [hVl]; omega
      obtain ⟨ad, rfl, _⟩ := hVc 0 Vs[0] (List.getElem?_eq_getElem hVl0)
      have hmem : ∀ K ∈ Vs.take (min l2 l1 * sz'), K ∈ Vs := fun K hK => List.mem_of_mem_take hK
      have hrun : (execOp a.eval ⟨dd, .call { callee := .builtin .copy, args := #[x, y], argTypes := #[t, t] }, ty, pos, after, g⟩).run E.P w = .ok (.value (goInt (Nat.min l2 l1))) (w.setCells b (o * sz') ((Vs.take (min l2 l1 * sz')).map HT.value)) := by
        have := run_copyN (P := E.P) w t t ty e b (o * sz') l1 c0 ad l2 c ((Vs.take (min l2 l1 * sz')).map HT.value) hu hi (by rw [List.length_map, hUl, hs]) (fun j u hj => by
            rw [List.getElem?_map] at hj
            cases hV : (Vs.take (min l2 l1 * sz'))[j]? with
            | none => rw [hV] at hj; cases hj
            | some V =>
              rw [hV] at hj
              simp only [Option.map_some, Option.some.injEq] at hj
              subst hj
              have hjl : j < min l2 l1 * sz' := by have := (List.getElem?_eq_some_iff.1 hV).1; rw [hUl] at this; exact this
              rw [List.getElem?_take_of_lt hjl] at hV
              obtain ⟨ad', e1, e2⟩ := hVc j V hV
              cases e1; exact e2) (fun j hj => by
            have hj' : j < min l2 l1 * sz' := by rw [List.length_map, hUl] at hj; exact hj
            have : o * sz' + j < C.size := by omega
            simp [World.cell?, g1, this]) (fun j hj => by simp [World.frozen?, g1]) (fun u hu => by
            obtain ⟨V, h1, rfl⟩ := List.mem_map.1 hu
            exact (hVs V (hmem V h1)).2)
        simp [execOp, resolve, invoke, builtin, hyv, hav, this, Result.andThen]
      unfold Oper.wp
      rw [hrun]
      simp only [Oper.upon]
      have hleaf : ∀ K ∈ Vs, K.isMem = false ∧ K.kids = [] := fun K hK => by
        have hk : K.erase.leafOk = true := leafCs_mem.1 hlf _ (by rw [← hVe, HT.erases_eq]; exact List.mem_map.2 ⟨K, hK, rfl⟩)
        cases K <;> simp_all [HT.isMem, HT.kids, HT.erase, AV.leafOk]
      have hUb : (Vs.take (min l2 l1 * sz')).flatMap HT.blocks = [] := by
        rw [List.flatMap_eq_nil_iff] at hVb ⊢
        exact fun K hK => hVb K (hmem K hK)
      have hL := hX.layLeaves (o := o * sz') hM hN (b := b) rfl g1 hfit (by rw [hUl]; exact hpos) (fun K hK => (hVs K (hmem K hK)).1) (by rw [hUb]; simp) (fun K hK => hleaf K (hmem K hK)) (by rw [hUb]; simp)
      have he : ((HT.row b sz' n' cap cs').withKids (setL (HT.row b sz' n' cap cs').kids (o * sz') (Vs.take (min l2 l1 * sz')))).erase = .row true sz' n' (setL cs (o * sz') es) := by
        rw [hUt, ← hVe, ← hcs]
        simp [HT.withKids, HT.kids, HT.erase, HT.erases_eq, setL_map, List.map_take]
      rw [he] at hL
      have hR := hR _ rfl
      cases dd with
      | none => exact ⟨_, ⟨_, _, hL⟩, hR⟩
      | some d => exact ⟨_, ⟨_, _, hL.set (hd d rfl) (Ext.refl _ _) (.lit _)⟩, hR⟩
    | nilrow sz' =>
      subst hNN
      simp only [HT.erase, AV.row.injEq, true_and] at hNe
      obtain ⟨rfl, rfl, rfl⟩ := hNe
      omega
    | leaf a' v' ha _ => subst hNN; cases a' with
      | row o _ _ _ => cases o <;> simp_all [HT.erase, AV.leafOk]
      | _ => simp_all [HT.erase, AV.leafOk]
    | box => subst hNN; simp [HT.erase] at hNe
    | agg => subst hNN; simp [HT.erase] at hNe
    | tup => subst hNN; simp [HT.erase] at hNe
/-- append(x, make(..)...): of so many that a new row is needed; the old one stays. -/
theorem run_append_growZ {P : Program} (w : World) (t tn ty e : TypeId) (i : TypeInfo) (z : Value) (ht : P.underlying t = some (.slice e)) (htn : P.underlying tn = some (.int .i64)) (hi : P.info? e = some i) (hz : i.zero = some z)
    (b : Addr) (sLen sCap : Nat) (olds : List Value) (hlo : olds.length = sLen * i.size) (holds : ∀ j v, olds[j]? = some v → w.cell? (b.add j) = some v) (n : Nat) (hn0 : 0 < n) (hs0 : 0 < i.size)
    (hg : sCap < sLen + n) (h63 : ((sLen + n : Nat) : Int) ≤ 9223372036854775807) (h48i : n * i.bytes ≤ 281474976710656) (hfit : Builtin.nextslicecap (sLen + n) sCap * i.bytes ≤ 281474976710656) :
    (Builtin.append_ #[t, tn] ty #[.slice (some b) sLen sCap, .int .i64 n]).run P w =
      .ok (.slice (some ⟨w.heap.size, 0, none⟩) (sLen + n) (grownCap w (sLen + n) sCap e))
        (w.drew.alloc (.cells (olds.toArray ++ Builtin.zeroCells z.cells n ++ Builtin.zeroCells z.cells (grownCap w (sLen + n) sCap e - (sLen + n))) e)) := by
  have hn : ¬ (sLen + n ≤ sCap) := by omega
  have h63' : ¬ (9223372036854775807 < ((sLen : Int) + (n : Int))) := by omega
  have h48' : ¬ (281474976710656 < Builtin.nextslicecap (sLen + n) sCap * i.bytes) := by omega
  have hw : IntKind.i64.wrap (n : Int) = n := by rw [IntKind.wrap_i64]; omega
  have h48j : ¬ (281474976710656 < (n : Int) * (i.bytes : Int)) := by
    rw [← Int.natCast_mul]
    omega
  have hneg : ¬ ((n : Int) < 0) := by omega
  have hns : ¬ (n * i.size = 0) := Nat.mul_ne_zero (by omega) (by omega)
  have hfo := run_firstCells_some (P := P) w.drew i.size sLen b sLen sCap olds hlo (by simpa using holds)
  simp [Builtin.append_, run_underlying ht, run_underlying htn, sizeOf, typeInfo, zeroValue, hi, hz, asInt, asIntOf, hw, hneg, hns, hn, h63', h48', h48j, Question.forced, hfo, newRow, grownCap]
theorem l_appGrowZ {tn : TypeId} {r k nn n sz c by_ : Nat} {cs : List AV} {A : Option Addr} {zs : List Value} (hd : d < E.nt) (hz : zcT E.P t = some (zs, by_)) (hzl : zs.length = sz) (htn : intKd E.P tn = some .i64) (hx : s.ev x = .sl r [] 0 k) (hy : s.ev y = .lit (.int .i64 (nn : Nat)))
    (hm : s.m r = some (.row true sz n cs)) (hp : E.pv r = some (.slice A n c)) (hk : k ≤ n) (hn0 : 0 < n) (hnn : 0 < nn) (hc : c < k + nn) (hlf : leafCs cs = true) (b1 : k + nn ≤ 9223372036854775807) (b2 : (k + nn) * by_ ≤ 140737488355328)
    (hR : R (s.new d (.sl d [] 0 (k + nn)) (.row true sz (k + nn) (cs.take (k * sz) ++ (zCells zs nn).map .lit)))) :
    LJ E ⟨some d, .call { callee := .builtin .append, args := #[x, y], argTypes := #[t, tn] }, ty, pos, after, g⟩ s R := by
  have htn' : E.P.underlying tn = some (.int .i64) := by
    have := of_intKd (P := E.P) (z := tn) (by rw [htn]; rfl)
    rw [htn] at this; exact this
  obtain ⟨e, i, z, u1, u2, u3, u4, u5, u6, _⟩ := zcT_spec hz
  rintro a w ⟨M, G, hX⟩
  obtain ⟨T, hM, hT2, hT3, hs⟩ := pv_row hX hp hm
  have hyv := hX.lit (Le.refl s) hy
  have hv := hX.ev x
  rw [hx] at hv
  generalize hav : a.eval x = v at hv
  cases hv with
  | sl _ _ _ _ _ q q0 =>
    cases hs with
    | row b sz' n' cap cs' C e0 g1 g2 g3 g4 g5 g6 g7 g8 =>
      simp only [HT.erase, AV.row.injEq, true_and] at hT3
      obtain ⟨rfl, rfl, hcs⟩ := hT3
      obtain ⟨A0, c0, rfl, _, _, _, q5⟩ := q _ hM b _ _ cap cs' rfl (by omega)
      obtain ⟨rfl, rfl⟩ := q5 rfl
      have hcc : c0 = c := by simp only [HT.value, Value.slice.injEq, true_and] at hT2; exact hT2.2
      subst hcc
      have hsz : i.size = sz' := u6.trans hzl
      have hks : k * sz' ≤ n' * sz' := Nat.mul_le_mul_right _ hk
      have hol : ((cs'.take (k * sz')).map HT.value).length = k * sz' := by rw [List.length_map, List.length_take, g2]; omega
      have hby : nn * by_ ≤ (k + nn) * by_ := Nat.mul_le_mul_right _ (by omega)
      have hib : i.bytes = by_ := by assumption
      have hrun := run_append_growZ (P := E.P) w t tn ty e i z u1 htn' u2 u3 ⟨b, 0, none⟩ k c0 ((cs'.take (k * sz')).map HT.value) (by rw [hol, hsz]) (fun j u hj => by
          rw [List.getElem?_map] at hj
          cases hV : (cs'.take (k * sz'))[j]? with
          | none => rw [hV] at hj; cases hj
          | some V =>
            rw [hV] at hj
            simp only [Option.map_some, Option.some.injEq] at hj
            subst hj
            have hV' : cs'[j]? = some V := by rw [List.getElem?_take] at hV; split at hV; exact hV; cases hV
            rw [add0, Nat.zero_add]
            simp [World.cell?, g1, g7 j V hV']) nn hnn (by omega) hc (by omega) (by rw [hib]; omega) (growslice_fits (by omega) (by rw [hib]; exact b2))
      unfold Oper.wp
      have hex : ∀ v' w', (Builtin.append_ #[t, tn] ty #[.slice (some ⟨b, 0, none⟩) k c0, .int .i64 (nn : Nat)]).run E.P w = .ok v' w' → (execOp a.eval ⟨some d, .call { callee := .builtin .append, args := #[x, y], argTypes := #[t, tn] }, ty, pos, after, g⟩).run E.P w = .ok (.value v') w' := fun v' w' h => by
        simp [execOp, resolve, invoke, builtin, hav, hyv, h, Result.andThen]
      rw [hex _ _ hrun]
      simp only [Oper.upon]
      have hX' := hX.world (drew_ext w)
      have hzc := zc_list u4 nn (by omega)
      have hge := grownCap_ge w (k + nn) c0 e
      have hle := grownCap_le_maxLen w (k + nn) c0 e (by simp only [maxLen]; omega)
      simp only [maxLen] at hle
      have hzz : z.cells.size = sz' := by rw [← Array.length_toList, u4]; exact hzl
      let Ts : List HT := cs'.take (k * sz') ++ (zCells zs nn).map fun v => .leaf (.lit v) v
      have hTl : Ts.length = (k + nn) * sz' := by simp only [Ts, List.length_append, List.length_map, List.length_take, zCells, List.length_range, g2, hzl]; rw [Nat.add_mul]; omega
      have hTb : Ts.flatMap HT.blocks = [] := by
        rw [List.flatMap_eq_nil_iff]
        intro K hK
        rcases List.mem_append.1 hK with hK | hK
        · exact leaf_of (leafCs_mem.1 hlf _ (by rw [← hcs, HT.erases_eq]; exact List.mem_map.2 ⟨K, List.mem_of_mem_take hK, rfl⟩))
        · obtain ⟨v, _, rfl⟩ := List.mem_map.1 hK; rfl
      have hTe : HT.erases Ts = cs.take (k * sz') ++ (zCells zs nn).map .lit := by
        rw [HT.erases_eq, List.map_append, List.map_map, ← hcs, HT.erases_eq, List.map_take]; rfl
      have hTv : Ts.map HT.value = (cs'.take (k * sz')).map HT.value ++ zCells zs nn := by
        simp only [Ts, List.map_append, List.map_map]
        congr 1
        exact (List.map_congr_left (fun v _ => rfl)).trans (List.map_id _)
      have := hX'.newRow hd e (Ts := Ts) sz' (k + nn) (grownCap w (k + nn) c0 e) (((cs'.take (k * sz')).map HT.value).toArray ++ Builtin.zeroCells z.cells nn ++ Builtin.zeroCells z.cells (grownCap w (k + nn) c0 e - (k + nn))) g5 hTl hge hle (by
          simp only [Array.size_append, List.size_toArray, size_zeroCells, hzz, hol]
          rw [← Nat.add_mul, ← Nat.add_mul]
          congr 1; omega) (fun i K hi => by
          have h1 : (Ts.map HT.value)[i]? = some K.value := by rw [List.getElem?_map, hi]; rfl
          rw [hTv] at h1
          have e1 : (((cs'.take (k * sz')).map HT.value).toArray ++ Builtin.zeroCells z.cells nn) = ((cs'.take (k * sz')).map HT.value ++ zCells zs nn).toArray := by
            apply Array.ext'
            simp [hzc]
          rw [e1, Array.getElem?_append_left (by
            have := (List.getElem?_eq_some_iff.1 h1).1
            simpa using this)]
          simpa using h1) (fun K hK => by
          rcases List.mem_append.1 hK with hK | hK
          · obtain ⟨j, hj⟩ := List.getElem?_of_mem (List.mem_of_mem_take hK)
            exact (g8 j K hj).congr (fun _ _ => rfl) (fun _ _ => rfl) (fun _ h => h)
          · obtain ⟨v, _, rfl⟩ := List.mem_map.1 hK
            exact .leaf _ _ rfl (.lit v)) (by rw [hTb]; simp) (by rw [hTb]; simp)
      rw [hTe] at this
      exact ⟨_, ⟨_, G, this⟩, hR⟩
    | nilrow sz' =>
      simp only [HT.erase, AV.row.injEq, true_and] at hT3
      obtain ⟨rfl, rfl, rfl⟩ := hT3
      omega
    | leaf a' v' ha _ => cases a' with
      | row o _ _ _ => cases o <;> simp_all [HT.erase, AV.leafOk]
      | _ => simp_all [HT.erase, AV.leafOk]
    | box => simp [HT.erase] at hT3
    | agg => simp [HT.erase] at hT3
    | tup => simp [HT.erase] at hT3
/-- slices.overlaps of two rows of the call's own: they lie apart. -/
theorem l_overlaps {f : FuncId} {fn : Func} {fo : Operand} {rt : TypeId} {r1 r2 o1 o2 l1 l2 n1 n2 sz : Nat} {cs1 cs2 : List AV} (hd : d < E.nt) (ht : slT E.P t = some sz) (hf : s.ev fo = .fn f [])
    (h1 : E.P.funcs[f]? = some fn) (h2 : (fn.name == "runtime.NumGoroutine") = false) (h3 : fn.body.isNone = true) (h4 : Extern.findNext fn = none) (h5 : Extern.find fn = some (Extern.SlicesOverlaps.overlaps #[t, t] #[rt]))
    (hx : s.ev x = .sl r1 [] o1 l1) (hy : s.ev y = .sl r2 [] o2 l2) (hm1 : s.m r1 = some (.row true sz n1 cs1)) (hm2 : s.m r2 = some (.row true sz n2 cs2)) (hr : r1 ≠ r2) (hl1 : o1 + l1 ≤ n1) (hl2 : o2 + l2 ≤ n2) (hp1 : 0 < l1) (hp2 : 0 < l2)
    (hR : R (s.set d (.lit (.bool false)))) :
    LJ E ⟨some d, .call { callee := .value fo, args := #[x, y], argTypes := #[t, t] }, ty, pos, after, g⟩ s R := by
  obtain ⟨e, i, hu, hi, hs⟩ := slT_spec ht
  rintro a w ⟨M, G, hX⟩
  have hfv := hX.ev fo
  rw [hf] at hfv
  have hv1 := hX.ev x
  have hv2 := hX.ev y
  rw [hx] at hv1
  rw [hy] at hv2
  have row : ∀ {r o l n : Nat} {cs : List AV} {v : Value}, VR w G M (.sl r [] o l) v → s.m r = some (.row true sz n cs) → o + l ≤ n → 0 < l → ∃ (b cap c : Nat) (C : Array Value) (e0 : TypeId) (T : HT), v = .slice (some ⟨b, o * sz, none⟩) l c ∧ w.heap[b]? = some (.cells C e0 (0, 0)) ∧ 0 < C.size ∧ M r = some T ∧ b ∈ T.blocks := fun {r o l n cs v} hv hm hl hp => by
    have he := hX.er r
    rw [hm] at he
    cases hM : M r with
    | none => rw [hM] at he; cases he
    | some T =>
      rw [hM] at he
      simp only [Option.map_some, Option.some.injEq] at he
      have hsT := hX.sat r T hM
      cases hv with
      | sl _ _ _ _ _ q q0 =>
        cases hsT with
        | row b sz' n' cap cs' C e0 g1 g2 g3 g4 g5 g6 g7 g8 =>
          simp only [HT.erase, AV.row.injEq, true_and] at he
          obtain ⟨rfl, rfl, _⟩ := he
          obtain ⟨A0, c0, rfl, p2, p3, p4, p5⟩ := q _ hM b _ _ cap cs' rfl hl
          have p4 := p4.resolve_left (by omega)
          subst p4
          exact ⟨b, cap, c0, C, e0, _, rfl, g1, by rw [g4]; exact Nat.mul_pos (by omega) g5, rfl, by simp [HT.blocks]⟩
        | nilrow sz' =>
          simp only [HT.erase, AV.row.injEq, true_and] at he
          obtain ⟨rfl, rfl, _⟩ := he
          omega
        | leaf a' v' ha _ => cases a' with
          | row o _ _ _ => cases o <;> simp_all [HT.erase, AV.leafOk]
          | _ => simp_all [HT.erase, AV.leafOk]
        | box => simp [HT.erase] at he
        | agg => simp [HT.erase] at he
        | tup => simp [HT.erase] at he
  obtain ⟨b1, cap1, c1, C1, e1, T1, q1, q2, q3, q4, q5⟩ := row hv1 hm1 hl1 hp1
  obtain ⟨b2, cap2, c2, C2, e2, T2, k1, k2, k3, k4, k5⟩ := row hv2 hm2 hl2 hp2
  have hne : b1 ≠ b2 := fun e => hX.dj r1 r2 T1 T2 hr q4 k4 b1 q5 (e ▸ k5)
  have hov := Lib.run_overlaps_apart (P := E.P) w t rt e hu sz (fun w => by simp [sizeOf, typeInfo, hi, hs]) ⟨b1, o1 * sz, none⟩ ⟨b2, o2 * sz, none⟩ l1 c1 l2 c2 hne e1 e2 C1.size C2.size (by simp [World.shape?, q2]) (by simp [World.shape?, k2]) (by omega) (by simp [World.frozen?, q2]) (by simp [World.frozen?, q2])
  have hcall : (callFunc f #[.slice (some ⟨b1, o1 * sz, none⟩) l1 c1, .slice (some ⟨b2, o2 * sz, none⟩) l2 c2]).run E.P w = .ok (.value (.bool false)) w := by
    rw [run_callFunc_extern h1 h2 h3 h4 h5, hov]; rfl
  generalize hfe : a.eval fo = fv at hfv
  cases hfv with
  | fn _ _ us hul huv =>
    have hus : us = [] := List.eq_nil_of_length_eq_zero (by simpa using hul)
    subst hus
    unfold Oper.wp
    have hex : (execOp a.eval ⟨some d, .call { callee := .value fo, args := #[x, y], argTypes := #[t, t] }, ty, pos, after, g⟩).run E.P w = .ok (.value (.bool false)) w := by
      simp [execOp, resolve, hfe, Deferred.ofValue, invoke, q1, k1, hcall]
    rw [hex]
    exact ⟨_, ⟨M, G, hX.set hd (Ext.refl _ _) (.lit _)⟩, hR⟩
end
theorem DoesX.walkLA {P : Program} {f : FuncId} {fn : Func} {c : Code} {args m m' : List AV} {res : AV} {nt : Nat} (hf : P.funcs[f]? = some fn) (hb : fn.body = some c) (hnt : fn.ntmps = nt) (hn : args.length ≤ nt) (hn1 : nt ≤ 1000) (hmm : m'.length = m.length) (hfull : ∀ a ∈ args, fullArg m a) (hfit : fitCs m = true)
    (h : ∀ (G0 X : Nat → Prop) (w0 : World) (vals : List Value), vals.length = m.length → (∀ v ∈ vals, v.oneCell' = true) → AWP ⟨P, G0, X, w0, nt, regs vals⟩ c (retXK ⟨P, G0, X, w0, nt, regs vals⟩ fn res m') (startX (args.map (litArg vals)) m)) : DoesX P f args m res m' :=
  DoesX.ofL hf hb (by omega) (by omega) hmm hfull hfit (fun E vals e1 e2 e3 e5 e4 => by
    obtain ⟨P', G0, X, w0, nt', pv⟩ := E
    simp only at e1 e2 e4
    subst e1
    rw [hnt] at e2
    subst e2
    subst e4
    exact h G0 X w0 vals e3 e5)
/-- slices.Insert of one element, in plain words. -/
def insL {α : Type} (l : List α) (i : Int) (v : List α) : Option (List α) := if (0 ≤ i ∧ i ≤ l.length) ∧ l.length < 4294967296 ∧ v.length = 1 then some (l.take i.toNat ++ (v ++ l.drop i.toNat)) else none
theorem ins_cellsA {B X V : List AV} {a b n : Nat} (hX : a + X.length = b) (hV : b + V.length = n) (hB : B.length = n) : setL (setL B b V) a X = B.take a ++ (X ++ V) := by
  unfold setL
  have h1 : (B.take b).length = b := by rw [List.length_take]; omega
  rw [hV, List.drop_of_length_le (by omega), List.append_nil, hX, List.take_append_of_le_length (by omega), List.take_take, Nat.min_eq_left (by omega), List.drop_append_of_le_length (by omega), List.drop_of_length_le (by omega), List.nil_append]
theorem ins_cellsB {B X V : List AV} {a b n : Nat} (hX : a + X.length = b) (hV : b + V.length = n) (hB : B.length = n) : setL (setL B a X) b V = B.take a ++ (X ++ V) := by
  have hl : (setL B a X).length = n := by rw [setL_len (by omega), hB]
  have h1 : (B.take a).length = a := by rw [List.length_take]; omega
  have e : (setL B a X).take b = B.take a ++ X := by
    unfold setL
    rw [← List.append_assoc, List.take_append_of_le_length (by rw [List.length_append]; omega), List.take_of_length_le (by rw [List.length_append]; omega)]
  conv => lhs; rw [setL]
  rw [e, hV, List.drop_of_length_le (by omega), List.append_nil, List.append_assoc]
end Go.Av
namespace Go.Av
theorem ai {a b : Prop} (h : a) (k : b) : a ∧ b := ⟨h, k⟩
end Go.Av
/-! What a function as an argument has caught: no places. -/
namespace Go.Av
end Go.Av
