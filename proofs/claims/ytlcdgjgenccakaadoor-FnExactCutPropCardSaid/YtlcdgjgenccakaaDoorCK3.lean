/- An append within a row of one's own whose cells own memory: what is moved is no longer where it was. -/
import Derived.Test.YtlcdgjgenccakaaDoorCK2
import Derived.Lib.Overlaps
import Derived.OrdersIn
import Derived.TacticsIn
import Derived.RangeFuncCalls
section
set_option linter.unusedSimpArgs false
set_option linter.unusedVariables false
/-! An append within a row of one's own whose cells own memory: what is moved is no longer where it was. -/
namespace Go.Av
/-- Cells moved down: 'm' cells from 'o' to 'k'; behind them, up to where they ended, 'z'. -/
def mvL {α : Type} (cs : List α) (k o m : Nat) (zs : List α) : List α := cs.take k ++ ((cs.drop o).take m ++ (zs ++ cs.drop (o + m)))
section
variable {E : Env} {s s1 : ASt} {d : Nat} {x y : Operand} {t ty xt : TypeId} {pos : String} {after : Array Edge} {g : Option (Nat × Bool)} {R : ASt → Prop}
end
end Go.Av
namespace Go.Av
end Go.Av
/-! A row of no element that is known to be nil (nsz). -/
namespace Go.Av
theorem Does.walkA {P : Program} {f : FuncId} {fn : Func} {c : Code} {args : List AV} {res : AV} {nt : Nat} (hf : P.funcs[f]? = some fn) (hb : fn.body = some c) (hnt : fn.ntmps = nt) (hn : args.length ≤ nt) (hn1 : nt ≤ 1000) (hfree : AV.noRefs args = true)
    (h : ∀ (G0 : Nat → Prop) (X : Nat → Prop) (w0 : World) (pv : Nat → Option Value), AWP ⟨P, G0, X, w0, nt, pv⟩ c (retK ⟨P, G0, X, w0, nt, pv⟩ fn res) (startT args)) : Does P f args res := by
  subst hnt
  refine Does.of hf hb hn hn1 (AV.noRefs_mem.1 hfree) ?_
  rintro ⟨P', G0, X, w0, nt, pv⟩ rfl rfl
  exact h G0 X w0 pv
end Go.Av
/-! A region's new name, where nothing is turned. -/
namespace Go.Av
def ASt.renm (s : ASt) (r d : Nat) : ASt := ⟨fun i => (s.t i).mapRef (renF r d), fun q => if q = d then s.m r else if q = r then none else s.m q⟩
theorem Weak.renm {s : ASt} {r d : Nat} (hr : r < 1000) (hd : d < 1000) (hrd : r ≠ d) : Weak s (s.renm r d) := by
  rintro E a w ⟨M, G, hX⟩
  refine ⟨fun q => if q = d then M r else if q = r then none else M q, G, ?_⟩
  have key : ∀ q T, (if q = d then M r else if q = r then none else M q) = some T → ∃ q', M q' = some T ∧ (q = d ∧ q' = r ∨ q ≠ d ∧ q ≠ r ∧ q' = q) := fun q T h => by
    split at h
    · exact ⟨r, h, .inl ⟨by assumption, rfl⟩⟩
    · split at h
      · cases h
      · exact ⟨q, h, .inr ⟨by assumption, by assumption, rfl⟩⟩
  have hmap : ∀ {v : AV} {u : Value}, VR w G M v u → VR w G (fun q => if q = d then M r else if q = r then none else M q) (v.mapRef (renF r d)) u := fun h => h.mapRef (fun r0 p0 r' p' hf T' N' hT' hN' hm => by
    simp only [renF] at hf
    split at hf
    · simp only [Option.some.injEq, Prod.mk.injEq] at hf
      obtain ⟨rfl, rfl⟩ := hf
      simp only [if_true] at hT'
      rename_i e; subst e
      exact ⟨T', N', hT', hN', rfl⟩
    · split at hf
      · cases hf
      · simp only [Option.some.injEq, Prod.mk.injEq] at hf
        obtain ⟨rfl, rfl⟩ := hf
        rename_i e1 e2
        simp only [e1, e2, if_false] at hT'
        exact ⟨T', N', hT', hN', rfl⟩)
  refine ⟨fun q => ?_, fun q T h => ?_, fun q T h => ?_, fun q q' T T' hq h h' x hx hx' => ?_, fun q T h x hx => ?_, hX.gd, hX.g0, fun i => hmap (hX.sl i), hX.ext, hX.df, hX.nt, hX.n1, fun q v hv => ?_⟩
  · simp only [ASt.renm]
    split
    · exact hX.er r
    · split
      · rfl
      · exact hX.er q
  · obtain ⟨q', h1, _⟩ := key q T h; exact hX.sat q' T h1
  · obtain ⟨q', h1, _⟩ := key q T h; exact hX.nd q' T h1
  · obtain ⟨q1, h1, e1⟩ := key q T h
    obtain ⟨q2, h2, e2⟩ := key q' T' h'
    exact hX.dj q1 q2 T T' (by omega) h1 h2 x hx hx'
  · obtain ⟨q', h1, _⟩ := key q T h; exact hX.own q' T h1 x hx
  · obtain ⟨h1, T, h2, h3⟩ := hX.pv q v hv
    exact ⟨h1, T, by rw [if_neg (by omega), if_neg (by omega)]; exact h2, h3⟩
end Go.Av
/-! A row that was taken, and is not what comes back: it is let go. -/
namespace Go.Av
end Go.Av
/-! Rows that are made: of structs that hold rows. -/
namespace Go.Av
end Go.Av
namespace Go.Av
end Go.Av
end
section
set_option linter.unusedSimpArgs false
set_option linter.unusedVariables false
/-! slices.Insert: the room of a row that came in ('cap'), a row made longer within its room, copies of cells, an append that needs a new row. -/
namespace Go.Av
theorem pv_row {E : Env} {M : Nat → Option HT} {G : Nat → Prop} {s : ASt} {a : Act} {w : World} (hX : RelX E M G s a w) {r sz n : Nat} {cs : List AV} {v : Value} (hp : E.pv r = some v) (hm : s.m r = some (.row true sz n cs)) :
    ∃ T, M r = some T ∧ T.value = v ∧ T.erase = .row true sz n cs ∧ Sat w G T := by
  obtain ⟨_, T, h1, h2⟩ := hX.pv r v hp
  have he := hX.er r
  rw [hm, h1] at he
  simp only [Option.map_some, Option.some.injEq] at he
  exact ⟨T, h1, h2, he.symm, hX.sat r T h1⟩
/-- What is known of the value of a row that came in. -/
theorem awp_pvcap {E : Env} {c : Code} {K : AX → ASt → Prop} {s : ASt} {r sz n : Nat} {cs : List AV} {v : Value} (hp : E.pv r = some v) (hm : s.m r = some (.row true sz n cs))
    (h : ∀ A cp, v = .slice A n cp → n ≤ cp → cp ≤ 9223372036854775807 → AWP E c K s) : AWP E c K s := by
  rintro a w ⟨M, G, hX⟩
  obtain ⟨T, h1, h2, h3, hs⟩ := pv_row hX hp hm
  cases hs with
  | row b sz' n' cap cs' C e g1 g2 g3 g4 g5 g6 g7 g8 =>
    simp only [HT.erase, AV.row.injEq, true_and] at h3
    obtain ⟨rfl, rfl, _⟩ := h3
    exact h _ _ h2.symm g3 g6 a w ⟨M, G, hX⟩
  | nilrow sz' =>
    simp only [HT.erase, AV.row.injEq, true_and] at h3
    obtain ⟨rfl, rfl, _⟩ := h3
    exact h _ _ h2.symm (Nat.le_refl _) (by decide) a w ⟨M, G, hX⟩
  | leaf a' v' ha _ => cases a' with
    | row o _ _ _ => cases o <;> simp_all [HT.erase, AV.leafOk]
    | _ => simp_all [HT.erase, AV.leafOk]
  | box => simp [HT.erase] at h3
  | agg => simp [HT.erase] at h3
  | tup => simp [HT.erase] at h3
/-- A row that is not needed any more. -/
theorem awp_drop {E : Env} {c : Code} {K : AX → ASt → Prop} {s : ASt} {r : Nat} {A : AV} (hm : s.m r = some A) (h : AWP E c K (s.updM r [] .junk)) : AWP E c K s := by
  rintro a w ⟨M, G, hX⟩
  have he := hX.er r
  rw [hm] at he
  cases hM : M r with
  | none => rw [hM] at he; cases he
  | some T =>
    obtain ⟨h1, _⟩ := hX.take hM (p := []) rfl
    exact h a w ⟨_, G, h1⟩
theorem run_copyN {P : Program} (w : World) (dT sT ty elem : TypeId) {i : TypeInfo} (b o dLen dCap : Nat) (a : Addr) (sLen sCap : Nat) (cs : List Value)
    (hu : P.underlying dT = some (.slice elem)) (hs : P.info? elem = some i) (hn : cs.length = Nat.min sLen dLen * i.size)
    (hsrc : ∀ j v, cs[j]? = some v → w.cell? (a.add j) = some v) (hc : ∀ j, j < cs.length → (w.cell? ⟨b, o + j, none⟩).isSome = true) (hf : ∀ j, j < cs.length → w.frozen? ⟨b, o + j, none⟩ = false) (h1 : ∀ v ∈ cs, v.oneCell' = true) :
    (Builtin.copy_ #[dT, sT] ty #[.slice (some ⟨b, o, none⟩) dLen dCap, .slice (some a) sLen sCap]).run P w = .ok (goInt (Nat.min sLen dLen)) (w.setCells b o cs) := by
  have hl := run_loadCells_list (P := P) w a cs hsrc
  have hst := run_storeCells_cells (P := P) b o cs 0 w (by simpa using hc) (by simpa using hf) h1
  simp [Builtin.copy_, run_underlying hu, Builtin.lenOf, Builtin.firstCells, sizeOf, typeInfo, hs, ← hn, hl, hst]
section
variable {E : Env} {s s1 : ASt} {d : Nat} {x y : Operand} {t ty xt : TypeId} {pos : String} {after : Array Edge} {g : Option (Nat × Bool)} {R : ASt → Prop}
theorem l_cap {r n sz sz' c : Nat} {cs : List AV} {A : Option Addr} (hd : d < E.nt) (ht : slT E.P t = some sz') (hx : s.ev x = .sl r [] 0 n) (hm : s.m r = some (.row true sz n cs)) (hp : E.pv r = some (.slice A n c)) (hR : R (s.set d (.lit (.int .i64 c)))) :
    LJ E ⟨some d, .call { callee := .builtin .cap, args := #[x], argTypes := #[t] }, ty, pos, after, g⟩ s R := by
  obtain ⟨e, i, hu, _⟩ := slT_spec ht
  rintro a w ⟨M, G, hX⟩
  have hv := hX.ev x
  rw [hx] at hv
  obtain ⟨T, h1, h2, h3, hs⟩ := pv_row hX hp hm
  have hval : a.eval x = .slice A n c := by
    generalize a.eval x = v at hv
    cases hv with
    | sl _ _ _ _ _ q q0 =>
      cases hs with
      | row b sz' n' cap cs' C e g1 g2 g3 g4 g5 g6 g7 g8 =>
        simp only [HT.erase, AV.row.injEq, true_and] at h3
        obtain ⟨rfl, rfl, _⟩ := h3
        obtain ⟨A0, c0, rfl, _, _, _, q5⟩ := q _ h1 b _ _ cap cs' rfl (by omega)
        obtain ⟨rfl, rfl⟩ := q5 rfl
        exact h2
      | nilrow sz' =>
        simp only [HT.erase, AV.row.injEq, true_and] at h3
        obtain ⟨rfl, rfl, _⟩ := h3
        rw [q0 _ h1 _ rfl (by omega)]
        exact h2
      | leaf a' v' ha _ => cases a' with
        | row o _ _ _ => cases o <;> simp_all [HT.erase, AV.leafOk]
        | _ => simp_all [HT.erase, AV.leafOk]
      | box => simp [HT.erase] at h3
      | agg => simp [HT.erase] at h3
      | tup => simp [HT.erase] at h3
  have key := run_cap_slice (P := E.P) w t ty A n c (by rw [hu]; simp [Program.elem, hu])
  unfold Oper.wp
  simp [execOp, resolve, invoke, builtin, hval, key, Oper.upon, Result.andThen]
  exact ⟨_, ⟨M, G, hX.set hd (Ext.refl _ _) (.lit _)⟩, hR⟩
/-- A row made longer, within its room. -/
theorem l_slExt {r n sz c h : Nat} {cs : List AV} {A : Option Addr} {yh : Operand} {k : IntKind} (hd : d < E.nt) (ht : slT E.P xt = some sz) (hx : s.ev x = .sl r [] 0 n) (hm : s.m r = some (.row true sz n cs)) (hp : E.pv r = some (.slice A n c))
    (hy : s.ev yh = .lit (.int k h)) (h1 : n ≤ h) (h2 : h ≤ c) (hR : R ((s.updM r [] .junk).new d (.sl d [] 0 h) (.row true sz h (cs ++ List.replicate (h * sz - n * sz) .junk)))) :
    LJ E ⟨some d, .slice xt x none (some yh) none, t, pos, after, g⟩ s R := by
  rintro a w ⟨M, G, hX⟩
  have hv := hX.ev x
  rw [hx] at hv
  have hyv := hX.lit (Le.refl s) hy
  obtain ⟨T, hM, hT2, hT3, hs⟩ := pv_row hX hp hm
  obtain ⟨t1, t2, t3, t4⟩ := hX.take hM (p := []) rfl
  have hrun : ∀ A' c', c' = c → (a.eval x = .slice A' n c') → (execOp a.eval ⟨some d, .slice xt x none (some yh) none, t, pos, after, g⟩).run E.P w = .ok (.value (.slice (if c' = 0 then A' else A'.map (·.add (0 * sz))) (h - 0) (c' - 0))) w := fun A' c' hc hav => by
    subst hc
    simp only [execOp, Sem.run_bind, hav, hyv, Option.map_some, Option.map_none]
    rw [run_slCap (P := E.P) w ht _ n c' (low := none) (high := some (.int k h)) (l := 0) (h := h) (.inl ⟨rfl, rfl⟩) ⟨k, rfl⟩ (by omega) h2]
    rfl
  generalize hav : a.eval x = v at hv hrun
  cases hv with
  | sl _ _ _ _ _ q q0 =>
    cases hs with
    | row b sz' n' cap cs' C e g1 g2 g3 g4 g5 g6 g7 g8 =>
      simp only [HT.erase, AV.row.injEq, true_and] at hT3
      obtain ⟨rfl, rfl, hcs⟩ := hT3
      obtain ⟨A0, c0, rfl, _, _, _, q5⟩ := q _ hM b _ _ cap cs' rfl (by omega)
      obtain ⟨rfl, rfl⟩ := q5 rfl
      have hc : c0 = c := by simp only [HT.value, Value.slice.injEq, true_and] at hT2; exact hT2.2
      subst hc
      unfold Oper.wp
      rw [hrun _ _ rfl rfl]
      simp only [Oper.upon, Nat.sub_zero, Nat.zero_mul]
      have hval : (if c0 = 0 then some (⟨b, 0, none⟩ : Addr) else (some (⟨b, 0, none⟩ : Addr)).map (·.add 0)) = some ⟨b, 0, none⟩ := by split <;> simp [add0]
      rw [hval]
      have hhs : h * sz' ≤ c0 * sz' := Nat.mul_le_mul_right _ h2
      have hns : n' * sz' ≤ h * sz' := Nat.mul_le_mul_right _ h1
      obtain ⟨Z, hZl, hZe, hZg, hZb⟩ : ∃ Z : List HT, Z.length = h * sz' - n' * sz' ∧ HT.erases Z = List.replicate (h * sz' - n' * sz') .junk ∧ (∀ i K, Z[i]? = some K → C[n' * sz' + i]? = some K.value ∧ Sat w G K) ∧ Z.flatMap HT.blocks = [] := by
        refine ⟨(List.range (h * sz' - n' * sz')).map fun i => .leaf .junk (C[n' * sz' + i]?.getD undef), by simp, ?_, fun i K hi => ?_, ?_⟩
        · rw [HT.erases_eq, List.map_map]
          refine List.ext_getElem? (fun j => ?_)
          rw [List.getElem?_map, List.getElem?_replicate]
          by_cases hj : j < h * sz' - n' * sz'
          · rw [if_pos hj, List.getElem?_range hj]; rfl
          · rw [if_neg hj, List.getElem?_eq_none (by simpa using hj)]; rfl
        · rw [List.getElem?_map] at hi
          have hj : i < h * sz' - n' * sz' := by
            apply Classical.byContradiction; intro hn
            rw [List.getElem?_eq_none (by simpa using hn)] at hi; cases hi
          rw [List.getElem?_range hj] at hi
          simp only [Option.map_some, Option.some.injEq] at hi
          subst hi
          have hlt : n' * sz' + i < C.size := by omega
          refine ⟨?_, .leaf _ _ rfl (.junk _)⟩
          rw [Array.getElem?_eq_getElem hlt]; simp [HT.value]
        · rw [List.flatMap_eq_nil_iff]
          intro K hK
          obtain ⟨j, _, rfl⟩ := List.mem_map.1 hK
          rfl
      have hbl : (cs' ++ Z).flatMap HT.blocks = cs'.flatMap HT.blocks := by rw [List.flatMap_append, hZb, List.append_nil]
      have hnew := t1.new2 (T := .row b sz' h c0 (cs' ++ Z)) (v := .sl d [] 0 h) (u := .slice (some ⟨b, 0, none⟩) h c0) hd (w' := w) ⟨rfl, rfl, rfl, Nat.le_refl _, fun _ _ _ => rfl⟩ ?_ ?_ ?_ ?_
      · have her : (HT.row b sz' h c0 (cs' ++ Z)).erase = .row true sz' h (cs ++ List.replicate (h * sz' - n' * sz') .junk) := by
          simp only [HT.erase]
          rw [HT.erases_eq, List.map_append, ← HT.erases_eq, ← HT.erases_eq, hZe, hcs]
        rw [her] at hnew
        exact ⟨_, ⟨_, _, hnew⟩, hR⟩
      · refine .row _ _ _ _ _ C e g1 (by rw [List.length_append, hZl, g2]; omega) h2 g4 g5 g6 (fun i K hi => ?_) (fun i K hi => ?_)
        · by_cases hlt : i < cs'.length
          · rw [List.getElem?_append_left hlt] at hi; exact g7 i K hi
          · rw [List.getElem?_append_right (by omega)] at hi
            have := (hZg _ K hi).1
            rw [← this]; congr 1; omega
        · by_cases hlt : i < cs'.length
          · rw [List.getElem?_append_left hlt] at hi; exact g8 i K hi
          · rw [List.getElem?_append_right (by omega)] at hi; exact (hZg _ K hi).2
      · simp only [HT.blocks, HT.blockss_eq] at t3 ⊢
        rw [hbl]; exact t3
      · intro z hz
        refine t4 z ?_
        simp only [HT.blocks, HT.blockss_eq] at hz ⊢
        rw [hbl] at hz; exact hz
      · refine .sl _ _ _ _ _ (fun T' hT' b1 sz1 n1 cap1 cs1 hN1 hle1 => ?_) (fun T' hT' sz1 hN1 hle1 => ?_)
        · simp only [updF, if_true, Option.some.injEq] at hT'; subst hT'
          simp only [HT.at_, Option.some.injEq, HT.row.injEq] at hN1
          obtain ⟨rfl, rfl, rfl, rfl, rfl⟩ := hN1
          exact ⟨_, _, rfl, h2, by omega, .inr (by simp), fun _ => ⟨rfl, rfl⟩⟩
        · simp only [updF, if_true, Option.some.injEq] at hT'; subst hT'
          simp [HT.at_] at hN1
    | nilrow sz' =>
      simp only [HT.erase, AV.row.injEq, true_and] at hT3
      obtain ⟨rfl, rfl, rfl⟩ := hT3
      have e1 := q0 _ hM _ rfl (by omega)
      subst e1
      have hc : 0 = c := by simp only [HT.value, Value.slice.injEq, true_and] at hT2; exact hT2.2
      subst hc
      obtain rfl : h = 0 := by omega
      unfold Oper.wp
      rw [hrun _ _ rfl rfl]
      simp only [Oper.upon, if_true]
      have hnew := t1.new2 (T := .nilrow sz') (v := .sl d [] 0 0) (u := .slice none 0 0) hd (w' := w) ⟨rfl, rfl, rfl, Nat.le_refl _, fun _ _ _ => rfl⟩ (.nilrow _) (by simp [HT.blocks]) (by simp [HT.blocks])
        ((Sat.nilrow (w := w) (G := G) sz').opened (M := updF _ d (some (.nilrow sz'))) (r := d) (T0 := .nilrow sz') (by simp [updF]) (p := []) rfl)
      exact ⟨_, ⟨_, _, hnew⟩, by simpa [HT.erase] using hR⟩
    | leaf a' v' ha _ => cases a' with
      | row o _ _ _ => cases o <;> simp_all [HT.erase, AV.leafOk]
      | _ => simp_all [HT.erase, AV.leafOk]
    | box => simp [HT.erase] at hT3
    | agg => simp [HT.erase] at hT3
    | tup => simp [HT.erase] at hT3
/-- The first 'k' of the 'm' elements of a slice, read alone. -/
def YK (E : Env) (s : ASt) (y : AV) (sz m k : Nat) (es : List AV) : Prop :=
  ∀ M G a w, RelX E M G s a w → ∀ u, VR w G M y u → ∃ (Vs : List HT) (A : Option Addr) (c : Nat), u = .slice A m c ∧ HT.erases Vs = es ∧ Vs.length = k * sz ∧ (∀ V ∈ Vs, Sat w G V ∧ V.value.oneCell' = true) ∧ Vs.flatMap HT.blocks = [] ∧
    ∀ (j : Nat) (V : HT), Vs[j]? = some V → ∃ ad, A = some ad ∧ w.cell? (ad.add j) = some V.value
theorem yk_own {r off m k sz n : Nat} {p : List Nat} {cs : List AV} (hA : nodeOf s r p = some (.row true sz n cs)) (hl : off + m ≤ n) (hk : k ≤ m) (h1 : leafCs ((cs.drop (off * sz)).take (k * sz)) = true) (h2 : fitCs ((cs.drop (off * sz)).take (k * sz)) = true) :
    YK E s (.sl r p off m) sz m k ((cs.drop (off * sz)).take (k * sz)) := fun M G a w hX u hu => by
  obtain ⟨T, N, hM, hN, hNe, hsT, hsN⟩ := nodeOf_spec hX hA
  cases hu with
  | sl _ _ _ _ _ q q0 =>
    cases hsN with
    | row b sz' n' cap cs' C e g1 g2 g3 g4 g5 g6 g7 g8 =>
      simp only [HT.erase, AV.row.injEq, true_and] at hNe
      obtain ⟨rfl, rfl, rfl⟩ := hNe
      obtain ⟨A, c, rfl, q2, q3, q4, q5⟩ := q T hM b sz' n' cap cs' hN hl
      have hkm : k * sz' ≤ m * sz' := Nat.mul_le_mul_right _ hk
      have hle2 : off * sz' + m * sz' ≤ cs'.length := by
        rw [g2, ← Nat.add_mul]; exact Nat.mul_le_mul_right _ hl
      have her : HT.erases ((cs'.drop (off * sz')).take (k * sz')) = ((HT.erases cs').drop (off * sz')).take (k * sz') := by simp [HT.erases_eq, List.map_take, List.map_drop]
      have hmem : ∀ V ∈ (cs'.drop (off * sz')).take (k * sz'), Sat w G V ∧ V.erase ∈ HT.erases ((cs'.drop (off * sz')).take (k * sz')) := fun V hV => by
        refine ⟨?_, by rw [HT.erases_eq]; exact List.mem_map.2 ⟨V, hV, rfl⟩⟩
        obtain ⟨i, hi⟩ := List.getElem?_of_mem (List.mem_of_mem_drop (List.mem_of_mem_take hV))
        exact g8 i V hi
      rw [← her] at h1 h2 ⊢
      refine ⟨_, A, c, rfl, rfl, by rw [List.length_take, List.length_drop]; omega, fun V hV => ⟨(hmem V hV).1, (fit_val (hmem V hV).1 (fitCs_mem.1 h2 _ (hmem V hV).2)).1⟩, ?_, fun j V hj => ?_⟩
      · rw [List.flatMap_eq_nil_iff]
        exact fun V hV => leaf_of (leafCs_mem.1 h1 _ (hmem V hV).2)
      · have hjl : j < k * sz' := by
          have := (List.getElem?_eq_some_iff.1 hj).1
          rw [List.length_take] at this; omega
        have hm0 : 0 < m := by
          rcases Nat.eq_zero_or_pos m with h | h
          · subst h; simp at hkm; omega
          · exact h
        rw [List.getElem?_take_of_lt hjl, List.getElem?_drop] at hj
        rcases q4 with q4 | q4
        · omega
        · refine ⟨_, q4, ?_⟩
          rw [add0]
          simp [World.cell?, g1, g7 _ V hj]
    | nilrow sz' =>
      simp only [HT.erase, AV.row.injEq, true_and] at hNe
      obtain ⟨rfl, rfl, rfl⟩ := hNe
      have := q0 T hM sz' hN (by omega)
      obtain rfl : m = 0 := by omega
      obtain rfl : k = 0 := by omega
      subst this
      exact ⟨[], none, 0, rfl, by simp [HT.erases], by simp, by simp, rfl, by simp⟩
    | leaf a v ha _ => cases a with
      | row o _ _ _ => cases o <;> simp_all [HT.erase, AV.leafOk]
      | _ => simp_all [HT.erase, AV.leafOk]
    | box => simp [HT.erase] at hNe
    | agg => simp [HT.erase] at hNe
    | tup => simp [HT.erase] at hNe
/-- Copies of leaves. -/
theorem l_copy {r o l1 l2 n sz : Nat} {p : List Nat} {cs es : List AV} {dd : Option Tmp} (hd : ∀ d, dd = some d → d < E.nt) (ht : slT E.P t = some sz) (hx : s.ev x = .sl r p o l1) (hA : nodeOf s r p = some (.row true sz n cs)) (hl : o + l1 ≤ n) (hy : YK E s (s.ev y) sz l2 (min l2 l1) es) (hlf : leafCs es = true) (h0 : 0 < min l2 l1)
    (hR : ∀ s', s' = s.updM r p (.row true sz n (setL cs (o * sz) (es))) → R (match dd with | none => s' | some d => s'.set d (.lit (.int .i64 (min l2 l1 : Nat))))) :
    LJ E ⟨dd, .call { callee := .builtin .copy, args := #[x, y], argTypes := #[t, t] }, ty, pos, after, g⟩ s R := by
  obtain ⟨e, i, hu, hi, hs⟩ := slT_spec ht
  rintro a w ⟨M, G, hX⟩
  obtain ⟨Vs, A, c, hyv, hVe, hVl, hVs, hVb, hVc⟩ := hy M G a w hX _ (hX.ev y)
  obtain ⟨T, N, hM, hN, hNe, hsT, hsN⟩ := nodeOf_spec hX hA
  have hv := hX.ev x
  rw [hx] at hv
  generalize hav : a.eval x = v at hv
  cases hv with
  | sl _ _ _ _ _ q q0 =>
    generalize hNN : N = N' at hsN
    cases hsN with
    | row b sz' n' cap cs' C e0 g1 g2 g3 g4 g5 g6 g7 g8 =>
      subst hNN
      simp only [HT.erase, AV.row.injEq, true_and] at hNe
      obtain ⟨rfl, rfl, hcs⟩ := hNe
      obtain ⟨A0, c0, rfl, q2, q3, q4, q5⟩ := q T hM b sz' n' cap cs' hN hl
      have q4 : A0 = some ⟨b, o * sz', none⟩ := q4.resolve_left (by omega)
      subst q4
      have hml : min l2 l1 * sz' ≤ l2 * sz' := Nat.mul_le_mul_right _ (Nat.min_le_left _ _)
      have hml1 : min l2 l1 * sz' ≤ l1 * sz' := Nat.mul_le_mul_right _ (Nat.min_le_right _ _)
      have hpos : 0 < min l2 l1 * sz' := Nat.mul_pos h0 g5
      have hUt : Vs.take (min l2 l1 * sz') = Vs := List.take_of_length_le (by omega)
      have hUl : (Vs.take (min l2 l1 * sz')).length = min l2 l1 * sz' := by rw [hUt, hVl]
      have hfit : o * sz' + (Vs.take (min l2 l1 * sz')).length ≤ cs'.length := by
        rw [hUl, g2]
        have : (o + l1) * sz' ≤ n' * sz' := Nat.mul_le_mul_right _ hl
        rw [Nat.add_mul] at this; omega
      have hcap : cs'.length ≤ C.size := by rw [g2, g4]; exact Nat.mul_le_mul_right _ g3
      have hVl0 : 0 < Vs.length := by rw [hVl]; omega
      obtain ⟨ad, rfl, _⟩ := hVc 0 Vs[0] (List.getElem?_eq_getElem hVl0)
      have hmem : ∀ K ∈ Vs.take (min l2 l1 * sz'), K ∈ Vs := fun K hK => List.mem_of_mem_take hK
      have hrun : (execOp a.eval ⟨dd, .call { callee := .builtin .copy, args := #[x, y], argTypes := #[t, t] }, ty, pos, after, g⟩).run E.P w = .ok (.value (goInt (Nat.min l2 l1))) (w.setCells b (o * sz') ((Vs.take (min l2 l1 * sz')).map HT.value)) := by
        have := run_copyN (P := E.P) w t t ty e b (o * sz') l1 c0 ad l2 c ((Vs.take (min l2 l1 * sz')).map HT.value) hu hi (by rw [List.length_map, hUl, hs]) (fun j u hj => by
            rw [List.getElem?_map] at hj
            cases hV : (Vs.take (min l2 l1 * sz'))[j]? with
            | none => rw [hV] at hj; cases hj
            | some V =>
              rw [hV] at hj
              simp only [Option.map_some, Option.some.injEq] at hj
              subst hj
              have hjl : j < min l2 l1 * sz' := by have := (List.getElem?_eq_some_iff.1 hV).1; rw [hUl] at this; exact this
              rw [List.getElem?_take_of_lt hjl] at hV
              obtain ⟨ad', e1, e2⟩ := hVc j V hV
              cases e1; exact e2) (fun j hj => by
            have hj' : j < min l2 l1 * sz' := by rw [List.length_map, hUl] at hj; exact hj
            have : o * sz' + j < C.size := by omega
            simp [World.cell?, g1, this]) (fun j hj => by simp [World.frozen?, g1]) (fun u hu => by
            obtain ⟨V, h1, rfl⟩ := List.mem_map.1 hu
            exact (hVs V (hmem V h1)).2)
        simp [execOp, resolve, invoke, builtin, hyv, hav, this, Result.andThen]
      unfold Oper.wp
      rw [hrun]
      simp only [Oper.upon]
      have hleaf : ∀ K ∈ Vs, K.isMem = false ∧ K.kids = [] := fun K hK => by
        have hk : K.erase.leafOk = true := leafCs_mem.1 hlf _ (by rw [← hVe, HT.erases_eq]; exact List.mem_map.2 ⟨K, hK, rfl⟩)
        cases K <;> simp_all [HT.isMem, HT.kids, HT.erase, AV.leafOk]
      have hUb : (Vs.take (min l2 l1 * sz')).flatMap HT.blocks = [] := by
        rw [List.flatMap_eq_nil_iff] at hVb ⊢
        exact fun K hK => hVb K (hmem K hK)
      have hL := hX.layLeaves (o := o * sz') hM hN (b := b) rfl g1 hfit (by rw [hUl]; exact hpos) (fun K hK => (hVs K (hmem K hK)).1) (by rw [hUb]; simp) (fun K hK => hleaf K (hmem K hK)) (by rw [hUb]; simp)
      have he : ((HT.row b sz' n' cap cs').withKids (setL (HT.row b sz' n' cap cs').kids (o * sz') (Vs.take (min l2 l1 * sz')))).erase = .row true sz' n' (setL cs (o * sz') es) := by
        rw [hUt, ← hVe, ← hcs]
        simp [HT.withKids, HT.kids, HT.erase, HT.erases_eq, setL_map, List.map_take]
      rw [he] at hL
      have hR := hR _ rfl
      cases dd with
      | none => exact ⟨_, ⟨_, _, hL⟩, hR⟩
      | some d => exact ⟨_, ⟨_, _, hL.set (hd d rfl) (Ext.refl _ _) (.lit _)⟩, hR⟩
    | nilrow sz' =>
      subst hNN
      simp only [HT.erase, AV.row.injEq, true_and] at hNe
      obtain ⟨rfl, rfl, rfl⟩ := hNe
      omega
    | leaf a' v' ha _ => subst hNN; cases a' with
      | row o _ _ _ => cases o <;> simp_all [HT.erase, AV.leafOk]
      | _ => simp_all [HT.erase, AV.leafOk]
    | box => subst hNN; simp [HT.erase] at hNe
    | agg => subst hNN; simp [HT.erase] at hNe
    | tup => subst hNN; simp [HT.erase] at hNe
/-- append(x, make(..)...): of so many that a new row is needed; the old one stays. -/
theorem run_append_growZ {P : Program} (w : World) (t tn ty e : TypeId) (i : TypeInfo) (z : Value) (ht : P.underlying t = some (.slice e)) (htn : P.underlying tn = some (.int .i64)) (hi : P.info? e = some i) (hz : i.zero = some z)
    (b : Addr) (sLen sCap : Nat) (olds : List Value) (hlo : olds.length = sLen * i.size) (holds : ∀ j v, olds[j]? = some v → w.cell? (b.add j) = some v) (n : Nat) (hn0 : 0 < n) (hs0 : 0 < i.size)
    (hg : sCap < sLen + n) (h63 : ((sLen + n : Nat) : Int) ≤ 9223372036854775807) (h48i : n * i.bytes ≤ 281474976710656) (hfit : Builtin.nextslicecap (sLen + n) sCap * i.bytes ≤ 281474976710656) :
    (Builtin.append_ #[t, tn] ty #[.slice (some b) sLen sCap, .int .i64 n]).run P w =
      .ok (.slice (some ⟨w.heap.size, 0, none⟩) (sLen + n) (grownCap w (sLen + n) sCap e))
        (w.drew.alloc (.cells (olds.toArray ++ Builtin.zeroCells z.cells n ++ Builtin.zeroCells z.cells (grownCap w (sLen + n) sCap e - (sLen + n))) e)) := by
  have hn : ¬ (sLen + n ≤ sCap) := by omega
  have h63' : ¬ (9223372036854775807 < ((sLen : Int) + (n : Int))) := by omega
  have h48' : ¬ (281474976710656 < Builtin.nextslicecap (sLen + n) sCap * i.bytes) := by omega
  have hw : IntKind.i64.wrap (n : Int) = n := by rw [IntKind.wrap_i64]; omega
  have h48j : ¬ (281474976710656 < (n : Int) * (i.bytes : Int)) := by
    rw [← Int.natCast_mul]
    omega
  have hneg : ¬ ((n : Int) < 0) := by omega
  have hns : ¬ (n * i.size = 0) := Nat.mul_ne_zero (by omega) (by omega)
  have hfo := run_firstCells_some (P := P) w.drew i.size sLen b sLen sCap olds hlo (by simpa using holds)
  simp [Builtin.append_, run_underlying ht, run_underlying htn, sizeOf, typeInfo, zeroValue, hi, hz, asInt, asIntOf, hw, hneg, hns, hn, h63', h48', h48j, Question.forced, hfo, newRow, grownCap]
theorem l_appGrowZ {tn : TypeId} {r k nn n sz c by_ : Nat} {cs : List AV} {A : Option Addr} {zs : List Value} (hd : d < E.nt) (hz : zcT E.P t = some (zs, by_)) (hzl : zs.length = sz) (htn : intKd E.P tn = some .i64) (hx : s.ev x = .sl r [] 0 k) (hy : s.ev y = .lit (.int .i64 (nn : Nat)))
    (hm : s.m r = some (.row true sz n cs)) (hp : E.pv r = some (.slice A n c)) (hk : k ≤ n) (hn0 : 0 < n) (hnn : 0 < nn) (hc : c < k + nn) (hlf : leafCs cs = true) (b1 : k + nn ≤ 9223372036854775807) (b2 : (k + nn) * by_ ≤ 140737488355328)
    (hR : R (s.new d (.sl d [] 0 (k + nn)) (.row true sz (k + nn) (cs.take (k * sz) ++ (zCells zs nn).map .lit)))) :
    LJ E ⟨some d, .call { callee := .builtin .append, args := #[x, y], argTypes := #[t, tn] }, ty, pos, after, g⟩ s R := by
  have htn' : E.P.underlying tn = some (.int .i64) := by
    have := of_intKd (P := E.P) (z := tn) (by rw [htn]; rfl)
    rw [htn] at this; exact this
  obtain ⟨e, i, z, u1, u2, u3, u4, u5, u6, _⟩ := zcT_spec hz
  rintro a w ⟨M, G, hX⟩
  obtain ⟨T, hM, hT2, hT3, hs⟩ := pv_row hX hp hm
  have hyv := hX.lit (Le.refl s) hy
  have hv := hX.ev x
  rw [hx] at hv
  generalize hav : a.eval x = v at hv
  cases hv with
  | sl _ _ _ _ _ q q0 =>
    cases hs with
    | row b sz' n' cap cs' C e0 g1 g2 g3 g4 g5 g6 g7 g8 =>
      simp only [HT.erase, AV.row.injEq, true_and] at hT3
      obtain ⟨rfl, rfl, hcs⟩ := hT3
      obtain ⟨A0, c0, rfl, _, _, _, q5⟩ := q _ hM b _ _ cap cs' rfl (by omega)
      obtain ⟨rfl, rfl⟩ := q5 rfl
      have hcc : c0 = c := by simp only [HT.value, Value.slice.injEq, true_and] at hT2; exact hT2.2
      subst hcc
      have hsz : i.size = sz' := u6.trans hzl
      have hks : k * sz' ≤ n' * sz' := Nat.mul_le_mul_right _ hk
      have hol : ((cs'.take (k * sz')).map HT.value).length = k * sz' := by rw [List.length_map, List.length_take, g2]; omega
      have hby : nn * by_ ≤ (k + nn) * by_ := Nat.mul_le_mul_right _ (by omega)
      have hib : i.bytes = by_ := by assumption
      have hrun := run_append_growZ (P := E.P) w t tn ty e i z u1 htn' u2 u3 ⟨b, 0, none⟩ k c0 ((cs'.take (k * sz')).map HT.value) (by rw [hol, hsz]) (fun j u hj => by
          rw [List.getElem?_map] at hj
          cases hV : (cs'.take (k * sz'))[j]? with
          | none => rw [hV] at hj; cases hj
          | some V =>
            rw [hV] at hj
            simp only [Option.map_some, Option.some.injEq] at hj
            subst hj
            have hV' : cs'[j]? = some V := by rw [List.getElem?_take] at hV; split at hV; exact hV; cases hV
            rw [add0, Nat.zero_add]
            simp [World.cell?, g1, g7 j V hV']) nn hnn (by omega) hc (by omega) (by rw [hib]; omega) (growslice_fits (by omega) (by rw [hib]; exact b2))
      unfold Oper.wp
      have hex : ∀ v' w', (Builtin.append_ #[t, tn] ty #[.slice (some ⟨b, 0, none⟩) k c0, .int .i64 (nn : Nat)]).run E.P w = .ok v' w' → (execOp a.eval ⟨some d, .call { callee := .builtin .append, args := #[x, y], argTypes := #[t, tn] }, ty, pos, after, g⟩).run E.P w = .ok (.value v') w' := fun v' w' h => by
        simp [execOp, resolve, invoke, builtin, hav, hyv, h, Result.andThen]
      rw [hex _ _ hrun]
      simp only [Oper.upon]
      have hX' := hX.world (drew_ext w)
      have hzc := zc_list u4 nn (by omega)
      have hge := grownCap_ge w (k + nn) c0 e
      have hle := grownCap_le_maxLen w (k + nn) c0 e (by simp only [maxLen]; omega)
      simp only [maxLen] at hle
      have hzz : z.cells.size = sz' := by rw [← Array.length_toList, u4]; exact hzl
      let Ts : List HT := cs'.take (k * sz') ++ (zCells zs nn).map fun v => .leaf (.lit v) v
      have hTl : Ts.length = (k + nn) * sz' := by simp only [Ts, List.length_append, List.length_map, List.length_take, zCells, List.length_range, g2, hzl]; rw [Nat.add_mul]; omega
      have hTb : Ts.flatMap HT.blocks = [] := by
        rw [List.flatMap_eq_nil_iff]
        intro K hK
        rcases List.mem_append.1 hK with hK | hK
        · exact leaf_of (leafCs_mem.1 hlf _ (by rw [← hcs, HT.erases_eq]; exact List.mem_map.2 ⟨K, List.mem_of_mem_take hK, rfl⟩))
        · obtain ⟨v, _, rfl⟩ := List.mem_map.1 hK; rfl
      have hTe : HT.erases Ts = cs.take (k * sz') ++ (zCells zs nn).map .lit := by
        rw [HT.erases_eq, List.map_append, List.map_map, ← hcs, HT.erases_eq, List.map_take]; rfl
      have hTv : Ts.map HT.value = (cs'.take (k * sz')).map HT.value ++ zCells zs nn := by
        simp only [Ts, List.map_append, List.map_map]
        congr 1
        exact (List.map_congr_left (fun v _ => rfl)).trans (List.map_id _)
      have := hX'.newRow hd e (Ts := Ts) sz' (k + nn) (grownCap w (k + nn) c0 e) (((cs'.take (k * sz')).map HT.value).toArray ++ Builtin.zeroCells z.cells nn ++ Builtin.zeroCells z.cells (grownCap w (k + nn) c0 e - (k + nn))) g5 hTl hge hle (by
          simp only [Array.size_append, List.size_toArray, size_zeroCells, hzz, hol]
          rw [← Nat.add_mul, ← Nat.add_mul]
          congr 1; omega) (fun i K hi => by
          have h1 : (Ts.map HT.value)[i]? = some K.value := by rw [List.getElem?_map, hi]; rfl
          rw [hTv] at h1
          have e1 : (((cs'.take (k * sz')).map HT.value).toArray ++ Builtin.zeroCells z.cells nn) = ((cs'.take (k * sz')).map HT.value ++ zCells zs nn).toArray := by
            apply Array.ext'
            simp [hzc]
          rw [e1, Array.getElem?_append_left (by
            have := (List.getElem?_eq_some_iff.1 h1).1
            simpa using this)]
          simpa using h1) (fun K hK => by
          rcases List.mem_append.1 hK with hK | hK
          · obtain ⟨j, hj⟩ := List.getElem?_of_mem (List.mem_of_mem_take hK)
            exact (g8 j K hj).congr (fun _ _ => rfl) (fun _ _ => rfl) (fun _ h => h)
          · obtain ⟨v, _, rfl⟩ := List.mem_map.1 hK
            exact .leaf _ _ rfl (.lit v)) (by rw [hTb]; simp) (by rw [hTb]; simp)
      rw [hTe] at this
      exact ⟨_, ⟨_, G, this⟩, hR⟩
    | nilrow sz' =>
      simp only [HT.erase, AV.row.injEq, true_and] at hT3
      obtain ⟨rfl, rfl, rfl⟩ := hT3
      omega
    | leaf a' v' ha _ => cases a' with
      | row o _ _ _ => cases o <;> simp_all [HT.erase, AV.leafOk]
      | _ => simp_all [HT.erase, AV.leafOk]
    | box => simp [HT.erase] at hT3
    | agg => simp [HT.erase] at hT3
    | tup => simp [HT.erase] at hT3
/-- slices.overlaps of two rows of the call's own: they lie apart. -/
theorem l_overlaps {f : FuncId} {fn : Func} {fo : Operand} {rt : TypeId} {r1 r2 o1 o2 l1 l2 n1 n2 sz : Nat} {cs1 cs2 : List AV} (hd : d < E.nt) (ht : slT E.P t = some sz) (hf : s.ev fo = .fn f [])
    (h1 : E.P.funcs[f]? = some fn) (h2 : (fn.name == "runtime.NumGoroutine") = false) (h3 : fn.body.isNone = true) (h4 : Extern.findNext fn = none) (h5 : Extern.find fn = some (Extern.SlicesOverlaps.overlaps #[t, t] #[rt]))
    (hx : s.ev x = .sl r1 [] o1 l1) (hy : s.ev y = .sl r2 [] o2 l2) (hm1 : s.m r1 = some (.row true sz n1 cs1)) (hm2 : s.m r2 = some (.row true sz n2 cs2)) (hr : r1 ≠ r2) (hl1 : o1 + l1 ≤ n1) (hl2 : o2 + l2 ≤ n2) (hp1 : 0 < l1) (hp2 : 0 < l2)
    (hR : R (s.set d (.lit (.bool false)))) :
    LJ E ⟨some d, .call { callee := .value fo, args := #[x, y], argTypes := #[t, t] }, ty, pos, after, g⟩ s R := by
  obtain ⟨e, i, hu, hi, hs⟩ := slT_spec ht
  rintro a w ⟨M, G, hX⟩
  have hfv := hX.ev fo
  rw [hf] at hfv
  have hv1 := hX.ev x
  have hv2 := hX.ev y
  rw [hx] at hv1
  rw [hy] at hv2
  have row : ∀ {r o l n : Nat} {cs : List AV} {v : Value}, VR w G M (.sl r [] o l) v → s.m r = some (.row true sz n cs) → o + l ≤ n → 0 < l → ∃ (b cap c : Nat) (C : Array Value) (e0 : TypeId) (T : HT), v = .slice (some ⟨b, o * sz, none⟩) l c ∧ w.heap[b]? = some (.cells C e0 (0, 0)) ∧ 0 < C.size ∧ M r = some T ∧ b ∈ T.blocks := fun {r o l n cs v} hv hm hl hp => by
    have he := hX.er r
    rw [hm] at he
    cases hM : M r with
    | none => rw [hM] at he; cases he
    | some T =>
      rw [hM] at he
      simp only [Option.map_some, Option.some.injEq] at he
      have hsT := hX.sat r T hM
      cases hv with
      | sl _ _ _ _ _ q q0 =>
        cases hsT with
        | row b sz' n' cap cs' C e0 g1 g2 g3 g4 g5 g6 g7 g8 =>
          simp only [HT.erase, AV.row.injEq, true_and] at he
          obtain ⟨rfl, rfl, _⟩ := he
          obtain ⟨A0, c0, rfl, p2, p3, p4, p5⟩ := q _ hM b _ _ cap cs' rfl hl
          have p4 := p4.resolve_left (by omega)
          subst p4
          exact ⟨b, cap, c0, C, e0, _, rfl, g1, by rw [g4]; exact Nat.mul_pos (by omega) g5, rfl, by simp [HT.blocks]⟩
        | nilrow sz' =>
          simp only [HT.erase, AV.row.injEq, true_and] at he
          obtain ⟨rfl, rfl, _⟩ := he
          omega
        | leaf a' v' ha _ => cases a' with
          | row o _ _ _ => cases o <;> simp_all [HT.erase, AV.leafOk]
          | _ => simp_all [HT.erase, AV.leafOk]
        | box => simp [HT.erase] at he
        | agg => simp [HT.erase] at he
        | tup => simp [HT.erase] at he
  obtain ⟨b1, cap1, c1, C1, e1, T1, q1, q2, q3, q4, q5⟩ := row hv1 hm1 hl1 hp1
  obtain ⟨b2, cap2, c2, C2, e2, T2, k1, k2, k3, k4, k5⟩ := row hv2 hm2 hl2 hp2
  have hne : b1 ≠ b2 := fun e => hX.dj r1 r2 T1 T2 hr q4 k4 b1 q5 (e ▸ k5)
  have hov := Lib.run_overlaps_apart (P := E.P) w t rt e hu sz (fun w => by simp [sizeOf, typeInfo, hi, hs]) ⟨b1, o1 * sz, none⟩ ⟨b2, o2 * sz, none⟩ l1 c1 l2 c2 hne e1 e2 C1.size C2.size (by simp [World.shape?, q2]) (by simp [World.shape?, k2]) (by omega) (by simp [World.frozen?, q2]) (by simp [World.frozen?, q2])
  have hcall : (callFunc f #[.slice (some ⟨b1, o1 * sz, none⟩) l1 c1, .slice (some ⟨b2, o2 * sz, none⟩) l2 c2]).run E.P w = .ok (.value (.bool false)) w := by
    rw [run_callFunc_extern h1 h2 h3 h4 h5, hov]; rfl
  generalize hfe : a.eval fo = fv at hfv
  cases hfv with
  | fn _ _ us hul huv =>
    have hus : us = [] := List.eq_nil_of_length_eq_zero (by simpa using hul)
    subst hus
    unfold Oper.wp
    have hex : (execOp a.eval ⟨some d, .call { callee := .value fo, args := #[x, y], argTypes := #[t, t] }, ty, pos, after, g⟩).run E.P w = .ok (.value (.bool false)) w := by
      simp [execOp, resolve, hfe, Deferred.ofValue, invoke, q1, k1, hcall]
    rw [hex]
    exact ⟨_, ⟨M, G, hX.set hd (Ext.refl _ _) (.lit _)⟩, hR⟩
end
theorem DoesX.walkLA {P : Program} {f : FuncId} {fn : Func} {c : Code} {args m m' : List AV} {res : AV} {nt : Nat} (hf : P.funcs[f]? = some fn) (hb : fn.body = some c) (hnt : fn.ntmps = nt) (hn : args.length ≤ nt) (hn1 : nt ≤ 1000) (hmm : m'.length = m.length) (hfull : ∀ a ∈ args, fullArg m a) (hfit : fitCs m = true)
    (h : ∀ (G0 X : Nat → Prop) (w0 : World) (vals : List Value), vals.length = m.length → (∀ v ∈ vals, v.oneCell' = true) → AWP ⟨P, G0, X, w0, nt, regs vals⟩ c (retXK ⟨P, G0, X, w0, nt, regs vals⟩ fn res m') (startX (args.map (litArg vals)) m)) : DoesX P f args m res m' :=
  DoesX.ofL hf hb (by omega) (by omega) hmm hfull hfit (fun E vals e1 e2 e3 e5 e4 => by
    obtain ⟨P', G0, X, w0, nt', pv⟩ := E
    simp only at e1 e2 e4
    subst e1
    rw [hnt] at e2
    subst e2
    subst e4
    exact h G0 X w0 vals e3 e5)
/-- slices.Insert of one element, in plain words. -/
def insL {α : Type} (l : List α) (i : Int) (v : List α) : Option (List α) := if (0 ≤ i ∧ i ≤ l.length) ∧ l.length < 4294967296 ∧ v.length = 1 then some (l.take i.toNat ++ (v ++ l.drop i.toNat)) else none
theorem ins_cellsA {B X V : List AV} {a b n : Nat} (hX : a + X.length = b) (hV : b + V.length = n) (hB : B.length = n) : setL (setL B b V) a X = B.take a ++ (X ++ V) := by
  unfold setL
  have h1 : (B.take b).length = b := by rw [List.length_take]; omega
  rw [hV, List.drop_of_length_le (by omega), List.append_nil, hX, List.take_append_of_le_length (by omega), List.take_take, Nat.min_eq_left (by omega), List.drop_append_of_le_length (by omega), List.drop_of_length_le (by omega), List.nil_append]
theorem ins_cellsB {B X V : List AV} {a b n : Nat} (hX : a + X.length = b) (hV : b + V.length = n) (hB : B.length = n) : setL (setL B a X) b V = B.take a ++ (X ++ V) := by
  have hl : (setL B a X).length = n := by rw [setL_len (by omega), hB]
  have h1 : (B.take a).length = a := by rw [List.length_take]; omega
  have e : (setL B a X).take b = B.take a ++ X := by
    unfold setL
    rw [← List.append_assoc, List.take_append_of_le_length (by rw [List.length_append]; omega), List.take_of_length_le (by rw [List.length_append]; omega)]
  conv => lhs; rw [setL]
  rw [e, hV, List.drop_of_length_le (by omega), List.append_nil, List.append_assoc]
end Go.Av
namespace Go.Av
theorem ai {a b : Prop} (h : a) (k : b) : a ∧ b := ⟨h, k⟩
end Go.Av
/-! What a function as an argument has caught: no places. -/
namespace Go.Av
end Go.Av
end
section
set_option linter.unusedSimpArgs false
set_option linter.unusedVariables false
/-! A call that makes one new row of strings: from a contract over the world to one over what values read as. -/
namespace Go.Av
theorem does_strs {P : Program} {f : FuncId} {args : List AV} {l : List ByteArray} {ty : TypeId} (hl : l.length ≤ 9223372036854775807)
    (h : ∀ (w : World) (G : Nat → Prop) (vs : List Value), vs.length = args.length → (∀ (i : Nat) (a : AV) (v : Value), args[i]? = some a → vs[i]? = some v → VR w G none_ a v) →
      Calls P f vs.toArray w fun e w' => e = .returned (.slice (some ⟨w.heap.size, 0, none⟩) l.length l.length) ∧ w' = w.alloc (.cells (l.map Value.string).toArray ty)) :
    Does P f args (.row true 1 l.length (l.flatMap fun x => [S x])) := by
  intro w G vs hG hlen hrd
  refine (h w G vs hlen hrd).mono fun e w' ⟨he, hw⟩ => ?_
  subst hw
  have hb := alloc_new w (.cells (l.map Value.string).toArray ty)
  have hks : HT.blocks (.row w.heap.size 1 l.length l.length (l.map fun x => .leaf (S x) (.string x))) = [w.heap.size] := by
    have : ∀ k : List ByteArray, HT.blockss (k.map fun x => HT.leaf (S x) (.string x)) = [] := fun k => by
      induction k with
      | nil => rfl
      | cons x k ih => rw [List.map_cons, HT.blockss, ih]; rfl
    rw [HT.blocks, this]
  have hes : ∀ k : List ByteArray, HT.erases (k.map fun x => HT.leaf (S x) (.string x)) = k.flatMap fun x => [S x] := fun k => by
    induction k with
    | nil => rfl
    | cons x k ih => rw [List.map_cons, HT.erases, ih]; rfl
  refine ⟨.row w.heap.size 1 l.length l.length (l.map fun x => .leaf (S x) (.string x)), he, ?_, alloc_ext w _, ?_, ?_, G, fun _ h => h, fun _ h => .inl h, ?_, ?_⟩
  · rw [HT.erase, hes]
  · rw [hks]; simp
  · intro x hx
    rw [hks, List.mem_singleton] at hx
    subst hx
    exact ⟨Nat.le_refl _, by simp⟩
  · intro x hx
    rw [hks, List.mem_singleton] at hx
    subst hx
    exact fun hg => absurd (hG _ hg) (by omega)
  · refine .row _ 1 _ _ _ _ ty hb (by simp) (Nat.le_refl _) (by simp) (by decide) hl ?_ ?_
    · intro i T hi
      rw [List.getElem?_map] at hi
      obtain ⟨x, hx, rfl⟩ := Option.map_eq_some_iff.1 hi
      simp [hx, HT.value]
    · intro i T hi
      rw [List.getElem?_map] at hi
      obtain ⟨x, hx, rfl⟩ := Option.map_eq_some_iff.1 hi
      exact .leaf _ _ rfl (.lit _)
end Go.Av
end
section
set_option linter.unusedSimpArgs false
set_option linter.unusedVariables false
/-! The walk: one step, with the facts that are given. -/
namespace Go.Av
theorem st_by {F A B : Prop} (hF : F) (hb : B) (h : F → A = B := by intro hF; simp only [hF, aw_skip, aw_ret, aw_exit, aw_seq, aw_block, aw_cond, aw_region, thenK_nm, thenK_rt, thenK_ex, blockK_nm, blockK_rt, blockK_ex, cutK_nm, cutK_rt, cutK_ex, sq_nil, sq_none, sq_some, GQ_same, GQ_tf, GQ_ft, GQ_undef, CBC_true, CBC_false, CBC_not, set_t, set_m, ev_tmp, ev_const, ev_func, skip1_some, skip1_none, startT_t, st_move, st_pick, st_bin, binS_lit, binS_row, st_un, st_conv, st_len, st_max, st_min, st_indexAddr, idxS_row, idxS_sl, idxS_lit, st_index, st_fieldAddr, st_load, st_nck, nilQ, st_field, st_extract, st_makeFunc, st_build, st_slice, st_make, st_box, st_alloc, st_buildSlice, st_append, st_assign, st_call, st_store, pickQ, binQ, unQ, convQ, lenQ, maxQ, minQ, indexAddrQ, indexQ, fieldAddrQ, loadQ, storeQ, makeQ, fieldQ, extractQ, assignQ, appQ, appA, appC, appSelf, nilSl_row, binS_sl, nsz_zero, nsz_one, nsz_two, nsz_succ, nsz_imp, appB, appRow, appMv, appOk, buildQ, buildR, cellsOk, cellOk, partsA, buildSliceQ, rowQ, bsOk, bsA, sliceQ, sliceSl, sliceSh, sliceSt, bndQ, fillA, convSl, rowB, bytesA, fltV, ren_t, ren_m, renF, swap_t, swap_m, swapF, repP, newA, intOk, intV, strOk, strV, new_t, new_m, updM_t, updM_m, nodeOf_nil, upd_nil, AV.mapRef, AV.mapRefs, AV.share, AV.shares, retK_rt, retK_nm, List.map_cons, List.map_nil, List.nil_append, List.cons_append, List.append_nil, Nat.reduceEqDiff, Nat.reduceLT, Nat.reduceAdd, Nat.reduceMul, ↓reduceIte, true_and, and_true, List.getElem?_cons_succ, List.getElem?_cons_zero, List.getD_cons_succ, List.getD_cons_zero, cond_true, cond_false, Bool.not_true, Bool.not_false, Option.isSome_some, memN, cellsOf, setN, openC, stOk, Value.oneCell', Option.map_some, List.length_cons, List.length_nil, reduceCtorEq, or_true, true_or, treeQ, treeR, nilTs_cons, nilTs_nil, nilTs_end, nilRq, nilB_nil, nilB_none, nilB_some, nilA_none, nilA_nil, nilA_row, nilRs, boxQ, allocQ, closeV, closeVs, fitC, fitCs, leafCs, AV.leafOk, AV.parts, setNs, setL, mapT_t, mapT_m, killR, under, openCs, List.set_cons_zero, List.set_cons_succ, Nat.reduceLeDiff, Nat.reduceSub, AV.noRefs, AV.noRef, Bool.and_true, Bool.true_and, Bool.and_false, Bool.false_and, List.drop_succ_cons, List.drop_zero, List.take_succ_cons, List.take_zero, List.take_nil, List.drop_nil, Bool.false_eq_true, nodeOf_cons, AV.at_, AV.kids, AV.upd, AV.withKids, ↓reduceDIte, Nat.zero_add, Int.toNat_natCast, Nat.mul_one, Nat.one_mul, Nat.add_zero, Nat.zero_mul, Nat.sub_zero, Int.toNat_zero, List.length_map, Bool.or_false, Bool.or_true, Bool.true_or, Bool.false_or, rowIn_eq, rowAny_eq, rowInM, rowAnyM, killF, List.isPrefixOf_nil_left, List.isPrefixOf_cons_nil, and_false, false_and, ne_eq, not_false_eq_true, Nat.le_refl, Nat.lt_add_one, Nat.zero_le, and_self, retXK_rt, retXK_nm, startX_t, startX_m, openV, openVs, regs, Option.getD_some, Int.sub_zero, Int.zero_add, Int.add_zero, decide_true, decide_false, not_true_eq_false, Option.bind_some, bne_self_eq_false, beq_self_eq_true, updOne_tu, upL_nil, upL_cons, allUp_nil, allUp_cons, ptrsC_nil, ptrsC_cons, getMs_nil, getMs_cons, dxL_some, dqX_def, dqA_nil, dqA_cons, dqx2_cons, dqx3_def, dqC_nil, dqC_cons, dqB_nil, dqB_cons, fixP_nil, fixP_cons, sameP_nil, sameP_none, sameP_some, dxS_none, dxS_some, dxA_none, dxA_some, dx_store, dx_app, base1_t, base1_m, fOf_ptr, mapRef_idF, dst_none, dst_some, dst_store, dq_nil, dq_none, dq_some, dq_store, dstoreQ, pickU, upd, updOne_st, updOne_sm, updOne_sn, dq_app, dap_row, dap2_s, dap_sl, dap3_s, dq_bs, dbs, dbs1_s, dbs1_n, dbs2_s, splitS_nil, splitS_sl, splitS_lit, splitS_row, splitS_box, dnx1_n, dnx1_s, tkC_n, tkC_s, tkV_mark, outV_mark, unO_mark, unO_none, unO_some, allRef_mark, tkV_fn, outV_fn, moV_fn, tkV_lit, outV_lit, moV_lit, tkV_junk, outV_junk, moV_junk, tkV_row, outV_row, moV_row, tkV_box, outV_box, moV_box, tkV_sl, outV_sl, moV_sl, tkV_ptr, outV_ptr, moV_ptr, tkV_agg, outV_agg, moV_agg, tkV_tup, outV_tup, moV_tup, noUp, upOk, Option.isNone_none, List.range_succ, dq_move, dq_pick, dq_bin, dq_un, dq_conv, dq_len, dq_max, dq_min, dq_indexAddr, dq_index, dq_fieldAddr, dq_load, dq_nck, dq_field, dq_extract, dq_makeFunc, dq_build, dq_slice, dq_assign, dq_call, dq_alloc, dq_make, dalloc, dmk, dnx, dOf, SV_t, SV_m, GD_same, GD_tf, GD_ft, GD_undef, wh, memB, okV, AV.allRef, AV.allRefs, killL, Option.some.injEq, Nat.reduceBEq]; exact rfl) : A := (h hF) ▸ hb
theorem sr_by {F A B : Prop} (hF : F) (hb : B) (h : F → A = B := by intro hF; simp only [hF, aw_skip, aw_ret, aw_exit, aw_seq, aw_block, aw_cond, aw_region, thenK_nm, thenK_rt, thenK_ex, blockK_nm, blockK_rt, blockK_ex, cutK_nm, cutK_rt, cutK_ex, sq_nil, sq_none, sq_some, GQ_same, GQ_tf, GQ_ft, GQ_undef, CBC_true, CBC_false, CBC_not, set_t, set_m, ev_tmp, ev_const, ev_func, skip1_some, skip1_none, startT_t, st_move, st_pick, st_bin, binS_lit, binS_row, st_un, st_conv, st_len, st_max, st_min, st_indexAddr, idxS_row, idxS_sl, idxS_lit, st_index, st_fieldAddr, st_load, st_nck, nilQ, st_field, st_extract, st_makeFunc, st_build, st_slice, st_make, st_box, st_alloc, st_buildSlice, st_append, st_assign, st_call, st_store, pickQ, binQ, unQ, convQ, lenQ, maxQ, minQ, indexAddrQ, indexQ, fieldAddrQ, loadQ, storeQ, makeQ, fieldQ, extractQ, assignQ, appQ, appA, appC, appSelf, nilSl_row, binS_sl, nsz_zero, nsz_one, nsz_two, nsz_succ, nsz_imp, appB, appRow, appMv, appOk, buildQ, buildR, cellsOk, cellOk, partsA, buildSliceQ, rowQ, bsOk, bsA, sliceQ, sliceSl, sliceSh, sliceSt, bndQ, fillA, convSl, rowB, bytesA, fltV, ren_t, ren_m, renF, swap_t, swap_m, swapF, repP, newA, intOk, intV, strOk, strV, new_t, new_m, updM_t, updM_m, nodeOf_nil, upd_nil, AV.mapRef, AV.mapRefs, AV.share, AV.shares, retK_rt, retK_nm, List.map_cons, List.map_nil, List.nil_append, List.cons_append, List.append_nil, Nat.reduceEqDiff, Nat.reduceLT, Nat.reduceAdd, Nat.reduceMul, ↓reduceIte, true_and, and_true, List.getElem?_cons_succ, List.getElem?_cons_zero, List.getD_cons_succ, List.getD_cons_zero, cond_true, cond_false, Bool.not_true, Bool.not_false, Option.isSome_some, memN, cellsOf, setN, openC, stOk, Value.oneCell', Option.map_some, List.length_cons, List.length_nil, reduceCtorEq, or_true, true_or, treeQ, treeR, nilTs_cons, nilTs_nil, nilTs_end, nilRq, nilB_nil, nilB_none, nilB_some, nilA_none, nilA_nil, nilA_row, nilRs, boxQ, allocQ, closeV, closeVs, fitC, fitCs, leafCs, AV.leafOk, AV.parts, setNs, setL, mapT_t, mapT_m, killR, under, openCs, List.set_cons_zero, List.set_cons_succ, Nat.reduceLeDiff, Nat.reduceSub, AV.noRefs, AV.noRef, Bool.and_true, Bool.true_and, Bool.and_false, Bool.false_and, List.drop_succ_cons, List.drop_zero, List.take_succ_cons, List.take_zero, List.take_nil, List.drop_nil, Bool.false_eq_true, nodeOf_cons, AV.at_, AV.kids, AV.upd, AV.withKids, ↓reduceDIte, Nat.zero_add, Int.toNat_natCast, Nat.mul_one, Nat.one_mul, Nat.add_zero, Nat.zero_mul, Nat.sub_zero, Int.toNat_zero, List.length_map, Bool.or_false, Bool.or_true, Bool.true_or, Bool.false_or, rowIn_eq, rowAny_eq, rowInM, rowAnyM, killF, List.isPrefixOf_nil_left, List.isPrefixOf_cons_nil, and_false, false_and, ne_eq, not_false_eq_true, Nat.le_refl, Nat.lt_add_one, Nat.zero_le, and_self, retXK_rt, retXK_nm, startX_t, startX_m, openV, openVs, regs, Option.getD_some, Int.sub_zero, Int.zero_add, Int.add_zero, decide_true, decide_false, not_true_eq_false, Option.bind_some, bne_self_eq_false, beq_self_eq_true, updOne_tu, upL_nil, upL_cons, allUp_nil, allUp_cons, ptrsC_nil, ptrsC_cons, getMs_nil, getMs_cons, dxL_some, dqX_def, dqA_nil, dqA_cons, dqx2_cons, dqx3_def, dqC_nil, dqC_cons, dqB_nil, dqB_cons, fixP_nil, fixP_cons, sameP_nil, sameP_none, sameP_some, dxS_none, dxS_some, dxA_none, dxA_some, dx_store, dx_app, base1_t, base1_m, fOf_ptr, mapRef_idF, dst_none, dst_some, dst_store, dq_nil, dq_none, dq_some, dq_store, dstoreQ, pickU, upd, updOne_st, updOne_sm, updOne_sn, dq_app, dap_row, dap2_s, dap_sl, dap3_s, dq_bs, dbs, dbs1_s, dbs1_n, dbs2_s, splitS_nil, splitS_sl, splitS_lit, splitS_row, splitS_box, dnx1_n, dnx1_s, tkC_n, tkC_s, tkV_mark, outV_mark, unO_mark, unO_none, unO_some, allRef_mark, tkV_fn, outV_fn, moV_fn, tkV_lit, outV_lit, moV_lit, tkV_junk, outV_junk, moV_junk, tkV_row, outV_row, moV_row, tkV_box, outV_box, moV_box, tkV_sl, outV_sl, moV_sl, tkV_ptr, outV_ptr, moV_ptr, tkV_agg, outV_agg, moV_agg, tkV_tup, outV_tup, moV_tup, noUp, upOk, Option.isNone_none, List.range_succ, dq_move, dq_pick, dq_bin, dq_un, dq_conv, dq_len, dq_max, dq_min, dq_indexAddr, dq_index, dq_fieldAddr, dq_load, dq_nck, dq_field, dq_extract, dq_makeFunc, dq_build, dq_slice, dq_assign, dq_call, dq_alloc, dq_make, dalloc, dmk, dnx, dOf, SV_t, SV_m, GD_same, GD_tf, GD_ft, GD_undef, wh, memB, okV, AV.allRef, AV.allRefs, killL, Option.some.injEq, Nat.reduceBEq, retXCq, retXq1, retXCsq, rvQ_nil, rvQ_tmp, rvQ_cell, regsQ_nil, regsQ_cons, retN2, retNs, retQ1, retQ2, retQ3, retC, retCs, rview, viewOf, retX1, retX2, retXC]; exact rfl) : A := (h hF) ▸ hb
theorem sa_by {F A B : Prop} (hF : F) (hb : B) (h : F → A = B := by intro hF; simp only [hF, aw_skip, aw_ret, aw_exit, aw_seq, aw_block, aw_cond, aw_region, thenK_nm, thenK_rt, thenK_ex, blockK_nm, blockK_rt, blockK_ex, cutK_nm, cutK_rt, cutK_ex, sq_nil, sq_none, sq_some, GQ_same, GQ_tf, GQ_ft, GQ_undef, CBC_true, CBC_false, CBC_not, set_t, set_m, ev_tmp, ev_const, ev_func, skip1_some, skip1_none, startT_t, st_move, st_pick, st_bin, binS_lit, binS_row, st_un, st_conv, st_len, st_max, st_min, st_indexAddr, idxS_row, idxS_sl, idxS_lit, st_index, st_fieldAddr, st_load, st_nck, nilQ, st_field, st_extract, st_makeFunc, st_build, st_slice, st_make, st_box, st_alloc, st_buildSlice, st_append, st_assign, st_call, st_store, pickQ, binQ, unQ, convQ, lenQ, maxQ, minQ, indexAddrQ, indexQ, fieldAddrQ, loadQ, storeQ, makeQ, fieldQ, extractQ, assignQ, appQ, appA, appC, appSelf, nilSl_row, binS_sl, nsz_zero, nsz_one, nsz_two, nsz_succ, nsz_imp, appB, appRow, appMv, appOk, buildQ, buildR, cellsOk, cellOk, partsA, buildSliceQ, rowQ, bsOk, bsA, sliceQ, sliceSl, sliceSh, sliceSt, bndQ, fillA, convSl, rowB, bytesA, fltV, ren_t, ren_m, renF, swap_t, swap_m, swapF, repP, newA, intOk, intV, strOk, strV, new_t, new_m, updM_t, updM_m, nodeOf_nil, upd_nil, AV.mapRef, AV.mapRefs, AV.share, AV.shares, retK_rt, retK_nm, List.map_cons, List.map_nil, List.nil_append, List.cons_append, List.append_nil, Nat.reduceEqDiff, Nat.reduceLT, Nat.reduceAdd, Nat.reduceMul, ↓reduceIte, true_and, and_true, List.getElem?_cons_succ, List.getElem?_cons_zero, List.getD_cons_succ, List.getD_cons_zero, cond_true, cond_false, Bool.not_true, Bool.not_false, Option.isSome_some, memN, cellsOf, setN, openC, stOk, Value.oneCell', Option.map_some, List.length_cons, List.length_nil, reduceCtorEq, or_true, true_or, treeQ, treeR, nilTs_cons, nilTs_nil, nilTs_end, nilRq, nilB_nil, nilB_none, nilB_some, nilA_none, nilA_nil, nilA_row, nilRs, boxQ, allocQ, closeV, closeVs, fitC, fitCs, leafCs, AV.leafOk, AV.parts, setNs, setL, mapT_t, mapT_m, killR, under, openCs, List.set_cons_zero, List.set_cons_succ, Nat.reduceLeDiff, Nat.reduceSub, AV.noRefs, AV.noRef, Bool.and_true, Bool.true_and, Bool.and_false, Bool.false_and, List.drop_succ_cons, List.drop_zero, List.take_succ_cons, List.take_zero, List.take_nil, List.drop_nil, Bool.false_eq_true, nodeOf_cons, AV.at_, AV.kids, AV.upd, AV.withKids, ↓reduceDIte, Nat.zero_add, Int.toNat_natCast, Nat.mul_one, Nat.one_mul, Nat.add_zero, Nat.zero_mul, Nat.sub_zero, Int.toNat_zero, List.length_map, Bool.or_false, Bool.or_true, Bool.true_or, Bool.false_or, rowIn_eq, rowAny_eq, rowInM, rowAnyM, killF, List.isPrefixOf_nil_left, List.isPrefixOf_cons_nil, and_false, false_and, ne_eq, not_false_eq_true, Nat.le_refl, Nat.lt_add_one, Nat.zero_le, and_self, retXK_rt, retXK_nm, startX_t, startX_m, openV, openVs, regs, Option.getD_some, Int.sub_zero, Int.zero_add, Int.add_zero, decide_true, decide_false, not_true_eq_false, Option.bind_some, bne_self_eq_false, beq_self_eq_true, updOne_tu, upL_nil, upL_cons, allUp_nil, allUp_cons, ptrsC_nil, ptrsC_cons, getMs_nil, getMs_cons, dxL_some, dqX_def, dqA_nil, dqA_cons, dqx2_cons, dqx3_def, dqC_nil, dqC_cons, dqB_nil, dqB_cons, fixP_nil, fixP_cons, sameP_nil, sameP_none, sameP_some, dxS_none, dxS_some, dxA_none, dxA_some, dx_store, dx_app, base1_t, base1_m, fOf_ptr, mapRef_idF, dst_none, dst_some, dst_store, dq_nil, dq_none, dq_some, dq_store, dstoreQ, pickU, upd, updOne_st, updOne_sm, updOne_sn, dq_app, dap_row, dap2_s, dap_sl, dap3_s, dq_bs, dbs, dbs1_s, dbs1_n, dbs2_s, splitS_nil, splitS_sl, splitS_lit, splitS_row, splitS_box, dnx1_n, dnx1_s, tkC_n, tkC_s, tkV_mark, outV_mark, unO_mark, unO_none, unO_some, allRef_mark, tkV_fn, outV_fn, moV_fn, tkV_lit, outV_lit, moV_lit, tkV_junk, outV_junk, moV_junk, tkV_row, outV_row, moV_row, tkV_box, outV_box, moV_box, tkV_sl, outV_sl, moV_sl, tkV_ptr, outV_ptr, moV_ptr, tkV_agg, outV_agg, moV_agg, tkV_tup, outV_tup, moV_tup, noUp, upOk, Option.isNone_none, List.range_succ, dq_move, dq_pick, dq_bin, dq_un, dq_conv, dq_len, dq_max, dq_min, dq_indexAddr, dq_index, dq_fieldAddr, dq_load, dq_nck, dq_field, dq_extract, dq_makeFunc, dq_build, dq_slice, dq_assign, dq_call, dq_alloc, dq_make, dalloc, dmk, dnx, dOf, SV_t, SV_m, GD_same, GD_tf, GD_ft, GD_undef, wh, memB, okV, AV.allRef, AV.allRefs, killL, Option.some.injEq, Nat.reduceBEq, capsOf, lendQ, borrowVs, borrowV, pureV, pureVs, renP, lentOk, hdsOk, hdOk, fnId]; exact rfl) : A := (h hF) ▸ hb
theorem cl_by {F A : Prop} (hF : F) (h : F → A := by intro hF; first | (simp only [hF, aw_skip, aw_ret, aw_exit, aw_seq, aw_block, aw_cond, aw_region, thenK_nm, thenK_rt, thenK_ex, blockK_nm, blockK_rt, blockK_ex, cutK_nm, cutK_rt, cutK_ex, sq_nil, sq_none, sq_some, GQ_same, GQ_tf, GQ_ft, GQ_undef, CBC_true, CBC_false, CBC_not, set_t, set_m, ev_tmp, ev_const, ev_func, skip1_some, skip1_none, startT_t, st_move, st_pick, st_bin, binS_lit, binS_row, st_un, st_conv, st_len, st_max, st_min, st_indexAddr, idxS_row, idxS_sl, idxS_lit, st_index, st_fieldAddr, st_load, st_nck, nilQ, st_field, st_extract, st_makeFunc, st_build, st_slice, st_make, st_box, st_alloc, st_buildSlice, st_append, st_assign, st_call, st_store, pickQ, binQ, unQ, convQ, lenQ, maxQ, minQ, indexAddrQ, indexQ, fieldAddrQ, loadQ, storeQ, makeQ, fieldQ, extractQ, assignQ, appQ, appA, appC, appSelf, nilSl_row, binS_sl, nsz_zero, nsz_one, nsz_two, nsz_succ, nsz_imp, appB, appRow, appMv, appOk, buildQ, buildR, cellsOk, cellOk, partsA, buildSliceQ, rowQ, bsOk, bsA, sliceQ, sliceSl, sliceSh, sliceSt, bndQ, fillA, convSl, rowB, bytesA, fltV, ren_t, ren_m, renF, swap_t, swap_m, swapF, repP, newA, intOk, intV, strOk, strV, new_t, new_m, updM_t, updM_m, nodeOf_nil, upd_nil, AV.mapRef, AV.mapRefs, AV.share, AV.shares, retK_rt, retK_nm, List.map_cons, List.map_nil, List.nil_append, List.cons_append, List.append_nil, Nat.reduceEqDiff, Nat.reduceLT, Nat.reduceAdd, Nat.reduceMul, ↓reduceIte, true_and, and_true, List.getElem?_cons_succ, List.getElem?_cons_zero, List.getD_cons_succ, List.getD_cons_zero, cond_true, cond_false, Bool.not_true, Bool.not_false, Option.isSome_some, memN, cellsOf, setN, openC, stOk, Value.oneCell', Option.map_some, List.length_cons, List.length_nil, reduceCtorEq, or_true, true_or, treeQ, treeR, nilTs_cons, nilTs_nil, nilTs_end, nilRq, nilB_nil, nilB_none, nilB_some, nilA_none, nilA_nil, nilA_row, nilRs, boxQ, allocQ, closeV, closeVs, fitC, fitCs, leafCs, AV.leafOk, AV.parts, setNs, setL, mapT_t, mapT_m, killR, under, openCs, List.set_cons_zero, List.set_cons_succ, Nat.reduceLeDiff, Nat.reduceSub, AV.noRefs, AV.noRef, Bool.and_true, Bool.true_and, Bool.and_false, Bool.false_and, List.drop_succ_cons, List.drop_zero, List.take_succ_cons, List.take_zero, List.take_nil, List.drop_nil, Bool.false_eq_true, nodeOf_cons, AV.at_, AV.kids, AV.upd, AV.withKids, ↓reduceDIte, Nat.zero_add, Int.toNat_natCast, Nat.mul_one, Nat.one_mul, Nat.add_zero, Nat.zero_mul, Nat.sub_zero, Int.toNat_zero, List.length_map, Bool.or_false, Bool.or_true, Bool.true_or, Bool.false_or, rowIn_eq, rowAny_eq, rowInM, rowAnyM, killF, List.isPrefixOf_nil_left, List.isPrefixOf_cons_nil, and_false, false_and, ne_eq, not_false_eq_true, Nat.le_refl, Nat.lt_add_one, Nat.zero_le, and_self, retXK_rt, retXK_nm, startX_t, startX_m, openV, openVs, regs, Option.getD_some, Int.sub_zero, Int.zero_add, Int.add_zero, decide_true, decide_false, not_true_eq_false, Option.bind_some, bne_self_eq_false, beq_self_eq_true, fnId, capsOf]; done) | (simp only [hF, aw_skip, aw_ret, aw_exit, aw_seq, aw_block, aw_cond, aw_region, thenK_nm, thenK_rt, thenK_ex, blockK_nm, blockK_rt, blockK_ex, cutK_nm, cutK_rt, cutK_ex, sq_nil, sq_none, sq_some, GQ_same, GQ_tf, GQ_ft, GQ_undef, CBC_true, CBC_false, CBC_not, set_t, set_m, ev_tmp, ev_const, ev_func, skip1_some, skip1_none, startT_t, st_move, st_pick, st_bin, binS_lit, binS_row, st_un, st_conv, st_len, st_max, st_min, st_indexAddr, idxS_row, idxS_sl, idxS_lit, st_index, st_fieldAddr, st_load, st_nck, nilQ, st_field, st_extract, st_makeFunc, st_build, st_slice, st_make, st_box, st_alloc, st_buildSlice, st_append, st_assign, st_call, st_store, pickQ, binQ, unQ, convQ, lenQ, maxQ, minQ, indexAddrQ, indexQ, fieldAddrQ, loadQ, storeQ, makeQ, fieldQ, extractQ, assignQ, appQ, appA, appC, appSelf, nilSl_row, binS_sl, nsz_zero, nsz_one, nsz_two, nsz_succ, nsz_imp, appB, appRow, appMv, appOk, buildQ, buildR, cellsOk, cellOk, partsA, buildSliceQ, rowQ, bsOk, bsA, sliceQ, sliceSl, sliceSh, sliceSt, bndQ, fillA, convSl, rowB, bytesA, fltV, ren_t, ren_m, renF, swap_t, swap_m, swapF, repP, newA, intOk, intV, strOk, strV, new_t, new_m, updM_t, updM_m, nodeOf_nil, upd_nil, AV.mapRef, AV.mapRefs, AV.share, AV.shares, retK_rt, retK_nm, List.map_cons, List.map_nil, List.nil_append, List.cons_append, List.append_nil, Nat.reduceEqDiff, Nat.reduceLT, Nat.reduceAdd, Nat.reduceMul, ↓reduceIte, true_and, and_true, List.getElem?_cons_succ, List.getElem?_cons_zero, List.getD_cons_succ, List.getD_cons_zero, cond_true, cond_false, Bool.not_true, Bool.not_false, Option.isSome_some, memN, cellsOf, setN, openC, stOk, Value.oneCell', Option.map_some, List.length_cons, List.length_nil, reduceCtorEq, or_true, true_or, treeQ, treeR, nilTs_cons, nilTs_nil, nilTs_end, nilRq, nilB_nil, nilB_none, nilB_some, nilA_none, nilA_nil, nilA_row, nilRs, boxQ, allocQ, closeV, closeVs, fitC, fitCs, leafCs, AV.leafOk, AV.parts, setNs, setL, mapT_t, mapT_m, killR, under, openCs, List.set_cons_zero, List.set_cons_succ, Nat.reduceLeDiff, Nat.reduceSub, AV.noRefs, AV.noRef, Bool.and_true, Bool.true_and, Bool.and_false, Bool.false_and, List.drop_succ_cons, List.drop_zero, List.take_succ_cons, List.take_zero, List.take_nil, List.drop_nil, Bool.false_eq_true, nodeOf_cons, AV.at_, AV.kids, AV.upd, AV.withKids, ↓reduceDIte, Nat.zero_add, Int.toNat_natCast, Nat.mul_one, Nat.one_mul, Nat.add_zero, Nat.zero_mul, Nat.sub_zero, Int.toNat_zero, List.length_map, Bool.or_false, Bool.or_true, Bool.true_or, Bool.false_or, rowIn_eq, rowAny_eq, rowInM, rowAnyM, killF, List.isPrefixOf_nil_left, List.isPrefixOf_cons_nil, and_false, false_and, ne_eq, not_false_eq_true, Nat.le_refl, Nat.lt_add_one, Nat.zero_le, and_self, retXK_rt, retXK_nm, startX_t, startX_m, openV, openVs, regs, Option.getD_some, Int.sub_zero, Int.zero_add, Int.add_zero, decide_true, decide_false, not_true_eq_false, Option.bind_some, bne_self_eq_false, beq_self_eq_true, fnId, capsOf]; exact rfl)) : A := h hF
theorem ca_by {F A : Prop} (hF : F) (h : F → A := by intro hF; first | (simp only [hF, aw_skip, aw_ret, aw_exit, aw_seq, aw_block, aw_cond, aw_region, thenK_nm, thenK_rt, thenK_ex, blockK_nm, blockK_rt, blockK_ex, cutK_nm, cutK_rt, cutK_ex, sq_nil, sq_none, sq_some, GQ_same, GQ_tf, GQ_ft, GQ_undef, CBC_true, CBC_false, CBC_not, set_t, set_m, ev_tmp, ev_const, ev_func, skip1_some, skip1_none, startT_t, st_move, st_pick, st_bin, binS_lit, binS_row, st_un, st_conv, st_len, st_max, st_min, st_indexAddr, idxS_row, idxS_sl, idxS_lit, st_index, st_fieldAddr, st_load, st_nck, nilQ, st_field, st_extract, st_makeFunc, st_build, st_slice, st_make, st_box, st_alloc, st_buildSlice, st_append, st_assign, st_call, st_store, pickQ, binQ, unQ, convQ, lenQ, maxQ, minQ, indexAddrQ, indexQ, fieldAddrQ, loadQ, storeQ, makeQ, fieldQ, extractQ, assignQ, appQ, appA, appC, appSelf, nilSl_row, binS_sl, nsz_zero, nsz_one, nsz_two, nsz_succ, nsz_imp, appB, appRow, appMv, appOk, buildQ, buildR, cellsOk, cellOk, partsA, buildSliceQ, rowQ, bsOk, bsA, sliceQ, sliceSl, sliceSh, sliceSt, bndQ, fillA, convSl, rowB, bytesA, fltV, ren_t, ren_m, renF, swap_t, swap_m, swapF, repP, newA, intOk, intV, strOk, strV, new_t, new_m, updM_t, updM_m, nodeOf_nil, upd_nil, AV.mapRef, AV.mapRefs, AV.share, AV.shares, retK_rt, retK_nm, List.map_cons, List.map_nil, List.nil_append, List.cons_append, List.append_nil, Nat.reduceEqDiff, Nat.reduceLT, Nat.reduceAdd, Nat.reduceMul, ↓reduceIte, true_and, and_true, List.getElem?_cons_succ, List.getElem?_cons_zero, List.getD_cons_succ, List.getD_cons_zero, cond_true, cond_false, Bool.not_true, Bool.not_false, Option.isSome_some, memN, cellsOf, setN, openC, stOk, Value.oneCell', Option.map_some, List.length_cons, List.length_nil, reduceCtorEq, or_true, true_or, treeQ, treeR, nilTs_cons, nilTs_nil, nilTs_end, nilRq, nilB_nil, nilB_none, nilB_some, nilA_none, nilA_nil, nilA_row, nilRs, boxQ, allocQ, closeV, closeVs, fitC, fitCs, leafCs, AV.leafOk, AV.parts, setNs, setL, mapT_t, mapT_m, killR, under, openCs, List.set_cons_zero, List.set_cons_succ, Nat.reduceLeDiff, Nat.reduceSub, AV.noRefs, AV.noRef, Bool.and_true, Bool.true_and, Bool.and_false, Bool.false_and, List.drop_succ_cons, List.drop_zero, List.take_succ_cons, List.take_zero, List.take_nil, List.drop_nil, Bool.false_eq_true, nodeOf_cons, AV.at_, AV.kids, AV.upd, AV.withKids, ↓reduceDIte, Nat.zero_add, Int.toNat_natCast, Nat.mul_one, Nat.one_mul, Nat.add_zero, Nat.zero_mul, Nat.sub_zero, Int.toNat_zero, List.length_map, Bool.or_false, Bool.or_true, Bool.true_or, Bool.false_or, rowIn_eq, rowAny_eq, rowInM, rowAnyM, killF, List.isPrefixOf_nil_left, List.isPrefixOf_cons_nil, and_false, false_and, ne_eq, not_false_eq_true, Nat.le_refl, Nat.lt_add_one, Nat.zero_le, and_self, retXK_rt, retXK_nm, startX_t, startX_m, openV, openVs, regs, Option.getD_some, Int.sub_zero, Int.zero_add, Int.add_zero, decide_true, decide_false, not_true_eq_false, Option.bind_some, bne_self_eq_false, beq_self_eq_true, updOne_tu, upL_nil, upL_cons, allUp_nil, allUp_cons, ptrsC_nil, ptrsC_cons, getMs_nil, getMs_cons, dxL_some, dqX_def, dqA_nil, dqA_cons, dqx2_cons, dqx3_def, dqC_nil, dqC_cons, dqB_nil, dqB_cons, fixP_nil, fixP_cons, sameP_nil, sameP_none, sameP_some, dxS_none, dxS_some, dxA_none, dxA_some, dx_store, dx_app, base1_t, base1_m, fOf_ptr, mapRef_idF, dst_none, dst_some, dst_store, dq_nil, dq_none, dq_some, dq_store, dstoreQ, pickU, upd, updOne_st, updOne_sm, updOne_sn, dq_app, dap_row, dap2_s, dap_sl, dap3_s, dq_bs, dbs, dbs1_s, dbs1_n, dbs2_s, splitS_nil, splitS_sl, splitS_lit, splitS_row, splitS_box, dnx1_n, dnx1_s, tkC_n, tkC_s, tkV_mark, outV_mark, unO_mark, unO_none, unO_some, allRef_mark, tkV_fn, outV_fn, moV_fn, tkV_lit, outV_lit, moV_lit, tkV_junk, outV_junk, moV_junk, tkV_row, outV_row, moV_row, tkV_box, outV_box, moV_box, tkV_sl, outV_sl, moV_sl, tkV_ptr, outV_ptr, moV_ptr, tkV_agg, outV_agg, moV_agg, tkV_tup, outV_tup, moV_tup, noUp, upOk, Option.isNone_none, List.range_succ, dq_move, dq_pick, dq_bin, dq_un, dq_conv, dq_len, dq_max, dq_min, dq_indexAddr, dq_index, dq_fieldAddr, dq_load, dq_nck, dq_field, dq_extract, dq_makeFunc, dq_build, dq_slice, dq_assign, dq_call, dq_alloc, dq_make, dalloc, dmk, dnx, dOf, SV_t, SV_m, GD_same, GD_tf, GD_ft, GD_undef, wh, memB, okV, AV.allRef, AV.allRefs, killL, Option.some.injEq, Nat.reduceBEq, capsOf, lendQ, borrowVs, borrowV, pureV, pureVs, renP, lentOk, hdsOk, hdOk, fnId]; done) | (simp only [hF, aw_skip, aw_ret, aw_exit, aw_seq, aw_block, aw_cond, aw_region, thenK_nm, thenK_rt, thenK_ex, blockK_nm, blockK_rt, blockK_ex, cutK_nm, cutK_rt, cutK_ex, sq_nil, sq_none, sq_some, GQ_same, GQ_tf, GQ_ft, GQ_undef, CBC_true, CBC_false, CBC_not, set_t, set_m, ev_tmp, ev_const, ev_func, skip1_some, skip1_none, startT_t, st_move, st_pick, st_bin, binS_lit, binS_row, st_un, st_conv, st_len, st_max, st_min, st_indexAddr, idxS_row, idxS_sl, idxS_lit, st_index, st_fieldAddr, st_load, st_nck, nilQ, st_field, st_extract, st_makeFunc, st_build, st_slice, st_make, st_box, st_alloc, st_buildSlice, st_append, st_assign, st_call, st_store, pickQ, binQ, unQ, convQ, lenQ, maxQ, minQ, indexAddrQ, indexQ, fieldAddrQ, loadQ, storeQ, makeQ, fieldQ, extractQ, assignQ, appQ, appA, appC, appSelf, nilSl_row, binS_sl, nsz_zero, nsz_one, nsz_two, nsz_succ, nsz_imp, appB, appRow, appMv, appOk, buildQ, buildR, cellsOk, cellOk, partsA, buildSliceQ, rowQ, bsOk, bsA, sliceQ, sliceSl, sliceSh, sliceSt, bndQ, fillA, convSl, rowB, bytesA, fltV, ren_t, ren_m, renF, swap_t, swap_m, swapF, repP, newA, intOk, intV, strOk, strV, new_t, new_m, updM_t, updM_m, nodeOf_nil, upd_nil, AV.mapRef, AV.mapRefs, AV.share, AV.shares, retK_rt, retK_nm, List.map_cons, List.map_nil, List.nil_append, List.cons_append, List.append_nil, Nat.reduceEqDiff, Nat.reduceLT, Nat.reduceAdd, Nat.reduceMul, ↓reduceIte, true_and, and_true, List.getElem?_cons_succ, List.getElem?_cons_zero, List.getD_cons_succ, List.getD_cons_zero, cond_true, cond_false, Bool.not_true, Bool.not_false, Option.isSome_some, memN, cellsOf, setN, openC, stOk, Value.oneCell', Option.map_some, List.length_cons, List.length_nil, reduceCtorEq, or_true, true_or, treeQ, treeR, nilTs_cons, nilTs_nil, nilTs_end, nilRq, nilB_nil, nilB_none, nilB_some, nilA_none, nilA_nil, nilA_row, nilRs, boxQ, allocQ, closeV, closeVs, fitC, fitCs, leafCs, AV.leafOk, AV.parts, setNs, setL, mapT_t, mapT_m, killR, under, openCs, List.set_cons_zero, List.set_cons_succ, Nat.reduceLeDiff, Nat.reduceSub, AV.noRefs, AV.noRef, Bool.and_true, Bool.true_and, Bool.and_false, Bool.false_and, List.drop_succ_cons, List.drop_zero, List.take_succ_cons, List.take_zero, List.take_nil, List.drop_nil, Bool.false_eq_true, nodeOf_cons, AV.at_, AV.kids, AV.upd, AV.withKids, ↓reduceDIte, Nat.zero_add, Int.toNat_natCast, Nat.mul_one, Nat.one_mul, Nat.add_zero, Nat.zero_mul, Nat.sub_zero, Int.toNat_zero, List.length_map, Bool.or_false, Bool.or_true, Bool.true_or, Bool.false_or, rowIn_eq, rowAny_eq, rowInM, rowAnyM, killF, List.isPrefixOf_nil_left, List.isPrefixOf_cons_nil, and_false, false_and, ne_eq, not_false_eq_true, Nat.le_refl, Nat.lt_add_one, Nat.zero_le, and_self, retXK_rt, retXK_nm, startX_t, startX_m, openV, openVs, regs, Option.getD_some, Int.sub_zero, Int.zero_add, Int.add_zero, decide_true, decide_false, not_true_eq_false, Option.bind_some, bne_self_eq_false, beq_self_eq_true, updOne_tu, upL_nil, upL_cons, allUp_nil, allUp_cons, ptrsC_nil, ptrsC_cons, getMs_nil, getMs_cons, dxL_some, dqX_def, dqA_nil, dqA_cons, dqx2_cons, dqx3_def, dqC_nil, dqC_cons, dqB_nil, dqB_cons, fixP_nil, fixP_cons, sameP_nil, sameP_none, sameP_some, dxS_none, dxS_some, dxA_none, dxA_some, dx_store, dx_app, base1_t, base1_m, fOf_ptr, mapRef_idF, dst_none, dst_some, dst_store, dq_nil, dq_none, dq_some, dq_store, dstoreQ, pickU, upd, updOne_st, updOne_sm, updOne_sn, dq_app, dap_row, dap2_s, dap_sl, dap3_s, dq_bs, dbs, dbs1_s, dbs1_n, dbs2_s, splitS_nil, splitS_sl, splitS_lit, splitS_row, splitS_box, dnx1_n, dnx1_s, tkC_n, tkC_s, tkV_mark, outV_mark, unO_mark, unO_none, unO_some, allRef_mark, tkV_fn, outV_fn, moV_fn, tkV_lit, outV_lit, moV_lit, tkV_junk, outV_junk, moV_junk, tkV_row, outV_row, moV_row, tkV_box, outV_box, moV_box, tkV_sl, outV_sl, moV_sl, tkV_ptr, outV_ptr, moV_ptr, tkV_agg, outV_agg, moV_agg, tkV_tup, outV_tup, moV_tup, noUp, upOk, Option.isNone_none, List.range_succ, dq_move, dq_pick, dq_bin, dq_un, dq_conv, dq_len, dq_max, dq_min, dq_indexAddr, dq_index, dq_fieldAddr, dq_load, dq_nck, dq_field, dq_extract, dq_makeFunc, dq_build, dq_slice, dq_assign, dq_call, dq_alloc, dq_make, dalloc, dmk, dnx, dOf, SV_t, SV_m, GD_same, GD_tf, GD_ft, GD_undef, wh, memB, okV, AV.allRef, AV.allRefs, killL, Option.some.injEq, Nat.reduceBEq, capsOf, lendQ, borrowVs, borrowV, pureV, pureVs, renP, lentOk, hdsOk, hdOk, fnId]; exact rfl)) : A := h hF
theorem sd {A : Prop} (h : A := by first | exact trivial | omega | assumption | decide | rfl | (constructor <;> omega) | (simp; omega) | (simp; done)) : A := h
theorem kr {A : Prop} (h : A := by first | assumption | kernel_rfl) : A := h
theorem hf_by {F A : Prop} (hF : F) (h : F → A := by intro hF; first | rfl | exact cl_by hF) : A := h hF
end Go.Av
end
section
set_option linter.unusedSimpArgs false
set_option linter.unusedVariables false
/-! The types of the program, their cells. -/
namespace Go.Av
def eInt (x : Int) : List AV := [I x]
def esInt (l : List Int) : List AV := l.flatMap eInt
def eBool (x : Bool) : List AV := [B x]
def esBool (l : List Bool) : List AV := l.flatMap eBool
def eStr (x : ByteArray) : List AV := [S x]
theorem eStr_eq (x : ByteArray) : eStr x = [S x] := rfl
def esStr (l : List ByteArray) : List AV := l.flatMap eStr
theorem esStr_len (l : List ByteArray) : (esStr l).length = l.length * 1 := flat_len (fun _ _ => rfl)
theorem esStr_nil : esStr [] = [] := rfl
theorem esStr_cons (x : ByteArray) (l : List ByteArray) : esStr (x :: l) = eStr x ++ esStr l := rfl
theorem esStr_app (l k : List ByteArray) : esStr (l ++ k) = esStr l ++ esStr k := by simp [esStr]
theorem esStr_leaf (l : List ByteArray) : leafCs (esStr l) = true := leafCs_flat (fun _ => rfl)
theorem esStr_fit (l : List ByteArray) : fitCs (esStr l) = true := fitCs_flat (fun _ => rfl)
theorem esStr_share (l : List ByteArray) : AV.shares (esStr l) = esStr l := shares_flat (fun x => by simp [eStr, AV.shares, AV.share])
theorem esStr_pure (l : List ByteArray) : pureVs (esStr l) = true := pureVs_flat (fun x => by simp [eStr, pureVs, pureV])
def eU8 (x : Int) : List AV := [U8 x]
def esU8 (l : List Int) : List AV := l.flatMap eU8
structure GProp where
  Path : ByteArray
  Value : ByteArray
  deriving DecidableEq, Inhabited
def eProp (x : GProp) : List AV := [S x.Path, S x.Value]
theorem eProp_eq (x : GProp) : eProp x = [S x.Path, S x.Value] := rfl
def esProp (l : List GProp) : List AV := l.flatMap eProp
theorem esProp_len (l : List GProp) : (esProp l).length = l.length * 2 := flat_len (fun _ _ => rfl)
theorem esProp_nil : esProp [] = [] := rfl
theorem esProp_cons (x : GProp) (l : List GProp) : esProp (x :: l) = eProp x ++ esProp l := rfl
theorem esProp_app (l k : List GProp) : esProp (l ++ k) = esProp l ++ esProp k := by simp [esProp]
theorem esProp_dropk (l : List GProp) (k : Nat) : (esProp l).drop (k * 2) = esProp (l.drop k) := flat_drop k (fun _ _ => rfl)
theorem esProp_drop (l : List GProp) (k : Nat) (h : k < l.length) : (esProp l).drop (k * 2) = eProp l[k] ++ esProp (l.drop (k + 1)) := by rw [esProp_dropk, List.drop_eq_getElem_cons h]; rfl
theorem esProp_takek (l : List GProp) (k : Nat) : (esProp l).take (k * 2) = esProp (l.take k) := flat_take k (fun _ _ => rfl)
theorem esProp_setL (l : List GProp) (k : Nat) (x : GProp) (h : k < l.length) : Av.setL (esProp l) (k * 2) (eProp x) = esProp (l.set k x) := setL_flat x (fun _ _ => rfl) rfl h
theorem esProp_leaf (l : List GProp) : leafCs (esProp l) = true := leafCs_flat (fun _ => rfl)
theorem esProp_fit (l : List GProp) : fitCs (esProp l) = true := fitCs_flat (fun _ => rfl)
theorem esProp_set_Path (l : List GProp) (k : Nat) (v : ByteArray) (h : k < l.length) : (esProp l).set (k * 2) (S v) = esProp (l.set k { l[k] with Path := v }) := by have := flat_set (enc := eProp) (sz := 2) (l := l) (x := { l[k] with Path := v }) (fun _ _ => rfl) rfl (k := k) h 0 (by decide) (S v) rfl; exact this
theorem esProp_set_Value (l : List GProp) (k : Nat) (v : ByteArray) (h : k < l.length) : (esProp l).set (k * 2 + 1) (S v) = esProp (l.set k { l[k] with Value := v }) := by have := flat_set (enc := eProp) (sz := 2) (l := l) (x := { l[k] with Value := v }) (fun _ _ => rfl) rfl (k := k) h 1 (by decide) (S v) rfl; exact this
theorem esProp_share (l : List GProp) : AV.shares (esProp l) = esProp l := shares_flat (fun x => by simp [eProp, AV.shares, AV.share])
theorem esProp_pure (l : List GProp) : pureVs (esProp l) = true := pureVs_flat (fun x => by simp [eProp, pureVs, pureV])
structure GStep where
  Path : ByteArray
  Was : ByteArray
  Had : Bool
  Is : ByteArray
  Has : Bool
  deriving DecidableEq, Inhabited
def eStep (x : GStep) : List AV := [S x.Path, S x.Was, B x.Had, S x.Is, B x.Has]
theorem eStep_eq (x : GStep) : eStep x = [S x.Path, S x.Was, B x.Had, S x.Is, B x.Has] := rfl
def esStep (l : List GStep) : List AV := l.flatMap eStep
theorem esStep_len (l : List GStep) : (esStep l).length = l.length * 5 := flat_len (fun _ _ => rfl)
theorem esStep_nil : esStep [] = [] := rfl
theorem esStep_cons (x : GStep) (l : List GStep) : esStep (x :: l) = eStep x ++ esStep l := rfl
theorem esStep_app (l k : List GStep) : esStep (l ++ k) = esStep l ++ esStep k := by simp [esStep]
theorem esStep_dropk (l : List GStep) (k : Nat) : (esStep l).drop (k * 5) = esStep (l.drop k) := flat_drop k (fun _ _ => rfl)
theorem esStep_drop (l : List GStep) (k : Nat) (h : k < l.length) : (esStep l).drop (k * 5) = eStep l[k] ++ esStep (l.drop (k + 1)) := by rw [esStep_dropk, List.drop_eq_getElem_cons h]; rfl
theorem esStep_setL (l : List GStep) (k : Nat) (x : GStep) (h : k < l.length) : Av.setL (esStep l) (k * 5) (eStep x) = esStep (l.set k x) := setL_flat x (fun _ _ => rfl) rfl h
theorem esStep_leaf (l : List GStep) : leafCs (esStep l) = true := leafCs_flat (fun _ => rfl)
theorem esStep_fit (l : List GStep) : fitCs (esStep l) = true := fitCs_flat (fun _ => rfl)
theorem esStep_get_Path (l : List GStep) (k : Nat) (h : k < l.length) : (esStep l)[k * 5]? = some (S l[k].Path) := by have := flat_get (enc := eStep) (sz := 5) (l := l) (fun _ _ => rfl) (k := k) (j := 0) h (by decide); exact this
theorem esStep_set_Path (l : List GStep) (k : Nat) (v : ByteArray) (h : k < l.length) : (esStep l).set (k * 5) (S v) = esStep (l.set k { l[k] with Path := v }) := by have := flat_set (enc := eStep) (sz := 5) (l := l) (x := { l[k] with Path := v }) (fun _ _ => rfl) rfl (k := k) h 0 (by decide) (S v) rfl; exact this
theorem esStep_get_Was (l : List GStep) (k : Nat) (h : k < l.length) : (esStep l)[k * 5 + 1]? = some (S l[k].Was) := by have := flat_get (enc := eStep) (sz := 5) (l := l) (fun _ _ => rfl) (k := k) (j := 1) h (by decide); exact this
theorem esStep_set_Was (l : List GStep) (k : Nat) (v : ByteArray) (h : k < l.length) : (esStep l).set (k * 5 + 1) (S v) = esStep (l.set k { l[k] with Was := v }) := by have := flat_set (enc := eStep) (sz := 5) (l := l) (x := { l[k] with Was := v }) (fun _ _ => rfl) rfl (k := k) h 1 (by decide) (S v) rfl; exact this
theorem esStep_get_Had (l : List GStep) (k : Nat) (h : k < l.length) : (esStep l)[k * 5 + 2]? = some (B l[k].Had) := by have := flat_get (enc := eStep) (sz := 5) (l := l) (fun _ _ => rfl) (k := k) (j := 2) h (by decide); exact this
theorem esStep_set_Had (l : List GStep) (k : Nat) (v : Bool) (h : k < l.length) : (esStep l).set (k * 5 + 2) (B v) = esStep (l.set k { l[k] with Had := v }) := by have := flat_set (enc := eStep) (sz := 5) (l := l) (x := { l[k] with Had := v }) (fun _ _ => rfl) rfl (k := k) h 2 (by decide) (B v) rfl; exact this
theorem esStep_get_Is (l : List GStep) (k : Nat) (h : k < l.length) : (esStep l)[k * 5 + 3]? = some (S l[k].Is) := by have := flat_get (enc := eStep) (sz := 5) (l := l) (fun _ _ => rfl) (k := k) (j := 3) h (by decide); exact this
theorem esStep_set_Is (l : List GStep) (k : Nat) (v : ByteArray) (h : k < l.length) : (esStep l).set (k * 5 + 3) (S v) = esStep (l.set k { l[k] with Is := v }) := by have := flat_set (enc := eStep) (sz := 5) (l := l) (x := { l[k] with Is := v }) (fun _ _ => rfl) rfl (k := k) h 3 (by decide) (S v) rfl; exact this
theorem esStep_get_Has (l : List GStep) (k : Nat) (h : k < l.length) : (esStep l)[k * 5 + 4]? = some (B l[k].Has) := by have := flat_get (enc := eStep) (sz := 5) (l := l) (fun _ _ => rfl) (k := k) (j := 4) h (by decide); exact this
theorem esStep_set_Has (l : List GStep) (k : Nat) (v : Bool) (h : k < l.length) : (esStep l).set (k * 5 + 4) (B v) = esStep (l.set k { l[k] with Has := v }) := by have := flat_set (enc := eStep) (sz := 5) (l := l) (x := { l[k] with Has := v }) (fun _ _ => rfl) rfl (k := k) h 4 (by decide) (B v) rfl; exact this
theorem esStep_share (l : List GStep) : AV.shares (esStep l) = esStep l := shares_flat (fun x => by simp [eStep, AV.shares, AV.share])
theorem esStep_pure (l : List GStep) : pureVs (esStep l) = true := pureVs_flat (fun x => by simp [eStep, pureVs, pureV])
structure GEdited where
  Props : List GProp
  Done : List GStep
  Back : List GStep
  deriving DecidableEq, Inhabited
def eEdited (x : GEdited) : List AV := [.row false 2 x.Props.length (esProp x.Props), .row false 5 x.Done.length (esStep x.Done), .row false 5 x.Back.length (esStep x.Back)]
theorem eEdited_eq (x : GEdited) : eEdited x = [.row false 2 x.Props.length (esProp x.Props), .row false 5 x.Done.length (esStep x.Done), .row false 5 x.Back.length (esStep x.Back)] := rfl
def esEdited (l : List GEdited) : List AV := l.flatMap eEdited
theorem esEdited_len (l : List GEdited) : (esEdited l).length = l.length * 3 := flat_len (fun _ _ => rfl)
theorem esEdited_nil : esEdited [] = [] := rfl
theorem esEdited_cons (x : GEdited) (l : List GEdited) : esEdited (x :: l) = eEdited x ++ esEdited l := rfl
theorem esEdited_app (l k : List GEdited) : esEdited (l ++ k) = esEdited l ++ esEdited k := by simp [esEdited]
theorem esEdited_leaf (l : List GEdited) : leafCs (esEdited l) = true := leafCs_flat (fun _ => rfl)
theorem esEdited_fit (l : List GEdited) : fitCs (esEdited l) = true := fitCs_flat (fun _ => rfl)
def eEditedo (x : GEdited) : List AV := [.row true 2 x.Props.length (esProp x.Props), .row true 5 x.Done.length (esStep x.Done), .row true 5 x.Back.length (esStep x.Back)]
theorem eEditedo_eq (x : GEdited) : eEditedo x = [.row true 2 x.Props.length (esProp x.Props), .row true 5 x.Done.length (esStep x.Done), .row true 5 x.Back.length (esStep x.Back)] := rfl
def esEditedo (l : List GEdited) : List AV := l.flatMap eEditedo
theorem esEditedo_len (l : List GEdited) : (esEditedo l).length = l.length * 3 := flat_len (fun _ _ => rfl)
theorem esEditedo_nil : esEditedo [] = [] := rfl
theorem esEditedo_cons (x : GEdited) (l : List GEdited) : esEditedo (x :: l) = eEditedo x ++ esEditedo l := rfl
theorem esEditedo_app (l k : List GEdited) : esEditedo (l ++ k) = esEditedo l ++ esEditedo k := by simp [esEditedo]
theorem esEditedo_share (l : List GEdited) : AV.shares (esEditedo l) = esEdited l := shares_flat (fun x => by simp [eEditedo, eEdited, AV.shares, AV.share, esProp_share, esStep_share])
theorem esEditedo_pure (l : List GEdited) : pureVs (esEditedo l) = true := pureVs_flat (fun x => by simp [eEditedo, pureVs, pureV, esProp_pure, esStep_pure])
end Go.Av
end
section
set_option linter.unusedSimpArgs false
set_option linter.unusedVariables false
/-! A part of a region becomes a region of its own. -/
namespace Go.Av
def splF (r i d : Nat) : Nat → List Nat → Option (Nat × List Nat) := fun r' p => if r' = d then none else if r' = r then (match p with | j :: q => if j = i then some (d, q) else some (r', j :: q) | [] => some (r', [])) else some (r', p)
def ASt.spl (s : ASt) (r i d : Nat) : ASt := ⟨fun j => (s.t j).mapRef (splF r i d), fun q => if q = d then (s.m r).bind (·.at_ [i]) else if q = r then (s.m r).map (·.upd [i] .junk) else s.m q⟩
theorem Weak.split {s : ASt} {r i d : Nat} {A C : AV} (hr : r < 1000) (hd : d < 1000) (hrd : r ≠ d) (hm : s.m r = some A) (ha : A.at_ [i] = some C) : Weak s (s.spl r i d) := by
  rintro E a w ⟨M, G, hX⟩
  have he := hX.er r
  rw [hm] at he
  cases hM : M r with
  | none => rw [hM] at he; cases he
  | some T =>
  rw [hM] at he
  simp only [Option.map_some, Option.some.injEq] at he
  subst he
  obtain ⟨N, hN, hNe⟩ := erase_at [i] (hX.sat r T hM) ha
  obtain ⟨k1, k2, k3, k4⟩ := hX.take hM hN
  obtain ⟨M1, hM1⟩ : ∃ M1, updF M r (some (T.upd [i] (.leaf .junk N.value))) = M1 := ⟨_, rfl⟩
  rw [hM1] at k1 k4
  have hr1 : M1 r = some (T.upd [i] (.leaf .junk N.value)) := by rw [← hM1]; simp [updF]
  have ho1 : ∀ q, q ≠ r → M1 q = M q := fun q hq => by rw [← hM1]; simp [updF, hq]
  have key : ∀ q T', (if q = d then some N else M1 q) = some T' → (q = d ∧ T' = N) ∨ (q ≠ d ∧ M1 q = some T') := fun q T' h => by
    split at h
    · cases h; exact .inl ⟨by assumption, rfl⟩
    · exact .inr ⟨by assumption, h⟩
  have hmap : ∀ {v : AV} {u : Value}, VR w G M v u → VR w G (fun q => if q = d then some N else M1 q) (v.mapRef (splF r i d)) u := fun h => h.mapRef (fun r0 p0 r' p' hf T' N' hT' hN' hmem => by
    simp only [splF] at hf
    split at hf
    · cases hf
    · rename_i e0
      split at hf
      · rename_i e1
        subst e1
        split at hf
        · split at hf
          · rename_i j q e2
            subst e2
            simp only [Option.some.injEq, Prod.mk.injEq] at hf
            obtain ⟨rfl, rfl⟩ := hf
            simp only [if_true, Option.some.injEq] at hT'
            subst hT'
            refine ⟨T, N', hM, ?_, rfl⟩
            simp only [HT.at_] at hN ⊢
            split at hN
            · rename_i c hc
              simp only [Option.some.injEq] at hN
              subst hN
              exact hN'
            · cases hN
          · rename_i j q e2
            simp only [Option.some.injEq, Prod.mk.injEq] at hf
            obtain ⟨rfl, rfl⟩ := hf
            rw [if_neg e0, hr1] at hT'
            cases hT'
            obtain ⟨M2, h2, h3⟩ := heads_upd [i] hN (fun q M' h hm => Heads.leaf (fun _ => False) _ _ _ q M' (fun h => h) h hm) (j :: q) N' hN' hmem
            exact ⟨T, M2, hM, h2, h3⟩
        · simp only [Option.some.injEq, Prod.mk.injEq] at hf
          obtain ⟨rfl, rfl⟩ := hf
          rw [if_neg e0, hr1] at hT'
          cases hT'
          obtain ⟨M2, h2, h3⟩ := heads_upd [i] hN (fun q M' h hm => Heads.leaf (fun _ => False) _ _ _ q M' (fun h => h) h hm) [] N' hN' hmem
          exact ⟨T, M2, hM, h2, h3⟩
      · rename_i e1
        simp only [Option.some.injEq, Prod.mk.injEq] at hf
        obtain ⟨rfl, rfl⟩ := hf
        rw [if_neg e0, ho1 _ e1] at hT'
        exact ⟨T', N', hT', hN', rfl⟩)
  refine ⟨fun q => if q = d then some N else M1 q, G, fun q => ?_, fun q T' h => ?_, fun q T' h => ?_, fun q q' T1 T2 hq h h' x hx hx' => ?_, fun q T' h x hx => ?_, hX.gd, hX.g0, fun j => hmap (hX.sl j), hX.ext, hX.df, hX.nt, hX.n1, fun q v hv => ?_⟩
  · simp only [ASt.spl]
    split
    · rw [hm, Option.bind_some, ha, Option.map_some, hNe]
    · have := k1.er q
      rw [← this]; rfl
  · rcases key q T' h with ⟨rfl, rfl⟩ | ⟨_, h⟩
    · exact k2
    · exact k1.sat q T' h
  · rcases key q T' h with ⟨rfl, rfl⟩ | ⟨_, h⟩
    · exact k3
    · exact k1.nd q T' h
  · rcases key q T1 h with ⟨rfl, rfl⟩ | ⟨_, h1⟩ <;> rcases key q' T2 h' with ⟨rfl, rfl⟩ | ⟨_, h2⟩
    · exact hq rfl
    · exact (k4 x hx).1 q' T2 h2 hx'
    · exact (k4 x hx').1 q T1 h1 hx
    · exact k1.dj q q' T1 T2 hq h1 h2 x hx hx'
  · rcases key q T' h with ⟨rfl, rfl⟩ | ⟨_, h⟩
    · exact ⟨(k4 x hx).2.1, (k4 x hx).2.2⟩
    · exact k1.own q T' h x hx
  · obtain ⟨h1, T', h2, h3⟩ := hX.pv q v hv
    refine ⟨h1, T', ?_, h3⟩
    show (if q = d then some N else M1 q) = some T'
    rw [if_neg (by omega), ho1 _ (by omega)]; exact h2
end Go.Av
namespace Go.Av
end Go.Av
namespace Go.Av
end Go.Av
namespace Go.Av
end Go.Av
end
section
set_option linter.unusedSimpArgs false
set_option linter.unusedVariables false
/-! Texts in order; lists that rise by a key; the search by halves. Plain: no program in sight. -/
namespace Go.Av
def blt (a b : ByteArray) : Bool := Op.bytesLess a.toList b.toList
theorem bl_irrefl : ∀ (x : List UInt8), Op.bytesLess x x = false
  | [] => rfl
  | a :: x => by simp [Op.bytesLess, bl_irrefl x]
theorem bl_trans : ∀ {x y z : List UInt8}, Op.bytesLess x y = true → Op.bytesLess y z = true → Op.bytesLess x z = true
  | _, [], _, h, _ => by simp [Op.bytesLess] at h
  | _, _ :: _, [], _, h => by simp [Op.bytesLess] at h
  | [], b :: y, c :: z, _, _ => by simp [Op.bytesLess]
  | a :: x, b :: y, c :: z, h, k => by
    simp only [Op.bytesLess, Bool.or_eq_true, decide_eq_true_eq, Bool.and_eq_true, beq_iff_eq] at h k ⊢
    rcases h with h | ⟨rfl, h⟩ <;> rcases k with k | ⟨rfl, k⟩
    · exact .inl (UInt8.lt_trans h k)
    · exact .inl h
    · exact .inl k
    · exact .inr ⟨rfl, bl_trans h k⟩
theorem bl_tri : ∀ (x y : List UInt8), Op.bytesLess x y = true ∨ x = y ∨ Op.bytesLess y x = true
  | [], [] => .inr (.inl rfl)
  | [], b :: y => .inl rfl
  | a :: x, [] => .inr (.inr rfl)
  | a :: x, b :: y => by
    simp only [Op.bytesLess, Bool.or_eq_true, decide_eq_true_eq, Bool.and_eq_true, beq_iff_eq, List.cons.injEq]
    rcases Nat.lt_trichotomy a.toNat b.toNat with h | h | h
    · exact .inl (.inl (UInt8.lt_iff_toNat_lt.2 h))
    · have hab : a = b := UInt8.toNat.inj h
      subst hab
      rcases bl_tri x y with h | h | h
      · exact .inl (.inr ⟨rfl, h⟩)
      · exact .inr (.inl ⟨rfl, h⟩)
      · exact .inr (.inr (.inr ⟨rfl, h⟩))
    · exact .inr (.inr (.inl (UInt8.lt_iff_toNat_lt.2 h)))
theorem cb_spec : ∀ (x y : List UInt8), (Lib.compareBytes x y < 0 ↔ Op.bytesLess x y = true) ∧ (Lib.compareBytes x y = 0 ↔ x = y)
  | [], [] => by simp [Lib.compareBytes, Op.bytesLess]
  | [], b :: y => by simp [Lib.compareBytes, Op.bytesLess]
  | a :: x, [] => by simp [Lib.compareBytes, Op.bytesLess]
  | a :: x, b :: y => by
    have ih := cb_spec x y
    simp only [Lib.compareBytes, Op.bytesLess, Bool.or_eq_true, decide_eq_true_eq, Bool.and_eq_true, beq_iff_eq, List.cons.injEq]
    by_cases h : a < b
    · have hne : a ≠ b := fun e => by subst e; exact absurd h (UInt8.lt_irrefl a)
      simp [h, hne]
    · by_cases h' : b < a
      · have hne : a ≠ b := fun e => by subst e; exact absurd h' (UInt8.lt_irrefl a)
        simp [h, h', hne]
      · have hab : a = b := UInt8.toNat.inj (by
          have h1 : ¬ a.toNat < b.toNat := fun g => h (UInt8.lt_iff_toNat_lt.2 g)
          have h2 : ¬ b.toNat < a.toNat := fun g => h' (UInt8.lt_iff_toNat_lt.2 g)
          omega)
        subst hab
        simp [h, ih.1, ih.2]
theorem toList_data (b : ByteArray) : b.data.toList = b.toList := by
  have h := (barr_eq (x := b) (y := b))
  exact (show b.toList = b.data.toList from by
    have loop : ∀ (n i : Nat) (r : List UInt8), b.size - i = n → ByteArray.toList.loop b i r = r.reverse ++ b.data.toList.drop i := by
      intro n
      induction n with
      | zero =>
        intro i r h
        rw [ByteArray.toList.loop]
        have : ¬ i < b.size := by omega
        simp only [this, if_false]
        have hs : b.data.size = b.size := rfl
        rw [List.drop_of_length_le (by rw [Array.length_toList]; omega)]; simp
      | succ n ih =>
        intro i r h
        rw [ByteArray.toList.loop]
        have hlt : i < b.size := by omega
        simp only [hlt, if_true]
        rw [ih (i + 1) _ (by omega)]
        have hlt' : i < b.data.toList.length := by simpa using hlt
        rw [List.drop_eq_getElem_cons hlt']
        have : b.get! i = b.data.toList[i] := by
          show b.data.get!Internal i = _
          simp [Array.get!Internal, getElem!_pos, hlt]
        simp [this]
    have := loop b.size 0 [] (by omega)
    simpa [ByteArray.toList] using this).symm
theorem cmpB_lt (a b : ByteArray) : cmpB a b < 0 ↔ blt a b = true := by
  unfold cmpB blt; rw [toList_data, toList_data]; exact (cb_spec _ _).1
theorem cmpB_eq (a b : ByteArray) : cmpB a b = 0 ↔ a = b := by
  unfold cmpB; rw [toList_data, toList_data, (cb_spec _ _).2, barr_eq]
theorem blt_irrefl (a : ByteArray) : blt a a = false := bl_irrefl _
theorem blt_trans {a b c : ByteArray} (h : blt a b = true) (k : blt b c = true) : blt a c = true := bl_trans h k
theorem blt_ne {a b : ByteArray} (h : blt a b = true) : a ≠ b := fun e => by subst e; rw [blt_irrefl] at h; cases h
theorem blt_tri (a b : ByteArray) : blt a b = true ∨ a = b ∨ blt b a = true := by
  rcases bl_tri a.toList b.toList with h | h | h
  · exact .inl h
  · exact .inr (.inl (barr_eq.1 h))
  · exact .inr (.inr h)
theorem blt_not {a b : ByteArray} (h : blt a b = false) : a = b ∨ blt b a = true := by
  rcases blt_tri a b with g | g | g
  · rw [h] at g; cases g
  · exact .inl g
  · exact .inr g
/-! ### Lists that rise by a key -/
section
variable {α : Type} {key : α → ByteArray}
/-- The list rises. -/
def Rise (key : α → ByteArray) : List α → Prop
  | [] => True
  | x :: l => (∀ y ∈ l, blt (key x) (key y) = true) ∧ Rise key l
/-- Where a key stands or would stand. -/
def spot (key : α → ByteArray) (l : List α) (t : ByteArray) : Nat := (l.takeWhile fun x => blt (key x) t).length
theorem spot_le (l : List α) (t : ByteArray) : spot key l t ≤ l.length := by
  unfold spot; exact (List.takeWhile_prefix _).length_le
theorem spot_nil (t : ByteArray) : spot key ([] : List α) t = 0 := rfl
theorem spot_cons (x : α) (l : List α) (t : ByteArray) : spot key (x :: l) t = if blt (key x) t = true then spot key l t + 1 else 0 := by
  unfold spot
  cases h : blt (key x) t <;> simp [List.takeWhile_cons, h]
theorem spot_lt : ∀ {l : List α} {t : ByteArray} {i : Nat} {x : α}, i < spot key l t → l[i]? = some x → blt (key x) t = true
  | [], t, i, x, h, hx => by simp at hx
  | y :: l, t, i, x, h, hx => by
    rw [spot_cons] at h
    split at h
    · rename_i hb
      cases i with
      | zero => simp at hx; subst hx; exact hb
      | succ i => exact spot_lt (l := l) (i := i) (by omega) (by simpa using hx)
    · omega
theorem spot_ge : ∀ {l : List α} {t : ByteArray} {i : Nat} {x : α}, Rise key l → spot key l t ≤ i → l[i]? = some x → blt (key x) t = false
  | [], t, i, x, _, h, hx => by simp at hx
  | y :: l, t, i, x, hr, h, hx => by
    rw [spot_cons] at h
    split at h
    · cases i with
      | zero => omega
      | succ i => exact spot_ge (l := l) (i := i) hr.2 (by omega) (by simpa using hx)
    · rename_i hb
      have hb : blt (key y) t = false := by simpa using hb
      cases i with
      | zero => simp at hx; subst hx; exact hb
      | succ i =>
        have hm : x ∈ l := List.mem_of_getElem? (by simpa using hx)
        have h1 := hr.1 x hm
        cases hq : blt (key x) t with
        | false => rfl
        | true => rw [blt_trans h1 hq] at hb; cases hb
/-- The one element with a key. -/
def hasK (key : α → ByteArray) [DecidableEq ByteArray] (l : List α) (t : ByteArray) : Bool := l.any fun x => decide (key x = t)
theorem rise_at : ∀ {l : List α} {i j : Nat} {x y : α}, Rise key l → i < j → l[i]? = some x → l[j]? = some y → blt (key x) (key y) = true
  | [], i, j, x, y, _, _, h, _ => by simp at h
  | z :: l, 0, j + 1, x, y, hr, _, hx, hy => by
    simp at hx hy; subst hx; exact hr.1 y (List.mem_of_getElem? hy)
  | z :: l, i + 1, j + 1, x, y, hr, h, hx, hy => rise_at (l := l) (i := i) (j := j) hr.2 (by omega) (by simpa using hx) (by simpa using hy)
/-- An element with the key stands at the key's spot. -/
theorem spot_at {l : List α} {i : Nat} {x : α} (hr : Rise key l) (hx : l[i]? = some x) : spot key l (key x) = i := by
  rcases Nat.lt_trichotomy (spot key l (key x)) i with h | h | h
  · obtain ⟨hi, _⟩ := List.getElem?_eq_some_iff.1 hx
    have hy : l[spot key l (key x)]? = some (l[spot key l (key x)]'(by omega)) := List.getElem?_eq_getElem _
    have h1 := spot_ge hr (Nat.le_refl _) hy
    have h2 := rise_at hr h hy hx
    rw [h1] at h2; cases h2
  · exact h
  · have := spot_lt h hx; rw [blt_irrefl] at this; cases this
theorem rise_of : ∀ {l : List α}, (∀ (i : Nat) (x y : α), l[i]? = some x → l[i + 1]? = some y → blt (key x) (key y) = true) → Rise key l
  | [], _ => trivial
  | [x], _ => ⟨by simp, trivial⟩
  | x :: y :: l, h => by
    have ih : Rise key (y :: l) := rise_of (fun i a b ha hb => h (i + 1) a b (by simpa using ha) (by simpa using hb))
    have hxy := h 0 x y rfl rfl
    refine ⟨fun z hz => ?_, ih⟩
    rcases List.mem_cons.1 hz with rfl | hz
    · exact hxy
    · exact blt_trans hxy (ih.1 z hz)
end
/-! ### The search by halves -/
def mid (i j : Int) : Int := IntKind.i64.wrap (Int.fdiv (IntKind.u64.wrap (IntKind.i64.wrap (i + j))) (2 ^ (min (1 : Int).toNat IntKind.u64.bits)))
theorem mid_eq {i j : Int} (h0 : 0 ≤ i) (h1 : i ≤ j) (h2 : j ≤ 4611686018427387903) : mid i j = (i + j) / 2 := by
  unfold mid
  rw [wI (i + j) (by omega) (by omega)]
  have hu : IntKind.u64.wrap (i + j) = i + j := by
    simp only [IntKind.wrap, IntKind.signed, IntKind.bits, Bool.false_and, Bool.false_eq_true, if_false]
    omega
  rw [hu]
  have hb : (2 : Int) ^ (min (1 : Int).toNat IntKind.u64.bits) = 2 := by decide
  rw [hb, Int.fdiv_eq_ediv_of_nonneg _ (by omega), wI _ (by omega) (by omega)]
def bsG {α : Type} (x : List α) (t : ByteArray) (f : α → ByteArray → Option Int) : Nat → Int → Int → Option (Int × Int)
  | 0, _, _ => none
  | n + 1, i, j => if i < j then ((idx x (mid i j)).bind fun a => (f a t).bind fun v => if v < 0 then bsG x t f n (IntKind.i64.wrap (mid i j + 1)) j else bsG x t f n i (mid i j)) else some (i, j)
theorem bsG_spec {α : Type} {key : α → ByteArray} {x : List α} {t : ByteArray} {f : α → ByteArray → Option Int} (hf : ∀ a, f a t = some (cmpB (key a) t)) (hr : Rise key x) (hl : x.length ≤ 4611686018427387903) : ∀ (n : Nat) (i j : Nat), j - i < n → i ≤ spot key x t → spot key x t ≤ j → j ≤ x.length →
    bsG x t f n (i : Int) (j : Int) = some (((spot key x t : Nat) : Int), ((spot key x t : Nat) : Int))
  | 0, i, j, h, _, _, _ => by omega
  | n + 1, i, j, h, h1, h2, h3 => by
    unfold bsG
    by_cases hij : (i : Int) < j
    · have hm : mid (i : Int) j = (((i + j) / 2 : Nat) : Int) := by rw [mid_eq (by omega) (by omega) (by omega)]; omega
      have hlt : (i + j) / 2 < x.length := by omega
      rw [if_pos hij, hm, idx_of hlt, Option.bind_some, hf, Option.bind_some]
      have hx : x[(i + j) / 2]? = some x[(i + j) / 2] := List.getElem?_eq_getElem hlt
      by_cases hc : cmpB (key x[(i + j) / 2]) t < 0
      · rw [if_pos hc, wI _ (by omega) (by omega), show (((i + j) / 2 : Nat) : Int) + 1 = (((i + j) / 2 + 1 : Nat) : Int) by omega]
        refine bsG_spec hf hr hl n _ _ (by omega) ?_ h2 h3
        rcases Nat.lt_or_ge ((i + j) / 2) (spot key x t) with g | g
        · omega
        · have := spot_ge hr g hx; rw [(cmpB_lt _ _).1 hc] at this; cases this
      · rw [if_neg hc]
        refine bsG_spec hf hr hl n _ _ (by omega) h1 ?_ (by omega)
        rcases Nat.lt_or_ge ((i + j) / 2) (spot key x t) with g | g
        · exact absurd ((cmpB_lt _ _).2 (spot_lt g hx)) hc
        · exact g
    · rw [if_neg hij]
      have : i = spot key x t := by omega
      have h' : j = spot key x t := by omega
      rw [← this, h', ← this]
/-- The whole search: where the key stands or would stand, and whether it is there. -/
def bsW {α : Type} (N : Nat) (x : List α) (t : ByteArray) (f : α → ByteArray → Option Int) : Option (Int × Bool) :=
  (bsG x t f N 0 (x.length : Int)).bind fun q => match q with | (i, j) => (if i < (x.length : Int) then ((idx x i).bind fun a => (f a t).bind fun v => some (i, (v == 0))) else some (i, false))
theorem bsW_spec {α : Type} {key : α → ByteArray} {N : Nat} {x : List α} {t : ByteArray} {f : α → ByteArray → Option Int} (hN : x.length < N) (hf : ∀ a, f a t = some (cmpB (key a) t)) (hr : Rise key x) (hl : x.length ≤ 4611686018427387903) :
    bsW N x t f = some (((spot key x t : Nat) : Int), (x[spot key x t]?).elim false fun a => decide (key a = t)) := by
  unfold bsW
  have h0 := bsG_spec hf hr hl N 0 x.length (by omega) (Nat.zero_le _) (spot_le _ _) (Nat.le_refl _)
  rw [show ((0 : Nat) : Int) = 0 from rfl] at h0
  rw [h0, Option.bind_some]
  show (if ((spot key x t : Nat) : Int) < (x.length : Int) then _ else _) = _
  by_cases h : spot key x t < x.length
  · rw [if_pos (by omega), idx_of h, Option.bind_some, hf, Option.bind_some, List.getElem?_eq_getElem h]
    simp only [Option.elim_some]
    by_cases hc : key x[spot key x t] = t
    · have := (cmpB_eq (key x[spot key x t]) t).2 hc; rw [this]; simp [hc]
    · have : cmpB (key x[spot key x t]) t ≠ 0 := fun e => hc ((cmpB_eq _ _).1 e)
      simp [this, hc]
  · rw [if_neg (by omega), List.getElem?_eq_none (by omega)]
    rfl
end Go.Av
end
section
set_option linter.unusedSimpArgs false
set_option linter.unusedVariables false
set_option maxRecDepth 100000
/-! What is lent row by row may be lent as one box that holds the rows. -/
namespace Go.Av
def boxF : Nat → List Nat → Option (Nat × List Nat) := fun r p => if r = 1000 then (match p with | i :: q => some (1000 + i, q) | [] => none) else none
theorem DoesX.inBox {P : Program} {f : FuncId} {args m m' : List AV} {res : AV} (h : DoesX P f (args.map (AV.mapRef boxF)) m res m') : DoesX P f args [.box true m] res [.box true m'] := by
  intro w G Ts vs hG hTs hS hnd hbl hlen hrd
  match Ts, hTs with
  | [], h0 => simp [HT.erases] at h0
  | _ :: _ :: _, h0 => simp [HT.erases] at h0
  | [T], hTs =>
    have he : T.erase = .box true m := by simpa [HT.erases] using hTs
    have hsT := hS T (by simp)
    cases hsT with
    | leaf a v ha hv => simp only [HT.erase] at he; subst he; simp [AV.leafOk] at ha
    | row => simp [HT.erase] at he
    | nilrow => simp [HT.erase] at he
    | agg => simp [HT.erase] at he
    | tup => simp [HT.erase] at he
    | box b Ks C e hb hn hu hk =>
      simp only [HT.erase, AV.box.injEq, true_and] at he
      have hnd' : (b :: Ks.flatMap HT.blocks).Nodup := by simpa [HT.blocks, HT.blockss_eq] using hnd
      have hbl' : ∀ x, x = b ∨ x ∈ Ks.flatMap HT.blocks → x < w.heap.size ∧ ¬ G x := fun x hx => hbl x (by simpa [HT.blocks, HT.blockss_eq] using hx)
      have hnb : b ∉ Ks.flatMap HT.blocks := (List.nodup_cons.1 hnd').1
      have c := h w G Ks vs hG he (fun K hK => by obtain ⟨i, hi⟩ := List.getElem?_of_mem hK; exact hk i K hi) (List.nodup_cons.1 hnd').2 (fun x hx => hbl' x (.inr hx)) (by simpa using hlen) (fun i a v ha hv => by
        rw [List.getElem?_map] at ha
        obtain ⟨a0, ha0, rfl⟩ := Option.map_eq_some_iff.1 ha
        refine (hrd i a0 v ha0 hv).mapRef (fun r p r' p' hf T' N' hT' hN' hm => ?_)
        simp only [boxF] at hf
        split at hf
        · rename_i e1
          subst e1
          split at hf
          · rename_i j q
            simp only [Option.some.injEq, Prod.mk.injEq] at hf
            obtain ⟨rfl, rfl⟩ := hf
            refine ⟨.box b Ks, N', by simp [regs], ?_, rfl⟩
            have hj : Ks[j]? = some T' := by simpa [regs] using hT'
            simp only [HT.at_, HT.kids, hj]
            exact hN'
          · cases hf
        · cases hf)
      refine c.mono fun e' w' ⟨R, Ts', k1, k2, k3, k4, k5, k6, k7, G', g1, g2, g3, g4, g5⟩ => ?_
      have hbw : b < w.heap.size := (hbl' b (.inl rfl)).1
      have hbR : b ∉ R.blocks ++ Ts'.flatMap HT.blocks := fun hx => by
        rcases (k7 b hx).1 with h1 | h1
        · exact hnb h1
        · omega
      have hbG : ¬ G' b := fun hg => by
        rcases g2 b hg with h1 | h1
        · exact (hbl' b (.inl rfl)).2 h1
        · omega
      have hb' : w'.heap[b]? = some (.cells C e (0, 0)) := (k5.block b hbw hnb).trans hb
      have hlen' : Ts'.length = Ks.length := by
        have := congrArg List.length k4
        rwa [HT.values_eq, HT.values_eq, List.length_map, List.length_map] at this
      have hval : ∀ (i : Nat) (K' : HT), Ts'[i]? = some K' → ∃ K : HT, Ks[i]? = some K ∧ K.value = K'.value := fun i K' hi => by
        have : (List.map HT.value Ts')[i]? = (List.map HT.value Ks)[i]? := by rw [← HT.values_eq, ← HT.values_eq, k4]
        rw [List.getElem?_map, List.getElem?_map, hi] at this
        obtain ⟨K, hK, hKe⟩ := Option.map_eq_some_iff.1 this.symm
        exact ⟨K, hK, hKe⟩
      refine ⟨R, [.box b Ts'], k1, k2, ?_, ?_, ?_, ?_, ?_, G', g1, g2, ?_, g4, ?_⟩
      · simp [HT.erases, HT.erase, k3]
      · simp [HT.values, HT.value]
      · exact ⟨k5.os, k5.tape, k5.output, k5.size, fun j hj hx => k5.block j hj (fun hx' => hx (by simp only [List.flatMap_cons, List.flatMap_nil, HT.blocks, HT.blockss_eq, List.append_nil]; exact List.mem_cons_of_mem _ hx'))⟩
      · simp only [List.flatMap_cons, List.flatMap_nil, HT.blocks, HT.blockss_eq, List.append_nil]
        have hsplit := List.nodup_append.1 k6
        refine List.nodup_append.2 ⟨hsplit.1, List.nodup_cons.2 ⟨fun hx => hbR (List.mem_append_right _ hx), hsplit.2.1⟩, fun a ha b' hb'' => ?_⟩
        rcases List.mem_cons.1 hb'' with rfl | hb''
        · exact fun e => hbR (List.mem_append_left _ (e ▸ ha))
        · exact hsplit.2.2 a ha b' hb''
      · intro x hx
        simp only [List.flatMap_cons, List.flatMap_nil, HT.blocks, HT.blockss_eq, List.append_nil, List.mem_append, List.mem_cons] at hx ⊢
        rcases hx with hx | rfl | hx
        · have := k7 x (List.mem_append_left _ hx)
          exact ⟨this.1.imp (fun h => .inr h) id, this.2⟩
        · exact ⟨.inl (.inl rfl), Nat.lt_of_lt_of_le hbw k5.size⟩
        · have := k7 x (List.mem_append_right _ hx)
          exact ⟨this.1.imp (fun h => .inr h) id, this.2⟩
      · intro x hx
        simp only [List.flatMap_cons, List.flatMap_nil, HT.blocks, HT.blockss_eq, List.append_nil, List.mem_append, List.mem_cons] at hx
        rcases hx with hx | rfl | hx
        · exact g3 x (List.mem_append_left _ hx)
        · exact hbG
        · exact g3 x (List.mem_append_right _ hx)
      · intro K hK
        rw [List.mem_singleton.1 hK]
        refine .box b Ts' C e hb' (by rw [hlen']; exact hn) (fun i K' hi => ?_) (fun i K' hi => g5 K' (List.mem_of_getElem? hi))
        obtain ⟨K, hK1, hK2⟩ := hval i K' hi
        rw [hu i K hK1, hK2]
end Go.Av
end
section
set_option linter.unusedSimpArgs false
set_option linter.unusedVariables false
set_option maxRecDepth 100000
/-! Code in a round of a range over a function: what is shown of it outside holds within. -/
namespace Go.Av

variable {P : Program} {Q : Exit → Act → World → Prop}
theorem op_round {o : Oper} {a : Act} {w : World} {K : Act → World → Prop} {l n : Nat} (hnd : ∀ c, o.op ≠ .defer c) (h : o.wp P a w K Q) : o.wpIn (Fence.wide.inRound l) n P a w K Q := by
  refine ⟨fun f _ => trivial, ?_⟩
  rw [Oper.semAt_eq _ _ _ hnd]
  unfold Oper.wp at h
  generalize (execOp a.eval o).run P w = r at *
  cases r with
  | ok nx w' =>
    cases nx with
    | value v => exact h
    | skip => exact h
    | defer d => exact h
    | enter f args =>
      refine ⟨fun hh => by simp [Fence.wide] at hh, CallsIn.inRound l (callsIn_wide.2 (Calls.mono h (fun e w'' hp => ?_)))⟩
      cases e <;> exact hp
    | row row args =>
      refine ⟨fun hh => by simp [Fence.wide] at hh, fun c cs _ => ?_⟩
      obtain ⟨v, w'', r, s⟩ := h c cs
      exact ⟨v, w'', r, stepsIn_wide.2 s⟩
    | _ => exact h.elim
  | halt hl w' =>
    cases hl with
    | panic v => exact h
    | _ => exact h.elim
theorem wpOp_round {ops : Array Oper} {i : Nat} {K K' : Act → World → Prop} {a : Act} {w : World} {l n : Nat} (hQ : ¬ LetsOut Q) (hnd : ∀ o ∈ ops, ∀ c, o.op ≠ .defer c) (hK : ∀ a w, K a w → K' a w) (h : wpOp P ops Q i K a w) : wpOpIn (Fence.wide.inRound l) n P ops Q i K' a w := by
  unfold wpOp at h
  unfold wpOpIn
  cases ho : ops[i]? with
  | none => rw [ho] at h; exact hK _ _ h
  | some o =>
    rw [ho] at h
    dsimp only at h ⊢
    split
    · rename_i c
      rw [if_pos c] at h
      rcases h with h | ⟨_, h⟩
      · exact op_round (hnd o (Array.mem_of_getElem? ho)) (Oper.wp_mono hK h)
      · exact absurd h hQ
    · rename_i c
      rw [if_neg c] at h
      exact ⟨fun f _ => trivial, hK _ _ h⟩
theorem any_round {md : Region.Mode} {ops : Array Oper} {l n : Nat} (hQ : ¬ LetsOut Q) (hnd : ∀ o ∈ ops, ∀ c, o.op ≠ .defer c) : ∀ (fuel : Nat) (listed : Array Bool) (a : Act) (w : World), wpAny P md ops Q fuel listed a w → wpAnyIn (Fence.wide.inRound l) n P md ops Q fuel listed a w
  | 0, listed, a, w, h => h
  | fuel + 1, listed, a, w, h => ⟨h.1, fun i hi => wpOp_round hQ hnd (fun a w => any_round hQ hnd fuel _ a w) (h.2 i hi)⟩
theorem list_round {ops : Array Oper} {l n : Nat} (hQ : ¬ LetsOut Q) : ∀ (os : List Oper) (a : Act) (w : World), (∀ o ∈ os, ∀ c, o.op ≠ .defer c) → wpList P ops Q os a w → wpListIn (Fence.wide.inRound l) n P ops Q os a w
  | [], a, w, _, h => h
  | o :: os, a, w, hnd, h => by
    unfold wpList at h
    unfold wpListIn
    split
    · rename_i c
      rw [if_pos c] at h
      rcases h with h | ⟨_, h⟩
      · exact op_round (hnd o (by simp)) (Oper.wp_mono (fun a w hh => list_round hQ os a w (fun o' ho' => hnd o' (by simp [ho'])) hh) h)
      · exact absurd h hQ
    · rename_i c
      rw [if_neg c] at h
      exact ⟨fun f _ => trivial, list_round hQ os _ w (fun o' ho' => hnd o' (by simp [ho'])) h⟩
/-! ### code -/
variable {E : Env} {K : AX → ASt → Prop} {s : ASt} {l : Nat}
def AWPR (E : Env) (l : Nat) (c : Code) (K : AX → ASt → Prop) (s : ASt) : Prop := ∀ n a w, Rel E s a w → c.wpIn (Fence.wide.inRound l) n E.P (Post E K) a w
theorem AWPR.mono {c : Code} {K K' : AX → ASt → Prop} (h : AWPR E l c K s) (hk : ∀ e s, K e s → K' e s) : AWPR E l c K' s := fun n a w hr =>
  wpIn_mono (h n a w hr) (fun e a' w' hp => by
    cases e <;> first | exact hp | (obtain ⟨s', h1, h2⟩ := hp; exact ⟨s', h1, hk _ _ h2⟩))
theorem AWPR.skip (h : K .nm s) : AWPR E l .skip K s := fun n a w hr => wpIn_skip ⟨s, hr, h⟩
theorem AWPR.ret (h : K .rt s) : AWPR E l .ret K s := fun n a w hr => wpIn_ret ⟨s, hr, h⟩
theorem AWPR.exit {id : Nat} (h : K (.ex id) s) : AWPR E l (.exit id) K s := fun n a w hr => wpIn_exit ⟨s, hr, h⟩
theorem AWPR.label {i : Nat} (h : K .nm s) : AWPR E l (.label i) K s := fun n a w hr => wpIn_label ⟨s, hr, h⟩
theorem AWPR.seq {x y : Code} (h : AWPR E l x (thenK (AWPR E l y K) K) s) : AWPR E l (.seq x y) K s := fun n a w hr =>
  wpIn_seq (wpIn_mono (h n a w hr) (fun e a' w' hp => by
    cases e <;> first | exact hp | (obtain ⟨s', h1, h2⟩ := hp; exact h2 n a' w' h1)))
theorem AWPR.block {c : Code} {id : Nat} (h : AWPR E l c (blockK id K) s) : AWPR E l (.block id c) K s := fun n a w hr =>
  wpIn_block (wpIn_mono (h n a w hr) (fun e a' w' hp => by
    cases e with
    | exit i =>
      obtain ⟨s', h1, h2⟩ := hp
      simp only [blockK] at h2
      simp only [Exit.inBlock]
      split
      · rename_i e; rw [if_pos e] at h2; exact ⟨s', h1, h2⟩
      · rename_i e; rw [if_neg e] at h2; exact ⟨s', h1, h2⟩
    | _ => exact hp))
theorem AWPR.cond {c : Operand} {x y : Code} {b : Bool} (hc : s.ev c = .lit (.bool b)) (hx : b = true → AWPR E l x K s) (hy : b = false → AWPR E l y K s) : AWPR E l (.cond c x y) K s := fun n a w hr => by
  obtain ⟨M, G, h⟩ := hr
  have he := h.ev c
  rw [hc] at he
  exact wpIn_cond_split he.bool (fun e => hx e n a w ⟨M, G, h⟩) (fun e => hy e n a w ⟨M, G, h⟩)
def noDefer (ops : List Oper) : Bool := ops.all fun o => match o.op with | .defer _ => false | _ => true
theorem noDefer_of {ops : List Oper} (h : noDefer ops = true) : ∀ o ∈ ops, ∀ c, o.op ≠ .defer c := fun o ho c e => by
  have := List.all_eq_true.1 h o ho
  rw [e] at this; cases this
theorem no_out {k : ASt → Prop} : ¬ LetsOut (fun (e : Exit) a' w' => e = .normal ∧ ∃ s', Rel E s' a' w' ∧ k s') := fun ⟨a, w, h, _⟩ => by cases h
theorem AWPR.region {id : Nat} {os : List Oper} (hn : noDefer os = true) (h : Seq E os.toArray os (K .nm) s) : AWPR E l (.region id os.toArray false) K s := fun n a w hr =>
  wpIn_mono (wpIn_region_lit (list_round no_out os a w (noDefer_of hn) (h a w hr))) (fun e a' w' hp => by obtain ⟨rfl, s', h1, h2⟩ := hp; exact ⟨s', h1, h2⟩)
theorem AWPR.drawn {id : Nat} {os : List Oper} (hn : noDefer os = true) (hm : E.P.follows .mixedOrders = true) (T : List (List Nat)) (q : Nat) (hc : chk os T q E.nt = true)
    (h : DQ E os.toArray T s ((os.take q).map (·.dst)) (Seq E os.toArray (os.drop q) (K .nm)) (os.take q) []) : AWPR E l (.region id os.toArray true) K s := fun n a w hr =>
  wpIn_mono (wpIn_region_any hm (any_round no_out (fun o ho => noDefer_of hn o (by simpa using ho)) _ _ _ _ (AWP.drawn_any hm T q hc h a w hr))) (fun e a' w' hp => by obtain ⟨rfl, s', h1, h2⟩ := hp; exact ⟨s', h1, h2⟩)
theorem aw_drawnR {id : Nat} {os : List Oper} (hn : noDefer os = true) (hm : E.P.follows .mixedOrders = true) (T : List (List Nat)) (q : Nat) (hc : chk os T q E.nt = true)
    (h : dq E (os.map (·.dst)) T s ((os.take q).map (·.dst)) (sq E (os.map (·.dst)) (os.drop q) (K .nm)) (os.take q) []) : AWPR E l (.region id os.toArray true) K s := by
  refine AWPR.drawn hn hm T q hc ?_
  have htail : ∀ s, sq E (os.map (·.dst)) (os.drop q) (K .nm) s → Seq E os.toArray (os.drop q) (K .nm) s := fun s h => sq_sound h
  have mono : ∀ (l' : List Oper) outs, dq E (os.map (·.dst)) T s ((os.take q).map (·.dst)) (sq E (os.map (·.dst)) (os.drop q) (K .nm)) l' outs → DQ E os.toArray T s ((os.take q).map (·.dst)) (sq E (os.map (·.dst)) (os.drop q) (K .nm)) l' outs := fun l' outs h => dq_sound (ops := os.toArray) h
  have mono2 : ∀ (l' : List Oper) outs, DQ E os.toArray T s ((os.take q).map (·.dst)) (sq E (os.map (·.dst)) (os.drop q) (K .nm)) l' outs → DQ E os.toArray T s ((os.take q).map (·.dst)) (Seq E os.toArray (os.drop q) (K .nm)) l' outs := by
    intro l'
    induction l' with
    | nil => intro outs h; exact htail _ h
    | cons o r ih =>
      intro outs h
      rcases h with ⟨v, Tn, h0, h1, h2, h3⟩ | ⟨d, v, Tn, x, h0, h1, h2, h3, h4, h5, h6⟩ | ⟨x, T', h0, h1, h2, h3, h4, h5⟩
      · exact .inl ⟨v, Tn, h0, h1, h2, ih _ h3⟩
      · exact .inr (.inl ⟨d, v, Tn, x, h0, h1, h2, h3, h4, h5, ih _ h6⟩)
      · exact .inr (.inr ⟨x, T', h0, h1, h2, h3, h4, ih _ h5⟩)
  exact mono2 _ _ (mono _ _ h)
/-- Code that has neither loops nor drawn regions. -/
def calm : Code → Bool
  | .skip | .ret | .exit _ | .label _ => true
  | .seq x y => calm x && calm y
  | .block _ c => calm c
  | .cond _ x y => calm x && calm y
  | .region _ ops false => noDefer ops.toList
  | _ => false
theorem awR_sound : ∀ {c : Code} {K : AX → ASt → Prop} {s : ASt}, calm c = true → aw E c K s → AWPR E l c K s := by
  intro c
  induction c with
  | skip => intro K s _ h; exact AWPR.skip h
  | ret => intro K s _ h; exact AWPR.ret h
  | exit id => intro K s _ h; exact AWPR.exit h
  | label i => intro K s _ h; exact AWPR.label h
  | seq x y ihx ihy =>
    intro K s hc h
    simp only [calm, Bool.and_eq_true] at hc
    exact AWPR.seq ((ihx hc.1 h).mono fun e s h => by cases e <;> first | exact ihy hc.2 h | exact h)
  | block id c ih => intro K s hc h; exact AWPR.block (ih hc h)
  | cond c x y ihx ihy =>
    intro K s hc h
    simp only [calm, Bool.and_eq_true] at hc
    obtain ⟨b, h1, h2⟩ := h
    exact AWPR.cond h1 (fun e => ihx hc.1 (by rw [if_pos e] at h2; exact h2)) (fun e => ihy hc.2 (by rw [if_neg (by simp [e])] at h2; exact h2))
  | region id ops draw =>
    intro K s hc h
    cases draw with
    | false =>
      obtain ⟨os⟩ := ops
      exact AWPR.region hc (sq_sound h)
    | true => cases hc
  | loop c _ => intro K s hc h; cases hc
  | rangeFunc => intro K s hc h; cases hc
  | scope c _ => intro K s hc h; cases hc
  | goto l => intro K s hc h; cases hc
  | refuse w => intro K s hc h; cases hc
end Go.Av
end
