/- An append within a row of one's own whose cells own memory: what is moved is no longer where it was. -/
import Derived.Test.YtbldpkglmjajlaaBYg
set_option linter.unusedSimpArgs false
set_option linter.unusedVariables false
/-! An append within a row of one's own whose cells own memory: what is moved is no longer where it was. -/
namespace Go.Av
/-- Cells moved down: 'm' cells from 'o' to 'k'; behind them, up to where they ended, 'z'. -/
def mvL {α : Type} (cs : List α) (k o m : Nat) (zs : List α) : List α := cs.take k ++ ((cs.drop o).take m ++ (zs ++ cs.drop (o + m)))
theorem mvL_get {α : Type} {cs zs : List α} {k o m : Nat} (h1 : k ≤ o) (h2 : o + m ≤ cs.length) (hz : zs.length = o - k) (i : Nat) :
    (mvL cs k o m zs)[i]? = if i < k then cs[i]? else if i < k + m then cs[i - k + o]? else if i < o + m then zs[i - (k + m)]? else cs[i]? := by
  unfold mvL
  have e1 : (cs.take k).length = k := by simp; omega
  have e2 : ((cs.drop o).take m).length = m := by simp; omega
  by_cases c1 : i < k
  · rw [if_pos c1, List.getElem?_append_left (by omega), List.getElem?_take, if_pos c1]
  rw [if_neg c1, List.getElem?_append_right (by omega), e1]
  by_cases c2 : i < k + m
  · rw [if_pos c2, List.getElem?_append_left (by omega), List.getElem?_take, if_pos (by omega), List.getElem?_drop]
    congr 1; omega
  rw [if_neg c2, List.getElem?_append_right (by omega), e2]
  by_cases c3 : i < o + m
  · rw [if_pos c3, List.getElem?_append_left (by omega)]
    congr 1; omega
  rw [if_neg c3, List.getElem?_append_right (by omega), List.getElem?_drop]
  congr 1; omega
theorem mvL_len {α : Type} {cs zs : List α} {k o m : Nat} (h1 : k ≤ o) (h2 : o + m ≤ cs.length) (hz : zs.length = o - k) : (mvL cs k o m zs).length = cs.length := by
  simp [mvL, hz]; omega
theorem mvL_map {α β : Type} (f : α → β) (cs zs : List α) (k o m : Nat) : (mvL cs k o m zs).map f = mvL (cs.map f) k o m (zs.map f) := by simp [mvL, List.map_take, List.map_drop]
theorem mvL_sub {cs zs : List HT} {k o m : Nat} (h1 : k ≤ o) (hz : zs.flatMap HT.blocks = []) : List.Sublist ((mvL cs k o m zs).flatMap HT.blocks) (cs.flatMap HT.blocks) := by
  have e : cs = cs.take k ++ ((cs.drop k).take (o - k) ++ ((cs.drop o).take m ++ cs.drop (o + m))) := by
    have a1 : cs.drop o = (cs.drop o).take m ++ cs.drop (o + m) := by rw [← List.drop_drop, List.take_append_drop]
    have a2 : cs.drop k = (cs.drop k).take (o - k) ++ cs.drop o := by
      have : cs.drop o = (cs.drop k).drop (o - k) := by rw [List.drop_drop]; congr 1; omega
      rw [this, List.take_append_drop]
    rw [← a1, ← a2, List.take_append_drop]
  have e2 : (mvL cs k o m zs).flatMap HT.blocks = (cs.take k).flatMap HT.blocks ++ (((cs.drop o).take m).flatMap HT.blocks ++ (cs.drop (o + m)).flatMap HT.blocks) := by
    simp [mvL, hz]
  rw [e2]
  have e3 : cs.flatMap HT.blocks = (cs.take k).flatMap HT.blocks ++ (((cs.drop k).take (o - k)).flatMap HT.blocks ++ (((cs.drop o).take m).flatMap HT.blocks ++ (cs.drop (o + m)).flatMap HT.blocks)) := by
    conv => lhs; rw [e]
    simp only [List.flatMap_append]
  rw [e3]
  exact List.Sublist.append (List.Sublist.refl _) (List.sublist_append_right _ _)
section
variable {E : Env} {s s1 : ASt} {d : Nat} {x y : Operand} {t ty xt : TypeId} {pos : String} {after : Array Edge} {g : Option (Nat × Bool)} {R : ASt → Prop}
/-- The move itself. -/
theorem RelX.mv {M : Nat → Option HT} {G : Nat → Prop} {a : Act} {w : World} (hX : RelX E M G s a w) {r b sz n cap k o m : Nat} {p : List Nat} {T : HT} {cs : List HT} {C : Array Value} {e : TypeId} (hM : M r = some T) (hN : T.at_ p = some (.row b sz n cap cs))
    (hC : w.heap[b]? = some (.cells C e (0, 0))) (h1 : k ≤ o) (h2 : o + m ≤ cs.length) (hm : 0 < m) :
    RelX E (updF M r (some (T.upd p (.row b sz n cap (mvL cs k o m (((cs.drop (k + m)).take (o - k)).map fun K => .leaf .junk K.value)))))) G
      ((s.updM r p (.row true sz n (mvL (HT.erases cs) k o m (List.replicate (o - k) .junk)))).mapT (killR r p k (o + m - k))) a (w.setCells b k (((cs.drop o).take m).map HT.value)) := by
  have hsN := (hX.sat r T hM).at_ p hN
  obtain ⟨_, _, hnd0, _⟩ := hX.take hM hN
  have hbl := at_blocks p hN
  have hZl : ((((cs.drop (k + m)).take (o - k)).map fun K => (HT.leaf .junk K.value : HT))).length = o - k := by simp; omega
  generalize hZ : (((cs.drop (k + m)).take (o - k)).map fun K => (HT.leaf .junk K.value : HT)) = Z at hZl
  have hZg : ∀ j K, Z[j]? = some K → ∃ K0, cs[k + m + j]? = some K0 ∧ K = .leaf .junk K0.value := fun j K hj => by
    rw [← hZ, List.getElem?_map] at hj
    by_cases hjl : j < o - k
    · rw [List.getElem?_take_of_lt hjl, List.getElem?_drop] at hj
      cases hc : cs[k + m + j]? with
      | none => rw [hc] at hj; cases hj
      | some K0 => rw [hc] at hj; simp only [Option.map_some, Option.some.injEq] at hj; exact ⟨K0, rfl, hj.symm⟩
    · rw [List.getElem?_take, if_neg hjl] at hj; cases hj
  have hZb : Z.flatMap HT.blocks = [] := by
    rw [List.flatMap_eq_nil_iff]; intro K hK
    obtain ⟨j, hj⟩ := List.getElem?_of_mem hK
    obtain ⟨K0, _, rfl⟩ := hZg j K hj
    rfl
  have hZe : HT.erases Z = List.replicate (o - k) .junk := by
    rw [HT.erases_eq]
    refine List.ext_getElem? (fun j => ?_)
    rw [List.getElem?_map, List.getElem?_replicate]
    by_cases hjl : j < o - k
    · rw [if_pos hjl]
      have hj := List.getElem?_eq_getElem (l := Z) (i := j) (by omega)
      obtain ⟨K0, _, e0⟩ := hZg j _ hj
      rw [hj, e0]; rfl
    · rw [if_neg hjl, List.getElem?_eq_none (by omega)]; rfl
  have hsub := mvL_sub (cs := cs) (zs := Z) (k := k) (o := o) (m := m) h1 hZb
  cases hsN with
  | row _ _ _ _ _ C' e' g1 g2 g3 g4 g5 g6 g7 g8 =>
    rw [g1] at hC; cases hC
    have hcap : cs.length ≤ C.size := by rw [g2, g4]; exact Nat.mul_le_mul_right _ g3
    have hul : (((cs.drop o).take m).map HT.value).length = m := by simp; omega
    obtain ⟨C', c1, c2, c3, c4, c5, c6, c7, c8⟩ := setCells_fx b (((cs.drop o).take m).map HT.value) k w C e (0, 0) g1 (by rw [hul]; omega)
    rw [hul] at c3
    simp only [HT.blocks, HT.blockss_eq, List.nodup_cons] at hnd0
    have hbG : ¬ G b := (hX.own r T hM b (hbl b (by simp [HT.blocks]))).2.1
    have hG : ∀ q, G q → (w.setCells b k (((cs.drop o).take m).map HT.value)).heap[q]? = w.heap[q]? := fun q hq => c4 q (fun e => hbG (e ▸ hq))
    have hsat0 : ∀ (i : Nat) (K : HT), cs[i]? = some K → Sat (w.setCells b k (((cs.drop o).take m).map HT.value)) G K := fun i K hi =>
      (g8 i K hi).congr (fun q hq => c4 q (fun e => hnd0.1 (List.mem_flatMap.2 ⟨K, List.mem_of_getElem? hi, e ▸ hq⟩))) hG (fun _ h => h)
    have hres := hX.write2 hM hN (N' := .row b sz n cap (mvL cs k o m Z)) rfl (fun q => ∃ i q'', q = i :: q'' ∧ k ≤ i ∧ i < k + (o + m - k)) (killR r p k (o + m - k)) ?_ ?_ (w' := w.setCells b k (((cs.drop o).take m).map HT.value)) ?_ ?_ ?_ ?_
    · have he : (HT.row b sz n cap (mvL cs k o m Z)).erase = .row true sz n (mvL (HT.erases cs) k o m (List.replicate (o - k) .junk)) := by
        rw [HT.erase, HT.erases_eq, mvL_map, ← HT.erases_eq, ← HT.erases_eq, hZe]
      rw [he] at hres
      exact hres
    · intro r0 p0 r' p' h
      simp only [killR] at h
      split at h
      · split at h
        · cases h
        · rename_i e1 e2
          cases h
          exact ⟨rfl, rfl, fun ⟨_, q, h1, i, q'', h2⟩ => under_spec p k _ p0 (by simpa using e2) ⟨q, h1, i, q'', h2⟩⟩
      · rename_i e1
        cases h
        exact ⟨rfl, rfl, fun h => e1 h.1⟩
    · intro q M' hx hq hmem
      cases q with
      | nil => simp only [HT.at_, Option.some.injEq] at hq; subst hq; exact ⟨_, rfl, rfl⟩
      | cons j q =>
        refine ⟨M', ?_, rfl⟩
        simp only [HT.at_, HT.kids] at hq ⊢
        rw [mvL_get h1 h2 hZl] at hq
        by_cases c1 : j < k
        · rw [if_pos c1] at hq; exact hq
        · have : ¬ j < o + m := fun h => hx ⟨j, q, rfl, by omega, by omega⟩
          rw [if_neg c1, if_neg (by omega), if_neg this] at hq; exact hq
    · exact ⟨c5, c6, c7, by rw [c8]; exact Nat.le_refl _, fun q hq hqb => c4 q (fun e => hqb (by rw [e]; simp [HT.blocks]))⟩
    · refine .row _ _ _ _ _ C' e c1 ((mvL_len h1 h2 hZl).trans g2) g3 (c2.trans g4) g5 g6 (fun i K hi => ?_) (fun i K hi => ?_)
      · rw [mvL_get h1 h2 hZl] at hi
        rw [c3 i]
        by_cases c1 : i < k
        · rw [if_pos c1] at hi; rw [if_neg (by omega)]; exact g7 i K hi
        rw [if_neg c1] at hi
        by_cases c2 : i < k + m
        · rw [if_pos c2] at hi; rw [if_pos ⟨by omega, c2⟩, List.getElem?_map, List.getElem?_take_of_lt (by omega), List.getElem?_drop, show o + (i - k) = i - k + o by omega, hi]; rfl
        rw [if_neg c2] at hi
        rw [if_neg (by omega)]
        by_cases c4 : i < o + m
        · rw [if_pos c4] at hi
          obtain ⟨K0, e1, rfl⟩ := hZg _ K hi
          rw [show k + m + (i - (k + m)) = i by omega] at e1
          exact g7 i K0 e1
        · rw [if_neg c4] at hi; exact g7 i K hi
      · rw [mvL_get h1 h2 hZl] at hi
        split at hi
        · exact hsat0 _ K hi
        · split at hi
          · exact hsat0 _ K hi
          · split at hi
            · obtain ⟨K0, e1, rfl⟩ := hZg _ K hi
              exact .leaf _ _ rfl (.junk _)
            · exact hsat0 _ K hi
    · simp only [HT.blocks, HT.blockss_eq, List.nodup_cons]
      exact ⟨fun h => hnd0.1 (hsub.subset h), hsub.nodup hnd0.2⟩
    · intro q hq
      simp only [HT.blocks, HT.blockss_eq, List.mem_cons] at hq ⊢
      rcases hq with rfl | hq
      · exact .inl (.inl rfl)
      · exact .inl (.inr (hsub.subset hq))
/-- An append within the row: of cells that own memory, to a place before them. -/
theorem l_appInK {r k off m n : Nat} {p : List Nat} {cs : List AV} (hd : d < E.nt) (hz : zOk E.P t = true) (hx : s.ev x = .sl r p 0 k) (hy : s.ev y = .sl r p off m) (hA : nodeOf s r p = some (.row true (slSz E.P t) n cs)) (h1 : off + m ≤ n) (h2 : k ≤ off) (hm : 0 < m)
    (hft : fitCs ((cs.drop (off * slSz E.P t)).take (m * slSz E.P t)) = true)
    (hR : R (((s.updM r p (.row true (slSz E.P t) n (mvL cs (k * slSz E.P t) (off * slSz E.P t) (m * slSz E.P t) (List.replicate (off * slSz E.P t - k * slSz E.P t) .junk)))).mapT (killR r p (k * slSz E.P t) (off * slSz E.P t + m * slSz E.P t - k * slSz E.P t))).set d (.sl r p 0 (k + m)))) :
    LJ E ⟨some d, .call { callee := .builtin .append, args := #[x, y], argTypes := #[t, t] }, ty, pos, after, g⟩ s R := by
  obtain ⟨z1, z2, z3, z4⟩ := of_zOk hz
  obtain ⟨e, i, z, t1, t2, t3, t4, t5, t6, _⟩ := zcT_spec z1
  rw [z3] at hA hft hR
  generalize hszE : (zsN E.P t).length = sz at *
  rintro a w ⟨M, G, hX⟩
  obtain ⟨T, N, hM, hN, hNe, hsT, hsN⟩ := nodeOf_spec hX hA
  have hv := hX.ev x
  have hv2 := hX.ev y
  rw [hx] at hv
  rw [hy] at hv2
  generalize hav : a.eval x = v at hv
  generalize hav2 : a.eval y = v2 at hv2
  cases hv with
  | sl _ _ _ _ _ q q0 =>
  cases hv2 with
  | sl _ _ _ _ _ qy qy0 =>
    generalize hNN : N = N' at hsN
    cases hsN with
    | row b sz' n' cap cs' C e0 g1 g2 g3 g4 g5 g6 g7 g8 =>
      subst hNN
      simp only [HT.erase, AV.row.injEq, true_and] at hNe
      obtain ⟨rfl, rfl, hcs⟩ := hNe
      obtain ⟨A0, c0, rfl, q2, q3, q4, q5⟩ := q T hM b sz' n' cap cs' hN (by omega)
      obtain ⟨rfl, rfl⟩ := q5 rfl
      obtain ⟨A1, c1, rfl, y2, y3, y4, y5⟩ := qy T hM b sz' n' c0 cs' hN h1
      have y4 : A1 = some ⟨b, off * sz', none⟩ := y4.resolve_left (by omega)
      subst y4
      have hle2 : off * sz' + m * sz' ≤ cs'.length := by rw [g2, ← Nat.add_mul]; exact Nat.mul_le_mul_right _ h1
      have hle3 : k * sz' ≤ off * sz' := Nat.mul_le_mul_right _ h2
      have hcap : cs'.length ≤ C.size := by rw [g2, g4]; exact Nat.mul_le_mul_right _ g3
      have hul : ((cs'.drop (off * sz')).take (m * sz')).length = m * sz' := by rw [List.length_take, List.length_drop]; omega
      have her : HT.erases ((cs'.drop (off * sz')).take (m * sz')) = (cs.drop (off * sz')).take (m * sz') := by rw [← hcs]; simp [HT.erases_eq, List.map_take, List.map_drop]
      have hrun : (execOp a.eval ⟨some d, .call { callee := .builtin .append, args := #[x, y], argTypes := #[t, t] }, ty, pos, after, g⟩).run E.P w = .ok (.value (.slice (some ⟨b, 0, none⟩) (k + m) c0)) (w.setCells b (k * sz') (((cs'.drop (off * sz')).take (m * sz')).map HT.value)) := by
        have := run_append_room_cells (P := E.P) w t ty e i t1 t2 b 0 k c0 ⟨b, off * sz', none⟩ m c1 (((cs'.drop (off * sz')).take (m * sz')).map HT.value) (by rw [List.length_map, hul, t6]) (fun j u hj => by
            rw [List.getElem?_map] at hj
            cases hV : ((cs'.drop (off * sz')).take (m * sz'))[j]? with
            | none => rw [hV] at hj; cases hj
            | some V =>
              rw [hV] at hj
              simp only [Option.map_some, Option.some.injEq] at hj
              subst hj
              have hjl : j < m * sz' := by have := (List.getElem?_eq_some_iff.1 hV).1; rw [hul] at this; exact this
              rw [List.getElem?_take_of_lt hjl, List.getElem?_drop] at hV
              rw [add0]
              simp [World.cell?, g1, g7 _ V hV]) (fun u hu => by
            obtain ⟨V, h1, rfl⟩ := List.mem_map.1 hu
            obtain ⟨j, hj⟩ := List.getElem?_of_mem (List.mem_of_mem_drop (List.mem_of_mem_take h1))
            exact (fit_val (g8 j V hj) (fitCs_mem.1 hft _ (by rw [← her, HT.erases_eq]; exact List.mem_map.2 ⟨V, h1, rfl⟩))).1) (by omega) (fun j hj => by
            have hj' : j < m * sz' := by rw [List.length_map, hul] at hj; exact hj
            have : k * sz' + j < C.size := by omega
            rw [t6]
            simp [World.cell?, g1, this]) (fun j hj => by simp [World.frozen?, g1])
        rw [t6, Nat.zero_add] at this
        simp [execOp, resolve, invoke, builtin, hav2, hav, this, Result.andThen]
      unfold Oper.wp
      rw [hrun]
      simp only [Oper.upon]
      have hL := hX.mv hM hN g1 hle3 hle2 (Nat.mul_pos hm g5)
      rw [hcs] at hL
      have hS := hL.set hd (w' := w.setCells b (k * sz') (((cs'.drop (off * sz')).take (m * sz')).map HT.value)) (v := .sl r p 0 (k + m)) (u := .slice (some ⟨b, 0, none⟩) (k + m) c0) (Ext.refl _ _) ?_
      · exact ⟨_, ⟨_, _, hS⟩, hR⟩
      · refine .sl _ _ _ _ _ (fun T' hT' b1 sz1 n1 cap1 cs1 hN1 hle1 => ?_) (fun T' hT' sz1 hN1 hle1 => ?_)
        · simp only [updF, if_true, Option.some.injEq] at hT'; subst hT'
          rw [at_upd_self p hN] at hN1
          simp only [Option.some.injEq, HT.row.injEq] at hN1
          obtain ⟨rfl, rfl, rfl, rfl, rfl⟩ := hN1
          exact ⟨_, _, rfl, by omega, by omega, .inr (by simp), fun _ => ⟨rfl, rfl⟩⟩
        · simp only [updF, if_true, Option.some.injEq] at hT'; subst hT'
          rw [at_upd_self p hN] at hN1
          simp at hN1
    | nilrow sz' =>
      subst hNN
      simp only [HT.erase, AV.row.injEq, true_and] at hNe
      obtain ⟨rfl, rfl, rfl⟩ := hNe
      omega
    | leaf a' v' ha _ => subst hNN; cases a' with
      | row o _ _ _ => cases o <;> simp_all [HT.erase, AV.leafOk]
      | _ => simp_all [HT.erase, AV.leafOk]
    | box => subst hNN; simp [HT.erase] at hNe
    | agg => subst hNN; simp [HT.erase] at hNe
    | tup => subst hNN; simp [HT.erase] at hNe
end
end Go.Av
namespace Go.Av
theorem del_cellsK {α : Type} {enc : α → List AV} {sz : Nat} (hs : ∀ x, (enc x).length = sz) {l : List α} {i j : Nat} (hij : i ≤ j) (hj : j ≤ l.length) (Z : List AV) {Zs : List AV} (hZ : Zs.length = j * sz - i * sz) :
    (setL (mvL (l.flatMap enc) (i * sz) (j * sz) ((l.length - j) * sz) Zs) ((i + (l.length - j)) * sz) Z).take ((i + (l.length - j)) * sz) = (l.take i ++ l.drop j).flatMap enc := by
  have hl : (l.flatMap enc).length = l.length * sz := flat_len (fun y _ => hs y)
  have hM : ((l.flatMap enc).drop (j * sz)).take ((l.length - j) * sz) = (l.drop j).flatMap enc := by
    rw [flat_drop _ (fun y _ => hs y), flat_take _ (fun y _ => hs y), List.take_of_length_le (by simp)]
  have hMl : ((l.drop j).flatMap enc).length = (l.length - j) * sz := by rw [flat_len (fun y _ => hs y)]; simp
  have hT : (l.flatMap enc).take (i * sz) = (l.take i).flatMap enc := flat_take _ (fun y _ => hs y)
  have hTl : ((l.take i).flatMap enc).length = i * sz := by rw [flat_len (fun y _ => hs y), List.length_take, Nat.min_eq_left (by omega)]
  have hij' : i * sz ≤ j * sz := Nat.mul_le_mul_right _ hij
  have hj' : j * sz + (l.length - j) * sz = l.length * sz := by rw [← Nat.add_mul]; congr 1; omega
  rw [setL_take (by rw [mvL_len hij' (by rw [hl]; omega) hZ, hl, Nat.add_mul]; omega) (Nat.le_refl _)]
  unfold mvL
  rw [hM, hT, Nat.add_mul, ← List.append_assoc, ← hTl, ← hMl, ← List.length_append, List.take_left', List.flatMap_append]
  rfl
end Go.Av
/-! A row of no element that is known to be nil (nsz). -/
namespace Go.Av
theorem Does.walkA {P : Program} {f : FuncId} {fn : Func} {c : Code} {args : List AV} {res : AV} {nt : Nat} (hf : P.funcs[f]? = some fn) (hb : fn.body = some c) (hnt : fn.ntmps = nt) (hn : args.length ≤ nt) (hn1 : nt ≤ 1000) (hfree : AV.noRefs args = true)
    (h : ∀ (G0 : Nat → Prop) (X : Nat → Prop) (w0 : World) (pv : Nat → Option Value), AWP ⟨P, G0, X, w0, nt, pv⟩ c (retK ⟨P, G0, X, w0, nt, pv⟩ fn res) (startT args)) : Does P f args res := by
  subst hnt
  refine Does.of hf hb hn hn1 (AV.noRefs_mem.1 hfree) ?_
  rintro ⟨P', G0, X, w0, nt, pv⟩ rfl rfl
  exact h G0 X w0 pv
theorem RetJ.deN {E : Env} {fn : Func} {n sz : Nat} {cs : List AV} {v : Value} {s : ASt} (h : RetJ E fn (.tup [.row true (nsz n sz) n cs, .lit v]) s) : RetJ E fn (.tup [.row true sz n cs, .lit v]) s := by
  intro M G a w hX
  obtain ⟨T, h1, h2, h3, h4, h5⟩ := h M G a w hX
  cases n with
  | succ n => rw [nsz_succ] at h2; exact ⟨T, h1, h2, h3, h4, h5⟩
  | zero =>
    rw [nsz_zero] at h2
    cases T with
    | tup Ts =>
      simp only [HT.erase, HT.erases_eq, AV.tup.injEq] at h2
      match Ts, h2 with
      | [A, B], h2 =>
        simp only [List.map_cons, List.map_nil, List.cons.injEq, and_true] at h2
        cases A with
        | row b z n cap cs' =>
          have hs := h3.kids 0 _ rfl
          cases hs with
          | row _ _ _ _ _ C e g1 g2 g3 g4 g5 =>
            simp only [HT.erase, AV.row.injEq, true_and] at h2
            omega
        | nilrow z =>
          simp only [HT.erase, AV.row.injEq, true_and] at h2
          obtain ⟨⟨rfl, _, rfl⟩, hB⟩ := h2
          refine ⟨.tup [.nilrow sz, B], h1, by simp [HT.erase, HT.erases_eq, hB], ?_, by simpa [HT.blocks, HT.blockss_eq] using h4, by simpa [HT.blocks, HT.blockss_eq] using h5⟩
          refine .tup _ (fun i T hi => ?_)
          match i, hi with
          | 0, hi => simp only [List.getElem?_cons_zero, Option.some.injEq] at hi; subst hi; exact .nilrow _
          | i + 1, hi => exact h3.kids (i + 1) T hi
        | leaf a' v' =>
          have hs := h3.kids 0 _ rfl
          cases hs with
          | leaf _ _ ha _ => simp only [HT.erase] at h2; rw [h2.1] at ha; simp [AV.leafOk] at ha
        | box => simp [HT.erase] at h2
        | agg => simp [HT.erase] at h2
        | tup => simp [HT.erase] at h2
      | [], h2 => simp at h2
      | [_], h2 => simp at h2
      | _ :: _ :: _ :: _, h2 => simp at h2
    | leaf a' v' =>
      cases h3 with
      | leaf _ _ ha _ => simp only [HT.erase] at h2; rw [h2] at ha; simp [AV.leafOk] at ha
    | row => simp [HT.erase] at h2
    | nilrow => simp [HT.erase] at h2
    | box => simp [HT.erase] at h2
    | agg => simp [HT.erase] at h2
end Go.Av
/-! A region's new name, where nothing is turned. -/
namespace Go.Av
def ASt.renm (s : ASt) (r d : Nat) : ASt := ⟨fun i => (s.t i).mapRef (renF r d), fun q => if q = d then s.m r else if q = r then none else s.m q⟩
theorem renm_t {s : ASt} {r d i : Nat} : (s.renm r d).t i = (s.t i).mapRef (renF r d) := nrfl rfl
theorem renm_m {s : ASt} {r d q : Nat} : (s.renm r d).m q = if q = d then s.m r else if q = r then none else s.m q := nrfl rfl
theorem Weak.renm {s : ASt} {r d : Nat} (hr : r < 1000) (hd : d < 1000) (hrd : r ≠ d) : Weak s (s.renm r d) := by
  rintro E a w ⟨M, G, hX⟩
  refine ⟨fun q => if q = d then M r else if q = r then none else M q, G, ?_⟩
  have key : ∀ q T, (if q = d then M r else if q = r then none else M q) = some T → ∃ q', M q' = some T ∧ (q = d ∧ q' = r ∨ q ≠ d ∧ q ≠ r ∧ q' = q) := fun q T h => by
    split at h
    · exact ⟨r, h, .inl ⟨by assumption, rfl⟩⟩
    · split at h
      · cases h
      · exact ⟨q, h, .inr ⟨by assumption, by assumption, rfl⟩⟩
  have hmap : ∀ {v : AV} {u : Value}, VR w G M v u → VR w G (fun q => if q = d then M r else if q = r then none else M q) (v.mapRef (renF r d)) u := fun h => h.mapRef (fun r0 p0 r' p' hf T' N' hT' hN' hm => by
    simp only [renF] at hf
    split at hf
    · simp only [Option.some.injEq, Prod.mk.injEq] at hf
      obtain ⟨rfl, rfl⟩ := hf
      simp only [if_true] at hT'
      rename_i e; subst e
      exact ⟨T', N', hT', hN', rfl⟩
    · split at hf
      · cases hf
      · simp only [Option.some.injEq, Prod.mk.injEq] at hf
        obtain ⟨rfl, rfl⟩ := hf
        rename_i e1 e2
        simp only [e1, e2, if_false] at hT'
        exact ⟨T', N', hT', hN', rfl⟩)
  refine ⟨fun q => ?_, fun q T h => ?_, fun q T h => ?_, fun q q' T T' hq h h' x hx hx' => ?_, fun q T h x hx => ?_, hX.gd, hX.g0, fun i => hmap (hX.sl i), hX.ext, hX.df, hX.nt, hX.n1, fun q v hv => ?_⟩
  · simp only [ASt.renm]
    split
    · exact hX.er r
    · split
      · rfl
      · exact hX.er q
  · obtain ⟨q', h1, _⟩ := key q T h; exact hX.sat q' T h1
  · obtain ⟨q', h1, _⟩ := key q T h; exact hX.nd q' T h1
  · obtain ⟨q1, h1, e1⟩ := key q T h
    obtain ⟨q2, h2, e2⟩ := key q' T' h'
    exact hX.dj q1 q2 T T' (by omega) h1 h2 x hx hx'
  · obtain ⟨q', h1, _⟩ := key q T h; exact hX.own q' T h1 x hx
  · obtain ⟨h1, T, h2, h3⟩ := hX.pv q v hv
    exact ⟨h1, T, by rw [if_neg (by omega), if_neg (by omega)]; exact h2, h3⟩
end Go.Av
/-! A row that was taken, and is not what comes back: it is let go. -/
namespace Go.Av
theorem RetX.dropR {E : Env} {fn : Func} {res A : AV} {s : ASt} (h : RetX E fn res [A] s) : RetX E fn res [.junk] s := by
  intro M G a w hX
  obtain ⟨T, M', s', h1, h2, h3, h4, h5, h6, h7⟩ := h M G a w hX
  have hm : s'.m 1000 = some A := h7 0 (by simp)
  have he := h6.er 1000
  rw [hm] at he
  cases hM : M' 1000 with
  | none => rw [hM] at he; cases he
  | some N =>
    obtain ⟨k1, k2, k3, k4⟩ := h6.take hM (p := []) rfl
    refine ⟨T, _, _, h1, h2, h3, h4, fun x hx => ⟨fun q T' hq => ?_, (h5 x hx).2⟩, k1, fun j hj => ?_⟩
    · simp only [updF] at hq
      split at hq
      · cases hq; simp [HT.upd, HT.blocks]
      · exact (h5 x hx).1 q T' hq
    · have : j = 0 := by simpa using hj
      subst this
      simp [ASt.updM, hm, AV.upd]
end Go.Av
/-! Rows that are made: of structs that hold rows. -/
namespace Go.Av
theorem mkl_encO {α : Type} {enc : α → List AV} {z : α} {zs : List Value} {os : List (Option Nat)} (h0 : 0 < zs.length) (ho : zs.length = os.length) (hz : nilTs os (zs.map .lit) = enc z) {n : Int} {m : List α} (h : mkl n z = some m) :
    nilRs os n.toNat ((zCells zs n.toNat).map AV.lit) = m.flatMap enc := by
  obtain ⟨_, _, rfl⟩ := mkl_ok h
  exact zRowsN h0 ho hz _
end Go.Av
namespace Go.Av
theorem avset_len {l : List AV} {i : Nat} {a : AV} : (l.set i a).length = l.length := List.length_set
end Go.Av
