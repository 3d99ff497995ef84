/- Within the room of a row of one's own: an append over its own cells, a slice beyond the length, 'clear'. -/
import Derived.Test.YtgogbjfmbfijiaaBPg
set_option linter.unusedSimpArgs false
set_option linter.unusedVariables false
/-! Within the room of a row of one's own: an append over its own cells, a slice beyond the length, 'clear'. -/
namespace Go.Av
theorem run_slCap {P : Program} (w : World) {t : TypeId} {sz : Nat} (ht : slT P t = some sz) (A : Option Addr) (len c : Nat) {low high : Option Value} {l h : Nat}
    (hl : (low = none ∧ l = 0) ∨ ∃ k, low = some (.int k l)) (hh : ∃ k, high = some (.int k h)) (h1 : l ≤ h) (h2 : h ≤ c) :
    (Instr.sliceAt t (.slice A len c) low high none).run P w = .ok (.slice (if c = l then A else A.map (·.add (l * sz))) (h - l) (c - l)) w := by
  obtain ⟨e, i, hu, hi, hs⟩ := slT_spec ht
  have hsz : (sizeOf e).run P w = .ok sz w := by simp [sizeOf, typeInfo, hi, hs]
  have b1 : ∀ k (y : Nat) code, l ≤ y → (Instr.sliceBound (.int k l) y code).run P w = .ok l w := fun k y code hy => by
    rw [run_sliceBound (P := P) w k l y code (by omega) (by omega)]; simp
  have b2 : ∀ k (y : Nat) code, h ≤ y → (Instr.sliceBound (.int k h) y code).run P w = .ok h w := fun k y code hy => by
    rw [run_sliceBound (P := P) w k h y code (by omega) (by omega)]; simp
  simp only [Instr.sliceAt, Instr.slice, Sem.run_bind, run_underlying hu, Result.andThen_ok, Instr.sliceBounds]
  obtain ⟨k', rfl⟩ := hh
  rcases hl with ⟨rfl, rfl⟩ | ⟨k, rfl⟩ <;> simp [b1, b2, h1, h2, hsz]
theorem run_sl3 {P : Program} (w : World) {t : TypeId} {sz : Nat} (ht : slT P t = some sz) (A : Option Addr) (len c : Nat) {low high max : Option Value} {l h m : Nat}
    (hl : (low = none ∧ l = 0) ∨ ∃ k, low = some (.int k l)) (hh : ∃ k, high = some (.int k h)) (hm : ∃ k, max = some (.int k m)) (h1 : l ≤ h) (h2 : h ≤ m) (h3 : m ≤ c) :
    (Instr.sliceAt t (.slice A len c) low high max).run P w = .ok (.slice (if m = l then A else A.map (·.add (l * sz))) (h - l) (m - l)) w := by
  obtain ⟨e, i, hu, hi, hs⟩ := slT_spec ht
  have hsz : (sizeOf e).run P w = .ok sz w := by simp [sizeOf, typeInfo, hi, hs]
  have b : ∀ k (x y : Nat) code, x ≤ y → (Instr.sliceBound (.int k x) y code).run P w = .ok x w := fun k x y code hy => by
    rw [run_sliceBound (P := P) w k x y code (by omega) (by omega)]; simp
  simp only [Instr.sliceAt, Instr.slice, Sem.run_bind, run_underlying hu, Result.andThen_ok, Instr.sliceBounds]
  obtain ⟨k', rfl⟩ := hh
  obtain ⟨k2, rfl⟩ := hm
  rcases hl with ⟨rfl, rfl⟩ | ⟨k, rfl⟩ <;> simp [b, h1, h2, h3, hsz]
theorem zc_list {z : Value} {zs : List Value} (h : z.cells.toList = zs) (n : Nat) (h0 : 0 < zs.length) : (Builtin.zeroCells z.cells n).toList = zCells zs n := by
  subst h
  unfold Builtin.zeroCells zCells
  refine List.ext_getElem (by simp) (fun i h1 h2 => ?_)
  have hm : i % z.cells.size < z.cells.size := Nat.mod_lt _ (by simpa using h0)
  simp [hm, List.getD]
theorem run_clearN {P : Program} (w : World) {t ty : TypeId} {zs : List Value} {by_ : Nat} (ht : zcT P t = some (zs, by_)) (h0 : 0 < zs.length) (ho : ∀ v ∈ zs, v.oneCell' = true) (b o n c : Nat) (hn : 0 < n)
    (hc : ∀ j, j < n * zs.length → (w.cell? ⟨b, o + j, none⟩).isSome = true) (hf : ∀ j, j < n * zs.length → w.frozen? ⟨b, o + j, none⟩ = false) :
    (Builtin.clear_ #[t] ty #[.slice (some ⟨b, o, none⟩) n c]).run P w = .ok (.tuple #[]) (w.setCells b o (zCells zs n)) := by
  obtain ⟨e, i, z, h1, h2, h3, h4, h5, h6, _⟩ := zcT_spec ht
  have hz := zc_list h4 n h0
  have hone : ∀ v ∈ zCells zs n, v.oneCell' = true := fun v hv => by
    simp only [zCells, List.mem_map, List.mem_range] at hv
    obtain ⟨j, hj, rfl⟩ := hv
    have hm : j % zs.length < zs.length := Nat.mod_lt _ h0
    rw [List.getD_eq_getElem?_getD, List.getElem?_eq_getElem hm]
    exact ho _ (List.getElem_mem _)
  have hl : (zCells zs n).length = n * zs.length := by simp [zCells]
  have hst := run_storeCells_cells (P := P) b o (zCells zs n) 0 w (by rw [hl]; simpa using hc) (by rw [hl]; simpa using hf) hone
  simp only [Nat.add_zero] at hst
  obtain ⟨m, rfl⟩ : ∃ m, n = m + 1 := ⟨n - 1, by omega⟩
  have hv : (zeroValue e).run P w = .ok z w := by simp [zeroValue, typeInfo, h2, h3]
  simp [Builtin.clear_, run_underlying h1, hv, hz, hst]
section
variable {E : Env} {s s1 : ASt} {d : Nat} {x y : Operand} {t ty xt : TypeId} {pos : String} {after : Array Edge} {g : Option (Nat × Bool)} {R : ASt → Prop}
theorem l_slCap {lo hi : Option Operand} {r len n : Nat} {p : List Nat} {cs : List AV} {sz : Nat} {l h : Int} (hn : d < E.nt) (ht : slT E.P xt = some sz) (hx : s.ev x = .sl r p 0 len) (hA : nodeOf s r p = some (.row true sz n cs)) (hl : len ≤ n)
    (h1 : bndQ s 0 lo = some l) (h2 : ∃ y, hi = some y ∧ bndQ s len hi = some h) (h3 : 0 ≤ l) (h4 : l ≤ h) (h5 : h ≤ n) (hR : R (s.set d (.sl r p l.toNat (h.toNat - l.toNat)))) :
    LJ E ⟨some d, .slice xt x lo hi none, t, pos, after, g⟩ s R :=
  LJ.of_q (v := .sl r p l.toNat (h.toNat - l.toNat)) (T := none) (.val rfl hn fun s' M G a w hle hX => by
    have hv := hX.evLe hle x
    rw [hx] at hv
    have hA' := hle.node hA
    obtain ⟨T, N, hM, hN, hNe, hsT, hsN⟩ := nodeOf_spec hX hA'
    have e1 := bnd_val hX hle h1 h3
    obtain ⟨y, rfl, h2⟩ := h2
    have e2 := bnd_val hX hle h2 (by omega)
    have e2' : ∃ k, a.eval y = .int k h.toNat := by
      rcases e2 with ⟨e, _⟩ | ⟨k, e⟩
      · cases e
      · exact ⟨k, by simpa using e⟩
    simp only [Int.toNat_zero] at e1
    have hln : l.toNat ≤ h.toNat := by omega
    have hhn : h.toNat ≤ n := by omega
    generalize hav : a.eval x = v at hv
    cases hv with
    | sl _ _ _ _ _ q q0 =>
      cases hsN with
      | row b sz' n' cap cs' C e g1 g2 g3 g4 g5 g6 g7 g8 =>
        simp only [HT.erase, AV.row.injEq, true_and] at hNe
        obtain ⟨rfl, rfl, _⟩ := hNe
        obtain ⟨A, c, rfl, q2, q3, q4, q5⟩ := q T hM b sz' n' cap cs' hN (by omega)
        obtain ⟨rfl, rfl⟩ := q5 rfl
        refine ⟨.slice (if c = l.toNat then some ⟨b, 0, none⟩ else (some ⟨b, 0, none⟩ : Option Addr).map (·.add (l.toNat * sz'))) (h.toNat - l.toNat) (c - l.toNat), w, ?_, Ext.refl _ _, ?_⟩
        · simp only [execOp, Sem.run_bind, hav]
          rw [show (none : Option Operand).map a.eval = none from rfl, run_slCap (P := E.P) w ht _ len c e1 (by obtain ⟨k, e⟩ := e2'; exact ⟨k, by simp [e]⟩) hln (by omega)]
          rfl
        · refine .sl _ _ _ _ _ (fun T' hT' b1 sz1 n1 cap1 cs1 hN1 hle1 => ?_) (fun T' hT' sz1 hN1 hle1 => ?_)
          · rw [hM] at hT'; cases hT'; rw [hN] at hN1; cases hN1
            refine ⟨_, _, rfl, by omega, by omega, ?_, fun h0 => ?_⟩
            · by_cases hc : c = l.toNat
              · exact .inl (by omega)
              · right
                rw [if_neg hc]
                simp [add0]
            · rw [h0]
              refine ⟨by omega, ?_⟩
              split <;> simp [add0]
          · rw [hM] at hT'; cases hT'; rw [hN] at hN1; cases hN1
      | nilrow sz' =>
        simp only [HT.erase, AV.row.injEq, true_and] at hNe
        obtain ⟨rfl, rfl, _⟩ := hNe
        have := q0 T hM sz' hN (by omega)
        subst this
        refine ⟨.slice none 0 0, w, ?_, Ext.refl _ _, ?_⟩
        · simp only [execOp, Sem.run_bind, hav]
          have z1 : l.toNat = 0 := by omega
          have z2 : h.toNat = 0 := by omega
          rw [z1] at e1
          rw [show (none : Option Operand).map a.eval = none from rfl, run_slCap (P := E.P) w ht none 0 0 (l := 0) (h := 0) e1 (by obtain ⟨k, e⟩ := e2'; exact ⟨k, by simp [e, z2]⟩) (by omega) (by omega)]
          simp
        · refine .sl _ _ _ _ _ (fun T' hT' b1 sz1 n1 cap1 cs1 hN1 hle1 => ?_) (fun T' hT' sz1 hN1 hle1 => rfl)
          rw [hM] at hT'; cases hT'; rw [hN] at hN1; cases hN1
      | leaf a' v' ha _ => cases a' with
        | row o _ _ _ => cases o <;> simp_all [HT.erase, AV.leafOk]
        | _ => simp_all [HT.erase, AV.leafOk]
      | box => simp [HT.erase] at hNe
      | agg => simp [HT.erase] at hNe
      | tup => simp [HT.erase] at hNe) hR
theorem l_sl3 {lo : Option Operand} {yh ym : Operand} {r len n : Nat} {p : List Nat} {cs : List AV} {sz : Nat} {l h m : Int} {kh km : IntKind} (hn : d < E.nt) (ht : slT E.P xt = some sz) (hx : s.ev x = .sl r p 0 len) (hA : nodeOf s r p = some (.row true sz n cs)) (hl : len ≤ n)
    (h1 : bndQ s 0 lo = some l) (h2 : s.ev yh = .lit (.int kh h)) (h2' : s.ev ym = .lit (.int km m)) (h3 : 0 ≤ l) (h4 : l ≤ h) (h5 : h ≤ m) (h6 : m ≤ n) (hR : R (s.set d .junk)) :
    LJ E ⟨some d, .slice xt x lo (some yh) (some ym), t, pos, after, g⟩ s R :=
  LJ.of_q (v := .junk) (T := none) (.val rfl hn fun s' M G a w hle hX => by
    have hv := hX.evLe hle x
    rw [hx] at hv
    have hA' := hle.node hA
    obtain ⟨T, N, hM, hN, hNe, hsT, hsN⟩ := nodeOf_spec hX hA'
    have e1 := bnd_val hX hle h1 h3
    have e2 : ∃ k, (some yh).map a.eval = some (.int k h.toNat) := ⟨kh, by simp [hX.lit hle h2, Int.toNat_of_nonneg (show 0 ≤ h by omega)]⟩
    have e3 : ∃ k, (some ym).map a.eval = some (.int k m.toNat) := ⟨km, by simp [hX.lit hle h2', Int.toNat_of_nonneg (show 0 ≤ m by omega)]⟩
    simp only [Int.toNat_zero] at e1
    generalize hav : a.eval x = v at hv
    cases hv with
    | sl _ _ _ _ _ q q0 =>
      cases hsN with
      | row b sz' n' cap cs' C e g1 g2 g3 g4 g5 g6 g7 g8 =>
        simp only [HT.erase, AV.row.injEq, true_and] at hNe
        obtain ⟨rfl, rfl, _⟩ := hNe
        obtain ⟨A, c, rfl, q2, q3, q4, q5⟩ := q T hM b sz' n' cap cs' hN (by omega)
        obtain ⟨rfl, rfl⟩ := q5 rfl
        refine ⟨.slice (if m.toNat = l.toNat then (some ⟨b, 0, none⟩ : Option Addr) else (some ⟨b, 0, none⟩ : Option Addr).map (·.add (l.toNat * sz'))) (h.toNat - l.toNat) (m.toNat - l.toNat), w, ?_, Ext.refl _ _, .junk _⟩
        · simp only [execOp, Sem.run_bind, hav]
          rw [run_sl3 (P := E.P) w ht _ len c e1 e2 e3 (by omega) (by omega) (by omega)]
          rfl
      | nilrow sz' =>
        simp only [HT.erase, AV.row.injEq, true_and] at hNe
        obtain ⟨rfl, rfl, _⟩ := hNe
        have := q0 T hM sz' hN (by omega)
        subst this
        refine ⟨.slice (if m.toNat = l.toNat then (none : Option Addr) else (none : Option Addr).map (·.add (l.toNat * sz'))) (h.toNat - l.toNat) (m.toNat - l.toNat), w, ?_, Ext.refl _ _, .junk _⟩
        · simp only [execOp, Sem.run_bind, hav]
          rw [run_sl3 (P := E.P) w ht none 0 0 e1 e2 e3 (by omega) (by omega) (by omega)]
          rfl
      | leaf a' v' ha _ => cases a' with
        | row o _ _ _ => cases o <;> simp_all [HT.erase, AV.leafOk]
        | _ => simp_all [HT.erase, AV.leafOk]
      | box => simp [HT.erase] at hNe
      | agg => simp [HT.erase] at hNe
      | tup => simp [HT.erase] at hNe) hR
/-- An append within the row: of cells of its own, into cells of its own. -/
theorem l_appIn {r k off m n : Nat} {p : List Nat} {cs : List AV} (hd : d < E.nt) (hz : zOk E.P t = true) (hx : s.ev x = .sl r p 0 k) (hy : s.ev y = .sl r p off m) (hA : nodeOf s r p = some (.row true (slSz E.P t) n cs)) (h1 : off + m ≤ n) (h2 : k + m ≤ n) (hm : 0 < m)
    (hlf : leafCs ((cs.drop (off * slSz E.P t)).take (m * slSz E.P t)) = true) (hft : fitCs ((cs.drop (off * slSz E.P t)).take (m * slSz E.P t)) = true)
    (hR : R ((s.updM r p (.row true (slSz E.P t) n (setL cs (k * slSz E.P t) ((cs.drop (off * slSz E.P t)).take (m * slSz E.P t))))).set d (.sl r p 0 (k + m)))) :
    LJ E ⟨some d, .call { callee := .builtin .append, args := #[x, y], argTypes := #[t, t] }, ty, pos, after, g⟩ s R := by
  obtain ⟨z1, z2, z3, z4⟩ := of_zOk hz
  obtain ⟨e, i, z, t1, t2, t3, t4, t5, t6, _⟩ := zcT_spec z1
  rw [z3] at hA hlf hft hR
  generalize hszE : (zsN E.P t).length = sz at *
  rintro a w ⟨M, G, hX⟩
  obtain ⟨Vs, A, c, hu, hVe, hVl, hVs, hVb, hVc⟩ := yj_own (E := E) hA h1 hlf hft M G a w hX _ (hy ▸ hX.ev y)
  have hVl0 : 0 < Vs.length := by rw [hVl]; exact Nat.mul_pos hm z2
  obtain ⟨T, N, hM, hN, hNe, hsT, hsN⟩ := nodeOf_spec hX hA
  have hv := hX.ev x
  rw [hx] at hv
  generalize hav : a.eval x = v at hv
  cases hv with
  | sl _ _ _ _ _ q q0 =>
    generalize hNN : N = N' at hsN
    cases hsN with
    | row b sz' n' cap cs' C e0 g1 g2 g3 g4 g5 g6 g7 g8 =>
      subst hNN
      simp only [HT.erase, AV.row.injEq, true_and] at hNe
      obtain ⟨rfl, rfl, hcs⟩ := hNe
      obtain ⟨A0, c0, rfl, q2, q3, q4, q5⟩ := q T hM b sz' n' cap cs' hN (by omega)
      obtain ⟨rfl, rfl⟩ := q5 rfl
      obtain ⟨ad, rfl, _⟩ := hVc 0 Vs[0] (List.getElem?_eq_getElem hVl0)
      have hfit : k * sz' + Vs.length ≤ cs'.length := by rw [hVl, g2, ← Nat.add_mul]; exact Nat.mul_le_mul_right _ h2
      have hcap : cs'.length ≤ C.size := by rw [g2, g4]; exact Nat.mul_le_mul_right _ g3
      have hrun : (execOp a.eval ⟨some d, .call { callee := .builtin .append, args := #[x, y], argTypes := #[t, t] }, ty, pos, after, g⟩).run E.P w = .ok (.value (.slice (some ⟨b, 0, none⟩) (k + m) c0)) (w.setCells b (k * sz') (Vs.map HT.value)) := by
        have := run_append_room_cells (P := E.P) w t ty e i t1 t2 b 0 k c0 ad m c (Vs.map HT.value) (by rw [List.length_map, hVl, t6]) (fun j u hj => by
            rw [List.getElem?_map] at hj
            cases hV : Vs[j]? with
            | none => rw [hV] at hj; cases hj
            | some V =>
              rw [hV] at hj
              simp only [Option.map_some, Option.some.injEq] at hj
              subst hj
              obtain ⟨ad', e1, e2⟩ := hVc j V hV
              cases e1; exact e2) (fun u hu => by
            obtain ⟨V, h1, rfl⟩ := List.mem_map.1 hu
            exact (hVs V h1).2) (by omega) (fun j hj => by
            have hj' : j < Vs.length := by simpa using hj
            have : k * sz' + j < C.size := by omega
            rw [t6]
            simp [World.cell?, g1, this]) (fun j hj => by simp [World.frozen?, g1])
        rw [t6, Nat.zero_add] at this
        simp [execOp, resolve, invoke, builtin, hu, hav, this, Result.andThen]
      unfold Oper.wp
      rw [hrun]
      simp only [Oper.upon]
      have hleaf : ∀ K ∈ Vs, K.isMem = false ∧ K.kids = [] := fun K hK => by
        have hk : K.erase.leafOk = true := leafCs_mem.1 hlf _ (by rw [← hVe, HT.erases_eq]; exact List.mem_map.2 ⟨K, hK, rfl⟩)
        cases K <;> simp_all [HT.isMem, HT.kids, HT.erase, AV.leafOk]
      have hL := hX.layLeaves (o := k * sz') hM hN (b := b) rfl g1 hfit hVl0 (fun K hK => (hVs K hK).1) (by rw [hVb]; simp) hleaf (by rw [hVb]; simp)
      have he : ((HT.row b sz' n' c0 cs').withKids (setL (HT.row b sz' n' c0 cs').kids (k * sz') Vs)).erase = .row true sz' n' (setL cs (k * sz') (((cs.drop (off * sz')).take (m * sz')))) := by
        rw [← hVe, ← hcs]
        simp [HT.withKids, HT.kids, HT.erase, HT.erases_eq, setL_map]
      rw [he] at hL
      have hS := hL.set hd (w' := w.setCells b (k * sz') (Vs.map HT.value)) (v := .sl r p 0 (k + m)) (u := .slice (some ⟨b, 0, none⟩) (k + m) c0) (Ext.refl _ _) ?_
      · exact ⟨_, ⟨_, _, hS⟩, hR⟩
      · refine .sl _ _ _ _ _ (fun T' hT' b1 sz1 n1 cap1 cs1 hN1 hle1 => ?_) (fun T' hT' sz1 hN1 hle1 => ?_)
        · simp only [updF, if_true, Option.some.injEq] at hT'; subst hT'
          rw [at_upd_self p hN] at hN1
          simp only [HT.withKids, Option.some.injEq, HT.row.injEq] at hN1
          obtain ⟨rfl, rfl, rfl, rfl, rfl⟩ := hN1
          exact ⟨_, _, rfl, by omega, by omega, .inr (by simp), fun _ => ⟨rfl, rfl⟩⟩
        · simp only [updF, if_true, Option.some.injEq] at hT'; subst hT'
          rw [at_upd_self p hN] at hN1
          simp [HT.withKids] at hN1
    | nilrow sz' =>
      subst hNN
      simp only [HT.erase, AV.row.injEq, true_and] at hNe
      obtain ⟨rfl, rfl, rfl⟩ := hNe
      omega
    | leaf a' v' ha _ => subst hNN; cases a' with
      | row o _ _ _ => cases o <;> simp_all [HT.erase, AV.leafOk]
      | _ => simp_all [HT.erase, AV.leafOk]
    | box => subst hNN; simp [HT.erase] at hNe
    | agg => subst hNN; simp [HT.erase] at hNe
    | tup => subst hNN; simp [HT.erase] at hNe
/-- An append of nothing. -/
theorem l_appIn0 {r k off n : Nat} {p : List Nat} {cs : List AV} (hd : d < E.nt) (hz : zOk E.P t = true) (hx : s.ev x = .sl r p 0 k) (hy : s.ev y = .sl r p off 0) (hA : nodeOf s r p = some (.row true (slSz E.P t) n cs)) (h1 : off ≤ n) (h2 : k ≤ n)
    (hR : R (s.set d (.sl r p 0 k))) :
    LJ E ⟨some d, .call { callee := .builtin .append, args := #[x, y], argTypes := #[t, t] }, ty, pos, after, g⟩ s R := by
  obtain ⟨z1, z2, z3, z4⟩ := of_zOk hz
  obtain ⟨e, i, z, t1, t2, t3, t4, t5, t6, _⟩ := zcT_spec z1
  refine LJ.of_q (v := .sl r p 0 k) (T := none) (.val rfl hd fun s' M G a w hle hX => ?_) hR
  have hvx := hX.evLe hle x
  have hvy := hX.evLe hle y
  rw [hx] at hvx
  rw [hy] at hvy
  obtain ⟨T, N, hM, hN, hNe, hsT, hsN⟩ := nodeOf_spec hX (hle.node hA)
  refine ⟨a.eval x, w, ?_, Ext.refl _ _, hvx⟩
  generalize hav : a.eval x = v at hvx
  generalize hbv : a.eval y = v' at hvy
  have f0 : ∀ A c, (Builtin.firstCells i.size 0 (.slice A 0 c)).run E.P w = .ok #[] w := fun A c => by cases A <;> simp [Builtin.firstCells, loadCells, loadCellsFrom]
  cases hvx with
  | sl _ _ _ _ _ q q0 =>
    cases hvy with
    | sl _ _ _ _ _ q' q0' =>
      cases hsN with
      | row b sz' n' cap cs' C e0 g1 g2 g3 g4 g5 g6 g7 g8 =>
        simp only [HT.erase, AV.row.injEq, true_and] at hNe
        obtain ⟨rfl, rfl, hcs⟩ := hNe
        obtain ⟨A0, c0, rfl, q2, q3, q4, q5⟩ := q T hM b _ n' cap cs' hN (by omega)
        obtain ⟨rfl, rfl⟩ := q5 rfl
        obtain ⟨A1, c1, rfl, _⟩ := q' T hM b _ n' c0 cs' hN (by omega)
        simp [execOp, resolve, invoke, builtin, hav, hbv, Builtin.append_, run_underlying t1, sizeOf, typeInfo, t2, Builtin.lenOf, f0, q2, storeCells, World.setCells, Result.andThen]
      | nilrow sz' =>
        simp only [HT.erase, AV.row.injEq, true_and] at hNe
        obtain ⟨rfl, rfl, rfl⟩ := hNe
        have e1 := q0 T hM _ hN (by omega)
        have e2 := q0' T hM _ hN (by omega)
        subst e1; subst e2
        simp [execOp, resolve, invoke, builtin, hav, hbv, Builtin.append_, run_underlying t1, sizeOf, typeInfo, t2, Builtin.lenOf, f0, storeCells, World.setCells, Result.andThen]
      | leaf a' v' ha _ => cases a' with
        | row o _ _ _ => cases o <;> simp_all [HT.erase, AV.leafOk]
        | _ => simp_all [HT.erase, AV.leafOk]
      | box => simp [HT.erase] at hNe
      | agg => simp [HT.erase] at hNe
      | tup => simp [HT.erase] at hNe
/-- 'clear' of cells of a row of one's own. -/
theorem l_clear {r off m n : Nat} {p : List Nat} {cs : List AV} (hz : zOk E.P t = true) (hx : s.ev x = .sl r p off m) (hA : nodeOf s r p = some (.row true (slSz E.P t) n cs)) (h1 : off + m ≤ n) (hm : 0 < m)
    (hR : R (s.updM r p (.row true (slSz E.P t) n (setL cs (off * slSz E.P t) ((zCells (zsN E.P t) m).map .lit))))) :
    LJ E ⟨none, .call { callee := .builtin .clear, args := #[x], argTypes := #[t] }, ty, pos, after, g⟩ s R := by
  obtain ⟨z1, z2, z3, z4⟩ := of_zOk hz
  have hone : ∀ v ∈ zsN E.P t, v.oneCell' = true := by
    unfold zOk at hz
    rw [z1] at hz
    simp only [Bool.and_eq_true, List.all_eq_true] at hz
    exact hz.2
  rw [z3] at hA hR
  generalize hszE : (zsN E.P t).length = sz at *
  rintro a w ⟨M, G, hX⟩
  obtain ⟨T, N, hM, hN, hNe, hsT, hsN⟩ := nodeOf_spec hX hA
  have hv := hX.ev x
  rw [hx] at hv
  generalize hav : a.eval x = v at hv
  cases hv with
  | sl _ _ _ _ _ q q0 =>
    generalize hNN : N = N' at hsN
    cases hsN with
    | row b sz' n' cap cs' C e0 g1 g2 g3 g4 g5 g6 g7 g8 =>
      subst hNN
      simp only [HT.erase, AV.row.injEq, true_and] at hNe
      obtain ⟨rfl, rfl, hcs⟩ := hNe
      obtain ⟨A0, c0, rfl, q2, q3, q4, q5⟩ := q T hM b sz' n' cap cs' hN h1
      have q4 : A0 = some ⟨b, off * sz', none⟩ := q4.resolve_left (by omega)
      subst q4
      let Vs : List HT := (zCells (zsN E.P t) m).map fun v => .leaf (.lit v) v
      have hVl : Vs.length = m * sz' := by simp [Vs, zCells, hszE]
      have hVv : Vs.map HT.value = zCells (zsN E.P t) m := by simp [Vs, HT.value, Function.comp_def]
      have hVe : HT.erases Vs = (zCells (zsN E.P t) m).map .lit := by simp [Vs, HT.erases_eq, HT.erase, Function.comp_def]
      have hVs : ∀ K ∈ Vs, Sat w G K ∧ K.isMem = false ∧ K.kids = [] ∧ K.blocks = [] := fun K hK => by
        obtain ⟨v, hv, rfl⟩ := List.mem_map.1 hK
        exact ⟨.leaf _ _ rfl (.lit v), rfl, rfl, rfl⟩
      have hVb : Vs.flatMap HT.blocks = [] := by rw [List.flatMap_eq_nil_iff]; exact fun K hK => (hVs K hK).2.2.2
      have hfit : off * sz' + Vs.length ≤ cs'.length := by rw [hVl, g2, ← Nat.add_mul]; exact Nat.mul_le_mul_right _ h1
      have hcap : cs'.length ≤ C.size := by rw [g2, g4]; exact Nat.mul_le_mul_right _ g3
      have hrun : (execOp a.eval ⟨none, .call { callee := .builtin .clear, args := #[x], argTypes := #[t] }, ty, pos, after, g⟩).run E.P w = .ok (.value (.tuple #[])) (w.setCells b (off * sz') (Vs.map HT.value)) := by
        have := run_clearN (P := E.P) w (t := t) (ty := ty) z1 (by omega) hone b (off * sz') m c0 hm (fun j hj => by
            have : off * sz' + j < C.size := by rw [hszE, ← hVl] at hj; omega
            simp [World.cell?, g1, this]) (fun j hj => by simp [World.frozen?, g1])
        rw [hVv]
        simp [execOp, resolve, invoke, builtin, hav, this, Result.andThen]
      unfold Oper.wp
      rw [hrun]
      simp only [Oper.upon]
      have hL := hX.layLeaves (o := off * sz') hM hN (b := b) rfl g1 hfit (by rw [hVl]; exact Nat.mul_pos hm g5) (fun K hK => (hVs K hK).1) (by rw [hVb]; simp) (fun K hK => ⟨(hVs K hK).2.1, (hVs K hK).2.2.1⟩) (by rw [hVb]; simp)
      have he : ((HT.row b sz' n' cap cs').withKids (setL (HT.row b sz' n' cap cs').kids (off * sz') Vs)).erase = .row true sz' n' (setL cs (off * sz') ((zCells (zsN E.P t) m).map .lit)) := by
        rw [← hVe, ← hcs]
        simp [HT.withKids, HT.kids, HT.erase, HT.erases_eq, setL_map]
      rw [he] at hL
      exact ⟨_, ⟨_, _, hL⟩, hR⟩
    | nilrow sz' =>
      subst hNN
      simp only [HT.erase, AV.row.injEq, true_and] at hNe
      obtain ⟨rfl, rfl, rfl⟩ := hNe
      omega
    | leaf a' v' ha _ => subst hNN; cases a' with
      | row o _ _ _ => cases o <;> simp_all [HT.erase, AV.leafOk]
      | _ => simp_all [HT.erase, AV.leafOk]
    | box => subst hNN; simp [HT.erase] at hNe
    | agg => subst hNN; simp [HT.erase] at hNe
    | tup => subst hNN; simp [HT.erase] at hNe
end
/-- slices.Delete, in plain words. -/
def delL {α : Type} (l : List α) (i j : Int) : Option (List α) := if 0 ≤ i ∧ i ≤ j ∧ j ≤ l.length then some (l.take i.toNat ++ l.drop j.toNat) else none
theorem setL_take {α : Type} {A vs : List α} {o k : Nat} (h : o ≤ A.length) (hk : k ≤ o) : (setL A o vs).take k = A.take k := by
  unfold setL
  rw [List.take_append_of_le_length (by rw [List.length_take]; omega), List.take_take, Nat.min_eq_left hk]
theorem setL_takeM {α : Type} {A vs : List α} {o : Nat} (h : o ≤ A.length) : (setL A o vs).take (o + vs.length) = A.take o ++ vs := by
  unfold setL
  rw [List.take_append, List.length_take, Nat.min_eq_left h, List.take_of_length_le (by rw [List.length_take]; omega), Nat.add_sub_cancel_left, List.take_left']
  rfl
theorem del_cells {α : Type} {enc : α → List AV} {sz : Nat} (hs : ∀ x, (enc x).length = sz) {l : List α} {i j : Nat} (hij : i ≤ j) (hj : j ≤ l.length) (Z : List AV) :
    (setL (setL (l.flatMap enc) (i * sz) (((l.flatMap enc).drop (j * sz)).take ((l.length - j) * sz))) ((i + (l.length - j)) * sz) Z).take ((i + (l.length - j)) * sz) = (l.take i ++ l.drop j).flatMap enc := by
  have hl : (l.flatMap enc).length = l.length * sz := flat_len (fun y _ => hs y)
  have hi : i * sz ≤ l.length * sz := Nat.mul_le_mul_right _ (by omega)
  have hM : ((l.flatMap enc).drop (j * sz)).take ((l.length - j) * sz) = (l.drop j).flatMap enc := by
    rw [flat_drop _ (fun y _ => hs y), flat_take _ (fun y _ => hs y), List.take_of_length_le (by simp)]
  have hMl : ((l.drop j).flatMap enc).length = (l.length - j) * sz := by rw [flat_len (fun y _ => hs y)]; simp
  have he : (i + (l.length - j)) * sz = i * sz + ((l.drop j).flatMap enc).length := by rw [hMl, Nat.add_mul]
  have hfit : i * sz + ((l.drop j).flatMap enc).length ≤ l.length * sz := by rw [← he]; exact Nat.mul_le_mul_right _ (by omega)
  rw [hM, setL_take (by rw [setL_len (by rw [hl]; exact hfit), hl, he]; exact hfit) (Nat.le_refl _), he, setL_takeM (by rw [hl]; exact hi), List.flatMap_append, flat_take _ (fun y _ => hs y)]
theorem del_cells0 {α : Type} {enc : α → List AV} {sz : Nat} (hs : ∀ x, (enc x).length = sz) {l : List α} {i : Nat} (hi : i ≤ l.length) (Z : List AV) :
    (setL (l.flatMap enc) (i * sz) Z).take (i * sz) = (l.take i ++ l.drop l.length).flatMap enc := by
  have hl : (l.flatMap enc).length = l.length * sz := flat_len (fun y _ => hs y)
  rw [setL_take (by rw [hl]; exact Nat.mul_le_mul_right _ hi) (Nat.le_refl _), flat_take _ (fun y _ => hs y)]
  simp
theorem DoesX.walkA {P : Program} {f : FuncId} {fn : Func} {c : Code} {args m m' : List AV} {res : AV} {nt : Nat} (hf : P.funcs[f]? = some fn) (hb : fn.body = some c) (hnt : fn.ntmps = nt) (hn : args.length ≤ nt) (hn1 : nt ≤ 1000) (hmm : m'.length = m.length)
    (h : ∀ (G0 X : Nat → Prop) (w0 : World) (pv : Nat → Option Value), AWP ⟨P, G0, X, w0, nt, pv⟩ c (retXK ⟨P, G0, X, w0, nt, pv⟩ fn res m') (startX args m)) : DoesX P f args m res m' :=
  DoesX.of hf hb (by omega) (by omega) hmm (fun E e1 e2 => by
    obtain ⟨P', G0, X, w0, nt', pv⟩ := E
    simp only at e1 e2
    subst e1
    rw [hnt] at e2
    subst e2
    exact h G0 X w0 pv)
/-- A drawn region whose quiet part is reckoned; what comes behind it is shown by hand. -/
theorem awp_drawn {E : Env} {id : Nat} {l : List Oper} {K : AX → ASt → Prop} {s : ASt} (hm : E.P.follows .mixedOrders = true) (T : List (List Nat)) (q : Nat) (hc : chk l T q E.nt = true)
    (h : dq E (l.map (·.dst)) T s ((l.take q).map (·.dst)) (Seq E l.toArray (l.drop q) (K .nm)) (l.take q) []) : AWP E (.region id l.toArray true) K s :=
  AWP.drawn hm T q hc (dq_sound (ops := l.toArray) h)
theorem seq_lj {E : Env} {ops : Array Oper} {o : Oper} {rest : List Oper} {k : ASt → Prop} {s : ASt} (hg : o.guard = none) (h : LJ E o s (Seq E ops rest k)) : Seq E ops (o :: rest) k s := Seq.cons hg h
theorem seq_st {E : Env} {ops : Array Oper} {o : Oper} {rest : List Oper} {k : ASt → Prop} {s : ASt} (hg : o.guard = none) (h : st1 E o (Seq E ops rest k) s) : Seq E ops (o :: rest) k s := Seq.cons hg (of_st1 h)
/-- A row that is given back cut. -/
theorem retX_cut {E : Env} {fn : Func} {res : AV} {m' : List AV} {s : ASt} {t r len sz n : Nat} {p : List Nat} {cs : List AV} (hr : fn.results = #[.tmp t]) (h : s.t t = .sl r p 0 len) (hA : nodeOf s r p = some (.row true sz n cs)) (hl : len ≤ n)
    (hres : AV.row true sz len (cs.take (len * sz)) = res) (hm : regsQ m' 1000 (s.updM r p .junk)) : RetX E fn res m' s := by
  subst hres
  intro M G a w hX
  obtain ⟨M', T, e1, e2, e3, e4, e5, e6, _⟩ := close_slN (E := E) hA hl M G a w hX (a.tmps.getD t Go.undef) (h ▸ hX.sl t)
  refine ⟨T, M', s.updM r p .junk, ?_, e3, e4, e5, fun x hx => (e6 x hx).2, e1, regsQ_ok hm⟩
  rw [results_rv, hr, e2]
  simp [rvSem]
theorem slc_iteL {α : Type} {enc : α → List AV} {l m : List α} {b : Int} (h : slc l 0 b = some m) : (if b.toNat = l.length then l.flatMap enc else m.flatMap enc) = m.flatMap enc := by
  split
  · rename_i c
    obtain ⟨_, rfl⟩ := slc_ok h
    simp [c]
  · rfl
theorem isPre0 {a b : Nat} : ([a, b].isPrefixOf [] = true ∧ ¬ [a, b] = []) = False := by simp [List.isPrefixOf]
theorem isPre1 {a b c : Nat} : ([a, b].isPrefixOf [c] = true ∧ ¬ [a, b] = [c]) = False := by simp [List.isPrefixOf]
theorem isPre2 {a b : Nat} : ([a, b].isPrefixOf [a, b] = true ∧ ¬ [a, b] = [a, b]) = False := by simp
end Go.Av
