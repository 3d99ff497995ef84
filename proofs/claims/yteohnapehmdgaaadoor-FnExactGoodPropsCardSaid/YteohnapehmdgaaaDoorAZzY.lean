/- Rows written out; slices of slices; regions called anew. -/
import Derived.Test.YteohnapehmdgaaaDoorAZzX
set_option linter.unusedSimpArgs false
set_option linter.unusedVariables false
/-! Rows written out; slices of slices; regions called anew. -/
namespace Go.Av
theorem setL_at {α : Type} (pre rest vs : List α) (h : vs.length ≤ rest.length) : setL (pre ++ rest) pre.length vs = pre ++ vs ++ rest.drop vs.length := by
  simp [setL, List.take_append, List.drop_append]
theorem fill_row (sz : Nat) : ∀ (vss : List (List Value)) (k : Nat) (pre rest : List Value), pre.length = k * sz → rest.length = vss.length * sz → (∀ v ∈ vss, v.length = sz) →
    fillL (fun i => some (i * sz, sz)) (pre ++ rest) ((List.range' k vss.length).zip vss) = some (pre ++ vss.flatten)
  | [], k, pre, rest, h1, h2, _ => by
    have : rest = [] := List.eq_nil_of_length_eq_zero (by simpa using h2)
    simp [fillL, this]
  | v :: vss, k, pre, rest, h1, h2, h3 => by
    have hv : v.length = sz := h3 v (by simp)
    have hr : v.length ≤ rest.length := by rw [h2, hv, List.length_cons, Nat.add_mul]; omega
    simp only [List.length_cons, List.range'_succ, List.zip_cons_cons, fillL]
    rw [if_pos ⟨hv, by rw [List.length_append, h1]; omega⟩, ← h1, setL_at pre rest v hr]
    have := fill_row sz vss (k + 1) (pre ++ v) (rest.drop v.length) (by rw [List.length_append, h1, hv, Nat.add_mul]; omega) (by rw [List.length_drop, h2, hv, List.length_cons, Nat.add_mul]; omega) (fun u hu => h3 u (by simp [hu]))
    rw [this]
    simp

def bsOk (s : ASt) (sz : Nat) : Nat → List (Nat × Operand) → Prop
  | _, [] => True
  | k, (i, x) :: l => (i = k ∧ cellOk s (s.ev x) ∧ (s.ev x).parts.length = sz) ∧ bsOk s sz (k + 1) l
def bsA (s : ASt) : List (Nat × Operand) → List AV
  | [] => []
  | (i, x) :: l => (s.ev x).parts ++ bsA s l
section
variable {E : Env} {s s1 : ASt} {d : Nat} {x y : Operand} {t ty xt : TypeId} {pos : String} {after : Array Edge} {g : Option (Nat × Bool)} {R : ASt → Prop}
theorem bs_spec {M : Nat → Option HT} {G : Nat → Prop} {a : Act} {w : World} (hX : RelX E M G s a w) (sz : Nat) : ∀ (k : Nat) (l : List (Nat × Operand)), bsOk s sz k l →
    ∃ vss : List (List Value), vss.length = l.length ∧ (l.map fun p => (p.1, (a.eval p.2).cells.toList)) = (List.range' k l.length).zip vss ∧ (∀ v ∈ vss, v.length = sz) ∧ VRs w G M (bsA s l) vss.flatten
  | k, [], _ => ⟨[], rfl, rfl, by simp, ⟨rfl, fun i a u h => by simp [bsA] at h⟩⟩
  | k, (i, x) :: l, h => by
    obtain ⟨⟨rfl, h1, h2⟩, h3⟩ := h
    obtain ⟨vss, k1, k2, k3, k4⟩ := bs_spec hX sz (i + 1) l h3
    have hv := cells_val hX (hX.ev x) h1
    refine ⟨(a.eval x).cells.toList :: vss, by simp [k1], ?_, fun v hv' => ?_, ?_⟩
    · simp only [List.map_cons, List.length_cons, List.range'_succ, List.zip_cons_cons, k2]
    · rcases List.mem_cons.1 hv' with rfl | hv'
      · rw [hv.1, h2]
      · exact k3 v hv'
    · simp only [bsA, List.flatten_cons]
      refine ⟨by rw [List.length_append, List.length_append, hv.1, k4.1], fun j b u e1 e2 => ?_⟩
      by_cases hj : j < (s.ev x).parts.length
      · rw [List.getElem?_append_left hj] at e1
        rw [List.getElem?_append_left (by rw [hv.1]; exact hj)] at e2
        exact hv.2 j b u e1 e2
      · rw [List.getElem?_append_right (by omega)] at e1
        rw [List.getElem?_append_right (by rw [hv.1]; omega), hv.1] at e2
        exact k4.2 _ b u e1 e2
theorem bsA_len (sz : Nat) : ∀ (k : Nat) (l : List (Nat × Operand)), bsOk s sz k l → (bsA s l).length = l.length * sz
  | k, [], _ => by simp [bsA]
  | k, (i, x) :: l, h => by
    obtain ⟨⟨rfl, h1, h2⟩, h3⟩ := h
    simp only [bsA, List.length_append, h2, bsA_len sz (i + 1) l h3, List.length_cons, Nat.add_mul]
    omega
theorem zc_zero {zs : List Value} {by_ : Nat} (h : zcT E.P t = some (zs, by_)) : ∃ e z, E.P.underlying t = some (.slice e) ∧ (∀ w, (sizeOf e).run E.P w = .ok zs.length w) ∧ (∀ w, (zeroValue e).run E.P w = .ok z w) ∧ z.cells.toList = zs := by
  obtain ⟨e, i, z, ht, hi, hzz, h5, h6, h7, _⟩ := zcT_spec h
  exact ⟨e, z, ht, fun w => by simp [sizeOf, typeInfo, hi, h7], fun w => by simp [zeroValue, typeInfo, hi, hzz], h5⟩
theorem l_buildSlice {parts : List (Nat × Operand)} {zs : List Value} {by_ : Nat} {As0 As : List AV} (hN : NilLes As0 As) (hd : d < E.nt) (hz : zcT E.P xt = some (zs, by_)) (hz0 : 0 < zs.length) (hb : bsOk s zs.length 0 parts) (hl : parts.length * zs.length ≤ 16777216)
    (hc : closeVs s (bsA s parts) = some (As0, s1)) (hR : R (s1.new d (.sl d [] 0 parts.length) (.row true zs.length parts.length As))) :
    LJ E ⟨some d, .buildSlice xt parts.length parts.toArray, t, pos, after, g⟩ s R := by
  rintro a w ⟨M, G, hX⟩
  obtain ⟨vss, k1, k2, k3, k4⟩ := bs_spec hX zs.length 0 parts hb
  have hlen := bsA_len zs.length 0 parts hb
  obtain ⟨M1, Ts0, h1, h2, h3, h4, h5, h6, h7, h8⟩ := closeVs_spec (E := E) _ hc M G a w hX vss.flatten k4.1 k4.2
  obtain ⟨Ts, f1, f2, f3, f4⟩ := nilUps Ts0 As (fun K hK => by obtain ⟨i, hi⟩ := List.getElem?_of_mem hK; exact h4 i K hi) (by rw [h3]; exact hN)
  rw [← f2] at h2
  rw [← f3] at h5 h6
  have h4 : ∀ (i : Nat) (T : HT), Ts[i]? = some T → Sat w G T := fun i T hi => f4 T (List.mem_of_getElem? hi)
  subst f1
  obtain ⟨e, z, ht, hsz, hzv, hzc⟩ := zc_zero hz
  have hmax : parts.length ≤ 16777216 := by
    have := Nat.le_mul_of_pos_right parts.length hz0
    omega
  have hTl : Ts.length = parts.length * zs.length := by
    have := congrArg List.length h2
    rw [HT.values_eq, List.length_map, k4.1, hlen] at this
    exact this
  obtain ⟨C, c1, c2⟩ : ∃ C, Instr.fill (fun i => some (i * zs.length, zs.length)) ((Array.range (parts.length * zs.length)).map fun x => (if parts.length * zs.length = 0 then #[] else z.cells)[x % (if parts.length * zs.length = 0 then #[] else z.cells).size]!) (parts.map fun p => (p.1, a.eval p.2)) = some C ∧ C.toList = HT.values Ts := by
    refine fill_L _ _ _ _ ?_
    have := fill_row zs.length vss 0 [] ((Array.range (parts.length * zs.length)).map fun x => (if parts.length * zs.length = 0 then #[] else z.cells)[x % (if parts.length * zs.length = 0 then #[] else z.cells).size]!).toList (by simp) (by simp [k1]) k3
    simp only [List.nil_append, k1] at this
    rw [List.map_map]
    have e2 : ((fun p : Nat × Value => (p.1, p.2.cells.toList)) ∘ fun p : Nat × Operand => (p.1, a.eval p.2)) = fun p => (p.1, (a.eval p.2).cells.toList) := rfl
    rw [e2, k2, this, h2]
  have hrun : (execOp a.eval ⟨some d, .buildSlice xt parts.length parts.toArray, t, pos, after, g⟩).run E.P w = .ok (.value (.slice (some ⟨w.heap.size, 0, none⟩) parts.length parts.length)) (w.alloc (.cells C e)) := by
    have hn : ¬ (16777216 < parts.length * zs.length) := by omega
    by_cases h0 : parts.length * zs.length = 0
    · simp only [h0, if_true] at c1
      simp [execOp, Instr.buildSlice, run_underlying ht, hsz, hn, h0, hzv, newRow]
      simp at c1
      simp [c1]
    · simp only [h0, if_false] at c1
      simp [execOp, Instr.buildSlice, run_underlying ht, hsz, hn, h0, hzv, newRow]
      simp [c1]
  unfold Oper.wp
  rw [hrun]
  simp only [Oper.upon]
  have hmem : ∀ K ∈ Ts, Sat w G K := fun K hK => by
    obtain ⟨i, hi⟩ := List.getElem?_of_mem hK
    exact h4 i K hi
  have := h1.newRow hd e (Ts := Ts) zs.length parts.length parts.length C hz0 hTl (Nat.le_refl _) (by omega) (by
    have := congrArg List.length c2
    rw [HT.values_eq, List.length_map, Array.length_toList, hTl] at this
    exact this) (fun i K hi => by
      rw [← Array.getElem?_toList, c2, HT.values_eq, List.getElem?_map, hi]; rfl) hmem (by rw [← HT.blockss_eq]; exact h5) (fun b hb => by
      rw [← HT.blockss_eq] at hb
      exact (h6 b hb).2)
  exact ⟨_, ⟨_, G, this⟩, hR⟩

/-! ### a region's new name -/
def ASt.ren (s : ASt) (r d : Nat) (v : AV) : ASt := ⟨fun i => if i = d then v else (s.t i).mapRef (renF r d), fun q => if q = d then s.m r else if q = r then none else s.m q⟩
theorem RelX.ren {M : Nat → Option HT} {G : Nat → Prop} {a : Act} {w : World} (hX : RelX E M G s a w) (hd : d < E.nt) {r : Nat} (hr : r < 1000) (hrd : r ≠ d) {v v' : AV} {u : Value} (hv : VR w G M v u) (hv' : v.mapRef (renF r d) = v') :
    RelX E (fun q => if q = d then M r else if q = r then none else M q) G (s.ren r d v') (a.put (some d) u) w := by
  have key : ∀ q T, (if q = d then M r else if q = r then none else M q) = some T → ∃ q', M q' = some T ∧ (q = d ∧ q' = r ∨ q ≠ d ∧ q ≠ r ∧ q' = q) := fun q T h => by
    split at h
    · exact ⟨r, h, .inl ⟨by assumption, rfl⟩⟩
    · split at h
      · cases h
      · exact ⟨q, h, .inr ⟨by assumption, by assumption, rfl⟩⟩
  have hmap : ∀ {v : AV} {u : Value}, VR w G M v u → VR w G (fun q => if q = d then M r else if q = r then none else M q) (v.mapRef (renF r d)) u := fun h => h.mapRef (fun r0 p0 r' p' hf T' N' hT' hN' hm => by
    simp only [renF] at hf
    split at hf
    · simp only [Option.some.injEq, Prod.mk.injEq] at hf
      obtain ⟨rfl, rfl⟩ := hf
      simp only [if_true] at hT'
      rename_i e; subst e
      exact ⟨T', N', hT', hN', rfl⟩
    · split at hf
      · cases hf
      · simp only [Option.some.injEq, Prod.mk.injEq] at hf
        obtain ⟨rfl, rfl⟩ := hf
        rename_i e1 e2
        simp only [e1, e2, if_false] at hT'
        exact ⟨T', N', hT', hN', rfl⟩)
  have hn := hX.n1
  refine ⟨fun q => ?_, fun q T h => ?_, fun q T h => ?_, fun q q' T T' hq h h' x hx hx' => ?_, fun q T h x hx => ?_, hX.gd, hX.g0, fun i => ?_, hX.ext, hX.df, by simp [put_some, hX.nt], hX.n1, fun q v hv => ?_⟩
  · simp only [ASt.ren]
    split
    · exact hX.er r
    · split
      · rfl
      · exact hX.er q
  · obtain ⟨q', h1, _⟩ := key q T h; exact hX.sat q' T h1
  · obtain ⟨q', h1, _⟩ := key q T h; exact hX.nd q' T h1
  · obtain ⟨q1, h1, e1⟩ := key q T h
    obtain ⟨q2, h2, e2⟩ := key q' T' h'
    exact hX.dj q1 q2 T T' (by omega) h1 h2 x hx hx'
  · obtain ⟨q', h1, _⟩ := key q T h; exact hX.own q' T h1 x hx
  · rw [put_getD a d i u (by rw [hX.nt]; exact hd)]
    simp only [ASt.ren]
    split
    · subst hv'; exact hmap hv
    · exact hmap (hX.sl i)
  · obtain ⟨h1, T, h2, h3⟩ := hX.pv q v hv
    exact ⟨h1, T, by rw [if_neg (by omega), if_neg (by omega)]; exact h2, h3⟩
/-- A slice comes into a variable: its region is called after that. -/
theorem l_assignRen {r off len : Nat} (hd : d < E.nt) (hx : s.ev x = .sl r [] off len) (hr : r < 1000) (hrd : r ≠ d) (hR : R (s.ren r d (.sl d [] off len))) : LJ E ⟨some d, .assign x, t, pos, after, g⟩ s R := by
  rintro a w ⟨M, G, hX⟩
  unfold Oper.wp
  simp only [execOp, Sem.run_pure, Oper.upon]
  exact ⟨_, ⟨_, G, hX.ren hd hr hrd (hX.ev x) (by rw [hx]; simp [AV.mapRef, renF])⟩, hR⟩
/-- Nothing comes into a variable that is a slice: a row of its own, empty. -/
theorem l_assignNil {sz : Nat} (hd : d < E.nt) (hx : s.ev x = .lit (.slice none 0 0)) (hR : R (s.new d (.sl d [] 0 0) (.row true sz 0 []))) : LJ E ⟨some d, .assign x, t, pos, after, g⟩ s R := by
  rintro a w ⟨M, G, hX⟩
  have hv := hX.ev x
  rw [hx] at hv
  have hv := hv.litv
  unfold Oper.wp
  simp only [execOp, Sem.run_pure, Oper.upon, hv]
  have := hX.new2 (T := .nilrow sz) (v := .sl d [] 0 0) (u := .slice none 0 0) hd (w' := w) ⟨rfl, rfl, rfl, Nat.le_refl _, fun _ _ _ => rfl⟩ (.nilrow _) (by simp [HT.blocks]) (by simp [HT.blocks])
      ((Sat.nilrow (w := w) (G := G) sz).opened (M := updF M d (some (.nilrow sz))) (r := d) (T0 := .nilrow sz) (by simp [updF]) (p := []) rfl)
  exact ⟨_, ⟨_, G, this⟩, hR⟩
end

/-- A new row that holds leaves alone; nil slices in it are rows of no element. -/
theorem new_rowN {E : Env} {M : Nat → Option HT} {G : Nat → Prop} {s' : ASt} {a : Act} {w : World} {d : Nat} (hX : RelX E M G s' a w) (e : TypeId) (sz n : Nat) (hsz : 0 < sz) (hmax : n ≤ 9223372036854775807) (vs As : List AV) (us : List Value) (hl : us.length = vs.length) (hn : vs.length = n * sz) (hN : NilLes vs As)
    (h : ∀ (i : Nat) (v : AV) (u : Value), vs[i]? = some v → us[i]? = some u → Sat w G (.leaf v u)) :
    ∃ T : HT, T.erase = .row true sz n As ∧ Sat (w.alloc (.cells us.toArray e)) G T ∧ T.blocks.Nodup ∧ (∀ x ∈ T.blocks, w.heap.size ≤ x ∧ x < (w.alloc (.cells us.toArray e)).heap.size ∧ ¬ G x) ∧ T.value = .slice (some ⟨w.heap.size, 0, none⟩) n n ∧
      VR (w.alloc (.cells us.toArray e)) G (updF M d (some T)) (.sl d [] 0 n) (.slice (some ⟨w.heap.size, 0, none⟩) n n) := by
  obtain ⟨Ks0, h1, h2, h3, h4, h5⟩ := leaves vs us hl h
  have hs : ∀ K ∈ Ks0, Sat w G K := fun K hK => by obtain ⟨i, hi⟩ := List.mem_iff_getElem?.1 hK; exact (h5 i K hi).1
  obtain ⟨Ks, f1, f2, f3, f4⟩ := nilUps Ks0 As hs (by rw [h2]; exact hN)
  have fb : ∀ K ∈ Ks, ∀ b ∈ K.blocks, False := fun K hK b hb => by
    have : b ∈ HT.blockss Ks := by rw [HT.blockss_eq]; exact List.mem_flatMap.2 ⟨K, hK, hb⟩
    rw [f3, h3] at this; cases this
  have fl : Ks.length = us.length := by
    have e : (HT.values Ks).length = (HT.values Ks0).length := by rw [f2]
    rw [HT.values_eq, HT.values_eq, List.length_map, List.length_map] at e
    rw [e, h4, hl]
  have fv : ∀ (i : Nat) (K : HT), Ks[i]? = some K → us[i]? = some K.value := fun i K hK => by
    have e : (HT.values Ks)[i]? = (HT.values Ks0)[i]? := by rw [f2]
    rw [HT.values_eq, HT.values_eq, List.getElem?_map, List.getElem?_map, hK] at e
    cases h0 : Ks0[i]? with
    | none => rw [h0] at e; simp at e
    | some K0 => rw [h0] at e; simp at e; rw [e]; exact (h5 i K0 h0).2
  refine ⟨.row w.heap.size sz n n Ks, by simp [HT.erase, f1], ?_, by simp [HT.blocks, f3, h3], fun x hx => ?_, rfl, ?_⟩
  · have hG : ∀ b, G b → (w.alloc (.cells us.toArray e)).heap[b]? = w.heap[b]? := fun b hb => (alloc_ext w _).block b (hX.gd b hb).1 (fun h => h)
    refine .row _ _ _ _ _ us.toArray e (alloc_new w _) (by rw [fl, hl, hn]) (Nat.le_refl _) (by simp [hl, hn]) hsz hmax (fun i K hK => by simpa using fv i K hK) (fun i K hK => (f4 K (List.mem_of_getElem? hK)).congr (fun b hb => (fb K (List.mem_of_getElem? hK) b hb).elim) hG (fun _ h => h))
  · simp only [HT.blocks, f3, h3, List.mem_singleton] at hx
    subst hx
    exact ⟨Nat.le_refl _, by simp, fun hg => Nat.lt_irrefl _ (hX.gd _ hg).1⟩
  · refine .sl _ _ _ _ _ (fun T' hT' b' sz' n' cap' cs' hN' hle => ?_) (fun T' hT' sz' hN' hle => ?_)
    · simp only [updF, if_true, Option.some.injEq] at hT'; subst hT'
      simp only [HT.at_, Option.some.injEq, HT.row.injEq] at hN'
      obtain ⟨rfl, rfl, rfl, rfl, rfl⟩ := hN'
      exact ⟨_, _, rfl, Nat.le_refl _, by omega, .inr (by simp), fun _ => ⟨rfl, rfl⟩⟩
    · simp only [updF, if_true, Option.some.injEq] at hT'; subst hT'
      simp [HT.at_] at hN'
section
variable {E : Env} {s : ASt} {d : Nat} {x y : Operand} {t xt : TypeId} {pos : String} {after : Array Edge} {g : Option (Nat × Bool)}
theorem q_makeN {k k' : IntKind} {n : Nat} {zs : List Value} {by_ : Nat} {As : List AV} (hN : NilLes ((zCells zs n).map .lit) As) (hn : d < E.nt) (ht : zcT E.P xt = some (zs, by_)) (hx : s.ev x = .lit (.int k n)) (hy : s.ev y = .lit (.int k' n)) (hz : 0 < zs.length) (hb : by_ * n ≤ 281474976710656) (hm : n ≤ 9223372036854775807) :
    QJ E ⟨some d, .makeSlice xt x y, t, pos, after, g⟩ s (.sl d [] 0 n) (some (.row true zs.length n As)) :=
  .mem rfl hn fun s' M G a w hle hX => by
    obtain ⟨e, i, z, h1, h2, h3, h4, h5, h6, _⟩ := zcT_spec ht
    have h7 : ((by_ * n : Nat) : Int) ≤ 281474976710656 := by omega
    rw [Int.natCast_mul] at h7
    have hrun := run_make (P := E.P) w xt e i z h1 h2 h3 k k' (n : Int) (n : Int) (by omega) (by omega) (by rw [h5]; exact h7) (by omega)
    have hsize : z.cells.size = zs.length := by rw [← h4]; simp
    have hcells : madeCells z.cells (n * i.size) = (zCells zs n).toArray := by
      simp only [madeCells, zCells, h6]
      apply Array.ext'
      simp only [Array.toList_map, Array.toList_range]
      apply List.map_congr_left
      intro j hj
      have hlt : j % z.cells.size < z.cells.size := Nat.mod_lt _ (by omega)
      subst h4
      simp only [Array.length_toList, List.getD_eq_getElem?_getD, Array.getElem?_toList]
      rw [getElem!_pos z.cells _ hlt, Array.getElem?_eq_getElem hlt]
      rfl
    simp only [Int.toNat_natCast] at hrun
    rw [hcells] at hrun
    obtain ⟨T, g1, g2, g3, g4, g5, g6⟩ := new_rowN (d := d) hX e zs.length n hz hm ((zCells zs n).map .lit) As (zCells zs n) (by simp) (by simp [zCells]) hN (fun j v u hv hu => by
      rw [List.getElem?_map, hu] at hv
      simp only [Option.map_some, Option.some.injEq] at hv
      subst hv
      exact .leaf _ _ rfl (.lit _))
    exact ⟨_, _, G, T, by simp [execOp, hX.lit hle hx, hX.lit hle hy, hrun], alloc_ext _ _, fun _ h => h, fun _ h => .inl h, g1, g2, g3, g4, g6⟩
end
end Go.Av
