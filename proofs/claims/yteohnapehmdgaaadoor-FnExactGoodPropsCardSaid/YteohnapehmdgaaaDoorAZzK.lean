/- Memory of the call's own: what lies there, what is written. -/
import Derived.Test.YteohnapehmdgaaaDoorAZzI
set_option linter.unusedSimpArgs false
set_option linter.unusedVariables false
/-! Memory of the call's own: what lies there, what is written. -/
namespace Go.Av

def nodeOf (s : ASt) (r : Nat) (p : List Nat) : Option AV := (s.m r).bind (·.at_ p)
def cellsOf : Option AV → List AV
  | some (.row true _ _ cs) => cs
  | some (.box true cs) => cs
  | _ => []
def memN : Option AV → Bool
  | some (.row true _ _ _) => true
  | some (.box true _) => true
  | _ => false
/-- What a cell that belongs to place 'p' of region 'r' gives to who reads it. -/
def openC (r : Nat) (p : List Nat) : AV → AV
  | .row true _ n _ => .sl r p 0 n
  | .box true _ => .ptr r p 0
  | .sl _ _ _ _ => .junk
  | .ptr _ _ _ => .junk
  | .agg _ => .junk
  | .tup _ => .junk
  | a => a
def openCs (r : Nat) (p : List Nat) : Nat → List AV → List AV
  | _, [] => []
  | o, c :: l => openC r (p ++ [o]) c :: openCs r p (o + 1) l
def setN (o : Nat) (v : AV) : Option AV → AV
  | some (.row true sz n cs) => .row true sz n (cs.set o v)
  | some (.box true cs) => .box true (cs.set o v)
  | _ => .junk

theorem nodeOf_spec {E : Env} {M : Nat → Option HT} {G : Nat → Prop} {s : ASt} {a : Act} {w : World} (hX : RelX E M G s a w) {r : Nat} {p : List Nat} {A : AV} (h : nodeOf s r p = some A) :
    ∃ T N, M r = some T ∧ T.at_ p = some N ∧ N.erase = A ∧ Sat w G T ∧ Sat w G N := by
  unfold nodeOf at h
  rw [hX.er r] at h
  cases hM : M r with
  | none => rw [hM] at h; cases h
  | some T =>
    rw [hM] at h
    obtain ⟨N, h1, h2⟩ := erase_at p (hX.sat r T hM) h
    exact ⟨T, N, rfl, h1, h2, hX.sat r T hM, (hX.sat r T hM).at_ p h1⟩

theorem Le.node {s s' : ASt} (h : Le s s') {r : Nat} {p : List Nat} {A : AV} (hn : nodeOf s r p = some A) : nodeOf s' r p = some A := by
  unfold nodeOf at *
  cases hm : s.m r with
  | none => rw [hm] at hn; cases hn
  | some T => rw [h.m r T hm]; rw [hm] at hn; exact hn

/-- A node of memory: its block, its cells. -/
theorem memN_spec {w : World} {G : Nat → Prop} {N : HT} (hs : Sat w G N) (h : memN (some N.erase) = true) :
    (∃ sz, N = .nilrow sz) ∨ ∃ b C e, N.ownb = [b] ∧ w.heap[b]? = some (.cells C e (0, 0)) ∧ cellsOf (some N.erase) = N.kids.map HT.erase ∧ N.kids.length ≤ C.size ∧ (∀ (i : Nat) (T : HT), N.kids[i]? = some T → C[i]? = some T.value) ∧ N.isMem = true ∧
      (∀ (o : Nat) (v : AV) (u : Value), o < N.kids.length → setN o v (some N.erase) = (N.withKids (N.kids.set o (.leaf v u))).erase) := by
  cases hs with
  | leaf a v ha h' =>
    exfalso
    cases a with
    | row o sz n cs => cases o <;> simp_all [HT.erase, memN, AV.leafOk]
    | box o cs => cases o <;> simp_all [HT.erase, memN, AV.leafOk]
    | _ => simp_all [HT.erase, memN]
  | row b sz n cap cs C e g1 g2 g3 g4 g5 g6 g7 g8 =>
    refine .inr ⟨b, C, e, rfl, g1, by simp [HT.erase, cellsOf, HT.kids, HT.erases_eq], ?_, g7, rfl, fun o v u ho => ?_⟩
    · simp only [HT.kids, g2, g4]; exact Nat.mul_le_mul_right _ g3
    · simp [HT.erase, setN, HT.withKids, HT.kids, HT.erases_eq, List.map_set]
  | nilrow sz => exact .inl ⟨sz, rfl⟩
  | box b cs C e g1 g2 g7 g8 =>
    refine .inr ⟨b, C, e, rfl, g1, by simp [HT.erase, cellsOf, HT.kids, HT.erases_eq], by simp only [HT.kids, g2]; exact Nat.le_refl _, g7, rfl, fun o v u ho => ?_⟩
    simp [HT.erase, setN, HT.withKids, HT.kids, HT.erases_eq, List.map_set]
  | agg => simp [HT.erase, memN] at h
  | tup => simp [HT.erase, memN] at h

/-- What a pointer into a place is. -/
theorem ptr_val {E : Env} {M : Nat → Option HT} {G : Nat → Prop} {s : ASt} {a : Act} {w : World} (hX : RelX E M G s a w) {r : Nat} {p : List Nat} {o : Nat} {v : Value} (hv : VR w G M (.ptr r p o) v) {T N : HT} (hM : M r = some T) (hN : T.at_ p = some N) {b : Nat} (hb : N.ownb = [b]) :
    v = .pointer (some ⟨b, o, none⟩) := by
  cases hv with
  | ptr _ _ _ _ h h' =>
    cases N with
    | row b' sz n cap cs => simp only [HT.ownb, List.cons.injEq, and_true] at hb; subst hb; exact h T hM _ _ _ _ _ hN
    | box b' cs => simp only [HT.ownb, List.cons.injEq, and_true] at hb; subst hb; exact h' T hM _ _ hN
    | _ => simp [HT.ownb] at hb

theorem at_snoc : ∀ (p : List Nat) {T N c : HT} {i : Nat}, T.at_ p = some N → N.kids[i]? = some c → T.at_ (p ++ [i]) = some c
  | [], T, N, c, i, h, hc => by
    simp only [HT.at_, Option.some.injEq] at h; subst h
    simp [HT.at_, hc]
  | j :: p, T, N, c, i, h, hc => by
    simp only [HT.at_, List.cons_append] at h ⊢
    split at h
    · exact at_snoc p h hc
    · cases h

/-- What is read of a cell. -/
theorem open_val {E : Env} {M : Nat → Option HT} {G : Nat → Prop} {s : ASt} {a : Act} {w : World} (hX : RelX E M G s a w) {r : Nat} {p : List Nat} {T N c : HT} {i : Nat} (hM : M r = some T) (hN : T.at_ p = some N) (hc : N.kids[i]? = some c) (hs : Sat w G c) :
    VR w G M (openC r (p ++ [i]) c.erase) c.value := by
  have hat := at_snoc p hN hc
  cases hs with
  | leaf a v ha h =>
    have hr := leafOk_noRef ha
    have : openC r (p ++ [i]) a = a := by
      cases a with
      | row o sz n cs => cases o <;> simp_all [openC, AV.leafOk]
      | box o cs => cases o <;> simp_all [openC, AV.leafOk]
      | _ => simp_all [openC, AV.leafOk]
    simp only [HT.erase, HT.value, this]
    exact h.free hr
  | row b sz n cap cs C e g1 g2 g3 g4 g5 g6 g7 g8 =>
    simp only [HT.erase, openC, HT.value]
    refine .sl _ _ _ _ _ (fun T' hT' b' sz' n' cap' cs' hN' hle => ?_) (fun T' hT' sz' hN' hle => ?_)
    · rw [hM] at hT'; cases hT'; rw [hat] at hN'; cases hN'
      exact ⟨_, _, rfl, g3, by omega, .inr (by simp), fun _ => ⟨rfl, rfl⟩⟩
    · rw [hM] at hT'; cases hT'; rw [hat] at hN'; cases hN'
  | nilrow sz =>
    simp only [HT.erase, openC, HT.value]
    refine .sl _ _ _ _ _ (fun T' hT' b' sz' n' cap' cs' hN' hle => ?_) (fun T' hT' sz' hN' hle => rfl)
    rw [hM] at hT'; cases hT'; rw [hat] at hN'; cases hN'
  | box b cs C e g1 g2 g7 g8 =>
    simp only [HT.erase, openC, HT.value]
    refine .ptr _ _ _ _ (fun T' hT' b' sz' n' cap' cs' hN' => ?_) (fun T' hT' b' cs' hN' => ?_)
    · rw [hM] at hT'; cases hT'; rw [hat] at hN'; cases hN'
    · rw [hM] at hT'; cases hT'; rw [hat] at hN'; cases hN'; rfl
  | agg => simp only [HT.erase, openC]; exact .junk _
  | tup => simp only [HT.erase, openC]; exact .junk _

section
variable {E : Env} {s : ASt} {d : Nat} {x y : Operand} {t xt : TypeId} {pos : String} {after : Array Edge} {g : Option (Nat × Bool)}

theorem q_loadOwn {r o : Nat} {p : List Nat} (hn : d < E.nt) (ht : agT E.P xt = some false) (hx : s.ev x = .ptr r p o) (hm : memN (nodeOf s r p) = true) (ho : o < (cellsOf (nodeOf s r p)).length) :
    QJ E ⟨some d, .load xt x, t, pos, after, g⟩ s (openC r (p ++ [o]) ((cellsOf (nodeOf s r p)).getD o .junk)) none :=
  .val rfl hn fun s' M G a w hle hX => by
    cases hA : nodeOf s r p with
    | none => rw [hA] at hm; cases hm
    | some A =>
      rw [hA] at hm ho
      obtain ⟨T, N, hM, hN, rfl, hsT, hsN⟩ := nodeOf_spec hX (hle.node hA)
      rcases memN_spec hsN hm with ⟨sz, rfl⟩ | ⟨b, C, e, h1, h2, h3, h4, h5, h6, _⟩
      · simp [HT.erase, cellsOf] at ho
      · rw [h3] at ho ⊢
        have hv := hX.evLe hle x
        rw [hx] at hv
        have hp := ptr_val hX hv hM hN h1
        have hok : o < N.kids.length := by simpa using ho
        have hc : N.kids[o]? = some N.kids[o] := List.getElem?_eq_getElem hok
        have hcell : w.cell? ⟨b, o, none⟩ = some N.kids[o].value := by simp [World.cell?, h2, h5 o _ hc]
        refine ⟨N.kids[o].value, w, by simp [execOp, hp, Instr.loadAt, Instr.sureAddr, loadVar, run_agg ht, hcell], Ext.refl _ _, ?_⟩
        have := open_val hX hM hN hc (hsN.kids o _ hc)
        simpa [List.getD, hok] using this

theorem q_fieldOwn {r o f n off : Nat} {gg : Bool} {p : List Nat} (hn : d < E.nt) (ht : fdT E.P xt f = some (off, n, gg)) (h0 : n ≠ 0) (hx : s.ev x = .ptr r p o) (hm : memN (nodeOf s r p) = true) (hc : (cellsOf (nodeOf s r p)).length ≠ 0) :
    QJ E ⟨some d, .fieldAddr xt x f, t, pos, after, g⟩ s (.ptr r p (o + off)) none :=
  .val rfl hn fun s' M G a w hle hX => by
    cases hA : nodeOf s r p with
    | none => rw [hA] at hm; cases hm
    | some A =>
      rw [hA] at hm hc
      obtain ⟨T, N, hM, hN, rfl, hsT, hsN⟩ := nodeOf_spec hX (hle.node hA)
      rcases memN_spec hsN hm with ⟨sz, rfl⟩ | ⟨b, C, e, h1, h2, h3, h4, h5, h6, _⟩
      · simp [HT.erase, cellsOf] at hc
      · obtain ⟨fs, z, g1, g2, g3, g4, g5⟩ := fdT_spec ht
        have hv := hX.evLe hle x
        rw [hx] at hv
        have hp := ptr_val hX hv hM hN h1
        refine ⟨.pointer (some ⟨b, o + off, none⟩), w, by simp [execOp, hp, Instr.fieldAt, Instr.sureAddr, run_underlying g1, g2, fieldPlace, run_size g4, h0, g3, add0], Ext.refl _ _, ?_⟩
        refine .ptr _ _ _ _ (fun T' hT' b' sz' n' cap' cs' hN' => ?_) (fun T' hT' b' cs' hN' => ?_)
        · rw [hM] at hT'; cases hT'; rw [hN] at hN'; cases hN'; simp only [HT.ownb, List.cons.injEq, and_true] at h1; rw [h1]
        · rw [hM] at hT'; cases hT'; rw [hN] at hN'; cases hN'; simp only [HT.ownb, List.cons.injEq, and_true] at h1; rw [h1]

/-- A row of the call's own at a place. -/
theorem sl_val {M : Nat → Option HT} {G : Nat → Prop} {s' : ASt} {a : Act} {w : World} (hX : RelX E M G s' a w) {r off len sz n : Nat} {p : List Nat} {cs : List AV} {v : Value} (hv : VR w G M (.sl r p off len) v) (hA : nodeOf s' r p = some (.row true sz n cs)) (hl : off + len ≤ n) :
    ∃ A c, v = .slice A len c ∧ (0 < len → ∃ T b cap cs', M r = some T ∧ T.at_ p = some (.row b sz n cap cs') ∧ HT.erases cs' = cs ∧ A = some ⟨b, off * sz, none⟩) := by
  obtain ⟨T, N, hM, hN, he, hsT, hsN⟩ := nodeOf_spec hX hA
  cases hv with
  | sl _ _ _ _ _ h h0 =>
    cases N with
    | row b sz' n' cap cs' =>
      simp only [HT.erase, AV.row.injEq, true_and] at he
      obtain ⟨rfl, rfl, rfl⟩ := he
      obtain ⟨A, c, h1, h2, h3, h4, h5⟩ := h T hM _ _ _ _ _ hN hl
      exact ⟨A, c, h1, fun hlen => ⟨T, b, cap, cs', hM, hN, rfl, h4.resolve_left (by omega)⟩⟩
    | nilrow sz' =>
      simp only [HT.erase, AV.row.injEq, true_and] at he
      obtain ⟨rfl, rfl, rfl⟩ := he
      have : len = 0 := by omega
      exact ⟨none, 0, by rw [h0 T hM _ hN (by omega), this], fun h => absurd h (by omega)⟩
    | leaf a' v' =>
      simp only [HT.erase] at he; subst he
      cases hsN with
      | leaf _ _ ha _ => simp [AV.leafOk] at ha
    | box => simp [HT.erase] at he
    | agg => simp [HT.erase] at he
    | tup => simp [HT.erase] at he

theorem q_indexOwn {r off len sz n : Nat} {p : List Nat} {cs : List AV} {k : IntKind} {i : Int} (hn : d < E.nt) (ht : slT E.P xt = some sz) (hx : s.ev x = .sl r p off len) (hy : s.ev y = .lit (.int k i)) (hA : nodeOf s r p = some (.row true sz n cs)) (hl : off + len ≤ n) (h : 0 ≤ i ∧ i < len) :
    QJ E ⟨some d, .indexAddr xt x y, t, pos, after, g⟩ s (.ptr r p ((off + i.toNat) * sz)) none :=
  .val rfl hn fun s' M G a w hle hX => by
    obtain ⟨e, inf, h1, h2, h3⟩ := slT_spec ht
    have hv := hX.evLe hle x
    rw [hx] at hv
    obtain ⟨A, c, hv, hrow⟩ := sl_val hX hv (hle.node hA) hl
    obtain ⟨T, b, cap, cs', hM, hN, hcs, rfl⟩ := hrow (by omega)
    refine ⟨.pointer (some ⟨b, off * sz + i.toNat * sz, none⟩), w, by simp [execOp, hv, hX.lit hle hy, Instr.indexAt, asIntOf, run_underlying h1, h.1, h.2, sizeOf, typeInfo, h2, h3, add0], Ext.refl _ _, ?_⟩
    refine .ptr _ _ _ _ (fun T' hT' b' sz' n' cap' cs'' hN' => ?_) (fun T' hT' b' cs'' hN' => ?_)
    · rw [hM] at hT'; cases hT'; rw [hN] at hN'; cases hN'; simp [Nat.add_mul]
    · rw [hM] at hT'; cases hT'; rw [hN] at hN'; cases hN'

theorem q_lenOwn {r off len sz sz' n : Nat} {p : List Nat} {cs : List AV} (hn : d < E.nt) (ht : slT E.P xt = some sz') (hx : s.ev x = .sl r p off len) (hA : nodeOf s r p = some (.row true sz n cs)) (hl : off + len ≤ n) :
    QJ E ⟨some d, .call { callee := .builtin .len, args := #[x], argTypes := #[xt] }, t, pos, after, g⟩ s (.lit (.int .i64 len)) none :=
  .val rfl hn fun s' M G a w hle hX => by
    obtain ⟨e, i, h1, h2, h3⟩ := slT_spec ht
    have hv := hX.evLe hle x
    rw [hx] at hv
    obtain ⟨A, c, hv, _⟩ := sl_val hX hv (hle.node hA) hl
    exact ⟨_, w, by simp [execOp, resolve, invoke, builtin, hv, Builtin.len_, run_underlying h1, goInt], Ext.refl _ _, .lit _⟩

/-- May it lie in one cell? -/
def stOk : AV → Bool
  | .lit v => v.oneCell'
  | .row false _ _ _ => true
  | .box false _ => true
  | .fn _ cs => AV.noRefs cs
  | _ => false
theorem stOk_val {w : World} {G : Nat → Prop} {m : Nat → Option HT} {v : AV} {u : Value} (h : stOk v = true) (hv : VR w G m v u) : u.oneCell' = true ∧ u.cells = #[u] ∧ Sat w G (.leaf v u) := by
  have hlo : v.leafOk = true ∧ v.noRef = true := by
    cases v with
    | row o sz n cs => cases o <;> simp_all [stOk, AV.leafOk, AV.noRef]
    | box o cs => cases o <;> simp_all [stOk, AV.leafOk, AV.noRef]
    | _ => simp_all [stOk, AV.leafOk, AV.noRef]
  refine ⟨?_, ?_, .leaf _ _ hlo.1 (hv.free hlo.2)⟩
  · cases hv with
    | lit => simpa [stOk] using h
    | _ => simp_all [stOk, Value.oneCell']
  · cases hv with
    | lit => cases u <;> simp_all [stOk, Value.oneCell', Value.cells]
    | row0 => simp [Value.cells]
    | row => simp [Value.cells]
    | box => simp [Value.cells]
    | fn => simp [Value.cells]
    | _ => simp [stOk] at h

theorem l_store {r o : Nat} {p : List Nat} {R : ASt → Prop} (hz : szT E.P xt = some 1) (hx : s.ev x = .ptr r p o) (hm : memN (nodeOf s r p) = true) (ho : o < (cellsOf (nodeOf s r p)).length) (hst : stOk (s.ev y) = true)
    (hR : R (s.updM r p (setN o (s.ev y) (nodeOf s r p)))) : LJ E ⟨none, .store xt x y, t, pos, after, g⟩ s R := by
  rintro a w ⟨M, G, hX⟩
  cases hA : nodeOf s r p with
  | none => rw [hA] at hm; cases hm
  | some A =>
    rw [hA] at hm ho hR
    obtain ⟨T, N, hM, hN, rfl, hsT, hsN⟩ := nodeOf_spec hX hA
    rcases memN_spec hsN hm with ⟨sz, rfl⟩ | ⟨b, C, e, h1, h2, h3, h4, h5, h6, h7⟩
    · simp [HT.erase, cellsOf] at ho
    · rw [h3] at ho
      have hok : o < N.kids.length := by simpa using ho
      have hc : N.kids[o]? = some N.kids[o] := List.getElem?_eq_getElem hok
      have hv := hX.ev x
      rw [hx] at hv
      have hp := ptr_val hX hv hM hN h1
      obtain ⟨hu1, hu2, hu3⟩ := stOk_val hst (hX.ev y)
      have hcell : w.cell? ⟨b, o, none⟩ = some N.kids[o].value := by simp [World.cell?, h2, h5 o _ hc]
      have hfr : w.frozen? ⟨b, o, none⟩ = false := by simp [World.frozen?, h2]
      have hrun : (execOp a.eval ⟨none, .store xt x y, t, pos, after, g⟩).run E.P w = .ok .skip (w.setCell ⟨b, o, none⟩ (a.eval y)) := by
        simp only [execOp, hp, Instr.storeAt, Instr.sureAddr, storeVar, hu2]
        simp only [Sem.run_bind, run_size hz, Result.andThen_ok, Sem.run_pure, storeCells, run_store _ _ _ _ _ hu1, List.size_toArray, List.length_cons, List.length_nil, add0, Nat.add_zero, hcell, hfr]
        simp [storeCells, run_store _ _ _ _ _ hu1, add0, hcell, hfr]
      unfold Oper.wp
      rw [hrun]
      simp only [Oper.upon, Act.put]
      refine ⟨_, ⟨_, G, hX.write hM hN (N' := N.withKids (N.kids.set o (.leaf (s.ev y) (a.eval y)))) ?_ ?_ ?_ ?_ ?_ ?_⟩, by rw [← h7 o (s.ev y) (a.eval y) hok]; exact hR⟩
      · cases N <;> simp [HT.ownb] at h1 <;> simp [HT.withKids, HT.value]
      · intro q M' _ hq hmem
        cases q with
        | nil => simp only [HT.at_, Option.some.injEq] at hq; subst hq; exact ⟨N, rfl, (HT.withKids_hd hc _).symm⟩
        | cons j q =>
          simp only [HT.at_, HT.withKids_kids hc, List.getElem?_set] at hq
          by_cases hjo : o = j
          · subst hjo
            simp only [if_true, hok] at hq
            exact absurd hmem (by
              cases q with
              | nil => simp only [HT.at_, Option.some.injEq] at hq; subst hq; simp [HT.isMem]
              | cons i q => simp [HT.at_, HT.kids] at hq)
          · simp only [hjo, if_false] at hq
            exact ⟨M', by simpa only [HT.at_] using hq, rfl⟩
      · have hb : b ∈ N.blocks := by rw [HT.blocks_kids, h1]; simp
        exact ⟨rfl, rfl, rfl, by simp [World.setCell], fun k hk hkb => by
          have : k ≠ b := fun e => hkb (e ▸ hb)
          simp only [World.setCell, Array.getElem?_modify]
          rw [if_neg (by simpa using this.symm)]⟩
      · -- what lies there now
        have hw : ∀ k, k ≠ b → (w.setCell ⟨b, o, none⟩ (a.eval y)).heap[k]? = w.heap[k]? := fun k hk => by
          simp only [World.setCell, Array.getElem?_modify]
          rw [if_neg (by simpa using hk.symm)]
        have hbG : ¬ G b := (hX.own r T hM b (at_blocks p hN b (by rw [HT.blocks_kids, h1]; simp))).2.1
        have hG : ∀ k, G k → (w.setCell ⟨b, o, none⟩ (a.eval y)).heap[k]? = w.heap[k]? := fun k hk => hw k (fun e => hbG (e ▸ hk))
        have hnd : N.blocks.Nodup := (hX.take hM hN).2.2.1
        rw [HT.blocks_kids, h1] at hnd
        have hbk : ∀ c ∈ N.kids, b ∉ c.blocks := fun c hc' hx => by
          simp only [List.cons_append, List.nil_append, List.nodup_cons] at hnd
          exact hnd.1 (List.mem_flatMap.2 ⟨c, hc', hx⟩)
        have hkid : ∀ i c, N.kids[i]? = some c → Sat (w.setCell ⟨b, o, none⟩ (a.eval y)) G c := fun i c hc' =>
          (hsN.kids i c hc').congr (fun k hk => hw k (fun e => hbk c (List.mem_of_getElem? hc') (e ▸ hk))) hG (fun _ h => h)
        have hleaf : Sat (w.setCell ⟨b, o, none⟩ (a.eval y)) G (.leaf (s.ev y) (a.eval y)) := hu3.congr (by simp [HT.blocks]) hG (fun _ h => h)
        have hkids : ∀ i c, (N.kids.set o (.leaf (s.ev y) (a.eval y)))[i]? = some c → Sat (w.setCell ⟨b, o, none⟩ (a.eval y)) G c ∧ (C.setIfInBounds o (a.eval y))[i]? = some c.value := fun i c hc' => by
          rw [List.getElem?_set] at hc'
          split at hc'
          · rename_i hio; subst hio
            simp only [hok, if_true, Option.some.injEq] at hc'
            subst hc'
            have hoC : o < C.size := by omega
            exact ⟨hleaf, by rw [Array.getElem?_setIfInBounds, if_pos rfl, if_pos hoC]; rfl⟩
          · rename_i hio
            exact ⟨hkid i c hc', by rw [Array.getElem?_setIfInBounds_ne hio]; exact h5 i c hc'⟩
        have hheap : (w.setCell ⟨b, o, none⟩ (a.eval y)).heap[b]? = some (.cells (C.setIfInBounds o (a.eval y)) e (0, 0)) := by
          simp [World.setCell, Array.getElem?_modify, h2]
        cases hsN with
        | row b' sz n cap cs C' e' g1 g2 g3 g4 g5 g6 g7 g8 =>
          simp only [HT.ownb, List.cons.injEq, and_true] at h1; subst h1
          rw [g1] at h2; cases h2
          exact .row _ _ _ _ _ _ _ hheap (by simpa [HT.kids] using g2) g3 (by simpa using g4) g5 g6 (fun i c hc' => (hkids i c hc').2) (fun i c hc' => (hkids i c hc').1)
        | box b' cs C' e' g1 g2 g7 g8 =>
          simp only [HT.ownb, List.cons.injEq, and_true] at h1; subst h1
          rw [g1] at h2; cases h2
          exact .box _ _ _ _ hheap (by simpa [HT.kids] using g2) (fun i c hc' => (hkids i c hc').2) (fun i c hc' => (hkids i c hc').1)
        | _ => simp [HT.ownb] at h1
      · have hnd : N.blocks.Nodup := (hX.take hM hN).2.2.1
        obtain ⟨e1, e2⟩ := flatMap_set HT.blocks N.kids o N.kids[o] (.leaf (s.ev y) (a.eval y)) hc
        rw [HT.withKids_blocks hc, e2]
        rw [HT.blocks_kids, e1] at hnd
        simp only [HT.blocks, List.nil_append]
        simp only [List.nodup_append, List.mem_append] at hnd ⊢
        obtain ⟨d1, ⟨d2, ⟨d3, d4, d5⟩, d6⟩, d7⟩ := hnd
        exact ⟨d1, ⟨d2, d4, fun x hx y hy => d6 x hx y (.inr hy)⟩, fun x hx y hy => d7 x hx y (hy.imp id .inr)⟩
      · intro z hz'
        left
        obtain ⟨e1, e2⟩ := flatMap_set HT.blocks N.kids o N.kids[o] (.leaf (s.ev y) (a.eval y)) hc
        rw [HT.withKids_blocks hc, e2] at hz'
        rw [HT.blocks_kids, e1]
        simp only [HT.blocks, List.nil_append, List.mem_append] at hz' ⊢
        rcases hz' with h | h | h
        · exact .inl h
        · exact .inr (.inl h)
        · exact .inr (.inr (.inr h))
end

end Go.Av
