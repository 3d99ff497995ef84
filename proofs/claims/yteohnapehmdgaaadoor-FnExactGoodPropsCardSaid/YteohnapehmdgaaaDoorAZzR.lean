/- What a call gives stays the caller's own. -/
import Derived.Test.YteohnapehmdgaaaDoorAZzP
set_option linter.unusedSimpArgs false
set_option linter.unusedVariables false
/-! What a call gives stays the caller's own. -/
namespace Go.Av
mutual
/-- A tree that lies at place 'p' of region 'r', as a slot holds it. -/
def openV (r : Nat) (p : List Nat) : AV → AV
  | .agg cs => .agg (openVs r p 0 cs)
  | .tup cs => .tup (openVs r p 0 cs)
  | .row true _ n _ => .sl r p 0 n
  | .box true _ => .ptr r p 0
  | .sl _ _ _ _ => .junk
  | .ptr _ _ _ => .junk
  | a => a
def openVs (r : Nat) (p : List Nat) : Nat → List AV → List AV
  | _, [] => []
  | o, c :: l => openV r (p ++ [o]) c :: openVs r p (o + 1) l
end
theorem openVs_get (r : Nat) (p : List Nat) : ∀ (o : Nat) (cs : List AV) (i : Nat), (openVs r p o cs)[i]? = (cs[i]?).map (openV r (p ++ [o + i]))
  | o, [], i => by simp [openVs]
  | o, c :: l, 0 => by simp [openVs]
  | o, c :: l, i + 1 => by
    simp only [openVs, List.getElem?_cons_succ]
    rw [openVs_get r p (o + 1) l i, show o + 1 + i = o + (i + 1) by omega]
theorem openVs_len (r : Nat) (p : List Nat) : ∀ (o : Nat) (cs : List AV), (openVs r p o cs).length = cs.length
  | o, [] => rfl
  | o, c :: l => by simp [openVs, openVs_len r p (o + 1) l]

theorem Sat.opened {w : World} {G : Nat → Prop} {M : Nat → Option HT} {r : Nat} {T0 T : HT} (hs : Sat w G T) : ∀ {p : List Nat}, M r = some T0 → T0.at_ p = some T → VR w G M (openV r p T.erase) T.value := by
  induction hs with
  | leaf a v ha h =>
    intro p hM hat
    have hr := leafOk_noRef ha
    have : openV r p a = a := by
      cases a with
      | row o sz n cs => cases o <;> simp_all [openV, AV.leafOk]
      | box o cs => cases o <;> simp_all [openV, AV.leafOk]
      | _ => simp_all [openV, AV.leafOk]
    simp only [HT.erase, HT.value, this]
    exact h.free hr
  | row b sz n cap cs C e g1 g2 g3 g4 g5 g6 g7 g8 =>
    intro p hM hat
    simp only [HT.erase, openV, HT.value]
    refine .sl _ _ _ _ _ (fun T' hT' b' sz' n' cap' cs' hN' hle => ?_) (fun T' hT' sz' hN' hle => ?_)
    · rw [hM] at hT'; cases hT'; rw [hat] at hN'; cases hN'
      exact ⟨_, _, rfl, g3, by omega, .inr (by simp), fun _ => ⟨rfl, rfl⟩⟩
    · rw [hM] at hT'; cases hT'; rw [hat] at hN'; cases hN'
  | nilrow sz =>
    intro p hM hat
    simp only [HT.erase, openV, HT.value]
    refine .sl _ _ _ _ _ (fun T' hT' b' sz' n' cap' cs' hN' hle => ?_) (fun T' hT' sz' hN' hle => rfl)
    rw [hM] at hT'; cases hT'; rw [hat] at hN'; cases hN'
  | box b cs C e g1 g2 g7 g8 =>
    intro p hM hat
    simp only [HT.erase, openV, HT.value]
    refine .ptr _ _ _ _ (fun T' hT' b' sz' n' cap' cs' hN' => ?_) (fun T' hT' b' cs' hN' => ?_)
    · rw [hM] at hT'; cases hT'; rw [hat] at hN'; cases hN'
    · rw [hM] at hT'; cases hT'; rw [hat] at hN'; cases hN'; rfl
  | agg cs h ih =>
    intro p hM hat
    simp only [HT.erase, openV, HT.value, HT.erases_eq, HT.values_eq]
    refine .agg _ _ (by rw [openVs_len]; simp) (fun i a u h1 h2 => ?_)
    rw [openVs_get, List.getElem?_map] at h1
    rw [List.getElem?_map] at h2
    cases hc : cs[i]? with
    | none => rw [hc] at h2; cases h2
    | some c =>
      rw [hc] at h1 h2
      simp only [Option.map_some, Option.some.injEq, Nat.zero_add] at h1 h2
      subst h1; subst h2
      exact ih i c hc hM (at_snoc p hat hc)
  | tup cs h ih =>
    intro p hM hat
    simp only [HT.erase, openV, HT.value, HT.erases_eq, HT.values_eq]
    refine .tup _ _ (by rw [openVs_len]; simp) (fun i a u h1 h2 => ?_)
    rw [openVs_get, List.getElem?_map] at h1
    rw [List.getElem?_map] at h2
    cases hc : cs[i]? with
    | none => rw [hc] at h2; cases h2
    | some c =>
      rw [hc] at h1 h2
      simp only [Option.map_some, Option.some.injEq, Nat.zero_add] at h1 h2
      subst h1; subst h2
      exact ih i c hc hM (at_snoc p hat hc)

section
variable {E : Env} {s : ASt} {d : Nat} {x y : Operand} {t xt : TypeId} {pos : String} {after : Array Edge} {g : Option (Nat × Bool)}
/-- A call whose result stays the caller's own. -/
theorem q_callOwn {fo : Operand} {f : FuncId} {caps : List AV} {xs : List Operand} {ts : Array TypeId} {as : List AV} {res : AV} (hn : d < E.nt) (hf : s.ev fo = .fn f caps) (he : entB E.P f = true) (ha : xs.map s.ev ++ caps = as) (hr : AV.noRefs as = true)
    (hd : Does E.P f as res) : QJ E ⟨some d, .call { callee := .value fo, args := xs.toArray, argTypes := ts }, t, pos, after, g⟩ s (openV d [] res) (some res) := by
  rintro s' hle a w ⟨M, G, hX⟩
  have hcl : ∀ l1 l2 : List AV, AV.noRefs (l1 ++ l2) = true → AV.noRefs l1 = true ∧ AV.noRefs l2 = true := fun l1 l2 h => by
    rw [AV.noRefs_mem] at h; exact ⟨AV.noRefs_mem.2 fun a ha => h a (by simp [ha]), AV.noRefs_mem.2 fun a ha => h a (by simp [ha])⟩
  obtain ⟨hr1, hr2⟩ := hcl _ _ (by rw [ha]; exact hr)
  obtain ⟨hl, hv⟩ := args_vr hX hle xs _ rfl hr1
  have hfv := hX.evLe hle fo
  rw [hf] at hfv
  generalize hfe : a.eval fo = fv at hfv
  cases hfv with
  | fn _ _ us hul huv =>
    have hrun : (execOp a.eval ⟨some d, .call { callee := .value fo, args := xs.toArray, argTypes := ts }, t, pos, after, g⟩).run E.P w = .ok (.enter f (xs.map a.eval ++ us).toArray) w := by
      simp [execOp, resolve, hfe, Deferred.ofValue, invoke, callFunc_of he]
    unfold Oper.wp
    rw [hrun]
    simp only [Oper.upon]
    refine (hd w G (xs.map a.eval ++ us) (fun x hx => (hX.gd x hx).1) (by rw [← ha]; simp [hul]) (fun i A v h1 h2 => ?_)).mono ?_
    · rw [← ha] at h1
      by_cases hi : i < (xs.map s.ev).length
      · rw [List.getElem?_append_left hi] at h1
        rw [List.getElem?_append_left (by simpa using hi)] at h2
        exact hv i A v h1 h2
      · rw [List.getElem?_append_right (by omega)] at h1
        rw [List.getElem?_append_right (by simpa using hi)] at h2
        simp only [List.length_map] at h1 h2
        exact (huv _ A v h1 h2).free (AV.noRefs_mem.1 hr2 A (List.mem_of_getElem? h1))
    · rintro e w' ⟨T, rfl, rfl, hw, hnd, hb, G', hGG, hG', hnG, hT⟩
      simp only [put]
      exact ⟨_, G', hX.new hn hw hGG hG' hT hnd (fun x hx => ⟨(hb x hx).1, (hb x hx).2, hnG x hx⟩) (hT.opened (M := updF M d (some T)) (T0 := T) (by simp [updF]) rfl)⟩
end
mutual
/-- A value, with the call's own memory behind it as memory that is only read. -/
def borrowV (s : ASt) : AV → Option AV
  | .lit v => some (.lit v)
  | .row false sz n cs => some (.row false sz n cs)
  | .box false cs => some (.box false cs)
  | .fn f cs => match borrowVs s cs with
    | some As => some (.fn f As)
    | none => none
  | .sl r p off len => match nodeOf s r p with
    | some (.row true sz n cs) => if off = 0 ∧ len = n then some (.row false sz n (AV.shares cs)) else none
    | _ => none
  | .ptr r p o => match nodeOf s r p with
    | some (.box true cs) => if o = 0 then some (.box false (AV.shares cs)) else none
    | _ => none
  | .agg cs => match borrowVs s cs with
    | some As => some (.agg As)
    | none => none
  | .tup cs => match borrowVs s cs with
    | some As => some (.tup As)
    | none => none
  | _ => none
def borrowVs (s : ASt) : List AV → Option (List AV)
  | [] => some []
  | v :: vs => match borrowV s v with
    | some A => match borrowVs s vs with
      | some As => some (A :: As)
      | none => none
    | none => none
end

/-- All memory of the call's own. -/
def Mine (M : Nat → Option HT) (x : Nat) : Prop := ∃ r T, M r = some T ∧ x ∈ T.blocks

theorem borrow_sl {E : Env} {M : Nat → Option HT} {G : Nat → Prop} {s : ASt} {a : Act} {w : World} (hX : RelX E M G s a w) {r n sz : Nat} {p : List Nat} {cs : List AV} {u : Value} (hv : VR w G M (.sl r p 0 n) u) (hA : nodeOf s r p = some (.row true sz n cs)) :
    VR w (fun x => G x ∨ Mine M x) none_ (.row false sz n (AV.shares cs)) u ∧ (AV.row false sz n (AV.shares cs)).noRef = true := by
  obtain ⟨T, N, hM, hN, he, hsT, hsN⟩ := nodeOf_spec hX hA
  have hu : u = N.value := by
    cases hv with
    | sl _ _ _ _ _ h h0 =>
      cases N with
      | row b sz' n' cap cs' =>
        simp only [HT.erase, AV.row.injEq, true_and] at he
        obtain ⟨rfl, rfl, _⟩ := he
        obtain ⟨A, c, rfl, _, _, _, h5⟩ := h T hM _ _ _ _ _ hN (by omega)
        obtain ⟨rfl, rfl⟩ := h5 rfl
        rfl
      | nilrow sz' =>
        simp only [HT.erase, AV.row.injEq, true_and] at he
        obtain ⟨rfl, rfl, _⟩ := he
        rw [h0 T hM _ hN (by omega)]; rfl
      | leaf a' v' =>
        cases hsN with
        | leaf _ _ ha _ => simp only [HT.erase] at he; subst he; simp [AV.leafOk] at ha
      | box => simp [HT.erase] at he
      | agg => simp [HT.erase] at he
      | tup => simp [HT.erase] at he
  have := hsN.share (G' := fun x => G x ∨ Mine M x) (fun x h => .inl h) (fun x hx => .inr ⟨r, T, hM, at_blocks p hN x hx⟩) none_
  rw [he] at this
  simpa only [AV.share, hu] using this
theorem borrow_ptr {E : Env} {M : Nat → Option HT} {G : Nat → Prop} {s : ASt} {a : Act} {w : World} (hX : RelX E M G s a w) {r : Nat} {p : List Nat} {cs : List AV} {u : Value} (hv : VR w G M (.ptr r p 0) u) (hA : nodeOf s r p = some (.box true cs)) :
    VR w (fun x => G x ∨ Mine M x) none_ (.box false (AV.shares cs)) u ∧ (AV.box false (AV.shares cs)).noRef = true := by
  obtain ⟨T, N, hM, hN, he, hsT, hsN⟩ := nodeOf_spec hX hA
  have hu : u = N.value := by
    cases hv with
    | ptr _ _ _ _ h h' =>
      cases N with
      | box b cs' => rw [h' T hM _ _ hN]; rfl
      | leaf a' v' =>
        cases hsN with
        | leaf _ _ ha _ => simp only [HT.erase] at he; subst he; simp [AV.leafOk] at ha
      | row => simp [HT.erase] at he
      | nilrow => simp [HT.erase] at he
      | agg => simp [HT.erase] at he
      | tup => simp [HT.erase] at he
  have := hsN.share (G' := fun x => G x ∨ Mine M x) (fun x h => .inl h) (fun x hx => .inr ⟨r, T, hM, at_blocks p hN x hx⟩) none_
  rw [he] at this
  simpa only [AV.share, hu] using this
theorem borrow_free {w : World} {G G' : Nat → Prop} {m : Nat → Option HT} {v : AV} {u : Value} (h : VR w G m v u) (hr : v.noRef = true) (hG : ∀ x, G x → G' x) : VR w G' none_ v u := (h.free hr).congr (fun _ _ => rfl) hG

mutual
theorem borrow_spec {E : Env} {M : Nat → Option HT} {G : Nat → Prop} {s : ASt} {a : Act} {w : World} (hX : RelX E M G s a w) : ∀ (v : AV) {A : AV} {u : Value}, borrowV s v = some A → VR w G M v u → VR w (fun x => G x ∨ Mine M x) none_ A u ∧ A.noRef = true
  | .lit v, A, u, h, hv => by simp only [borrowV, Option.some.injEq] at h; subst h; exact ⟨borrow_free hv rfl (fun _ h => .inl h), rfl⟩
  | .row true sz n cs, A, u, h, hv => by simp [borrowV] at h
  | .row false sz n cs, A, u, h, hv => by simp only [borrowV, Option.some.injEq] at h; subst h; exact ⟨borrow_free hv rfl (fun _ h => .inl h), rfl⟩
  | .box true cs, A, u, h, hv => by simp [borrowV] at h
  | .box false cs, A, u, h, hv => by simp only [borrowV, Option.some.injEq] at h; subst h; exact ⟨borrow_free hv rfl (fun _ h => .inl h), rfl⟩
  | .fn f cs, A, u, h, hv => by
    simp only [borrowV] at h
    split at h
    · rename_i As h1
      simp only [Option.some.injEq] at h; subst h
      cases hv with
      | fn _ _ us hl hh =>
        obtain ⟨e1, e2, e3⟩ := borrows_spec hX cs h1 hl hh
        exact ⟨.fn _ _ _ e1 e2, by simpa [AV.noRef] using e3⟩
    · cases h
  | .sl r p off len, A, u, h, hv => by
    simp only [borrowV] at h
    split at h
    · rename_i sz n cs hn
      split at h
      · rename_i e
        obtain ⟨rfl, rfl⟩ := e
        simp only [Option.some.injEq] at h; subst h
        exact borrow_sl hX hv hn
      · cases h
    · cases h
  | .ptr r p o, A, u, h, hv => by
    simp only [borrowV] at h
    split at h
    · rename_i cs hn
      split at h
      · rename_i e
        subst e
        simp only [Option.some.injEq] at h; subst h
        exact borrow_ptr hX hv hn
      · cases h
    · cases h
  | .agg cs, A, u, h, hv => by
    simp only [borrowV] at h
    split at h
    · rename_i As h1
      simp only [Option.some.injEq] at h; subst h
      cases hv with
      | agg _ us hl hh =>
        obtain ⟨e1, e2, e3⟩ := borrows_spec hX cs h1 hl hh
        exact ⟨.agg _ _ e1 e2, by simpa [AV.noRef] using e3⟩
    · cases h
  | .tup cs, A, u, h, hv => by
    simp only [borrowV] at h
    split at h
    · rename_i As h1
      simp only [Option.some.injEq] at h; subst h
      cases hv with
      | tup _ us hl hh =>
        obtain ⟨e1, e2, e3⟩ := borrows_spec hX cs h1 hl hh
        exact ⟨.tup _ _ e1 e2, by simpa [AV.noRef] using e3⟩
    · cases h
  | .junk, A, u, h, hv => by simp [borrowV] at h
theorem borrows_spec {E : Env} {M : Nat → Option HT} {G : Nat → Prop} {s : ASt} {a : Act} {w : World} (hX : RelX E M G s a w) : ∀ (vs : List AV) {As : List AV} {us : List Value}, borrowVs s vs = some As → us.length = vs.length →
    (∀ (i : Nat) (v : AV) (u : Value), vs[i]? = some v → us[i]? = some u → VR w G M v u) →
    us.length = As.length ∧ (∀ (i : Nat) (v : AV) (u : Value), As[i]? = some v → us[i]? = some u → VR w (fun x => G x ∨ Mine M x) none_ v u) ∧ AV.noRefs As = true
  | [], As, us, h, hl, hv => by
    simp only [borrowVs, Option.some.injEq] at h; subst h
    exact ⟨hl, fun i v u h1 => by simp at h1, rfl⟩
  | v :: vs, As, us, h, hl, hv => by
    simp only [borrowVs] at h
    split at h
    · rename_i A h1
      split at h
      · rename_i Bs h2
        simp only [Option.some.injEq] at h; subst h
        match us, hl with
        | u :: us, hl =>
          obtain ⟨e1, e2⟩ := borrow_spec hX v h1 (hv 0 v u rfl rfl)
          obtain ⟨f1, f2, f3⟩ := borrows_spec hX vs h2 (by simpa using hl) (fun i v' u' a b => hv (i + 1) v' u' (by simpa using a) (by simpa using b))
          refine ⟨by simp [f1], fun i v' u' a b => ?_, by simp [AV.noRefs, e2, f3]⟩
          cases i with
          | zero => simp at a b; subst a; subst b; exact e1
          | succ i => exact f2 i v' u' (by simpa using a) (by simpa using b)
      · cases h
    · cases h
end
mutual
/-- Does it name no memory but its own? -/
def pureV : AV → Bool
  | .lit _ | .junk => true
  | .row true _ _ cs => pureVs cs
  | .box true cs => pureVs cs
  | .agg cs | .tup cs => pureVs cs
  | .fn _ cs => pureVs cs
  | _ => false
def pureVs : List AV → Bool
  | [] => true
  | c :: r => pureV c && pureVs r
end
theorem pureVs_mem {l : List AV} : pureVs l = true ↔ ∀ a ∈ l, pureV a = true := by
  induction l with
  | nil => simp [pureVs]
  | cons a r ih => simp [pureVs, ih]
theorem VR.pure {w : World} {G G' : Nat → Prop} {m : Nat → Option HT} {v : AV} {u : Value} (h : VR w G m v u) (hp : pureV v = true) : VR w G' none_ v u := by
  induction h with
  | lit v => exact .lit v
  | junk v => exact .junk v
  | row0 => simp [pureV] at hp
  | row => simp [pureV] at hp
  | box => simp [pureV] at hp
  | agg cs us hl h ih => exact .agg cs us hl (fun i a u h1 h2 => ih i a u h1 h2 (pureVs_mem.1 (by simpa [pureV] using hp) a (List.mem_of_getElem? h1)))
  | tup cs us hl h ih => exact .tup cs us hl (fun i a u h1 h2 => ih i a u h1 h2 (pureVs_mem.1 (by simpa [pureV] using hp) a (List.mem_of_getElem? h1)))
  | fn f cs us hl h ih => exact .fn f cs us hl (fun i a u h1 h2 => ih i a u h1 h2 (pureVs_mem.1 (by simpa [pureV] using hp) a (List.mem_of_getElem? h1)))
  | sl => simp [pureV] at hp
  | ptr => simp [pureV] at hp
theorem Sat.pure {w : World} {G G' : Nat → Prop} {T : HT} (h : Sat w G T) (hp : pureV T.erase = true) : Sat w G' T := by
  induction h with
  | leaf a v ha h => exact .leaf a v ha (h.pure hp)
  | row b sz n cap cs C e g1 g2 g3 g4 g5 g6 g7 g8 ih =>
    have hp' : ∀ a ∈ HT.erases cs, pureV a = true := pureVs_mem.1 (by simpa [HT.erase, pureV] using hp)
    exact .row b sz n cap cs C e g1 g2 g3 g4 g5 g6 g7 (fun i T hT => ih i T hT (hp' _ (by rw [HT.erases_eq]; exact List.mem_map.2 ⟨T, List.mem_of_getElem? hT, rfl⟩)))
  | nilrow sz => exact .nilrow sz
  | box b cs C e g1 g2 g7 g8 ih =>
    have hp' : ∀ a ∈ HT.erases cs, pureV a = true := pureVs_mem.1 (by simpa [HT.erase, pureV] using hp)
    exact .box b cs C e g1 g2 g7 (fun i T hT => ih i T hT (hp' _ (by rw [HT.erases_eq]; exact List.mem_map.2 ⟨T, List.mem_of_getElem? hT, rfl⟩)))
  | agg cs h ih =>
    have hp' : ∀ a ∈ HT.erases cs, pureV a = true := pureVs_mem.1 (by simpa [HT.erase, pureV] using hp)
    exact .agg cs (fun i T hT => ih i T hT (hp' _ (by rw [HT.erases_eq]; exact List.mem_map.2 ⟨T, List.mem_of_getElem? hT, rfl⟩)))
  | tup cs h ih =>
    have hp' : ∀ a ∈ HT.erases cs, pureV a = true := pureVs_mem.1 (by simpa [HT.erase, pureV] using hp)
    exact .tup cs (fun i T hT => ih i T hT (hp' _ (by rw [HT.erases_eq]; exact List.mem_map.2 ⟨T, List.mem_of_getElem? hT, rfl⟩)))

section
variable {E : Env} {s : ASt} {d : Nat} {x y : Operand} {t xt : TypeId} {pos : String} {after : Array Edge} {g : Option (Nat × Bool)} {R : ASt → Prop}
theorem call_core {fo : Operand} {f : FuncId} {caps : List AV} {xs : List Operand} {ts : Array TypeId} {as : List AV} {res : AV} (hf : s.ev fo = .fn f caps) (he : entB E.P f = true) (ha : borrowVs s (xs.map s.ev ++ caps) = some as)
    (hd : Does E.P f as res) (hp : pureV res = true) {M : Nat → Option HT} {G : Nat → Prop} {a : Act} {w : World} (hX : RelX E M G s a w) {K : Act → World → Prop} {Q : Exit → Act → World → Prop}
    (hK : ∀ (T : HT) w' (G' : Nat → Prop), T.erase = res → Ext (fun _ => False) w w' → T.blocks.Nodup → (∀ x, G x → G' x) → (∀ x, G' x → G x ∨ (w.heap.size ≤ x ∧ x < w'.heap.size)) → (∀ x ∈ T.blocks, w.heap.size ≤ x ∧ x < w'.heap.size ∧ ¬ G' x) → Sat w' G' T → K (a.put (some d) T.value) w') :
    (⟨some d, .call { callee := .value fo, args := xs.toArray, argTypes := ts }, t, pos, after, g⟩ : Oper).wp E.P a w K Q := by
  have hfv := hX.ev fo
  rw [hf] at hfv
  generalize hfe : a.eval fo = fv at hfv
  cases hfv with
  | fn _ _ us hul huv =>
    have hrun : (execOp a.eval ⟨some d, .call { callee := .value fo, args := xs.toArray, argTypes := ts }, t, pos, after, g⟩).run E.P w = .ok (.enter f (xs.map a.eval ++ us).toArray) w := by
      simp [execOp, resolve, hfe, Deferred.ofValue, invoke, callFunc_of he]
    obtain ⟨e1, e2, e3⟩ := borrows_spec hX (xs.map s.ev ++ caps) ha (us := xs.map a.eval ++ us) (by simp [hul]) (fun i v u h1 h2 => by
      by_cases hi : i < (xs.map s.ev).length
      · rw [List.getElem?_append_left hi] at h1
        rw [List.getElem?_append_left (by simpa using hi)] at h2
        rw [List.getElem?_map] at h1 h2
        cases hx : xs[i]? with
        | none => rw [hx] at h1; cases h1
        | some z =>
          rw [hx] at h1 h2
          simp only [Option.map_some, Option.some.injEq] at h1 h2
          subst h1; subst h2
          exact hX.ev z
      · rw [List.getElem?_append_right (by omega)] at h1
        rw [List.getElem?_append_right (by simpa using hi)] at h2
        simp only [List.length_map] at h1 h2
        exact huv _ v u h1 h2)
    unfold Oper.wp
    rw [hrun]
    simp only [Oper.upon]
    have hmine : ∀ x, Mine M x → x < w.heap.size ∧ ¬ G x := fun x ⟨r, T, hM, hx⟩ => ⟨(hX.own r T hM x hx).1, (hX.own r T hM x hx).2.1⟩
    refine (hd w (fun x => G x ∨ Mine M x) (xs.map a.eval ++ us) (fun x hx => hx.elim (fun h => (hX.gd x h).1) (fun h => (hmine x h).1)) e1 e2).mono ?_
    rintro e w' ⟨T, rfl, rfl, hw, hnd, hb, G', hGG, hG', hnG, hT⟩
    refine hK T w' (fun x => G' x ∧ ¬ Mine M x) rfl hw hnd (fun x hx => ⟨hGG x (.inl hx), fun h => (hmine x h).2 hx⟩) (fun x hx => ?_) (fun x hx => ⟨(hb x hx).1, (hb x hx).2, fun h => hnG x hx h.1⟩) (hT.pure hp)
    rcases hG' x hx.1 with (h | h) | h
    · exact .inl h
    · exact absurd h hx.2
    · exact .inr h
/-- The same; the result is read alone from here on. -/
theorem l_callSh {fo : Operand} {f : FuncId} {caps : List AV} {xs : List Operand} {ts : Array TypeId} {as : List AV} {res : AV} (hn : d < E.nt) (hf : s.ev fo = .fn f caps) (he : entB E.P f = true) (ha : borrowVs s (xs.map s.ev ++ caps) = some as)
    (hd : Does E.P f as res) (hp : pureV res = true) (hR : R (s.set d res.share)) : LJ E ⟨some d, .call { callee := .value fo, args := xs.toArray, argTypes := ts }, t, pos, after, g⟩ s R := by
  rintro a w ⟨M, G, hX⟩
  refine call_core hf he ha hd hp hX (fun T w' G' h1 h2 h3 h4 h5 h6 h7 => ?_)
  subst h1
  exact ⟨_, ⟨M, fun x => G' x ∨ x ∈ T.blocks, hX.setG hn h2 (fun x hx => .inl (h4 x hx)) (fun x hx => hx.elim (h5 x) (fun h => .inr ⟨(h6 x h).1, (h6 x h).2.1⟩)) (h7.share (fun x hx => .inl hx) (fun x hx => .inr hx) M).1⟩, hR⟩
end
end Go.Av
