/- Slices of slices, of texts; bytes as a text; what is appended. -/
import Derived.Test.YteohnapehmdgaaaDoorAZzY
import Derived.Laws.Slices
import Derived.Laws.BytesString
set_option linter.unusedSimpArgs false
set_option linter.unusedVariables false
/-! Slices of slices, of texts; bytes as a text; what is appended. -/
namespace Go.Av
theorem run_sl {P : Program} (w : World) {t : TypeId} {sz : Nat} (ht : slT P t = some sz) (A : Option Addr) (len c : Nat) {low high : Option Value} {l h : Nat}
    (hl : (low = none ∧ l = 0) ∨ ∃ k, low = some (.int k l)) (hh : (high = none ∧ h = len) ∨ ∃ k, high = some (.int k h)) (h1 : l ≤ h) (h2 : h ≤ c) (h3 : h ≤ len) :
    (Instr.sliceAt t (.slice A len c) low high none).run P w = .ok (.slice (if c = l then A else A.map (·.add (l * sz))) (h - l) (c - l)) w := by
  obtain ⟨e, i, hu, hi, hs⟩ := slT_spec ht
  have hsz : (sizeOf e).run P w = .ok sz w := by simp [sizeOf, typeInfo, hi, hs]
  have b1 : ∀ k (y : Nat) code, l ≤ y → (Instr.sliceBound (.int k l) y code).run P w = .ok l w := fun k y code hy => by
    rw [run_sliceBound (P := P) w k l y code (by omega) (by omega)]; simp
  have b2 : ∀ k (y : Nat) code, h ≤ y → (Instr.sliceBound (.int k h) y code).run P w = .ok h w := fun k y code hy => by
    rw [run_sliceBound (P := P) w k h y code (by omega) (by omega)]; simp
  simp only [Instr.sliceAt, Instr.slice, Sem.run_bind, run_underlying hu, Result.andThen_ok, Instr.sliceBounds]
  rcases hl with ⟨rfl, rfl⟩ | ⟨k, rfl⟩ <;> rcases hh with ⟨rfl, rfl⟩ | ⟨k', rfl⟩ <;> simp [b1, b2, h1, h2, hsz]
theorem run_slS {P : Program} (w : World) {t : TypeId} (ht : P.underlying t = some .string) (b : ByteArray) {low high : Option Value} {l h : Nat}
    (hl : (low = none ∧ l = 0) ∨ ∃ k, low = some (.int k l)) (hh : (high = none ∧ h = b.size) ∨ ∃ k, high = some (.int k h)) (h1 : l ≤ h) (h2 : h ≤ b.size) :
    (Instr.sliceAt t (.string b) low high none).run P w = .ok (.string (b.extract l h)) w := by
  have b1 : ∀ k (y : Nat) code, l ≤ y → (Instr.sliceBound (.int k l) y code).run P w = .ok l w := fun k y code hy => by
    rw [run_sliceBound (P := P) w k l y code (by omega) (by omega)]; simp
  have b2 : ∀ k (y : Nat) code, h ≤ y → (Instr.sliceBound (.int k h) y code).run P w = .ok h w := fun k y code hy => by
    rw [run_sliceBound (P := P) w k h y code (by omega) (by omega)]; simp
  simp only [Instr.sliceAt, Instr.slice, Sem.run_bind, run_underlying ht, Result.andThen_ok, Instr.sliceBounds]
  rcases hl with ⟨rfl, rfl⟩ | ⟨k, rfl⟩ <;> rcases hh with ⟨rfl, rfl⟩ | ⟨k', rfl⟩ <;> simp [b1, b2, h1, h2]

/-- A bound of a slice expression. -/
def bndQ (s : ASt) (z : Int) : Option Operand → Option Int
  | none => some z
  | some x => match s.ev x with
    | .lit (.int _ n) => some n
    | _ => none
section
variable {E : Env} {s s1 : ASt} {d : Nat} {x y : Operand} {t ty xt : TypeId} {pos : String} {after : Array Edge} {g : Option (Nat × Bool)} {R : ASt → Prop}
theorem bnd_val {M : Nat → Option HT} {G : Nat → Prop} {s' : ASt} {a : Act} {w : World} (hX : RelX E M G s' a w) (hle : Le s s') {z n : Int} {o : Option Operand} (h : bndQ s z o = some n) (hn : 0 ≤ n) :
    (o.map a.eval = none ∧ n.toNat = z.toNat) ∨ ∃ k, o.map a.eval = some (.int k n.toNat) := by
  cases o with
  | none => simp only [bndQ, Option.some.injEq] at h; subst h; exact .inl ⟨rfl, rfl⟩
  | some x =>
    simp only [bndQ] at h
    split at h
    · rename_i k m hx
      simp only [Option.some.injEq] at h; subst h
      have := hX.lit hle hx
      exact .inr ⟨k, by simp [this, Int.toNat_of_nonneg hn]⟩
    · cases h
theorem q_sliceOwn {lo hi : Option Operand} {r off len sz n : Nat} {p : List Nat} {cs : List AV} {l h : Int} (hn : d < E.nt) (ht : slT E.P xt = some sz) (hx : s.ev x = .sl r p off len) (hA : nodeOf s r p = some (.row true sz n cs)) (hl : off + len ≤ n)
    (h1 : bndQ s 0 lo = some l) (h2 : bndQ s len hi = some h) (h3 : 0 ≤ l) (h4 : l ≤ h) (h5 : h ≤ len) :
    QJ E ⟨some d, .slice xt x lo hi none, t, pos, after, g⟩ s (.sl r p (off + l.toNat) (h.toNat - l.toNat)) none :=
  .val rfl hn fun s' M G a w hle hX => by
    have hv := hX.evLe hle x
    rw [hx] at hv
    have hA' := hle.node hA
    obtain ⟨T, N, hM, hN, hNe, hsT, hsN⟩ := nodeOf_spec hX hA'
    have e1 := bnd_val hX hle h1 h3
    have e2 := bnd_val hX hle h2 (by omega)
    simp only [Int.toNat_zero, Int.toNat_natCast] at e1 e2
    have hln : l.toNat ≤ h.toNat := by omega
    have hhn : h.toNat ≤ len := by omega
    generalize hav : a.eval x = v at hv
    cases hv with
    | sl _ _ _ _ _ q q0 =>
      cases hsN with
      | row b sz' n' cap cs' C e g1 g2 g3 g4 g5 g6 g7 g8 =>
        simp only [HT.erase, AV.row.injEq, true_and] at hNe
        obtain ⟨rfl, rfl, _⟩ := hNe
        obtain ⟨A, c, rfl, q2, q3, q4, q5⟩ := q T hM b sz' n' cap cs' hN hl
        refine ⟨.slice (if c = l.toNat then A else A.map (·.add (l.toNat * sz'))) (h.toNat - l.toNat) (c - l.toNat), w, ?_, Ext.refl _ _, ?_⟩
        · simp only [execOp, Sem.run_bind, hav]
          rw [show (none : Option Operand).map a.eval = none from rfl, run_sl (P := E.P) w ht A len c e1 e2 hln (by omega) hhn]
          rfl
        · refine .sl _ _ _ _ _ (fun T' hT' b1 sz1 n1 cap1 cs1 hN1 hle1 => ?_) (fun T' hT' sz1 hN1 hle1 => ?_)
          · rw [hM] at hT'; cases hT'; rw [hN] at hN1; cases hN1
            refine ⟨_, _, rfl, by omega, by omega, ?_, fun h0 => ?_⟩
            · by_cases hc : c = l.toNat
              · exact .inl (by omega)
              · right
                rw [if_neg hc]
                rcases q4 with q4 | q4
                · omega
                · rw [q4]; simp [add0, Nat.add_mul]
            · obtain ⟨rfl, rfl⟩ := q5 (by omega)
              have : l.toNat = 0 := by omega
              refine ⟨by omega, ?_⟩
              split <;> simp [add0, this]
          · rw [hM] at hT'; cases hT'; rw [hN] at hN1; cases hN1
      | nilrow sz' =>
        simp only [HT.erase, AV.row.injEq, true_and] at hNe
        obtain ⟨rfl, rfl, _⟩ := hNe
        have := q0 T hM sz' hN (by omega)
        subst this
        have hl0 : len = 0 := by omega
        subst hl0
        refine ⟨.slice (if 0 = l.toNat then none else (none : Option Addr).map (·.add (l.toNat * sz'))) (h.toNat - l.toNat) (0 - l.toNat), w, ?_, Ext.refl _ _, ?_⟩
        · simp only [execOp, Sem.run_bind, hav]
          rw [show (none : Option Operand).map a.eval = none from rfl, run_sl (P := E.P) w ht none 0 0 e1 e2 hln (by omega) hhn]
          rfl
        · refine .sl _ _ _ _ _ (fun T' hT' b1 sz1 n1 cap1 cs1 hN1 hle1 => ?_) (fun T' hT' sz1 hN1 hle1 => ?_)
          · rw [hM] at hT'; cases hT'; rw [hN] at hN1; cases hN1
          · have h0 : l.toNat = 0 ∧ h.toNat = 0 := by omega
            simp [h0]
      | leaf a v ha _ => cases a with
        | row o _ _ _ => cases o <;> simp_all [HT.erase, AV.leafOk]
        | _ => simp_all [HT.erase, AV.leafOk]
      | box => simp [HT.erase] at hNe
      | agg => simp [HT.erase] at hNe
      | tup => simp [HT.erase] at hNe
theorem q_sliceSh {lo hi : Option Operand} {sz n : Nat} {cs : List AV} {l h : Int} (hn : d < E.nt) (ht : slT E.P xt = some sz) (hx : s.ev x = .row false sz n cs)
    (h1 : bndQ s 0 lo = some l) (h2 : bndQ s n hi = some h) (h3 : 0 ≤ l) (h4 : l ≤ h) (h5 : h ≤ n) :
    QJ E ⟨some d, .slice xt x lo hi none, t, pos, after, g⟩ s (.row false sz (h.toNat - l.toNat) ((cs.drop (l.toNat * sz)).take ((h.toNat - l.toNat) * sz))) none :=
  .val rfl hn fun s' M G a w hle hX => by
    have hv := hX.evLe hle x
    rw [hx] at hv
    have e1 := bnd_val hX hle h1 h3
    have e2 := bnd_val hX hle h2 (by omega)
    simp only [Int.toNat_zero, Int.toNat_natCast] at e1 e2
    have hln : l.toNat ≤ h.toNat := by omega
    have hhn : h.toNat ≤ n := by omega
    generalize hav : a.eval x = v at hv
    have hrun : ∀ A c, v = .slice A n c → n ≤ c → (execOp a.eval ⟨some d, .slice xt x lo hi none, t, pos, after, g⟩).run E.P w = .ok (.value (.slice (if c = l.toNat then A else A.map (·.add (l.toNat * sz))) (h.toNat - l.toNat) (c - l.toNat))) w := fun A c hvv hc => by
      subst hvv
      simp only [execOp, Sem.run_bind, hav]
      rw [show (none : Option Operand).map a.eval = none from rfl, run_sl (P := E.P) w ht A n c e1 e2 hln (by omega) hhn]
      rfl
    by_cases h0 : h.toNat - l.toNat = 0
    · have : ∃ A c, v = .slice A n c ∧ n ≤ c := by
        cases hv with
        | row0 _ A c => exact ⟨A, c, rfl, Nat.zero_le _⟩
        | row _ _ c b off _ us C e fr g1 g2 g3 g4 g5 g6 g7 g8 => exact ⟨_, c, rfl, g4⟩
      obtain ⟨A, c, hvv, hc⟩ := this
      refine ⟨_, w, hrun A c hvv hc, Ext.refl _ _, ?_⟩
      rw [h0]
      simp only [Nat.zero_mul, List.take_zero]
      exact .row0 _ _ _
    · cases hv with
      | row0 _ A c => omega
      | row _ _ c b off _ us C e fr g1 g2 g3 g4 g5 g6 g7 g8 =>
        refine ⟨_, w, hrun _ c rfl g4, Ext.refl _ _, ?_⟩
        have hc : ¬ c = l.toNat := by omega
        rw [if_neg hc, Option.map_some, add0]
        have hle2 : l.toNat * sz + (h.toNat - l.toNat) * sz ≤ cs.length := by
          rw [g3, ← Nat.add_mul]; exact Nat.mul_le_mul_right _ (by omega)
        have hlen : ((cs.drop (l.toNat * sz)).take ((h.toNat - l.toNat) * sz)).length = (h.toNat - l.toNat) * sz := by
          rw [List.length_take, List.length_drop]; omega
        have hget : ∀ i, i < (h.toNat - l.toNat) * sz → ((cs.drop (l.toNat * sz)).take ((h.toNat - l.toNat) * sz))[i]? = cs[l.toNat * sz + i]? := fun i hi => by
          rw [List.getElem?_take_of_lt hi, List.getElem?_drop]
        refine .row _ _ _ b _ _ (fun i => us (l.toNat * sz + i)) C e fr g1 g2 hlen (by omega) (by omega) (fun i hi => ?_) (fun c' hc' => ?_) (fun i a' hi => ?_)
        · rw [hlen] at hi
          rw [Nat.add_assoc]
          exact g6 _ (by omega)
        · exact g7 c' (List.mem_of_mem_drop (List.mem_of_mem_take hc'))
        · have hi' : i < (h.toNat - l.toNat) * sz := by rw [← hlen]; exact (List.getElem?_eq_some_iff.1 hi).1
          rw [hget i hi'] at hi
          exact g8 _ a' hi
theorem q_sliceStr {lo hi : Option Operand} {b : ByteArray} {l h : Int} (hn : d < E.nt) (ht : E.P.underlying xt = some .string) (hx : s.ev x = .lit (.string b))
    (h1 : bndQ s 0 lo = some l) (h2 : bndQ s b.size hi = some h) (h3 : 0 ≤ l) (h4 : l ≤ h) (h5 : h ≤ b.size) :
    QJ E ⟨some d, .slice xt x lo hi none, t, pos, after, g⟩ s (.lit (.string (b.extract l.toNat h.toNat))) none :=
  .val rfl hn fun s' M G a w hle hX => by
    have hv := hX.lit hle hx
    have e1 := bnd_val hX hle h1 h3
    have e2 := bnd_val hX hle h2 (by omega)
    simp only [Int.toNat_zero, Int.toNat_natCast] at e1 e2
    refine ⟨_, w, ?_, Ext.refl _ _, .lit _⟩
    simp only [execOp, Sem.run_bind, hv]
    rw [show (none : Option Operand).map a.eval = none from rfl, run_slS (P := E.P) w ht b e1 e2 (by omega) (by omega)]
    rfl

/-! ### what is appended -/
theorem yj_nil {sz : Nat} : YJ E s (.lit (.slice none 0 0)) sz 0 [] := fun M G a w hX u hu =>
  ⟨[], none, 0, hu.litv, rfl, by simp, by simp, rfl, by simp⟩
theorem leaf_of {T : HT} (h : T.erase.leafOk = true) : T.blocks = [] := by
  cases T <;> simp_all [HT.erase, AV.leafOk, HT.blocks]
theorem yj_own {r off m sz n : Nat} {p : List Nat} {cs : List AV} (hA : nodeOf s r p = some (.row true sz n cs)) (hl : off + m ≤ n) (h1 : leafCs ((cs.drop (off * sz)).take (m * sz)) = true) (h2 : fitCs ((cs.drop (off * sz)).take (m * sz)) = true) :
    YJ E s (.sl r p off m) sz m ((cs.drop (off * sz)).take (m * sz)) := fun M G a w hX u hu => by
  obtain ⟨T, N, hM, hN, hNe, hsT, hsN⟩ := nodeOf_spec hX hA
  cases hu with
  | sl _ _ _ _ _ q q0 =>
    cases hsN with
    | row b sz' n' cap cs' C e g1 g2 g3 g4 g5 g6 g7 g8 =>
      simp only [HT.erase, AV.row.injEq, true_and] at hNe
      obtain ⟨rfl, rfl, rfl⟩ := hNe
      obtain ⟨A, c, rfl, q2, q3, q4, q5⟩ := q T hM b sz' n' cap cs' hN hl
      have hle2 : off * sz' + m * sz' ≤ cs'.length := by
        rw [g2, ← Nat.add_mul]; exact Nat.mul_le_mul_right _ hl
      have her : HT.erases ((cs'.drop (off * sz')).take (m * sz')) = ((HT.erases cs').drop (off * sz')).take (m * sz') := by simp [HT.erases_eq, List.map_take, List.map_drop]
      have hmem : ∀ V ∈ (cs'.drop (off * sz')).take (m * sz'), Sat w G V ∧ V.erase ∈ HT.erases ((cs'.drop (off * sz')).take (m * sz')) := fun V hV => by
        refine ⟨?_, by rw [HT.erases_eq]; exact List.mem_map.2 ⟨V, hV, rfl⟩⟩
        obtain ⟨i, hi⟩ := List.getElem?_of_mem (List.mem_of_mem_drop (List.mem_of_mem_take hV))
        exact g8 i V hi
      rw [← her] at h1 h2 ⊢
      refine ⟨_, A, c, rfl, rfl, by rw [List.length_take, List.length_drop]; omega, fun V hV => ⟨(hmem V hV).1, (fit_val (hmem V hV).1 (fitCs_mem.1 h2 _ (hmem V hV).2)).1⟩, ?_, fun j V hj => ?_⟩
      · rw [List.flatMap_eq_nil_iff]
        exact fun V hV => leaf_of (leafCs_mem.1 h1 _ (hmem V hV).2)
      · have hjl : j < m * sz' := by
          have := (List.getElem?_eq_some_iff.1 hj).1
          rw [List.length_take] at this; omega
        have hm0 : 0 < m := by
          rcases Nat.eq_zero_or_pos m with h | h
          · subst h; simp at hjl
          · exact h
        rw [List.getElem?_take_of_lt hjl, List.getElem?_drop] at hj
        rcases q4 with q4 | q4
        · omega
        · refine ⟨_, q4, ?_⟩
          rw [add0]
          simp [World.cell?, g1, g7 _ V hj]
    | nilrow sz' =>
      simp only [HT.erase, AV.row.injEq, true_and] at hNe
      obtain ⟨rfl, rfl, rfl⟩ := hNe
      have := q0 T hM sz' hN (by omega)
      have hm : m = 0 := by omega
      subst hm
      subst this
      exact ⟨[], none, 0, rfl, by simp [HT.erases], by simp, by simp, rfl, by simp⟩
    | leaf a v ha _ => cases a with
      | row o _ _ _ => cases o <;> simp_all [HT.erase, AV.leafOk]
      | _ => simp_all [HT.erase, AV.leafOk]
    | box => simp [HT.erase] at hNe
    | agg => simp [HT.erase] at hNe
    | tup => simp [HT.erase] at hNe
theorem sat_leaves {w : World} {G : Nat → Prop} {cs : List AV} {us : Nat → Value} (hl : leafCs cs = true) (h : ∀ (i : Nat) (a : AV), cs[i]? = some a → VR w G none_ a (us i)) :
    ∃ Vs : List HT, HT.erases Vs = cs ∧ Vs.length = cs.length ∧ (∀ V ∈ Vs, Sat w G V) ∧ Vs.flatMap HT.blocks = [] ∧ ∀ (j : Nat) (V : HT), Vs[j]? = some V → V.value = us j := by
  refine ⟨cs.zipIdx.map fun p => .leaf p.1 (us p.2), ?_, by simp, fun V hV => ?_, ?_, fun j V hj => ?_⟩
  · rw [HT.erases_eq, List.map_map]
    have : (HT.erase ∘ fun p : AV × Nat => HT.leaf p.1 (us p.2)) = Prod.fst := rfl
    rw [this]
    apply List.ext_getElem?
    intro i
    rw [List.getElem?_map, List.getElem?_zipIdx]
    cases cs[i]? <;> rfl
  · obtain ⟨p, hp, rfl⟩ := List.mem_map.1 hV
    obtain ⟨a, i⟩ := p
    have hi := List.mk_mem_zipIdx_iff_getElem?.1 hp
    exact .leaf _ _ (leafCs_mem.1 hl a (List.mem_of_getElem? hi)) (h i a hi)
  · rw [List.flatMap_eq_nil_iff]
    intro V hV
    obtain ⟨p, hp, rfl⟩ := List.mem_map.1 hV
    rfl
  · rw [List.getElem?_map, List.getElem?_zipIdx] at hj
    cases hc : cs[j]? with
    | none => rw [hc] at hj; cases hj
    | some c =>
      rw [hc] at hj
      simp only [Option.map_some, Option.some.injEq, Nat.zero_add] at hj
      subst hj
      rfl
theorem yj_sh {m sz : Nat} {cs : List AV} (h1 : leafCs cs = true) (h2 : fitCs cs = true) : YJ E s (.row false sz m cs) sz m cs := fun M G a w hX u hu => by
  cases hu with
  | row0 _ A c => exact ⟨[], A, c, rfl, rfl, by simp, by simp, rfl, by simp⟩
  | row _ _ c b off _ us C e fr g1 g2 g3 g4 g5 g6 g7 g8 =>
    obtain ⟨Vs, v1, v2, v3, v4, v5⟩ := sat_leaves (us := us) h1 g8
    refine ⟨Vs, _, c, rfl, v1, by rw [v2, g3], fun V hV => ⟨v3 V hV, (fit_val (v3 V hV) (fitCs_mem.1 h2 _ ?_)).1⟩, v4, fun j V hj => ⟨_, rfl, ?_⟩⟩
    · rw [← v1, HT.erases_eq]; exact List.mem_map.2 ⟨V, hV, rfl⟩
    · have hjl : j < cs.length := by rw [← v2]; exact (List.getElem?_eq_some_iff.1 hj).1
      rw [add0, v5 j V hj]
      simp [World.cell?, g2, g6 j hjl]

/-! ### bytes as a text -/
def u8sl (P : Program) (t : TypeId) : Bool := match P.underlying t with
  | some (.slice e) => (match P.underlying e with
    | some (.int .u8) => true
    | _ => false)
  | _ => false
def strOf (ns : List Int) : ByteArray := ⟨(ns.map fun n => UInt8.ofNat n.toNat).toArray⟩
def bytesA : List AV → Option (List Int)
  | [] => some []
  | .lit (.int .u8 n) :: l => (bytesA l).map (n :: ·)
  | _ :: _ => none
theorem foldl_push : ∀ (ns : List Int) (b : ByteArray), ns.foldl (fun r n => r.push (UInt8.ofNat n.toNat)) b = ⟨b.data ++ (ns.map fun n => UInt8.ofNat n.toNat).toArray⟩
  | [], b => by simp
  | n :: l, b => by
    rw [List.foldl_cons, foldl_push l]
    simp [ByteArray.push]
theorem bytesA_get : ∀ {cs : List AV} {ns : List Int}, bytesA cs = some ns → ns.length = cs.length ∧ ∀ (i : Nat) (n : Int), ns[i]? = some n → cs[i]? = some (.lit (.int .u8 n))
  | [], ns, h => by simp only [bytesA, Option.some.injEq] at h; subst h; simp
  | .lit (.int .u8 n) :: l, ns, h => by
    simp only [bytesA] at h
    cases hl : bytesA l with
    | none => rw [hl] at h; cases h
    | some ms =>
      rw [hl] at h
      simp only [Option.map_some, Option.some.injEq] at h
      subst h
      obtain ⟨h1, h2⟩ := bytesA_get hl
      refine ⟨by simp [h1], fun i m hi => ?_⟩
      cases i with
      | zero => simp only [List.getElem?_cons_zero, Option.some.injEq] at hi; subst hi; rfl
      | succ i => exact h2 i m (by simpa using hi)
theorem q_convBytes {sz m : Nat} {cs : List AV} {ns : List Int} {src dst : TypeId} (hn : d < E.nt) (h1 : u8sl E.P src = true) (h2 : E.P.underlying dst = some .string) (hb : bytesA cs = some ns)
    (hY : ∀ s', Le s s' → YJ E s' (s.ev x) 1 m cs) (hj : s.ev x ≠ .junk) :
    QJ E ⟨some d, .convert src dst x, t, pos, after, g⟩ s (.lit (.string (strOf ns))) none :=
  .val rfl hn fun s' M G a w hle hX => by
    unfold u8sl at h1
    split at h1
    · rename_i e he
      split at h1
      · rename_i hu8
        have hv := hX.evLe hle x
        obtain ⟨Vs, A, c, v1, v2, v3, v4, v5, v6⟩ := hY s' hle M G a w hX _ hv
        obtain ⟨n1, n2⟩ := bytesA_get hb
        have hVl : Vs.length = cs.length := by rw [← v2, HT.erases_eq, List.length_map]
        have hval : ∀ (j : Nat) (n : Int), ns[j]? = some n → ∃ ad, A = some ad ∧ w.cell? (ad.add j) = some (.int .u8 n) := fun j n hjn => by
          have hjl : j < Vs.length := by rw [hVl, ← n1]; exact (List.getElem?_eq_some_iff.1 hjn).1
          have hV := List.getElem?_eq_getElem hjl
          obtain ⟨ad, k1, k2⟩ := v6 j _ hV
          refine ⟨ad, k1, k2.trans ?_⟩
          have he2 : (Vs[j]).erase = .lit (.int .u8 n) := by
            have := n2 j n hjn
            rw [← v2, HT.erases_eq, List.getElem?_map, hV] at this
            simpa using this
          have hs := (v4 _ (List.mem_of_getElem? hV)).1
          generalize Vs[j] = V at he2 hs
          cases hs with
          | leaf a v ha hv' => simp only [HT.erase] at he2; subst he2; simp only [HT.value, hv'.litv]
          | _ => simp [HT.erase] at he2
        refine ⟨_, w, ?_, Ext.refl _ _, .lit _⟩
        simp only [execOp, Sem.run_bind, v1]
        rw [run_convert_bytes_string (P := E.P) w src dst e A m c he hu8 h2]
        by_cases hm : ns = []
        · subst hm
          have hm0 : m = 0 := by simp at n1; rw [← hVl] at n1; omega
          subst hm0
          cases A with
          | none => simp [Conv.bytesToString, strOf]; rfl
          | some ad => simp [Conv.bytesToString, strOf, loadCells, loadCellsFrom]; rfl
        · obtain ⟨n0, hn0⟩ : ∃ n0, ns[0]? = some n0 := by
            cases ns with
            | nil => exact absurd rfl hm
            | cons a l => exact ⟨a, rfl⟩
          obtain ⟨ad, rfl, _⟩ := hval 0 n0 hn0
          have hload := run_loadCells_list (P := E.P) w ad (ns.map (Value.int .u8)) (fun j v hjv => by
            rw [List.getElem?_map] at hjv
            cases hnj : ns[j]? with
            | none => rw [hnj] at hjv; cases hjv
            | some n =>
              rw [hnj] at hjv
              simp only [Option.map_some, Option.some.injEq] at hjv
              subst hjv
              obtain ⟨ad', k1, k2⟩ := hval j n hnj
              cases k1; exact k2)
          rw [List.length_map, n1, ← hVl, v3, Nat.mul_one] at hload
          rw [run_bytesToString (P := E.P) w ad m c ns hload, foldl_push]
          have : (ByteArray.empty.data ++ (ns.map fun n => UInt8.ofNat n.toNat).toArray) = (ns.map fun n => UInt8.ofNat n.toNat).toArray := by
            show #[] ++ _ = _
            simp
          rw [this]
          rfl
      · cases h1
    · cases h1
end
end Go.Av
