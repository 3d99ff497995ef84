/- The operations that read memory. -/
import Derived.Test.YteohnapehmdgaaaDoorAZzF
set_option linter.unusedSimpArgs false
set_option linter.unusedVariables false
/-! The operations that read memory. -/
namespace Go.Av

def slT (P : Program) (t : TypeId) : Option Nat := match P.underlying t with
  | some (.slice e) => (P.info? e).map (·.size)
  | _ => none
def agT (P : Program) (t : TypeId) : Option Bool := (P.underlying t).map fun d => match d with
  | .struct _ | .array _ _ => true
  | _ => false
def szT (P : Program) (t : TypeId) : Option Nat := (P.info? t).map (·.size)
/-- A struct's field: where it begins, its cells, whether it is one of several cells. -/
def fdT (P : Program) (t : TypeId) (f : Nat) : Option (Nat × Nat × Bool) := match P.underlying t with
  | some (.struct fs) => match fs[f]? with
    | some x => match szT P x.type, agT P x.type with
      | some n, some g => some (x.offset, n, g)
      | _, _ => none
    | none => none
  | _ => none

theorem slT_spec {P : Program} {t : TypeId} {n : Nat} (h : slT P t = some n) : ∃ e i, P.underlying t = some (.slice e) ∧ P.info? e = some i ∧ i.size = n := by
  unfold slT at h
  split at h
  · rename_i e he
    cases hi : P.info? e with
    | none => simp [hi] at h
    | some i => simp [hi] at h; exact ⟨e, i, he, hi, h⟩
  · cases h
theorem run_size {P : Program} {t : TypeId} {n : Nat} (h : szT P t = some n) (w : World) : (sizeOf t).run P w = .ok n w := by
  unfold szT at h
  cases hi : P.info? t with
  | none => simp [hi] at h
  | some i => simp [hi] at h; simp [sizeOf, typeInfo, hi, h]
theorem run_agg {P : Program} {t : TypeId} {b : Bool} (h : agT P t = some b) (w : World) : (isAgg t).run P w = .ok b w := by
  unfold agT at h
  cases hi : P.underlying t with
  | none => simp [hi] at h
  | some i => simp only [hi, Option.map_some, Option.some.injEq] at h; subst h; cases i <;> simp [isAgg, underlying, hi]
theorem fdT_spec {P : Program} {t : TypeId} {f o n : Nat} {g : Bool} (h : fdT P t f = some (o, n, g)) : ∃ fs x, P.underlying t = some (.struct fs) ∧ fs[f]? = some x ∧ x.offset = o ∧ szT P x.type = some n ∧ agT P x.type = some g := by
  unfold fdT at h
  split at h
  · rename_i fs hfs
    split at h
    · rename_i x hx
      split at h
      · rename_i n' g' h1 h2
        simp only [Option.some.injEq, Prod.mk.injEq] at h
        obtain ⟨rfl, rfl, rfl⟩ := h
        exact ⟨fs, x, hfs, hx, rfl, h1, h2⟩
      · cases h
    · cases h
  · cases h

theorem add0 (b o k : Nat) : (⟨b, o, none⟩ : Addr).add k = ⟨b, o + k, none⟩ := by unfold Addr.add; split <;> simp_all

theorem VR.boxAt {w : World} {G : Nat → Prop} {m : Nat → Option HT} {cs : List AV} {v : Value} (h : VR w G m (.box false cs) v) :
    ∃ b off, v = .pointer (some ⟨b, off, none⟩) ∧ (∀ i c, cs[i]? = some c → c.noRef = true ∧ ∃ u, w.cell? ⟨b, off + i, none⟩ = some u ∧ VR w G m c u) ∧
      (∀ k, VR w G m (.box false (cs.drop k)) (.pointer (some ⟨b, off + k, none⟩))) := by
  cases h with
  | box b off _ us C e fr hG hb hu hr h =>
    refine ⟨b, off, rfl, fun i c hc => ⟨hr c (List.mem_of_getElem? hc), us i, ?_, (h i c hc).free (hr c (List.mem_of_getElem? hc))⟩, fun k => ?_⟩
    · have := hu i (List.getElem?_eq_some_iff.1 hc).1
      simp [World.cell?, hb, this]
    · refine .box b (off + k) _ (fun i => us (k + i)) C e fr hG hb (fun i hi => ?_) (fun a ha => hr a (List.mem_of_mem_drop ha)) (fun i a ha => ?_)
      · rw [Nat.add_assoc]; exact hu _ (by simp at hi; omega)
      · rw [List.getElem?_drop] at ha; exact h _ a ha

theorem VR.rowAt {w : World} {G : Nat → Prop} {m : Nat → Option HT} {sz n : Nat} {cs : List AV} {v : Value} (h : VR w G m (.row false sz n cs) v) :
    ∃ A c, v = .slice A n c ∧ n ≤ c ∧ n ≤ 9223372036854775807 ∧ cs.length = n * sz ∧ (0 < n → ∃ b off, A = some ⟨b, off, none⟩ ∧ (∀ k, VR w G m (.box false (cs.drop k)) (.pointer (some ⟨b, off + k, none⟩)))) := by
  cases h with
  | row0 sz A c => exact ⟨A, c, rfl, Nat.zero_le _, by omega, by simp, fun h => absurd h (by omega)⟩
  | row sz n c b off cs us C e fr hG hb hn hc hmax hu hr h =>
    refine ⟨_, c, rfl, hc, hmax, hn, fun _ => ⟨b, off, rfl, fun k => ?_⟩⟩
    refine .box b (off + k) _ (fun i => us (k + i)) C e fr hG hb (fun i hi => ?_) (fun a ha => hr a (List.mem_of_mem_drop ha)) (fun i a ha => ?_)
    · rw [Nat.add_assoc]; exact hu _ (by simp at hi; omega)
    · rw [List.getElem?_drop] at ha; exact h _ a ha

section
variable {E : Env} {s : ASt} {d : Nat} {x y : Operand} {t xt : TypeId} {pos : String} {after : Array Edge} {g : Option (Nat × Bool)}

theorem q_lenStr {str : ByteArray} (hn : d < E.nt) (ht : E.P.underlying xt = some .string) (hx : s.ev x = .lit (.string str)) :
    QJ E ⟨some d, .call { callee := .builtin .len, args := #[x], argTypes := #[xt] }, t, pos, after, g⟩ s (.lit (.int .i64 str.size)) none :=
  .val rfl hn fun s' M G a w hle hX => ⟨_, w, by simp [execOp, resolve, invoke, builtin, hX.lit hle hx, Builtin.len_, run_underlying ht, goInt], Ext.refl _ _, .lit _⟩
theorem q_lenSh {sz n sz' : Nat} {cs : List AV} (hn : d < E.nt) (ht : slT E.P xt = some sz') (hx : s.ev x = .row false sz n cs) :
    QJ E ⟨some d, .call { callee := .builtin .len, args := #[x], argTypes := #[xt] }, t, pos, after, g⟩ s (.lit (.int .i64 n)) none :=
  .val rfl hn fun s' M G a w hle hX => by
    obtain ⟨e, i, h1, h2, h3⟩ := slT_spec ht
    have hv := hX.evLe hle x
    rw [hx] at hv
    obtain ⟨A, c, hv, _⟩ := hv.rowAt
    exact ⟨_, w, by simp [execOp, resolve, invoke, builtin, hv, Builtin.len_, run_underlying h1, goInt], Ext.refl _ _, .lit _⟩

theorem q_indexSh {sz n : Nat} {cs : List AV} {k : IntKind} {i : Int} (hn : d < E.nt) (ht : slT E.P xt = some sz) (hx : s.ev x = .row false sz n cs) (hy : s.ev y = .lit (.int k i)) (h : 0 ≤ i ∧ i < n) :
    QJ E ⟨some d, .indexAddr xt x y, t, pos, after, g⟩ s (.box false (cs.drop (i.toNat * sz))) none :=
  .val rfl hn fun s' M G a w hle hX => by
    obtain ⟨e, inf, h1, h2, h3⟩ := slT_spec ht
    have hv := hX.evLe hle x
    rw [hx] at hv
    obtain ⟨A, c, hv, _, _, _, hbox0⟩ := hv.rowAt
    obtain ⟨b, off, rfl, hbox⟩ := hbox0 (by omega)
    clear hbox0
    exact ⟨_, w, by simp [execOp, hv, hX.lit hle hy, Instr.indexAt, asIntOf, run_underlying h1, h.1, h.2, sizeOf, typeInfo, h2, h3, add0], Ext.refl _ _, hbox _⟩

theorem q_fieldSh {f o n : Nat} {gg : Bool} {cs : List AV} (hn : d < E.nt) (ht : fdT E.P xt f = some (o, n, gg)) (h0 : n ≠ 0) (hx : s.ev x = .box false cs) :
    QJ E ⟨some d, .fieldAddr xt x f, t, pos, after, g⟩ s (.box false (cs.drop o)) none :=
  .val rfl hn fun s' M G a w hle hX => by
    obtain ⟨fs, z, h1, h2, h3, h4, h5⟩ := fdT_spec ht
    have hv := hX.evLe hle x
    rw [hx] at hv
    obtain ⟨b, off, hv, _, hbox⟩ := hv.boxAt
    exact ⟨_, w, by simp [execOp, hv, Instr.fieldAt, Instr.sureAddr, run_underlying h1, h2, fieldPlace, run_size h4, h0, h3, add0], Ext.refl _ _, hbox _⟩

theorem q_loadSh {cs : List AV} {c : AV} (hn : d < E.nt) (ht : agT E.P xt = some false) (hx : s.ev x = .box false cs) (hc : cs[0]? = some c) :
    QJ E ⟨some d, .load xt x, t, pos, after, g⟩ s c none :=
  .val rfl hn fun s' M G a w hle hX => by
    have hv := hX.evLe hle x
    rw [hx] at hv
    obtain ⟨b, off, hv, hcell, _⟩ := hv.boxAt
    obtain ⟨_, u, hu, hvu⟩ := hcell 0 c hc
    exact ⟨u, w, by simp only [Nat.add_zero] at hu; simp [execOp, hv, Instr.loadAt, Instr.sureAddr, loadVar, run_agg ht, hu], Ext.refl _ _, hvu⟩

theorem q_loadShAgg {cs : List AV} {n : Nat} (hn : d < E.nt) (ht : agT E.P xt = some true) (hz : szT E.P xt = some n) (hx : s.ev x = .box false cs) (hc : n ≤ cs.length) :
    QJ E ⟨some d, .load xt x, t, pos, after, g⟩ s (.agg (cs.take n)) none :=
  .val rfl hn fun s' M G a w hle hX => by
    have hv := hX.evLe hle x
    rw [hx] at hv
    obtain ⟨b, off, hv, hcell, _⟩ := hv.boxAt
    have hus : ∀ j, j < n → ∃ u, w.cell? ⟨b, off + j, none⟩ = some u ∧ VR w G M (cs.getD j .junk) u := fun j hj => by
      have hjc : cs[j]? = some cs[j] := List.getElem?_eq_getElem (by omega)
      obtain ⟨_, u, h1, h2⟩ := hcell j _ hjc
      exact ⟨u, h1, by simpa [List.getD, hjc] using h2⟩
    let f : Nat → Value := fun j => (w.cell? ⟨b, off + j, none⟩).getD undef
    have hf : ∀ j, j < n → w.cell? ((⟨b, off, none⟩ : Addr).add j) = some (f j) := fun j hj => by
      obtain ⟨u, h1, _⟩ := hus j hj
      rw [add0, h1]; simp [f, h1]
    refine ⟨.agg ((List.range n).map f).toArray, w, ?_, Ext.refl _ _, ?_⟩
    · simp [execOp, hv, Instr.loadAt, Instr.sureAddr, loadVar, run_agg ht, run_size hz, run_loadCells w _ n f hf]
    · refine .agg _ _ (by simp; omega) (fun i c u hc' hu => ?_)
      rw [List.getElem?_take] at hc'
      split at hc'
      · rename_i hi
        obtain ⟨u', h1, h2⟩ := hus i hi
        rw [List.getElem?_map, List.getElem?_range hi] at hu
        simp only [Option.map_some, Option.some.injEq] at hu
        subst hu
        simp only [f, h1, Option.getD_some]
        simpa [List.getD, hc'] using h2
      · cases hc'

theorem q_field {cs : List AV} {c : AV} {f o n : Nat} (hn : d < E.nt) (ht : fdT E.P xt f = some (o, n, false)) (hx : s.ev x = .agg cs) (hc : cs[o]? = some c) :
    QJ E ⟨some d, .field xt x f, t, pos, after, g⟩ s c none :=
  .val rfl hn fun s' M G a w hle hX => by
    obtain ⟨fs, z, h1, h2, h3, h4, h5⟩ := fdT_spec ht
    have hv := hX.evLe hle x
    rw [hx] at hv
    generalize hav : a.eval x = v at hv
    cases hv with
    | agg _ us hl h =>
      have ho : o < us.length := by rw [hl]; exact (List.getElem?_eq_some_iff.1 hc).1
      refine ⟨us[o], w, ?_, Ext.refl _ _, h o c _ hc (List.getElem?_eq_getElem ho)⟩
      simp [execOp, hav, Instr.field, run_underlying h1, h2, asAgg, part, run_agg h5, h3, List.getElem?_eq_getElem ho]

theorem q_extract {cs : List AV} {c : AV} {i : Nat} (hn : d < E.nt) (hx : s.ev x = .tup cs) (hc : cs[i]? = some c) :
    QJ E ⟨some d, .extract x i, t, pos, after, g⟩ s c none :=
  .val rfl hn fun s' M G a w hle hX => by
    have hv := hX.evLe hle x
    rw [hx] at hv
    generalize hav : a.eval x = v at hv
    cases hv with
    | tup _ us hl h =>
      have ho : i < us.length := by rw [hl]; exact (List.getElem?_eq_some_iff.1 hc).1
      refine ⟨us[i], w, ?_, Ext.refl _ _, h i c _ hc (List.getElem?_eq_getElem ho)⟩
      simp [execOp, hav, Instr.extract, List.getElem?_eq_getElem ho]

theorem q_makeFunc {f : FuncId} {caps : List Operand} (hn : d < E.nt) :
    QJ E ⟨some d, .makeFunc (.func f) #[] caps.toArray, t, pos, after, g⟩ s (.fn f (caps.map s.ev)) none :=
  .val rfl hn fun s' M G a w hle hX => ⟨.func (.func f) #[] (caps.map a.eval).toArray, w, by simp [execOp, Instr.makeFunc], Ext.refl _ _,
    .fn f _ _ (by simp) (fun i c u hc hu => by
      rw [List.getElem?_map] at hc hu
      cases hi : caps[i]? with
      | none => simp [hi] at hc
      | some z =>
        simp only [hi, Option.map_some, Option.some.injEq] at hc hu
        subst hc; subst hu
        exact hX.evLe hle z)⟩
end

end Go.Av
