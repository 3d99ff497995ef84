/- Memory that a call makes. -/
import Derived.Test.YtbldpkglmjajlaaBZzK
set_option linter.unusedSimpArgs false
set_option linter.unusedVariables false
/-! Memory that a call makes. -/
namespace Go.Av

theorem leaves {w : World} {G : Nat → Prop} : ∀ (vs : List AV) (us : List Value), us.length = vs.length → (∀ (i : Nat) (v : AV) (u : Value), vs[i]? = some v → us[i]? = some u → Sat w G (.leaf v u)) →
    ∃ Ks : List HT, HT.values Ks = us ∧ HT.erases Ks = vs ∧ HT.blockss Ks = [] ∧ Ks.length = vs.length ∧ (∀ (i : Nat) (K : HT), Ks[i]? = some K → Sat w G K ∧ us[i]? = some K.value)
  | [], us, hl, _ => by
    have : us = [] := by simpa using hl
    subst this
    exact ⟨[], by simp [HT.values], by simp [HT.erases], by simp [HT.blockss], rfl, fun i K h => by simp at h⟩
  | v :: vs, us, hl, h => by
    cases us with
    | nil => simp at hl
    | cons u us =>
      obtain ⟨Ks, h1, h2, h3, h4, h5⟩ := leaves (w := w) (G := G) vs us (by simpa using hl) (fun i v' u' a b => h (i + 1) v' u' (by simpa using a) (by simpa using b))
      refine ⟨.leaf v u :: Ks, by simp [HT.values, HT.value, h1], by simp [HT.erases, HT.erase, h2], by simp [HT.blockss, HT.blocks, h3], by simp [h4], fun i K hK => ?_⟩
      cases i with
      | zero => simp only [List.getElem?_cons_zero, Option.some.injEq] at hK; subst hK; exact ⟨h 0 v u rfl rfl, rfl⟩
      | succ i => exact h5 i K (by simpa using hK)

theorem alloc_old (w : World) (o : Obj) (k : Nat) (h : k < w.heap.size) : (w.alloc o).heap[k]? = w.heap[k]? := by
  show (w.heap.push o)[k]? = _
  rw [Array.getElem?_push, if_neg (by omega)]
theorem alloc_ext (w : World) (o : Obj) : Ext (fun _ => False) w (w.alloc o) := ⟨rfl, rfl, rfl, by simp, fun k hk _ => alloc_old w o k hk⟩
theorem alloc_new (w : World) (o : Obj) : (w.alloc o).heap[w.heap.size]? = some o := by
  show (w.heap.push o)[w.heap.size]? = _
  rw [Array.getElem?_push, if_pos rfl]

section
variable {E : Env} {s : ASt} {d : Nat} {x y : Operand} {t xt : TypeId} {pos : String} {after : Array Edge} {g : Option (Nat × Bool)}

/-- A new row that holds leaves alone. -/
theorem new_row {M : Nat → Option HT} {G : Nat → Prop} {s' : ASt} {a : Act} {w : World} (hX : RelX E M G s' a w) (e : TypeId) (sz n : Nat) (hsz : 0 < sz) (hmax : n ≤ 9223372036854775807) (vs : List AV) (us : List Value) (hl : us.length = vs.length) (hn : vs.length = n * sz)
    (h : ∀ (i : Nat) (v : AV) (u : Value), vs[i]? = some v → us[i]? = some u → Sat w G (.leaf v u)) :
    ∃ T : HT, T.erase = .row true sz n vs ∧ Sat (w.alloc (.cells us.toArray e)) G T ∧ T.blocks.Nodup ∧ (∀ x ∈ T.blocks, w.heap.size ≤ x ∧ x < (w.alloc (.cells us.toArray e)).heap.size ∧ ¬ G x) ∧ T.value = .slice (some ⟨w.heap.size, 0, none⟩) n n ∧
      VR (w.alloc (.cells us.toArray e)) G (updF M d (some T)) (.sl d [] 0 n) (.slice (some ⟨w.heap.size, 0, none⟩) n n) := by
  obtain ⟨Ks, h1, h2, h3, h4, h5⟩ := leaves vs us hl h
  refine ⟨.row w.heap.size sz n n Ks, by simp [HT.erase, h2], ?_, by simp [HT.blocks, h3], fun x hx => ?_, rfl, ?_⟩
  · have hG : ∀ b, G b → (w.alloc (.cells us.toArray e)).heap[b]? = w.heap[b]? := fun b hb => (alloc_ext w _).block b (hX.gd b hb).1 (fun h => h)
    refine .row _ _ _ _ _ us.toArray e (alloc_new w _) (by rw [h4, hn]) (Nat.le_refl _) (by simp [hl, hn]) hsz hmax (fun i K hK => by simpa using (h5 i K hK).2) (fun i K hK => (h5 i K hK).1.congr (fun b hb => ?_) hG (fun _ h => h))
    have : b ∈ HT.blockss Ks := by rw [HT.blockss_eq]; exact List.mem_flatMap.2 ⟨K, List.mem_of_getElem? hK, hb⟩
    rw [h3] at this; cases this
  · simp only [HT.blocks, h3, List.mem_singleton] at hx
    subst hx
    exact ⟨Nat.le_refl _, by simp, fun hg => Nat.lt_irrefl _ (hX.gd _ hg).1⟩
  · refine .sl _ _ _ _ _ (fun T' hT' b' sz' n' cap' cs' hN' hle => ?_) (fun T' hT' sz' hN' hle => ?_)
    · simp only [updF, if_true, Option.some.injEq] at hT'; subst hT'
      simp only [HT.at_, Option.some.injEq, HT.row.injEq] at hN'
      obtain ⟨rfl, rfl, rfl, rfl, rfl⟩ := hN'
      exact ⟨_, _, rfl, Nat.le_refl _, by omega, .inr (by simp), fun _ => ⟨rfl, rfl⟩⟩
    · simp only [updF, if_true, Option.some.injEq] at hT'; subst hT'
      simp [HT.at_] at hN'

/-- A new variable in memory that holds leaves alone. -/
theorem new_box {M : Nat → Option HT} {G : Nat → Prop} {s' : ASt} {a : Act} {w : World} (hX : RelX E M G s' a w) (e : TypeId) (vs : List AV) (us : List Value) (hl : us.length = vs.length)
    (h : ∀ (i : Nat) (v : AV) (u : Value), vs[i]? = some v → us[i]? = some u → Sat w G (.leaf v u)) :
    ∃ T : HT, T.erase = .box true vs ∧ Sat (w.alloc (.cells us.toArray e)) G T ∧ T.blocks.Nodup ∧ (∀ x ∈ T.blocks, w.heap.size ≤ x ∧ x < (w.alloc (.cells us.toArray e)).heap.size ∧ ¬ G x) ∧ T.value = .pointer (some ⟨w.heap.size, 0, none⟩) ∧
      VR (w.alloc (.cells us.toArray e)) G (updF M d (some T)) (.ptr d [] 0) (.pointer (some ⟨w.heap.size, 0, none⟩)) := by
  obtain ⟨Ks, h1, h2, h3, h4, h5⟩ := leaves vs us hl h
  refine ⟨.box w.heap.size Ks, by simp [HT.erase, h2], ?_, by simp [HT.blocks, h3], fun x hx => ?_, rfl, ?_⟩
  · have hG : ∀ b, G b → (w.alloc (.cells us.toArray e)).heap[b]? = w.heap[b]? := fun b hb => (alloc_ext w _).block b (hX.gd b hb).1 (fun h => h)
    refine .box _ _ us.toArray e (alloc_new w _) (by simp [h4, hl]) (fun i K hK => by simpa using (h5 i K hK).2) (fun i K hK => (h5 i K hK).1.congr (fun b hb => ?_) hG (fun _ h => h))
    have : b ∈ HT.blockss Ks := by rw [HT.blockss_eq]; exact List.mem_flatMap.2 ⟨K, List.mem_of_getElem? hK, hb⟩
    rw [h3] at this; cases this
  · simp only [HT.blocks, h3, List.mem_singleton] at hx
    subst hx
    exact ⟨Nat.le_refl _, by simp, fun hg => Nat.lt_irrefl _ (hX.gd _ hg).1⟩
  · refine .ptr _ _ _ _ (fun T' hT' b' sz' n' cap' cs' hN' => ?_) (fun T' hT' b' cs' hN' => ?_)
    · simp only [updF, if_true, Option.some.injEq] at hT'; subst hT'
      simp [HT.at_] at hN'
    · simp only [updF, if_true, Option.some.injEq] at hT'; subst hT'
      simp only [HT.at_, Option.some.injEq, HT.box.injEq] at hN'
      obtain ⟨rfl, rfl⟩ := hN'
      rfl

/-- A slice type's element: its empty cells, its bytes. -/
def zcT (P : Program) (t : TypeId) : Option (List Value × Nat) := match P.underlying t with
  | some (.slice e) => match P.info? e with
    | some i => match i.zero with
      | some z => if z.cells.size = i.size then some (z.cells.toList, i.bytes) else none
      | none => none
    | none => none
  | _ => none
theorem zcT_spec {P : Program} {t : TypeId} {zs : List Value} {by_ : Nat} (h : zcT P t = some (zs, by_)) : ∃ e i z, P.underlying t = some (.slice e) ∧ P.info? e = some i ∧ i.zero = some z ∧ z.cells.toList = zs ∧ i.bytes = by_ ∧ i.size = zs.length ∧ slT P t = some zs.length := by
  unfold zcT at h
  split at h
  · rename_i e he
    split at h
    · rename_i i hi
      split at h
      · rename_i z hz
        split at h
        · rename_i hs
          simp only [Option.some.injEq, Prod.mk.injEq] at h
          obtain ⟨rfl, rfl⟩ := h
          exact ⟨e, i, z, he, hi, hz, rfl, rfl, by simp [hs], by simp [slT, he, hi, hs]⟩
        · cases h
      · cases h
    · cases h
  · cases h
/-- So many cells, empty. -/
def zCells (zs : List Value) (n : Nat) : List Value := (List.range (n * zs.length)).map fun i => zs.getD (i % zs.length) undef

theorem q_makeSlice {k k' : IntKind} {n : Nat} {zs : List Value} {by_ : Nat} (hn : d < E.nt) (ht : zcT E.P xt = some (zs, by_)) (hx : s.ev x = .lit (.int k n)) (hy : s.ev y = .lit (.int k' n)) (hz : 0 < zs.length) (hb : by_ * n ≤ 281474976710656) (hm : n ≤ 9223372036854775807)
    (ho : zs.all (·.oneCell') = true) : QJ E ⟨some d, .makeSlice xt x y, t, pos, after, g⟩ s (.sl d [] 0 n) (some (.row true zs.length n ((zCells zs n).map .lit))) :=
  .mem rfl hn fun s' M G a w hle hX => by
    obtain ⟨e, i, z, h1, h2, h3, h4, h5, h6, _⟩ := zcT_spec ht
    have h7 : ((by_ * n : Nat) : Int) ≤ 281474976710656 := by omega
    rw [Int.natCast_mul] at h7
    have hrun := run_make (P := E.P) w xt e i z h1 h2 h3 k k' (n : Int) (n : Int) (by omega) (by omega) (by rw [h5]; exact h7) (by omega)
    have hsize : z.cells.size = zs.length := by rw [← h4]; simp
    have hcells : madeCells z.cells (n * i.size) = (zCells zs n).toArray := by
      simp only [madeCells, zCells, h6]
      apply Array.ext'
      simp only [Array.toList_map, Array.toList_range]
      apply List.map_congr_left
      intro j hj
      have hlt : j % z.cells.size < z.cells.size := Nat.mod_lt _ (by omega)
      subst h4
      simp only [Array.length_toList, List.getD_eq_getElem?_getD, Array.getElem?_toList]
      rw [getElem!_pos z.cells _ hlt, Array.getElem?_eq_getElem hlt]
      rfl
    simp only [Int.toNat_natCast] at hrun
    rw [hcells] at hrun
    obtain ⟨T, g1, g2, g3, g4, g5, g6⟩ := new_row (d := d) hX e zs.length n hz hm ((zCells zs n).map .lit) (zCells zs n) (by simp) (by simp [zCells]) (fun j v u hv hu => by
      rw [List.getElem?_map, hu] at hv
      simp only [Option.map_some, Option.some.injEq] at hv
      subst hv
      exact .leaf _ _ rfl (.lit _))
    exact ⟨_, _, G, T, by simp [execOp, hX.lit hle hx, hX.lit hle hy, hrun], alloc_ext _ _, fun _ h => h, fun _ h => .inl h, g1, g2, g3, g4, g6⟩
end

end Go.Av
