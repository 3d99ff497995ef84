/- From the row to a contract: what a readable argument is as an abstract value; the law's contract gives the row. -/
import Derived.Test.YteohnapehmdgaaaDoorAZzM
import Derived.ProofKit
import Derived.ShutString
set_option linter.unusedSimpArgs false
set_option linter.unusedVariables false
/-! From the row to a contract: what a readable argument is as an abstract value; the law's contract gives the row. -/
namespace Go.Av
open Go.ChangeShapes Go.WideShapes Go.RowKit

/-- All blocks that are there. -/
def Old (w : World) : Nat → Prop := fun b => b < w.heap.size
structure Reads (w : World) (as : List AV) (cs : List Value) : Prop where
  len : cs.length = as.length
  free : ∀ a ∈ as, a.noRef = true
  vr : ∀ (i : Nat) (a : AV) (u : Value), as[i]? = some a → cs[i]? = some u → VR w (Old w) none_ a u

theorem Reads.one {w : World} {a : AV} {u : Value} (hf : a.noRef = true) (h : VR w (Old w) none_ a u) : Reads w [a] [u] :=
  ⟨rfl, by simp [hf], fun i a' u' h1 h2 => by
    cases i with
    | zero => simp at h1 h2; subst h1; subst h2; exact h
    | succ i => simp at h1⟩
theorem Reads.append {w : World} {as bs : List AV} {cs ds : List Value} (h : Reads w as cs) (k : Reads w bs ds) : Reads w (as ++ bs) (cs ++ ds) :=
  ⟨by simp [h.len, k.len], fun a ha => by rcases List.mem_append.1 ha with g | g; exact h.free a g; exact k.free a g, fun i a u h1 h2 => by
    by_cases hi : i < as.length
    · rw [List.getElem?_append_left hi] at h1
      rw [List.getElem?_append_left (by rw [h.len]; exact hi)] at h2
      exact h.vr i a u h1 h2
    · rw [List.getElem?_append_right (by omega)] at h1
      rw [List.getElem?_append_right (by rw [h.len]; omega), h.len] at h2
      exact k.vr _ a u h1 h2⟩

/-- A type's readable values, as abstract values. -/
def Opens (P : Program) (t : TypeId) {α : Type} (enc : α → List AV) (Ok : α → Prop) : Prop :=
  ∀ (H : Type) (en : TypeId × Value → H) (w : World) (fuel : Nat) (cs : List Value) (x : DataW H × List MemPlace),
    DataW.trod en P w 0 (fun _ => true) true fuel t cs = some x → ∃ y : α, Ok y ∧ Reads w (enc y) cs

theorem Opens.map {P : Program} {t : TypeId} {α β : Type} {enc : α → List AV} {enc' : β → List AV} {Ok : α → Prop} {Ok' : β → Prop} (h : Opens P t enc Ok) (f : α → β) (he : ∀ x, enc' (f x) = enc x) (hok : ∀ x, Ok x → Ok' (f x)) : Opens P t enc' Ok' :=
  fun H en w fuel cs x hx => by
    obtain ⟨y, h1, h2⟩ := h H en w fuel cs x hx
    exact ⟨f y, hok y h1, by rw [he]; exact h2⟩
theorem Opens.mono {P : Program} {t : TypeId} {α : Type} {enc : α → List AV} {Ok Ok' : α → Prop} (h : Opens P t enc Ok) (hok : ∀ x, Ok x → Ok' x) : Opens P t enc Ok' := h.map id (fun _ => rfl) hok

theorem opens_string {P : Program} {t : TypeId} (ht : P.underlying t = some .string) : Opens P t (fun s : ByteArray => [.lit (.string s)]) (fun s => s.size ≤ 9223372036854775807) := fun H en w fuel cs x hx => by
  obtain ⟨s, rfl, _, hs⟩ := DataW.trod_string ht hx
  exact ⟨s, by simpa [maxLen] using hs, .one rfl (.lit _)⟩

theorem flat_len {α : Type} {enc : α → List AV} {sz : Nat} : ∀ {l : List α}, (∀ x ∈ l, (enc x).length = sz) → (l.flatMap enc).length = l.length * sz
  | [], _ => by simp
  | x :: r, h => by
    have h1 := h x (by simp)
    have h2 := flat_len (l := r) (fun y hy => h y (by simp [hy]))
    rw [List.flatMap_cons, List.length_append, h1, h2, List.length_cons, Nat.succ_mul, Nat.add_comm]
theorem flat_drop {α : Type} {enc : α → List AV} {sz : Nat} : ∀ {l : List α} (k : Nat), (∀ x ∈ l, (enc x).length = sz) → (l.flatMap enc).drop (k * sz) = (l.drop k).flatMap enc
  | l, 0, _ => by simp
  | [], k + 1, _ => by simp
  | x :: r, k + 1, h => by
    have h1 := h x (by simp)
    rw [List.flatMap_cons, List.drop_succ_cons, Nat.succ_mul, Nat.add_comm, ← List.drop_drop, List.drop_left' h1]
    exact flat_drop k (fun y hy => h y (by simp [hy]))
theorem flat_get {α : Type} {enc : α → List AV} {sz : Nat} {l : List α} (h : ∀ x ∈ l, (enc x).length = sz) {k j : Nat} (hk : k < l.length) (hj : j < sz) : (l.flatMap enc)[k * sz + j]? = (enc l[k])[j]? := by
  rw [← List.getElem?_drop, flat_drop k h, List.drop_eq_getElem_cons hk, List.flatMap_cons, List.getElem?_append_left (by rw [h _ (List.getElem_mem hk)]; exact hj)]

theorem opens_slice {P : Program} {t e : TypeId} {sz : Nat} {α : Type} {enc : α → List AV} {Ok : α → Prop} (ht : P.underlying t = some (.slice e)) (hsz : P.cellsOf e = sz) (hpos : 0 < sz) (h : Opens P e enc Ok) :
    Opens P t (fun l : List α => [.row false sz l.length (l.flatMap enc)]) (fun l => l.length ≤ 9223372036854775807 ∧ (∀ x ∈ l, (enc x).length = sz) ∧ ∀ x ∈ l, Ok x) := fun H en w fuel cs x hx => by
  rcases DataW.trod_slice ht hx with ⟨rfl, _⟩ | ⟨a, len, cap, elems, rest, n, _, rfl, _, hb, hl, hm, hlen, hel, _, _⟩
  · exact ⟨[], ⟨by simp, by simp, by simp⟩, .one rfl (.row0 sz none 0)⟩
  rw [hsz] at hel
  have each : ∀ i, i < len → ∃ y us, w.cells? 0 (a.add (i * sz)) sz = some us ∧ Ok y ∧ Reads w (enc y) us := fun i hi => by
    have h1 := hel i hi
    rw [List.getElem?_eq_getElem (by omega)] at h1
    obtain ⟨us, h2, h3⟩ := Option.bind_eq_some_iff.1 h1
    obtain ⟨y, h4, h5⟩ := h H en w n us _ h3
    exact ⟨y, us, h2, h4, h5⟩
  have all : ∀ m, m ≤ len → ∃ l : List α, l.length = m ∧ ∀ i (hi : i < l.length), ∃ us, w.cells? 0 (a.add (i * sz)) sz = some us ∧ Ok l[i] ∧ Reads w (enc l[i]) us := by
    intro m
    induction m with
    | zero => exact fun _ => ⟨[], rfl, fun i hi => by simp at hi⟩
    | succ m ih =>
      intro hm
      obtain ⟨l, h1, h2⟩ := ih (by omega)
      obtain ⟨y, us, h3, h4, h5⟩ := each m (by omega)
      refine ⟨l ++ [y], by simp [h1], fun i hi => ?_⟩
      by_cases hi' : i < l.length
      · obtain ⟨us, g⟩ := h2 i hi'
        exact ⟨us, by rw [List.getElem_append_left hi']; exact g⟩
      · have : i = m := by simp at hi; omega
        subst this
        exact ⟨us, h3, by simpa [h1] using h4, by simpa [h1] using h5⟩
  obtain ⟨l, hll, hall⟩ := all len (Nat.le_refl _)
  have hsize : ∀ x ∈ l, (enc x).length = sz := fun x hx => by
    obtain ⟨i, hi, rfl⟩ := List.getElem_of_mem hx
    obtain ⟨us, h1, h2, h3⟩ := hall i hi
    rw [← h3.len]; exact (World.cells?_some h1).2.1
  refine ⟨l, ⟨by simp [maxLen] at hm; omega, hsize, fun x hx => ?_⟩, .one rfl ?_⟩
  · obtain ⟨i, hi, rfl⟩ := List.getElem_of_mem hx
    exact (hall i hi).choose_spec.2.1
  by_cases hl0 : len = 0
  · have : l = [] := List.length_eq_zero_iff.1 (by omega)
    subst this
    subst hl0
    exact .row0 sz _ _
  -- the block
  obtain ⟨us0, hc0, _, hr0⟩ := hall 0 (by omega)
  have hcell0 : w.cell? a = us0[0]? := by
    have := (World.cells?_some hc0).2.2 0 hpos
    simpa [Addr.add] using this
  have hus0 : us0.length = sz := (World.cells?_some hc0).2.1
  obtain ⟨C, e', fr, hblk, hspot⟩ : ∃ C e' fr, w.heap[a.block]? = some (.cells C e' fr) ∧ a.spot = none := by
    rw [List.getElem?_eq_getElem (by omega)] at hcell0
    unfold World.cell? at hcell0
    split at hcell0
    · rename_i C e' fr hh
      refine ⟨C, e', fr, hh, ?_⟩
      cases hs : a.spot with
      | none => rfl
      | some q => simp [hs] at hcell0
    · cases hcell0
  have hcells : ∀ i (hi : i < l.length) j, j < sz → ∃ us : List Value, Reads w (enc l[i]) us ∧ us.length = sz ∧ C[a.off + (i * sz + j)]? = us[j]? := fun i hi j hj => by
    obtain ⟨us, h1, h2, h3⟩ := hall i hi
    refine ⟨us, h3, (World.cells?_some h1).2.1, ?_⟩
    have := (World.cells?_some h1).2.2 j hj
    rw [← this]
    have e1 : ((a.add (i * sz)).add j) = ⟨a.block, a.off + (i * sz + j), none⟩ := by
      obtain ⟨b, o, sp⟩ := a
      simp only at hspot
      subst hspot
      simp only [Addr.add]
      split <;> split <;> simp <;> omega
    rw [e1]
    simp [World.cell?, hblk]
  have hflen : (l.flatMap enc).length = l.length * sz := flat_len hsize
  have hdm : ∀ i, i < (l.flatMap enc).length → i / sz < l.length ∧ i % sz < sz ∧ i / sz * sz + i % sz = i := fun i hi => by
    rw [hflen] at hi
    exact ⟨Nat.div_lt_of_lt_mul (by rw [Nat.mul_comm]; exact hi), Nat.mod_lt _ hpos, Nat.div_add_mod' i sz⟩
  obtain ⟨b, o, sp⟩ := a
  simp only at hspot hblk hcells
  subst hspot
  rw [← hll]
  refine .row sz l.length cap b o (l.flatMap enc) (fun i => (C[o + i]?).getD default) C e' fr (by
      show b < w.heap.size
      have := (Array.getElem?_eq_some_iff.1 hblk).1
      exact this) hblk hflen (by omega) (by simp [maxLen] at hm; omega) (fun i hi => ?_) (fun x hx => ?_) (fun i x hx => ?_)
  · obtain ⟨h1, h2, h3⟩ := hdm i hi
    obtain ⟨us, g1, g2, g3⟩ := hcells (i / sz) h1 (i % sz) h2
    rw [h3] at g3
    rw [g3, List.getElem?_eq_getElem (by omega)]
    rfl
  · obtain ⟨y, hy, hxy⟩ := List.mem_flatMap.1 hx
    obtain ⟨i, hi, rfl⟩ := List.getElem_of_mem hy
    obtain ⟨us, g1, g2, g3⟩ := hall i hi
    exact g3.free x hxy
  · have hi : i < (l.flatMap enc).length := (List.getElem?_eq_some_iff.1 hx).1
    obtain ⟨h1, h2, h3⟩ := hdm i hi
    obtain ⟨us, g1, g2, g3⟩ := hcells (i / sz) h1 (i % sz) h2
    rw [h3] at g3
    have hx' := hx
    rw [← h3, flat_get hsize h1 h2] at hx'
    rw [g3, List.getElem?_eq_getElem (by omega)]
    exact g1.vr _ x _ hx' (List.getElem?_eq_getElem (by omega))

/-- A struct's fields, one behind the other. -/
def OpensF (P : Program) (fs : List Field) (off tot : Nat) {α : Type} (enc : α → List AV) (Ok : α → Prop) : Prop :=
  ∀ (H : Type) (en : TypeId × Value → H) (w : World) (n : Nat) (cs : List Value),
    (∀ (i : Nat) (f : Field), fs[i]? = some f → ∃ x, DataW.trod en P w 0 (fun _ => true) true n f.type ((cs.drop f.offset).take (P.cellsOf f.type)) = some x) →
    off + tot ≤ cs.length → ∃ y : α, Ok y ∧ Reads w (enc y) ((cs.drop off).take tot)
theorem OpensF.nil {P : Program} {off : Nat} : OpensF P [] off 0 (fun _ : Unit => []) (fun _ => True) := fun H en w n cs _ _ => ⟨(), trivial, by simp, by simp, by simp⟩
theorem OpensF.cons {P : Program} {f : Field} {fs : List Field} {off s tot : Nat} {α β : Type} {enc : α → List AV} {Ok : α → Prop} {enc' : β → List AV} {Ok' : β → Prop} (ho : f.offset = off) (hs : P.cellsOf f.type = s) (h : Opens P f.type enc Ok) (k : OpensF P fs (off + s) tot enc' Ok') :
    OpensF P (f :: fs) off (s + tot) (fun p : α × β => enc p.1 ++ enc' p.2) (fun p => Ok p.1 ∧ Ok' p.2) := fun H en w n cs hx hl => by
  obtain ⟨x, hx0⟩ := hx 0 f rfl
  rw [ho, hs] at hx0
  obtain ⟨y, h1, h2⟩ := h H en w n _ x hx0
  obtain ⟨z, h3, h4⟩ := k H en w n cs (fun i g hg => hx (i + 1) g (by simpa using hg)) (by omega)
  refine ⟨(y, z), ⟨h1, h3⟩, ?_⟩
  have : (cs.drop off).take (s + tot) = (cs.drop off).take s ++ (cs.drop (off + s)).take tot := by
    rw [List.take_add, List.drop_drop]
  rw [this]
  exact h2.append h4
theorem opens_struct {P : Program} {t : TypeId} {fs : Array Field} {α : Type} {enc : α → List AV} {Ok : α → Prop} {tot : Nat} (ht : P.underlying t = some (.struct fs)) (hc : P.cellsOf t = tot) (h : OpensF P fs.toList 0 tot enc Ok) : Opens P t enc Ok := fun H en w fuel cs x hx => by
  obtain ⟨xs, n, _, _, hl, hxl, hf⟩ := DataW.trod_struct ht hx
  obtain ⟨y, h1, h2⟩ := h H en w n cs (fun i f hfi => by
    have hi : i < xs.length := by
      have := (List.getElem?_eq_some_iff.1 hfi).1
      simp at this; omega
    exact ⟨xs[i], by rw [hf i f (by simpa using hfi), List.getElem?_eq_getElem hi]⟩) (by omega)
  refine ⟨y, h1, ?_⟩
  have : (cs.drop 0).take tot = cs := by rw [List.drop_zero, List.take_of_length_le (by omega)]
  rwa [this] at h2

/-- An argument. -/
def OpensA (P : Program) (t : TypeId) {α : Type} (enc : α → AV) (Ok : α → Prop) : Prop :=
  ∀ (H : Type) (en : TypeId × Value → H) (w : World) (base : Nat) (v : Value) (d : DataW H) (ps : List MemPlace),
    Value.okWide P w .any base t v → DataW.Trod en P w 0 (fun _ => true) true t v d ps → ∃ y : α, Ok y ∧ (enc y).noRef = true ∧ VR w (Old w) none_ (enc y) v
theorem OpensA.map {P : Program} {t : TypeId} {α β : Type} {enc : α → AV} {enc' : β → AV} {Ok : α → Prop} {Ok' : β → Prop} (h : OpensA P t enc Ok) (f : α → β) (he : ∀ x, enc' (f x) = enc x) (hok : ∀ x, Ok x → Ok' (f x)) : OpensA P t enc' Ok' :=
  fun H en w base v d ps hv hx => by
    obtain ⟨y, h1, h2, h3⟩ := h H en w base v d ps hv hx
    exact ⟨f y, hok y h1, by rw [he]; exact h2, by rw [he]; exact h3⟩
theorem Reads.get {w : World} {a : AV} {v : Value} (h : Reads w [a] [v]) : a.noRef = true ∧ VR w (Old w) none_ a v := ⟨h.free a (by simp), h.vr 0 a v rfl rfl⟩
theorem opensA_one {P : Program} {t : TypeId} {α : Type} {enc : α → List AV} {en1 : α → AV} {Ok : α → Prop} (h : Opens P t enc Ok) (he : ∀ y, enc y = [en1 y]) (hc : ∀ w base v, Value.okWide P w .any base t v → v.cells.toList = [v]) : OpensA P t en1 Ok := fun H en w base v d ps hv ⟨fuel, hx⟩ => by
  rw [hc w base v hv] at hx
  obtain ⟨y, h1, h2⟩ := h H en w fuel _ _ hx
  rw [he] at h2
  exact ⟨y, h1, h2.get⟩
theorem opensA_slice {P : Program} {t e : TypeId} {sz : Nat} {α : Type} {enc : α → List AV} {Ok : α → Prop} (ht : P.underlying t = some (.slice e)) (hsz : P.cellsOf e = sz) (hpos : 0 < sz) (h : Opens P e enc Ok) :
    OpensA P t (fun l : List α => .row false sz l.length (l.flatMap enc)) (fun l => l.length ≤ 9223372036854775807 ∧ (∀ x ∈ l, (enc x).length = sz) ∧ ∀ x ∈ l, Ok x) :=
  opensA_one (opens_slice ht hsz hpos h) (fun _ => rfl) (fun w b v h => by obtain ⟨a, l, c, rfl⟩ := okWide_slice ht h; rfl)
/-- All arguments of a call. -/
def OpensAll (P : Program) (ts : List TypeId) {α : Type} (enc : α → List AV) (Ok : α → Prop) : Prop :=
  ∀ (H : Type) (en : TypeId × Value → H) (w : World) (base : Nat) (vs : List Value) (ds : List (DataW H)) (ps : List MemPlace),
    (∀ (j : Nat) t v, ts[j]? = some t → vs[j]? = some v → Value.okWide P w .any base t v) → DataW.TrodAll en P w 0 (fun _ => true) true ts vs ds ps → ∃ y : α, Ok y ∧ Reads w (enc y) vs
theorem OpensAll.nil {P : Program} : OpensAll P [] (fun _ : Unit => []) (fun _ => True) := fun H en w base vs ds ps _ h => by
  cases vs with
  | nil => exact ⟨(), trivial, by simp, by simp, by simp⟩
  | cons => simp [DataW.TrodAll] at h
theorem OpensAll.cons {P : Program} {t : TypeId} {ts : List TypeId} {α β : Type} {enc : α → AV} {Ok : α → Prop} {enc' : β → List AV} {Ok' : β → Prop} (h : OpensA P t enc Ok) (k : OpensAll P ts enc' Ok') :
    OpensAll P (t :: ts) (fun p : α × β => enc p.1 :: enc' p.2) (fun p => Ok p.1 ∧ Ok' p.2) := fun H en w base vs ds ps hv hx => by
  match vs, ds, hx with
  | v :: vs, d :: ds, ⟨p, q, h1, h2, _⟩ =>
    obtain ⟨y, a1, a2, a3⟩ := h H en w base v d p (hv 0 t v rfl rfl) h1
    obtain ⟨z, b1, b2⟩ := k H en w base vs ds q (fun j t v e1 e2 => hv (j + 1) t v (by simpa using e1) (by simpa using e2)) h2
    exact ⟨(y, z), ⟨a1, b1⟩, (Reads.one a2 a3).append b2⟩

theorem Ext.below {w w' : World} (h : Ext (fun _ => False) w w') : Below w.heap.size w w' := ⟨h.os, h.tape, h.output, h.size, fun k hk => h.block k hk (fun h => h)⟩

theorem trodAll_stays {H : Type} {en : TypeId × Value → H} {P : Program} (hl : laidOutB P = true) {W W' : World} (hb : Below W.heap.size W W') : ∀ {ts : List TypeId} {vs : List Value} {ds : List (DataW H)} {ps : List MemPlace}, (∀ t ∈ ts, P.readableRec t = true ∧ t < P.types.size) →
    DataW.TrodAll en P W 0 (fun _ => true) true ts vs ds ps → DataW.TrodAll en P W' 0 (fun b => decide (b < W.heap.size)) true ts vs ds ps
  | [], [], [], _, _, h => h
  | t :: ts, v :: vs, d :: ds, ps, ht, ⟨p, q, h1, h2, e⟩ => ⟨p, q, Below.trod hl (ht t (by simp)).1 (ht t (by simp)).2 h1 hb (fun x hx => by obtain ⟨fuel, hf⟩ := h1; exact DataW.trod_lt _ _ _ _ hf x hx), trodAll_stays hl hb (fun t h => ht t (by simp [h])) h2, e⟩
  | [], _ :: _, _, _, _, h => by simp [DataW.TrodAll] at h
  | [], [], _ :: _, _, _, h => by simp [DataW.TrodAll] at h
  | _ :: _, [], _, _, _, h => by simp [DataW.TrodAll] at h
  | _ :: _, _ :: _, [], _, _, h => by simp [DataW.TrodAll] at h

/-- A LAW's ROW, from its contract. -/
theorem law_calls {H : Type} {en : TypeId × Value → H} {P : Program} {f : FuncId} {fn : Func} {s : ChangeSpec} {apart fresh handsOn : Bool} {α : Type} {enc : α → List AV} {Ok : α → Prop} {tb : TypeId}
    (hl : laidOutB P = true) (hr : ∀ t ∈ fn.params.toList, P.readableRec t = true ∧ t < P.types.size) (hvars : s.vars = []) (hres : fn.resultTypes = #[tb]) (hb : P.underlying tb = some .bool)
    (ho : OpensAll P fn.params.toList enc Ok) (hdoes : ∀ y, Ok y → Does P f (enc y) (.lit (.bool true)))
    (W : World) (base : Nat) (args : Array Value) (ds gs : List (DataW H)) (before : List MemPlace)
    (hspec : ds.length = fn.params.size → (s.fn H ds).results = [.lit (.bool true)] ∧ (s.fn H ds).args = ds ∧ (s.fn H ds).vars = [])
    (hval : ∀ (j : Nat) t v, fn.params[j]? = some t → args[j]? = some v → Value.okWide P W .any base t v)
    (hW : DataW.Whole en P fn.params.toList s.vars apart W args.toList ds gs before) :
    Calls P f args W fun e W' => ∃ v, e = .returned v ∧ s.post en P fn apart fresh handsOn false W args v W' := by
  have hW' := hW
  obtain ⟨p, q, hA, hV, rfl, hfz, hnd⟩ := hW
  rw [hvars] at hV
  have hgs : gs = [] ∧ q = [] := by
    cases gs with
    | nil => exact ⟨rfl, by simpa [DataW.TrodVars] using hV⟩
    | cons => simp [DataW.TrodVars] at hV
  obtain ⟨rfl, rfl⟩ := hgs
  have hlen : ∀ {ts : List TypeId} {vs : List Value} {ds : List (DataW H)} {ps : List MemPlace}, DataW.TrodAll en P W 0 (fun _ => true) true ts vs ds ps → ds.length = ts.length := by
    intro ts
    induction ts with
    | nil => intro vs ds ps h; cases vs <;> cases ds <;> simp [DataW.TrodAll] at h ⊢
    | cons t ts ih =>
      intro vs ds ps h
      match vs, ds, h with
      | v :: vs, d :: ds, ⟨_, _, _, h2, _⟩ => simp [ih h2]
  obtain ⟨e1, e2, e3⟩ := hspec (by simpa using hlen hA)
  obtain ⟨y, hok, hrd⟩ := ho H en W base args.toList ds p (fun j t v h1 h2 => hval j t v (by simpa using h1) (by simpa using h2)) hA
  have := hdoes y hok W (Old W) args.toList (fun x hx => hx) hrd.len hrd.vr
  rw [Array.toArray_toList] at this
  refine this.mono fun e W' ⟨T, he, hT, hext, _, _, G', _, _, _, hsat⟩ => ?_
  have hv : T.value = .bool true := by
    cases hsat with
    | leaf a v ha h =>
      simp only [HT.erase] at hT
      subst hT
      cases h
      rfl
    | row => simp [HT.erase] at hT
    | nilrow => simp [HT.erase] at hT
    | box => simp [HT.erase] at hT
    | agg => simp [HT.erase] at hT
    | tup => simp [HT.erase] at hT
  refine ⟨.bool true, by rw [he, hv], ds, [], p ++ [], [], p, [], hW', ?_, ?_, ?_, hext.below.frame _, fun h => by cases h⟩
  · rw [List.append_nil, e1, hres]
    exact trodAll_mk1 (shut_bool hb true)
  · rw [List.append_nil, e2]
    exact trodAll_stays hl hext.below hr hA
  · rw [List.append_nil, e3, hvars]
    simp [DataW.TrodVars]
end Go.Av
