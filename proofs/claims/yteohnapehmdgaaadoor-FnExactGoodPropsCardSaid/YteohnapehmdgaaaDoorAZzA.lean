/- Abstract values: what a Go value reads as, without memory. -/
import Derived.WalkKit
import Derived.KernelRfl
/-! Abstract values: what a Go value reads as, without memory. -/
set_option linter.unusedSimpArgs false
set_option linter.unusedVariables false
namespace Go.Av
/-- An equation that 'simp' is to prove step by step. -/
theorem nrfl {α : Sort _} {a b : α} (h : a = b) : a = b := h

/-- What a slot holds, as the proofs see it. 'row true', 'box true': memory that belongs to this value alone. 'row false', 'box false': memory that nobody writes. -/
inductive AV where
  | lit (v : Value)
  | row (o : Bool) (sz n : Nat) (cs : List AV)
  | box (o : Bool) (cs : List AV)
  | agg (cs : List AV)
  | tup (cs : List AV)
  | fn (f : FuncId) (caps : List AV)
  | sl (r : Nat) (p : List Nat) (off len : Nat)
  | ptr (r : Nat) (p : List Nat) (o : Nat)
  | junk
  deriving Inhabited

/-- What belongs to a value, with its addresses. -/
inductive HT where
  | leaf (a : AV) (v : Value)
  | row (b sz n cap : Nat) (cs : List HT)
  | nilrow (sz : Nat)
  | box (b : Nat) (cs : List HT)
  | agg (cs : List HT)
  | tup (cs : List HT)
  deriving Inhabited

namespace HT
mutual
def value : HT → Value
  | .leaf _ v => v
  | .row b _ n cap _ => .slice (some ⟨b, 0, none⟩) n cap
  | .nilrow _ => .slice none 0 0
  | .box b _ => .pointer (some ⟨b, 0, none⟩)
  | .agg cs => .agg (values cs).toArray
  | .tup cs => .tuple (values cs).toArray
def values : List HT → List Value
  | [] => []
  | c :: r => value c :: values r
end
mutual
def erase : HT → AV
  | .leaf a _ => a
  | .row _ sz n _ cs => .row true sz n (erases cs)
  | .nilrow sz => .row true sz 0 []
  | .box _ cs => .box true (erases cs)
  | .agg cs => .agg (erases cs)
  | .tup cs => .tup (erases cs)
def erases : List HT → List AV
  | [] => []
  | c :: r => erase c :: erases r
end
mutual
def blocks : HT → List Nat
  | .leaf _ _ => []
  | .row b _ _ _ cs => b :: blockss cs
  | .nilrow _ => []
  | .box b cs => b :: blockss cs
  | .agg cs => blockss cs
  | .tup cs => blockss cs
def blockss : List HT → List Nat
  | [] => []
  | c :: r => blocks c ++ blockss r
end
theorem values_eq (cs : List HT) : values cs = cs.map value := by
  induction cs with
  | nil => simp [values]
  | cons c r ih => simp [values, ih]
theorem erases_eq (cs : List HT) : erases cs = cs.map erase := by
  induction cs with
  | nil => simp [erases]
  | cons c r ih => simp [erases, ih]
theorem blockss_eq (cs : List HT) : blockss cs = cs.flatMap blocks := by
  induction cs with
  | nil => simp [blockss]
  | cons c r ih => simp [blockss, ih]

/-- The parts of a node that belong to it. -/
def kids : HT → List HT
  | .row _ _ _ _ cs | .box _ cs | .agg cs | .tup cs => cs
  | _ => []
def withKids : HT → List HT → HT
  | .row b sz n cap _, cs => .row b sz n cap cs
  | .box b _, cs => .box b cs
  | .agg _, cs => .agg cs
  | .tup _, cs => .tup cs
  | t, _ => t
def at_ : HT → List Nat → Option HT
  | t, [] => some t
  | t, i :: p => match t.kids[i]? with
    | some c => c.at_ p
    | none => none
def upd : HT → List Nat → HT → HT
  | _, [], n => n
  | t, i :: p, n => match t.kids[i]? with
    | some c => t.withKids (t.kids.set i (c.upd p n))
    | none => t
end HT

mutual
def AV.noRef : AV → Bool
  | .lit _ | .junk | .row false _ _ _ | .box false _ => true
  | .agg cs | .tup cs | .fn _ cs => AV.noRefs cs
  | _ => false
def AV.noRefs : List AV → Bool
  | [] => true
  | c :: r => c.noRef && AV.noRefs r
end
theorem AV.noRefs_mem {cs : List AV} : AV.noRefs cs = true ↔ ∀ a ∈ cs, a.noRef = true := by
  induction cs with
  | nil => simp [AV.noRefs]
  | cons c r ih => simp [AV.noRefs, ih]
namespace AV
def kids : AV → List AV
  | .row true _ _ cs | .box true cs | .agg cs | .tup cs => cs
  | _ => []
def withKids : AV → List AV → AV
  | .row true sz n _, cs => .row true sz n cs
  | .box true _, cs => .box true cs
  | .agg _, cs => .agg cs
  | .tup _, cs => .tup cs
  | t, _ => t
def at_ : AV → List Nat → Option AV
  | t, [] => some t
  | t, i :: p => match t.kids[i]? with
    | some c => c.at_ p
    | none => none
def upd : AV → List Nat → AV → AV
  | _, [], n => n
  | t, i :: p, n => match t.kids[i]? with
    | some c => t.withKids (t.kids.set i (c.upd p n))
    | none => t
/-- May such a value stand as a leaf? -/
def leafOk : AV → Bool
  | .lit _ | .row false _ _ _ | .box false _ | .junk => true
  | .fn _ cs => noRefs cs
  | _ => false
end AV

/-- What a value reads as: 'G': the blocks that nobody writes; 'm': what belongs to the call. -/
inductive VR (w : World) (G : Nat → Prop) : (Nat → Option HT) → AV → Value → Prop
  | lit {m} (v : Value) : VR w G m (.lit v) v
  | junk {m} (v : Value) : VR w G m .junk v
  | row0 {m} (sz : Nat) (A : Option Addr) (c : Nat) : VR w G m (.row false sz 0 []) (.slice A 0 c)
  | row {m} (sz n c : Nat) (b off : Nat) (cs : List AV) (us : Nat → Value) (C : Array Value) (e : TypeId) (fr : Nat × Nat)
      (hG : G b) (hb : w.heap[b]? = some (.cells C e fr)) (hn : cs.length = n * sz) (hc : n ≤ c) (hmax : n ≤ 9223372036854775807) (hu : ∀ i, i < cs.length → C[off + i]? = some (us i))
      (hr : ∀ a ∈ cs, a.noRef = true) (h : ∀ (i : Nat) (a : AV), cs[i]? = some a → VR w G (fun _ => none) a (us i)) : VR w G m (.row false sz n cs) (.slice (some ⟨b, off, none⟩) n c)
  | box {m} (b off : Nat) (cs : List AV) (us : Nat → Value) (C : Array Value) (e : TypeId) (fr : Nat × Nat)
      (hG : G b) (hb : w.heap[b]? = some (.cells C e fr)) (hu : ∀ i, i < cs.length → C[off + i]? = some (us i))
      (hr : ∀ a ∈ cs, a.noRef = true) (h : ∀ (i : Nat) (a : AV), cs[i]? = some a → VR w G (fun _ => none) a (us i)) : VR w G m (.box false cs) (.pointer (some ⟨b, off, none⟩))
  | agg {m} (cs : List AV) (us : List Value) (hl : us.length = cs.length) (h : ∀ (i : Nat) (a : AV) (u : Value), cs[i]? = some a → us[i]? = some u → VR w G m a u) : VR w G m (.agg cs) (.agg us.toArray)
  | tup {m} (cs : List AV) (us : List Value) (hl : us.length = cs.length) (h : ∀ (i : Nat) (a : AV) (u : Value), cs[i]? = some a → us[i]? = some u → VR w G m a u) : VR w G m (.tup cs) (.tuple us.toArray)
  | fn {m} (f : FuncId) (cs : List AV) (us : List Value) (hl : us.length = cs.length) (h : ∀ (i : Nat) (a : AV) (u : Value), cs[i]? = some a → us[i]? = some u → VR w G m a u) : VR w G m (.fn f cs) (.func (.func f) #[] us.toArray)
  | sl {m} (r : Nat) (p : List Nat) (off len : Nat) (v : Value)
      (h : ∀ T, m r = some T → ∀ b sz n cap cs, T.at_ p = some (.row b sz n cap cs) → off + len ≤ n → ∃ A c, v = .slice A len c ∧ len ≤ c ∧ c + off ≤ cap ∧ (c = 0 ∨ A = some ⟨b, off * sz, none⟩) ∧ (off = 0 → c = cap ∧ A = some ⟨b, 0, none⟩))
      (h0 : ∀ T, m r = some T → ∀ sz, T.at_ p = some (.nilrow sz) → off + len ≤ 0 → v = .slice none 0 0) : VR w G m (.sl r p off len) v
  | ptr {m} (r : Nat) (p : List Nat) (o : Nat) (v : Value)
      (h : ∀ T, m r = some T → ∀ b sz n cap cs, T.at_ p = some (.row b sz n cap cs) → v = .pointer (some ⟨b, o, none⟩))
      (h' : ∀ T, m r = some T → ∀ b cs, T.at_ p = some (.box b cs) → v = .pointer (some ⟨b, o, none⟩)) : VR w G m (.ptr r p o) v

/-- What belongs to a value lies in memory as it says. -/
inductive Sat (w : World) (G : Nat → Prop) : HT → Prop
  | leaf (a : AV) (v : Value) (ha : a.leafOk = true) (h : VR w G (fun _ => none) a v) : Sat w G (.leaf a v)
  | row (b sz n cap : Nat) (cs : List HT) (C : Array Value) (e : TypeId) (hb : w.heap[b]? = some (.cells C e (0, 0))) (hn : cs.length = n * sz) (hc : n ≤ cap)
      (hcap : C.size = cap * sz) (hsz : 0 < sz) (hmax : cap ≤ 9223372036854775807) (hu : ∀ (i : Nat) (T : HT), cs[i]? = some T → C[i]? = some T.value) (h : ∀ (i : Nat) (T : HT), cs[i]? = some T → Sat w G T) : Sat w G (.row b sz n cap cs)
  | nilrow (sz : Nat) : Sat w G (.nilrow sz)
  | box (b : Nat) (cs : List HT) (C : Array Value) (e : TypeId) (hb : w.heap[b]? = some (.cells C e (0, 0))) (hn : cs.length = C.size)
      (hu : ∀ (i : Nat) (T : HT), cs[i]? = some T → C[i]? = some T.value) (h : ∀ (i : Nat) (T : HT), cs[i]? = some T → Sat w G T) : Sat w G (.box b cs)
  | agg (cs : List HT) (h : ∀ (i : Nat) (T : HT), cs[i]? = some T → Sat w G T) : Sat w G (.agg cs)
  | tup (cs : List HT) (h : ∀ (i : Nat) (T : HT), cs[i]? = some T → Sat w G T) : Sat w G (.tup cs)

abbrev none_ : Nat → Option HT := fun _ => none

theorem VR.congr {w w' : World} {G G' : Nat → Prop} {m : Nat → Option HT} {a : AV} {v : Value} (h : VR w G m a v)
    (hb : ∀ b, G b → w'.heap[b]? = w.heap[b]?) (hG : ∀ b, G b → G' b) : VR w' G' m a v := by
  induction h with
  | lit v => exact .lit v
  | junk v => exact .junk v
  | row0 sz A c => exact .row0 sz A c
  | row sz n c b off cs us C e fr h1 h2 h3 h4 h5 h6 h7 _ ih => exact .row sz n c b off cs us C e fr (hG _ h1) ((hb _ h1).trans h2) h3 h4 h5 h6 h7 ih
  | box b off cs us C e fr h1 h2 h6 h7 _ ih => exact .box b off cs us C e fr (hG _ h1) ((hb _ h1).trans h2) h6 h7 ih
  | agg cs us hl _ ih => exact .agg cs us hl ih
  | tup cs us hl _ ih => exact .tup cs us hl ih
  | fn f cs us hl _ ih => exact .fn f cs us hl ih
  | sl r p off len v h h0 => exact .sl r p off len v h h0
  | ptr r p o v h h' => exact .ptr r p o v h h'

/-- Other memory of the call's own: what is read stays read, where each region that is left is the region that it was. -/
theorem VR.less {w : World} {G : Nat → Prop} {m m' : Nat → Option HT} {a : AV} {v : Value} (h : VR w G m a v)
    (hm : ∀ r T, m' r = some T → m r = some T) : VR w G m' a v := by
  induction h with
  | lit v => exact .lit v
  | junk v => exact .junk v
  | row0 sz A c => exact .row0 sz A c
  | row sz n c b off cs us C e fr h1 h2 h3 h4 h5 h6 h7 h8 _ => exact .row sz n c b off cs us C e fr h1 h2 h3 h4 h5 h6 h7 h8
  | box b off cs us C e fr h1 h2 h6 h7 h8 _ => exact .box b off cs us C e fr h1 h2 h6 h7 h8
  | agg cs us hl _ ih => exact .agg cs us hl (fun i a u x y => ih i a u x y hm)
  | tup cs us hl _ ih => exact .tup cs us hl (fun i a u x y => ih i a u x y hm)
  | fn f cs us hl _ ih => exact .fn f cs us hl (fun i a u x y => ih i a u x y hm)
  | sl r p off len v h h0 => exact .sl r p off len v (fun T hT => h T (hm _ _ hT)) (fun T hT => h0 T (hm _ _ hT))
  | ptr r p o v h h' => exact .ptr r p o v (fun T hT => h T (hm _ _ hT)) (fun T hT => h' T (hm _ _ hT))

/-- What names no place of the call's own is the same to every call. -/
theorem VR.free {w : World} {G : Nat → Prop} {m m' : Nat → Option HT} {a : AV} {v : Value} (h : VR w G m a v) (hr : a.noRef = true) : VR w G m' a v := by
  induction h with
  | lit v => exact .lit v
  | junk v => exact .junk v
  | row0 sz A c => exact .row0 sz A c
  | row sz n c b off cs us C e fr h1 h2 h3 h4 h5 h6 h7 h8 _ => exact .row sz n c b off cs us C e fr h1 h2 h3 h4 h5 h6 h7 h8
  | box b off cs us C e fr h1 h2 h6 h7 h8 _ => exact .box b off cs us C e fr h1 h2 h6 h7 h8
  | agg cs us hl _ ih => exact .agg cs us hl (fun i a u x y => ih i a u x y (AV.noRefs_mem.1 (by simpa [AV.noRef] using hr) a (List.mem_of_getElem? x)))
  | tup cs us hl _ ih => exact .tup cs us hl (fun i a u x y => ih i a u x y (AV.noRefs_mem.1 (by simpa [AV.noRef] using hr) a (List.mem_of_getElem? x)))
  | fn f cs us hl _ ih => exact .fn f cs us hl (fun i a u x y => ih i a u x y (AV.noRefs_mem.1 (by simpa [AV.noRef] using hr) a (List.mem_of_getElem? x)))
  | sl => simp [AV.noRef] at hr
  | ptr => simp [AV.noRef] at hr

theorem Sat.congr {w w' : World} {G G' : Nat → Prop} {T : HT} (h : Sat w G T)
    (hb : ∀ b, b ∈ T.blocks → w'.heap[b]? = w.heap[b]?) (hg : ∀ b, G b → w'.heap[b]? = w.heap[b]?) (hG : ∀ b, G b → G' b) : Sat w' G' T := by
  induction h with
  | leaf a v ha h => exact .leaf a v ha (h.congr hg hG)
  | row b sz n cap cs C e h1 h2 h3 h4 h4' h5 h6 _ ih =>
    refine .row b sz n cap cs C e ((hb b (by simp [HT.blocks])).trans h1) h2 h3 h4 h4' h5 h6 (fun i T hi => ih i T hi (fun x hx => hb x ?_))
    simp only [HT.blocks, HT.blockss_eq, List.mem_cons, List.mem_flatMap]
    exact .inr ⟨T, List.mem_of_getElem? hi, hx⟩
  | nilrow sz => exact .nilrow sz
  | box b cs C e h1 h2 h6 _ ih =>
    refine .box b cs C e ((hb b (by simp [HT.blocks])).trans h1) h2 h6 (fun i T hi => ih i T hi (fun x hx => hb x ?_))
    simp only [HT.blocks, HT.blockss_eq, List.mem_cons, List.mem_flatMap]
    exact .inr ⟨T, List.mem_of_getElem? hi, hx⟩
  | agg cs _ ih =>
    refine .agg cs (fun i T hi => ih i T hi (fun x hx => hb x ?_))
    simp only [HT.blocks, HT.blockss_eq, List.mem_flatMap]
    exact ⟨T, List.mem_of_getElem? hi, hx⟩
  | tup cs _ ih =>
    refine .tup cs (fun i T hi => ih i T hi (fun x hx => hb x ?_))
    simp only [HT.blocks, HT.blockss_eq, List.mem_flatMap]
    exact ⟨T, List.mem_of_getElem? hi, hx⟩

theorem Sat.kids {w : World} {G : Nat → Prop} {T : HT} (h : Sat w G T) (i : Nat) (c : HT) (hc : T.kids[i]? = some c) : Sat w G c := by
  cases h with
  | leaf a v ha h => simp [HT.kids] at hc
  | nilrow sz => simp [HT.kids] at hc
  | row b sz n cap cs C e _ _ _ _ _ _ _ h => exact h i c hc
  | box b cs C e _ _ _ h => exact h i c hc
  | agg cs h => exact h i c hc
  | tup cs h => exact h i c hc

theorem mem_kids {T c : HT} {i : Nat} (hc : T.kids[i]? = some c) {x : Nat} (hx : x ∈ c.blocks) : x ∈ T.blocks := by
  have hm := List.mem_of_getElem? hc
  cases T <;> simp_all [HT.kids, HT.blocks, HT.blockss_eq]
  · exact .inr ⟨c, hm, hx⟩
  · exact .inr ⟨c, hm, hx⟩
  · exact ⟨c, hm, hx⟩
  · exact ⟨c, hm, hx⟩

theorem erase_kids {w : World} {G : Nat → Prop} {T : HT} (h : Sat w G T) : T.erase.kids = T.kids.map HT.erase := by
  cases h with
  | leaf a v ha h =>
    cases a with
    | row o sz n cs => cases o <;> simp_all [AV.leafOk, HT.erase, AV.kids, HT.kids]
    | box o cs => cases o <;> simp_all [AV.leafOk, HT.erase, AV.kids, HT.kids]
    | _ => simp_all [AV.leafOk, HT.erase, AV.kids, HT.kids]
  | _ => simp [HT.erase, AV.kids, HT.kids, HT.erases_eq]

theorem Sat.at_ {w : World} {G : Nat → Prop} : ∀ (p : List Nat) {T N : HT}, Sat w G T → T.at_ p = some N → Sat w G N
  | [], T, N, h, hn => by simp only [HT.at_, Option.some.injEq] at hn; exact hn ▸ h
  | i :: p, T, N, h, hn => by
    simp only [HT.at_] at hn
    split at hn
    · rename_i c hc; exact Sat.at_ p (h.kids i c hc) hn
    · cases hn

theorem erase_at {w : World} {G : Nat → Prop} : ∀ (p : List Nat) {T : HT} {A : AV}, Sat w G T → T.erase.at_ p = some A → ∃ N, T.at_ p = some N ∧ N.erase = A
  | [], T, A, _, hn => by simp only [AV.at_, Option.some.injEq] at hn; exact ⟨T, rfl, hn⟩
  | i :: p, T, A, h, hn => by
    simp only [AV.at_, erase_kids h, List.getElem?_map] at hn
    cases hc : T.kids[i]? with
    | none => simp [hc] at hn
    | some c =>
      simp only [hc, Option.map_some] at hn
      obtain ⟨N, hN, hA⟩ := erase_at p (h.kids i c hc) hn
      exact ⟨N, by simp [HT.at_, hc, hN], hA⟩

theorem at_blocks : ∀ (p : List Nat) {T N : HT}, T.at_ p = some N → ∀ x ∈ N.blocks, x ∈ T.blocks
  | [], T, N, hn, x, hx => by simp only [HT.at_, Option.some.injEq] at hn; exact hn ▸ hx
  | i :: p, T, N, hn, x, hx => by
    simp only [HT.at_] at hn
    split at hn
    · rename_i c hc; exact mem_kids hc (at_blocks p hn x hx)
    · cases hn


namespace HT
def ownb : HT → List Nat
  | .row b _ _ _ _ | .box b _ => [b]
  | _ => []
theorem blocks_kids (T : HT) : T.blocks = T.ownb ++ T.kids.flatMap blocks := by
  cases T <;> simp [blocks, ownb, kids, blockss_eq]
theorem withKids_blocks {T c : HT} {i : Nat} (hc : T.kids[i]? = some c) (cs : List HT) : (T.withKids cs).blocks = T.ownb ++ cs.flatMap blocks := by
  cases T <;> simp_all [blocks, ownb, kids, blockss_eq, withKids]
theorem withKids_kids {T c : HT} {i : Nat} (hc : T.kids[i]? = some c) (cs : List HT) : (T.withKids cs).kids = cs := by
  cases T <;> simp_all [kids, withKids]
/-- A node without its parts. -/
def hd : HT → HT
  | .row b sz n cap _ => .row b sz n cap []
  | .box b _ => .box b []
  | .nilrow sz => .nilrow sz
  | _ => .leaf .junk undef
def isMem : HT → Bool
  | .row .. | .box .. | .nilrow .. => true
  | _ => false
theorem withKids_hd {T c : HT} {i : Nat} (hc : T.kids[i]? = some c) (cs : List HT) : (T.withKids cs).hd = T.hd := by
  cases T <;> simp_all [kids, withKids, hd]
end HT

theorem flatMap_set {α β : Type} (f : α → List β) (l : List α) (i : Nat) (c c' : α) (h : l[i]? = some c) :
    l.flatMap f = (l.take i).flatMap f ++ (f c ++ (l.drop (i + 1)).flatMap f) ∧ (l.set i c').flatMap f = (l.take i).flatMap f ++ (f c' ++ (l.drop (i + 1)).flatMap f) := by
  obtain ⟨hi, hc⟩ := List.getElem?_eq_some_iff.1 h
  constructor
  · conv => lhs; rw [← List.take_append_drop i l, List.drop_eq_getElem_cons hi, hc]
    simp
  · rw [List.set_eq_take_append_cons_drop, if_pos hi]
    simp

theorem mem_blocks_upd : ∀ (p : List Nat) {T N N' : HT}, T.at_ p = some N → T.blocks.Nodup → ∀ x ∈ (T.upd p N').blocks, x ∈ N'.blocks ∨ (x ∈ T.blocks ∧ x ∉ N.blocks)
  | [], T, N, N', hn, hd, x, hx => by simp only [HT.upd] at hx; exact .inl hx
  | i :: p, T, N, N', hn, hd, x, hx => by
    simp only [HT.at_] at hn
    split at hn
    · rename_i c hc
      simp only [HT.upd, hc] at hx
      rw [HT.withKids_blocks hc] at hx
      obtain ⟨e1, e2⟩ := flatMap_set HT.blocks T.kids i c (c.upd p N') hc
      rw [e2] at hx
      rw [HT.blocks_kids T, e1] at hd ⊢
      have hN := at_blocks p hn
      simp only [List.nodup_append, List.mem_append] at hd hx ⊢
      have ih := mem_blocks_upd p (N' := N') hn hd.2.1.2.1.1 x
      obtain ⟨hd1, ⟨hd2, ⟨hd3, hd4, hd5⟩, hd6⟩, hd7⟩ := hd
      rcases hx with hx | hx | hx | hx
      · exact .inr ⟨.inl hx, fun h => hd7 x hx x (.inr (.inl (hN x h))) rfl⟩
      · exact .inr ⟨.inr (.inl hx), fun h => hd6 x hx x (.inl (hN x h)) rfl⟩
      · rcases ih hx with h | ⟨h, h'⟩
        · exact .inl h
        · exact .inr ⟨.inr (.inr (.inl h)), h'⟩
      · exact .inr ⟨.inr (.inr (.inr hx)), fun h => hd5 x (hN x h) x hx rfl⟩
    · cases hn

theorem nodup_upd : ∀ (p : List Nat) {T N N' : HT}, T.at_ p = some N → T.blocks.Nodup → N'.blocks.Nodup → (∀ x ∈ N'.blocks, x ∈ T.blocks → x ∈ N.blocks) → (T.upd p N').blocks.Nodup
  | [], T, N, N', hn, hd, hd', hx => by simpa only [HT.upd] using hd'
  | i :: p, T, N, N', hn, hd, hd', hx => by
    simp only [HT.at_] at hn
    split at hn
    · rename_i c hc
      simp only [HT.upd, hc]
      rw [HT.withKids_blocks hc]
      obtain ⟨e1, e2⟩ := flatMap_set HT.blocks T.kids i c (c.upd p N') hc
      rw [e2]
      rw [HT.blocks_kids, e1] at hd
      have hT : ∀ x, x ∈ T.blocks ↔ x ∈ T.ownb ++ ((T.kids.take i).flatMap HT.blocks ++ (c.blocks ++ (T.kids.drop (i + 1)).flatMap HT.blocks)) := by intro x; rw [HT.blocks_kids, e1]
      have hN := at_blocks p hn
      simp only [List.nodup_append, List.mem_append] at hd ⊢ hT
      obtain ⟨hd1, ⟨hd2, ⟨hd3, hd4, hd5⟩, hd6⟩, hd7⟩ := hd
      have ih := nodup_upd p hn hd3 hd' (fun x h h' => hx x h ((hT x).2 (.inr (.inr (.inl h')))))
      have hm := fun x => mem_blocks_upd p (N' := N') hn hd3 x
      refine ⟨hd1, ⟨hd2, ⟨ih, hd4, ?_⟩, ?_⟩, ?_⟩
      · intro x h y h' e; subst e
        rcases hm x h with h2 | ⟨h2, _⟩
        · exact hd5 x (hN x (hx x h2 ((hT x).2 (.inr (.inr (.inr h')))))) x h' rfl
        · exact hd5 x h2 x h' rfl
      · intro x h y h' e; subst e
        rcases h' with h' | h'
        · rcases hm x h' with h2 | ⟨h2, _⟩
          · exact hd6 x h x (.inl (hN x (hx x h2 ((hT x).2 (.inr (.inl h)))))) rfl
          · exact hd6 x h x (.inl h2) rfl
        · exact hd6 x h x (.inr h') rfl
      · intro x h y h' e; subst e
        rcases h' with h' | h' | h'
        · exact hd7 x h x (.inl h') rfl
        · rcases hm x h' with h2 | ⟨h2, _⟩
          · exact hd7 x h x (.inr (.inl (hN x (hx x h2 ((hT x).2 (.inl h)))))) rfl
          · exact hd7 x h x (.inr (.inl h2)) rfl
        · exact hd7 x h x (.inr (.inr h')) rfl
    · cases hn

theorem value_upd : ∀ (p : List Nat) {T N N' : HT}, T.at_ p = some N → N'.value = N.value → (T.upd p N').value = T.value
  | [], T, N, N', hn, h => by simp only [HT.at_, Option.some.injEq] at hn; simpa only [HT.upd, hn] using h
  | i :: p, T, N, N', hn, h => by
    simp only [HT.at_] at hn
    split at hn
    · rename_i c hc
      have ih := value_upd p hn h
      simp only [HT.upd, hc]
      have hv : HT.values (T.kids.set i (c.upd p N')) = HT.values T.kids := by
        rw [HT.values_eq, HT.values_eq, List.map_set, ih]
        obtain ⟨hi, hc'⟩ := List.getElem?_eq_some_iff.1 hc
        apply List.ext_getElem?
        intro j
        rw [List.getElem?_set]
        split
        · rename_i hj; subst hj; simp [hi, hc']
        · rfl
      cases T <;> simp_all [HT.kids, HT.withKids, HT.value]
    · cases hn

theorem erase_upd {w : World} {G : Nat → Prop} : ∀ (p : List Nat) {T N N' : HT}, Sat w G T → T.at_ p = some N → (T.upd p N').erase = T.erase.upd p N'.erase
  | [], T, N, N', _, hn => by simp [HT.upd, AV.upd]
  | i :: p, T, N, N', hs, hn => by
    simp only [HT.at_] at hn
    split at hn
    · rename_i c hc
      have ih := erase_upd p (N' := N') (hs.kids i c hc) hn
      have hk : T.erase.kids[i]? = some c.erase := by rw [erase_kids hs, List.getElem?_map, hc]; rfl
      simp only [HT.upd, hc, AV.upd, hk]
      rw [← ih, erase_kids hs]
      cases T <;> simp_all [HT.kids, HT.withKids, HT.erase, AV.withKids, HT.erases_eq, List.map_set]
    · cases hn

theorem Sat.upd {w w' : World} {G G' : Nat → Prop} (hg : ∀ b, G b → w'.heap[b]? = w.heap[b]?) (hG : ∀ b, G b → G' b) : ∀ (p : List Nat) {T N N' : HT}, Sat w G T → T.at_ p = some N → T.blocks.Nodup →
    N'.value = N.value → Sat w' G' N' → (∀ b ∈ T.blocks, b ∉ N.blocks → w'.heap[b]? = w.heap[b]?) → Sat w' G' (T.upd p N')
  | [], T, N, N', _, hn, _, _, h, _ => by simpa only [HT.upd] using h
  | i :: p, T, N, N', hs, hn, hd, hv, h, hb => by
    simp only [HT.at_] at hn
    split at hn
    · rename_i c hc
      obtain ⟨hi, hc'⟩ := List.getElem?_eq_some_iff.1 hc
      obtain ⟨e1, e2⟩ := flatMap_set HT.blocks T.kids i c c hc
      have hT : ∀ x, x ∈ T.blocks ↔ x ∈ T.ownb ++ ((T.kids.take i).flatMap HT.blocks ++ (c.blocks ++ (T.kids.drop (i + 1)).flatMap HT.blocks)) := by intro x; rw [HT.blocks_kids, e1]
      rw [HT.blocks_kids, e1] at hd
      have hN := at_blocks p hn
      simp only [List.nodup_append, List.mem_append] at hd hT
      obtain ⟨hd1, ⟨hd2, ⟨hd3, hd4, hd5⟩, hd6⟩, hd7⟩ := hd
      have ih := Sat.upd hg hG p (hs.kids i c hc) hn hd3 hv h (fun b h1 h2 => hb b (mem_kids hc h1) h2)
      have hval := value_upd p hn hv
      simp only [HT.upd, hc]
      -- the others
      have hothers : ∀ (j : Nat) (T' : HT), (T.kids.set i (c.upd p N'))[j]? = some T' → Sat w' G' T' ∧ ∃ T0 : HT, T.kids[j]? = some T0 ∧ T'.value = T0.value := by
        intro j T' hj
        rw [List.getElem?_set] at hj
        split at hj
        · rename_i hij; subst hij
          simp only [hi, if_true, Option.some.injEq] at hj
          subst hj
          exact ⟨ih, c, hc, hval⟩
        · rename_i hij
          refine ⟨(hs.kids j T' hj).congr (fun b h1 => hb b (mem_kids hj h1) (fun h2 => ?_)) hg hG, T', hj, rfl⟩
          have h3 := hN b h2
          obtain ⟨hjl, hj'⟩ := List.getElem?_eq_some_iff.1 hj
          rcases Nat.lt_or_ge j i with hlt | hge
          · refine hd6 b (List.mem_flatMap.2 ⟨T', ?_, h1⟩) b (.inl h3) rfl
            rw [List.mem_take_iff_getElem]
            exact ⟨j, by omega, hj'⟩
          · refine hd5 b h3 b (List.mem_flatMap.2 ⟨T', ?_, h1⟩) rfl
            rw [List.mem_drop_iff_getElem]
            exact ⟨j - (i + 1), by omega, by rw [← hj']; congr 1; omega⟩
      have hown : ∀ b, b ∈ T.ownb → w'.heap[b]? = w.heap[b]? := fun b h1 => hb b ((hT b).2 (.inl h1)) (fun h2 => hd7 b h1 b (.inr (.inl (hN b h2))) rfl)
      cases hs with
      | leaf a v ha h => simp [HT.kids] at hc
      | nilrow sz => simp [HT.kids] at hc
      | row b sz n cap cs C e h1 h2 h3 h4 h4' h5 h6 h7 =>
        refine .row b sz n cap _ C e ((hown b (by simp [HT.ownb])).trans h1) (by simpa [HT.kids] using h2) h3 h4 h4' h5 (fun j T' hj => ?_) (fun j T' hj => (hothers j T' hj).1)
        obtain ⟨_, T0, hT0, hv0⟩ := hothers j T' hj
        rw [hv0]; exact h6 j T0 hT0
      | box b cs C e h1 h2 h6 h7 =>
        refine .box b _ C e ((hown b (by simp [HT.ownb])).trans h1) (by simpa [HT.kids] using h2) (fun j T' hj => ?_) (fun j T' hj => (hothers j T' hj).1)
        obtain ⟨_, T0, hT0, hv0⟩ := hothers j T' hj
        rw [hv0]; exact h6 j T0 hT0
      | agg cs h7 => exact .agg _ (fun j T' hj => (hothers j T' hj).1)
      | tup cs h7 => exact .tup _ (fun j T' hj => (hothers j T' hj).1)
    · cases hn

end Go.Av
