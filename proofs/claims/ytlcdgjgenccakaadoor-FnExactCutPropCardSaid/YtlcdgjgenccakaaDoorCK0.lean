/- Abstract values: what a Go value reads as, without memory. -/
import Derived.WalkKit
import Derived.KernelRfl
import Derived.Orders
section
/-! Abstract values: what a Go value reads as, without memory. -/
set_option linter.unusedSimpArgs false
set_option linter.unusedVariables false
namespace Go.Av
/-- An equation that 'simp' is to prove step by step. -/
theorem nrfl {α : Sort _} {a b : α} (h : a = b) : a = b := h

/-- What a slot holds, as the proofs see it. 'row true', 'box true': memory that belongs to this value alone. 'row false', 'box false': memory that nobody writes. -/
inductive AV where
  | lit (v : Value)
  | row (o : Bool) (sz n : Nat) (cs : List AV)
  | box (o : Bool) (cs : List AV)
  | agg (cs : List AV)
  | tup (cs : List AV)
  | fn (f : FuncId) (caps : List AV)
  | sl (r : Nat) (p : List Nat) (off len : Nat)
  | ptr (r : Nat) (p : List Nat) (o : Nat)
  | junk
  deriving Inhabited

/-- What belongs to a value, with its addresses. -/
inductive HT where
  | leaf (a : AV) (v : Value)
  | row (b sz n cap : Nat) (cs : List HT)
  | nilrow (sz : Nat)
  | box (b : Nat) (cs : List HT)
  | agg (cs : List HT)
  | tup (cs : List HT)
  deriving Inhabited

namespace HT
mutual
def value : HT → Value
  | .leaf _ v => v
  | .row b _ n cap _ => .slice (some ⟨b, 0, none⟩) n cap
  | .nilrow _ => .slice none 0 0
  | .box b _ => .pointer (some ⟨b, 0, none⟩)
  | .agg cs => .agg (values cs).toArray
  | .tup cs => .tuple (values cs).toArray
def values : List HT → List Value
  | [] => []
  | c :: r => value c :: values r
end
mutual
def erase : HT → AV
  | .leaf a _ => a
  | .row _ sz n _ cs => .row true sz n (erases cs)
  | .nilrow sz => .row true sz 0 []
  | .box _ cs => .box true (erases cs)
  | .agg cs => .agg (erases cs)
  | .tup cs => .tup (erases cs)
def erases : List HT → List AV
  | [] => []
  | c :: r => erase c :: erases r
end
mutual
def blocks : HT → List Nat
  | .leaf _ _ => []
  | .row b _ _ _ cs => b :: blockss cs
  | .nilrow _ => []
  | .box b cs => b :: blockss cs
  | .agg cs => blockss cs
  | .tup cs => blockss cs
def blockss : List HT → List Nat
  | [] => []
  | c :: r => blocks c ++ blockss r
end
theorem values_eq (cs : List HT) : values cs = cs.map value := by
  induction cs with
  | nil => simp [values]
  | cons c r ih => simp [values, ih]
theorem erases_eq (cs : List HT) : erases cs = cs.map erase := by
  induction cs with
  | nil => simp [erases]
  | cons c r ih => simp [erases, ih]
theorem blockss_eq (cs : List HT) : blockss cs = cs.flatMap blocks := by
  induction cs with
  | nil => simp [blockss]
  | cons c r ih => simp [blockss, ih]

/-- The parts of a node that belong to it. -/
def kids : HT → List HT
  | .row _ _ _ _ cs | .box _ cs | .agg cs | .tup cs => cs
  | _ => []
def withKids : HT → List HT → HT
  | .row b sz n cap _, cs => .row b sz n cap cs
  | .box b _, cs => .box b cs
  | .agg _, cs => .agg cs
  | .tup _, cs => .tup cs
  | t, _ => t
def at_ : HT → List Nat → Option HT
  | t, [] => some t
  | t, i :: p => match t.kids[i]? with
    | some c => c.at_ p
    | none => none
def upd : HT → List Nat → HT → HT
  | _, [], n => n
  | t, i :: p, n => match t.kids[i]? with
    | some c => t.withKids (t.kids.set i (c.upd p n))
    | none => t
end HT

mutual
def AV.noRef : AV → Bool
  | .lit _ | .junk | .row false _ _ _ | .box false _ => true
  | .agg cs | .tup cs | .fn _ cs => AV.noRefs cs
  | _ => false
def AV.noRefs : List AV → Bool
  | [] => true
  | c :: r => c.noRef && AV.noRefs r
end
theorem AV.noRefs_mem {cs : List AV} : AV.noRefs cs = true ↔ ∀ a ∈ cs, a.noRef = true := by
  induction cs with
  | nil => simp [AV.noRefs]
  | cons c r ih => simp [AV.noRefs, ih]
namespace AV
def kids : AV → List AV
  | .row true _ _ cs | .box true cs | .agg cs | .tup cs => cs
  | _ => []
def withKids : AV → List AV → AV
  | .row true sz n _, cs => .row true sz n cs
  | .box true _, cs => .box true cs
  | .agg _, cs => .agg cs
  | .tup _, cs => .tup cs
  | t, _ => t
def at_ : AV → List Nat → Option AV
  | t, [] => some t
  | t, i :: p => match t.kids[i]? with
    | some c => c.at_ p
    | none => none
def upd : AV → List Nat → AV → AV
  | _, [], n => n
  | t, i :: p, n => match t.kids[i]? with
    | some c => t.withKids (t.kids.set i (c.upd p n))
    | none => t
/-- May such a value stand as a leaf? -/
def leafOk : AV → Bool
  | .lit _ | .row false _ _ _ | .box false _ | .junk => true
  | .fn _ cs => noRefs cs
  | _ => false
end AV

/-- What a value reads as: 'G': the blocks that nobody writes; 'm': what belongs to the call. -/
inductive VR (w : World) (G : Nat → Prop) : (Nat → Option HT) → AV → Value → Prop
  | lit {m} (v : Value) : VR w G m (.lit v) v
  | junk {m} (v : Value) : VR w G m .junk v
  | row0 {m} (sz : Nat) (A : Option Addr) (c : Nat) : VR w G m (.row false sz 0 []) (.slice A 0 c)
  | row {m} (sz n c : Nat) (b off : Nat) (cs : List AV) (us : Nat → Value) (C : Array Value) (e : TypeId) (fr : Nat × Nat)
      (hG : G b) (hb : w.heap[b]? = some (.cells C e fr)) (hn : cs.length = n * sz) (hc : n ≤ c) (hmax : n ≤ 9223372036854775807) (hu : ∀ i, i < cs.length → C[off + i]? = some (us i))
      (hr : ∀ a ∈ cs, a.noRef = true) (h : ∀ (i : Nat) (a : AV), cs[i]? = some a → VR w G (fun _ => none) a (us i)) : VR w G m (.row false sz n cs) (.slice (some ⟨b, off, none⟩) n c)
  | box {m} (b off : Nat) (cs : List AV) (us : Nat → Value) (C : Array Value) (e : TypeId) (fr : Nat × Nat)
      (hG : G b) (hb : w.heap[b]? = some (.cells C e fr)) (hu : ∀ i, i < cs.length → C[off + i]? = some (us i))
      (hr : ∀ a ∈ cs, a.noRef = true) (h : ∀ (i : Nat) (a : AV), cs[i]? = some a → VR w G (fun _ => none) a (us i)) : VR w G m (.box false cs) (.pointer (some ⟨b, off, none⟩))
  | agg {m} (cs : List AV) (us : List Value) (hl : us.length = cs.length) (h : ∀ (i : Nat) (a : AV) (u : Value), cs[i]? = some a → us[i]? = some u → VR w G m a u) : VR w G m (.agg cs) (.agg us.toArray)
  | tup {m} (cs : List AV) (us : List Value) (hl : us.length = cs.length) (h : ∀ (i : Nat) (a : AV) (u : Value), cs[i]? = some a → us[i]? = some u → VR w G m a u) : VR w G m (.tup cs) (.tuple us.toArray)
  | fn {m} (f : FuncId) (cs : List AV) (us : List Value) (hl : us.length = cs.length) (h : ∀ (i : Nat) (a : AV) (u : Value), cs[i]? = some a → us[i]? = some u → VR w G m a u) : VR w G m (.fn f cs) (.func (.func f) #[] us.toArray)
  | sl {m} (r : Nat) (p : List Nat) (off len : Nat) (v : Value)
      (h : ∀ T, m r = some T → ∀ b sz n cap cs, T.at_ p = some (.row b sz n cap cs) → off + len ≤ n → ∃ A c, v = .slice A len c ∧ len ≤ c ∧ c + off ≤ cap ∧ (c = 0 ∨ A = some ⟨b, off * sz, none⟩) ∧ (off = 0 → c = cap ∧ A = some ⟨b, 0, none⟩))
      (h0 : ∀ T, m r = some T → ∀ sz, T.at_ p = some (.nilrow sz) → off + len ≤ 0 → v = .slice none 0 0) : VR w G m (.sl r p off len) v
  | ptr {m} (r : Nat) (p : List Nat) (o : Nat) (v : Value)
      (h : ∀ T, m r = some T → ∀ b sz n cap cs, T.at_ p = some (.row b sz n cap cs) → v = .pointer (some ⟨b, o, none⟩))
      (h' : ∀ T, m r = some T → ∀ b cs, T.at_ p = some (.box b cs) → v = .pointer (some ⟨b, o, none⟩)) : VR w G m (.ptr r p o) v

/-- What belongs to a value lies in memory as it says. -/
inductive Sat (w : World) (G : Nat → Prop) : HT → Prop
  | leaf (a : AV) (v : Value) (ha : a.leafOk = true) (h : VR w G (fun _ => none) a v) : Sat w G (.leaf a v)
  | row (b sz n cap : Nat) (cs : List HT) (C : Array Value) (e : TypeId) (hb : w.heap[b]? = some (.cells C e (0, 0))) (hn : cs.length = n * sz) (hc : n ≤ cap)
      (hcap : C.size = cap * sz) (hsz : 0 < sz) (hmax : cap ≤ 9223372036854775807) (hu : ∀ (i : Nat) (T : HT), cs[i]? = some T → C[i]? = some T.value) (h : ∀ (i : Nat) (T : HT), cs[i]? = some T → Sat w G T) : Sat w G (.row b sz n cap cs)
  | nilrow (sz : Nat) : Sat w G (.nilrow sz)
  | box (b : Nat) (cs : List HT) (C : Array Value) (e : TypeId) (hb : w.heap[b]? = some (.cells C e (0, 0))) (hn : cs.length = C.size)
      (hu : ∀ (i : Nat) (T : HT), cs[i]? = some T → C[i]? = some T.value) (h : ∀ (i : Nat) (T : HT), cs[i]? = some T → Sat w G T) : Sat w G (.box b cs)
  | agg (cs : List HT) (h : ∀ (i : Nat) (T : HT), cs[i]? = some T → Sat w G T) : Sat w G (.agg cs)
  | tup (cs : List HT) (h : ∀ (i : Nat) (T : HT), cs[i]? = some T → Sat w G T) : Sat w G (.tup cs)

abbrev none_ : Nat → Option HT := fun _ => none

theorem VR.congr {w w' : World} {G G' : Nat → Prop} {m : Nat → Option HT} {a : AV} {v : Value} (h : VR w G m a v)
    (hb : ∀ b, G b → w'.heap[b]? = w.heap[b]?) (hG : ∀ b, G b → G' b) : VR w' G' m a v := by
  induction h with
  | lit v => exact .lit v
  | junk v => exact .junk v
  | row0 sz A c => exact .row0 sz A c
  | row sz n c b off cs us C e fr h1 h2 h3 h4 h5 h6 h7 _ ih => exact .row sz n c b off cs us C e fr (hG _ h1) ((hb _ h1).trans h2) h3 h4 h5 h6 h7 ih
  | box b off cs us C e fr h1 h2 h6 h7 _ ih => exact .box b off cs us C e fr (hG _ h1) ((hb _ h1).trans h2) h6 h7 ih
  | agg cs us hl _ ih => exact .agg cs us hl ih
  | tup cs us hl _ ih => exact .tup cs us hl ih
  | fn f cs us hl _ ih => exact .fn f cs us hl ih
  | sl r p off len v h h0 => exact .sl r p off len v h h0
  | ptr r p o v h h' => exact .ptr r p o v h h'

/-- Other memory of the call's own: what is read stays read, where each region that is left is the region that it was. -/
theorem VR.less {w : World} {G : Nat → Prop} {m m' : Nat → Option HT} {a : AV} {v : Value} (h : VR w G m a v)
    (hm : ∀ r T, m' r = some T → m r = some T) : VR w G m' a v := by
  induction h with
  | lit v => exact .lit v
  | junk v => exact .junk v
  | row0 sz A c => exact .row0 sz A c
  | row sz n c b off cs us C e fr h1 h2 h3 h4 h5 h6 h7 h8 _ => exact .row sz n c b off cs us C e fr h1 h2 h3 h4 h5 h6 h7 h8
  | box b off cs us C e fr h1 h2 h6 h7 h8 _ => exact .box b off cs us C e fr h1 h2 h6 h7 h8
  | agg cs us hl _ ih => exact .agg cs us hl (fun i a u x y => ih i a u x y hm)
  | tup cs us hl _ ih => exact .tup cs us hl (fun i a u x y => ih i a u x y hm)
  | fn f cs us hl _ ih => exact .fn f cs us hl (fun i a u x y => ih i a u x y hm)
  | sl r p off len v h h0 => exact .sl r p off len v (fun T hT => h T (hm _ _ hT)) (fun T hT => h0 T (hm _ _ hT))
  | ptr r p o v h h' => exact .ptr r p o v (fun T hT => h T (hm _ _ hT)) (fun T hT => h' T (hm _ _ hT))

/-- What names no place of the call's own is the same to every call. -/
theorem VR.free {w : World} {G : Nat → Prop} {m m' : Nat → Option HT} {a : AV} {v : Value} (h : VR w G m a v) (hr : a.noRef = true) : VR w G m' a v := by
  induction h with
  | lit v => exact .lit v
  | junk v => exact .junk v
  | row0 sz A c => exact .row0 sz A c
  | row sz n c b off cs us C e fr h1 h2 h3 h4 h5 h6 h7 h8 _ => exact .row sz n c b off cs us C e fr h1 h2 h3 h4 h5 h6 h7 h8
  | box b off cs us C e fr h1 h2 h6 h7 h8 _ => exact .box b off cs us C e fr h1 h2 h6 h7 h8
  | agg cs us hl _ ih => exact .agg cs us hl (fun i a u x y => ih i a u x y (AV.noRefs_mem.1 (by simpa [AV.noRef] using hr) a (List.mem_of_getElem? x)))
  | tup cs us hl _ ih => exact .tup cs us hl (fun i a u x y => ih i a u x y (AV.noRefs_mem.1 (by simpa [AV.noRef] using hr) a (List.mem_of_getElem? x)))
  | fn f cs us hl _ ih => exact .fn f cs us hl (fun i a u x y => ih i a u x y (AV.noRefs_mem.1 (by simpa [AV.noRef] using hr) a (List.mem_of_getElem? x)))
  | sl => simp [AV.noRef] at hr
  | ptr => simp [AV.noRef] at hr

theorem Sat.congr {w w' : World} {G G' : Nat → Prop} {T : HT} (h : Sat w G T)
    (hb : ∀ b, b ∈ T.blocks → w'.heap[b]? = w.heap[b]?) (hg : ∀ b, G b → w'.heap[b]? = w.heap[b]?) (hG : ∀ b, G b → G' b) : Sat w' G' T := by
  induction h with
  | leaf a v ha h => exact .leaf a v ha (h.congr hg hG)
  | row b sz n cap cs C e h1 h2 h3 h4 h4' h5 h6 _ ih =>
    refine .row b sz n cap cs C e ((hb b (by simp [HT.blocks])).trans h1) h2 h3 h4 h4' h5 h6 (fun i T hi => ih i T hi (fun x hx => hb x ?_))
    simp only [HT.blocks, HT.blockss_eq, List.mem_cons, List.mem_flatMap]
    exact .inr ⟨T, List.mem_of_getElem? hi, hx⟩
  | nilrow sz => exact .nilrow sz
  | box b cs C e h1 h2 h6 _ ih =>
    refine .box b cs C e ((hb b (by simp [HT.blocks])).trans h1) h2 h6 (fun i T hi => ih i T hi (fun x hx => hb x ?_))
    simp only [HT.blocks, HT.blockss_eq, List.mem_cons, List.mem_flatMap]
    exact .inr ⟨T, List.mem_of_getElem? hi, hx⟩
  | agg cs _ ih =>
    refine .agg cs (fun i T hi => ih i T hi (fun x hx => hb x ?_))
    simp only [HT.blocks, HT.blockss_eq, List.mem_flatMap]
    exact ⟨T, List.mem_of_getElem? hi, hx⟩
  | tup cs _ ih =>
    refine .tup cs (fun i T hi => ih i T hi (fun x hx => hb x ?_))
    simp only [HT.blocks, HT.blockss_eq, List.mem_flatMap]
    exact ⟨T, List.mem_of_getElem? hi, hx⟩

theorem Sat.kids {w : World} {G : Nat → Prop} {T : HT} (h : Sat w G T) (i : Nat) (c : HT) (hc : T.kids[i]? = some c) : Sat w G c := by
  cases h with
  | leaf a v ha h => simp [HT.kids] at hc
  | nilrow sz => simp [HT.kids] at hc
  | row b sz n cap cs C e _ _ _ _ _ _ _ h => exact h i c hc
  | box b cs C e _ _ _ h => exact h i c hc
  | agg cs h => exact h i c hc
  | tup cs h => exact h i c hc

theorem mem_kids {T c : HT} {i : Nat} (hc : T.kids[i]? = some c) {x : Nat} (hx : x ∈ c.blocks) : x ∈ T.blocks := by
  have hm := List.mem_of_getElem? hc
  cases T <;> simp_all [HT.kids, HT.blocks, HT.blockss_eq]
  · exact .inr ⟨c, hm, hx⟩
  · exact .inr ⟨c, hm, hx⟩
  · exact ⟨c, hm, hx⟩
  · exact ⟨c, hm, hx⟩

theorem erase_kids {w : World} {G : Nat → Prop} {T : HT} (h : Sat w G T) : T.erase.kids = T.kids.map HT.erase := by
  cases h with
  | leaf a v ha h =>
    cases a with
    | row o sz n cs => cases o <;> simp_all [AV.leafOk, HT.erase, AV.kids, HT.kids]
    | box o cs => cases o <;> simp_all [AV.leafOk, HT.erase, AV.kids, HT.kids]
    | _ => simp_all [AV.leafOk, HT.erase, AV.kids, HT.kids]
  | _ => simp [HT.erase, AV.kids, HT.kids, HT.erases_eq]

theorem Sat.at_ {w : World} {G : Nat → Prop} : ∀ (p : List Nat) {T N : HT}, Sat w G T → T.at_ p = some N → Sat w G N
  | [], T, N, h, hn => by simp only [HT.at_, Option.some.injEq] at hn; exact hn ▸ h
  | i :: p, T, N, h, hn => by
    simp only [HT.at_] at hn
    split at hn
    · rename_i c hc; exact Sat.at_ p (h.kids i c hc) hn
    · cases hn

theorem erase_at {w : World} {G : Nat → Prop} : ∀ (p : List Nat) {T : HT} {A : AV}, Sat w G T → T.erase.at_ p = some A → ∃ N, T.at_ p = some N ∧ N.erase = A
  | [], T, A, _, hn => by simp only [AV.at_, Option.some.injEq] at hn; exact ⟨T, rfl, hn⟩
  | i :: p, T, A, h, hn => by
    simp only [AV.at_, erase_kids h, List.getElem?_map] at hn
    cases hc : T.kids[i]? with
    | none => simp [hc] at hn
    | some c =>
      simp only [hc, Option.map_some] at hn
      obtain ⟨N, hN, hA⟩ := erase_at p (h.kids i c hc) hn
      exact ⟨N, by simp [HT.at_, hc, hN], hA⟩

theorem at_blocks : ∀ (p : List Nat) {T N : HT}, T.at_ p = some N → ∀ x ∈ N.blocks, x ∈ T.blocks
  | [], T, N, hn, x, hx => by simp only [HT.at_, Option.some.injEq] at hn; exact hn ▸ hx
  | i :: p, T, N, hn, x, hx => by
    simp only [HT.at_] at hn
    split at hn
    · rename_i c hc; exact mem_kids hc (at_blocks p hn x hx)
    · cases hn


namespace HT
def ownb : HT → List Nat
  | .row b _ _ _ _ | .box b _ => [b]
  | _ => []
theorem blocks_kids (T : HT) : T.blocks = T.ownb ++ T.kids.flatMap blocks := by
  cases T <;> simp [blocks, ownb, kids, blockss_eq]
theorem withKids_blocks {T c : HT} {i : Nat} (hc : T.kids[i]? = some c) (cs : List HT) : (T.withKids cs).blocks = T.ownb ++ cs.flatMap blocks := by
  cases T <;> simp_all [blocks, ownb, kids, blockss_eq, withKids]
theorem withKids_kids {T c : HT} {i : Nat} (hc : T.kids[i]? = some c) (cs : List HT) : (T.withKids cs).kids = cs := by
  cases T <;> simp_all [kids, withKids]
/-- A node without its parts. -/
def hd : HT → HT
  | .row b sz n cap _ => .row b sz n cap []
  | .box b _ => .box b []
  | .nilrow sz => .nilrow sz
  | _ => .leaf .junk undef
def isMem : HT → Bool
  | .row .. | .box .. | .nilrow .. => true
  | _ => false
theorem withKids_hd {T c : HT} {i : Nat} (hc : T.kids[i]? = some c) (cs : List HT) : (T.withKids cs).hd = T.hd := by
  cases T <;> simp_all [kids, withKids, hd]
end HT

theorem flatMap_set {α β : Type} (f : α → List β) (l : List α) (i : Nat) (c c' : α) (h : l[i]? = some c) :
    l.flatMap f = (l.take i).flatMap f ++ (f c ++ (l.drop (i + 1)).flatMap f) ∧ (l.set i c').flatMap f = (l.take i).flatMap f ++ (f c' ++ (l.drop (i + 1)).flatMap f) := by
  obtain ⟨hi, hc⟩ := List.getElem?_eq_some_iff.1 h
  constructor
  · conv => lhs; rw [← List.take_append_drop i l, List.drop_eq_getElem_cons hi, hc]
    simp
  · rw [List.set_eq_take_append_cons_drop, if_pos hi]
    simp

theorem mem_blocks_upd : ∀ (p : List Nat) {T N N' : HT}, T.at_ p = some N → T.blocks.Nodup → ∀ x ∈ (T.upd p N').blocks, x ∈ N'.blocks ∨ (x ∈ T.blocks ∧ x ∉ N.blocks)
  | [], T, N, N', hn, hd, x, hx => by simp only [HT.upd] at hx; exact .inl hx
  | i :: p, T, N, N', hn, hd, x, hx => by
    simp only [HT.at_] at hn
    split at hn
    · rename_i c hc
      simp only [HT.upd, hc] at hx
      rw [HT.withKids_blocks hc] at hx
      obtain ⟨e1, e2⟩ := flatMap_set HT.blocks T.kids i c (c.upd p N') hc
      rw [e2] at hx
      rw [HT.blocks_kids T, e1] at hd ⊢
      have hN := at_blocks p hn
      simp only [List.nodup_append, List.mem_append] at hd hx ⊢
      have ih := mem_blocks_upd p (N' := N') hn hd.2.1.2.1.1 x
      obtain ⟨hd1, ⟨hd2, ⟨hd3, hd4, hd5⟩, hd6⟩, hd7⟩ := hd
      rcases hx with hx | hx | hx | hx
      · exact .inr ⟨.inl hx, fun h => hd7 x hx x (.inr (.inl (hN x h))) rfl⟩
      · exact .inr ⟨.inr (.inl hx), fun h => hd6 x hx x (.inl (hN x h)) rfl⟩
      · rcases ih hx with h | ⟨h, h'⟩
        · exact .inl h
        · exact .inr ⟨.inr (.inr (.inl h)), h'⟩
      · exact .inr ⟨.inr (.inr (.inr hx)), fun h => hd5 x (hN x h) x hx rfl⟩
    · cases hn

theorem nodup_upd : ∀ (p : List Nat) {T N N' : HT}, T.at_ p = some N → T.blocks.Nodup → N'.blocks.Nodup → (∀ x ∈ N'.blocks, x ∈ T.blocks → x ∈ N.blocks) → (T.upd p N').blocks.Nodup
  | [], T, N, N', hn, hd, hd', hx => by simpa only [HT.upd] using hd'
  | i :: p, T, N, N', hn, hd, hd', hx => by
    simp only [HT.at_] at hn
    split at hn
    · rename_i c hc
      simp only [HT.upd, hc]
      rw [HT.withKids_blocks hc]
      obtain ⟨e1, e2⟩ := flatMap_set HT.blocks T.kids i c (c.upd p N') hc
      rw [e2]
      rw [HT.blocks_kids, e1] at hd
      have hT : ∀ x, x ∈ T.blocks ↔ x ∈ T.ownb ++ ((T.kids.take i).flatMap HT.blocks ++ (c.blocks ++ (T.kids.drop (i + 1)).flatMap HT.blocks)) := by intro x; rw [HT.blocks_kids, e1]
      have hN := at_blocks p hn
      simp only [List.nodup_append, List.mem_append] at hd ⊢ hT
      obtain ⟨hd1, ⟨hd2, ⟨hd3, hd4, hd5⟩, hd6⟩, hd7⟩ := hd
      have ih := nodup_upd p hn hd3 hd' (fun x h h' => hx x h ((hT x).2 (.inr (.inr (.inl h')))))
      have hm := fun x => mem_blocks_upd p (N' := N') hn hd3 x
      refine ⟨hd1, ⟨hd2, ⟨ih, hd4, ?_⟩, ?_⟩, ?_⟩
      · intro x h y h' e; subst e
        rcases hm x h with h2 | ⟨h2, _⟩
        · exact hd5 x (hN x (hx x h2 ((hT x).2 (.inr (.inr (.inr h')))))) x h' rfl
        · exact hd5 x h2 x h' rfl
      · intro x h y h' e; subst e
        rcases h' with h' | h'
        · rcases hm x h' with h2 | ⟨h2, _⟩
          · exact hd6 x h x (.inl (hN x (hx x h2 ((hT x).2 (.inr (.inl h)))))) rfl
          · exact hd6 x h x (.inl h2) rfl
        · exact hd6 x h x (.inr h') rfl
      · intro x h y h' e; subst e
        rcases h' with h' | h' | h'
        · exact hd7 x h x (.inl h') rfl
        · rcases hm x h' with h2 | ⟨h2, _⟩
          · exact hd7 x h x (.inr (.inl (hN x (hx x h2 ((hT x).2 (.inl h)))))) rfl
          · exact hd7 x h x (.inr (.inl h2)) rfl
        · exact hd7 x h x (.inr (.inr h')) rfl
    · cases hn

theorem value_upd : ∀ (p : List Nat) {T N N' : HT}, T.at_ p = some N → N'.value = N.value → (T.upd p N').value = T.value
  | [], T, N, N', hn, h => by simp only [HT.at_, Option.some.injEq] at hn; simpa only [HT.upd, hn] using h
  | i :: p, T, N, N', hn, h => by
    simp only [HT.at_] at hn
    split at hn
    · rename_i c hc
      have ih := value_upd p hn h
      simp only [HT.upd, hc]
      have hv : HT.values (T.kids.set i (c.upd p N')) = HT.values T.kids := by
        rw [HT.values_eq, HT.values_eq, List.map_set, ih]
        obtain ⟨hi, hc'⟩ := List.getElem?_eq_some_iff.1 hc
        apply List.ext_getElem?
        intro j
        rw [List.getElem?_set]
        split
        · rename_i hj; subst hj; simp [hi, hc']
        · rfl
      cases T <;> simp_all [HT.kids, HT.withKids, HT.value]
    · cases hn

theorem erase_upd {w : World} {G : Nat → Prop} : ∀ (p : List Nat) {T N N' : HT}, Sat w G T → T.at_ p = some N → (T.upd p N').erase = T.erase.upd p N'.erase
  | [], T, N, N', _, hn => by simp [HT.upd, AV.upd]
  | i :: p, T, N, N', hs, hn => by
    simp only [HT.at_] at hn
    split at hn
    · rename_i c hc
      have ih := erase_upd p (N' := N') (hs.kids i c hc) hn
      have hk : T.erase.kids[i]? = some c.erase := by rw [erase_kids hs, List.getElem?_map, hc]; rfl
      simp only [HT.upd, hc, AV.upd, hk]
      rw [← ih, erase_kids hs]
      cases T <;> simp_all [HT.kids, HT.withKids, HT.erase, AV.withKids, HT.erases_eq, List.map_set]
    · cases hn

theorem Sat.upd {w w' : World} {G G' : Nat → Prop} (hg : ∀ b, G b → w'.heap[b]? = w.heap[b]?) (hG : ∀ b, G b → G' b) : ∀ (p : List Nat) {T N N' : HT}, Sat w G T → T.at_ p = some N → T.blocks.Nodup →
    N'.value = N.value → Sat w' G' N' → (∀ b ∈ T.blocks, b ∉ N.blocks → w'.heap[b]? = w.heap[b]?) → Sat w' G' (T.upd p N')
  | [], T, N, N', _, hn, _, _, h, _ => by simpa only [HT.upd] using h
  | i :: p, T, N, N', hs, hn, hd, hv, h, hb => by
    simp only [HT.at_] at hn
    split at hn
    · rename_i c hc
      obtain ⟨hi, hc'⟩ := List.getElem?_eq_some_iff.1 hc
      obtain ⟨e1, e2⟩ := flatMap_set HT.blocks T.kids i c c hc
      have hT : ∀ x, x ∈ T.blocks ↔ x ∈ T.ownb ++ ((T.kids.take i).flatMap HT.blocks ++ (c.blocks ++ (T.kids.drop (i + 1)).flatMap HT.blocks)) := by intro x; rw [HT.blocks_kids, e1]
      rw [HT.blocks_kids, e1] at hd
      have hN := at_blocks p hn
      simp only [List.nodup_append, List.mem_append] at hd hT
      obtain ⟨hd1, ⟨hd2, ⟨hd3, hd4, hd5⟩, hd6⟩, hd7⟩ := hd
      have ih := Sat.upd hg hG p (hs.kids i c hc) hn hd3 hv h (fun b h1 h2 => hb b (mem_kids hc h1) h2)
      have hval := value_upd p hn hv
      simp only [HT.upd, hc]
      -- the others
      have hothers : ∀ (j : Nat) (T' : HT), (T.kids.set i (c.upd p N'))[j]? = some T' → Sat w' G' T' ∧ ∃ T0 : HT, T.kids[j]? = some T0 ∧ T'.value = T0.value := by
        intro j T' hj
        rw [List.getElem?_set] at hj
        split at hj
        · rename_i hij; subst hij
          simp only [hi, if_true, Option.some.injEq] at hj
          subst hj
          exact ⟨ih, c, hc, hval⟩
        · rename_i hij
          refine ⟨(hs.kids j T' hj).congr (fun b h1 => hb b (mem_kids hj h1) (fun h2 => ?_)) hg hG, T', hj, rfl⟩
          have h3 := hN b h2
          obtain ⟨hjl, hj'⟩ := List.getElem?_eq_some_iff.1 hj
          rcases Nat.lt_or_ge j i with hlt | hge
          · refine hd6 b (List.mem_flatMap.2 ⟨T', ?_, h1⟩) b (.inl h3) rfl
            rw [List.mem_take_iff_getElem]
            exact ⟨j, by omega, hj'⟩
          · refine hd5 b h3 b (List.mem_flatMap.2 ⟨T', ?_, h1⟩) rfl
            rw [List.mem_drop_iff_getElem]
            exact ⟨j - (i + 1), by omega, by rw [← hj']; congr 1; omega⟩
      have hown : ∀ b, b ∈ T.ownb → w'.heap[b]? = w.heap[b]? := fun b h1 => hb b ((hT b).2 (.inl h1)) (fun h2 => hd7 b h1 b (.inr (.inl (hN b h2))) rfl)
      cases hs with
      | leaf a v ha h => simp [HT.kids] at hc
      | nilrow sz => simp [HT.kids] at hc
      | row b sz n cap cs C e h1 h2 h3 h4 h4' h5 h6 h7 =>
        refine .row b sz n cap _ C e ((hown b (by simp [HT.ownb])).trans h1) (by simpa [HT.kids] using h2) h3 h4 h4' h5 (fun j T' hj => ?_) (fun j T' hj => (hothers j T' hj).1)
        obtain ⟨_, T0, hT0, hv0⟩ := hothers j T' hj
        rw [hv0]; exact h6 j T0 hT0
      | box b cs C e h1 h2 h6 h7 =>
        refine .box b _ C e ((hown b (by simp [HT.ownb])).trans h1) (by simpa [HT.kids] using h2) (fun j T' hj => ?_) (fun j T' hj => (hothers j T' hj).1)
        obtain ⟨_, T0, hT0, hv0⟩ := hothers j T' hj
        rw [hv0]; exact h6 j T0 hT0
      | agg cs h7 => exact .agg _ (fun j T' hj => (hothers j T' hj).1)
      | tup cs h7 => exact .tup _ (fun j T' hj => (hothers j T' hj).1)
    · cases hn

end Go.Av
end
section
set_option linter.unusedSimpArgs false
set_option linter.unusedVariables false
/-! The state of a call, as the proofs see it, and how it stands to the machine's. -/
namespace Go.Av

mutual
def AV.mapRef (f : Nat → List Nat → Option (Nat × List Nat)) : AV → AV
  | .sl r p off len => match f r p with
    | some (r', p') => .sl r' p' off len
    | none => .junk
  | .ptr r p o => match f r p with
    | some (r', p') => .ptr r' p' o
    | none => .junk
  | .agg cs => .agg (AV.mapRefs f cs)
  | .tup cs => .tup (AV.mapRefs f cs)
  | .fn g cs => .fn g (AV.mapRefs f cs)
  | .lit v => .lit v
  | .row o sz n cs => .row o sz n cs
  | .box o cs => .box o cs
  | .junk => .junk
def AV.mapRefs (f : Nat → List Nat → Option (Nat × List Nat)) : List AV → List AV
  | [] => []
  | c :: r => AV.mapRef f c :: AV.mapRefs f r
end
theorem AV.mapRefs_eq (f : Nat → List Nat → Option (Nat × List Nat)) (cs : List AV) : AV.mapRefs f cs = cs.map (AV.mapRef f) := by
  induction cs with
  | nil => simp [AV.mapRefs]
  | cons c r ih => simp [AV.mapRefs, ih]

/-- Refs to region 'r' at or under the place 'p' go. -/
def killF (r : Nat) (p : List Nat) : Nat → List Nat → Option (Nat × List Nat) := fun r' p' => if r' = r ∧ p.isPrefixOf p' = true then none else some (r', p')
/-- Region 'r' is now called 'x'; what was called 'x' is gone. -/
def renF (r x : Nat) : Nat → List Nat → Option (Nat × List Nat) := fun r' p' => if r' = r then some (x, p') else if r' = x then none else some (r', p')

theorem hd_row {N : HT} {b sz n cap : Nat} (h : N.hd = .row b sz n cap []) : ∃ cs, N = .row b sz n cap cs := by
  cases N with
  | row => simp only [HT.hd, HT.row.injEq] at h; obtain ⟨rfl, rfl, rfl, rfl, _⟩ := h; exact ⟨_, rfl⟩
  | _ => simp [HT.hd] at h
theorem hd_nilrow {N : HT} {sz : Nat} (h : N.hd = .nilrow sz) : N = .nilrow sz := by
  cases N with
  | nilrow => simp only [HT.hd] at h; exact h
  | _ => simp [HT.hd] at h
theorem hd_box {N : HT} {b : Nat} (h : N.hd = .box b []) : ∃ cs, N = .box b cs := by
  cases N with
  | box => simp only [HT.hd, HT.box.injEq] at h; obtain ⟨rfl, _⟩ := h; exact ⟨_, rfl⟩
  | _ => simp [HT.hd] at h

theorem VR.mapRef {w : World} {G : Nat → Prop} {m m' : Nat → Option HT} {f : Nat → List Nat → Option (Nat × List Nat)} {a : AV} {v : Value} (h : VR w G m a v)
    (hm : ∀ r p r' p', f r p = some (r', p') → ∀ T' N', m' r' = some T' → T'.at_ p' = some N' → N'.isMem = true → ∃ T N, m r = some T ∧ T.at_ p = some N ∧ N.hd = N'.hd) : VR w G m' (a.mapRef f) v := by
  induction h with
  | lit v => simp only [AV.mapRef]; exact .lit v
  | junk v => simp only [AV.mapRef]; exact .junk v
  | row0 sz A c => simp only [AV.mapRef]; exact .row0 sz A c
  | row sz n c b off cs us C e fr h1 h2 h3 h4 h5 h6 h7 h8 _ => simp only [AV.mapRef]; exact .row sz n c b off cs us C e fr h1 h2 h3 h4 h5 h6 h7 h8
  | box b off cs us C e fr h1 h2 h6 h7 h8 _ => simp only [AV.mapRef]; exact .box b off cs us C e fr h1 h2 h6 h7 h8
  | agg cs us hl _ ih =>
    simp only [AV.mapRef, AV.mapRefs_eq]
    refine .agg _ us (by simpa using hl) (fun i a u x y => ?_)
    rw [List.getElem?_map] at x
    cases hc : cs[i]? with
    | none => simp [hc] at x
    | some c => simp only [hc, Option.map_some, Option.some.injEq] at x; subst x; exact ih i c u hc y hm
  | tup cs us hl _ ih =>
    simp only [AV.mapRef, AV.mapRefs_eq]
    refine .tup _ us (by simpa using hl) (fun i a u x y => ?_)
    rw [List.getElem?_map] at x
    cases hc : cs[i]? with
    | none => simp [hc] at x
    | some c => simp only [hc, Option.map_some, Option.some.injEq] at x; subst x; exact ih i c u hc y hm
  | fn g cs us hl _ ih =>
    simp only [AV.mapRef, AV.mapRefs_eq]
    refine .fn g _ us (by simpa using hl) (fun i a u x y => ?_)
    rw [List.getElem?_map] at x
    cases hc : cs[i]? with
    | none => simp [hc] at x
    | some c => simp only [hc, Option.map_some, Option.some.injEq] at x; subst x; exact ih i c u hc y hm
  | sl r p off len v h h0 =>
    simp only [AV.mapRef]
    cases hf : f r p with
    | none => exact .junk v
    | some q =>
      obtain ⟨r', p'⟩ := q
      refine .sl r' p' off len v (fun T' hT' b sz n cap cs hN hle => ?_) (fun T' hT' sz hN hle => ?_)
      · obtain ⟨T, N, h1, h2, h3⟩ := hm r p r' p' hf T' _ hT' hN rfl
        obtain ⟨cs', rfl⟩ := hd_row h3
        exact h T h1 b sz n cap cs' h2 hle
      · obtain ⟨T, N, h1, h2, h3⟩ := hm r p r' p' hf T' _ hT' hN rfl
        obtain rfl := hd_nilrow h3
        exact h0 T h1 sz h2 hle
  | ptr r p o v h h' =>
    simp only [AV.mapRef]
    cases hf : f r p with
    | none => exact .junk v
    | some q =>
      obtain ⟨r', p'⟩ := q
      refine .ptr r' p' o v (fun T' hT' b sz n cap cs hN => ?_) (fun T' hT' b cs hN => ?_)
      · obtain ⟨T, N, h1, h2, h3⟩ := hm r p r' p' hf T' _ hT' hN rfl
        obtain ⟨cs', rfl⟩ := hd_row h3
        exact h T h1 b sz n cap cs' h2
      · obtain ⟨T, N, h1, h2, h3⟩ := hm r p r' p' hf T' _ hT' hN rfl
        obtain ⟨cs', rfl⟩ := hd_box h3
        exact h' T h1 b cs' h2

/-- The same, where no ref is told anew. -/
theorem VR.heads {w : World} {G : Nat → Prop} {m m' : Nat → Option HT} {a : AV} {v : Value} (h : VR w G m a v)
    (hm : ∀ r p T' N', m' r = some T' → T'.at_ p = some N' → N'.isMem = true → ∃ T N, m r = some T ∧ T.at_ p = some N ∧ N.hd = N'.hd) : VR w G m' a v := by
  induction h with
  | lit v => exact .lit v
  | junk v => exact .junk v
  | row0 sz A c => exact .row0 sz A c
  | row sz n c b off cs us C e fr h1 h2 h3 h4 h5 h6 h7 h8 _ => exact .row sz n c b off cs us C e fr h1 h2 h3 h4 h5 h6 h7 h8
  | box b off cs us C e fr h1 h2 h6 h7 h8 _ => exact .box b off cs us C e fr h1 h2 h6 h7 h8
  | agg cs us hl _ ih => exact .agg cs us hl (fun i a u x y => ih i a u x y hm)
  | tup cs us hl _ ih => exact .tup cs us hl (fun i a u x y => ih i a u x y hm)
  | fn f cs us hl _ ih => exact .fn f cs us hl (fun i a u x y => ih i a u x y hm)
  | sl r p off len v h h0 =>
    refine .sl r p off len v (fun T' hT' b sz n cap cs hN hle => ?_) (fun T' hT' sz hN hle => ?_)
    · obtain ⟨T, N, h1, h2, h3⟩ := hm r p T' _ hT' hN rfl
      obtain ⟨cs', rfl⟩ := hd_row h3
      exact h T h1 b sz n cap cs' h2 hle
    · obtain ⟨T, N, h1, h2, h3⟩ := hm r p T' _ hT' hN rfl
      obtain rfl := hd_nilrow h3
      exact h0 T h1 sz h2 hle
  | ptr r p o v h h' =>
    refine .ptr r p o v (fun T' hT' b sz n cap cs hN => ?_) (fun T' hT' b cs hN => ?_)
    · obtain ⟨T, N, h1, h2, h3⟩ := hm r p T' _ hT' hN rfl
      obtain ⟨cs', rfl⟩ := hd_row h3
      exact h T h1 b sz n cap cs' h2
    · obtain ⟨T, N, h1, h2, h3⟩ := hm r p T' _ hT' hN rfl
      obtain ⟨cs', rfl⟩ := hd_box h3
      exact h' T h1 b cs' h2

/-- Heads of what was put at a place, where it bears the same head and the same heads within. -/
theorem heads_upd : ∀ (p : List Nat) {T N N' : HT}, T.at_ p = some N → (∀ q M', N'.at_ q = some M' → M'.isMem = true → ∃ M, N.at_ q = some M ∧ M.hd = M'.hd) →
    ∀ q M', (T.upd p N').at_ q = some M' → M'.isMem = true → ∃ M, T.at_ q = some M ∧ M.hd = M'.hd
  | [], T, N, N', hn, h, q, M', hq, hm => by
    simp only [HT.at_, Option.some.injEq] at hn; subst hn
    simp only [HT.upd] at hq
    exact h q M' hq hm
  | i :: p, T, N, N', hn, h, q, M', hq, hm => by
    simp only [HT.at_] at hn
    split at hn
    · rename_i c hc
      simp only [HT.upd, hc] at hq
      obtain ⟨hi, hc'⟩ := List.getElem?_eq_some_iff.1 hc
      cases q with
      | nil =>
        simp only [HT.at_, Option.some.injEq] at hq
        subst hq
        exact ⟨T, rfl, (HT.withKids_hd hc _).symm⟩
      | cons j q =>
        simp only [HT.at_, HT.withKids_kids hc, List.getElem?_set] at hq
        by_cases hij : i = j
        · subst hij
          simp only [if_true, hi] at hq
          obtain ⟨M, h1, h2⟩ := heads_upd p hn h q M' hq hm
          exact ⟨M, by simp [HT.at_, hc, h1], h2⟩
        · simp only [hij, if_false] at hq
          exact ⟨M', by simpa only [HT.at_] using hq, rfl⟩
    · cases hn

structure ASt where
  t : Nat → AV
  m : Nat → Option AV

/-- A call's own place in the world: its program, the blocks that nobody writes and those that it may write, the world as it began, how many slots it has. -/
structure Env where
  P : Program
  G0 : Nat → Prop
  X : Nat → Prop
  w0 : World
  nt : Nat
  pv : Nat → Option Value

structure Ext (X : Nat → Prop) (w w' : World) : Prop where
  os : w'.os = w.os
  tape : w'.tape = w.tape
  output : w'.output = w.output
  size : w.heap.size ≤ w'.heap.size
  block : ∀ k, k < w.heap.size → ¬ X k → w'.heap[k]? = w.heap[k]?

theorem Ext.refl (X : Nat → Prop) (w : World) : Ext X w w := ⟨rfl, rfl, rfl, Nat.le_refl _, fun _ _ _ => rfl⟩
theorem Ext.trans {X Y : Nat → Prop} {a b c : World} (h : Ext X a b) (k : Ext Y b c) (hY : ∀ i, i < a.heap.size → Y i → X i) : Ext X a c :=
  ⟨k.os.trans h.os, k.tape.trans h.tape, k.output.trans h.output, Nat.le_trans h.size k.size, fun i hi hx => (k.block i (Nat.lt_of_lt_of_le hi h.size) (fun hy => hx (hY i hi hy))).trans (h.block i hi hx)⟩

structure RelX (E : Env) (M : Nat → Option HT) (G : Nat → Prop) (s : ASt) (a : Act) (w : World) : Prop where
  er : ∀ r, s.m r = (M r).map HT.erase
  sat : ∀ r T, M r = some T → Sat w G T
  nd : ∀ r T, M r = some T → T.blocks.Nodup
  dj : ∀ r r' T T', r ≠ r' → M r = some T → M r' = some T' → ∀ x, x ∈ T.blocks → x ∉ T'.blocks
  own : ∀ r T, M r = some T → ∀ x ∈ T.blocks, x < w.heap.size ∧ ¬ G x ∧ (E.w0.heap.size ≤ x ∨ E.X x)
  gd : ∀ x, G x → x < w.heap.size ∧ (E.G0 x ∨ E.w0.heap.size ≤ x)
  g0 : ∀ x, E.G0 x → G x
  sl : ∀ i, VR w G M (s.t i) (a.tmps.getD i undef)
  ext : Ext E.X E.w0 w
  df : a.defers = []
  nt : a.tmps.size = E.nt
  n1 : E.nt ≤ 1000
  pv : ∀ r v, E.pv r = some v → 1000 ≤ r ∧ ∃ T, M r = some T ∧ T.value = v

def Rel (E : Env) (s : ASt) (a : Act) (w : World) : Prop := ∃ M G, RelX E M G s a w

def ASt.set (s : ASt) (d : Nat) (v : AV) : ASt := ⟨fun i => if i = d then v else s.t i, s.m⟩
def ASt.new (s : ASt) (d : Nat) (v T : AV) : ASt := ⟨fun i => if i = d then v else (s.t i).mapRef (killF d []), fun r => if r = d then some T else s.m r⟩
def ASt.updM (s : ASt) (r : Nat) (p : List Nat) (T : AV) : ASt := ⟨s.t, fun q => if q = r then (s.m r).map (·.upd p T) else s.m q⟩
def ASt.mapT (s : ASt) (f : Nat → List Nat → Option (Nat × List Nat)) : ASt := ⟨fun i => (s.t i).mapRef f, s.m⟩
def ASt.ev (s : ASt) : Operand → AV
  | .tmp t => s.t t
  | .const v => .lit v
  | .global _ => .junk
  | .func f => .fn f []

theorem RelX.ev {E : Env} {M : Nat → Option HT} {G : Nat → Prop} {s : ASt} {a : Act} {w : World} (h : RelX E M G s a w) (x : Operand) : VR w G M (s.ev x) (a.eval x) := by
  cases x with
  | tmp t => exact h.sl t
  | const v => exact .lit v
  | global g => exact .junk _
  | func f => exact .fn f [] [] rfl (fun i a u x y => by simp at x)

theorem put_some (a : Act) (d : Nat) (v : Value) : a.put (some d) v = { a with tmps := a.tmps.setIfInBounds d v } := rfl
theorem put_getD (a : Act) (d i : Nat) (v : Value) (hd : d < a.tmps.size) : (a.put (some d) v).tmps.getD i undef = if i = d then v else a.tmps.getD i undef := by
  simp only [put_some, Array.getD_eq_getD_getElem?, Array.getElem?_setIfInBounds]
  by_cases h : i = d
  · subst h; simp [hd]
  · simp [h, Ne.symm h]

/-- A value comes into a slot; the world may have grown. -/
theorem RelX.set {E : Env} {M : Nat → Option HT} {G : Nat → Prop} {s : ASt} {a : Act} {w w' : World} (h : RelX E M G s a w) {d : Nat} (hd : d < E.nt) {v : AV} {u : Value}
    (hw : Ext (fun _ => False) w w') (hv : VR w' G M v u) : RelX E M G (s.set d v) (a.put (some d) u) w' := by
  have hb : ∀ b, b < w.heap.size → w'.heap[b]? = w.heap[b]? := fun b hb => hw.block b hb (fun h => h)
  refine ⟨h.er, fun r T hT => (h.sat r T hT).congr (fun b hx => hb b (h.own r T hT b hx).1) (fun b hx => hb b (h.gd b hx).1) (fun _ hx => hx), h.nd, h.dj, fun r T hT x hx => ?_, fun x hx => ?_, h.g0, fun i => ?_, ?_, h.df, ?_, h.n1, h.pv⟩
  · obtain ⟨h1, h2, h3⟩ := h.own r T hT x hx
    exact ⟨Nat.lt_of_lt_of_le h1 hw.size, h2, h3⟩
  · obtain ⟨h1, h2⟩ := h.gd x hx
    exact ⟨Nat.lt_of_lt_of_le h1 hw.size, h2⟩
  · rw [put_getD a d i u (by rw [h.nt]; exact hd)]
    simp only [ASt.set]
    split
    · exact hv
    · exact (h.sl i).congr (fun b hx => hb b (h.gd b hx).1) (fun _ hx => hx)
  · exact h.ext.trans hw (fun i _ hi => hi.elim)
  · simp [put_some, h.nt]

end Go.Av
end
section
set_option linter.unusedSimpArgs false
set_option linter.unusedVariables false
/-! What an operation does to the state of a call. -/
namespace Go.Av

def Heads (ex : List Nat → Prop) (T T' : HT) : Prop := ∀ q M', ¬ ex q → T'.at_ q = some M' → M'.isMem = true → ∃ M, T.at_ q = some M ∧ M.hd = M'.hd

theorem Heads.refl (ex : List Nat → Prop) (T : HT) : Heads ex T T := fun q M' _ h _ => ⟨M', h, rfl⟩
theorem Heads.leaf (ex : List Nat → Prop) (T : HT) (a : AV) (v : Value) : Heads ex T (.leaf a v) := fun q M' _ h hm => by
  cases q with
  | nil => simp only [HT.at_, Option.some.injEq] at h; subst h; simp [HT.isMem] at hm
  | cons i q => simp [HT.at_, HT.kids] at h

theorem Heads.upd : ∀ (p : List Nat) {ex : List Nat → Prop} {T N N' : HT}, T.at_ p = some N → Heads ex N N' → Heads (fun q => ∃ q', q = p ++ q' ∧ ex q') T (T.upd p N')
  | [], ex, T, N, N', hn, h, q, M', hx, hq, hm => by
    simp only [HT.at_, Option.some.injEq] at hn; subst hn
    simp only [HT.upd] at hq
    exact h q M' (fun e => hx ⟨q, rfl, e⟩) hq hm
  | i :: p, ex, T, N, N', hn, h, q, M', hx, hq, hm => by
    simp only [HT.at_] at hn
    split at hn
    · rename_i c hc
      simp only [HT.upd, hc] at hq
      obtain ⟨hi, hc'⟩ := List.getElem?_eq_some_iff.1 hc
      cases q with
      | nil =>
        simp only [HT.at_, Option.some.injEq] at hq
        subst hq
        exact ⟨T, rfl, (HT.withKids_hd hc _).symm⟩
      | cons j q =>
        simp only [HT.at_, HT.withKids_kids hc, List.getElem?_set] at hq
        by_cases hij : i = j
        · subst hij
          simp only [if_true, hi] at hq
          obtain ⟨M, h1, h2⟩ := Heads.upd p hn h q M' (fun ⟨q', e, e'⟩ => hx ⟨q', by simp [e], e'⟩) hq hm
          exact ⟨M, by simp [HT.at_, hc, h1], h2⟩
        · simp only [hij, if_false] at hq
          exact ⟨M', by simpa only [HT.at_] using hq, rfl⟩
    · cases hn

def updF (M : Nat → Option HT) (r : Nat) (T : Option HT) : Nat → Option HT := fun q => if q = r then T else M q

/-- A new region. -/
theorem RelX.new {E : Env} {M : Nat → Option HT} {G G' : Nat → Prop} {s : ASt} {a : Act} {w w' : World} (h : RelX E M G s a w) {d : Nat} (hd : d < E.nt) {v : AV} {u : Value} {T : HT}
    (hw : Ext (fun _ => False) w w') (hGG : ∀ x, G x → G' x) (hG' : ∀ x, G' x → G x ∨ (w.heap.size ≤ x ∧ x < w'.heap.size)) (hT : Sat w' G' T) (hnd : T.blocks.Nodup)
    (hb : ∀ x ∈ T.blocks, w.heap.size ≤ x ∧ x < w'.heap.size ∧ ¬ G' x) (hv : VR w' G' (updF M d (some T)) v u) :
    RelX E (updF M d (some T)) G' (s.new d v T.erase) (a.put (some d) u) w' := by
  have hbl : ∀ b, b < w.heap.size → w'.heap[b]? = w.heap[b]? := fun b hb => hw.block b hb (fun h => h)
  refine ⟨fun r => ?_, fun r T' hT' => ?_, fun r T' hT' => ?_, fun r r' T1 T2 hr h1 h2 x hx hx' => ?_, fun r T' hT' x hx => ?_, fun x hx => ?_, fun x hx => hGG x (h.g0 x hx), fun i => ?_, ?_, h.df, ?_, h.n1, fun r v hv => ?_⟩
  · simp only [ASt.new, updF]
    split
    · rfl
    · exact h.er r
  · simp only [updF] at hT'
    split at hT'
    · cases hT'; exact hT
    · exact (h.sat r T' hT').congr (fun b hx => hbl b (h.own r T' hT' b hx).1) (fun b hx => hbl b (h.gd b hx).1) hGG
  · simp only [updF] at hT'
    split at hT'
    · cases hT'; exact hnd
    · exact h.nd r T' hT'
  · simp only [updF] at h1 h2
    split at h1 <;> split at h2
    · omega
    · cases h1; have := (hb x hx).1; have := (h.own r' T2 h2 x hx').1; omega
    · cases h2; have := (hb x hx').1; have := (h.own r T1 h1 x hx).1; omega
    · exact h.dj r r' T1 T2 hr h1 h2 x hx hx'
  · simp only [updF] at hT'
    split at hT'
    · cases hT'
      obtain ⟨h1, h2, h3⟩ := hb x hx
      exact ⟨h2, h3, .inl (Nat.le_trans h.ext.size h1)⟩
    · obtain ⟨h1, h2, h3⟩ := h.own r T' hT' x hx
      exact ⟨Nat.lt_of_lt_of_le h1 hw.size, fun hg => (hG' x hg).elim h2 (fun h4 => by omega), h3⟩
  · rcases hG' x hx with hg | ⟨h1, h2⟩
    · obtain ⟨h1, h2⟩ := h.gd x hg
      exact ⟨Nat.lt_of_lt_of_le h1 hw.size, h2⟩
    · exact ⟨h2, .inr (Nat.le_trans h.ext.size h1)⟩
  · rw [put_getD a d i u (by rw [h.nt]; exact hd)]
    simp only [ASt.new]
    split
    · exact hv
    · refine ((h.sl i).congr (fun b hx => hbl b (h.gd b hx).1) hGG).mapRef (fun r p r' p' hf T' N' hT' hN' hm => ?_)
      simp only [killF] at hf
      split at hf
      · cases hf
      · rename_i hk
        simp only [Option.some.injEq, Prod.mk.injEq] at hf
        obtain ⟨rfl, rfl⟩ := hf
        have hrd : r ≠ d := fun e => hk ⟨e, by simp⟩
        simp only [updF, hrd, if_false] at hT'
        exact ⟨T', N', hT', hN', rfl⟩
  · exact h.ext.trans hw (fun i _ hi => hi.elim)
  · simp [put_some, h.nt]
  · obtain ⟨h1, T', h2, h3⟩ := h.pv r v hv
    have := h.n1
    exact ⟨h1, T', by simp only [updF]; rw [if_neg (by omega)]; exact h2, h3⟩

/-- What lies at a place is put anew, under the same head. -/
theorem RelX.write {E : Env} {M : Nat → Option HT} {G : Nat → Prop} {s : ASt} {a : Act} {w w' : World} (h : RelX E M G s a w) {r : Nat} {p : List Nat} {T N N' : HT} (hr : M r = some T) (hp : T.at_ p = some N)
    (hv : N'.value = N.value) (hh : Heads (fun _ => False) N N') (hw : Ext (fun x => x ∈ N.blocks) w w') (hs : Sat w' G N') (hnd : N'.blocks.Nodup)
    (hb : ∀ x ∈ N'.blocks, x ∈ N.blocks ∨ ((∀ r T, M r = some T → x ∉ T.blocks) ∧ x < w.heap.size ∧ ¬ G x ∧ (E.w0.heap.size ≤ x ∨ E.X x))) :
    RelX E (updF M r (some (T.upd p N'))) G (s.updM r p N'.erase) a w' := by
  have hN := at_blocks p hp
  have hsT := h.sat r T hr
  have hndT := h.nd r T hr
  have hG : ∀ b, G b → w'.heap[b]? = w.heap[b]? := fun b hg => hw.block b (h.gd b hg).1 (fun hx => (h.own r T hr b (hN b hx)).2.1 hg)
  have hmem := mem_blocks_upd p (N' := N') hp hndT
  refine ⟨fun q => ?_, fun q T' hT' => ?_, fun q T' hT' => ?_, fun q q' T1 T2 hq h1 h2 x hx hx' => ?_, fun q T' hT' x hx => ?_, fun x hx => ?_, h.g0, fun i => ?_, ?_, h.df, h.nt, h.n1, fun q v hv' => ?_⟩
  · simp only [ASt.updM, updF]
    split
    · rename_i e; subst e
      simp only [h.er, hr, Option.map_some]
      rw [erase_upd p hsT hp]
    · exact h.er q
  · simp only [updF] at hT'
    split at hT'
    · rename_i e; subst e
      cases hT'
      exact Sat.upd hG (fun _ hg => hg) p hsT hp hndT hv hs (fun b hb1 hb2 => hw.block b (h.own q T hr b hb1).1 hb2)
    · rename_i e
      exact (h.sat q T' hT').congr (fun b hx => hw.block b (h.own q T' hT' b hx).1 (fun hx' => h.dj q r T' T e hT' hr b hx (hN b hx'))) hG (fun _ hg => hg)
  · simp only [updF] at hT'
    split at hT'
    · cases hT'
      exact nodup_upd p hp hndT hnd (fun x hx hxT => (hb x hx).elim id (fun hf => absurd hxT (hf.1 r T hr)))
    · exact h.nd q T' hT'
  · have key : ∀ T3 q3, q3 ≠ r → M q3 = some T3 → ∀ y, y ∈ (T.upd p N').blocks → y ∉ T3.blocks := fun T3 q3 hq3 h3 y hy hy3 => by
      rcases hmem y hy with h4 | ⟨h4, _⟩
      · rcases hb y h4 with h5 | h5
        · exact h.dj r q3 T T3 (Ne.symm hq3) hr h3 y (hN y h5) hy3
        · exact h5.1 q3 T3 h3 hy3
      · exact h.dj r q3 T T3 (Ne.symm hq3) hr h3 y h4 hy3
    simp only [updF] at h1 h2
    split at h1 <;> split at h2
    · omega
    · cases h1; exact key T2 q' (by assumption) h2 x hx hx'
    · cases h2; exact key T1 q (by assumption) h1 x hx' hx
    · exact h.dj q q' T1 T2 hq h1 h2 x hx hx'
  · simp only [updF] at hT'
    split at hT'
    · cases hT'
      have : x ∈ T.blocks ∨ (x < w.heap.size ∧ ¬ G x ∧ (E.w0.heap.size ≤ x ∨ E.X x)) := by
        rcases hmem x hx with h4 | ⟨h4, _⟩
        · rcases hb x h4 with h5 | h5
          · exact .inl (hN x h5)
          · exact .inr h5.2
        · exact .inl h4
      rcases this with h4 | ⟨h5, h6, h7⟩
      · obtain ⟨h5, h6, h7⟩ := h.own r T hr x h4
        exact ⟨Nat.lt_of_lt_of_le h5 hw.size, h6, h7⟩
      · exact ⟨Nat.lt_of_lt_of_le h5 hw.size, h6, h7⟩
    · obtain ⟨h5, h6, h7⟩ := h.own q T' hT' x hx
      exact ⟨Nat.lt_of_lt_of_le h5 hw.size, h6, h7⟩
  · obtain ⟨h1, h2⟩ := h.gd x hx
    exact ⟨Nat.lt_of_lt_of_le h1 hw.size, h2⟩
  · refine ((h.sl i).congr hG (fun _ hg => hg)).heads (fun q p' T' M' hT' hM' hm => ?_)
    simp only [updF] at hT'
    split at hT'
    · rename_i e; subst e; cases hT'
      obtain ⟨M1, h1, h2⟩ := Heads.upd p hp hh p' M' (by simp) hM' hm
      exact ⟨T, M1, hr, h1, h2⟩
    · exact ⟨T', M', hT', hM', rfl⟩
  · exact h.ext.trans hw (fun i hi hx => (h.own r T hr i (hN i hx)).2.2.resolve_left (by omega))
  · obtain ⟨h1, T', h2, h3⟩ := h.pv q v hv'
    by_cases e : q = r
    · subst e
      rw [hr] at h2; cases h2
      exact ⟨h1, T.upd p N', by simp [updF], (value_upd p hp hv).trans h3⟩
    · exact ⟨h1, T', by simp only [updF, e, if_false]; exact h2, h3⟩

/-- What lies at a place is taken away from it. -/
theorem RelX.take {E : Env} {M : Nat → Option HT} {G : Nat → Prop} {s : ASt} {a : Act} {w : World} (h : RelX E M G s a w) {r : Nat} {p : List Nat} {T N : HT} (hr : M r = some T) (hp : T.at_ p = some N) :
    RelX E (updF M r (some (T.upd p (.leaf .junk N.value)))) G (s.updM r p .junk) a w ∧ Sat w G N ∧ N.blocks.Nodup ∧
      (∀ x ∈ N.blocks, (∀ q T', updF M r (some (T.upd p (.leaf .junk N.value))) q = some T' → x ∉ T'.blocks) ∧ x < w.heap.size ∧ ¬ G x ∧ (E.w0.heap.size ≤ x ∨ E.X x)) := by
  have hN := at_blocks p hp
  have hndT := h.nd r T hr
  have hnd : N.blocks.Nodup := by
    have key : ∀ (p : List Nat) (T N : HT), T.at_ p = some N → T.blocks.Nodup → N.blocks.Nodup := by
      intro p
      induction p with
      | nil => intro T N hn hd; simp only [HT.at_, Option.some.injEq] at hn; exact hn ▸ hd
      | cons i p ih =>
        intro T N hn hd
        simp only [HT.at_] at hn
        split at hn
        · rename_i c hc
          obtain ⟨e1, _⟩ := flatMap_set HT.blocks T.kids i c c hc
          rw [HT.blocks_kids, e1] at hd
          simp only [List.nodup_append] at hd
          exact ih c N hn hd.2.1.2.1.1
        · cases hn
    exact key p T N hp hndT
  refine ⟨h.write hr hp rfl (Heads.leaf _ _ _ _) (Ext.refl _ _) (.leaf _ _ rfl (.junk _)) (by simp [HT.blocks]) (by simp [HT.blocks]), (h.sat r T hr).at_ p hp, hnd, fun x hx => ⟨fun q T' hT' hx' => ?_, h.own r T hr x (hN x hx)⟩⟩
  simp only [updF] at hT'
  split at hT'
  · cases hT'
    rcases mem_blocks_upd p hp hndT x hx' with h1 | ⟨_, h1⟩
    · simp [HT.blocks] at h1
    · exact h1 hx
  · rename_i e
    exact h.dj q r T' T e hT' hr x hx' (hN x hx)

/-- Less may be known of a slot. -/
theorem RelX.weak {E : Env} {M : Nat → Option HT} {G : Nat → Prop} {s s' : ASt} {a : Act} {w : World} (h : RelX E M G s a w) (hm : s'.m = s.m) (ht : ∀ i u, VR w G M (s.t i) u → VR w G M (s'.t i) u) : RelX E M G s' a w :=
  ⟨fun r => by rw [hm]; exact h.er r, h.sat, h.nd, h.dj, h.own, h.gd, h.g0, fun i => ht i _ (h.sl i), h.ext, h.df, h.nt, h.n1, h.pv⟩

end Go.Av
end
section
set_option linter.unusedSimpArgs false
set_option linter.unusedVariables false
/-! Code and its operations, over the state of a call. -/
namespace Go.Av

inductive AX where
  | nm | rt | ex (id : Nat)

def Post (E : Env) (K : AX → ASt → Prop) : Exit → Act → World → Prop
  | .normal, a, w => ∃ s, Rel E s a w ∧ K .nm s
  | .ret, a, w => ∃ s, Rel E s a w ∧ K .rt s
  | .exit id, a, w => ∃ s, Rel E s a w ∧ K (.ex id) s
  | _, _, _ => False

def AWP (E : Env) (c : Code) (K : AX → ASt → Prop) (s : ASt) : Prop := ∀ a w, Rel E s a w → c.wp E.P (Post E K) a w

def thenK (k : ASt → Prop) (K : AX → ASt → Prop) : AX → ASt → Prop
  | .nm, s => k s
  | e, s => K e s
def blockK (id : Nat) (K : AX → ASt → Prop) : AX → ASt → Prop
  | .ex i, s => if i = id then K .nm s else K (.ex i) s
  | e, s => K e s

theorem AWP.mono {E : Env} {c : Code} {K K' : AX → ASt → Prop} {s : ASt} (h : AWP E c K s) (hk : ∀ e s, K e s → K' e s) : AWP E c K' s := fun a w hr =>
  wp_mono (h a w hr) (fun e a' w' hp => by
    cases e <;> first | exact hp | (obtain ⟨s', h1, h2⟩ := hp; exact ⟨s', h1, hk _ _ h2⟩))

theorem AWP.skip {E : Env} {K : AX → ASt → Prop} {s : ASt} (h : K .nm s) : AWP E .skip K s := fun a w hr => wp_skip ⟨s, hr, h⟩
theorem AWP.ret {E : Env} {K : AX → ASt → Prop} {s : ASt} (h : K .rt s) : AWP E .ret K s := fun a w hr => wp_ret ⟨s, hr, h⟩
theorem AWP.exit {E : Env} {K : AX → ASt → Prop} {s : ASt} {id : Nat} (h : K (.ex id) s) : AWP E (.exit id) K s := fun a w hr => wp_exit ⟨s, hr, h⟩
theorem AWP.label {E : Env} {K : AX → ASt → Prop} {s : ASt} {l : Nat} (h : K .nm s) : AWP E (.label l) K s := fun a w hr => wp_label ⟨s, hr, h⟩

theorem AWP.seq {E : Env} {x y : Code} {K : AX → ASt → Prop} {s : ASt} (h : AWP E x (thenK (AWP E y K) K) s) : AWP E (.seq x y) K s := fun a w hr =>
  wp_seq (wp_mono (h a w hr) (fun e a' w' hp => by
    cases e <;> first | exact hp | (obtain ⟨s', h1, h2⟩ := hp; exact h2 a' w' h1)))

theorem AWP.block {E : Env} {c : Code} {id : Nat} {K : AX → ASt → Prop} {s : ASt} (h : AWP E c (blockK id K) s) : AWP E (.block id c) K s := fun a w hr =>
  wp_block (wp_mono (h a w hr) (fun e a' w' hp => by
    cases e with
    | exit i =>
      obtain ⟨s', h1, h2⟩ := hp
      simp only [blockK] at h2
      simp only [Exit.inBlock]
      split
      · rename_i e; rw [if_pos e] at h2; exact ⟨s', h1, h2⟩
      · rename_i e; rw [if_neg e] at h2; exact ⟨s', h1, h2⟩
    | _ => exact hp))

theorem VR.bool {w : World} {G : Nat → Prop} {m : Nat → Option HT} {v u : Value} (h : VR w G m (.lit v) u) : u = v := by cases h; rfl

theorem AWP.cond {E : Env} {c : Operand} {x y : Code} {K : AX → ASt → Prop} {s : ASt} {b : Bool} (hc : s.ev c = .lit (.bool b)) (hx : b = true → AWP E x K s) (hy : b = false → AWP E y K s) :
    AWP E (.cond c x y) K s := fun a w hr => by
  obtain ⟨M, G, h⟩ := hr
  have he := h.ev c
  rw [hc] at he
  exact wp_cond_split he.bool (fun e => hx e a w ⟨M, G, h⟩) (fun e => hy e a w ⟨M, G, h⟩)

/-- A loop: 'I i s': what holds at a round's head; 'mu' falls. -/
theorem AWP.loop {E : Env} {c : Code} {K : AX → ASt → Prop} {ι : Type} (I : ι → ASt → Prop) (mu : ι → Nat) {s : ASt} (i : ι) (h0 : I i s)
    (round : ∀ i s, I i s → AWP E c (thenK (fun s' => ∃ j, I j s' ∧ mu j < mu i) K) s) : AWP E (.loop c) K s := fun a w hr => by
  intro b k cs
  have key : ∀ n i s a w, mu i = n → I i s → Rel E s a w →
      ∃ e a' w', Post E K e a' w' ∧ Arrives E.P (lone (b.at a (.code c :: .inLoop c :: k)) cs w) b k cs e a' w' := by
    intro n
    induction n using Nat.strongRecOn with
    | _ n ih =>
      intro i s a w hn hI hr
      obtain ⟨e, a₁, w₁, hq, harr⟩ := round i s hI a w hr b (.inLoop c :: k) cs
      cases e with
      | normal =>
        obtain ⟨s', hr', j, hI', hlt⟩ := hq
        obtain ⟨e₂, a₂, w₂, hq₂, harr₂⟩ := ih (mu j) (hn ▸ hlt) j s' a₁ w₁ rfl hI' hr'
        exact ⟨e₂, a₂, w₂, hq₂, .of_steps (Steps.trans harr (.one step_inLoop)) harr₂⟩
      | exit id => exact ⟨.exit id, a₁, w₁, (show Post E K (.exit id) a₁ w₁ from hq), .pass (x := .inLoop c) rfl (fun _ _ => .inl (by simp)) harr⟩
      | goto l => exact hq.elim
      | ret => exact ⟨.ret, a₁, w₁, (show Post E K .ret a₁ w₁ from hq), .pass (x := .inLoop c) rfl (fun _ _ => .inl (by simp)) harr⟩
      | panic ch => exact hq.elim
      | outgrown => exact hq.elim
  obtain ⟨e, a', w', hq, harr⟩ := key _ i s a w rfl h0 hr
  exact ⟨e, a', w', hq, .of_steps (.one step_loop) harr⟩

/-! ### Operations -/
def No : Exit → Act → World → Prop := fun _ _ _ => False
def put (s : ASt) (d : Option Tmp) (v : AV) : Option AV → ASt
  | none => match d with
    | some d => s.set d v
    | none => s
  | some T => match d with
    | some d => s.new d v T
    | none => s

structure Le (s s' : ASt) : Prop where
  t : ∀ i, s.t i = .junk ∨ s'.t i = s.t i
  m : ∀ r T, s.m r = some T → s'.m r = some T
theorem Le.refl (s : ASt) : Le s s := ⟨fun _ => .inr rfl, fun _ _ h => h⟩
theorem Le.ev {s s' : ASt} (h : Le s s') {x : Operand} {A : AV} (hx : s.ev x = A) (hA : A ≠ .junk) : s'.ev x = A := by
  cases x with
  | tmp t => exact ((h.t t).resolve_left (fun e => hA (hx ▸ e))).trans hx
  | const v => exact hx
  | global g => exact hx
  | func f => exact hx

/-- A quiet operation: it gives a value (and memory of its own), and turns nothing else. -/
def QJ (E : Env) (o : Oper) (s : ASt) (v : AV) (T : Option AV) : Prop :=
  ∀ s', Le s s' → ∀ a w, Rel E s' a w → o.wp E.P a w (fun a' w' => Rel E (put s' o.dst v T) a' w') No
/-- Any operation. -/
def LJ (E : Env) (o : Oper) (s : ASt) (k : ASt → Prop) : Prop :=
  ∀ a w, Rel E s a w → o.wp E.P a w (fun a' w' => ∃ s', Rel E s' a' w' ∧ k s') No
theorem LJ.of_q {E : Env} {o : Oper} {s : ASt} {v : AV} {T : Option AV} {k : ASt → Prop} (h : QJ E o s v T) (hk : k (put s o.dst v T)) : LJ E o s k := fun a w hr =>
  Oper.wp_mono (fun a' w' hr' => ⟨_, hr', hk⟩) (h s (Le.refl s) a w hr)

def NK (E : Env) (k : ASt → Prop) : Exit → Act → World → Prop := fun e a w => e = .normal ∧ ∃ s, Rel E s a w ∧ k s
/-- The operations 'l' of a region, in the text's order. -/
def Seq (E : Env) (ops : Array Oper) (l : List Oper) (k : ASt → Prop) (s : ASt) : Prop := ∀ a w, Rel E s a w → wpList E.P ops (NK E k) l a w

theorem Oper.wp_both {P : Program} {o : Oper} {a : Act} {w : World} {K K' : Act → World → Prop} {Q : Exit → Act → World → Prop} (h : ∀ a w, K a w → K' a w) (hh : o.wp P a w K No) : o.wp P a w K' Q := by
  unfold Oper.wp at *
  generalize (execOp a.eval o).run P w = r at *
  cases r with
  | ok n w' =>
    cases n <;> simp only [Oper.upon] at hh ⊢ <;>
      first
        | exact h _ _ hh
        | exact hh
        | exact Calls.mono hh (fun e w'' he => by cases e <;> first | exact h _ _ he | exact he.elim | (obtain ⟨_, _, he⟩ := he; exact he.elim))
        | exact Rows.mono hh (fun _ _ he => h _ _ he)
  | halt x w' => cases x <;> simp only [Oper.upon] at hh ⊢ <;> exact hh.elim

theorem Seq.nil {E : Env} {ops : Array Oper} {k : ASt → Prop} {s : ASt} (h : k s) : Seq E ops [] k s := fun a w hr => ⟨rfl, s, hr, h⟩
theorem Seq.cons {E : Env} {ops : Array Oper} {o : Oper} {rest : List Oper} {k : ASt → Prop} {s : ASt} (hg : o.guard = none) (h : LJ E o s (Seq E ops rest k)) : Seq E ops (o :: rest) k s := fun a w hr => by
  unfold wpList
  rw [if_pos (by simp [Region.wanted, hg])]
  exact .inl (Oper.wp_both (fun a' w' ⟨s', h1, h2⟩ => h2 a' w' h1) (h a w hr))

theorem yielded_of {ops : Array Oper} {a : Act} {j d : Nat} {b : Bool} (hd : (ops[j]?).bind (·.dst) = some d) (h : a.tmps.getD d undef = .bool b) : yielded ops a.tmps j = some b := by
  have : a.tmps[d]? = some (.bool b) := by
    rw [Array.getD_eq_getD_getElem?] at h
    cases hx : a.tmps[d]? with
    | none => rw [hx] at h; simp [undef] at h
    | some v => rw [hx] at h; simpa using h
  simp [yielded, hd, this]

theorem yielded_not {ops : Array Oper} {a : Act} {j d : Nat} {b : Bool} {c : Value} (hd : (ops[j]?).bind (·.dst) = some d) (h : a.tmps.getD d undef = c) (hc : c ≠ .bool b) : (yielded ops a.tmps j == some b) = false := by
  rw [Array.getD_eq_getD_getElem?] at h
  unfold yielded
  rw [hd, Option.bind_some]
  cases hx : a.tmps[d]? with
  | none => rfl
  | some v =>
    rw [hx] at h
    simp only [Option.getD_some] at h
    subst h
    cases v <;> simp_all
theorem VR.litv {w : World} {G : Nat → Prop} {m : Nat → Option HT} {c v : Value} (h : VR w G m (.lit c) v) : v = c := by cases h; rfl

theorem Seq.yes {E : Env} {ops : Array Oper} {o : Oper} {rest : List Oper} {k : ASt → Prop} {s : ASt} {j d : Nat} {b : Bool} (hg : o.guard = some (j, b)) (hd : (ops[j]?).bind (·.dst) = some d)
    (hb : s.t d = .lit (.bool b)) (h : LJ E o s (Seq E ops rest k)) : Seq E ops (o :: rest) k s := fun a w hr => by
  unfold wpList
  obtain ⟨M, G, hr'⟩ := hr
  have hv := hr'.sl d
  rw [hb] at hv
  rw [if_pos (by simp [Region.wanted, hg, yielded_of hd hv.bool])]
  exact .inl (Oper.wp_both (fun a' w' ⟨s', h1, h2⟩ => h2 a' w' h1) (h a w ⟨M, G, hr'⟩))

theorem RelX.undef {E : Env} {M : Nat → Option HT} {G : Nat → Prop} {s : ASt} {a : Act} {w : World} (h : RelX E M G s a w) (d : Option Tmp) (hd : ∀ x, d = some x → x < E.nt) : RelX E M G (put s d (.lit Go.undef) none) (a.put d Go.undef) w := by
  cases d with
  | none => exact h
  | some x => exact h.set (hd x rfl) (Ext.refl _ _) (.lit _)

theorem Seq.no {E : Env} {ops : Array Oper} {o : Oper} {rest : List Oper} {k : ASt → Prop} {s : ASt} {j d : Nat} {b : Bool} {c : Value} (hg : o.guard = some (j, b)) (hd : (ops[j]?).bind (·.dst) = some d)
    (hb : s.t d = .lit c) (hbc : c ≠ .bool b) (hn : ∀ x, o.dst = some x → x < E.nt) (h : Seq E ops rest k (put s o.dst (.lit Go.undef) none)) : Seq E ops (o :: rest) k s := fun a w hr => by
  unfold wpList
  obtain ⟨M, G, hr'⟩ := hr
  have hv := hr'.sl d
  rw [hb] at hv
  rw [if_neg (by simp [Region.wanted, hg, yielded_not hd hv.litv hbc])]
  exact h _ w ⟨M, G, hr'.undef o.dst hn⟩

theorem AWP.region {E : Env} {id : Nat} {l : List Oper} {K : AX → ASt → Prop} {s : ASt} (h : Seq E l.toArray l (K .nm) s) : AWP E (.region id l.toArray false) K s := fun a w hr =>
  wp_mono (wp_region_lit (h a w hr)) (fun e a' w' hp => by obtain ⟨rfl, s', h1, h2⟩ := hp; exact ⟨s', h1, h2⟩)

end Go.Av
end
section
set_option linter.unusedSimpArgs false
set_option linter.unusedVariables false
/-! A region whose order is drawn: quiet operations in whatever order, then the others in the text's. -/
namespace Go.Av

mutual
def AV.allRef (f : Nat → Bool) : AV → Bool
  | .sl r _ _ _ => f r
  | .ptr r _ _ => f r
  | .agg cs => AV.allRefs f cs
  | .tup cs => AV.allRefs f cs
  | .fn _ cs => AV.allRefs f cs
  | .lit _ => true
  | .row _ _ _ _ => true
  | .box _ _ => true
  | .junk => true
def AV.allRefs (f : Nat → Bool) : List AV → Bool
  | [] => true
  | c :: r => AV.allRef f c && AV.allRefs f r
end
mutual
theorem mapRef_id (g : Nat → List Nat → Option (Nat × List Nat)) (f : Nat → Bool) (hg : ∀ r p, f r = true → g r p = some (r, p)) : ∀ (a : AV), a.allRef f = true → a.mapRef g = a
  | .sl r p o l, h => by simp only [AV.allRef] at h; simp only [AV.mapRef, hg r p h]
  | .ptr r p o, h => by simp only [AV.allRef] at h; simp only [AV.mapRef, hg r p h]
  | .agg cs, h => by simp only [AV.allRef] at h; simp only [AV.mapRef, mapRefs_id g f hg cs h]
  | .tup cs, h => by simp only [AV.allRef] at h; simp only [AV.mapRef, mapRefs_id g f hg cs h]
  | .fn _ cs, h => by simp only [AV.allRef] at h; simp only [AV.mapRef, mapRefs_id g f hg cs h]
  | .lit _, _ => by simp only [AV.mapRef]
  | .row _ _ _ _, _ => by simp only [AV.mapRef]
  | .box _ _, _ => by simp only [AV.mapRef]
  | .junk, _ => by simp only [AV.mapRef]
theorem mapRefs_id (g : Nat → List Nat → Option (Nat × List Nat)) (f : Nat → Bool) (hg : ∀ r p, f r = true → g r p = some (r, p)) : ∀ (l : List AV), AV.allRefs f l = true → AV.mapRefs g l = l
  | [], _ => by simp only [AV.mapRefs]
  | c :: r, h => by
    simp only [AV.allRefs, Bool.and_eq_true] at h
    simp only [AV.mapRefs, mapRef_id g f hg c h.1, mapRefs_id g f hg r h.2]
end
mutual
theorem allRef_map (g : Nat → List Nat → Option (Nat × List Nat)) (f : Nat → Bool) (hg : ∀ r p r' p', g r p = some (r', p') → f r' = true) : ∀ (a : AV), (a.mapRef g).allRef f = true
  | .sl r p o l => by
    simp only [AV.mapRef]
    cases h : g r p with
    | none => simp only [AV.allRef]
    | some q => simp only [AV.allRef]; exact hg r p q.1 q.2 h
  | .ptr r p o => by
    simp only [AV.mapRef]
    cases h : g r p with
    | none => simp only [AV.allRef]
    | some q => simp only [AV.allRef]; exact hg r p q.1 q.2 h
  | .agg cs => by simp only [AV.mapRef, AV.allRef, allRefs_map g f hg cs]
  | .tup cs => by simp only [AV.mapRef, AV.allRef, allRefs_map g f hg cs]
  | .fn _ cs => by simp only [AV.mapRef, AV.allRef, allRefs_map g f hg cs]
  | .lit _ => by simp only [AV.mapRef, AV.allRef]
  | .row _ _ _ _ => by simp only [AV.mapRef, AV.allRef]
  | .box _ _ => by simp only [AV.mapRef, AV.allRef]
  | .junk => by simp only [AV.mapRef, AV.allRef]
theorem allRefs_map (g : Nat → List Nat → Option (Nat × List Nat)) (f : Nat → Bool) (hg : ∀ r p r' p', g r p = some (r', p') → f r' = true) : ∀ (l : List AV), AV.allRefs f (AV.mapRefs g l) = true
  | [] => by simp only [AV.mapRefs, AV.allRefs]
  | c :: r => by simp only [AV.mapRefs, AV.allRefs, allRef_map g f hg c, allRefs_map g f hg r, Bool.and_self]
end

/-- Which operation writes slot 'x'? -/
def wh (x : Nat) : List (Option Tmp) → Nat → Option Nat
  | [], _ => none
  | d :: r, i => if d = some x then some i else wh x r (i + 1)
def killL (ds : List (Option Tmp)) : Nat → List Nat → Option (Nat × List Nat) := fun r p => match wh r ds 0 with
  | some _ => none
  | none => some (r, p)
/-- The mark of an operation that takes in a region that was made here: its value, the region. -/
def tkL : List AV → Option (AV × Nat)
  | [v, .ptr x [] 0] => some (v, x)
  | _ => none
def tkV : AV → Option (AV × Nat)
  | .fn f cs => if f = 999999 then tkL cs else none
  | .lit _ => none
  | .junk => none
  | .row _ _ _ _ => none
  | .box _ _ => none
  | .sl _ _ _ _ => none
  | .ptr _ _ _ => none
  | .agg _ => none
  | .tup _ => none
def tkM (v : AV) (x : Nat) : AV := .fn 999999 [v, .ptr x [] 0]
theorem tkV_mark {v : AV} {x : Nat} : tkV (tkM v x) = some (v, x) := rfl
def outV (a : AV) : AV := match tkV a with
  | some p => p.1
  | none => a
theorem outV_of {a : AV} (h : tkV a = none) : outV a = a := by unfold outV; rw [h]
theorem outV_mark {v : AV} {x : Nat} : outV (tkM v x) = v := rfl
def upL (x : Nat) : List AV → List AV → Option AV
  | [], _ => none
  | .ptr r _ _ :: l, T :: Ts => if r = x then some T else upL x l Ts
  | _ :: _, _ => none
/-- Does this operation (a store into what was made in the region) put region 'x' anew? -/
def updOne (x : Nat) : Option Tmp → AV × Option AV → Option AV
  | none, (.ptr r _ _, some T) => if r = x then some T else none
  | none, (.tup l, some (.tup Ts)) => upL x l Ts
  | some _, (a, some _) => (match tkV a with
    | some p => if p.2 = x then some .junk else none
    | none => none)
  | _, _ => none
theorem updOne_n {x : Nat} {d : Option Tmp} {a : AV} {T : Option AV} (hd : d.isSome = true) (h : tkV a = none) : updOne x d (a, T) = none := by
  cases d with
  | none => cases hd
  | some d =>
    cases T with
    | none => rfl
    | some T => simp only [updOne, h]
def upd (x : Nat) (B : Nat → Bool) : List (Option Tmp) → List (AV × Option AV) → Nat → Option AV
  | d :: ds, o :: os, i => (match updOne x d o with
    | some T => if B i = true then some T else upd x B ds os (i + 1)
    | none => upd x B ds os (i + 1))
  | _, _, _ => none
def pickU (a b : Option AV) : Option AV := match a with
  | some T => some T
  | none => b
def IsU (ds : List (Option Tmp)) (outs : List (AV × Option AV)) (x k : Nat) (T : AV) : Prop := ∃ d o, ds[k]? = some d ∧ outs[k]? = some o ∧ updOne x d o = some T
theorem upd_some {x : Nat} {B : Nat → Bool} : ∀ {ds : List (Option Tmp)} {os : List (AV × Option AV)} {n : Nat} {T : AV}, upd x B ds os n = some T → ∃ k, IsU ds os x k T ∧ B (n + k) = true
  | [], os, n, T, h => by simp [upd] at h
  | d :: ds, [], n, T, h => by simp [upd] at h
  | d :: ds, o :: os, n, T, h => by
    simp only [upd] at h
    split at h
    · rename_i T' hT
      split at h
      · rename_i hb; cases h; exact ⟨0, ⟨d, o, rfl, rfl, hT⟩, hb⟩
      · obtain ⟨k, ⟨d', o', h1, h2, h3⟩, h4⟩ := upd_some h
        exact ⟨k + 1, ⟨d', o', by simpa using h1, by simpa using h2, h3⟩, by rw [show n + (k + 1) = n + 1 + k by omega]; exact h4⟩
    · obtain ⟨k, ⟨d', o', h1, h2, h3⟩, h4⟩ := upd_some h
      exact ⟨k + 1, ⟨d', o', by simpa using h1, by simpa using h2, h3⟩, by rw [show n + (k + 1) = n + 1 + k by omega]; exact h4⟩
theorem upd_congr {x : Nat} {B B' : Nat → Bool} : ∀ {ds : List (Option Tmp)} {os : List (AV × Option AV)} {n : Nat}, (∀ k T, IsU ds os x k T → B (n + k) = B' (n + k)) → upd x B ds os n = upd x B' ds os n
  | [], os, n, _ => by simp [upd]
  | d :: ds, [], n, _ => by simp [upd]
  | d :: ds, o :: os, n, h => by
    have ih := upd_congr (B := B) (B' := B') (x := x) (ds := ds) (os := os) (n := n + 1) (fun k T ⟨d', o', h1, h2, h3⟩ => by
      have := h (k + 1) T ⟨d', o', by simpa using h1, by simpa using h2, h3⟩
      rw [show n + (k + 1) = n + 1 + k by omega] at this; exact this)
    simp only [upd]
    cases hu : updOne x d o with
    | none => exact ih
    | some T =>
      have h0 := h 0 T ⟨d, o, rfl, rfl, hu⟩
      rw [Nat.add_zero] at h0
      simp only [h0, ih]
theorem upd_none {x : Nat} {B : Nat → Bool} : ∀ {ds : List (Option Tmp)} {os : List (AV × Option AV)} {n : Nat}, (∀ k T, IsU ds os x k T → B (n + k) = false) → upd x B ds os n = none := fun h => by
  cases hu : upd x B _ _ _ with
  | none => rfl
  | some T => obtain ⟨k, h1, h2⟩ := upd_some hu; rw [h k T h1] at h2; cases h2
theorem upd_is {x : Nat} {B : Nat → Bool} {ds : List (Option Tmp)} {os : List (AV × Option AV)} {k : Nat} {T : AV} (hu : ∀ k' T', IsU ds os x k' T' → k' = k ∧ T' = T) (h : IsU ds os x k T) (hb : B k = true) : upd x B ds os 0 = some T := by
  cases hq : upd x B ds os 0 with
  | some T' => obtain ⟨k', h1, _⟩ := upd_some hq; rw [(hu k' T' h1).2]
  | none =>
    exfalso
    have key : ∀ {ds : List (Option Tmp)} {os : List (AV × Option AV)} {n k : Nat} {T : AV}, IsU ds os x k T → B (n + k) = true → upd x B ds os n ≠ none := by
      intro ds
      induction ds with
      | nil => rintro os n k T ⟨d, o, h1, _⟩; simp at h1
      | cons d ds ih =>
        intro os n k T hk hb
        cases os with
        | nil => obtain ⟨d', o', _, h2, _⟩ := hk; simp at h2
        | cons o os =>
          simp only [upd]
          cases k with
          | zero =>
            obtain ⟨d', o', h1, h2, h3⟩ := hk
            simp only [List.getElem?_cons_zero, Option.some.injEq] at h1 h2
            subst h1; subst h2
            rw [h3]
            simp only []
            rw [if_pos (by simpa using hb)]; simp
          | succ k =>
            obtain ⟨d', o', h1, h2, h3⟩ := hk
            have := ih (os := os) (n := n + 1) (k := k) (T := T) ⟨d', o', by simpa using h1, by simpa using h2, h3⟩ (by rw [show n + 1 + k = n + (k + 1) by omega]; exact hb)
            split
            · split
              · simp
              · exact this
            · exact this
    exact key (n := 0) h (by simpa using hb) hq
theorem ASt.ext' {s s' : ASt} (h1 : s.t = s'.t) (h2 : s.m = s'.m) : s = s' := by cases s; cases s'; simp_all
theorem upd_ne {x : Nat} {B : Nat → Bool} : ∀ {ds : List (Option Tmp)} {os : List (AV × Option AV)} {n k : Nat} {T : AV}, IsU ds os x k T → B (n + k) = true → upd x B ds os n ≠ none := by
  intro ds
  induction ds with
  | nil => rintro os n k T ⟨d, o, h1, _⟩; simp at h1
  | cons d ds ih =>
    intro os n k T hk hb
    cases os with
    | nil => obtain ⟨d', o', _, h2, _⟩ := hk; simp at h2
    | cons o os =>
      simp only [upd]
      cases k with
      | zero =>
        obtain ⟨d', o', h1, h2, h3⟩ := hk
        simp only [List.getElem?_cons_zero, Option.some.injEq] at h1 h2
        subst h1; subst h2
        rw [h3]
        simp only []
        rw [if_pos (by simpa using hb)]; simp
      | succ k =>
        obtain ⟨d', o', h1, h2, h3⟩ := hk
        have := ih (os := os) (n := n + 1) (k := k) (T := T) ⟨d', o', by simpa using h1, by simpa using h2, h3⟩ (by rw [show n + 1 + k = n + (k + 1) by omega]; exact hb)
        split
        · split
          · simp
          · exact this
        · exact this
/-- The state in which the operations of 'B' have been carried out, and no others. -/
def SV (s : ASt) (ds : List (Option Tmp)) (outs : List (AV × Option AV)) (B : Nat → Bool) : ASt :=
  ⟨fun x => match wh x ds 0 with
    | some i => if B i = true then (match outs[i]? with | some o => outV o.1 | none => .junk) else .junk
    | none => (s.t x).mapRef (killL ds),
   fun x => match wh x ds 0 with
    | some i => if B i = true then pickU (upd x B ds outs 0) (match outs[i]? with | some o => o.2 | none => none) else none
    | none => s.m x⟩

theorem wh_some {x : Nat} : ∀ {ds : List (Option Tmp)} {i j : Nat}, wh x ds i = some j → i ≤ j ∧ ds[j - i]? = some (some x)
  | [], i, j, h => by simp [wh] at h
  | d :: r, i, j, h => by
    simp only [wh] at h
    split at h
    · rename_i e; cases h; simp [e]
    · have ⟨h1, h2⟩ := wh_some h
      refine ⟨by omega, ?_⟩
      rw [show j - i = (j - (i + 1)) + 1 by omega]
      simpa using h2
theorem wh_of {x : Nat} : ∀ {ds : List (Option Tmp)} {i j : Nat}, ds[j]? = some (some x) → (∀ a b : Nat, a < b → ds[a]? = some (some x) → ds[b]? ≠ some (some x)) → wh x ds i = some (i + j)
  | [], i, j, h, _ => by simp at h
  | d :: r, i, 0, h, _ => by simp at h; simp [wh, h]
  | d :: r, i, j + 1, h, hd => by
    have hne : d ≠ some x := fun e => hd 0 (j + 1) (by omega) (by simp [e]) h
    simp only [wh, hne, if_false]
    have := wh_of (i := i + 1) (ds := r) (j := j) (by simpa using h) (fun a b hab h1 h2 => hd (a + 1) (b + 1) (by omega) (by simpa using h1) (by simpa using h2))
    rw [this]; congr 1; omega

def bindsA (e : Edge) : Bool := Region.binds .any e
/-- 'T': for each operation, what must have been carried out before it; the first 'q' are quiet. -/
def chk (l : List Oper) (T : List (List Nat)) (q nt : Nat) : Bool :=
  q ≤ l.length &&
  (l.zipIdx.all fun (o, i) =>
    (o.after.toList.all fun e => !bindsA e || e.on < i) &&
    ((T.getD i []).all fun j => o.after.toList.any fun e => bindsA e && (e.on == j || (T.getD e.on []).contains j)) &&
    (match o.guard with | some (j, _) => (T.getD i []).contains j | none => true) &&
    (if i < q then (match o.dst with | some d => d < nt | none => true) else (List.range i).all fun j => (T.getD i []).contains j)) &&
  ((List.range q).all fun j => (List.range j).all fun i => match (l.getD i default).dst with
    | some d => !((l.getD j default).dst == some d)
    | none => true)

/-- An operation with its guard. -/
def QG (E : Env) (ops : Array Oper) (o : Oper) (s : ASt) (v : AV) (T : Option AV) : Prop :=
  (o.guard = none ∧ QJ E o s v T) ∨
  (∃ j b d, o.guard = some (j, b) ∧ (ops[j]?).bind (·.dst) = some d ∧ s.t d = .lit (.bool b) ∧ QJ E o s v T) ∨
  (∃ j b c d, o.guard = some (j, b) ∧ (ops[j]?).bind (·.dst) = some d ∧ s.t d = .lit c ∧ c ≠ .bool b ∧ v = .lit Go.undef ∧ T = none)

/-- What an operation gives names no memory of those that may come behind it. -/
def okV (ds : List (Option Tmp)) (B : List Nat) (i : Nat) (v : AV) : Bool := v.allRef fun r => match wh r ds 0 with
  | some j => j == i || B.contains j
  | none => true

/-- A store into region 'x' alone. -/
def UJ (E : Env) (o : Oper) (s : ASt) (x : Nat) (T : AV) : Prop :=
  (s.m x).isSome = true ∧ ∀ s', Le s s' → ∀ a w, Rel E s' a w → o.wp E.P a w (fun a' w' => Rel E (s'.updM x [] T) a' w') No
def upOk (T : List (List Nat)) (ds : List (Option Tmp)) (x k : Nat) : Bool := match wh x ds 0 with
  | some c => (T.getD k []).contains c && (List.range ds.length).all fun j => !(T.getD j []).contains c || (T.getD j []).contains k || (T.getD k []).contains j || j == k
  | none => false
/-- An operation that makes region 'd' and takes in region 'x'. -/
def TJ (E : Env) (o : Oper) (s : ASt) (d : Nat) (v Tn : AV) (x : Nat) : Prop :=
  (s.m x).isSome = true ∧ x ≠ d ∧ ∀ s', Le s s' → ∀ a w, Rel E s' a w → o.wp E.P a w (fun a' w' => Rel E ((s'.updM x [] .junk).new d v Tn) a' w') No
def DQ (E : Env) (ops : Array Oper) (T : List (List Nat)) (s : ASt) (ds : List (Option Tmp)) (tail : ASt → Prop) : List Oper → List (AV × Option AV) → Prop
  | [], outs => tail (SV s ds outs fun _ => true)
  | o :: rest, outs => (∃ v Tn, o.dst.isSome = true ∧ QG E ops o (SV s ds outs (T.getD outs.length []).contains) v Tn ∧ (okV ds (T.getD outs.length []) outs.length v = true ∧ tkV v = none) ∧ DQ E ops T s ds tail rest (outs ++ [(v, Tn)])) ∨
      (∃ d v Tn x, o.dst = some d ∧ o.guard = none ∧ TJ E o (SV s ds outs (T.getD outs.length []).contains) d v Tn x ∧ okV ds (T.getD outs.length []) outs.length v = true ∧ upOk T ds x outs.length = true ∧ (∀ k T'', k < outs.length → ¬ IsU ds outs x k T'') ∧ DQ E ops T s ds tail rest (outs ++ [(tkM v x, some Tn)])) ∨
      (∃ x T', o.dst = none ∧ o.guard = none ∧ UJ E o (SV s ds outs (T.getD outs.length []).contains) x T' ∧ upOk T ds x outs.length = true ∧ (∀ k T'', k < outs.length → ¬ IsU ds outs x k T'') ∧ DQ E ops T s ds tail rest (outs ++ [(.ptr x [] 0, some T')]))


theorem IsU.pre {ds : List (Option Tmp)} {outs outs0 : List (AV × Option AV)} {x k : Nat} {T : AV} (he : outs[k]? = outs0[k]?) : IsU ds outs x k T ↔ IsU ds outs0 x k T := by
  unfold IsU; rw [he]
theorem SV.pre {s : ASt} {ds : List (Option Tmp)} {outs outs0 : List (AV × Option AV)} {B : Nat → Bool} (hpre : ∀ i, i < outs0.length → outs[i]? = outs0[i]?) (hB : ∀ i, B i = true → i < outs0.length) : SV s ds outs0 B = SV s ds outs B := by
  have hu : ∀ x, upd x B ds outs0 0 = upd x B ds outs 0 := fun x => by
    have key : ∀ (ds : List (Option Tmp)) (o1 o2 : List (AV × Option AV)) (n : Nat), (∀ k, B (n + k) = true → o1[k]? = o2[k]?) → upd x B ds o1 n = upd x B ds o2 n := by
      intro ds
      induction ds with
      | nil => intro o1 o2 n _; simp [upd]
      | cons d ds ih =>
        intro o1 o2 n h
        have hr : ∀ (o1 : List (AV × Option AV)), (B n = true → o1[0]? = none) → upd x B (d :: ds) o1 n = upd x B ds o1.tail (n + 1) := fun o1 h0 => by
          cases o1 with
          | nil => cases ds <;> simp [upd]
          | cons a o1 =>
            have hb : B n = false := by
              cases hb : B n with
              | false => rfl
              | true => have := h0 hb; simp at this
            simp only [upd, List.tail_cons, hb, Bool.false_eq_true, if_false]
            split <;> rfl
        have hr2 : ∀ (a : AV × Option AV) (o1 : List (AV × Option AV)), B n = true → upd x B (d :: ds) (a :: o1) n = pickU (updOne x d a) (upd x B ds o1 (n + 1)) := fun a o1 hb => by
          simp only [upd, hb, if_true]
          cases updOne x d a <;> rfl
        have iht := ih o1.tail o2.tail (n + 1) (fun k hk => by
          have := h (k + 1) (by rw [show n + (k + 1) = n + 1 + k by omega]; exact hk)
          simpa [List.getElem?_tail] using this)
        cases hb : B n with
        | false => rw [hr o1 (by rw [hb]; simp), hr o2 (by rw [hb]; simp), iht]
        | true =>
          have h0 := h 0 (by simpa using hb)
          cases o1 with
          | nil =>
            cases o2 with
            | nil => rfl
            | cons b o2 => simp at h0
          | cons a o1 =>
            cases o2 with
            | nil => simp at h0
            | cons b o2 =>
              simp only [List.getElem?_cons_zero, Option.some.injEq] at h0
              subst h0
              rw [hr2 a o1 hb, hr2 a o2 hb]
              simp only [List.tail_cons] at iht
              rw [iht]
    exact key ds outs0 outs 0 (fun k hk => by rw [Nat.zero_add] at hk; exact (hpre k (hB k hk)).symm)
  simp only [SV, ASt.mk.injEq]
  constructor
  · funext x
    cases wh x ds 0 with
    | none => rfl
    | some i =>
      simp only []
      split
      · rename_i hc; rw [hpre i (hB i hc)]
      · rfl
  · funext x
    cases wh x ds 0 with
    | none => rfl
    | some i =>
      simp only []
      split
      · rename_i hc; rw [hpre i (hB i hc), hu]
      · rfl
/-- What is known of each operation of the quiet part. -/
def OutOk (E : Env) (ops : Array Oper) (T : List (List Nat)) (s : ASt) (ds : List (Option Tmp)) (outs : List (AV × Option AV)) (i : Nat) (o : Oper) : Prop :=
  (∃ v Tn, o.dst.isSome = true ∧ outs[i]? = some (v, Tn) ∧ QG E ops o (SV s ds outs (T.getD i []).contains) v Tn ∧ (okV ds (T.getD i []) i v = true ∧ tkV v = none)) ∨
  (∃ d v Tn x, o.dst = some d ∧ o.guard = none ∧ outs[i]? = some (tkM v x, some Tn) ∧ TJ E o (SV s ds outs (T.getD i []).contains) d v Tn x ∧ okV ds (T.getD i []) i v = true ∧ upOk T ds x i = true ∧ ∀ k T'', k < i → ¬ IsU ds outs x k T'') ∨
  (∃ x T', o.dst = none ∧ o.guard = none ∧ outs[i]? = some (.ptr x [] 0, some T') ∧ UJ E o (SV s ds outs (T.getD i []).contains) x T' ∧ upOk T ds x i = true ∧ ∀ k T'', k < i → ¬ IsU ds outs x k T'')
/-- The outcome of the whole quiet part. -/
theorem DQ.outs {E : Env} {ops : Array Oper} {T : List (List Nat)} {s : ASt} {ds : List (Option Tmp)} {tail : ASt → Prop} : ∀ {l : List Oper} {outs0 : List (AV × Option AV)}, DQ E ops T s ds tail l outs0 →
    (∀ i, outs0.length ≤ i → i < outs0.length + l.length → ∀ j ∈ T.getD i [], j < i) →
    ∃ outs, outs.length = outs0.length + l.length ∧ (∀ i, i < outs0.length → outs[i]? = outs0[i]?) ∧ tail (SV s ds outs fun _ => true) ∧
      ∀ i o, l[i]? = some o → OutOk E ops T s ds outs (outs0.length + i) o
  | [], outs0, h, _ => ⟨outs0, rfl, fun _ _ => rfl, h, fun i o ho => by simp at ho⟩
  | o :: rest, outs0, h, hT => by
    have step : ∀ e, DQ E ops T s ds tail rest (outs0 ++ [e]) → (∀ outs, (∀ i, i < outs0.length → outs[i]? = outs0[i]?) → outs[outs0.length]? = some e → SV s ds outs0 (T.getD outs0.length []).contains = SV s ds outs (T.getD outs0.length []).contains → OutOk E ops T s ds outs outs0.length o) →
        ∃ outs, outs.length = outs0.length + (o :: rest).length ∧ (∀ i, i < outs0.length → outs[i]? = outs0[i]?) ∧ tail (SV s ds outs fun _ => true) ∧ ∀ i o', (o :: rest)[i]? = some o' → OutOk E ops T s ds outs (outs0.length + i) o' := fun e h3 hok => by
      obtain ⟨outs, e1, e2, e3, e4⟩ := DQ.outs h3 (fun i hi hi' => hT i (by simp at hi; omega) (by simp at hi' ⊢; omega))
      simp only [List.length_append, List.length_cons, List.length_nil] at e1 e2 e4
      have hv : outs[outs0.length]? = some e := by rw [e2 _ (by omega)]; simp
      have hpre : ∀ i, i < outs0.length → outs[i]? = outs0[i]? := fun i hi => by rw [e2 i (by omega), List.getElem?_append_left hi]
      have hlt := hT outs0.length (Nat.le_refl _) (by simp)
      have hsv : SV s ds outs0 (T.getD outs0.length []).contains = SV s ds outs (T.getD outs0.length []).contains := SV.pre hpre (fun i hi => hlt i (by simpa using hi))
      refine ⟨outs, by simp only [List.length_cons]; omega, hpre, e3, fun i o' ho => ?_⟩
      cases i with
      | zero =>
        simp only [List.getElem?_cons_zero, Option.some.injEq] at ho
        subst ho
        exact hok outs hpre hv hsv
      | succ i =>
        have := e4 i o' (by simpa using ho)
        rw [show outs0.length + 1 + i = outs0.length + (i + 1) by omega] at this
        exact this
    rcases h with ⟨v, Tn, h0, h1, h2, h3⟩ | ⟨d, v, Tn, x, h0, h1, h2, h3, h4, h5, h6⟩ | ⟨x, T', h0, h1, h2, h3, h4, h5⟩
    · exact step _ h3 (fun outs hpre hv hsv => .inl ⟨v, Tn, h0, hv, by rw [← hsv]; exact h1, h2⟩)
    · exact step _ h6 (fun outs hpre hv hsv => .inr (.inl ⟨d, v, Tn, x, h0, h1, hv, by rw [← hsv]; exact h2, h3, h4, fun k T'' hk hu => h5 k T'' hk ((IsU.pre (hpre k hk)).1 hu)⟩))
    · exact step _ h5 (fun outs hpre hv hsv => .inr (.inr ⟨x, T', h0, h1, hv, by rw [← hsv]; exact h2, h3, fun k T'' hk hu => h4 k T'' hk ((IsU.pre (hpre k hk)).1 hu)⟩))

theorem RelX.sv0 {E : Env} {M : Nat → Option HT} {G : Nat → Prop} {s : ASt} {a : Act} {w : World} (h : RelX E M G s a w) (ds : List (Option Tmp)) (outs : List (AV × Option AV)) (hds : ∀ x : Nat, some x ∈ ds → x < E.nt) :
    Rel E (SV s ds outs fun _ => false) a w := by
  have hmem : ∀ {x j : Nat}, wh x ds 0 = some j → some x ∈ ds := fun e => List.mem_of_getElem? (wh_some e).2
  refine ⟨fun r => match wh r ds 0 with | some _ => none | none => M r, G, ⟨fun r => ?_, fun r T hT => ?_, fun r T hT => ?_, fun r r' T T' hr hT hT' => ?_, fun r T hT => ?_, h.gd, h.g0, fun i => ?_, h.ext, h.df, h.nt, h.n1, fun r v hv => ?_⟩⟩
  · simp only [SV]
    cases wh r ds 0 with
    | none => exact h.er r
    | some i => simp
  · cases hw : wh r ds 0 with
    | none => simp only [hw] at hT; exact h.sat r T hT
    | some i => simp [hw] at hT
  · cases hw : wh r ds 0 with
    | none => simp only [hw] at hT; exact h.nd r T hT
    | some i => simp [hw] at hT
  · cases hw : wh r ds 0 with
    | none =>
      cases hw' : wh r' ds 0 with
      | none => simp only [hw] at hT; simp only [hw'] at hT'; exact h.dj r r' T T' hr hT hT'
      | some i => simp [hw'] at hT'
    | some i => simp [hw] at hT
  · cases hw : wh r ds 0 with
    | none => simp only [hw] at hT; exact h.own r T hT
    | some i => simp [hw] at hT
  · simp only [SV]
    cases hw : wh i ds 0 with
    | some j => simp only [Bool.false_eq_true, if_false]; exact .junk _
    | none =>
      refine (h.sl i).mapRef (fun r p r' p' hf T' N' hT' hN' hm => ?_)
      simp only [killL] at hf
      cases hr : wh r ds 0 with
      | some j => simp [hr] at hf
      | none =>
        simp only [hr, Option.some.injEq, Prod.mk.injEq] at hf
        obtain ⟨rfl, rfl⟩ := hf
        simp only [hr] at hT'
        exact ⟨T', N', hT', hN', rfl⟩
  · obtain ⟨h1, T', h2, h3⟩ := h.pv r v hv
    refine ⟨h1, T', ?_, h3⟩
    cases hr : wh r ds 0 with
    | some j => have := hds r (hmem hr); have := h.n1; omega
    | none => exact h2


theorem chk_spec {l : List Oper} {T : List (List Nat)} {q nt : Nat} (h : chk l T q nt = true) :
    q ≤ l.length ∧ (∀ (i : Nat) (o : Oper), l[i]? = some o → (∀ e ∈ o.after, bindsA e = true → e.on < i) ∧ (∀ j ∈ T.getD i [], ∃ e ∈ o.after, bindsA e = true ∧ (e.on = j ∨ j ∈ T.getD e.on [])) ∧
      (∀ (j : Nat) (b : Bool), o.guard = some (j, b) → j ∈ T.getD i []) ∧ (i < q → ∀ d : Nat, o.dst = some d → d < nt) ∧ (q ≤ i → ∀ j, j < i → j ∈ T.getD i [])) ∧
    (∀ i j : Nat, j < q → i < j → ∀ d : Nat, (l.getD i default).dst = some d → (l.getD j default).dst ≠ some d) := by
  simp only [chk, Bool.and_eq_true, decide_eq_true_eq, List.all_eq_true, List.mem_zipIdx_iff_getElem?, List.mem_range] at h
  obtain ⟨⟨h1, h2⟩, h3⟩ := h
  refine ⟨h1, fun i o ho => ?_, fun i j hj hi d hd => ?_⟩
  · have := h2 (o, i) ho
    simp only [] at this
    obtain ⟨⟨⟨h4, h5⟩, h6⟩, h7⟩ := this
    refine ⟨fun e he hb => ?_, fun j hj => ?_, fun j b hg => ?_, fun hi d hd => ?_, fun hi j hj => ?_⟩
    · have := h4 e (by simpa using he)
      simpa [hb] using this
    · have := h5 j hj
      rw [List.any_eq_true] at this
      obtain ⟨e, he, h8⟩ := this
      exact ⟨e, by simpa using he, by simpa using h8⟩
    · simp only [hg] at h6
      simpa using h6
    · simp only [hi, if_true, hd] at h7
      simpa using h7
    · rw [if_neg (by omega)] at h7
      have := (List.all_eq_true.1 h7) j (by simpa using hj)
      simpa using this
  · have := h3 j hj i hi
    simp only [hd] at this
    simpa using this

theorem closedT {l : List Oper} {T : List (List Nat)} {q nt : Nat} (h : chk l T q nt = true) (D : Nat → Prop) (hD : ∀ i o, D i → l[i]? = some o → ∀ e ∈ o.after, bindsA e = true → D e.on) :
    ∀ (n i : Nat) (o : Oper), i < n → l[i]? = some o → (∀ e ∈ o.after, bindsA e = true → D e.on) → ∀ j ∈ T.getD i [], D j ∧ j < i
  | 0, i, o, hn, _, _, _, _ => by omega
  | n + 1, i, o, hn, ho, ha, j, hj => by
    obtain ⟨h1, h2, _⟩ := chk_spec h
    obtain ⟨h3, h4, _⟩ := h2 i o ho
    obtain ⟨e, he, hb, h5⟩ := h4 j hj
    have hlt := h3 e he hb
    rcases h5 with rfl | h5
    · exact ⟨ha e he hb, hlt⟩
    · have hil : i < l.length := (List.getElem?_eq_some_iff.1 ho).1
      obtain ⟨o', ho'⟩ : ∃ o', l[e.on]? = some o' := ⟨_, List.getElem?_eq_getElem (by omega)⟩
      have hde := ha e he hb
      obtain ⟨h6, h7⟩ := closedT h D hD n e.on o' (by omega) ho' (fun e' he' hb' => hD e.on o' hde ho' e' he' hb') j h5
      exact ⟨h6, by omega⟩


theorem filter_lt {p p' : Nat → Bool} (hp : ∀ x, p' x = true → p x = true) : ∀ (l : List Nat) (i : Nat), i ∈ l → p i = true → p' i = false → (l.filter p').length < (l.filter p).length
  | x :: r, i, hi, h1, h2 => by
    have hle : ∀ l : List Nat, (l.filter p').length ≤ (l.filter p).length := fun l => by
      induction l with
      | nil => simp
      | cons y t ih =>
        simp only [List.filter_cons]
        cases hy : p' y with
        | true => simp only [hp y hy, if_true, List.length_cons]; omega
        | false => simp only [Bool.false_eq_true, if_false]; split <;> (first | omega | (simp only [List.length_cons]; omega))
    rcases List.mem_cons.1 hi with rfl | hi
    · simp only [List.filter_cons, h1, h2, if_true, Bool.false_eq_true, if_false, List.length_cons]
      have := hle r; omega
    · have ih := filter_lt hp r i hi h1 h2
      simp only [List.filter_cons]
      cases hy : p' x with
      | true => simp only [hp x hy, if_true, List.length_cons]; omega
      | false => simp only [Bool.false_eq_true, if_false]; split <;> (first | omega | (simp only [List.length_cons]; omega))

theorem SV.congr' {s : ASt} {ds : List (Option Tmp)} {outs : List (AV × Option AV)} {B B' : Nat → Bool} (hw : ∀ x i, wh x ds 0 = some i → B i = B' i) (hu : ∀ x k T, IsU ds outs x k T → B k = B' k) : SV s ds outs B = SV s ds outs B' := by
  simp only [SV, ASt.mk.injEq]
  constructor
  · funext x
    cases hx : wh x ds 0 with
    | none => rfl
    | some i => simp only [hw x i hx]
  · funext x
    cases hx : wh x ds 0 with
    | none => rfl
    | some i =>
      simp only [hw x i hx]
      rw [upd_congr (B := B) (B' := B') (fun k T hk => by rw [Nat.zero_add]; exact hu x k T hk)]
theorem SV.congr {s : ASt} {ds : List (Option Tmp)} {outs : List (AV × Option AV)} {B B' : Nat → Bool} (h : ∀ i, i < ds.length → B i = B' i) : SV s ds outs B = SV s ds outs B' :=
  SV.congr' (fun x i e => h i (by
    have := (wh_some e).2
    exact (List.getElem?_eq_some_iff.1 this).1)) (fun x k T ⟨d, o, h1, _⟩ => h k (List.getElem?_eq_some_iff.1 h1).1)
theorem SV.le {s : ASt} {ds : List (Option Tmp)} {outs : List (AV × Option AV)} {B B' : Nat → Bool} (h : ∀ i, B i = true → B' i = true) (hu : ∀ x c k T, wh x ds 0 = some c → B c = true → IsU ds outs x k T → B k = B' k) : Le (SV s ds outs B) (SV s ds outs B') := by
  constructor
  · intro x
    simp only [SV]
    cases hx : wh x ds 0 with
    | none => exact .inr rfl
    | some i =>
      simp only []
      cases hb : B i with
      | true => rw [if_pos rfl, if_pos (h i hb)]; exact .inr rfl
      | false => exact .inl (if_neg (by simp))
  · intro r T
    simp only [SV]
    cases hx : wh r ds 0 with
    | none => exact id
    | some i =>
      simp only []
      cases hb : B i with
      | true =>
        rw [if_pos rfl, if_pos (h i hb), upd_congr (B := B) (B' := B') (fun k T hk => by rw [Nat.zero_add]; exact hu r i k T hx hb hk)]
        exact fun h => h
      | false => rw [if_neg (by simp)]; intro h; cases h

theorem AWP.drawn_any {E : Env} {l : List Oper} {K : AX → ASt → Prop} {s : ASt} (hm : E.P.follows .mixedOrders = true) (T : List (List Nat)) (q : Nat) (hc : chk l T q E.nt = true)
    (h : DQ E l.toArray T s ((l.take q).map (·.dst)) (Seq E l.toArray (l.drop q) (K .nm)) (l.take q) []) : ∀ a w, Rel E s a w → wpAny E.P .any l.toArray (fun e a' w' => e = .normal ∧ ∃ s', Rel E s' a' w' ∧ K .nm s') l.toArray.size (Array.replicate l.toArray.size false) a { w with drawn := w.drawn + 1 } := by
  intro a w hr
  obtain ⟨hq, hspec, hdist⟩ := chk_spec hc
  have hTlt : ∀ i, ∀ j ∈ T.getD i [], i < l.length → j < i := fun i j hj hi =>
    (closedT hc (fun _ => True) (fun _ _ _ _ _ _ _ => trivial) (i + 1) i l[i] (by omega) (List.getElem?_eq_getElem hi) (fun _ _ _ => trivial) j hj).2
  obtain ⟨outs, hlen, _, htail, hout⟩ := DQ.outs h (fun i _ hi j hj => hTlt i j hj (by simp at hi; omega))
  simp only [List.length_nil, Nat.zero_add] at hout hlen
  generalize hds : (l.take q).map (·.dst) = ds at *
  have hdsl : ds.length = q := by rw [← hds]; simp; omega
  have hdsi : ∀ i o, i < q → l[i]? = some o → ds[i]? = some o.dst := fun i o hi ho => by
    rw [← hds, List.getElem?_map, List.getElem?_take_of_lt hi, ho]; rfl
  have hwh : ∀ i o (d : Nat), i < q → l[i]? = some o → o.dst = some d → wh d ds 0 = some i := fun i o d hi ho hd => by
    have hdi := hdsi i o hi ho
    rw [hd] at hdi
    have := wh_of (i := 0) hdi (fun a b hab h1 h2 => by
      have hb : b < q := by rw [← hdsl]; exact (List.getElem?_eq_some_iff.1 h2).1
      have e1 : (l.getD a default).dst = some d := by
        have ha : a < l.length := by omega
        have := hdsi a l[a] (by omega) (List.getElem?_eq_getElem ha)
        rw [this] at h1
        simp only [List.getD_eq_getElem?_getD, List.getElem?_eq_getElem ha, Option.getD_some]
        exact Option.some.inj h1
      have e2 : (l.getD b default).dst = some d := by
        have hb' : b < l.length := by omega
        have := hdsi b l[b] hb (List.getElem?_eq_getElem hb')
        rw [this] at h2
        simp only [List.getD_eq_getElem?_getD, List.getElem?_eq_getElem hb', Option.getD_some]
        exact Option.some.inj h2
      exact hdist a b hb hab d e1 e2)
    simpa using this
  have hU : ∀ x k T', IsU ds outs x k T' → k < q ∧ upOk T ds x k = true ∧ (∀ k' T'', k' < k → ¬ IsU ds outs x k' T'') := fun x k T' ⟨d, e, h1, h2, h3⟩ => by
    have hkq : k < q := by rw [← hdsl]; exact (List.getElem?_eq_some_iff.1 h1).1
    have hkl : k < l.length := by omega
    have hd := hdsi k l[k] hkq (List.getElem?_eq_getElem hkl)
    rw [h1] at hd
    have hd := Option.some.inj hd
    rcases hout k l[k] (by rw [List.getElem?_take_of_lt hkq]; exact List.getElem?_eq_getElem hkl) with ⟨v, Tn, k0, k1, _, _, kt⟩ | ⟨d', v, Tn, x', k0, _, k1, _, _, k2, k3⟩ | ⟨x', T'', k0, _, k1, _, k2, k3⟩
    · rw [← hd] at k0
      rw [h2] at k1
      have k1 := Option.some.inj k1
      subst k1
      rw [updOne_n k0 kt] at h3; cases h3
    · rw [h2] at k1
      have k1 := Option.some.inj k1
      subst k1
      rw [hd, k0] at h3
      simp only [updOne, tkV_mark] at h3
      split at h3
      · rename_i hx; subst hx; exact ⟨hkq, k2, k3⟩
      · cases h3
    · rw [h2] at k1
      have k1 := Option.some.inj k1
      subst k1
      rw [hd, k0] at h3
      simp only [updOne] at h3
      split at h3
      · rename_i hx; subst hx; exact ⟨hkq, k2, k3⟩
      · cases h3
  have hUq : ∀ x k T' k' T'', IsU ds outs x k T' → IsU ds outs x k' T'' → k' = k ∧ T'' = T' := fun x k T' k' T'' h1 h2 => by
    have hk : k' = k := by
      rcases Nat.lt_trichotomy k' k with h | h | h
      · exact absurd h2 ((hU x k T' h1).2.2 k' T'' h)
      · exact h
      · exact absurd h1 ((hU x k' T'' h2).2.2 k T' h)
    subst hk
    obtain ⟨d, e, a1, a2, a3⟩ := h1
    obtain ⟨d', e', b1, b2, b3⟩ := h2
    rw [a1] at b1; cases b1
    rw [a2] at b2; cases b2
    rw [a3] at b3; cases b3
    exact ⟨rfl, rfl⟩
  have hUc : ∀ x k T', IsU ds outs x k T' → ∃ c, wh x ds 0 = some c ∧ c ∈ T.getD k [] ∧ ∀ j, j < q → c ∈ T.getD j [] → k ∈ T.getD j [] ∨ j ∈ T.getD k [] ∨ j = k := fun x k T' h => by
    have h2 := (hU x k T' h).2.1
    unfold upOk at h2
    split at h2
    · rename_i c hc
      simp only [Bool.and_eq_true, List.all_eq_true, List.mem_range, Bool.or_eq_true, Bool.not_eq_true', beq_iff_eq] at h2
      refine ⟨c, hc, by simpa using h2.1, fun j hj hcj => ?_⟩
      rcases h2.2 j (by omega) with ((h3 | h3) | h3) | h3
      · rw [List.contains_iff_mem.2 hcj] at h3; cases h3
      · exact .inl (List.contains_iff_mem.1 h3)
      · exact .inr (.inl (List.contains_iff_mem.1 h3))
      · exact .inr (.inr h3)
    · cases h2
  have hdnt : ∀ x : Nat, some x ∈ ds → x < E.nt := fun x hx => by
    obtain ⟨i, hi⟩ := List.getElem?_of_mem hx
    have hiq : i < q := by rw [← hdsl]; exact (List.getElem?_eq_some_iff.1 hi).1
    have hil : i < l.length := by omega
    have hd := hdsi i l[i] hiq (List.getElem?_eq_getElem hil)
    rw [hd] at hi
    exact (hspec i l[i] (List.getElem?_eq_getElem hil)).2.2.2.1 hiq x (Option.some.inj hi)
  let phase : Array Bool → Act → World → Prop := fun listed a w =>
    ((∃ i, i < q ∧ listed.getD i false = false) ∧ (∀ j, listed.getD j false = true → j < q) ∧ Rel E (SV s ds outs fun j => listed.getD j false) a w) ∨
    (∃ c, q ≤ c ∧ c ≤ l.length ∧ (∀ j, listed.getD j false = true ↔ j < c) ∧ wpList E.P l.toArray (NK E (K .nm)) (l.drop c) a w)
  have hready : ∀ listed : Array Bool, listed.size = l.length → ∀ j, j ∈ Region.ready .any l.toArray listed ↔ listed.getD j true = false ∧ ∃ o, l[j]? = some o ∧ ∀ e ∈ o.after, bindsA e = true → listed.getD e.on false = true := fun listed hs j => by
    rw [mem_ready]; simp [bindsA]
  have hnot : ∀ listed : Array Bool, listed.size = l.length → ∀ j, listed.getD j true = false → listed.getD j false = false ∧ j < l.length := fun listed hs j hj => by
    rw [Array.getD_eq_getD_getElem?] at hj ⊢
    cases hx : listed[j]? with
    | none => simp [hx] at hj
    | some b => simp [hx] at hj ⊢; exact ⟨hj, by rw [← hs]; exact (Array.getElem?_eq_some_iff.1 hx).1⟩
  have hnot' : ∀ listed : Array Bool, listed.size = l.length → ∀ j, j < l.length → listed.getD j false = false → listed.getD j true = false := fun listed hs j hj h => by
    rw [Array.getD_eq_getD_getElem?] at h ⊢
    have : listed[j]? = some listed[j] := Array.getElem?_eq_getElem (by omega)
    rw [this] at h ⊢; simpa using h
  -- the least that isn't listed is ready
  have hsome : ∀ listed : Array Bool, listed.size = l.length → ∀ n j, j < n → j < l.length → listed.getD j false = false → Region.ready .any l.toArray listed ≠ [] := by
    intro listed hs n
    induction n with
    | zero => intro j hj; omega
    | succ n ih =>
      intro j hj hjl hnl
      by_cases hall : ∀ e ∈ l[j].after, bindsA e = true → listed.getD e.on false = true
      · exact List.ne_nil_of_mem ((hready listed hs j).2 ⟨hnot' listed hs j hjl hnl, _, List.getElem?_eq_getElem hjl, hall⟩)
      · simp only [Classical.not_forall] at hall
        obtain ⟨e, he, hb, hn⟩ := hall
        have hlt := (hspec j l[j] (List.getElem?_eq_getElem hjl)).1 e he hb
        exact ih e.on (by omega) (by omega) (by simpa using hn)
  -- behind the quiet part
  have hbehind : ∀ (listed : Array Bool) a w, (∀ j, j < q → listed.getD j false = true) → Rel E (SV s ds outs fun j => listed.getD j false) a w → wpList E.P l.toArray (NK E (K .nm)) (l.drop q) a w := fun listed a w hall hr => by
    rw [SV.congr (B' := fun _ => true) (fun i hi => hall i (by omega))] at hr
    exact htail a w hr
  have main : ∀ fuel (listed : Array Bool) a w, listed.size = l.length → ((List.range l.length).filter fun j => !listed.getD j false).length ≤ fuel →
      (∀ i o, listed.getD i false = true → l[i]? = some o → ∀ e ∈ o.after, bindsA e = true → listed.getD e.on false = true) → phase listed a w → wpAny E.P .any l.toArray (NK E (K .nm)) fuel listed a w := by
    intro fuel
    have hdone : ∀ (listed : Array Bool) a w, listed.size = l.length → phase listed a w → Region.ready .any l.toArray listed = [] → NK E (K .nm) .normal a w := by
      intro listed a w hs hph hnil
      rcases hph with ⟨⟨i, hi, hn⟩, _⟩ | ⟨c, h1, h2, h3, h4⟩
      · exact absurd hnil (hsome listed hs (i + 1) i (by omega) (by omega) hn)
      · by_cases hcl : c < l.length
        · have hn : listed.getD c false = false := by
            cases hb : listed.getD c false with
            | false => rfl
            | true => exact absurd ((h3 c).1 hb) (by omega)
          exact absurd hnil (hsome listed hs (c + 1) c (by omega) hcl hn)
        · rw [List.drop_of_length_le (by omega)] at h4
          exact h4
    induction fuel with
    | zero =>
      intro listed a w hs hlen0 hcl hph
      have hnil : Region.ready .any l.toArray listed = [] := by
        cases hrd : Region.ready .any l.toArray listed with
        | nil => rfl
        | cons j rest =>
          obtain ⟨h1, _⟩ := (hready listed hs j).1 (by rw [hrd]; simp)
          obtain ⟨h2, h3⟩ := hnot listed hs j h1
          have : j ∈ (List.range l.length).filter fun j => !listed.getD j false := by simp only [List.mem_filter, List.mem_range, h2, h3, Bool.not_false, and_self]
          have := List.length_pos_of_mem this
          omega
      exact ⟨hnil, hdone listed a w hs hph hnil⟩
    | succ fuel ih =>
      intro listed a w hs hlen0 hcl hph
      refine ⟨hdone listed a w hs hph, fun i hi => ?_⟩
      obtain ⟨h1, o, ho, hafter⟩ := (hready listed hs i).1 hi
      obtain ⟨h2, hil⟩ := hnot listed hs i h1
      have hgi : (listed.setIfInBounds i true).getD i false = true := by simp [hs, hil]
      have hgo : ∀ j, j ≠ i → (listed.setIfInBounds i true).getD j false = listed.getD j false := fun j hj => getD_set_ne false (Ne.symm hj)
      have hmono : ∀ j, listed.getD j false = true → (listed.setIfInBounds i true).getD j false = true := fun j => getD_set_true
      have hs' : (listed.setIfInBounds i true).size = l.length := by simp [hs]
      have hlt' : ((List.range l.length).filter fun j => !(listed.setIfInBounds i true).getD j false).length ≤ fuel := by
        have := filter_lt (p := fun j => !listed.getD j false) (p' := fun j => !(listed.setIfInBounds i true).getD j false) (fun x hx => by
          cases hb : listed.getD x false with
          | false => rfl
          | true => rw [hmono x hb] at hx; simp at hx) (List.range l.length) i (by simp [hil]) (by rw [h2]; rfl) (by rw [hgi]; rfl)
        omega
      have hcl' : ∀ j o', (listed.setIfInBounds i true).getD j false = true → l[j]? = some o' → ∀ e ∈ o'.after, bindsA e = true → (listed.setIfInBounds i true).getD e.on false = true := fun j o' hj ho' e he hb => by
        by_cases hji : j = i
        · subst hji; rw [ho] at ho'; cases ho'; exact hmono _ (hafter e he hb)
        · rw [hgo j hji] at hj; exact hmono _ (hcl j o' hj ho' e he hb)
      have hTi : ∀ j ∈ T.getD i [], listed.getD j false = true ∧ j < i := closedT hc (fun j => listed.getD j false = true) hcl (i + 1) i o (by omega) ho hafter
      have next := fun a w hph => ih (listed.setIfInBounds i true) a w hs' hlt' hcl' hph
      have hopi : l.toArray[i]? = some o := by simpa using ho
      unfold wpOp
      simp only [hopi]
      rcases hph with ⟨⟨i0, hi0, hn0⟩, hDq, hrel⟩ | ⟨c, hqc, hcn, hDc, hwl⟩
      · -- quiet
        have hiq : i < q := by
          rcases Nat.lt_or_ge i q with h' | h'
          · exact h'
          · have := (hTi i0 ((hspec i o ho).2.2.2.2 h' i0 (by omega))).1
            rw [hn0] at this; cases this
        have hnext : ∀ a w, Rel E (SV s ds outs fun j => (listed.setIfInBounds i true).getD j false) a w → wpAny E.P .any l.toArray (NK E (K .nm)) fuel (listed.setIfInBounds i true) a w := fun a w hr => by
          apply next
          by_cases hall : ∀ j, j < q → (listed.setIfInBounds i true).getD j false = true
          · refine .inr ⟨q, Nat.le_refl _, hq, fun j => ⟨fun hj => ?_, hall j⟩, hbehind _ a w hall hr⟩
            by_cases hji : j = i
            · omega
            · rw [hgo j hji] at hj; exact hDq j hj
          · simp only [Classical.not_forall] at hall
            obtain ⟨j, hj, hn⟩ := hall
            refine .inl ⟨⟨j, hj, by simpa using hn⟩, fun j' hj' => ?_, hr⟩
            by_cases hji : j' = i
            · omega
            · rw [hgo j' hji] at hj'; exact hDq j' hj'
        have hcli : ∀ k, k < q → listed.getD k false = true → ∀ j ∈ T.getD k [], listed.getD j false = true := fun k hk hlk j hj => by
          have hkl : k < l.length := by omega
          exact (closedT hc (fun j => listed.getD j false = true) hcl (k + 1) k l[k] (by omega) (List.getElem?_eq_getElem hkl) (fun e he hb => hcl k l[k] hlk (List.getElem?_eq_getElem hkl) e he hb) j hj).1
        have hle : Le (SV s ds outs (T.getD i []).contains) (SV s ds outs fun j => listed.getD j false) := SV.le (fun j hj => (hTi j (by simpa using hj)).1) (fun x c k T' hcx hBc hk => by
          obtain ⟨c', hc', _, hcs⟩ := hUc x k T' hk
          rw [hcx] at hc'; cases hc'
          by_cases hki : k ∈ T.getD i []
          · rw [List.contains_iff_mem.2 hki, (hTi k hki).1]
          · have h3 : listed.getD k false = false := by
              cases hlk : listed.getD k false with
              | false => rfl
              | true =>
                exfalso
                rcases hcs i hiq (List.contains_iff_mem.1 hBc) with h4 | h4 | h4
                · exact hki h4
                · have := hcli k (hU x k T' hk).1 hlk i h4
                  rw [h2] at this; cases this
                · subst h4; rw [h2] at hlk; cases hlk
            rw [h3]
            cases hx : (T.getD i []).contains k with
            | false => rfl
            | true => exact absurd (List.contains_iff_mem.1 hx) hki)
        -- no value names the region that comes
        have hfreeG : ∀ d : Nat, o.dst = some d → ∀ x, x ≠ d → ((SV s ds outs fun j => listed.getD j false).t x).mapRef (killF d []) = (SV s ds outs fun j => listed.getD j false).t x := fun d hd x hxd => by
              have hwd := hwh i o d hiq ho hd
              have hwx : ∀ x j, wh x ds 0 = some j → x ≠ d → j ≠ i := fun x j hx hxd hji => by
                subst hji
                have h3 := (wh_some hx).2
                rw [Nat.sub_zero, hdsi j o hiq ho, hd] at h3
                exact hxd (Option.some.inj (Option.some.inj h3)).symm
              simp only [SV]
              cases hx : wh x ds 0 with
              | none =>
                simp only []
                refine mapRef_id _ (fun r => match wh r ds 0 with | some j => false | none => true) (fun r p hr => ?_) _ (allRef_map _ _ (fun r p r' p' hk => ?_) _)
                · have : r ≠ d := fun e => by subst e; simp [hwd] at hr
                  simp [killF, this]
                · simp only [killL] at hk
                  cases hrw : wh r ds 0 with
                  | some j => simp [hrw] at hk
                  | none => simp only [hrw, Option.some.injEq, Prod.mk.injEq] at hk; obtain ⟨rfl, _⟩ := hk; simp [hrw]
              | some j =>
                simp only []
                split
                · rename_i hlj
                  have hji := hwx x j hx hxd
                  have hjq : j < q := by rw [← hdsl]; exact (List.getElem?_eq_some_iff.1 (wh_some hx).2).1
                  have hdj : l[j].dst = some x := by
                    have h3 := (wh_some hx).2
                    rw [Nat.sub_zero, hdsi j l[j] hjq (List.getElem?_eq_getElem (by omega))] at h3
                    exact Option.some.inj h3
                  obtain ⟨e, vj, hovj, hev, hokj⟩ : ∃ (e : AV × Option AV) (vj : AV), outs[j]? = some e ∧ outV e.1 = vj ∧ okV ds (T.getD j []) j vj = true := by
                    rcases hout j l[j] (by rw [List.getElem?_take_of_lt hjq]; exact List.getElem?_eq_getElem (by omega)) with ⟨v, Tn, _, h1, _, h3, h4⟩ | ⟨d', v, Tn, x', _, _, h1, _, h3, _⟩ | ⟨_, _, h, _⟩
                    · exact ⟨_, _, h1, outV_of h4, h3⟩
                    · exact ⟨_, _, h1, outV_mark, h3⟩
                    · rw [hdj] at h; cases h
                  rw [hovj]
                  simp only [hev]
                  refine mapRef_id _ _ (fun r p hr => ?_) _ hokj
                  have : r ≠ d := fun e => by
                    subst e
                    simp only [hwd, Bool.or_eq_true, beq_iff_eq] at hr
                    rcases hr with h3 | h3
                    · exact hji h3.symm
                    · have hD := closedT hc (fun j => listed.getD j false = true) hcl (j + 1) j l[j] (by omega) (List.getElem?_eq_getElem (by omega)) (fun e he hb => hcl j l[j] hlj (List.getElem?_eq_getElem (by omega)) e he hb) i (by simpa using h3)
                      rw [h2] at hD; cases hD.1
                  simp [killF, this]
                · simp only [AV.mapRef]
        rcases hout i o (by rw [List.getElem?_take_of_lt hiq]; exact ho) with ⟨v, Tn, hsm, hov, hqg, hok, htk⟩ | ⟨d, v, Tn, x, hd, hgn, hov, ⟨hxs, hxd, htj⟩, hok, hup, _⟩ | ⟨x, T', hdn, hgn, hov, ⟨hxs, hqj⟩, hup, _⟩
        rotate_left 2
        · -- a store into what was made here
          have hisu : IsU ds outs x i T' := ⟨none, _, by rw [hdsi i o hiq ho, hdn], hov, by simp [updOne]⟩
          obtain ⟨c, hcx, hci, _⟩ := hUc x i T' hisu
          have hlc : listed.getD c false = true := (hTi c hci).1
          have hcne : ∀ y j, wh y ds 0 = some j → j ≠ i := fun y j hy hji => by
            subst hji
            have h3 := (wh_some hy).2
            rw [Nat.sub_zero, hdsi j o hiq ho, hdn] at h3
            cases h3
          have hmx : ∃ T0, (SV s ds outs fun j => listed.getD j false).m x = some T0 := by
            obtain ⟨T0, hT0⟩ := Option.isSome_iff_exists.1 hxs
            exact ⟨T0, hle.m x T0 hT0⟩
          have hst : SV s ds outs (fun j => (listed.setIfInBounds i true).getD j false) = (SV s ds outs fun j => listed.getD j false).updM x [] T' := by
            obtain ⟨T0, hT0⟩ := hmx
            have e1 : (SV s ds outs fun j => (listed.setIfInBounds i true).getD j false).t = ((SV s ds outs fun j => listed.getD j false).updM x [] T').t := by
              funext y
              simp only [SV, ASt.updM]
              cases hy : wh y ds 0 with
              | none => rfl
              | some j => simp only [hgo j (hcne y j hy)]
            have e2 : (SV s ds outs fun j => (listed.setIfInBounds i true).getD j false).m = ((SV s ds outs fun j => listed.getD j false).updM x [] T').m := by
              funext y
              by_cases hyx : y = x
              · subst hyx
                simp only [ASt.updM, if_true, hT0, Option.map_some]
                have : ∀ A : AV, A.upd [] T' = T' := fun A => by cases A <;> rfl
                rw [this]
                simp only [SV, hcx, hgo c (hcne y c hcx), hlc, if_true]
                rw [upd_is (k := i) (T := T') (fun k' T'' hk' => hUq y i T' k' T'' hisu hk') hisu hgi]
                rfl
              · simp only [ASt.updM, hyx, if_false]
                simp only [SV]
                cases hy : wh y ds 0 with
                | none => rfl
                | some j =>
                  simp only [hgo j (hcne y j hy)]
                  rw [upd_congr (B := fun j => (listed.setIfInBounds i true).getD j false) (B' := fun j => listed.getD j false) (fun k T'' hk => by
                    rw [Nat.zero_add]
                    refine hgo k (fun e => ?_)
                    subst e
                    obtain ⟨d', e', b1, b2, b3⟩ := hk
                    rw [hov] at b2; cases b2
                    cases d' with
                    | some d' => simp [updOne, tkV] at b3
                    | none =>
                      simp only [updOne] at b3
                      split at b3
                      · rename_i hh; exact hyx hh.symm
                      · cases b3)]
            exact ASt.ext' e1 e2
          rw [if_pos (by simp [Region.wanted, hgn])]
          exact .inl (Oper.wp_both (fun a' w' hr' => hnext a' w' (by rw [hst]; exact hr')) (hqj _ hle a w hrel))
        rotate_left
        · -- a region that was made here is taken in
          have hwd := hwh i o d hiq ho hd
          have hisu : IsU ds outs x i .junk := ⟨some d, _, by rw [hdsi i o hiq ho, hd], hov, by simp only [updOne, tkV_mark, if_true]⟩
          obtain ⟨c, hcx, hci, _⟩ := hUc x i .junk hisu
          have hlc : listed.getD c false = true := (hTi c hci).1
          have hci' : c ≠ i := fun e => by subst e; rw [h2] at hlc; cases hlc
          have hwx : ∀ y j, wh y ds 0 = some j → y ≠ d → j ≠ i := fun y j hy hyd hji => by
            subst hji
            have h3 := (wh_some hy).2
            rw [Nat.sub_zero, hdsi j o hiq ho, hd] at h3
            exact hyd (Option.some.inj (Option.some.inj h3)).symm
          have hfree := hfreeG d hd
          have hui : ∀ y k T'', IsU ds outs y k T'' → y ≠ x → k ≠ i := fun y k T'' ⟨d', e', b1, b2, b3⟩ hyx hki => by
            subst hki
            rw [hov] at b2; cases b2
            rw [hdsi k o hiq ho, hd] at b1; cases b1
            simp only [updOne, tkV_mark] at b3
            split at b3
            · rename_i hh; exact hyx hh.symm
            · cases b3
          have hud : ∀ y, y ≠ x → upd y (fun j => (listed.setIfInBounds i true).getD j false) ds outs 0 = upd y (fun j => listed.getD j false) ds outs 0 := fun y hyx =>
            upd_congr (fun k T'' hk => by rw [Nat.zero_add]; exact hgo k (hui y k T'' hk hyx))
          have hud0 : upd d (fun j => (listed.setIfInBounds i true).getD j false) ds outs 0 = none := upd_none (fun k T' hk => by
            rw [Nat.zero_add]
            obtain ⟨c, hcx, hck, _⟩ := hUc d k T' hk
            rw [hwd] at hcx; cases hcx
            cases hlk : (listed.setIfInBounds i true).getD k false with
            | false => rfl
            | true =>
              rw [hgo k (hui d k T' hk (Ne.symm hxd))] at hlk
              have := hcli k (hU d k T' hk).1 hlk i hck
              rw [h2] at this; cases this)
          have hmx : ∃ T0, (SV s ds outs fun j => listed.getD j false).m x = some T0 := by
            obtain ⟨T0, hT0⟩ := Option.isSome_iff_exists.1 hxs
            exact ⟨T0, hle.m x T0 hT0⟩
          have hst : ∀ a w, Rel E (((SV s ds outs fun j => listed.getD j false).updM x [] .junk).new d v Tn) a w → Rel E (SV s ds outs fun j => (listed.setIfInBounds i true).getD j false) a w := by
            rintro a w ⟨M, G, hX⟩
            refine ⟨M, G, hX.weak ?_ ?_⟩
            · funext y
              by_cases hyd : y = d
              · subst hyd
                simp only [ASt.new, SV, hwd, hgi, if_true, hov, hud0, pickU]
              · by_cases hyx : y = x
                · subst hyx
                  obtain ⟨T0, hT0⟩ := hmx
                  have e1 : (((SV s ds outs fun j => listed.getD j false).updM y [] .junk).new d v Tn).m y = some .junk := by
                    simp only [ASt.new, hyd, if_false, ASt.updM, if_true, hT0, Option.map_some]
                    cases T0 <;> rfl
                  have e2 : (SV s ds outs fun j => (listed.setIfInBounds i true).getD j false).m y = some .junk := by
                    simp only [SV, hcx, hgo c hci', hlc, if_true]
                    rw [upd_is (k := i) (T := .junk) (fun k' T'' hk' => hUq y i .junk k' T'' hisu hk') hisu hgi]; rfl
                  rw [e1, e2]
                · have e1 : (((SV s ds outs fun j => listed.getD j false).updM x [] .junk).new d v Tn).m y = (SV s ds outs fun j => listed.getD j false).m y := by
                    simp only [ASt.new, hyd, if_false, ASt.updM, hyx]
                  have e2 : (SV s ds outs fun j => (listed.setIfInBounds i true).getD j false).m y = (SV s ds outs fun j => listed.getD j false).m y := by
                    simp only [SV]
                    cases hy : wh y ds 0 with
                    | none => rfl
                    | some j => simp only [hgo j (hwx y j hy hyd), hud y hyx]
                  rw [e1, e2]
            · intro y u hu
              by_cases hyd : y = d
              · subst hyd
                simpa only [ASt.new, SV, hwd, hgi, if_true, hov, outV_mark] using hu
              · have e2 : (SV s ds outs fun j => (listed.setIfInBounds i true).getD j false).t y = (SV s ds outs fun j => listed.getD j false).t y := by
                  simp only [SV]
                  cases hy : wh y ds 0 with
                  | none => rfl
                  | some j => simp only [hgo j (hwx y j hy hyd)]
                rw [e2]
                simp only [ASt.new, hyd, if_false, ASt.updM, hfree y hyd] at hu
                exact hu
          rw [if_pos (by simp [Region.wanted, hgn])]
          exact .inl (Oper.wp_both (fun a' w' hr' => hnext a' w' (hst a' w' hr')) (htj _ hle a w hrel))
        -- what its outcome makes of the state
        have hput : ∀ a w, Rel E (put (SV s ds outs fun j => listed.getD j false) o.dst v Tn) a w → Rel E (SV s ds outs fun j => (listed.setIfInBounds i true).getD j false) a w := by
          rintro a w ⟨M, G, hX⟩
          cases hd : o.dst with
          | none => rw [hd] at hsm; cases hsm
          | some d =>
            rw [hd] at hX
            have hwd := hwh i o d hiq ho hd
            have hui : ∀ x k T', IsU ds outs x k T' → k ≠ i := fun x k T' ⟨d', e', b1, b2, b3⟩ hki => by
              subst hki
              rw [hdsi k o hiq ho, hd] at b1
              cases b1
              rw [hov] at b2
              cases b2
              rw [updOne_n rfl htk] at b3
              cases b3
            have hud : ∀ x, upd x (fun j => (listed.setIfInBounds i true).getD j false) ds outs 0 = upd x (fun j => listed.getD j false) ds outs 0 := fun x =>
              upd_congr (fun k T' hk => by rw [Nat.zero_add]; exact hgo k (hui x k T' hk))
            have hud0 : upd d (fun j => (listed.setIfInBounds i true).getD j false) ds outs 0 = none := upd_none (fun k T' hk => by
              rw [Nat.zero_add]
              obtain ⟨c, hcx, hck, _⟩ := hUc d k T' hk
              rw [hwd] at hcx; cases hcx
              cases hlk : (listed.setIfInBounds i true).getD k false with
              | false => rfl
              | true =>
                rw [hgo k (hui d k T' hk)] at hlk
                have := hcli k (hU d k T' hk).1 hlk i hck
                rw [h2] at this; cases this)
            have hwx : ∀ x j, wh x ds 0 = some j → x ≠ d → j ≠ i := fun x j hx hxd hji => by
              subst hji
              have h3 := (wh_some hx).2
              rw [Nat.sub_zero, hdsi j o hiq ho, hd] at h3
              exact hxd (Option.some.inj (Option.some.inj h3)).symm
            -- no value names region d
            have hfree := hfreeG d hd
            refine ⟨M, G, hX.weak ?_ ?_⟩
            · funext x
              by_cases hxd : x = d
              · subst hxd
                cases Tn with
                | none =>
                  simp only [put, ASt.set, SV, hwd, hgi, h2, if_true, hov, outV_of htk, Bool.false_eq_true, if_false, hud0, pickU]
                | some T' =>
                  simp only [put, ASt.new, SV, hwd, hgi, if_true, hov, hud0, pickU]
              · have e2 : (SV s ds outs fun j => (listed.setIfInBounds i true).getD j false).m x = (SV s ds outs fun j => listed.getD j false).m x := by
                  simp only [SV]
                  cases hx : wh x ds 0 with
                  | none => rfl
                  | some j => simp only [hgo j (hwx x j hx hxd), hud]
                rw [e2]
                cases Tn with
                | none => rfl
                | some T' => simp only [put, ASt.new, hxd, if_false]
            · intro x u hu
              by_cases hxd : x = d
              · subst hxd
                cases Tn with
                | none => simpa only [put, ASt.set, SV, hwd, hgi, if_true, hov, outV_of htk] using hu
                | some T' => simpa only [put, ASt.new, SV, hwd, hgi, if_true, hov, outV_of htk] using hu
              · have e2 : (SV s ds outs fun j => (listed.setIfInBounds i true).getD j false).t x = (SV s ds outs fun j => listed.getD j false).t x := by
                  simp only [SV]
                  cases hx : wh x ds 0 with
                  | none => rfl
                  | some j => simp only [hgo j (hwx x j hx hxd)]
                rw [e2]
                cases Tn with
                | none => simpa only [put, ASt.set, hxd, if_false] using hu
                | some T' => simp only [put, ASt.new, hxd, if_false, hfree x hxd] at hu; exact hu
        obtain ⟨M, G, hX⟩ := hrel
        rcases hqg with ⟨hg, hqj⟩ | ⟨j, b, d, hg, hdj, hb, hqj⟩ | ⟨j, b, c, d, hg, hdj, hb, hcb, rfl, rfl⟩
        · rw [if_pos (by simp [Region.wanted, hg])]
          exact .inl (Oper.wp_both (fun a' w' hr' => hnext a' w' (hput a' w' hr')) (hqj _ hle a w ⟨M, G, hX⟩))
        · have hv := hX.sl d
          rw [show (SV s ds outs fun j => listed.getD j false).t d = .lit (.bool b) from ((hle.t d).resolve_left (by rw [hb]; simp)).trans hb] at hv
          rw [if_pos (by simp [Region.wanted, hg, yielded_of hdj hv.bool])]
          exact .inl (Oper.wp_both (fun a' w' hr' => hnext a' w' (hput a' w' hr')) (hqj _ hle a w ⟨M, G, hX⟩))
        · have hv := hX.sl d
          rw [show (SV s ds outs fun j => listed.getD j false).t d = .lit c from ((hle.t d).resolve_left (by rw [hb]; simp)).trans hb] at hv
          rw [if_neg (by simp [Region.wanted, hg, yielded_not hdj hv.litv hcb])]
          exact hnext _ w (hput _ w ⟨M, G, hX.undef o.dst (fun x hx => (hspec i o ho).2.2.2.1 hiq x hx)⟩)
      · -- behind
        have hic : i = c := by
          have h3 : ¬ i < c := fun hlt => by have := (hDc i).2 hlt; rw [h2] at this; cases this
          have h4 : ¬ c < i := fun hlt => by
            have := (hDc c).1 (hTi c ((hspec i o ho).2.2.2.2 (by omega) c hlt)).1
            omega
          omega
        subst hic
        rw [List.drop_eq_getElem_cons hil] at hwl
        have hoi : l[i] = o := (List.getElem?_eq_some_iff.1 ho).2
        rw [hoi] at hwl
        have hnext : ∀ a w, wpList E.P l.toArray (NK E (K .nm)) (l.drop (i + 1)) a w → wpAny E.P .any l.toArray (NK E (K .nm)) fuel (listed.setIfInBounds i true) a w := fun a w hw => by
          refine next a w (.inr ⟨i + 1, by omega, by omega, fun j => ?_, hw⟩)
          by_cases hji : j = i
          · subst hji; simp only [hgi, true_iff]; omega
          · rw [hgo j hji, hDc]; omega
        unfold wpList at hwl
        split
        · rename_i hw; rw [if_pos hw] at hwl
          exact hwl.imp (Oper.wp_mono hnext) (fun h => h)
        · rename_i hw; rw [if_neg hw] at hwl
          exact hnext _ _ hwl
  obtain ⟨M, G, hX⟩ := hr
  have hX' : Rel E s a { w with drawn := w.drawn + 1 } := ⟨M, G, ⟨hX.er, fun r T hT => (hX.sat r T hT).congr (fun _ _ => rfl) (fun _ _ => rfl) (fun _ h => h), hX.nd, hX.dj, hX.own, hX.gd, hX.g0, fun i => (hX.sl i).congr (fun _ _ => rfl) (fun _ h => h), ⟨hX.ext.os, hX.ext.tape, hX.ext.output, hX.ext.size, hX.ext.block⟩, hX.df, hX.nt, hX.n1, hX.pv⟩⟩
  obtain ⟨M', G', hX'⟩ := hX'
  have h0 := hX'.sv0 ds outs hdnt
  have hfalse : ∀ j, (Array.replicate l.length false).getD j false = false := fun j => by
    rw [Array.getD_eq_getD_getElem?, Array.getElem?_replicate]; split <;> rfl
  have h0' : Rel E (SV s ds outs fun j => (Array.replicate l.length false).getD j false) a { w with drawn := w.drawn + 1 } := by
    rw [SV.congr (B' := fun _ => false) (fun i _ => hfalse i)]; exact h0
  refine main _ _ _ _ (by simp) (by simp only [List.size_toArray]; exact Nat.le_trans (List.length_filter_le _ _) (by simp)) (fun i o hi => ?_) ?_
  · simp only [List.size_toArray] at hi; rw [hfalse] at hi; cases hi
  · simp only [List.size_toArray]
    by_cases hq0 : q = 0
    · exact .inr ⟨0, by omega, by omega, fun j => by rw [hfalse]; simp, by
        have := hbehind (Array.replicate l.length false) a _ (fun j hj => by omega) h0'
        rw [hq0] at this; exact this⟩
    · refine .inl ⟨⟨0, by omega, hfalse 0⟩, fun j hj => ?_, h0'⟩
      rw [hfalse] at hj; cases hj

theorem AWP.drawn {E : Env} {id : Nat} {l : List Oper} {K : AX → ASt → Prop} {s : ASt} (hm : E.P.follows .mixedOrders = true) (T : List (List Nat)) (q : Nat) (hc : chk l T q E.nt = true)
    (h : DQ E l.toArray T s ((l.take q).map (·.dst)) (Seq E l.toArray (l.drop q) (K .nm)) (l.take q) []) : AWP E (.region id l.toArray true) K s := fun a w hr =>
  wp_mono (wp_region_any hm (AWP.drawn_any hm T q hc h a w hr)) (fun e a' w' hp => by obtain ⟨rfl, s', h1, h2⟩ := hp; exact ⟨s', h1, h2⟩)
end Go.Av
end
section
set_option linter.unusedSimpArgs false
set_option linter.unusedVariables false
/-! The operations, one by one: those that only compute and read. -/
namespace Go.Av

theorem QJ.val {E : Env} {o : Oper} {s : ASt} {v : AV} {d : Nat} (hd : o.dst = some d) (hn : d < E.nt)
    (h : ∀ s' M G a w, Le s s' → RelX E M G s' a w → ∃ u w', (execOp a.eval o).run E.P w = .ok (.value u) w' ∧ Ext (fun _ => False) w w' ∧ VR w' G M v u) : QJ E o s v none := by
  rintro s' hle a w ⟨M, G, hX⟩
  obtain ⟨u, w', hrun, hw, hv⟩ := h s' M G a w hle hX
  unfold Oper.wp
  rw [hrun]
  simp only [Oper.upon, hd, put]
  exact ⟨M, G, hX.set hn hw hv⟩

theorem QJ.mem {E : Env} {o : Oper} {s : ASt} {v A : AV} {d : Nat} (hd : o.dst = some d) (hn : d < E.nt)
    (h : ∀ s' M G a w, Le s s' → RelX E M G s' a w → ∃ u w' G' T, (execOp a.eval o).run E.P w = .ok (.value u) w' ∧ Ext (fun _ => False) w w' ∧ (∀ x, G x → G' x) ∧ (∀ x, G' x → G x ∨ (w.heap.size ≤ x ∧ x < w'.heap.size)) ∧
      T.erase = A ∧ Sat w' G' T ∧ T.blocks.Nodup ∧ (∀ x ∈ T.blocks, w.heap.size ≤ x ∧ x < w'.heap.size ∧ ¬ G' x) ∧ VR w' G' (updF M d (some T)) v u) : QJ E o s v (some A) := by
  rintro s' hle a w ⟨M, G, hX⟩
  obtain ⟨u, w', G', T, hrun, hw, h1, h2, rfl, h3, h4, h5, hv⟩ := h s' M G a w hle hX
  unfold Oper.wp
  rw [hrun]
  simp only [Oper.upon, hd, put]
  exact ⟨_, _, hX.new hn hw h1 h2 h3 h4 h5 hv⟩

theorem Le.evs {s s' : ASt} (h : Le s s') (x : Operand) : s.ev x = .junk ∨ s'.ev x = s.ev x := by
  cases x with
  | tmp t => exact h.t t
  | const v => exact .inr rfl
  | global g => exact .inr rfl
  | func f => exact .inr rfl
theorem RelX.evLe {E : Env} {M : Nat → Option HT} {G : Nat → Prop} {s s' : ASt} {a : Act} {w : World} (h : RelX E M G s' a w) (hle : Le s s') (x : Operand) : VR w G M (s.ev x) (a.eval x) := by
  rcases hle.evs x with e | e
  · rw [e]; exact .junk _
  · rw [← e]; exact h.ev x
theorem RelX.lit {E : Env} {M : Nat → Option HT} {G : Nat → Prop} {s s' : ASt} {a : Act} {w : World} (h : RelX E M G s' a w) (hle : Le s s') {x : Operand} {v : Value} (hx : s.ev x = .lit v) : a.eval x = v := by
  have := h.evLe hle x
  rw [hx] at this
  exact this.bool

theorem q_move {E : Env} {s : ASt} {d : Nat} {x : Operand} {t : TypeId} {pos : String} {after : Array Edge} {g : Option (Nat × Bool)} (hn : d < E.nt) : QJ E ⟨some d, .move x, t, pos, after, g⟩ s (s.ev x) none :=
  .val rfl hn fun s' M G a w hle hX => ⟨a.eval x, w, rfl, Ext.refl _ _, hX.evLe hle x⟩
theorem q_assign {E : Env} {s : ASt} {d : Nat} {x : Operand} {t : TypeId} {pos : String} {after : Array Edge} {g : Option (Nat × Bool)} (hn : d < E.nt) : QJ E ⟨some d, .assign x, t, pos, after, g⟩ s (s.ev x) none :=
  .val rfl hn fun s' M G a w hle hX => ⟨a.eval x, w, rfl, Ext.refl _ _, hX.evLe hle x⟩
theorem q_pick {E : Env} {s : ASt} {d : Nat} {c x y : Operand} {t : TypeId} {pos : String} {after : Array Edge} {g : Option (Nat × Bool)} {b : Bool} (hn : d < E.nt) (hc : s.ev c = .lit (.bool b)) :
    QJ E ⟨some d, .pick c x y, t, pos, after, g⟩ s (bif b then s.ev x else s.ev y) none :=
  .val rfl hn fun s' M G a w hle hX => ⟨if b then a.eval x else a.eval y, w, by simp [execOp, hX.lit hle hc, asBool], Ext.refl _ _, by cases b <;> simp <;> exact hX.evLe hle _⟩

/-- Two integers. -/
def intV (op : BinOp) (k : IntKind) (a b : Int) : Value :=
  match op with
  | .add => .int k (k.wrap (a + b))
  | .sub => .int k (k.wrap (a - b))
  | .mul => .int k (k.wrap (a * b))
  | .quo => .int k (k.wrap (a.tdiv b))
  | .rem => .int k (a.tmod b)
  | .and => .int k (k.wrap (BitVec.ofInt k.bits a &&& BitVec.ofInt k.bits b).toNat)
  | .or => .int k (k.wrap (BitVec.ofInt k.bits a ||| BitVec.ofInt k.bits b).toNat)
  | .xor => .int k (k.wrap (BitVec.ofInt k.bits a ^^^ BitVec.ofInt k.bits b).toNat)
  | .andNot => .int k (k.wrap (BitVec.ofInt k.bits a &&& ~~~ BitVec.ofInt k.bits b).toNat)
  | .shl => .int k (k.wrap (a * 2 ^ (min b.toNat k.bits)))
  | .shr => .int k (a.fdiv (2 ^ (min b.toNat k.bits)))
  | .eql => .bool (a == b)
  | .neq => .bool (a != b)
  | .lss => .bool (decide (a < b))
  | .leq => .bool (decide (a ≤ b))
  | .gtr => .bool (decide (a > b))
  | .geq => .bool (decide (a ≥ b))
def intOk (op : BinOp) (k k' : IntKind) (b : Int) : Prop :=
  match op with
  | .shl | .shr => 0 ≤ b
  | .quo | .rem => k = k' ∧ b ≠ 0
  | _ => k = k'
def strV (op : BinOp) (x y : ByteArray) : Value :=
  match op with
  | .add => .string (x ++ y)
  | .eql => .bool (x.toList == y.toList)
  | .neq => .bool (!(x.toList == y.toList))
  | .lss => .bool (Op.bytesLess x.toList y.toList)
  | .leq => .bool (Op.bytesLess x.toList y.toList || x.toList == y.toList)
  | .gtr => .bool (!(Op.bytesLess x.toList y.toList || x.toList == y.toList))
  | .geq => .bool (!Op.bytesLess x.toList y.toList)
  | _ => .string x
def strOk (op : BinOp) (x y : ByteArray) : Prop :=
  match op with
  | .add => x.size + y.size ≤ 9223372036854775807
  | .eql | .neq | .lss | .leq | .gtr | .geq => True
  | _ => False

theorem eqGuard_of (op : BinOp) (t : TypeId) (x y : Operand) (u v : Value) (h : (match u with | .nilIface | .agg _ => false | _ => true) = true) : eqGuard op t x y u v = pure () := by
  unfold eqGuard
  cases op <;> first | rfl | (cases u <;> first | rfl | (simp at h) | (cases v <;> rfl))

theorem int_run {P : Program} {op : BinOp} {k k' : IntKind} {t : TypeId} {a b : Int} (h : intOk op k k' b) (w : World) : (binOp op t (.int k a) (.int k' b)).run P w = .ok (intV op k a b) w := by
  cases op <;> simp only [intOk] at h
  all_goals first
    | (obtain ⟨rfl, h0⟩ := h; simp [binOp, Op.intDiv, h0, intV]; done)
    | (obtain rfl := h; simp [binOp, Op.intArith, Op.intBits, Op.intCmp, intV]; done)
    | (simp [binOp, Op.shift, show ¬ b < 0 by omega, intV]; done)

theorem str_run {P : Program} {op : BinOp} {t : TypeId} {x y : ByteArray} (h : strOk op x y) (w : World) : (binOp op t (.string x) (.string y)).run P w = .ok (strV op x y) w := by
  cases op <;> simp only [strOk] at h
  all_goals first
    | (simp [binOp, Op.stringOp, strV]; done)
    | (simp [binOp, Op.stringOp, IntKind.max, IntKind.signed, IntKind.bits, show ¬ ((x.size : Int) + y.size > 9223372036854775807) by omega, strV]; done)

theorem q_int {E : Env} {s : ASt} {d : Nat} {op : BinOp} {x y : Operand} {t xt yt : TypeId} {pos : String} {after : Array Edge} {g : Option (Nat × Bool)} {k k' : IntKind} {a b : Int} (hn : d < E.nt)
    (hx : s.ev x = .lit (.int k a)) (hy : s.ev y = .lit (.int k' b)) (h : intOk op k k' b) : QJ E ⟨some d, .binOp op xt x y yt, t, pos, after, g⟩ s (.lit (intV op k a b)) none :=
  .val rfl hn fun s' M G a' w hle hX => ⟨_, w, by simp [execOp, hX.lit hle hx, hX.lit hle hy, eqGuard_of, int_run h], Ext.refl _ _, .lit _⟩
theorem q_str {E : Env} {s : ASt} {d : Nat} {op : BinOp} {x y : Operand} {t xt yt : TypeId} {pos : String} {after : Array Edge} {g : Option (Nat × Bool)} {a b : ByteArray} (hn : d < E.nt)
    (hx : s.ev x = .lit (.string a)) (hy : s.ev y = .lit (.string b)) (h : strOk op a b) : QJ E ⟨some d, .binOp op xt x y yt, t, pos, after, g⟩ s (.lit (strV op a b)) none :=
  .val rfl hn fun s' M G a' w hle hX => ⟨_, w, by simp [execOp, hX.lit hle hx, hX.lit hle hy, eqGuard_of, str_run h], Ext.refl _ _, .lit _⟩
def boolV : BinOp → Bool → Bool → Option Bool
  | .eql, a, b => some (a == b)
  | .neq, a, b => some (!(a == b))
  | _, _, _ => none
theorem q_bool {E : Env} {s : ASt} {d : Nat} {op : BinOp} {x y : Operand} {t xt yt : TypeId} {pos : String} {after : Array Edge} {g : Option (Nat × Bool)} {a b c : Bool} (hn : d < E.nt) (ht : E.P.underlying xt = some .bool)
    (hx : s.ev x = .lit (.bool a)) (hy : s.ev y = .lit (.bool b)) (h : boolV op a b = some c) : QJ E ⟨some d, .binOp op xt x y yt, t, pos, after, g⟩ s (.lit (.bool c)) none :=
  .val rfl hn fun s' M G a' w hle hX => ⟨_, w, by
    cases op <;> simp only [boolV, Option.some.injEq] at h
    all_goals first
      | (subst h; simp [execOp, hX.lit hle hx, hX.lit hle hy, eqGuard_of, run_eql_bool _ _ _ _ ht, run_neq_bool _ _ _ _ ht]; done)
      | (cases h; done), Ext.refl _ _, .lit _⟩
def unV : UnOp → Value → Option Value
  | .neg, .int k n => some (.int k (k.wrap (0 - n)))
  | .not, .bool b => some (.bool !b)
  | .xor, .int k n => some (.int k (k.wrap (BitVec.ofInt k.bits (if k.signed then -1 else k.max) ^^^ BitVec.ofInt k.bits n).toNat))
  | .neg, .float k b => some (.float k (Op.negFloat k b))
  | _, _ => none
theorem q_un {E : Env} {s : ASt} {d : Nat} {op : UnOp} {x : Operand} {t xt : TypeId} {pos : String} {after : Array Edge} {g : Option (Nat × Bool)} {a c : Value} (hn : d < E.nt)
    (hx : s.ev x = .lit a) (h : unV op a = some c) : QJ E ⟨some d, .unOp op xt x, t, pos, after, g⟩ s (.lit c) none :=
  .val rfl hn fun s' M G a' w hle hX => ⟨_, w, by
    unfold unV at h
    split at h
    all_goals first
      | (cases h; done)
      | (simp only [Option.some.injEq] at h; subst h; simp [execOp, hX.lit hle hx, Op.unary, Op.intArith, Op.intBits]; done), Ext.refl _ _, .lit _⟩
theorem q_convInt {E : Env} {s : ASt} {d : Nat} {x : Operand} {t src dst : TypeId} {pos : String} {after : Array Edge} {g : Option (Nat × Bool)} {k k' k0 : IntKind} {n : Int} (hn : d < E.nt)
    (hs : E.P.underlying src = some (.int k0)) (ht : E.P.underlying dst = some (.int k')) (hx : s.ev x = .lit (.int k n)) : QJ E ⟨some d, .convert src dst x, t, pos, after, g⟩ s (.lit (.int k' (k'.wrap n))) none :=
  .val rfl hn fun s' M G a' w hle hX => ⟨_, w, by simp [execOp, hX.lit hle hx, convert, run_underlying hs, run_underlying ht, Conv.intToInt], Ext.refl _ _, .lit _⟩

/-- The byte at a place of a text. -/
def byteAt (s : ByteArray) (i : Int) : Int := if h : i.toNat < s.size then ((s[i.toNat]'h).toNat : Int) else 0
theorem q_indexStr {E : Env} {s : ASt} {d : Nat} {x y : Operand} {t xt : TypeId} {pos : String} {after : Array Edge} {g : Option (Nat × Bool)} {str : ByteArray} {k : IntKind} {i : Int} (hn : d < E.nt)
    (ht : E.P.underlying xt = some .string) (hx : s.ev x = .lit (.string str)) (hy : s.ev y = .lit (.int k i)) (h : 0 ≤ i ∧ i < str.size) : QJ E ⟨some d, .index xt x y, t, pos, after, g⟩ s (.lit (.int .u8 (byteAt str i))) none :=
  .val rfl hn fun s' M G a' w hle hX => ⟨_, w, by
    have hi : i.toNat < str.size := by omega
    have hg : str[i.toNat]? = some str[i.toNat] := getElem?_pos str i.toNat hi
    simp [execOp, hX.lit hle hx, hX.lit hle hy, Instr.index, asIntOf, run_underlying ht, h.1, hg, byteAt, hi], Ext.refl _ _, .lit _⟩

def lenV : AV → Option Nat
  | .lit (.string s) => some s.size
  | .lit (.slice _ n _) => some n
  | .row _ _ n _ => some n
  | .sl _ _ _ len => some len
  | _ => none
def isStrT (P : Program) (t : TypeId) : Bool := match P.underlying t with | some .string => true | _ => false
def isSlT (P : Program) (t : TypeId) : Bool := match P.underlying t with | some (.slice _) => true | _ => false

end Go.Av
end
section
set_option linter.unusedSimpArgs false
set_option linter.unusedVariables false
/-! The operations that read memory. -/
namespace Go.Av

def slT (P : Program) (t : TypeId) : Option Nat := match P.underlying t with
  | some (.slice e) => (P.info? e).map (·.size)
  | _ => none
def agT (P : Program) (t : TypeId) : Option Bool := (P.underlying t).map fun d => match d with
  | .struct _ | .array _ _ => true
  | _ => false
def szT (P : Program) (t : TypeId) : Option Nat := (P.info? t).map (·.size)
/-- A struct's field: where it begins, its cells, whether it is one of several cells. -/
def fdT (P : Program) (t : TypeId) (f : Nat) : Option (Nat × Nat × Bool) := match P.underlying t with
  | some (.struct fs) => match fs[f]? with
    | some x => match szT P x.type, agT P x.type with
      | some n, some g => some (x.offset, n, g)
      | _, _ => none
    | none => none
  | _ => none

theorem slT_spec {P : Program} {t : TypeId} {n : Nat} (h : slT P t = some n) : ∃ e i, P.underlying t = some (.slice e) ∧ P.info? e = some i ∧ i.size = n := by
  unfold slT at h
  split at h
  · rename_i e he
    cases hi : P.info? e with
    | none => simp [hi] at h
    | some i => simp [hi] at h; exact ⟨e, i, he, hi, h⟩
  · cases h
theorem run_size {P : Program} {t : TypeId} {n : Nat} (h : szT P t = some n) (w : World) : (sizeOf t).run P w = .ok n w := by
  unfold szT at h
  cases hi : P.info? t with
  | none => simp [hi] at h
  | some i => simp [hi] at h; simp [sizeOf, typeInfo, hi, h]
theorem run_agg {P : Program} {t : TypeId} {b : Bool} (h : agT P t = some b) (w : World) : (isAgg t).run P w = .ok b w := by
  unfold agT at h
  cases hi : P.underlying t with
  | none => simp [hi] at h
  | some i => simp only [hi, Option.map_some, Option.some.injEq] at h; subst h; cases i <;> simp [isAgg, underlying, hi]
theorem fdT_spec {P : Program} {t : TypeId} {f o n : Nat} {g : Bool} (h : fdT P t f = some (o, n, g)) : ∃ fs x, P.underlying t = some (.struct fs) ∧ fs[f]? = some x ∧ x.offset = o ∧ szT P x.type = some n ∧ agT P x.type = some g := by
  unfold fdT at h
  split at h
  · rename_i fs hfs
    split at h
    · rename_i x hx
      split at h
      · rename_i n' g' h1 h2
        simp only [Option.some.injEq, Prod.mk.injEq] at h
        obtain ⟨rfl, rfl, rfl⟩ := h
        exact ⟨fs, x, hfs, hx, rfl, h1, h2⟩
      · cases h
    · cases h
  · cases h

theorem add0 (b o k : Nat) : (⟨b, o, none⟩ : Addr).add k = ⟨b, o + k, none⟩ := by unfold Addr.add; split <;> simp_all

theorem VR.boxAt {w : World} {G : Nat → Prop} {m : Nat → Option HT} {cs : List AV} {v : Value} (h : VR w G m (.box false cs) v) :
    ∃ b off, v = .pointer (some ⟨b, off, none⟩) ∧ (∀ i c, cs[i]? = some c → c.noRef = true ∧ ∃ u, w.cell? ⟨b, off + i, none⟩ = some u ∧ VR w G m c u) ∧
      (∀ k, VR w G m (.box false (cs.drop k)) (.pointer (some ⟨b, off + k, none⟩))) := by
  cases h with
  | box b off _ us C e fr hG hb hu hr h =>
    refine ⟨b, off, rfl, fun i c hc => ⟨hr c (List.mem_of_getElem? hc), us i, ?_, (h i c hc).free (hr c (List.mem_of_getElem? hc))⟩, fun k => ?_⟩
    · have := hu i (List.getElem?_eq_some_iff.1 hc).1
      simp [World.cell?, hb, this]
    · refine .box b (off + k) _ (fun i => us (k + i)) C e fr hG hb (fun i hi => ?_) (fun a ha => hr a (List.mem_of_mem_drop ha)) (fun i a ha => ?_)
      · rw [Nat.add_assoc]; exact hu _ (by simp at hi; omega)
      · rw [List.getElem?_drop] at ha; exact h _ a ha

theorem VR.rowAt {w : World} {G : Nat → Prop} {m : Nat → Option HT} {sz n : Nat} {cs : List AV} {v : Value} (h : VR w G m (.row false sz n cs) v) :
    ∃ A c, v = .slice A n c ∧ n ≤ c ∧ n ≤ 9223372036854775807 ∧ cs.length = n * sz ∧ (0 < n → ∃ b off, A = some ⟨b, off, none⟩ ∧ (∀ k, VR w G m (.box false (cs.drop k)) (.pointer (some ⟨b, off + k, none⟩)))) := by
  cases h with
  | row0 sz A c => exact ⟨A, c, rfl, Nat.zero_le _, by omega, by simp, fun h => absurd h (by omega)⟩
  | row sz n c b off cs us C e fr hG hb hn hc hmax hu hr h =>
    refine ⟨_, c, rfl, hc, hmax, hn, fun _ => ⟨b, off, rfl, fun k => ?_⟩⟩
    refine .box b (off + k) _ (fun i => us (k + i)) C e fr hG hb (fun i hi => ?_) (fun a ha => hr a (List.mem_of_mem_drop ha)) (fun i a ha => ?_)
    · rw [Nat.add_assoc]; exact hu _ (by simp at hi; omega)
    · rw [List.getElem?_drop] at ha; exact h _ a ha

section
variable {E : Env} {s : ASt} {d : Nat} {x y : Operand} {t xt : TypeId} {pos : String} {after : Array Edge} {g : Option (Nat × Bool)}

theorem q_lenStr {str : ByteArray} (hn : d < E.nt) (ht : E.P.underlying xt = some .string) (hx : s.ev x = .lit (.string str)) :
    QJ E ⟨some d, .call { callee := .builtin .len, args := #[x], argTypes := #[xt] }, t, pos, after, g⟩ s (.lit (.int .i64 str.size)) none :=
  .val rfl hn fun s' M G a w hle hX => ⟨_, w, by simp [execOp, resolve, invoke, builtin, hX.lit hle hx, Builtin.len_, run_underlying ht, goInt], Ext.refl _ _, .lit _⟩
theorem q_lenSh {sz n sz' : Nat} {cs : List AV} (hn : d < E.nt) (ht : slT E.P xt = some sz') (hx : s.ev x = .row false sz n cs) :
    QJ E ⟨some d, .call { callee := .builtin .len, args := #[x], argTypes := #[xt] }, t, pos, after, g⟩ s (.lit (.int .i64 n)) none :=
  .val rfl hn fun s' M G a w hle hX => by
    obtain ⟨e, i, h1, h2, h3⟩ := slT_spec ht
    have hv := hX.evLe hle x
    rw [hx] at hv
    obtain ⟨A, c, hv, _⟩ := hv.rowAt
    exact ⟨_, w, by simp [execOp, resolve, invoke, builtin, hv, Builtin.len_, run_underlying h1, goInt], Ext.refl _ _, .lit _⟩

theorem q_indexSh {sz n : Nat} {cs : List AV} {k : IntKind} {i : Int} (hn : d < E.nt) (ht : slT E.P xt = some sz) (hx : s.ev x = .row false sz n cs) (hy : s.ev y = .lit (.int k i)) (h : 0 ≤ i ∧ i < n) :
    QJ E ⟨some d, .indexAddr xt x y, t, pos, after, g⟩ s (.box false (cs.drop (i.toNat * sz))) none :=
  .val rfl hn fun s' M G a w hle hX => by
    obtain ⟨e, inf, h1, h2, h3⟩ := slT_spec ht
    have hv := hX.evLe hle x
    rw [hx] at hv
    obtain ⟨A, c, hv, _, _, _, hbox0⟩ := hv.rowAt
    obtain ⟨b, off, rfl, hbox⟩ := hbox0 (by omega)
    clear hbox0
    exact ⟨_, w, by simp [execOp, hv, hX.lit hle hy, Instr.indexAt, asIntOf, run_underlying h1, h.1, h.2, sizeOf, typeInfo, h2, h3, add0], Ext.refl _ _, hbox _⟩

theorem q_fieldSh {f o n : Nat} {gg : Bool} {cs : List AV} (hn : d < E.nt) (ht : fdT E.P xt f = some (o, n, gg)) (h0 : n ≠ 0) (hx : s.ev x = .box false cs) :
    QJ E ⟨some d, .fieldAddr xt x f, t, pos, after, g⟩ s (.box false (cs.drop o)) none :=
  .val rfl hn fun s' M G a w hle hX => by
    obtain ⟨fs, z, h1, h2, h3, h4, h5⟩ := fdT_spec ht
    have hv := hX.evLe hle x
    rw [hx] at hv
    obtain ⟨b, off, hv, _, hbox⟩ := hv.boxAt
    exact ⟨_, w, by simp [execOp, hv, Instr.fieldAt, Instr.sureAddr, run_underlying h1, h2, fieldPlace, run_size h4, h0, h3, add0], Ext.refl _ _, hbox _⟩

theorem q_loadSh {cs : List AV} {c : AV} (hn : d < E.nt) (ht : agT E.P xt = some false) (hx : s.ev x = .box false cs) (hc : cs[0]? = some c) :
    QJ E ⟨some d, .load xt x, t, pos, after, g⟩ s c none :=
  .val rfl hn fun s' M G a w hle hX => by
    have hv := hX.evLe hle x
    rw [hx] at hv
    obtain ⟨b, off, hv, hcell, _⟩ := hv.boxAt
    obtain ⟨_, u, hu, hvu⟩ := hcell 0 c hc
    exact ⟨u, w, by simp only [Nat.add_zero] at hu; simp [execOp, hv, Instr.loadAt, Instr.sureAddr, loadVar, run_agg ht, hu], Ext.refl _ _, hvu⟩

theorem q_loadShAgg {cs : List AV} {n : Nat} (hn : d < E.nt) (ht : agT E.P xt = some true) (hz : szT E.P xt = some n) (hx : s.ev x = .box false cs) (hc : n ≤ cs.length) :
    QJ E ⟨some d, .load xt x, t, pos, after, g⟩ s (.agg (cs.take n)) none :=
  .val rfl hn fun s' M G a w hle hX => by
    have hv := hX.evLe hle x
    rw [hx] at hv
    obtain ⟨b, off, hv, hcell, _⟩ := hv.boxAt
    have hus : ∀ j, j < n → ∃ u, w.cell? ⟨b, off + j, none⟩ = some u ∧ VR w G M (cs.getD j .junk) u := fun j hj => by
      have hjc : cs[j]? = some cs[j] := List.getElem?_eq_getElem (by omega)
      obtain ⟨_, u, h1, h2⟩ := hcell j _ hjc
      exact ⟨u, h1, by simpa [List.getD, hjc] using h2⟩
    let f : Nat → Value := fun j => (w.cell? ⟨b, off + j, none⟩).getD undef
    have hf : ∀ j, j < n → w.cell? ((⟨b, off, none⟩ : Addr).add j) = some (f j) := fun j hj => by
      obtain ⟨u, h1, _⟩ := hus j hj
      rw [add0, h1]; simp [f, h1]
    refine ⟨.agg ((List.range n).map f).toArray, w, ?_, Ext.refl _ _, ?_⟩
    · simp [execOp, hv, Instr.loadAt, Instr.sureAddr, loadVar, run_agg ht, run_size hz, run_loadCells w _ n f hf]
    · refine .agg _ _ (by simp; omega) (fun i c u hc' hu => ?_)
      rw [List.getElem?_take] at hc'
      split at hc'
      · rename_i hi
        obtain ⟨u', h1, h2⟩ := hus i hi
        rw [List.getElem?_map, List.getElem?_range hi] at hu
        simp only [Option.map_some, Option.some.injEq] at hu
        subst hu
        simp only [f, h1, Option.getD_some]
        simpa [List.getD, hc'] using h2
      · cases hc'

theorem q_field {cs : List AV} {c : AV} {f o n : Nat} (hn : d < E.nt) (ht : fdT E.P xt f = some (o, n, false)) (hx : s.ev x = .agg cs) (hc : cs[o]? = some c) :
    QJ E ⟨some d, .field xt x f, t, pos, after, g⟩ s c none :=
  .val rfl hn fun s' M G a w hle hX => by
    obtain ⟨fs, z, h1, h2, h3, h4, h5⟩ := fdT_spec ht
    have hv := hX.evLe hle x
    rw [hx] at hv
    generalize hav : a.eval x = v at hv
    cases hv with
    | agg _ us hl h =>
      have ho : o < us.length := by rw [hl]; exact (List.getElem?_eq_some_iff.1 hc).1
      refine ⟨us[o], w, ?_, Ext.refl _ _, h o c _ hc (List.getElem?_eq_getElem ho)⟩
      simp [execOp, hav, Instr.field, run_underlying h1, h2, asAgg, part, run_agg h5, h3, List.getElem?_eq_getElem ho]

theorem q_extract {cs : List AV} {c : AV} {i : Nat} (hn : d < E.nt) (hx : s.ev x = .tup cs) (hc : cs[i]? = some c) :
    QJ E ⟨some d, .extract x i, t, pos, after, g⟩ s c none :=
  .val rfl hn fun s' M G a w hle hX => by
    have hv := hX.evLe hle x
    rw [hx] at hv
    generalize hav : a.eval x = v at hv
    cases hv with
    | tup _ us hl h =>
      have ho : i < us.length := by rw [hl]; exact (List.getElem?_eq_some_iff.1 hc).1
      refine ⟨us[i], w, ?_, Ext.refl _ _, h i c _ hc (List.getElem?_eq_getElem ho)⟩
      simp [execOp, hav, Instr.extract, List.getElem?_eq_getElem ho]

theorem q_makeFunc {f : FuncId} {caps : List Operand} (hn : d < E.nt) :
    QJ E ⟨some d, .makeFunc (.func f) #[] caps.toArray, t, pos, after, g⟩ s (.fn f (caps.map s.ev)) none :=
  .val rfl hn fun s' M G a w hle hX => ⟨.func (.func f) #[] (caps.map a.eval).toArray, w, by simp [execOp, Instr.makeFunc], Ext.refl _ _,
    .fn f _ _ (by simp) (fun i c u hc hu => by
      rw [List.getElem?_map] at hc hu
      cases hi : caps[i]? with
      | none => simp [hi] at hc
      | some z =>
        simp only [hi, Option.map_some, Option.some.injEq] at hc hu
        subst hc; subst hu
        exact hX.evLe hle z)⟩
end

end Go.Av
end
section
set_option linter.unusedSimpArgs false
set_option linter.unusedVariables false
/-! A value taken out of a call's state; contracts of functions; calls. -/
namespace Go.Av

/-- What names no place of the call's own stands by itself. -/
theorem VR.tree {w : World} {G : Nat → Prop} {m : Nat → Option HT} {v : AV} {u : Value} (h : VR w G m v u) (hr : v.noRef = true) : ∃ T : HT, T.value = u ∧ T.erase = v ∧ T.blocks = [] ∧ Sat w G T := by
  have list : ∀ (m : Nat → Option HT) (cs : List AV) (us : List Value), us.length = cs.length → (∀ (i : Nat) (a : AV) (u : Value), cs[i]? = some a → us[i]? = some u → ∃ T : HT, T.value = u ∧ T.erase = a ∧ T.blocks = [] ∧ Sat w G T) →
      ∃ Ts : List HT, HT.values Ts = us ∧ HT.erases Ts = cs ∧ HT.blockss Ts = [] ∧ ∀ (i : Nat) (T : HT), Ts[i]? = some T → Sat w G T := by
    intro m cs
    induction cs with
    | nil => intro us hl _; have : us = [] := by simpa using hl
             subst this; exact ⟨[], by simp [HT.values], by simp [HT.erases], by simp [HT.blockss], by simp⟩
    | cons c r ih =>
      intro us hl hh
      cases us with
      | nil => simp at hl
      | cons u us =>
        obtain ⟨T, h1, h2, h3, h4⟩ := hh 0 c u rfl rfl
        obtain ⟨Ts, e1, e2, e3, e4⟩ := ih us (by simpa using hl) (fun i a v ha hv => hh (i + 1) a v (by simpa using ha) (by simpa using hv))
        refine ⟨T :: Ts, by simp [HT.values, h1, e1], by simp [HT.erases, h2, e2], by simp [HT.blockss, h3, e3], fun i T' hT' => ?_⟩
        cases i with
        | zero => simp at hT'; exact hT' ▸ h4
        | succ i => exact e4 i T' (by simpa using hT')
  induction h with
  | lit v => exact ⟨.leaf (.lit v) v, rfl, rfl, rfl, .leaf _ _ rfl (.lit v)⟩
  | junk v => exact ⟨.leaf .junk v, rfl, rfl, rfl, .leaf _ _ rfl (.junk v)⟩
  | row0 sz A c => exact ⟨.leaf _ _, rfl, rfl, rfl, .leaf _ _ rfl (.row0 sz A c)⟩
  | row sz n c b off cs us C e fr h1 h2 h3 h4 h5 h6 h7 h8 _ => exact ⟨.leaf _ _, rfl, rfl, rfl, .leaf _ _ rfl (.row sz n c b off cs us C e fr h1 h2 h3 h4 h5 h6 h7 h8)⟩
  | box b off cs us C e fr h1 h2 h6 h7 h8 _ => exact ⟨.leaf _ _, rfl, rfl, rfl, .leaf _ _ rfl (.box b off cs us C e fr h1 h2 h6 h7 h8)⟩
  | @agg m cs us hl _ ih =>
    obtain ⟨Ts, e1, e2, e3, e4⟩ := list m cs us hl (fun i a u x y => ih i a u x y (AV.noRefs_mem.1 (by simpa [AV.noRef] using hr) a (List.mem_of_getElem? x)))
    exact ⟨.agg Ts, by simp [HT.value, e1], by simp [HT.erase, e2], by simp [HT.blocks, e3], .agg Ts e4⟩
  | @tup m cs us hl _ ih =>
    obtain ⟨Ts, e1, e2, e3, e4⟩ := list m cs us hl (fun i a u x y => ih i a u x y (AV.noRefs_mem.1 (by simpa [AV.noRef] using hr) a (List.mem_of_getElem? x)))
    exact ⟨.tup Ts, by simp [HT.value, e1], by simp [HT.erase, e2], by simp [HT.blocks, e3], .tup Ts e4⟩
  | fn f cs us hl h ih =>
    have hr' : AV.noRefs cs = true := by simpa [AV.noRef] using hr
    exact ⟨.leaf _ _, rfl, rfl, rfl, .leaf _ _ (by simpa [AV.leafOk] using hr') (.fn f cs us hl (fun i a u x y => (h i a u x y).free (AV.noRefs_mem.1 hr' a (List.mem_of_getElem? x))))⟩
  | sl => simp [AV.noRef] at hr
  | ptr => simp [AV.noRef] at hr

/-- A value is taken out of the state, with all that belongs to it. -/
def CloseJ (E : Env) (s : ASt) (v A : AV) (s' : ASt) : Prop :=
  ∀ M G a w, RelX E M G s a w → ∀ u, VR w G M v u → ∃ M' T, RelX E M' G s' a w ∧ HT.value T = u ∧ HT.erase T = A ∧ Sat w G T ∧ T.blocks.Nodup ∧
    (∀ x ∈ T.blocks, (∃ q0 T0, M q0 = some T0 ∧ x ∈ T0.blocks) ∧ (∀ q T', M' q = some T' → x ∉ T'.blocks) ∧ x < w.heap.size ∧ ¬ G x ∧ (E.w0.heap.size ≤ x ∨ E.X x)) ∧ (∀ v u, VR w G M v u → VR w G M' v u) ∧
    (∀ q T', M' q = some T' → ∀ x ∈ T'.blocks, ∃ q0 T0, M q0 = some T0 ∧ x ∈ T0.blocks)
def CloseLJ (E : Env) (s : ASt) (vs As : List AV) (s' : ASt) : Prop :=
  ∀ M G a w, RelX E M G s a w → ∀ us : List Value, us.length = vs.length → (∀ (i : Nat) (v : AV) (u : Value), vs[i]? = some v → us[i]? = some u → VR w G M v u) → ∃ M' Ts, RelX E M' G s' a w ∧ HT.values Ts = us ∧ HT.erases Ts = As ∧
    (∀ (i : Nat) (T : HT), Ts[i]? = some T → Sat w G T) ∧ (HT.blockss Ts).Nodup ∧
    (∀ x ∈ HT.blockss Ts, (∃ q0 T0, M q0 = some T0 ∧ x ∈ T0.blocks) ∧ (∀ q T', M' q = some T' → x ∉ T'.blocks) ∧ x < w.heap.size ∧ ¬ G x ∧ (E.w0.heap.size ≤ x ∨ E.X x)) ∧ (∀ v u, VR w G M v u → VR w G M' v u) ∧
    (∀ q T', M' q = some T' → ∀ x ∈ T'.blocks, ∃ q0 T0, M q0 = some T0 ∧ x ∈ T0.blocks)

theorem close_free {E : Env} {s : ASt} {v : AV} (h : v.noRef = true) : CloseJ E s v v s := fun M G a w hX u hv => by
  obtain ⟨T, h1, h2, h3, h4⟩ := hv.tree h
  exact ⟨M, T, hX, h1, h2, h4, by simp [h3], by simp [h3], fun _ _ h => h, fun q T' hq x hx => ⟨q, T', hq, hx⟩⟩

theorem close_nil {E : Env} {s : ASt} : CloseLJ E s [] [] s := fun M G a w hX us hl hv => by
  have : us = [] := by simpa using hl
  subst this
  exact ⟨M, [], hX, by simp [HT.values], by simp [HT.erases], by simp, by simp [HT.blockss], by simp [HT.blockss], fun _ _ h => h, fun q T' hq x hx => ⟨q, T', hq, hx⟩⟩
theorem close_cons {E : Env} {s s' s'' : ASt} {v A : AV} {vs As : List AV} (h : CloseJ E s v A s') (hs : CloseLJ E s' vs As s'') : CloseLJ E s (v :: vs) (A :: As) s'' := fun M G a w hX us hl hv => by
  cases us with
  | nil => simp at hl
  | cons u us =>
    obtain ⟨M1, T, hX1, e1, e2, e3, e4, e5, e6, e7⟩ := h M G a w hX u (hv 0 v u rfl rfl)
    obtain ⟨M2, Ts, hX2, f1, f2, f3, f4, f5, f6, f7⟩ := hs M1 G a w hX1 us (by simpa using hl) (fun i v' u' h1 h2 => e6 _ _ (hv (i + 1) v' u' (by simpa using h1) (by simpa using h2)))
    refine ⟨M2, T :: Ts, hX2, by simp [HT.values, e1, f1], by simp [HT.erases, e2, f2], fun i T' hT' => ?_, ?_, fun x hx => ?_, fun v u h => f6 _ _ (e6 _ _ h), fun q T' hq x hx => ?_⟩
    · cases i with
      | zero => simp at hT'; exact hT' ▸ e3
      | succ i => exact f3 i T' (by simpa using hT')
    · simp only [HT.blockss, List.nodup_append]
      refine ⟨e4, f4, fun x hx y hy hxy => ?_⟩
      subst hxy
      -- what the rest took lay in a region of M1
      obtain ⟨q0, T0, h1, h2⟩ := (f5 x hy).1
      exact (e5 x hx).2.1 q0 T0 h1 h2
    · simp only [HT.blockss, List.mem_append] at hx
      rcases hx with hx | hx
      · refine ⟨(e5 x hx).1, fun q T' hq hx' => ?_, (e5 x hx).2.2⟩
        obtain ⟨q0, T0, h1, h2⟩ := f7 q T' hq x hx'
        exact (e5 x hx).2.1 q0 T0 h1 h2
      · obtain ⟨⟨q0, T0, h1, h2⟩, h3⟩ := f5 x hx
        exact ⟨e7 q0 T0 h1 x h2, h3⟩
    · obtain ⟨q1, T1, h1, h2⟩ := f7 q T' hq x hx
      exact e7 q1 T1 h1 x h2


theorem take_some {α : Type} {l : List α} {n i : Nat} {a : α} (h : (l.take n)[i]? = some a) : l[i]? = some a := by
  rw [List.getElem?_take] at h
  split at h
  · exact h
  · cases h
/-- A row of the call's own, whole or its beginning. -/
theorem close_sl {E : Env} {s : ASt} {r : Nat} {p : List Nat} {len : Nat} {A : AV} {sz n : Nat} {cs : List AV} (hm : s.m r = some A) (hp : A.at_ p = some (.row true sz n cs)) (hl : len ≤ n) :
    CloseJ E s (.sl r p 0 len) (.row true sz len (cs.take (len * sz))) (s.updM r p .junk) := fun M G a w hX u hv => by
  have hr := hX.er r
  rw [hm] at hr
  cases hMr : M r with
  | none => rw [hMr] at hr; cases hr
  | some T =>
    rw [hMr, Option.map_some, Option.some.injEq] at hr
    subst hr
    have hsT := hX.sat r T hMr
    obtain ⟨N, hN, heN⟩ := erase_at p hsT hp
    obtain ⟨h1, h2, h3, h4⟩ := hX.take hMr hN
    have hmono : ∀ v u, VR w G M v u → VR w G (updF M r (some (T.upd p (.leaf .junk N.value)))) v u := fun v u h => h.heads (fun q p' T' M' hT' hM' hm' => by
      simp only [updF] at hT'
      split at hT'
      · rename_i e; subst e; cases hT'
        obtain ⟨M1, g1, g2⟩ := Heads.upd p hN (Heads.leaf (fun _ => False) N .junk N.value) p' M' (by simp) hM' hm'
        exact ⟨T, M1, hMr, g1, g2⟩
      · exact ⟨T', M', hT', hM', rfl⟩)
    have hback : ∀ q T', updF M r (some (T.upd p (.leaf .junk N.value))) q = some T' → ∀ x ∈ T'.blocks, ∃ q0 T0, M q0 = some T0 ∧ x ∈ T0.blocks := fun q T' hq x hx => by
      simp only [updF] at hq
      split at hq
      · cases hq
        rcases mem_blocks_upd p hN (hX.nd r T hMr) x hx with g | ⟨g, _⟩
        · simp [HT.blocks] at g
        · exact ⟨r, T, hMr, g⟩
      · exact ⟨q, T', hq, hx⟩
    cases N with
    | row b sz' n' cap cs' =>
      simp only [HT.erase, AV.row.injEq, true_and, HT.erases_eq] at heN
      obtain ⟨rfl, rfl, rfl⟩ := heN
      cases hv with
      | sl _ _ _ _ _ h h0 =>
        obtain ⟨Ad, c, rfl, hlc, hcap, hA, hA0⟩ := h T hMr b sz' n' cap cs' hN (by omega)
        obtain ⟨rfl, rfl⟩ := hA0 rfl
        cases h2 with
        | row _ _ _ _ _ C e g1 g2 g3 g4 g5 g6 g7 g8 =>
          have hlen : len * sz' ≤ cs'.length := by rw [g2]; exact Nat.mul_le_mul_right _ hl
          have hsub : ∀ x ∈ HT.blockss (cs'.take (len * sz')), x ∈ HT.blockss cs' := fun x hx => by
            rw [HT.blockss_eq, List.mem_flatMap] at hx ⊢
            obtain ⟨y, hy, hxy⟩ := hx
            exact ⟨y, List.mem_of_mem_take hy, hxy⟩
          have hnd : (HT.blockss (cs'.take (len * sz'))).Nodup := by
            have hnd' : (HT.blockss cs').Nodup := (List.nodup_cons.1 (by simpa only [HT.blocks] using h3)).2
            rw [HT.blockss_eq] at hnd' ⊢
            rw [← List.take_append_drop (len * sz') cs', List.flatMap_append] at hnd'
            exact (List.nodup_append.1 hnd').1
          refine ⟨_, .row b sz' len c (cs'.take (len * sz')), h1, rfl, ?_, ?_, ?_, fun x hx => ?_, hmono, hback⟩
          · simp only [HT.erase, HT.erases_eq, List.map_take]
          · refine .row b sz' len c _ C e g1 ?_ (by omega) g4 g5 g6 (fun i T' hT' => ?_) (fun i T' hT' => ?_)
            · rw [List.length_take]; omega
            · exact g7 i T' (take_some hT')
            · exact g8 i T' (take_some hT')
          · simp only [HT.blocks, List.nodup_cons]
            refine ⟨fun hx => ?_, hnd⟩
            have := (List.nodup_cons.1 (by simpa only [HT.blocks] using h3)).1
            exact this (hsub _ hx)
          · have hx' : x ∈ (HT.row b sz' n' c cs').blocks := by
              simp only [HT.blocks, List.mem_cons] at hx ⊢
              exact hx.imp id (hsub x)
            exact ⟨⟨r, T, hMr, at_blocks p hN x hx'⟩, h4 x hx'⟩
    | nilrow sz' =>
      simp only [HT.erase, AV.row.injEq, true_and] at heN
      obtain ⟨rfl, rfl, rfl⟩ := heN
      cases hv with
      | sl _ _ _ _ _ h h0 =>
        have hl0 : len = 0 := by omega
        subst hl0
        obtain rfl := h0 T hMr sz' hN (by omega)
        exact ⟨_, .nilrow sz', h1, rfl, by simp [HT.erase], .nilrow sz', by simp [HT.blocks], by simp [HT.blocks], hmono, hback⟩
    | leaf a' v' =>
      simp only [HT.erase] at heN
      subst heN
      cases h2 with
      | leaf _ _ ha _ => simp [AV.leafOk] at ha
    | box => simp [HT.erase] at heN
    | agg => simp [HT.erase] at heN
    | tup => simp [HT.erase] at heN

theorem close_agg {E : Env} {s s' : ASt} {vs As : List AV} (h : CloseLJ E s vs As s') : CloseJ E s (.agg vs) (.agg As) s' := fun M G a w hX u hv => by
  cases hv with
  | agg _ us hl hv =>
    obtain ⟨M', Ts, h1, h2, h3, h4, h5, h6, h7, h8⟩ := h M G a w hX us hl hv
    exact ⟨M', .agg Ts, h1, by simp [HT.value, h2], by simp [HT.erase, h3], .agg Ts h4, by simpa [HT.blocks] using h5, by simpa [HT.blocks] using h6, h7, h8⟩
theorem close_tup {E : Env} {s s' : ASt} {vs As : List AV} (h : CloseLJ E s vs As s') : CloseJ E s (.tup vs) (.tup As) s' := fun M G a w hX u hv => by
  cases hv with
  | tup _ us hl hv =>
    obtain ⟨M', Ts, h1, h2, h3, h4, h5, h6, h7, h8⟩ := h M G a w hX us hl hv
    exact ⟨M', .tup Ts, h1, by simp [HT.value, h2], by simp [HT.erase, h3], .tup Ts h4, by simpa [HT.blocks] using h5, by simpa [HT.blocks] using h6, h7, h8⟩


/-! ### Contracts -/
/-- Called with these, the function comes back with that; it turns nothing that was there. -/
def Does (P : Program) (f : FuncId) (args : List AV) (res : AV) : Prop :=
  ∀ (w : World) (G : Nat → Prop) (vs : List Value), (∀ x, G x → x < w.heap.size) → vs.length = args.length →
    (∀ (i : Nat) (a : AV) (v : Value), args[i]? = some a → vs[i]? = some v → VR w G none_ a v) →
    Calls P f vs.toArray w fun e w' => ∃ T : HT, e = .returned T.value ∧ T.erase = res ∧ Ext (fun _ => False) w w' ∧ T.blocks.Nodup ∧ (∀ x ∈ T.blocks, w.heap.size ≤ x ∧ x < w'.heap.size) ∧
      ∃ G' : Nat → Prop, (∀ x, G x → G' x) ∧ (∀ x, G' x → G x ∨ (w.heap.size ≤ x ∧ x < w'.heap.size)) ∧ (∀ x ∈ T.blocks, ¬ G' x) ∧ Sat w' G' T

/-- What stands in the result slots, taken out. -/
def RetJ (E : Env) (fn : Func) (res : AV) (s : ASt) : Prop :=
  ∀ M G a w, RelX E M G s a w → ∃ T : HT, (results fn a.tmps).run E.P w = .ok T.value w ∧ T.erase = res ∧ Sat w G T ∧ T.blocks.Nodup ∧
    (∀ x ∈ T.blocks, x < w.heap.size ∧ ¬ G x ∧ (E.w0.heap.size ≤ x ∨ E.X x))

def startT (args : List AV) : ASt := ⟨fun i => (args[i]?).getD .junk, fun _ => none⟩
def retK (E : Env) (fn : Func) (res : AV) : AX → ASt → Prop
  | .nm, s => RetJ E fn res s
  | .rt, s => RetJ E fn res s
  | _, _ => False

theorem Does.of {P : Program} {f : FuncId} {fn : Func} {c : Code} {args : List AV} {res : AV} (hf : P.funcs[f]? = some fn) (hb : fn.body = some c) (hn : args.length ≤ fn.ntmps) (hn1 : fn.ntmps ≤ 1000) (hfree : ∀ a ∈ args, a.noRef = true)
    (h : ∀ E : Env, E.P = P → E.nt = fn.ntmps → AWP E c (retK E fn res) (startT args)) : Does P f args res := by
  intro w G vs hG hl hv
  refine calls_of_wp hf hb ?_
  let E : Env := ⟨P, G, fun _ => False, w, fn.ntmps, fun _ => none⟩
  have hsize : (vs.toArray ++ Array.replicate (fn.ntmps - vs.toArray.size) undef).size = fn.ntmps := by simp; omega
  have hX : RelX E none_ G (startT args) { tmps := vs.toArray ++ Array.replicate (fn.ntmps - vs.toArray.size) undef, defers := [] } w := by
    refine ⟨fun r => rfl, fun r T hT => (by cases hT), fun r T hT => (by cases hT), fun r r' T T' _ hT => (by cases hT), fun r T hT => (by cases hT), fun x hx => ⟨hG x hx, .inl hx⟩, fun x hx => hx, fun i => ?_, Ext.refl _ _, rfl, hsize, hn1, fun r v hv => (by cases hv)⟩
    simp only [startT]
    cases ha : args[i]? with
    | none => exact .junk _
    | some a =>
      have hi : i < vs.length := by rw [hl]; exact (List.getElem?_eq_some_iff.1 ha).1
      have : (vs.toArray ++ Array.replicate (fn.ntmps - vs.toArray.size) undef).getD i undef = vs[i] := by
        rw [Array.getD_eq_getD_getElem?, Array.getElem?_append_left (by simpa using hi)]
        simp [hi]
      rw [this]
      simp only [Option.getD_some]
      exact hv i a _ ha (List.getElem?_eq_getElem hi)
  have hret : ∀ s a w', Rel E s a w' → RetJ E fn res s → a.defers = [] ∧ ∃ v, (results fn a.tmps).run P w' = .ok v w' ∧ ∃ T : HT, Ending.returned v = .returned T.value ∧ T.erase = res ∧ Ext (fun _ => False) w w' ∧ T.blocks.Nodup ∧ (∀ x ∈ T.blocks, w.heap.size ≤ x ∧ x < w'.heap.size) ∧
      ∃ G' : Nat → Prop, (∀ x, G x → G' x) ∧ (∀ x, G' x → G x ∨ (w.heap.size ≤ x ∧ x < w'.heap.size)) ∧ (∀ x ∈ T.blocks, ¬ G' x) ∧ Sat w' G' T := by
    rintro s a w' ⟨M', G', hX'⟩ hr
    obtain ⟨T, h1, h2, h3, h4, h5⟩ := hr M' G' a w' hX'
    exact ⟨hX'.df, T.value, h1, T, rfl, h2, hX'.ext, h4, fun x hx => ⟨(h5 x hx).2.2.resolve_right (fun h => h), (h5 x hx).1⟩, G', hX'.g0, fun x hx => (hX'.gd x hx).2.imp id (fun h => ⟨h, (hX'.gd x hx).1⟩), fun x hx => (h5 x hx).2.1, h3⟩
  refine wp_mono (h E rfl rfl _ w ⟨_, _, hX⟩) (fun e a w' hp => ?_)
  cases e with
  | normal => obtain ⟨s, h1, h2⟩ := hp; exact hret s a w' h1 h2
  | ret => obtain ⟨s, h1, h2⟩ := hp; exact hret s a w' h1 h2
  | exit i => obtain ⟨s, h1, h2⟩ := hp; exact h2.elim
  | goto l => exact hp.elim
  | panic ch => exact hp.elim
  | outgrown => exact hp.elim

end Go.Av
end
section
set_option linter.unusedSimpArgs false
set_option linter.unusedVariables false
/-! Calls. -/
namespace Go.Av

mutual
/-- What nobody will write any more. -/
def AV.share : AV → AV
  | .row _ sz n cs => .row false sz n (AV.shares cs)
  | .box _ cs => .box false (AV.shares cs)
  | .agg cs => .agg (AV.shares cs)
  | .tup cs => .tup (AV.shares cs)
  | .fn f cs => .fn f cs
  | .lit v => .lit v
  | .junk => .junk
  | .sl r p o l => .sl r p o l
  | .ptr r p o => .ptr r p o
def AV.shares : List AV → List AV
  | [] => []
  | c :: r => AV.share c :: AV.shares r
end
theorem AV.shares_eq (cs : List AV) : AV.shares cs = cs.map AV.share := by
  induction cs with
  | nil => simp [AV.shares]
  | cons c r ih => simp [AV.shares, ih]

/-- A leaf holds what is shared to the bottom. -/
theorem VR.shared {w : World} {G : Nat → Prop} {m : Nat → Option HT} {v : AV} {u : Value} (h : VR w G m v u) (hr : v.noRef = true) : VR w G m v.share u ∧ v.share.noRef = true := by
  induction h with
  | lit v => exact ⟨by simp only [AV.share]; exact .lit v, rfl⟩
  | junk v => exact ⟨by simp only [AV.share]; exact .junk v, rfl⟩
  | row0 sz A c => exact ⟨by simp only [AV.share, AV.shares]; exact .row0 sz A c, by simp [AV.share, AV.noRef]⟩
  | row sz n c b off cs us C e fr h1 h2 h3 h4 h5 h6 h7 h8 ih =>
    refine ⟨?_, by simp [AV.share, AV.noRef]⟩
    simp only [AV.share, AV.shares_eq]
    refine .row sz n c b off _ us C e fr h1 h2 (by simpa using h3) h4 h5 (by simpa using h6) (fun a ha => ?_) (fun i a ha => ?_)
    · rw [List.mem_map] at ha
      obtain ⟨y, hy, rfl⟩ := ha
      obtain ⟨i, hi⟩ := List.getElem?_of_mem hy
      exact (ih i y hi (h7 y hy)).2
    · rw [List.getElem?_map] at ha
      cases hc : cs[i]? with
      | none => simp [hc] at ha
      | some y => simp only [hc, Option.map_some, Option.some.injEq] at ha; subst ha; exact (ih i y hc (h7 y (List.mem_of_getElem? hc))).1
  | box b off cs us C e fr h1 h2 h6 h7 h8 ih =>
    refine ⟨?_, by simp [AV.share, AV.noRef]⟩
    simp only [AV.share, AV.shares_eq]
    refine .box b off _ us C e fr h1 h2 (by simpa using h6) (fun a ha => ?_) (fun i a ha => ?_)
    · rw [List.mem_map] at ha
      obtain ⟨y, hy, rfl⟩ := ha
      obtain ⟨i, hi⟩ := List.getElem?_of_mem hy
      exact (ih i y hi (h7 y hy)).2
    · rw [List.getElem?_map] at ha
      cases hc : cs[i]? with
      | none => simp [hc] at ha
      | some y => simp only [hc, Option.map_some, Option.some.injEq] at ha; subst ha; exact (ih i y hc (h7 y (List.mem_of_getElem? hc))).1
  | agg cs us hl _ ih =>
    have hr' : AV.noRefs cs = true := by simpa [AV.noRef] using hr
    have hm := AV.noRefs_mem.1 hr'
    simp only [AV.share, AV.shares_eq]
    refine ⟨.agg _ us (by simpa using hl) (fun i a u x y => ?_), ?_⟩
    · rw [List.getElem?_map] at x
      cases hc : cs[i]? with
      | none => simp [hc] at x
      | some z => simp only [hc, Option.map_some, Option.some.injEq] at x; subst x; exact (ih i z u hc y (hm z (List.mem_of_getElem? hc))).1
    · simp only [AV.noRef]
      refine AV.noRefs_mem.2 (fun a ha => ?_)
      rw [List.mem_map] at ha
      obtain ⟨y, hy, rfl⟩ := ha
      obtain ⟨i, hi⟩ := List.getElem?_of_mem hy
      have hiu : i < us.length := by have := (List.getElem?_eq_some_iff.1 hi).1; omega
      exact (ih i y us[i] hi (List.getElem?_eq_getElem hiu) (hm y hy)).2
  | tup cs us hl _ ih =>
    have hr' : AV.noRefs cs = true := by simpa [AV.noRef] using hr
    have hm := AV.noRefs_mem.1 hr'
    simp only [AV.share, AV.shares_eq]
    refine ⟨.tup _ us (by simpa using hl) (fun i a u x y => ?_), ?_⟩
    · rw [List.getElem?_map] at x
      cases hc : cs[i]? with
      | none => simp [hc] at x
      | some z => simp only [hc, Option.map_some, Option.some.injEq] at x; subst x; exact (ih i z u hc y (hm z (List.mem_of_getElem? hc))).1
    · simp only [AV.noRef]
      refine AV.noRefs_mem.2 (fun a ha => ?_)
      rw [List.mem_map] at ha
      obtain ⟨y, hy, rfl⟩ := ha
      obtain ⟨i, hi⟩ := List.getElem?_of_mem hy
      have hiu : i < us.length := by have := (List.getElem?_eq_some_iff.1 hi).1; omega
      exact (ih i y us[i] hi (List.getElem?_eq_getElem hiu) (hm y hy)).2
  | fn f cs us hl h ih => exact ⟨by simp only [AV.share]; exact .fn f cs us hl h, by simpa [AV.share] using hr⟩
  | sl => simp [AV.noRef] at hr
  | ptr => simp [AV.noRef] at hr

theorem leafOk_noRef {a : AV} (h : a.leafOk = true) : a.noRef = true := by
  cases a with
  | row o sz n cs => cases o <;> simp_all [AV.leafOk, AV.noRef]
  | box o cs => cases o <;> simp_all [AV.leafOk, AV.noRef]
  | fn f cs => simpa [AV.leafOk, AV.noRef] using h
  | _ => simp_all [AV.leafOk, AV.noRef]

/-- All that belongs to a tree is given up for good: it then reads as what nobody writes. -/
theorem Sat.share {w : World} {G G' : Nat → Prop} {T : HT} (h : Sat w G T) (hG : ∀ x, G x → G' x) (hb : ∀ x ∈ T.blocks, G' x) (m : Nat → Option HT) : VR w G' m T.erase.share T.value ∧ T.erase.share.noRef = true := by
  induction h generalizing m with
  | leaf a v ha h =>
    have hr := leafOk_noRef ha
    exact (((h.congr (fun _ _ => rfl) hG).free hr).shared hr)
  | row b sz n cap cs C e h1 h2 h3 h4 h5 h6 h7 h8 ih =>
    simp only [HT.blocks, HT.blockss_eq, List.mem_cons, List.mem_flatMap] at hb
    refine ⟨?_, by simp [HT.erase, AV.share, AV.noRef]⟩
    simp only [HT.erase, HT.erases_eq, AV.share, AV.shares_eq, HT.value]
    refine .row sz n cap b 0 _ (fun i => C.getD i undef) C e (0, 0) (hb b (.inl rfl)) h1 (by simpa using h2) h3 (by omega) (fun i hi => ?_) (fun a ha => ?_) (fun i a ha => ?_)
    · have hi' : i < cs.length := by simpa using hi
      have := h7 i cs[i] (List.getElem?_eq_getElem hi')
      simp [this]
    · rw [List.mem_map] at ha
      obtain ⟨y, hy, rfl⟩ := ha
      rw [List.mem_map] at hy
      obtain ⟨z, hz, rfl⟩ := hy
      obtain ⟨i, hi⟩ := List.getElem?_of_mem hz
      exact (ih i z hi (fun x hx => hb x (.inr ⟨z, hz, hx⟩)) m).2
    · rw [List.getElem?_map, List.getElem?_map] at ha
      cases hc : cs[i]? with
      | none => simp [hc] at ha
      | some z =>
        simp only [hc, Option.map_some, Option.some.injEq] at ha; subst ha
        have := h7 i z hc
        simp only [Array.getD_eq_getD_getElem?, this, Option.getD_some]
        exact (ih i z hc (fun x hx => hb x (.inr ⟨z, List.mem_of_getElem? hc, hx⟩)) _).1
  | nilrow sz => exact ⟨by simp only [HT.erase, AV.share, AV.shares, HT.value]; exact .row0 sz none 0, by simp [HT.erase, AV.share, AV.noRef]⟩
  | box b cs C e h1 h2 h7 h8 ih =>
    simp only [HT.blocks, HT.blockss_eq, List.mem_cons, List.mem_flatMap] at hb
    refine ⟨?_, by simp [HT.erase, AV.share, AV.noRef]⟩
    simp only [HT.erase, HT.erases_eq, AV.share, AV.shares_eq, HT.value]
    refine .box b 0 _ (fun i => C.getD i undef) C e (0, 0) (hb b (.inl rfl)) h1 (fun i hi => ?_) (fun a ha => ?_) (fun i a ha => ?_)
    · have hi' : i < cs.length := by simpa using hi
      have := h7 i cs[i] (List.getElem?_eq_getElem hi')
      simp [this]
    · rw [List.mem_map] at ha
      obtain ⟨y, hy, rfl⟩ := ha
      rw [List.mem_map] at hy
      obtain ⟨z, hz, rfl⟩ := hy
      obtain ⟨i, hi⟩ := List.getElem?_of_mem hz
      exact (ih i z hi (fun x hx => hb x (.inr ⟨z, hz, hx⟩)) m).2
    · rw [List.getElem?_map, List.getElem?_map] at ha
      cases hc : cs[i]? with
      | none => simp [hc] at ha
      | some z =>
        simp only [hc, Option.map_some, Option.some.injEq] at ha; subst ha
        have := h7 i z hc
        simp only [Array.getD_eq_getD_getElem?, this, Option.getD_some]
        exact (ih i z hc (fun x hx => hb x (.inr ⟨z, List.mem_of_getElem? hc, hx⟩)) _).1
  | agg cs h8 ih =>
    simp only [HT.blocks, HT.blockss_eq, List.mem_flatMap] at hb
    simp only [HT.erase, HT.erases_eq, AV.share, AV.shares_eq, HT.value, HT.values_eq, AV.noRef]
    refine ⟨.agg _ _ (by simp) (fun i a u x y => ?_), AV.noRefs_mem.2 (fun a ha => ?_)⟩
    · rw [List.getElem?_map, List.getElem?_map] at x
      rw [List.getElem?_map] at y
      cases hc : cs[i]? with
      | none => simp [hc] at x
      | some z =>
        simp only [hc, Option.map_some, Option.some.injEq] at x y; subst x; subst y
        exact (ih i z hc (fun x hx => hb x ⟨z, List.mem_of_getElem? hc, hx⟩) m).1
    · rw [List.mem_map] at ha
      obtain ⟨y, hy, rfl⟩ := ha
      rw [List.mem_map] at hy
      obtain ⟨z, hz, rfl⟩ := hy
      obtain ⟨i, hi⟩ := List.getElem?_of_mem hz
      exact (ih i z hi (fun x hx => hb x ⟨z, hz, hx⟩) m).2
  | tup cs h8 ih =>
    simp only [HT.blocks, HT.blockss_eq, List.mem_flatMap] at hb
    simp only [HT.erase, HT.erases_eq, AV.share, AV.shares_eq, HT.value, HT.values_eq, AV.noRef]
    refine ⟨.tup _ _ (by simp) (fun i a u x y => ?_), AV.noRefs_mem.2 (fun a ha => ?_)⟩
    · rw [List.getElem?_map, List.getElem?_map] at x
      rw [List.getElem?_map] at y
      cases hc : cs[i]? with
      | none => simp [hc] at x
      | some z =>
        simp only [hc, Option.map_some, Option.some.injEq] at x y; subst x; subst y
        exact (ih i z hc (fun x hx => hb x ⟨z, List.mem_of_getElem? hc, hx⟩) m).1
    · rw [List.mem_map] at ha
      obtain ⟨y, hy, rfl⟩ := ha
      rw [List.mem_map] at hy
      obtain ⟨z, hz, rfl⟩ := hy
      obtain ⟨i, hi⟩ := List.getElem?_of_mem hz
      exact (ih i z hi (fun x hx => hb x ⟨z, hz, hx⟩) m).2

/-- A value comes into a slot; the world has grown, and some of what is new is for all. -/
theorem RelX.setG {E : Env} {M : Nat → Option HT} {G G' : Nat → Prop} {s : ASt} {a : Act} {w w' : World} (h : RelX E M G s a w) {d : Nat} (hd : d < E.nt) {v : AV} {u : Value}
    (hw : Ext (fun _ => False) w w') (hGG : ∀ x, G x → G' x) (hG' : ∀ x, G' x → G x ∨ (w.heap.size ≤ x ∧ x < w'.heap.size)) (hv : VR w' G' M v u) : RelX E M G' (s.set d v) (a.put (some d) u) w' := by
  have hb : ∀ b, b < w.heap.size → w'.heap[b]? = w.heap[b]? := fun b hb => hw.block b hb (fun h => h)
  refine ⟨h.er, fun r T hT => (h.sat r T hT).congr (fun b hx => hb b (h.own r T hT b hx).1) (fun b hx => hb b (h.gd b hx).1) hGG, h.nd, h.dj, fun r T hT x hx => ?_, fun x hx => ?_, fun x hx => hGG x (h.g0 x hx), fun i => ?_, ?_, h.df, ?_, h.n1, h.pv⟩
  · obtain ⟨h1, h2, h3⟩ := h.own r T hT x hx
    exact ⟨Nat.lt_of_lt_of_le h1 hw.size, fun hg => (hG' x hg).elim h2 (fun h4 => by omega), h3⟩
  · rcases hG' x hx with hg | ⟨h1, h2⟩
    · obtain ⟨h1, h2⟩ := h.gd x hg
      exact ⟨Nat.lt_of_lt_of_le h1 hw.size, h2⟩
    · exact ⟨h2, .inr (Nat.le_trans h.ext.size h1)⟩
  · rw [put_getD a d i u (by rw [h.nt]; exact hd)]
    simp only [ASt.set]
    split
    · exact hv
    · exact (h.sl i).congr (fun b hx => hb b (h.gd b hx).1) hGG
  · exact h.ext.trans hw (fun i _ hi => hi.elim)
  · simp [put_some, h.nt]

/-- Has the function a text of its own? -/
def entB (P : Program) (f : FuncId) : Bool := match P.funcs[f]? with
  | some fn => fn.name != "runtime.NumGoroutine" && fn.body.isSome
  | none => false
theorem callFunc_of {P : Program} {f : FuncId} (h : entB P f = true) (args : Array Value) (w : World) : (callFunc f args).run P w = .ok (.enter f args) w := by
  unfold entB at h
  split at h
  · rename_i fn hf
    simp only [Bool.and_eq_true, bne_iff_ne, ne_eq] at h
    obtain ⟨h1, h2⟩ := h
    have hb : fn.body.isNone = false := by cases hb : fn.body <;> simp_all
    simp [callFunc, hf, h1, hb]
    intro hn; simp [hn] at h2
  · cases h

section
variable {E : Env} {s : ASt} {d : Nat} {t : TypeId} {pos : String} {after : Array Edge} {g : Option (Nat × Bool)}

theorem args_vr {M : Nat → Option HT} {G : Nat → Prop} {s' : ASt} {a : Act} {w : World} (hX : RelX E M G s' a w) (hle : Le s s') (xs : List Operand) (as : List AV) (ha : xs.map s.ev = as) (hr : AV.noRefs as = true) :
    (xs.map a.eval).length = as.length ∧ ∀ (i : Nat) (A : AV) (v : Value), as[i]? = some A → (xs.map a.eval)[i]? = some v → VR w G none_ A v := by
  subst ha
  refine ⟨by simp, fun i A v h1 h2 => ?_⟩
  have hA := AV.noRefs_mem.1 hr A (List.mem_of_getElem? h1)
  rw [List.getElem?_map] at h1 h2
  cases hx : xs[i]? with
  | none => simp [hx] at h1
  | some x =>
    simp only [hx, Option.map_some, Option.some.injEq] at h1 h2
    subst h1; subst h2
    exact (hX.evLe hle x).free hA

/-- A call of a function by its contract; what it gives is for all to read. -/
theorem q_call {fo : Operand} {f : FuncId} {caps : List AV} {xs : List Operand} {ts : Array TypeId} {as : List AV} {res : AV} (hn : d < E.nt) (hf : s.ev fo = .fn f caps) (he : entB E.P f = true) (ha : xs.map s.ev ++ caps = as) (hr : AV.noRefs as = true)
    (hd : Does E.P f as res) : QJ E ⟨some d, .call { callee := .value fo, args := xs.toArray, argTypes := ts }, t, pos, after, g⟩ s res.share none := by
  rintro s' hle a w ⟨M, G, hX⟩
  have hcl : ∀ l1 l2 : List AV, AV.noRefs (l1 ++ l2) = true → AV.noRefs l1 = true ∧ AV.noRefs l2 = true := fun l1 l2 h => by
    rw [AV.noRefs_mem] at h; exact ⟨AV.noRefs_mem.2 fun a ha => h a (by simp [ha]), AV.noRefs_mem.2 fun a ha => h a (by simp [ha])⟩
  obtain ⟨hr1, hr2⟩ := hcl _ _ (by rw [ha]; exact hr)
  obtain ⟨hl, hv⟩ := args_vr hX hle xs _ rfl hr1
  have hfv := hX.evLe hle fo
  rw [hf] at hfv
  generalize hfe : a.eval fo = fv at hfv
  cases hfv with
  | fn _ _ us hul huv =>
    have hrun : (execOp a.eval ⟨some d, .call { callee := .value fo, args := xs.toArray, argTypes := ts }, t, pos, after, g⟩).run E.P w = .ok (.enter f (xs.map a.eval ++ us).toArray) w := by
      simp [execOp, resolve, hfe, Deferred.ofValue, invoke, callFunc_of he]
    unfold Oper.wp
    rw [hrun]
    simp only [Oper.upon]
    refine (hd w G (xs.map a.eval ++ us) (fun x hx => (hX.gd x hx).1) (by rw [← ha]; simp [hul]) (fun i A v h1 h2 => ?_)).mono ?_
    · rw [← ha] at h1
      by_cases hi : i < (xs.map s.ev).length
      · rw [List.getElem?_append_left hi] at h1
        rw [List.getElem?_append_left (by simpa using hi)] at h2
        exact hv i A v h1 h2
      · rw [List.getElem?_append_right (by omega)] at h1
        rw [List.getElem?_append_right (by simpa using hi)] at h2
        simp only [List.length_map] at h1 h2
        exact (huv _ A v h1 h2).free (AV.noRefs_mem.1 hr2 A (List.mem_of_getElem? h1))
    · rintro e w' ⟨T, rfl, rfl, hw, hnd, hb, G', hGG, hG', hnG, hT⟩
      simp only [put]
      refine ⟨M, fun x => G' x ∨ x ∈ T.blocks, hX.setG hn hw (fun x hx => .inl (hGG x hx)) (fun x hx => hx.elim (hG' x) (fun h => .inr (hb x h))) (hT.share (fun x hx => .inl hx) (fun x hx => .inr hx) M).1⟩
end

end Go.Av
end
section
set_option linter.unusedSimpArgs false
set_option linter.unusedVariables false
/-! Memory of the call's own: what lies there, what is written. -/
namespace Go.Av

def nodeOf (s : ASt) (r : Nat) (p : List Nat) : Option AV := (s.m r).bind (·.at_ p)
def cellsOf : Option AV → List AV
  | some (.row true _ _ cs) => cs
  | some (.box true cs) => cs
  | _ => []
def memN : Option AV → Bool
  | some (.row true _ _ _) => true
  | some (.box true _) => true
  | _ => false
/-- What a cell that belongs to place 'p' of region 'r' gives to who reads it. -/
def openC (r : Nat) (p : List Nat) : AV → AV
  | .row true _ n _ => .sl r p 0 n
  | .box true _ => .ptr r p 0
  | .sl _ _ _ _ => .junk
  | .ptr _ _ _ => .junk
  | .agg _ => .junk
  | .tup _ => .junk
  | a => a
def openCs (r : Nat) (p : List Nat) : Nat → List AV → List AV
  | _, [] => []
  | o, c :: l => openC r (p ++ [o]) c :: openCs r p (o + 1) l
def setN (o : Nat) (v : AV) : Option AV → AV
  | some (.row true sz n cs) => .row true sz n (cs.set o v)
  | some (.box true cs) => .box true (cs.set o v)
  | _ => .junk

theorem nodeOf_spec {E : Env} {M : Nat → Option HT} {G : Nat → Prop} {s : ASt} {a : Act} {w : World} (hX : RelX E M G s a w) {r : Nat} {p : List Nat} {A : AV} (h : nodeOf s r p = some A) :
    ∃ T N, M r = some T ∧ T.at_ p = some N ∧ N.erase = A ∧ Sat w G T ∧ Sat w G N := by
  unfold nodeOf at h
  rw [hX.er r] at h
  cases hM : M r with
  | none => rw [hM] at h; cases h
  | some T =>
    rw [hM] at h
    obtain ⟨N, h1, h2⟩ := erase_at p (hX.sat r T hM) h
    exact ⟨T, N, rfl, h1, h2, hX.sat r T hM, (hX.sat r T hM).at_ p h1⟩

theorem Le.node {s s' : ASt} (h : Le s s') {r : Nat} {p : List Nat} {A : AV} (hn : nodeOf s r p = some A) : nodeOf s' r p = some A := by
  unfold nodeOf at *
  cases hm : s.m r with
  | none => rw [hm] at hn; cases hn
  | some T => rw [h.m r T hm]; rw [hm] at hn; exact hn

/-- A node of memory: its block, its cells. -/
theorem memN_spec {w : World} {G : Nat → Prop} {N : HT} (hs : Sat w G N) (h : memN (some N.erase) = true) :
    (∃ sz, N = .nilrow sz) ∨ ∃ b C e, N.ownb = [b] ∧ w.heap[b]? = some (.cells C e (0, 0)) ∧ cellsOf (some N.erase) = N.kids.map HT.erase ∧ N.kids.length ≤ C.size ∧ (∀ (i : Nat) (T : HT), N.kids[i]? = some T → C[i]? = some T.value) ∧ N.isMem = true ∧
      (∀ (o : Nat) (v : AV) (u : Value), o < N.kids.length → setN o v (some N.erase) = (N.withKids (N.kids.set o (.leaf v u))).erase) := by
  cases hs with
  | leaf a v ha h' =>
    exfalso
    cases a with
    | row o sz n cs => cases o <;> simp_all [HT.erase, memN, AV.leafOk]
    | box o cs => cases o <;> simp_all [HT.erase, memN, AV.leafOk]
    | _ => simp_all [HT.erase, memN]
  | row b sz n cap cs C e g1 g2 g3 g4 g5 g6 g7 g8 =>
    refine .inr ⟨b, C, e, rfl, g1, by simp [HT.erase, cellsOf, HT.kids, HT.erases_eq], ?_, g7, rfl, fun o v u ho => ?_⟩
    · simp only [HT.kids, g2, g4]; exact Nat.mul_le_mul_right _ g3
    · simp [HT.erase, setN, HT.withKids, HT.kids, HT.erases_eq, List.map_set]
  | nilrow sz => exact .inl ⟨sz, rfl⟩
  | box b cs C e g1 g2 g7 g8 =>
    refine .inr ⟨b, C, e, rfl, g1, by simp [HT.erase, cellsOf, HT.kids, HT.erases_eq], by simp only [HT.kids, g2]; exact Nat.le_refl _, g7, rfl, fun o v u ho => ?_⟩
    simp [HT.erase, setN, HT.withKids, HT.kids, HT.erases_eq, List.map_set]
  | agg => simp [HT.erase, memN] at h
  | tup => simp [HT.erase, memN] at h

/-- What a pointer into a place is. -/
theorem ptr_val {E : Env} {M : Nat → Option HT} {G : Nat → Prop} {s : ASt} {a : Act} {w : World} (hX : RelX E M G s a w) {r : Nat} {p : List Nat} {o : Nat} {v : Value} (hv : VR w G M (.ptr r p o) v) {T N : HT} (hM : M r = some T) (hN : T.at_ p = some N) {b : Nat} (hb : N.ownb = [b]) :
    v = .pointer (some ⟨b, o, none⟩) := by
  cases hv with
  | ptr _ _ _ _ h h' =>
    cases N with
    | row b' sz n cap cs => simp only [HT.ownb, List.cons.injEq, and_true] at hb; subst hb; exact h T hM _ _ _ _ _ hN
    | box b' cs => simp only [HT.ownb, List.cons.injEq, and_true] at hb; subst hb; exact h' T hM _ _ hN
    | _ => simp [HT.ownb] at hb

theorem at_snoc : ∀ (p : List Nat) {T N c : HT} {i : Nat}, T.at_ p = some N → N.kids[i]? = some c → T.at_ (p ++ [i]) = some c
  | [], T, N, c, i, h, hc => by
    simp only [HT.at_, Option.some.injEq] at h; subst h
    simp [HT.at_, hc]
  | j :: p, T, N, c, i, h, hc => by
    simp only [HT.at_, List.cons_append] at h ⊢
    split at h
    · exact at_snoc p h hc
    · cases h

/-- What is read of a cell. -/
theorem open_val {E : Env} {M : Nat → Option HT} {G : Nat → Prop} {s : ASt} {a : Act} {w : World} (hX : RelX E M G s a w) {r : Nat} {p : List Nat} {T N c : HT} {i : Nat} (hM : M r = some T) (hN : T.at_ p = some N) (hc : N.kids[i]? = some c) (hs : Sat w G c) :
    VR w G M (openC r (p ++ [i]) c.erase) c.value := by
  have hat := at_snoc p hN hc
  cases hs with
  | leaf a v ha h =>
    have hr := leafOk_noRef ha
    have : openC r (p ++ [i]) a = a := by
      cases a with
      | row o sz n cs => cases o <;> simp_all [openC, AV.leafOk]
      | box o cs => cases o <;> simp_all [openC, AV.leafOk]
      | _ => simp_all [openC, AV.leafOk]
    simp only [HT.erase, HT.value, this]
    exact h.free hr
  | row b sz n cap cs C e g1 g2 g3 g4 g5 g6 g7 g8 =>
    simp only [HT.erase, openC, HT.value]
    refine .sl _ _ _ _ _ (fun T' hT' b' sz' n' cap' cs' hN' hle => ?_) (fun T' hT' sz' hN' hle => ?_)
    · rw [hM] at hT'; cases hT'; rw [hat] at hN'; cases hN'
      exact ⟨_, _, rfl, g3, by omega, .inr (by simp), fun _ => ⟨rfl, rfl⟩⟩
    · rw [hM] at hT'; cases hT'; rw [hat] at hN'; cases hN'
  | nilrow sz =>
    simp only [HT.erase, openC, HT.value]
    refine .sl _ _ _ _ _ (fun T' hT' b' sz' n' cap' cs' hN' hle => ?_) (fun T' hT' sz' hN' hle => rfl)
    rw [hM] at hT'; cases hT'; rw [hat] at hN'; cases hN'
  | box b cs C e g1 g2 g7 g8 =>
    simp only [HT.erase, openC, HT.value]
    refine .ptr _ _ _ _ (fun T' hT' b' sz' n' cap' cs' hN' => ?_) (fun T' hT' b' cs' hN' => ?_)
    · rw [hM] at hT'; cases hT'; rw [hat] at hN'; cases hN'
    · rw [hM] at hT'; cases hT'; rw [hat] at hN'; cases hN'; rfl
  | agg => simp only [HT.erase, openC]; exact .junk _
  | tup => simp only [HT.erase, openC]; exact .junk _

section
variable {E : Env} {s : ASt} {d : Nat} {x y : Operand} {t xt : TypeId} {pos : String} {after : Array Edge} {g : Option (Nat × Bool)}

theorem q_loadOwn {r o : Nat} {p : List Nat} (hn : d < E.nt) (ht : agT E.P xt = some false) (hx : s.ev x = .ptr r p o) (hm : memN (nodeOf s r p) = true) (ho : o < (cellsOf (nodeOf s r p)).length) :
    QJ E ⟨some d, .load xt x, t, pos, after, g⟩ s (openC r (p ++ [o]) ((cellsOf (nodeOf s r p)).getD o .junk)) none :=
  .val rfl hn fun s' M G a w hle hX => by
    cases hA : nodeOf s r p with
    | none => rw [hA] at hm; cases hm
    | some A =>
      rw [hA] at hm ho
      obtain ⟨T, N, hM, hN, rfl, hsT, hsN⟩ := nodeOf_spec hX (hle.node hA)
      rcases memN_spec hsN hm with ⟨sz, rfl⟩ | ⟨b, C, e, h1, h2, h3, h4, h5, h6, _⟩
      · simp [HT.erase, cellsOf] at ho
      · rw [h3] at ho ⊢
        have hv := hX.evLe hle x
        rw [hx] at hv
        have hp := ptr_val hX hv hM hN h1
        have hok : o < N.kids.length := by simpa using ho
        have hc : N.kids[o]? = some N.kids[o] := List.getElem?_eq_getElem hok
        have hcell : w.cell? ⟨b, o, none⟩ = some N.kids[o].value := by simp [World.cell?, h2, h5 o _ hc]
        refine ⟨N.kids[o].value, w, by simp [execOp, hp, Instr.loadAt, Instr.sureAddr, loadVar, run_agg ht, hcell], Ext.refl _ _, ?_⟩
        have := open_val hX hM hN hc (hsN.kids o _ hc)
        simpa [List.getD, hok] using this

theorem q_fieldOwn {r o f n off : Nat} {gg : Bool} {p : List Nat} (hn : d < E.nt) (ht : fdT E.P xt f = some (off, n, gg)) (h0 : n ≠ 0) (hx : s.ev x = .ptr r p o) (hm : memN (nodeOf s r p) = true) (hc : (cellsOf (nodeOf s r p)).length ≠ 0) :
    QJ E ⟨some d, .fieldAddr xt x f, t, pos, after, g⟩ s (.ptr r p (o + off)) none :=
  .val rfl hn fun s' M G a w hle hX => by
    cases hA : nodeOf s r p with
    | none => rw [hA] at hm; cases hm
    | some A =>
      rw [hA] at hm hc
      obtain ⟨T, N, hM, hN, rfl, hsT, hsN⟩ := nodeOf_spec hX (hle.node hA)
      rcases memN_spec hsN hm with ⟨sz, rfl⟩ | ⟨b, C, e, h1, h2, h3, h4, h5, h6, _⟩
      · simp [HT.erase, cellsOf] at hc
      · obtain ⟨fs, z, g1, g2, g3, g4, g5⟩ := fdT_spec ht
        have hv := hX.evLe hle x
        rw [hx] at hv
        have hp := ptr_val hX hv hM hN h1
        refine ⟨.pointer (some ⟨b, o + off, none⟩), w, by simp [execOp, hp, Instr.fieldAt, Instr.sureAddr, run_underlying g1, g2, fieldPlace, run_size g4, h0, g3, add0], Ext.refl _ _, ?_⟩
        refine .ptr _ _ _ _ (fun T' hT' b' sz' n' cap' cs' hN' => ?_) (fun T' hT' b' cs' hN' => ?_)
        · rw [hM] at hT'; cases hT'; rw [hN] at hN'; cases hN'; simp only [HT.ownb, List.cons.injEq, and_true] at h1; rw [h1]
        · rw [hM] at hT'; cases hT'; rw [hN] at hN'; cases hN'; simp only [HT.ownb, List.cons.injEq, and_true] at h1; rw [h1]

/-- A row of the call's own at a place. -/
theorem sl_val {M : Nat → Option HT} {G : Nat → Prop} {s' : ASt} {a : Act} {w : World} (hX : RelX E M G s' a w) {r off len sz n : Nat} {p : List Nat} {cs : List AV} {v : Value} (hv : VR w G M (.sl r p off len) v) (hA : nodeOf s' r p = some (.row true sz n cs)) (hl : off + len ≤ n) :
    ∃ A c, v = .slice A len c ∧ (0 < len → ∃ T b cap cs', M r = some T ∧ T.at_ p = some (.row b sz n cap cs') ∧ HT.erases cs' = cs ∧ A = some ⟨b, off * sz, none⟩) := by
  obtain ⟨T, N, hM, hN, he, hsT, hsN⟩ := nodeOf_spec hX hA
  cases hv with
  | sl _ _ _ _ _ h h0 =>
    cases N with
    | row b sz' n' cap cs' =>
      simp only [HT.erase, AV.row.injEq, true_and] at he
      obtain ⟨rfl, rfl, rfl⟩ := he
      obtain ⟨A, c, h1, h2, h3, h4, h5⟩ := h T hM _ _ _ _ _ hN hl
      exact ⟨A, c, h1, fun hlen => ⟨T, b, cap, cs', hM, hN, rfl, h4.resolve_left (by omega)⟩⟩
    | nilrow sz' =>
      simp only [HT.erase, AV.row.injEq, true_and] at he
      obtain ⟨rfl, rfl, rfl⟩ := he
      have : len = 0 := by omega
      exact ⟨none, 0, by rw [h0 T hM _ hN (by omega), this], fun h => absurd h (by omega)⟩
    | leaf a' v' =>
      simp only [HT.erase] at he; subst he
      cases hsN with
      | leaf _ _ ha _ => simp [AV.leafOk] at ha
    | box => simp [HT.erase] at he
    | agg => simp [HT.erase] at he
    | tup => simp [HT.erase] at he

theorem q_indexOwn {r off len sz n : Nat} {p : List Nat} {cs : List AV} {k : IntKind} {i : Int} (hn : d < E.nt) (ht : slT E.P xt = some sz) (hx : s.ev x = .sl r p off len) (hy : s.ev y = .lit (.int k i)) (hA : nodeOf s r p = some (.row true sz n cs)) (hl : off + len ≤ n) (h : 0 ≤ i ∧ i < len) :
    QJ E ⟨some d, .indexAddr xt x y, t, pos, after, g⟩ s (.ptr r p ((off + i.toNat) * sz)) none :=
  .val rfl hn fun s' M G a w hle hX => by
    obtain ⟨e, inf, h1, h2, h3⟩ := slT_spec ht
    have hv := hX.evLe hle x
    rw [hx] at hv
    obtain ⟨A, c, hv, hrow⟩ := sl_val hX hv (hle.node hA) hl
    obtain ⟨T, b, cap, cs', hM, hN, hcs, rfl⟩ := hrow (by omega)
    refine ⟨.pointer (some ⟨b, off * sz + i.toNat * sz, none⟩), w, by simp [execOp, hv, hX.lit hle hy, Instr.indexAt, asIntOf, run_underlying h1, h.1, h.2, sizeOf, typeInfo, h2, h3, add0], Ext.refl _ _, ?_⟩
    refine .ptr _ _ _ _ (fun T' hT' b' sz' n' cap' cs'' hN' => ?_) (fun T' hT' b' cs'' hN' => ?_)
    · rw [hM] at hT'; cases hT'; rw [hN] at hN'; cases hN'; simp [Nat.add_mul]
    · rw [hM] at hT'; cases hT'; rw [hN] at hN'; cases hN'

theorem q_lenOwn {r off len sz sz' n : Nat} {p : List Nat} {cs : List AV} (hn : d < E.nt) (ht : slT E.P xt = some sz') (hx : s.ev x = .sl r p off len) (hA : nodeOf s r p = some (.row true sz n cs)) (hl : off + len ≤ n) :
    QJ E ⟨some d, .call { callee := .builtin .len, args := #[x], argTypes := #[xt] }, t, pos, after, g⟩ s (.lit (.int .i64 len)) none :=
  .val rfl hn fun s' M G a w hle hX => by
    obtain ⟨e, i, h1, h2, h3⟩ := slT_spec ht
    have hv := hX.evLe hle x
    rw [hx] at hv
    obtain ⟨A, c, hv, _⟩ := sl_val hX hv (hle.node hA) hl
    exact ⟨_, w, by simp [execOp, resolve, invoke, builtin, hv, Builtin.len_, run_underlying h1, goInt], Ext.refl _ _, .lit _⟩

/-- May it lie in one cell? -/
def stOk : AV → Bool
  | .lit v => v.oneCell'
  | .row false _ _ _ => true
  | .box false _ => true
  | .fn _ cs => AV.noRefs cs
  | _ => false
theorem stOk_val {w : World} {G : Nat → Prop} {m : Nat → Option HT} {v : AV} {u : Value} (h : stOk v = true) (hv : VR w G m v u) : u.oneCell' = true ∧ u.cells = #[u] ∧ Sat w G (.leaf v u) := by
  have hlo : v.leafOk = true ∧ v.noRef = true := by
    cases v with
    | row o sz n cs => cases o <;> simp_all [stOk, AV.leafOk, AV.noRef]
    | box o cs => cases o <;> simp_all [stOk, AV.leafOk, AV.noRef]
    | _ => simp_all [stOk, AV.leafOk, AV.noRef]
  refine ⟨?_, ?_, .leaf _ _ hlo.1 (hv.free hlo.2)⟩
  · cases hv with
    | lit => simpa [stOk] using h
    | _ => simp_all [stOk, Value.oneCell']
  · cases hv with
    | lit => cases u <;> simp_all [stOk, Value.oneCell', Value.cells]
    | row0 => simp [Value.cells]
    | row => simp [Value.cells]
    | box => simp [Value.cells]
    | fn => simp [Value.cells]
    | _ => simp [stOk] at h

theorem l_store {r o : Nat} {p : List Nat} {R : ASt → Prop} (hz : szT E.P xt = some 1) (hx : s.ev x = .ptr r p o) (hm : memN (nodeOf s r p) = true) (ho : o < (cellsOf (nodeOf s r p)).length) (hst : stOk (s.ev y) = true)
    (hR : R (s.updM r p (setN o (s.ev y) (nodeOf s r p)))) : LJ E ⟨none, .store xt x y, t, pos, after, g⟩ s R := by
  rintro a w ⟨M, G, hX⟩
  cases hA : nodeOf s r p with
  | none => rw [hA] at hm; cases hm
  | some A =>
    rw [hA] at hm ho hR
    obtain ⟨T, N, hM, hN, rfl, hsT, hsN⟩ := nodeOf_spec hX hA
    rcases memN_spec hsN hm with ⟨sz, rfl⟩ | ⟨b, C, e, h1, h2, h3, h4, h5, h6, h7⟩
    · simp [HT.erase, cellsOf] at ho
    · rw [h3] at ho
      have hok : o < N.kids.length := by simpa using ho
      have hc : N.kids[o]? = some N.kids[o] := List.getElem?_eq_getElem hok
      have hv := hX.ev x
      rw [hx] at hv
      have hp := ptr_val hX hv hM hN h1
      obtain ⟨hu1, hu2, hu3⟩ := stOk_val hst (hX.ev y)
      have hcell : w.cell? ⟨b, o, none⟩ = some N.kids[o].value := by simp [World.cell?, h2, h5 o _ hc]
      have hfr : w.frozen? ⟨b, o, none⟩ = false := by simp [World.frozen?, h2]
      have hrun : (execOp a.eval ⟨none, .store xt x y, t, pos, after, g⟩).run E.P w = .ok .skip (w.setCell ⟨b, o, none⟩ (a.eval y)) := by
        simp only [execOp, hp, Instr.storeAt, Instr.sureAddr, storeVar, hu2]
        simp only [Sem.run_bind, run_size hz, Result.andThen_ok, Sem.run_pure, storeCells, run_store _ _ _ _ _ hu1, List.size_toArray, List.length_cons, List.length_nil, add0, Nat.add_zero, hcell, hfr]
        simp [storeCells, run_store _ _ _ _ _ hu1, add0, hcell, hfr]
      unfold Oper.wp
      rw [hrun]
      simp only [Oper.upon, Act.put]
      refine ⟨_, ⟨_, G, hX.write hM hN (N' := N.withKids (N.kids.set o (.leaf (s.ev y) (a.eval y)))) ?_ ?_ ?_ ?_ ?_ ?_⟩, by rw [← h7 o (s.ev y) (a.eval y) hok]; exact hR⟩
      · cases N <;> simp [HT.ownb] at h1 <;> simp [HT.withKids, HT.value]
      · intro q M' _ hq hmem
        cases q with
        | nil => simp only [HT.at_, Option.some.injEq] at hq; subst hq; exact ⟨N, rfl, (HT.withKids_hd hc _).symm⟩
        | cons j q =>
          simp only [HT.at_, HT.withKids_kids hc, List.getElem?_set] at hq
          by_cases hjo : o = j
          · subst hjo
            simp only [if_true, hok] at hq
            exact absurd hmem (by
              cases q with
              | nil => simp only [HT.at_, Option.some.injEq] at hq; subst hq; simp [HT.isMem]
              | cons i q => simp [HT.at_, HT.kids] at hq)
          · simp only [hjo, if_false] at hq
            exact ⟨M', by simpa only [HT.at_] using hq, rfl⟩
      · have hb : b ∈ N.blocks := by rw [HT.blocks_kids, h1]; simp
        exact ⟨rfl, rfl, rfl, by simp [World.setCell], fun k hk hkb => by
          have : k ≠ b := fun e => hkb (e ▸ hb)
          simp only [World.setCell, Array.getElem?_modify]
          rw [if_neg (by simpa using this.symm)]⟩
      · -- what lies there now
        have hw : ∀ k, k ≠ b → (w.setCell ⟨b, o, none⟩ (a.eval y)).heap[k]? = w.heap[k]? := fun k hk => by
          simp only [World.setCell, Array.getElem?_modify]
          rw [if_neg (by simpa using hk.symm)]
        have hbG : ¬ G b := (hX.own r T hM b (at_blocks p hN b (by rw [HT.blocks_kids, h1]; simp))).2.1
        have hG : ∀ k, G k → (w.setCell ⟨b, o, none⟩ (a.eval y)).heap[k]? = w.heap[k]? := fun k hk => hw k (fun e => hbG (e ▸ hk))
        have hnd : N.blocks.Nodup := (hX.take hM hN).2.2.1
        rw [HT.blocks_kids, h1] at hnd
        have hbk : ∀ c ∈ N.kids, b ∉ c.blocks := fun c hc' hx => by
          simp only [List.cons_append, List.nil_append, List.nodup_cons] at hnd
          exact hnd.1 (List.mem_flatMap.2 ⟨c, hc', hx⟩)
        have hkid : ∀ i c, N.kids[i]? = some c → Sat (w.setCell ⟨b, o, none⟩ (a.eval y)) G c := fun i c hc' =>
          (hsN.kids i c hc').congr (fun k hk => hw k (fun e => hbk c (List.mem_of_getElem? hc') (e ▸ hk))) hG (fun _ h => h)
        have hleaf : Sat (w.setCell ⟨b, o, none⟩ (a.eval y)) G (.leaf (s.ev y) (a.eval y)) := hu3.congr (by simp [HT.blocks]) hG (fun _ h => h)
        have hkids : ∀ i c, (N.kids.set o (.leaf (s.ev y) (a.eval y)))[i]? = some c → Sat (w.setCell ⟨b, o, none⟩ (a.eval y)) G c ∧ (C.setIfInBounds o (a.eval y))[i]? = some c.value := fun i c hc' => by
          rw [List.getElem?_set] at hc'
          split at hc'
          · rename_i hio; subst hio
            simp only [hok, if_true, Option.some.injEq] at hc'
            subst hc'
            have hoC : o < C.size := by omega
            exact ⟨hleaf, by rw [Array.getElem?_setIfInBounds, if_pos rfl, if_pos hoC]; rfl⟩
          · rename_i hio
            exact ⟨hkid i c hc', by rw [Array.getElem?_setIfInBounds_ne hio]; exact h5 i c hc'⟩
        have hheap : (w.setCell ⟨b, o, none⟩ (a.eval y)).heap[b]? = some (.cells (C.setIfInBounds o (a.eval y)) e (0, 0)) := by
          simp [World.setCell, Array.getElem?_modify, h2]
        cases hsN with
        | row b' sz n cap cs C' e' g1 g2 g3 g4 g5 g6 g7 g8 =>
          simp only [HT.ownb, List.cons.injEq, and_true] at h1; subst h1
          rw [g1] at h2; cases h2
          exact .row _ _ _ _ _ _ _ hheap (by simpa [HT.kids] using g2) g3 (by simpa using g4) g5 g6 (fun i c hc' => (hkids i c hc').2) (fun i c hc' => (hkids i c hc').1)
        | box b' cs C' e' g1 g2 g7 g8 =>
          simp only [HT.ownb, List.cons.injEq, and_true] at h1; subst h1
          rw [g1] at h2; cases h2
          exact .box _ _ _ _ hheap (by simpa [HT.kids] using g2) (fun i c hc' => (hkids i c hc').2) (fun i c hc' => (hkids i c hc').1)
        | _ => simp [HT.ownb] at h1
      · have hnd : N.blocks.Nodup := (hX.take hM hN).2.2.1
        obtain ⟨e1, e2⟩ := flatMap_set HT.blocks N.kids o N.kids[o] (.leaf (s.ev y) (a.eval y)) hc
        rw [HT.withKids_blocks hc, e2]
        rw [HT.blocks_kids, e1] at hnd
        simp only [HT.blocks, List.nil_append]
        simp only [List.nodup_append, List.mem_append] at hnd ⊢
        obtain ⟨d1, ⟨d2, ⟨d3, d4, d5⟩, d6⟩, d7⟩ := hnd
        exact ⟨d1, ⟨d2, d4, fun x hx y hy => d6 x hx y (.inr hy)⟩, fun x hx y hy => d7 x hx y (hy.imp id .inr)⟩
      · intro z hz'
        left
        obtain ⟨e1, e2⟩ := flatMap_set HT.blocks N.kids o N.kids[o] (.leaf (s.ev y) (a.eval y)) hc
        rw [HT.withKids_blocks hc, e2] at hz'
        rw [HT.blocks_kids, e1]
        simp only [HT.blocks, List.nil_append, List.mem_append] at hz' ⊢
        rcases hz' with h | h | h
        · exact .inl h
        · exact .inr (.inl h)
        · exact .inr (.inr (.inr h))
end

end Go.Av
end
section
set_option linter.unusedSimpArgs false
set_option linter.unusedVariables false
/-! Memory that a call makes. -/
namespace Go.Av

theorem leaves {w : World} {G : Nat → Prop} : ∀ (vs : List AV) (us : List Value), us.length = vs.length → (∀ (i : Nat) (v : AV) (u : Value), vs[i]? = some v → us[i]? = some u → Sat w G (.leaf v u)) →
    ∃ Ks : List HT, HT.values Ks = us ∧ HT.erases Ks = vs ∧ HT.blockss Ks = [] ∧ Ks.length = vs.length ∧ (∀ (i : Nat) (K : HT), Ks[i]? = some K → Sat w G K ∧ us[i]? = some K.value)
  | [], us, hl, _ => by
    have : us = [] := by simpa using hl
    subst this
    exact ⟨[], by simp [HT.values], by simp [HT.erases], by simp [HT.blockss], rfl, fun i K h => by simp at h⟩
  | v :: vs, us, hl, h => by
    cases us with
    | nil => simp at hl
    | cons u us =>
      obtain ⟨Ks, h1, h2, h3, h4, h5⟩ := leaves (w := w) (G := G) vs us (by simpa using hl) (fun i v' u' a b => h (i + 1) v' u' (by simpa using a) (by simpa using b))
      refine ⟨.leaf v u :: Ks, by simp [HT.values, HT.value, h1], by simp [HT.erases, HT.erase, h2], by simp [HT.blockss, HT.blocks, h3], by simp [h4], fun i K hK => ?_⟩
      cases i with
      | zero => simp only [List.getElem?_cons_zero, Option.some.injEq] at hK; subst hK; exact ⟨h 0 v u rfl rfl, rfl⟩
      | succ i => exact h5 i K (by simpa using hK)

theorem alloc_old (w : World) (o : Obj) (k : Nat) (h : k < w.heap.size) : (w.alloc o).heap[k]? = w.heap[k]? := by
  show (w.heap.push o)[k]? = _
  rw [Array.getElem?_push, if_neg (by omega)]
theorem alloc_ext (w : World) (o : Obj) : Ext (fun _ => False) w (w.alloc o) := ⟨rfl, rfl, rfl, by simp, fun k hk _ => alloc_old w o k hk⟩
theorem alloc_new (w : World) (o : Obj) : (w.alloc o).heap[w.heap.size]? = some o := by
  show (w.heap.push o)[w.heap.size]? = _
  rw [Array.getElem?_push, if_pos rfl]

section
variable {E : Env} {s : ASt} {d : Nat} {x y : Operand} {t xt : TypeId} {pos : String} {after : Array Edge} {g : Option (Nat × Bool)}

/-- A slice type's element: its empty cells, its bytes. -/
def zcT (P : Program) (t : TypeId) : Option (List Value × Nat) := match P.underlying t with
  | some (.slice e) => match P.info? e with
    | some i => match i.zero with
      | some z => if z.cells.size = i.size then some (z.cells.toList, i.bytes) else none
      | none => none
    | none => none
  | _ => none
theorem zcT_spec {P : Program} {t : TypeId} {zs : List Value} {by_ : Nat} (h : zcT P t = some (zs, by_)) : ∃ e i z, P.underlying t = some (.slice e) ∧ P.info? e = some i ∧ i.zero = some z ∧ z.cells.toList = zs ∧ i.bytes = by_ ∧ i.size = zs.length ∧ slT P t = some zs.length := by
  unfold zcT at h
  split at h
  · rename_i e he
    split at h
    · rename_i i hi
      split at h
      · rename_i z hz
        split at h
        · rename_i hs
          simp only [Option.some.injEq, Prod.mk.injEq] at h
          obtain ⟨rfl, rfl⟩ := h
          exact ⟨e, i, z, he, hi, hz, rfl, rfl, by simp [hs], by simp [slT, he, hi, hs]⟩
        · cases h
      · cases h
    · cases h
  · cases h
/-- So many cells, empty. -/
def zCells (zs : List Value) (n : Nat) : List Value := (List.range (n * zs.length)).map fun i => zs.getD (i % zs.length) undef

end

end Go.Av
end
section
set_option linter.unusedSimpArgs false
set_option linter.unusedVariables false
/-! Nil slices: each may be taken for an own row of no element. -/
namespace Go.Av
mutual
inductive NilLe : AV → AV → Prop
  | refl (A : AV) : NilLe A A
  | nil (sz : Nat) : NilLe (.lit (.slice none 0 0)) (.row true sz 0 [])
  | agg {cs ds : List AV} (h : NilLes cs ds) : NilLe (.agg cs) (.agg ds)
  | tup {cs ds : List AV} (h : NilLes cs ds) : NilLe (.tup cs) (.tup ds)
inductive NilLes : List AV → List AV → Prop
  | nil : NilLes [] []
  | cons {a b : AV} {as bs : List AV} (h : NilLe a b) (t : NilLes as bs) : NilLes (a :: as) (b :: bs)
end
variable {w : World} {G : Nat → Prop}
mutual
theorem nilUp : ∀ (T : HT) (B : AV), Sat w G T → NilLe T.erase B → ∃ T' : HT, T'.erase = B ∧ T'.value = T.value ∧ T'.blocks = T.blocks ∧ Sat w G T'
  | .leaf a v, B, hs, hB => by
    simp only [HT.erase] at hB
    cases hB with
    | refl => exact ⟨.leaf a v, rfl, rfl, rfl, hs⟩
    | nil sz =>
      cases hs with
      | leaf _ _ ha h => cases h; exact ⟨.nilrow sz, rfl, rfl, rfl, .nilrow sz⟩
    | agg h => cases hs with | leaf _ _ ha _ => simp [AV.leafOk] at ha
    | tup h => cases hs with | leaf _ _ ha _ => simp [AV.leafOk] at ha
  | .row b sz n cap cs, B, hs, hB => by
    simp only [HT.erase] at hB
    cases hB with
    | refl => exact ⟨.row b sz n cap cs, rfl, rfl, rfl, hs⟩
  | .nilrow sz, B, hs, hB => by
    simp only [HT.erase] at hB
    cases hB with
    | refl => exact ⟨.nilrow sz, rfl, rfl, rfl, hs⟩
  | .box b cs, B, hs, hB => by
    simp only [HT.erase] at hB
    cases hB with
    | refl => exact ⟨.box b cs, rfl, rfl, rfl, hs⟩
  | .agg cs, B, hs, hB => by
    simp only [HT.erase] at hB
    cases hB with
    | refl => exact ⟨.agg cs, rfl, rfl, rfl, hs⟩
    | agg h =>
      cases hs with
      | agg _ hk =>
        obtain ⟨Ts', h1, h2, h3, h4⟩ := nilUps cs _ (fun K hK => by obtain ⟨i, hi⟩ := List.mem_iff_getElem?.1 hK; exact hk i K hi) h
        exact ⟨.agg Ts', by rw [HT.erase, h1], by rw [HT.value, HT.value, h2], by rw [HT.blocks, HT.blocks, h3], .agg _ fun i T hi => h4 T (List.mem_of_getElem? hi)⟩
  | .tup cs, B, hs, hB => by
    simp only [HT.erase] at hB
    cases hB with
    | refl => exact ⟨.tup cs, rfl, rfl, rfl, hs⟩
    | tup h =>
      cases hs with
      | tup _ hk =>
        obtain ⟨Ts', h1, h2, h3, h4⟩ := nilUps cs _ (fun K hK => by obtain ⟨i, hi⟩ := List.mem_iff_getElem?.1 hK; exact hk i K hi) h
        exact ⟨.tup Ts', by rw [HT.erase, h1], by rw [HT.value, HT.value, h2], by rw [HT.blocks, HT.blocks, h3], .tup _ fun i T hi => h4 T (List.mem_of_getElem? hi)⟩
theorem nilUps : ∀ (Ts : List HT) (Bs : List AV), (∀ K ∈ Ts, Sat w G K) → NilLes (HT.erases Ts) Bs → ∃ Ts' : List HT, HT.erases Ts' = Bs ∧ HT.values Ts' = HT.values Ts ∧ HT.blockss Ts' = HT.blockss Ts ∧ ∀ K ∈ Ts', Sat w G K
  | [], Bs, hs, hB => by
    simp only [HT.erases] at hB
    cases hB
    exact ⟨[], rfl, rfl, rfl, by simp⟩
  | T :: r, Bs, hs, hB => by
    simp only [HT.erases] at hB
    cases hB with
    | cons h t =>
      obtain ⟨T', a1, a2, a3, a4⟩ := nilUp T _ (hs T (by simp)) h
      obtain ⟨Ts', b1, b2, b3, b4⟩ := nilUps r _ (fun K hK => hs K (by simp [hK])) t
      exact ⟨T' :: Ts', by rw [HT.erases, a1, b1], by rw [HT.values, HT.values, a2, b2], by rw [HT.blockss, HT.blockss, a3, b3], fun K hK => by
        rcases List.mem_cons.1 hK with rfl | hK
        · exact a4
        · exact b4 K hK⟩
end

theorem NilLes.refl : ∀ As : List AV, NilLes As As
  | [] => .nil
  | a :: r => .cons (.refl a) (NilLes.refl r)
/-- A cell that holds a slice (elements of 'sz' cells), nil: a row of no element. -/
def nilA : Option Nat → AV → AV
  | some sz, .lit (.slice none 0 0) => .row true sz 0 []
  | _, a => a
def nilTs : List (Option Nat) → List AV → List AV
  | o :: os, a :: as => nilA o a :: nilTs os as
  | _, as => as
theorem nilA_none {a : AV} : nilA none a = a := by cases a <;> rfl
theorem nilA_nil {sz : Nat} : nilA (some sz) (.lit (.slice none 0 0)) = .row true sz 0 [] := rfl
theorem nilA_row {sz : Nat} {o : Bool} {z n : Nat} {cs : List AV} : nilA (some sz) (.row o z n cs) = .row o z n cs := rfl
theorem nilTs_cons {o : Option Nat} {os : List (Option Nat)} {a : AV} {as : List AV} : nilTs (o :: os) (a :: as) = nilA o a :: nilTs os as := rfl
theorem nilTs_nil {as : List AV} : nilTs [] as = as := by cases as <;> rfl
theorem nilTs_end {os : List (Option Nat)} : nilTs os [] = [] := by cases os <;> rfl
theorem nilA_le (o : Option Nat) (a : AV) : NilLe a (nilA o a) := by
  unfold nilA
  split
  · exact .nil _
  · exact .refl _
theorem nilTs_le : ∀ (os : List (Option Nat)) (as : List AV), NilLes as (nilTs os as)
  | [], as => by rw [nilTs_nil]; exact NilLes.refl _
  | o :: os, [] => by rw [nilTs_end]; exact .nil
  | o :: os, a :: as => .cons (nilA_le o a) (nilTs_le os as)
theorem nilTs_len (os : List (Option Nat)) (as : List AV) : (nilTs os as).length = as.length := by
  induction os generalizing as with
  | nil => rw [nilTs_nil]
  | cons o os ih => cases as with
    | nil => rfl
    | cons a as => simp [nilTs_cons, ih]
/-- The same for the cells of several elements. -/
def nilRs (os : List (Option Nat)) : Nat → List AV → List AV
  | 0, as => as
  | n + 1, as => nilTs os (as.take os.length) ++ nilRs os n (as.drop os.length)
theorem NilLes.app {a b c d : List AV} (h : NilLes a b) (k : NilLes c d) : NilLes (a ++ c) (b ++ d) := by
  induction a generalizing b with
  | nil => cases h; exact k
  | cons x r ih => cases h with | cons h1 h2 => exact .cons h1 (ih h2)
theorem nilRs_le (os : List (Option Nat)) : ∀ (n : Nat) (as : List AV), NilLes as (nilRs os n as)
  | 0, as => NilLes.refl _
  | n + 1, as => by
    have := (nilTs_le os (as.take os.length)).app (nilRs_le os n (as.drop os.length))
    rw [List.take_append_drop] at this
    exact this
/-- Which cells of a type hold slices? -/
def nzO (P : Program) (e : TypeId) : Option (Option Nat) := match P.underlying e with
  | some (.slice x) => some (some (P.cellsOf x))
  | _ => some none
def nzF (P : Program) : Nat → TypeId → List (Option Nat)
  | 0, _ => []
  | n + 1, t => match P.underlying t with
    | some (.struct fs) => fs.toList.flatMap fun f => nzF P n f.type
    | some (.slice x) => [some (P.cellsOf x)]
    | some (.array _ _) => []
    | _ => [none]
def nzT (P : Program) (t : TypeId) : List (Option Nat) := nzF P 8 t
/-- The element's. -/
def nzE (P : Program) (t : TypeId) : List (Option Nat) := match P.underlying t with
  | some (.slice e) => nzT P e
  | _ => []
/-- Does any cell hold a slice? -/
def nilB : List (Option Nat) → Bool
  | [] => false
  | none :: r => nilB r
  | some _ :: _ => true
theorem nilB_nil : nilB [] = false := rfl
theorem nilB_none {r : List (Option Nat)} : nilB (none :: r) = nilB r := rfl
theorem nilB_some {n : Nat} {r : List (Option Nat)} : nilB (some n :: r) = true := rfl
def nilRq (os : List (Option Nat)) (n : Nat) (as : List AV) : List AV := cond (nilB os) (nilRs os n as) as
theorem nilRq_le (os : List (Option Nat)) (n : Nat) (as : List AV) : NilLes as (nilRq os n as) := by
  unfold nilRq
  cases nilB os
  · exact NilLes.refl _
  · exact nilRs_le os n as
end Go.Av
end
