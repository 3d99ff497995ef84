/- The types of the program, their cells. -/
import Derived.Test.YtnidajafjmcfaaaDoorCK2
section
set_option linter.unusedSimpArgs false
set_option linter.unusedVariables false
/-! The types of the program, their cells. -/
namespace Go.Av
def eInt (x : Int) : List AV := [I x]
theorem eInt_eq (x : Int) : eInt x = [I x] := rfl
def esInt (l : List Int) : List AV := l.flatMap eInt
theorem esInt_len (l : List Int) : (esInt l).length = l.length * 1 := flat_len (fun _ _ => rfl)
theorem esInt_nil : esInt [] = [] := rfl
theorem esInt_leaf (l : List Int) : leafCs (esInt l) = true := leafCs_flat (fun _ => rfl)
theorem esInt_fit (l : List Int) : fitCs (esInt l) = true := fitCs_flat (fun _ => rfl)
theorem esInt_share (l : List Int) : AV.shares (esInt l) = esInt l := shares_flat (fun x => by simp [eInt, AV.shares, AV.share])
theorem esInt_pure (l : List Int) : pureVs (esInt l) = true := pureVs_flat (fun x => by simp [eInt, pureVs, pureV])
def eBool (x : Bool) : List AV := [B x]
def esBool (l : List Bool) : List AV := l.flatMap eBool
def eStr (x : ByteArray) : List AV := [S x]
theorem eStr_eq (x : ByteArray) : eStr x = [S x] := rfl
def esStr (l : List ByteArray) : List AV := l.flatMap eStr
theorem esStr_len (l : List ByteArray) : (esStr l).length = l.length * 1 := flat_len (fun _ _ => rfl)
theorem esStr_nil : esStr [] = [] := rfl
theorem esStr_cons (x : ByteArray) (l : List ByteArray) : esStr (x :: l) = eStr x ++ esStr l := rfl
theorem esStr_app (l k : List ByteArray) : esStr (l ++ k) = esStr l ++ esStr k := by simp [esStr]
theorem esStr_dropk (l : List ByteArray) (k : Nat) : (esStr l).drop (k * 1) = esStr (l.drop k) := flat_drop k (fun _ _ => rfl)
theorem esStr_drop (l : List ByteArray) (k : Nat) (h : k < l.length) : (esStr l).drop (k * 1) = eStr l[k] ++ esStr (l.drop (k + 1)) := by rw [esStr_dropk, List.drop_eq_getElem_cons h]; rfl
theorem esStr_drop1 (l : List ByteArray) (k : Nat) (h : k < l.length) : (esStr l).drop k = eStr l[k] ++ esStr (l.drop (k + 1)) := by have := esStr_drop l k h; simpa using this
theorem esStr_setL (l : List ByteArray) (k : Nat) (x : ByteArray) (h : k < l.length) : Av.setL (esStr l) (k * 1) (eStr x) = esStr (l.set k x) := setL_flat x (fun _ _ => rfl) rfl h
theorem esStr_leaf (l : List ByteArray) : leafCs (esStr l) = true := leafCs_flat (fun _ => rfl)
theorem esStr_fit (l : List ByteArray) : fitCs (esStr l) = true := fitCs_flat (fun _ => rfl)
theorem esStr_set (l : List ByteArray) (k : Nat) (x : ByteArray) (h : k < l.length) : (esStr l).set k (S x) = esStr (l.set k x) := by have := esStr_setL l k x h; rw [Nat.mul_one] at this; rw [setL_one _ _ (by rw [esStr_len]; omega)]; exact this
theorem esStr_share (l : List ByteArray) : AV.shares (esStr l) = esStr l := shares_flat (fun x => by simp [eStr, AV.shares, AV.share])
theorem esStr_pure (l : List ByteArray) : pureVs (esStr l) = true := pureVs_flat (fun x => by simp [eStr, pureVs, pureV])
def eU8 (x : Int) : List AV := [U8 x]
def esU8 (l : List Int) : List AV := l.flatMap eU8
structure GProp where
  Path : ByteArray
  Value : ByteArray
  deriving DecidableEq, Inhabited
def eProp (x : GProp) : List AV := [S x.Path, S x.Value]
theorem eProp_eq (x : GProp) : eProp x = [S x.Path, S x.Value] := rfl
def esProp (l : List GProp) : List AV := l.flatMap eProp
theorem esProp_len (l : List GProp) : (esProp l).length = l.length * 2 := flat_len (fun _ _ => rfl)
theorem esProp_nil : esProp [] = [] := rfl
theorem esProp_cons (x : GProp) (l : List GProp) : esProp (x :: l) = eProp x ++ esProp l := rfl
theorem esProp_app (l k : List GProp) : esProp (l ++ k) = esProp l ++ esProp k := by simp [esProp]
theorem esProp_dropk (l : List GProp) (k : Nat) : (esProp l).drop (k * 2) = esProp (l.drop k) := flat_drop k (fun _ _ => rfl)
theorem esProp_drop (l : List GProp) (k : Nat) (h : k < l.length) : (esProp l).drop (k * 2) = eProp l[k] ++ esProp (l.drop (k + 1)) := by rw [esProp_dropk, List.drop_eq_getElem_cons h]; rfl
theorem esProp_setL (l : List GProp) (k : Nat) (x : GProp) (h : k < l.length) : Av.setL (esProp l) (k * 2) (eProp x) = esProp (l.set k x) := setL_flat x (fun _ _ => rfl) rfl h
theorem esProp_leaf (l : List GProp) : leafCs (esProp l) = true := leafCs_flat (fun _ => rfl)
theorem esProp_fit (l : List GProp) : fitCs (esProp l) = true := fitCs_flat (fun _ => rfl)
theorem esProp_set_Path (l : List GProp) (k : Nat) (v : ByteArray) (h : k < l.length) : (esProp l).set (k * 2) (S v) = esProp (l.set k { l[k] with Path := v }) := by have := flat_set (enc := eProp) (sz := 2) (l := l) (x := { l[k] with Path := v }) (fun _ _ => rfl) rfl (k := k) h 0 (by decide) (S v) rfl; exact this
theorem esProp_set_Value (l : List GProp) (k : Nat) (v : ByteArray) (h : k < l.length) : (esProp l).set (k * 2 + 1) (S v) = esProp (l.set k { l[k] with Value := v }) := by have := flat_set (enc := eProp) (sz := 2) (l := l) (x := { l[k] with Value := v }) (fun _ _ => rfl) rfl (k := k) h 1 (by decide) (S v) rfl; exact this
theorem esProp_share (l : List GProp) : AV.shares (esProp l) = esProp l := shares_flat (fun x => by simp [eProp, AV.shares, AV.share])
theorem esProp_pure (l : List GProp) : pureVs (esProp l) = true := pureVs_flat (fun x => by simp [eProp, pureVs, pureV])
structure GPrefab where
  Name : ByteArray
  From : ByteArray
  Props : List GProp
  deriving DecidableEq, Inhabited
def ePrefab (x : GPrefab) : List AV := [S x.Name, S x.From, .row false 2 x.Props.length (esProp x.Props)]
theorem ePrefab_eq (x : GPrefab) : ePrefab x = [S x.Name, S x.From, .row false 2 x.Props.length (esProp x.Props)] := rfl
def esPrefab (l : List GPrefab) : List AV := l.flatMap ePrefab
theorem esPrefab_len (l : List GPrefab) : (esPrefab l).length = l.length * 3 := flat_len (fun _ _ => rfl)
theorem esPrefab_nil : esPrefab [] = [] := rfl
theorem esPrefab_leaf (l : List GPrefab) : leafCs (esPrefab l) = true := leafCs_flat (fun _ => rfl)
theorem esPrefab_fit (l : List GPrefab) : fitCs (esPrefab l) = true := fitCs_flat (fun _ => rfl)
def ePrefabo (x : GPrefab) : List AV := [S x.Name, S x.From, .row true 2 x.Props.length (esProp x.Props)]
theorem ePrefabo_eq (x : GPrefab) : ePrefabo x = [S x.Name, S x.From, .row true 2 x.Props.length (esProp x.Props)] := rfl
def esPrefabo (l : List GPrefab) : List AV := l.flatMap ePrefabo
theorem esPrefabo_len (l : List GPrefab) : (esPrefabo l).length = l.length * 3 := flat_len (fun _ _ => rfl)
theorem esPrefabo_nil : esPrefabo [] = [] := rfl
theorem esPrefabo_share (l : List GPrefab) : AV.shares (esPrefabo l) = esPrefab l := shares_flat (fun x => by simp [ePrefabo, ePrefab, AV.shares, AV.share, esProp_share])
theorem esPrefabo_pure (l : List GPrefab) : pureVs (esPrefabo l) = true := pureVs_flat (fun x => by simp [ePrefabo, pureVs, pureV, esProp_pure])
structure GJoined where
  Props : List GProp
  Clash : List ByteArray
  deriving DecidableEq, Inhabited
def eJoined (x : GJoined) : List AV := [.row false 2 x.Props.length (esProp x.Props), .row false 1 x.Clash.length (esStr x.Clash)]
theorem eJoined_eq (x : GJoined) : eJoined x = [.row false 2 x.Props.length (esProp x.Props), .row false 1 x.Clash.length (esStr x.Clash)] := rfl
def esJoined (l : List GJoined) : List AV := l.flatMap eJoined
theorem esJoined_len (l : List GJoined) : (esJoined l).length = l.length * 2 := flat_len (fun _ _ => rfl)
theorem esJoined_nil : esJoined [] = [] := rfl
theorem esJoined_cons (x : GJoined) (l : List GJoined) : esJoined (x :: l) = eJoined x ++ esJoined l := rfl
theorem esJoined_app (l k : List GJoined) : esJoined (l ++ k) = esJoined l ++ esJoined k := by simp [esJoined]
theorem esJoined_leaf (l : List GJoined) : leafCs (esJoined l) = true := leafCs_flat (fun _ => rfl)
theorem esJoined_fit (l : List GJoined) : fitCs (esJoined l) = true := fitCs_flat (fun _ => rfl)
theorem esJoined_share (l : List GJoined) : AV.shares (esJoined l) = esJoined l := shares_flat (fun x => by simp [eJoined, AV.shares, AV.share, esProp_share, esStr_share])
def eJoinedo (x : GJoined) : List AV := [.row true 2 x.Props.length (esProp x.Props), .row true 1 x.Clash.length (esStr x.Clash)]
theorem eJoinedo_eq (x : GJoined) : eJoinedo x = [.row true 2 x.Props.length (esProp x.Props), .row true 1 x.Clash.length (esStr x.Clash)] := rfl
def esJoinedo (l : List GJoined) : List AV := l.flatMap eJoinedo
theorem esJoinedo_len (l : List GJoined) : (esJoinedo l).length = l.length * 2 := flat_len (fun _ _ => rfl)
theorem esJoinedo_nil : esJoinedo [] = [] := rfl
theorem esJoinedo_cons (x : GJoined) (l : List GJoined) : esJoinedo (x :: l) = eJoinedo x ++ esJoinedo l := rfl
theorem esJoinedo_app (l k : List GJoined) : esJoinedo (l ++ k) = esJoinedo l ++ esJoinedo k := by simp [esJoinedo]
theorem esJoinedo_share (l : List GJoined) : AV.shares (esJoinedo l) = esJoined l := shares_flat (fun x => by simp [eJoinedo, eJoined, AV.shares, AV.share, esProp_share, esStr_share])
theorem esJoinedo_pure (l : List GJoined) : pureVs (esJoinedo l) = true := pureVs_flat (fun x => by simp [eJoinedo, pureVs, pureV, esProp_pure, esStr_pure])
structure Gstate where
  value : ByteArray
  has : Bool
  deriving DecidableEq, Inhabited
def estate (x : Gstate) : List AV := [S x.value, B x.has]
theorem estate_eq (x : Gstate) : estate x = [S x.value, B x.has] := rfl
def esstate (l : List Gstate) : List AV := l.flatMap estate
theorem esstate_len (l : List Gstate) : (esstate l).length = l.length * 2 := flat_len (fun _ _ => rfl)
theorem esstate_nil : esstate [] = [] := rfl
theorem esstate_cons (x : Gstate) (l : List Gstate) : esstate (x :: l) = estate x ++ esstate l := rfl
theorem esstate_app (l k : List Gstate) : esstate (l ++ k) = esstate l ++ esstate k := by simp [esstate]
theorem esstate_leaf (l : List Gstate) : leafCs (esstate l) = true := leafCs_flat (fun _ => rfl)
theorem esstate_fit (l : List Gstate) : fitCs (esstate l) = true := fitCs_flat (fun _ => rfl)
theorem esstate_share (l : List Gstate) : AV.shares (esstate l) = esstate l := shares_flat (fun x => by simp [estate, AV.shares, AV.share])
theorem esstate_pure (l : List Gstate) : pureVs (esstate l) = true := pureVs_flat (fun x => by simp [estate, pureVs, pureV])
def eLProp (x : List GProp) : List AV := [.row false 2 x.length (esProp x)]
theorem eLProp_eq (x : List GProp) : eLProp x = [.row false 2 x.length (esProp x)] := rfl
def esLProp (l : List (List GProp)) : List AV := l.flatMap eLProp
theorem esLProp_len (l : List (List GProp)) : (esLProp l).length = l.length * 1 := flat_len (fun _ _ => rfl)
theorem esLProp_nil : esLProp [] = [] := rfl
theorem esLProp_cons (x : List GProp) (l : List (List GProp)) : esLProp (x :: l) = eLProp x ++ esLProp l := rfl
theorem esLProp_app (l k : List (List GProp)) : esLProp (l ++ k) = esLProp l ++ esLProp k := by simp [esLProp]
theorem esLProp_leaf (l : List (List GProp)) : leafCs (esLProp l) = true := leafCs_flat (fun _ => rfl)
theorem esLProp_fit (l : List (List GProp)) : fitCs (esLProp l) = true := fitCs_flat (fun _ => rfl)
theorem esLProp_share (l : List (List GProp)) : AV.shares (esLProp l) = esLProp l := shares_flat (fun x => by simp [eLProp, AV.shares, AV.share, esProp_share])
def eLPropo (x : List GProp) : List AV := [.row true 2 x.length (esProp x)]
theorem eLPropo_eq (x : List GProp) : eLPropo x = [.row true 2 x.length (esProp x)] := rfl
def esLPropo (l : List (List GProp)) : List AV := l.flatMap eLPropo
theorem esLPropo_len (l : List (List GProp)) : (esLPropo l).length = l.length * 1 := flat_len (fun _ _ => rfl)
theorem esLPropo_nil : esLPropo [] = [] := rfl
theorem esLPropo_cons (x : List GProp) (l : List (List GProp)) : esLPropo (x :: l) = eLPropo x ++ esLPropo l := rfl
theorem esLPropo_app (l k : List (List GProp)) : esLPropo (l ++ k) = esLPropo l ++ esLPropo k := by simp [esLPropo]
theorem esLPropo_share (l : List (List GProp)) : AV.shares (esLPropo l) = esLProp l := shares_flat (fun x => by simp [eLPropo, eLProp, AV.shares, AV.share, esProp_share])
theorem esLPropo_pure (l : List (List GProp)) : pureVs (esLPropo l) = true := pureVs_flat (fun x => by simp [eLPropo, pureVs, pureV, esProp_pure])
def eLLProp (x : List (List GProp)) : List AV := [.row false 1 x.length (esLProp x)]
def esLLProp (l : List (List (List GProp))) : List AV := l.flatMap eLLProp
def eLLPropo (x : List (List GProp)) : List AV := [.row true 1 x.length (esLPropo x)]
def esLLPropo (l : List (List (List GProp))) : List AV := l.flatMap eLLPropo
end Go.Av
end
section
set_option linter.unusedSimpArgs false
set_option linter.unusedVariables false
/-! A part of a region becomes a region of its own. -/
namespace Go.Av
def splF (r i d : Nat) : Nat → List Nat → Option (Nat × List Nat) := fun r' p => if r' = d then none else if r' = r then (match p with | j :: q => if j = i then some (d, q) else some (r', j :: q) | [] => some (r', [])) else some (r', p)
def ASt.spl (s : ASt) (r i d : Nat) : ASt := ⟨fun j => (s.t j).mapRef (splF r i d), fun q => if q = d then (s.m r).bind (·.at_ [i]) else if q = r then (s.m r).map (·.upd [i] .junk) else s.m q⟩
theorem Weak.split {s : ASt} {r i d : Nat} {A C : AV} (hr : r < 1000) (hd : d < 1000) (hrd : r ≠ d) (hm : s.m r = some A) (ha : A.at_ [i] = some C) : Weak s (s.spl r i d) := by
  rintro E a w ⟨M, G, hX⟩
  have he := hX.er r
  rw [hm] at he
  cases hM : M r with
  | none => rw [hM] at he; cases he
  | some T =>
  rw [hM] at he
  simp only [Option.map_some, Option.some.injEq] at he
  subst he
  obtain ⟨N, hN, hNe⟩ := erase_at [i] (hX.sat r T hM) ha
  obtain ⟨k1, k2, k3, k4⟩ := hX.take hM hN
  obtain ⟨M1, hM1⟩ : ∃ M1, updF M r (some (T.upd [i] (.leaf .junk N.value))) = M1 := ⟨_, rfl⟩
  rw [hM1] at k1 k4
  have hr1 : M1 r = some (T.upd [i] (.leaf .junk N.value)) := by rw [← hM1]; simp [updF]
  have ho1 : ∀ q, q ≠ r → M1 q = M q := fun q hq => by rw [← hM1]; simp [updF, hq]
  have key : ∀ q T', (if q = d then some N else M1 q) = some T' → (q = d ∧ T' = N) ∨ (q ≠ d ∧ M1 q = some T') := fun q T' h => by
    split at h
    · cases h; exact .inl ⟨by assumption, rfl⟩
    · exact .inr ⟨by assumption, h⟩
  have hmap : ∀ {v : AV} {u : Value}, VR w G M v u → VR w G (fun q => if q = d then some N else M1 q) (v.mapRef (splF r i d)) u := fun h => h.mapRef (fun r0 p0 r' p' hf T' N' hT' hN' hmem => by
    simp only [splF] at hf
    split at hf
    · cases hf
    · rename_i e0
      split at hf
      · rename_i e1
        subst e1
        split at hf
        · split at hf
          · rename_i j q e2
            subst e2
            simp only [Option.some.injEq, Prod.mk.injEq] at hf
            obtain ⟨rfl, rfl⟩ := hf
            simp only [if_true, Option.some.injEq] at hT'
            subst hT'
            refine ⟨T, N', hM, ?_, rfl⟩
            simp only [HT.at_] at hN ⊢
            split at hN
            · rename_i c hc
              simp only [Option.some.injEq] at hN
              subst hN
              exact hN'
            · cases hN
          · rename_i j q e2
            simp only [Option.some.injEq, Prod.mk.injEq] at hf
            obtain ⟨rfl, rfl⟩ := hf
            rw [if_neg e0, hr1] at hT'
            cases hT'
            obtain ⟨M2, h2, h3⟩ := heads_upd [i] hN (fun q M' h hm => Heads.leaf (fun _ => False) _ _ _ q M' (fun h => h) h hm) (j :: q) N' hN' hmem
            exact ⟨T, M2, hM, h2, h3⟩
        · simp only [Option.some.injEq, Prod.mk.injEq] at hf
          obtain ⟨rfl, rfl⟩ := hf
          rw [if_neg e0, hr1] at hT'
          cases hT'
          obtain ⟨M2, h2, h3⟩ := heads_upd [i] hN (fun q M' h hm => Heads.leaf (fun _ => False) _ _ _ q M' (fun h => h) h hm) [] N' hN' hmem
          exact ⟨T, M2, hM, h2, h3⟩
      · rename_i e1
        simp only [Option.some.injEq, Prod.mk.injEq] at hf
        obtain ⟨rfl, rfl⟩ := hf
        rw [if_neg e0, ho1 _ e1] at hT'
        exact ⟨T', N', hT', hN', rfl⟩)
  refine ⟨fun q => if q = d then some N else M1 q, G, fun q => ?_, fun q T' h => ?_, fun q T' h => ?_, fun q q' T1 T2 hq h h' x hx hx' => ?_, fun q T' h x hx => ?_, hX.gd, hX.g0, fun j => hmap (hX.sl j), hX.ext, hX.df, hX.nt, hX.n1, fun q v hv => ?_⟩
  · simp only [ASt.spl]
    split
    · rw [hm, Option.bind_some, ha, Option.map_some, hNe]
    · have := k1.er q
      rw [← this]; rfl
  · rcases key q T' h with ⟨rfl, rfl⟩ | ⟨_, h⟩
    · exact k2
    · exact k1.sat q T' h
  · rcases key q T' h with ⟨rfl, rfl⟩ | ⟨_, h⟩
    · exact k3
    · exact k1.nd q T' h
  · rcases key q T1 h with ⟨rfl, rfl⟩ | ⟨_, h1⟩ <;> rcases key q' T2 h' with ⟨rfl, rfl⟩ | ⟨_, h2⟩
    · exact hq rfl
    · exact (k4 x hx).1 q' T2 h2 hx'
    · exact (k4 x hx').1 q T1 h1 hx
    · exact k1.dj q q' T1 T2 hq h1 h2 x hx hx'
  · rcases key q T' h with ⟨rfl, rfl⟩ | ⟨_, h⟩
    · exact ⟨(k4 x hx).2.1, (k4 x hx).2.2⟩
    · exact k1.own q T' h x hx
  · obtain ⟨h1, T', h2, h3⟩ := hX.pv q v hv
    refine ⟨h1, T', ?_, h3⟩
    show (if q = d then some N else M1 q) = some T'
    rw [if_neg (by omega), ho1 _ (by omega)]; exact h2
end Go.Av
namespace Go.Av
end Go.Av
namespace Go.Av
end Go.Av
namespace Go.Av
theorem lit_inj {us vs : List Value} (h : us.map AV.lit = vs.map AV.lit) : us = vs := by
  induction us generalizing vs with
  | nil => cases vs with
    | nil => rfl
    | cons v vs => simp at h
  | cons u us ih => cases vs with
    | nil => simp at h
    | cons v vs =>
      simp only [List.map_cons, List.cons.injEq, AV.lit.injEq] at h
      rw [h.1, ih h.2]
theorem aggQ_eq {P : Program} {op : BinOp} {t : TypeId} {us vs : List Value} {b : Bool} {R : ASt → Prop} {s : ASt} {d : Nat} (hg : ∀ x y w, (eqGuard op t x y (.agg us.toArray) (.agg vs.toArray)).run P w = .ok () w) (hb : ∀ w, (binOp op t (.agg us.toArray) (.agg vs.toArray)).run P w = .ok (.bool b) w) :
    aggQ P op t (us.map AV.lit) (vs.map AV.lit) R s d = R (s.set d (.lit (.bool b))) := by
  refine propext ⟨fun ⟨us', vs', b', e1, e2, _, hb', hR⟩ => ?_, fun hR => ⟨us, vs, b, rfl, rfl, hg, hb, hR⟩⟩
  obtain rfl := lit_inj e1
  obtain rfl := lit_inj e2
  have := (hb ⟨#[], fun _ _ => 0, 0, default, #[]⟩).symm.trans (hb' _)
  simp only [Result.ok.injEq, Value.bool.injEq, and_true] at this
  rw [this]; exact hR
end Go.Av
end
section
set_option linter.unusedSimpArgs false
set_option linter.unusedVariables false
/-! Texts in order; lists that rise by a key; the search by halves. Plain: no program in sight. -/
namespace Go.Av
def blt (a b : ByteArray) : Bool := Op.bytesLess a.toList b.toList
theorem bl_irrefl : ∀ (x : List UInt8), Op.bytesLess x x = false
  | [] => rfl
  | a :: x => by simp [Op.bytesLess, bl_irrefl x]
theorem bl_trans : ∀ {x y z : List UInt8}, Op.bytesLess x y = true → Op.bytesLess y z = true → Op.bytesLess x z = true
  | _, [], _, h, _ => by simp [Op.bytesLess] at h
  | _, _ :: _, [], _, h => by simp [Op.bytesLess] at h
  | [], b :: y, c :: z, _, _ => by simp [Op.bytesLess]
  | a :: x, b :: y, c :: z, h, k => by
    simp only [Op.bytesLess, Bool.or_eq_true, decide_eq_true_eq, Bool.and_eq_true, beq_iff_eq] at h k ⊢
    rcases h with h | ⟨rfl, h⟩ <;> rcases k with k | ⟨rfl, k⟩
    · exact .inl (UInt8.lt_trans h k)
    · exact .inl h
    · exact .inl k
    · exact .inr ⟨rfl, bl_trans h k⟩
theorem bl_tri : ∀ (x y : List UInt8), Op.bytesLess x y = true ∨ x = y ∨ Op.bytesLess y x = true
  | [], [] => .inr (.inl rfl)
  | [], b :: y => .inl rfl
  | a :: x, [] => .inr (.inr rfl)
  | a :: x, b :: y => by
    simp only [Op.bytesLess, Bool.or_eq_true, decide_eq_true_eq, Bool.and_eq_true, beq_iff_eq, List.cons.injEq]
    rcases Nat.lt_trichotomy a.toNat b.toNat with h | h | h
    · exact .inl (.inl (UInt8.lt_iff_toNat_lt.2 h))
    · have hab : a = b := UInt8.toNat.inj h
      subst hab
      rcases bl_tri x y with h | h | h
      · exact .inl (.inr ⟨rfl, h⟩)
      · exact .inr (.inl ⟨rfl, h⟩)
      · exact .inr (.inr (.inr ⟨rfl, h⟩))
    · exact .inr (.inr (.inl (UInt8.lt_iff_toNat_lt.2 h)))
theorem bl_asymm {x y : List UInt8} (h : Op.bytesLess x y = true) : Op.bytesLess y x = false := by
  cases hb : Op.bytesLess y x with
  | false => rfl
  | true => have := bl_trans h hb; rw [bl_irrefl] at this; cases this
theorem cb_spec : ∀ (x y : List UInt8), (Lib.compareBytes x y < 0 ↔ Op.bytesLess x y = true) ∧ (Lib.compareBytes x y = 0 ↔ x = y)
  | [], [] => by simp [Lib.compareBytes, Op.bytesLess]
  | [], b :: y => by simp [Lib.compareBytes, Op.bytesLess]
  | a :: x, [] => by simp [Lib.compareBytes, Op.bytesLess]
  | a :: x, b :: y => by
    have ih := cb_spec x y
    simp only [Lib.compareBytes, Op.bytesLess, Bool.or_eq_true, decide_eq_true_eq, Bool.and_eq_true, beq_iff_eq, List.cons.injEq]
    by_cases h : a < b
    · have hne : a ≠ b := fun e => by subst e; exact absurd h (UInt8.lt_irrefl a)
      simp [h, hne]
    · by_cases h' : b < a
      · have hne : a ≠ b := fun e => by subst e; exact absurd h' (UInt8.lt_irrefl a)
        simp [h, h', hne]
      · have hab : a = b := UInt8.toNat.inj (by
          have h1 : ¬ a.toNat < b.toNat := fun g => h (UInt8.lt_iff_toNat_lt.2 g)
          have h2 : ¬ b.toNat < a.toNat := fun g => h' (UInt8.lt_iff_toNat_lt.2 g)
          omega)
        subst hab
        simp [h, ih.1, ih.2]
theorem toList_data (b : ByteArray) : b.data.toList = b.toList := by
  have h := (barr_eq (x := b) (y := b))
  exact (show b.toList = b.data.toList from by
    have loop : ∀ (n i : Nat) (r : List UInt8), b.size - i = n → ByteArray.toList.loop b i r = r.reverse ++ b.data.toList.drop i := by
      intro n
      induction n with
      | zero =>
        intro i r h
        rw [ByteArray.toList.loop]
        have : ¬ i < b.size := by omega
        simp only [this, if_false]
        have hs : b.data.size = b.size := rfl
        rw [List.drop_of_length_le (by rw [Array.length_toList]; omega)]; simp
      | succ n ih =>
        intro i r h
        rw [ByteArray.toList.loop]
        have hlt : i < b.size := by omega
        simp only [hlt, if_true]
        rw [ih (i + 1) _ (by omega)]
        have hlt' : i < b.data.toList.length := by simpa using hlt
        rw [List.drop_eq_getElem_cons hlt']
        have : b.get! i = b.data.toList[i] := by
          show b.data.get!Internal i = _
          simp [Array.get!Internal, getElem!_pos, hlt]
        simp [this]
    have := loop b.size 0 [] (by omega)
    simpa [ByteArray.toList] using this).symm
theorem cmpB_lt (a b : ByteArray) : cmpB a b < 0 ↔ blt a b = true := by
  unfold cmpB blt; rw [toList_data, toList_data]; exact (cb_spec _ _).1
theorem cmpB_eq (a b : ByteArray) : cmpB a b = 0 ↔ a = b := by
  unfold cmpB; rw [toList_data, toList_data, (cb_spec _ _).2, barr_eq]
theorem blt_irrefl (a : ByteArray) : blt a a = false := bl_irrefl _
theorem blt_trans {a b c : ByteArray} (h : blt a b = true) (k : blt b c = true) : blt a c = true := bl_trans h k
theorem blt_asymm {a b : ByteArray} (h : blt a b = true) : blt b a = false := bl_asymm h
theorem blt_ne {a b : ByteArray} (h : blt a b = true) : a ≠ b := fun e => by subst e; rw [blt_irrefl] at h; cases h
theorem blt_tri (a b : ByteArray) : blt a b = true ∨ a = b ∨ blt b a = true := by
  rcases bl_tri a.toList b.toList with h | h | h
  · exact .inl h
  · exact .inr (.inl (barr_eq.1 h))
  · exact .inr (.inr h)
theorem blt_not {a b : ByteArray} (h : blt a b = false) : a = b ∨ blt b a = true := by
  rcases blt_tri a b with g | g | g
  · rw [h] at g; cases g
  · exact .inl g
  · exact .inr g
/-! ### Lists that rise by a key -/
section
variable {α : Type} {key : α → ByteArray}
/-- The list rises. -/
def Rise (key : α → ByteArray) : List α → Prop
  | [] => True
  | x :: l => (∀ y ∈ l, blt (key x) (key y) = true) ∧ Rise key l
/-- Where a key stands or would stand. -/
def spot (key : α → ByteArray) (l : List α) (t : ByteArray) : Nat := (l.takeWhile fun x => blt (key x) t).length
theorem spot_le (l : List α) (t : ByteArray) : spot key l t ≤ l.length := by
  unfold spot; exact (List.takeWhile_prefix _).length_le
theorem spot_nil (t : ByteArray) : spot key ([] : List α) t = 0 := rfl
theorem spot_cons (x : α) (l : List α) (t : ByteArray) : spot key (x :: l) t = if blt (key x) t = true then spot key l t + 1 else 0 := by
  unfold spot
  cases h : blt (key x) t <;> simp [List.takeWhile_cons, h]
theorem spot_lt : ∀ {l : List α} {t : ByteArray} {i : Nat} {x : α}, i < spot key l t → l[i]? = some x → blt (key x) t = true
  | [], t, i, x, h, hx => by simp at hx
  | y :: l, t, i, x, h, hx => by
    rw [spot_cons] at h
    split at h
    · rename_i hb
      cases i with
      | zero => simp at hx; subst hx; exact hb
      | succ i => exact spot_lt (l := l) (i := i) (by omega) (by simpa using hx)
    · omega
theorem spot_ge : ∀ {l : List α} {t : ByteArray} {i : Nat} {x : α}, Rise key l → spot key l t ≤ i → l[i]? = some x → blt (key x) t = false
  | [], t, i, x, _, h, hx => by simp at hx
  | y :: l, t, i, x, hr, h, hx => by
    rw [spot_cons] at h
    split at h
    · cases i with
      | zero => omega
      | succ i => exact spot_ge (l := l) (i := i) hr.2 (by omega) (by simpa using hx)
    · rename_i hb
      have hb : blt (key y) t = false := by simpa using hb
      cases i with
      | zero => simp at hx; subst hx; exact hb
      | succ i =>
        have hm : x ∈ l := List.mem_of_getElem? (by simpa using hx)
        have h1 := hr.1 x hm
        cases hq : blt (key x) t with
        | false => rfl
        | true => rw [blt_trans h1 hq] at hb; cases hb
/-- The one element with a key. -/
def hasK (key : α → ByteArray) [DecidableEq ByteArray] (l : List α) (t : ByteArray) : Bool := l.any fun x => decide (key x = t)
theorem rise_at : ∀ {l : List α} {i j : Nat} {x y : α}, Rise key l → i < j → l[i]? = some x → l[j]? = some y → blt (key x) (key y) = true
  | [], i, j, x, y, _, _, h, _ => by simp at h
  | z :: l, 0, j + 1, x, y, hr, _, hx, hy => by
    simp at hx hy; subst hx; exact hr.1 y (List.mem_of_getElem? hy)
  | z :: l, i + 1, j + 1, x, y, hr, h, hx, hy => rise_at (l := l) (i := i) (j := j) hr.2 (by omega) (by simpa using hx) (by simpa using hy)
/-- An element with the key stands at the key's spot. -/
theorem spot_at {l : List α} {i : Nat} {x : α} (hr : Rise key l) (hx : l[i]? = some x) : spot key l (key x) = i := by
  rcases Nat.lt_trichotomy (spot key l (key x)) i with h | h | h
  · obtain ⟨hi, _⟩ := List.getElem?_eq_some_iff.1 hx
    have hy : l[spot key l (key x)]? = some (l[spot key l (key x)]'(by omega)) := List.getElem?_eq_getElem _
    have h1 := spot_ge hr (Nat.le_refl _) hy
    have h2 := rise_at hr h hy hx
    rw [h1] at h2; cases h2
  · exact h
  · have := spot_lt h hx; rw [blt_irrefl] at this; cases this
theorem rise_of : ∀ {l : List α}, (∀ (i : Nat) (x y : α), l[i]? = some x → l[i + 1]? = some y → blt (key x) (key y) = true) → Rise key l
  | [], _ => trivial
  | [x], _ => ⟨by simp, trivial⟩
  | x :: y :: l, h => by
    have ih : Rise key (y :: l) := rise_of (fun i a b ha hb => h (i + 1) a b (by simpa using ha) (by simpa using hb))
    have hxy := h 0 x y rfl rfl
    refine ⟨fun z hz => ?_, ih⟩
    rcases List.mem_cons.1 hz with rfl | hz
    · exact hxy
    · exact blt_trans hxy (ih.1 z hz)
end
/-! ### The search by halves -/
def mid (i j : Int) : Int := IntKind.i64.wrap (Int.fdiv (IntKind.u64.wrap (IntKind.i64.wrap (i + j))) (2 ^ (min (1 : Int).toNat IntKind.u64.bits)))
theorem mid_eq {i j : Int} (h0 : 0 ≤ i) (h1 : i ≤ j) (h2 : j ≤ 4611686018427387903) : mid i j = (i + j) / 2 := by
  unfold mid
  rw [wI (i + j) (by omega) (by omega)]
  have hu : IntKind.u64.wrap (i + j) = i + j := by
    simp only [IntKind.wrap, IntKind.signed, IntKind.bits, Bool.false_and, Bool.false_eq_true, if_false]
    omega
  rw [hu]
  have hb : (2 : Int) ^ (min (1 : Int).toNat IntKind.u64.bits) = 2 := by decide
  rw [hb, Int.fdiv_eq_ediv_of_nonneg _ (by omega), wI _ (by omega) (by omega)]
def bsG {α : Type} (x : List α) (t : ByteArray) (f : α → ByteArray → Option Int) : Nat → Int → Int → Option (Int × Int)
  | 0, _, _ => none
  | n + 1, i, j => if i < j then ((idx x (mid i j)).bind fun a => (f a t).bind fun v => if v < 0 then bsG x t f n (IntKind.i64.wrap (mid i j + 1)) j else bsG x t f n i (mid i j)) else some (i, j)
theorem bsG_spec {α : Type} {key : α → ByteArray} {x : List α} {t : ByteArray} {f : α → ByteArray → Option Int} (hf : ∀ a, f a t = some (cmpB (key a) t)) (hr : Rise key x) (hl : x.length ≤ 4611686018427387903) : ∀ (n : Nat) (i j : Nat), j - i < n → i ≤ spot key x t → spot key x t ≤ j → j ≤ x.length →
    bsG x t f n (i : Int) (j : Int) = some (((spot key x t : Nat) : Int), ((spot key x t : Nat) : Int))
  | 0, i, j, h, _, _, _ => by omega
  | n + 1, i, j, h, h1, h2, h3 => by
    unfold bsG
    by_cases hij : (i : Int) < j
    · have hm : mid (i : Int) j = (((i + j) / 2 : Nat) : Int) := by rw [mid_eq (by omega) (by omega) (by omega)]; omega
      have hlt : (i + j) / 2 < x.length := by omega
      rw [if_pos hij, hm, idx_of hlt, Option.bind_some, hf, Option.bind_some]
      have hx : x[(i + j) / 2]? = some x[(i + j) / 2] := List.getElem?_eq_getElem hlt
      by_cases hc : cmpB (key x[(i + j) / 2]) t < 0
      · rw [if_pos hc, wI _ (by omega) (by omega), show (((i + j) / 2 : Nat) : Int) + 1 = (((i + j) / 2 + 1 : Nat) : Int) by omega]
        refine bsG_spec hf hr hl n _ _ (by omega) ?_ h2 h3
        rcases Nat.lt_or_ge ((i + j) / 2) (spot key x t) with g | g
        · omega
        · have := spot_ge hr g hx; rw [(cmpB_lt _ _).1 hc] at this; cases this
      · rw [if_neg hc]
        refine bsG_spec hf hr hl n _ _ (by omega) h1 ?_ (by omega)
        rcases Nat.lt_or_ge ((i + j) / 2) (spot key x t) with g | g
        · exact absurd ((cmpB_lt _ _).2 (spot_lt g hx)) hc
        · exact g
    · rw [if_neg hij]
      have : i = spot key x t := by omega
      have h' : j = spot key x t := by omega
      rw [← this, h', ← this]
/-- The whole search: where the key stands or would stand, and whether it is there. -/
def bsW {α : Type} (N : Nat) (x : List α) (t : ByteArray) (f : α → ByteArray → Option Int) : Option (Int × Bool) :=
  (bsG x t f N 0 (x.length : Int)).bind fun q => match q with | (i, j) => (if i < (x.length : Int) then ((idx x i).bind fun a => (f a t).bind fun v => some (i, (v == 0))) else some (i, false))
theorem bsW_spec {α : Type} {key : α → ByteArray} {N : Nat} {x : List α} {t : ByteArray} {f : α → ByteArray → Option Int} (hN : x.length < N) (hf : ∀ a, f a t = some (cmpB (key a) t)) (hr : Rise key x) (hl : x.length ≤ 4611686018427387903) :
    bsW N x t f = some (((spot key x t : Nat) : Int), (x[spot key x t]?).elim false fun a => decide (key a = t)) := by
  unfold bsW
  have h0 := bsG_spec hf hr hl N 0 x.length (by omega) (Nat.zero_le _) (spot_le _ _) (Nat.le_refl _)
  rw [show ((0 : Nat) : Int) = 0 from rfl] at h0
  rw [h0, Option.bind_some]
  show (if ((spot key x t : Nat) : Int) < (x.length : Int) then _ else _) = _
  by_cases h : spot key x t < x.length
  · rw [if_pos (by omega), idx_of h, Option.bind_some, hf, Option.bind_some, List.getElem?_eq_getElem h]
    simp only [Option.elim_some]
    by_cases hc : key x[spot key x t] = t
    · have := (cmpB_eq (key x[spot key x t]) t).2 hc; rw [this]; simp [hc]
    · have : cmpB (key x[spot key x t]) t ≠ 0 := fun e => hc ((cmpB_eq _ _).1 e)
      simp [this, hc]
  · rw [if_neg (by omega), List.getElem?_eq_none (by omega)]
    rfl
end Go.Av
end
section
set_option linter.unusedSimpArgs false
set_option linter.unusedVariables false
set_option maxRecDepth 100000
/-! What is lent row by row may be lent as one box that holds the rows. -/
namespace Go.Av
def boxF : Nat → List Nat → Option (Nat × List Nat) := fun r p => if r = 1000 then (match p with | i :: q => some (1000 + i, q) | [] => none) else none
theorem DoesX.inBox {P : Program} {f : FuncId} {args m m' : List AV} {res : AV} (h : DoesX P f (args.map (AV.mapRef boxF)) m res m') : DoesX P f args [.box true m] res [.box true m'] := by
  intro w G Ts vs hG hTs hS hnd hbl hlen hrd
  match Ts, hTs with
  | [], h0 => simp [HT.erases] at h0
  | _ :: _ :: _, h0 => simp [HT.erases] at h0
  | [T], hTs =>
    have he : T.erase = .box true m := by simpa [HT.erases] using hTs
    have hsT := hS T (by simp)
    cases hsT with
    | leaf a v ha hv => simp only [HT.erase] at he; subst he; simp [AV.leafOk] at ha
    | row => simp [HT.erase] at he
    | nilrow => simp [HT.erase] at he
    | agg => simp [HT.erase] at he
    | tup => simp [HT.erase] at he
    | box b Ks C e hb hn hu hk =>
      simp only [HT.erase, AV.box.injEq, true_and] at he
      have hnd' : (b :: Ks.flatMap HT.blocks).Nodup := by simpa [HT.blocks, HT.blockss_eq] using hnd
      have hbl' : ∀ x, x = b ∨ x ∈ Ks.flatMap HT.blocks → x < w.heap.size ∧ ¬ G x := fun x hx => hbl x (by simpa [HT.blocks, HT.blockss_eq] using hx)
      have hnb : b ∉ Ks.flatMap HT.blocks := (List.nodup_cons.1 hnd').1
      have c := h w G Ks vs hG he (fun K hK => by obtain ⟨i, hi⟩ := List.getElem?_of_mem hK; exact hk i K hi) (List.nodup_cons.1 hnd').2 (fun x hx => hbl' x (.inr hx)) (by simpa using hlen) (fun i a v ha hv => by
        rw [List.getElem?_map] at ha
        obtain ⟨a0, ha0, rfl⟩ := Option.map_eq_some_iff.1 ha
        refine (hrd i a0 v ha0 hv).mapRef (fun r p r' p' hf T' N' hT' hN' hm => ?_)
        simp only [boxF] at hf
        split at hf
        · rename_i e1
          subst e1
          split at hf
          · rename_i j q
            simp only [Option.some.injEq, Prod.mk.injEq] at hf
            obtain ⟨rfl, rfl⟩ := hf
            refine ⟨.box b Ks, N', by simp [regs], ?_, rfl⟩
            have hj : Ks[j]? = some T' := by simpa [regs] using hT'
            simp only [HT.at_, HT.kids, hj]
            exact hN'
          · cases hf
        · cases hf)
      refine c.mono fun e' w' ⟨R, Ts', k1, k2, k3, k4, k5, k6, k7, G', g1, g2, g3, g4, g5⟩ => ?_
      have hbw : b < w.heap.size := (hbl' b (.inl rfl)).1
      have hbR : b ∉ R.blocks ++ Ts'.flatMap HT.blocks := fun hx => by
        rcases (k7 b hx).1 with h1 | h1
        · exact hnb h1
        · omega
      have hbG : ¬ G' b := fun hg => by
        rcases g2 b hg with h1 | h1
        · exact (hbl' b (.inl rfl)).2 h1
        · omega
      have hb' : w'.heap[b]? = some (.cells C e (0, 0)) := (k5.block b hbw hnb).trans hb
      have hlen' : Ts'.length = Ks.length := by
        have := congrArg List.length k4
        rwa [HT.values_eq, HT.values_eq, List.length_map, List.length_map] at this
      have hval : ∀ (i : Nat) (K' : HT), Ts'[i]? = some K' → ∃ K : HT, Ks[i]? = some K ∧ K.value = K'.value := fun i K' hi => by
        have : (List.map HT.value Ts')[i]? = (List.map HT.value Ks)[i]? := by rw [← HT.values_eq, ← HT.values_eq, k4]
        rw [List.getElem?_map, List.getElem?_map, hi] at this
        obtain ⟨K, hK, hKe⟩ := Option.map_eq_some_iff.1 this.symm
        exact ⟨K, hK, hKe⟩
      refine ⟨R, [.box b Ts'], k1, k2, ?_, ?_, ?_, ?_, ?_, G', g1, g2, ?_, g4, ?_⟩
      · simp [HT.erases, HT.erase, k3]
      · simp [HT.values, HT.value]
      · exact ⟨k5.os, k5.tape, k5.output, k5.size, fun j hj hx => k5.block j hj (fun hx' => hx (by simp only [List.flatMap_cons, List.flatMap_nil, HT.blocks, HT.blockss_eq, List.append_nil]; exact List.mem_cons_of_mem _ hx'))⟩
      · simp only [List.flatMap_cons, List.flatMap_nil, HT.blocks, HT.blockss_eq, List.append_nil]
        have hsplit := List.nodup_append.1 k6
        refine List.nodup_append.2 ⟨hsplit.1, List.nodup_cons.2 ⟨fun hx => hbR (List.mem_append_right _ hx), hsplit.2.1⟩, fun a ha b' hb'' => ?_⟩
        rcases List.mem_cons.1 hb'' with rfl | hb''
        · exact fun e => hbR (List.mem_append_left _ (e ▸ ha))
        · exact hsplit.2.2 a ha b' hb''
      · intro x hx
        simp only [List.flatMap_cons, List.flatMap_nil, HT.blocks, HT.blockss_eq, List.append_nil, List.mem_append, List.mem_cons] at hx ⊢
        rcases hx with hx | rfl | hx
        · have := k7 x (List.mem_append_left _ hx)
          exact ⟨this.1.imp (fun h => .inr h) id, this.2⟩
        · exact ⟨.inl (.inl rfl), Nat.lt_of_lt_of_le hbw k5.size⟩
        · have := k7 x (List.mem_append_right _ hx)
          exact ⟨this.1.imp (fun h => .inr h) id, this.2⟩
      · intro x hx
        simp only [List.flatMap_cons, List.flatMap_nil, HT.blocks, HT.blockss_eq, List.append_nil, List.mem_append, List.mem_cons] at hx
        rcases hx with hx | rfl | hx
        · exact g3 x (List.mem_append_left _ hx)
        · exact hbG
        · exact g3 x (List.mem_append_right _ hx)
      · intro K hK
        rw [List.mem_singleton.1 hK]
        refine .box b Ts' C e hb' (by rw [hlen']; exact hn) (fun i K' hi => ?_) (fun i K' hi => g5 K' (List.mem_of_getElem? hi))
        obtain ⟨K, hK1, hK2⟩ := hval i K' hi
        rw [hu i K hK1, hK2]
end Go.Av
end
