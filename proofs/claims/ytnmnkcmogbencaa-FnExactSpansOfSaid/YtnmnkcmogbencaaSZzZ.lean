/- Nil slices within what is given back: each is an own row of no element. -/
import Derived.Test.YtnmnkcmogbencaaSZzM
set_option linter.unusedSimpArgs false
set_option linter.unusedVariables false
/-! Nil slices within what is given back: each is an own row of no element. -/
namespace Go.Av
mutual
inductive NilLe : AV → AV → Prop
  | refl (A : AV) : NilLe A A
  | nil (sz : Nat) : NilLe (.lit (.slice none 0 0)) (.row true sz 0 [])
  | agg {cs ds : List AV} (h : NilLes cs ds) : NilLe (.agg cs) (.agg ds)
  | tup {cs ds : List AV} (h : NilLes cs ds) : NilLe (.tup cs) (.tup ds)
inductive NilLes : List AV → List AV → Prop
  | nil : NilLes [] []
  | cons {a b : AV} {as bs : List AV} (h : NilLe a b) (t : NilLes as bs) : NilLes (a :: as) (b :: bs)
end
variable {w : World} {G : Nat → Prop}
mutual
theorem nilUp : ∀ (T : HT) (B : AV), Sat w G T → NilLe T.erase B → ∃ T' : HT, T'.erase = B ∧ T'.value = T.value ∧ T'.blocks = T.blocks ∧ Sat w G T'
  | .leaf a v, B, hs, hB => by
    simp only [HT.erase] at hB
    cases hB with
    | refl => exact ⟨.leaf a v, rfl, rfl, rfl, hs⟩
    | nil sz =>
      cases hs with
      | leaf _ _ ha h => cases h; exact ⟨.nilrow sz, rfl, rfl, rfl, .nilrow sz⟩
    | agg h => cases hs with | leaf _ _ ha _ => simp [AV.leafOk] at ha
    | tup h => cases hs with | leaf _ _ ha _ => simp [AV.leafOk] at ha
  | .row b sz n cap cs, B, hs, hB => by
    simp only [HT.erase] at hB
    cases hB with
    | refl => exact ⟨.row b sz n cap cs, rfl, rfl, rfl, hs⟩
  | .nilrow sz, B, hs, hB => by
    simp only [HT.erase] at hB
    cases hB with
    | refl => exact ⟨.nilrow sz, rfl, rfl, rfl, hs⟩
  | .box b cs, B, hs, hB => by
    simp only [HT.erase] at hB
    cases hB with
    | refl => exact ⟨.box b cs, rfl, rfl, rfl, hs⟩
  | .agg cs, B, hs, hB => by
    simp only [HT.erase] at hB
    cases hB with
    | refl => exact ⟨.agg cs, rfl, rfl, rfl, hs⟩
    | agg h =>
      cases hs with
      | agg _ hk =>
        obtain ⟨Ts', h1, h2, h3, h4⟩ := nilUps cs _ (fun K hK => by obtain ⟨i, hi⟩ := List.mem_iff_getElem?.1 hK; exact hk i K hi) h
        exact ⟨.agg Ts', by rw [HT.erase, h1], by rw [HT.value, HT.value, h2], by rw [HT.blocks, HT.blocks, h3], .agg _ fun i T hi => h4 T (List.mem_of_getElem? hi)⟩
  | .tup cs, B, hs, hB => by
    simp only [HT.erase] at hB
    cases hB with
    | refl => exact ⟨.tup cs, rfl, rfl, rfl, hs⟩
    | tup h =>
      cases hs with
      | tup _ hk =>
        obtain ⟨Ts', h1, h2, h3, h4⟩ := nilUps cs _ (fun K hK => by obtain ⟨i, hi⟩ := List.mem_iff_getElem?.1 hK; exact hk i K hi) h
        exact ⟨.tup Ts', by rw [HT.erase, h1], by rw [HT.value, HT.value, h2], by rw [HT.blocks, HT.blocks, h3], .tup _ fun i T hi => h4 T (List.mem_of_getElem? hi)⟩
theorem nilUps : ∀ (Ts : List HT) (Bs : List AV), (∀ K ∈ Ts, Sat w G K) → NilLes (HT.erases Ts) Bs → ∃ Ts' : List HT, HT.erases Ts' = Bs ∧ HT.values Ts' = HT.values Ts ∧ HT.blockss Ts' = HT.blockss Ts ∧ ∀ K ∈ Ts', Sat w G K
  | [], Bs, hs, hB => by
    simp only [HT.erases] at hB
    cases hB
    exact ⟨[], rfl, rfl, rfl, by simp⟩
  | T :: r, Bs, hs, hB => by
    simp only [HT.erases] at hB
    cases hB with
    | cons h t =>
      obtain ⟨T', a1, a2, a3, a4⟩ := nilUp T _ (hs T (by simp)) h
      obtain ⟨Ts', b1, b2, b3, b4⟩ := nilUps r _ (fun K hK => hs K (by simp [hK])) t
      exact ⟨T' :: Ts', by rw [HT.erases, a1, b1], by rw [HT.values, HT.values, a2, b2], by rw [HT.blockss, HT.blockss, a3, b3], fun K hK => by
        rcases List.mem_cons.1 hK with rfl | hK
        · exact a4
        · exact b4 K hK⟩
end
theorem RetJ.nilUp {E : Env} {fn : Func} {A res : AV} {s : ASt} (h : RetJ E fn A s) (hA : NilLe A res) : RetJ E fn res s := fun M G a w hX => by
  obtain ⟨T, h1, rfl, h3, h4, h5⟩ := h M G a w hX
  obtain ⟨T', g1, g2, g3, g4⟩ := Av.nilUp T res h3 hA
  exact ⟨T', by rw [h1, g2], g1, g4, by rw [g3]; exact h4, by rw [g3]; exact h5⟩
def retNs (res : List AV) : Option (List AV × ASt) → Prop
  | some (A, _) => NilLes A res
  | none => False
def retN2 (s : ASt) (res : List AV) : Option AV → Option AV → Prop
  | some v, some v' => retNs res (closeVs s [v, v'])
  | _, _ => False
/-- As ret_q2; nil slices within may be rows of no element. -/
theorem ret_n2 {E : Env} {fn : Func} {A B : AV} {s : ASt} {x y : ResultVar} (hr : fn.results = #[x, y]) (h : retN2 s [A, B] (rview E.P s x) (rview E.P s y)) : RetJ E fn (.tup [A, B]) s := by
  unfold retN2 at h
  split at h
  · rename_i v v' hv hv'
    unfold retNs at h
    split at h
    · rename_i As s' hc
      cases h with
      | cons h1 t => cases t with
        | cons h2 t2 => cases t2; exact (ret_v2 hr hv hv' hc).nilUp (.tup (.cons h1 (.cons h2 .nil)))
    · exact h.elim
  · exact h.elim
end Go.Av
