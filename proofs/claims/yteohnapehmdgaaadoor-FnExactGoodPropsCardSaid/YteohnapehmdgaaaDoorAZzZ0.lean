/- Nil slices: each may be taken for an own row of no element. -/
import Derived.Test.YteohnapehmdgaaaDoorAZzL
set_option linter.unusedSimpArgs false
set_option linter.unusedVariables false
/-! Nil slices: each may be taken for an own row of no element. -/
namespace Go.Av
mutual
inductive NilLe : AV → AV → Prop
  | refl (A : AV) : NilLe A A
  | nil (sz : Nat) : NilLe (.lit (.slice none 0 0)) (.row true sz 0 [])
  | agg {cs ds : List AV} (h : NilLes cs ds) : NilLe (.agg cs) (.agg ds)
  | tup {cs ds : List AV} (h : NilLes cs ds) : NilLe (.tup cs) (.tup ds)
inductive NilLes : List AV → List AV → Prop
  | nil : NilLes [] []
  | cons {a b : AV} {as bs : List AV} (h : NilLe a b) (t : NilLes as bs) : NilLes (a :: as) (b :: bs)
end
variable {w : World} {G : Nat → Prop}
mutual
theorem nilUp : ∀ (T : HT) (B : AV), Sat w G T → NilLe T.erase B → ∃ T' : HT, T'.erase = B ∧ T'.value = T.value ∧ T'.blocks = T.blocks ∧ Sat w G T'
  | .leaf a v, B, hs, hB => by
    simp only [HT.erase] at hB
    cases hB with
    | refl => exact ⟨.leaf a v, rfl, rfl, rfl, hs⟩
    | nil sz =>
      cases hs with
      | leaf _ _ ha h => cases h; exact ⟨.nilrow sz, rfl, rfl, rfl, .nilrow sz⟩
    | agg h => cases hs with | leaf _ _ ha _ => simp [AV.leafOk] at ha
    | tup h => cases hs with | leaf _ _ ha _ => simp [AV.leafOk] at ha
  | .row b sz n cap cs, B, hs, hB => by
    simp only [HT.erase] at hB
    cases hB with
    | refl => exact ⟨.row b sz n cap cs, rfl, rfl, rfl, hs⟩
  | .nilrow sz, B, hs, hB => by
    simp only [HT.erase] at hB
    cases hB with
    | refl => exact ⟨.nilrow sz, rfl, rfl, rfl, hs⟩
  | .box b cs, B, hs, hB => by
    simp only [HT.erase] at hB
    cases hB with
    | refl => exact ⟨.box b cs, rfl, rfl, rfl, hs⟩
  | .agg cs, B, hs, hB => by
    simp only [HT.erase] at hB
    cases hB with
    | refl => exact ⟨.agg cs, rfl, rfl, rfl, hs⟩
    | agg h =>
      cases hs with
      | agg _ hk =>
        obtain ⟨Ts', h1, h2, h3, h4⟩ := nilUps cs _ (fun K hK => by obtain ⟨i, hi⟩ := List.mem_iff_getElem?.1 hK; exact hk i K hi) h
        exact ⟨.agg Ts', by rw [HT.erase, h1], by rw [HT.value, HT.value, h2], by rw [HT.blocks, HT.blocks, h3], .agg _ fun i T hi => h4 T (List.mem_of_getElem? hi)⟩
  | .tup cs, B, hs, hB => by
    simp only [HT.erase] at hB
    cases hB with
    | refl => exact ⟨.tup cs, rfl, rfl, rfl, hs⟩
    | tup h =>
      cases hs with
      | tup _ hk =>
        obtain ⟨Ts', h1, h2, h3, h4⟩ := nilUps cs _ (fun K hK => by obtain ⟨i, hi⟩ := List.mem_iff_getElem?.1 hK; exact hk i K hi) h
        exact ⟨.tup Ts', by rw [HT.erase, h1], by rw [HT.value, HT.value, h2], by rw [HT.blocks, HT.blocks, h3], .tup _ fun i T hi => h4 T (List.mem_of_getElem? hi)⟩
theorem nilUps : ∀ (Ts : List HT) (Bs : List AV), (∀ K ∈ Ts, Sat w G K) → NilLes (HT.erases Ts) Bs → ∃ Ts' : List HT, HT.erases Ts' = Bs ∧ HT.values Ts' = HT.values Ts ∧ HT.blockss Ts' = HT.blockss Ts ∧ ∀ K ∈ Ts', Sat w G K
  | [], Bs, hs, hB => by
    simp only [HT.erases] at hB
    cases hB
    exact ⟨[], rfl, rfl, rfl, by simp⟩
  | T :: r, Bs, hs, hB => by
    simp only [HT.erases] at hB
    cases hB with
    | cons h t =>
      obtain ⟨T', a1, a2, a3, a4⟩ := nilUp T _ (hs T (by simp)) h
      obtain ⟨Ts', b1, b2, b3, b4⟩ := nilUps r _ (fun K hK => hs K (by simp [hK])) t
      exact ⟨T' :: Ts', by rw [HT.erases, a1, b1], by rw [HT.values, HT.values, a2, b2], by rw [HT.blockss, HT.blockss, a3, b3], fun K hK => by
        rcases List.mem_cons.1 hK with rfl | hK
        · exact a4
        · exact b4 K hK⟩
end

theorem NilLes.refl : ∀ As : List AV, NilLes As As
  | [] => .nil
  | a :: r => .cons (.refl a) (NilLes.refl r)
/-- A cell that holds a slice (elements of 'sz' cells), nil: a row of no element. -/
def nilA : Option Nat → AV → AV
  | some sz, .lit (.slice none 0 0) => .row true sz 0 []
  | _, a => a
def nilTs : List (Option Nat) → List AV → List AV
  | o :: os, a :: as => nilA o a :: nilTs os as
  | _, as => as
theorem nilA_none {a : AV} : nilA none a = a := by cases a <;> rfl
theorem nilA_nil {sz : Nat} : nilA (some sz) (.lit (.slice none 0 0)) = .row true sz 0 [] := rfl
theorem nilA_row {sz : Nat} {o : Bool} {z n : Nat} {cs : List AV} : nilA (some sz) (.row o z n cs) = .row o z n cs := rfl
theorem nilTs_cons {o : Option Nat} {os : List (Option Nat)} {a : AV} {as : List AV} : nilTs (o :: os) (a :: as) = nilA o a :: nilTs os as := rfl
theorem nilTs_nil {as : List AV} : nilTs [] as = as := by cases as <;> rfl
theorem nilTs_end {os : List (Option Nat)} : nilTs os [] = [] := by cases os <;> rfl
theorem nilA_le (o : Option Nat) (a : AV) : NilLe a (nilA o a) := by
  unfold nilA
  split
  · exact .nil _
  · exact .refl _
theorem nilTs_le : ∀ (os : List (Option Nat)) (as : List AV), NilLes as (nilTs os as)
  | [], as => by rw [nilTs_nil]; exact NilLes.refl _
  | o :: os, [] => by rw [nilTs_end]; exact .nil
  | o :: os, a :: as => .cons (nilA_le o a) (nilTs_le os as)
theorem nilTs_len (os : List (Option Nat)) (as : List AV) : (nilTs os as).length = as.length := by
  induction os generalizing as with
  | nil => rw [nilTs_nil]
  | cons o os ih => cases as with
    | nil => rfl
    | cons a as => simp [nilTs_cons, ih]
/-- The same for the cells of several elements. -/
def nilRs (os : List (Option Nat)) : Nat → List AV → List AV
  | 0, as => as
  | n + 1, as => nilTs os (as.take os.length) ++ nilRs os n (as.drop os.length)
theorem NilLes.app {a b c d : List AV} (h : NilLes a b) (k : NilLes c d) : NilLes (a ++ c) (b ++ d) := by
  induction a generalizing b with
  | nil => cases h; exact k
  | cons x r ih => cases h with | cons h1 h2 => exact .cons h1 (ih h2)
theorem nilRs_le (os : List (Option Nat)) : ∀ (n : Nat) (as : List AV), NilLes as (nilRs os n as)
  | 0, as => NilLes.refl _
  | n + 1, as => by
    have := (nilTs_le os (as.take os.length)).app (nilRs_le os n (as.drop os.length))
    rw [List.take_append_drop] at this
    exact this
/-- Which cells of a type hold slices? -/
def nzO (P : Program) (e : TypeId) : Option (Option Nat) := match P.underlying e with
  | some (.slice x) => some (some (P.cellsOf x))
  | _ => some none
def nzF (P : Program) : Nat → TypeId → List (Option Nat)
  | 0, _ => []
  | n + 1, t => match P.underlying t with
    | some (.struct fs) => fs.toList.flatMap fun f => nzF P n f.type
    | some (.slice x) => [some (P.cellsOf x)]
    | some (.array _ _) => []
    | _ => [none]
def nzT (P : Program) (t : TypeId) : List (Option Nat) := nzF P 8 t
/-- The element's. -/
def nzE (P : Program) (t : TypeId) : List (Option Nat) := match P.underlying t with
  | some (.slice e) => nzT P e
  | _ => []
/-- Does any cell hold a slice? -/
def nilB : List (Option Nat) → Bool
  | [] => false
  | none :: r => nilB r
  | some _ :: _ => true
theorem nilB_nil : nilB [] = false := rfl
theorem nilB_none {r : List (Option Nat)} : nilB (none :: r) = nilB r := rfl
theorem nilB_some {n : Nat} {r : List (Option Nat)} : nilB (some n :: r) = true := rfl
def nilRq (os : List (Option Nat)) (n : Nat) (as : List AV) : List AV := cond (nilB os) (nilRs os n as) as
theorem nilRq_le (os : List (Option Nat)) (n : Nat) (as : List AV) : NilLes as (nilRq os n as) := by
  unfold nilRq
  cases nilB os
  · exact NilLes.refl _
  · exact nilRs_le os n as
end Go.Av
