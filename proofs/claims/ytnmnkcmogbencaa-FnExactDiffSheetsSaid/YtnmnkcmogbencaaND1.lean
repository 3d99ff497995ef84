/- Contracts of functions of this seat, each for every argument within its bounds. -/
import Derived.Test.YtnmnkcmogbencaaNM1
import Derived.Test.YtnmnkcmogbencaaNG3
set_option linter.unusedSimpArgs false
set_option linter.unusedVariables false
set_option maxRecDepth 100000
namespace Go.Av
open Go.Proofs
def idxI (p : Int → Bool) (l : List Int) : Int := match l.findIdx? p with
  | some i => i
  | none => -1
theorem idxI_none {p : Int → Bool} {l : List Int} (h : ∀ x ∈ l, p x = false) : idxI p l = -1 := by
  have : l.findIdx? p = none := List.findIdx?_eq_none_iff.2 (fun x hx => by simp [h x hx])
  simp [idxI, this]
theorem idxI_some {p : Int → Bool} {l : List Int} {i : Nat} (hi : i < l.length) (h : ∀ x ∈ l.take i, p x = false) (hp : p l[i] = true) : idxI p l = i := by
  have : l.findIdx? p = some i := by
    rw [List.findIdx?_eq_some_iff_getElem]
    refine ⟨hi, hp, fun j hj => ?_⟩
    have := h l[j] (List.mem_take_iff_getElem.2 ⟨j, by omega, rfl⟩)
    simp [this]
  simp [idxI, this]
theorem idxI_any {p : Int → Bool} {l : List Int} : decide (idxI p l ≥ 0) = l.any p := by
  cases h : l.findIdx? p with
  | none =>
    have h2 : l.any p = false := by
      rw [List.any_eq_false]
      intro x hx
      have := List.findIdx?_eq_none_iff.1 h x hx
      simp [this]
    simp [idxI, h, h2]
  | some i =>
    have h2 : l.any p = true := by
      rw [List.findIdx?_eq_some_iff_getElem] at h
      obtain ⟨h1, h2, _⟩ := h
      exact List.any_eq_true.2 ⟨_, List.getElem_mem h1, h2⟩
    simp [idxI, h, h2]
theorem take_snoc_all {α : Type} {l : List α} {i : Nat} (hi : i < l.length) {q : α → Prop} (h : ∀ x ∈ l.take i, q x) (h' : q l[i]) : ∀ x ∈ l.take (i + 1), q x := fun x hx => by
  rw [List.take_succ_eq_append_getElem hi, List.mem_append] at hx
  rcases hx with hx | hx
  · exact h x hx
  · simp at hx; rw [hx]; exact h'
theorem indexFuncI_does (f : FuncId) (caps : List AV) (hcaps : AV.noRefs caps = true) (he : entB Try.prog f = true) (p : Int → Bool) (l : List Int) (hl : l.length ≤ 9223372036854775807) (hp : ∀ x ∈ l, Does Try.prog f (I x :: caps) (B (p x))) :
    Does Try.prog 121 [.row false 1 l.length (esInt l), .fn f caps] (I (idxI p l)) := by
  refine Does.walk (nt := 19) Try.func121 rfl rfl (by simp) (by decide) (by simp [AV.noRefs, AV.noRef, hcaps]) (fun G0 X w0 pv => ?_)
  have ff := And.intro @Ty.sl22 (And.intro @Ty.slz22 (And.intro @Ty.ldA3 (And.intro @Ty.ldS3 (And.intro @Ty.sz3 @Ty.szn3))))
  try refine st_by ff ?_
  repeat' (first
    | exact trivial
    | (refine And.intro ?_ ?_; · (try clear ff; first | omega))
    | (refine ret_q1 rfl ?_; (try refine sr_by ff ?_); all_goals (try clear ff); all_goals (try exact trivial); all_goals (skip))
    | (with_reducible refine CBC_eq (fun hp hd => ?_) (fun hp hd => ?_) <;> refine st_by (And.intro hd ff) ?_)
    | (with_reducible refine CBC_ne (fun hp hd => ?_) (fun hp hd => ?_) <;> refine st_by (And.intro hd ff) ?_)
    | (with_reducible refine CBC_decT ?_ (fun hd => ?_); (· try clear ff; first | assumption | omega); refine st_by (And.intro hd ff) ?_)
    | (with_reducible refine CBC_decF ?_ (fun hd => ?_); (· try clear ff; first | assumption | omega); refine st_by (And.intro hd ff) ?_)
    | (with_reducible refine CBC_dec (fun hp hd => ?_) (fun hp hd => ?_) <;> refine st_by (And.intro hd ff) ?_)
    | (refine CBC_bool (fun hd => ?_) (fun hd => ?_) <;> refine st_by (And.intro hd ff) ?_)
    | (with_reducible refine GQ_eq (fun hp hd => ?_) (fun hp hd => ?_) <;> refine st_by (And.intro hd ff) ?_)
    | (with_reducible refine GQ_ne (fun hp hd => ?_) (fun hp hd => ?_) <;> refine st_by (And.intro hd ff) ?_)
    | (with_reducible refine GQ_decT ?_ (fun hd => ?_); (· try clear ff; first | assumption | omega); refine st_by (And.intro hd ff) ?_)
    | (with_reducible refine GQ_decF ?_ (fun hd => ?_); (· try clear ff; first | assumption | omega); refine st_by (And.intro hd ff) ?_)
    | (with_reducible refine GQ_dec (fun hp hd => ?_) (fun hp hd => ?_) <;> refine st_by (And.intro hd ff) ?_)
    | (with_reducible refine GQ_ndT ?_ (fun hd => ?_); (· try clear ff; first | assumption | omega); refine st_by (And.intro hd ff) ?_)
    | (with_reducible refine GQ_ndF ?_ (fun hd => ?_); (· try clear ff; first | assumption | omega); refine st_by (And.intro hd ff) ?_)
    | (with_reducible refine GQ_nd (fun hp hd => ?_) (fun hp hd => ?_) <;> refine st_by (And.intro hd ff) ?_)
    | (refine GQ_nb (fun hd => ?_) (fun hd => ?_) <;> refine st_by (And.intro hd ff) ?_)
    | (refine GQ_bool (fun hd => ?_) (fun hd => ?_) <;> refine st_by (And.intro hd ff) ?_))
  all_goals try clear ff
  refine aw_loop (ι := Nat) (fun i σ => (i ≤ l.length ∧ ∀ x ∈ l.take i, p x = false) ∧ σ.t 0 = .row false 1 l.length (esInt l) ∧ σ.t 1 = .fn f caps ∧ σ.t 7 = I l.length ∧ σ.t 8 = I i) (fun i => l.length - i) 0 ?_ ?_
  · (first | exact cl_by trivial | refine st_by trivial ?_)
    simp
  · rintro i σ ⟨⟨h2, h3⟩, g0, g1, g7, g8⟩
    by_cases hi : i < l.length
    · have w2 : IntKind.i64.wrap ((i : Int) + 1) = ((i + 1 : Nat) : Int) := wI _ (by omega) (by omega)
      have hsn : p l[i] = false → ∀ x ∈ l.take (i + 1), p x = false := take_snoc_all hi h3
      have hso : p l[i] = true → idxI p l = i := idxI_some hi h3
      clear h3
      have ff := And.intro @g0 (And.intro @g1 (And.intro @g7 (And.intro @g8 (And.intro @w2 (And.intro @hi (And.intro @hcaps (And.intro ((esInt_drop l i hi)) (And.intro ((esInt_drop1 l i hi)) (And.intro @esInt_len (And.intro @eInt_eq (And.intro @Ty.sl22 (And.intro @Ty.slz22 (And.intro @Ty.ldA3 (And.intro @Ty.ldS3 (And.intro @Ty.sz3 @Ty.szn3)))))))))))))))
      try refine st_by ff ?_
      repeat' (first
        | exact trivial
        | (refine And.intro ?_ ?_; · (try clear ff; first | omega | (rw [List.length_append]; simp [esInt_len]; omega) | (simp [eInt]; done) | decide | rfl | (simp [esInt_len]; omega)))
        | (refine ret_q1 rfl ?_; (try refine sr_by ff ?_); all_goals (try clear ff); all_goals (try exact trivial); all_goals (rw [hso hd]))
        | (refine cq_call (hp l[i] (List.getElem_mem hi)) ?_ ?_ ⟨?_, ?_⟩; (· first | rfl | exact cl_by ff); (· first | assumption | kernel_rfl); (· first | exact ca_by ff | (refine sa_by ff ?_; try clear ff; first | exact trivial | omega | (rw [List.length_append]; simp [esInt_len]; omega) | (simp [eInt]; done) | decide | rfl | (simp [esInt_len]; omega))); refine st_by ff ?_)
        | (with_reducible refine CBC_eq (fun hp hd => ?_) (fun hp hd => ?_) <;> refine st_by (And.intro hd ff) ?_)
        | (with_reducible refine CBC_ne (fun hp hd => ?_) (fun hp hd => ?_) <;> refine st_by (And.intro hd ff) ?_)
        | (with_reducible refine CBC_decT ?_ (fun hd => ?_); (· try clear ff; first | assumption | omega); refine st_by (And.intro hd ff) ?_)
        | (with_reducible refine CBC_decF ?_ (fun hd => ?_); (· try clear ff; first | assumption | omega); refine st_by (And.intro hd ff) ?_)
        | (with_reducible refine CBC_dec (fun hp hd => ?_) (fun hp hd => ?_) <;> refine st_by (And.intro hd ff) ?_)
        | (refine CBC_bool (fun hd => ?_) (fun hd => ?_) <;> refine st_by (And.intro hd ff) ?_)
        | (with_reducible refine GQ_eq (fun hp hd => ?_) (fun hp hd => ?_) <;> refine st_by (And.intro hd ff) ?_)
        | (with_reducible refine GQ_ne (fun hp hd => ?_) (fun hp hd => ?_) <;> refine st_by (And.intro hd ff) ?_)
        | (with_reducible refine GQ_decT ?_ (fun hd => ?_); (· try clear ff; first | assumption | omega); refine st_by (And.intro hd ff) ?_)
        | (with_reducible refine GQ_decF ?_ (fun hd => ?_); (· try clear ff; first | assumption | omega); refine st_by (And.intro hd ff) ?_)
        | (with_reducible refine GQ_dec (fun hp hd => ?_) (fun hp hd => ?_) <;> refine st_by (And.intro hd ff) ?_)
        | (with_reducible refine GQ_ndT ?_ (fun hd => ?_); (· try clear ff; first | assumption | omega); refine st_by (And.intro hd ff) ?_)
        | (with_reducible refine GQ_ndF ?_ (fun hd => ?_); (· try clear ff; first | assumption | omega); refine st_by (And.intro hd ff) ?_)
        | (with_reducible refine GQ_nd (fun hp hd => ?_) (fun hp hd => ?_) <;> refine st_by (And.intro hd ff) ?_)
        | (refine GQ_nb (fun hd => ?_) (fun hd => ?_) <;> refine st_by (And.intro hd ff) ?_)
        | (refine GQ_bool (fun hd => ?_) (fun hd => ?_) <;> refine st_by (And.intro hd ff) ?_)
        | (try clear ff; refine ⟨i + 1, ⟨⟨?_, ?_⟩, rfl⟩, ?_⟩; (· omega); (· exact hsn hd); (· omega)))
      all_goals try clear ff
    · rw [List.take_of_length_le (by omega)] at h3
      have ff := And.intro @g0 (And.intro @g1 (And.intro @g7 (And.intro @g8 (And.intro @Ty.sl22 (And.intro @Ty.slz22 (And.intro @Ty.ldA3 (And.intro @Ty.ldS3 (And.intro @Ty.sz3 @Ty.szn3))))))))
      try refine st_by ff ?_
      repeat' (first
        | exact trivial
        | (refine And.intro ?_ ?_; · (try clear ff; first | omega))
        | (refine ret_q1 rfl ?_; (try refine sr_by ff ?_); all_goals (try clear ff); all_goals (try exact trivial); all_goals (rw [idxI_none h3]))
        | (with_reducible refine CBC_eq (fun hp hd => ?_) (fun hp hd => ?_) <;> refine st_by (And.intro hd ff) ?_)
        | (with_reducible refine CBC_ne (fun hp hd => ?_) (fun hp hd => ?_) <;> refine st_by (And.intro hd ff) ?_)
        | (with_reducible refine CBC_decT ?_ (fun hd => ?_); (· try clear ff; first | assumption | omega); refine st_by (And.intro hd ff) ?_)
        | (with_reducible refine CBC_decF ?_ (fun hd => ?_); (· try clear ff; first | assumption | omega); refine st_by (And.intro hd ff) ?_)
        | (with_reducible refine CBC_dec (fun hp hd => ?_) (fun hp hd => ?_) <;> refine st_by (And.intro hd ff) ?_)
        | (refine CBC_bool (fun hd => ?_) (fun hd => ?_) <;> refine st_by (And.intro hd ff) ?_)
        | (with_reducible refine GQ_eq (fun hp hd => ?_) (fun hp hd => ?_) <;> refine st_by (And.intro hd ff) ?_)
        | (with_reducible refine GQ_ne (fun hp hd => ?_) (fun hp hd => ?_) <;> refine st_by (And.intro hd ff) ?_)
        | (with_reducible refine GQ_decT ?_ (fun hd => ?_); (· try clear ff; first | assumption | omega); refine st_by (And.intro hd ff) ?_)
        | (with_reducible refine GQ_decF ?_ (fun hd => ?_); (· try clear ff; first | assumption | omega); refine st_by (And.intro hd ff) ?_)
        | (with_reducible refine GQ_dec (fun hp hd => ?_) (fun hp hd => ?_) <;> refine st_by (And.intro hd ff) ?_)
        | (with_reducible refine GQ_ndT ?_ (fun hd => ?_); (· try clear ff; first | assumption | omega); refine st_by (And.intro hd ff) ?_)
        | (with_reducible refine GQ_ndF ?_ (fun hd => ?_); (· try clear ff; first | assumption | omega); refine st_by (And.intro hd ff) ?_)
        | (with_reducible refine GQ_nd (fun hp hd => ?_) (fun hp hd => ?_) <;> refine st_by (And.intro hd ff) ?_)
        | (refine GQ_nb (fun hd => ?_) (fun hd => ?_) <;> refine st_by (And.intro hd ff) ?_)
        | (refine GQ_bool (fun hd => ?_) (fun hd => ?_) <;> refine st_by (And.intro hd ff) ?_))
      all_goals try clear ff
theorem containsFuncI_does (f : FuncId) (caps : List AV) (hcaps : AV.noRefs caps = true) (he : entB Try.prog f = true) (p : Int → Bool) (l : List Int) (hl : l.length ≤ 9223372036854775807) (hp : ∀ x ∈ l, Does Try.prog f (I x :: caps) (B (p x))) :
    Does Try.prog 66 [.row false 1 l.length (esInt l), .fn f caps] (B (l.any p)) := by
  refine Does.walk (nt := 9) Try.func66 rfl rfl (by simp) (by decide) (by simp [AV.noRefs, AV.noRef, hcaps]) (fun G0 X w0 pv => ?_)
  have ff := @hcaps
  try refine st_by ff ?_
  repeat' (first
    | exact trivial
    | (refine And.intro ?_ ?_; · (try clear ff; first | omega))
    | (refine ret_q1 rfl ?_; (try refine sr_by ff ?_); all_goals (try clear ff); all_goals (try exact trivial); all_goals (simp only [idxI_any]))
    | (refine cq_call (indexFuncI_does f caps hcaps he p l hl hp) ?_ ?_ ⟨?_, ?_⟩; (· first | rfl | exact cl_by ff); (· first | assumption | kernel_rfl); (· first | exact ca_by ff | (refine sa_by ff ?_; try clear ff; first | exact trivial | omega)); refine st_by ff ?_)
    | (with_reducible refine CBC_eq (fun hp hd => ?_) (fun hp hd => ?_) <;> refine st_by (And.intro hd ff) ?_)
    | (with_reducible refine CBC_ne (fun hp hd => ?_) (fun hp hd => ?_) <;> refine st_by (And.intro hd ff) ?_)
    | (with_reducible refine CBC_decT ?_ (fun hd => ?_); (· try clear ff; first | assumption | omega); refine st_by (And.intro hd ff) ?_)
    | (with_reducible refine CBC_decF ?_ (fun hd => ?_); (· try clear ff; first | assumption | omega); refine st_by (And.intro hd ff) ?_)
    | (with_reducible refine CBC_dec (fun hp hd => ?_) (fun hp hd => ?_) <;> refine st_by (And.intro hd ff) ?_)
    | (refine CBC_bool (fun hd => ?_) (fun hd => ?_) <;> refine st_by (And.intro hd ff) ?_)
    | (with_reducible refine GQ_eq (fun hp hd => ?_) (fun hp hd => ?_) <;> refine st_by (And.intro hd ff) ?_)
    | (with_reducible refine GQ_ne (fun hp hd => ?_) (fun hp hd => ?_) <;> refine st_by (And.intro hd ff) ?_)
    | (with_reducible refine GQ_decT ?_ (fun hd => ?_); (· try clear ff; first | assumption | omega); refine st_by (And.intro hd ff) ?_)
    | (with_reducible refine GQ_decF ?_ (fun hd => ?_); (· try clear ff; first | assumption | omega); refine st_by (And.intro hd ff) ?_)
    | (with_reducible refine GQ_dec (fun hp hd => ?_) (fun hp hd => ?_) <;> refine st_by (And.intro hd ff) ?_)
    | (with_reducible refine GQ_ndT ?_ (fun hd => ?_); (· try clear ff; first | assumption | omega); refine st_by (And.intro hd ff) ?_)
    | (with_reducible refine GQ_ndF ?_ (fun hd => ?_); (· try clear ff; first | assumption | omega); refine st_by (And.intro hd ff) ?_)
    | (with_reducible refine GQ_nd (fun hp hd => ?_) (fun hp hd => ?_) <;> refine st_by (And.intro hd ff) ?_)
    | (refine GQ_nb (fun hd => ?_) (fun hd => ?_) <;> refine st_by (And.intro hd ff) ?_)
    | (refine GQ_bool (fun hd => ?_) (fun hd => ?_) <;> refine st_by (And.intro hd ff) ?_))
  all_goals try clear ff
theorem isColor_does (n : Int) : Does Try.prog 89 [I n] (B (rng n 0 16777215)) := by
  refine Does.walk (nt := 5) Try.func89 rfl rfl (by simp) (by decide) rfl (fun G0 X w0 pv => ?_)
  have ff := trivial
  try refine st_by ff ?_
  repeat' (first
    | exact trivial
    | (refine And.intro ?_ ?_; · (try clear ff; first | omega))
    | (refine ret_q1 rfl ?_; (try refine sr_by ff ?_); all_goals (try clear ff); all_goals (try exact trivial); all_goals (rfl))
    | (refine cq_call (inRange_does n 0 16777215) ?_ ?_ ⟨?_, ?_⟩; (· first | rfl | exact cl_by ff); (· first | assumption | kernel_rfl); (· first | exact ca_by ff | (refine sa_by ff ?_; try clear ff; first | exact trivial | omega)); refine st_by ff ?_)
    | (with_reducible refine CBC_eq (fun hp hd => ?_) (fun hp hd => ?_) <;> refine st_by (And.intro hd ff) ?_)
    | (with_reducible refine CBC_ne (fun hp hd => ?_) (fun hp hd => ?_) <;> refine st_by (And.intro hd ff) ?_)
    | (with_reducible refine CBC_decT ?_ (fun hd => ?_); (· try clear ff; first | assumption | omega); refine st_by (And.intro hd ff) ?_)
    | (with_reducible refine CBC_decF ?_ (fun hd => ?_); (· try clear ff; first | assumption | omega); refine st_by (And.intro hd ff) ?_)
    | (with_reducible refine CBC_dec (fun hp hd => ?_) (fun hp hd => ?_) <;> refine st_by (And.intro hd ff) ?_)
    | (refine CBC_bool (fun hd => ?_) (fun hd => ?_) <;> refine st_by (And.intro hd ff) ?_)
    | (with_reducible refine GQ_eq (fun hp hd => ?_) (fun hp hd => ?_) <;> refine st_by (And.intro hd ff) ?_)
    | (with_reducible refine GQ_ne (fun hp hd => ?_) (fun hp hd => ?_) <;> refine st_by (And.intro hd ff) ?_)
    | (with_reducible refine GQ_decT ?_ (fun hd => ?_); (· try clear ff; first | assumption | omega); refine st_by (And.intro hd ff) ?_)
    | (with_reducible refine GQ_decF ?_ (fun hd => ?_); (· try clear ff; first | assumption | omega); refine st_by (And.intro hd ff) ?_)
    | (with_reducible refine GQ_dec (fun hp hd => ?_) (fun hp hd => ?_) <;> refine st_by (And.intro hd ff) ?_)
    | (with_reducible refine GQ_ndT ?_ (fun hd => ?_); (· try clear ff; first | assumption | omega); refine st_by (And.intro hd ff) ?_)
    | (with_reducible refine GQ_ndF ?_ (fun hd => ?_); (· try clear ff; first | assumption | omega); refine st_by (And.intro hd ff) ?_)
    | (with_reducible refine GQ_nd (fun hp hd => ?_) (fun hp hd => ?_) <;> refine st_by (And.intro hd ff) ?_)
    | (refine GQ_nb (fun hd => ?_) (fun hd => ?_) <;> refine st_by (And.intro hd ff) ?_)
    | (refine GQ_bool (fun hd => ?_) (fun hd => ?_) <;> refine st_by (And.intro hd ff) ?_))
  all_goals try clear ff
theorem l20Color_does (n : Int) : Does Try.prog 86 [I n] (B (rng n 0 16777215)) := by
  refine Does.walk (nt := 5) Try.func86 rfl rfl (by simp) (by decide) rfl (fun G0 X w0 pv => ?_)
  have ff := trivial
  try refine st_by ff ?_
  repeat' (first
    | exact trivial
    | (refine And.intro ?_ ?_; · (try clear ff; first | omega))
    | (refine ret_q1 rfl ?_; (try refine sr_by ff ?_); all_goals (try clear ff); all_goals (try exact trivial); all_goals (rfl))
    | (refine cq_call (l1In_does n 0 16777215) ?_ ?_ ⟨?_, ?_⟩; (· first | rfl | exact cl_by ff); (· first | assumption | kernel_rfl); (· first | exact ca_by ff | (refine sa_by ff ?_; try clear ff; first | exact trivial | omega)); refine st_by ff ?_)
    | (with_reducible refine CBC_eq (fun hp hd => ?_) (fun hp hd => ?_) <;> refine st_by (And.intro hd ff) ?_)
    | (with_reducible refine CBC_ne (fun hp hd => ?_) (fun hp hd => ?_) <;> refine st_by (And.intro hd ff) ?_)
    | (with_reducible refine CBC_decT ?_ (fun hd => ?_); (· try clear ff; first | assumption | omega); refine st_by (And.intro hd ff) ?_)
    | (with_reducible refine CBC_decF ?_ (fun hd => ?_); (· try clear ff; first | assumption | omega); refine st_by (And.intro hd ff) ?_)
    | (with_reducible refine CBC_dec (fun hp hd => ?_) (fun hp hd => ?_) <;> refine st_by (And.intro hd ff) ?_)
    | (refine CBC_bool (fun hd => ?_) (fun hd => ?_) <;> refine st_by (And.intro hd ff) ?_)
    | (with_reducible refine GQ_eq (fun hp hd => ?_) (fun hp hd => ?_) <;> refine st_by (And.intro hd ff) ?_)
    | (with_reducible refine GQ_ne (fun hp hd => ?_) (fun hp hd => ?_) <;> refine st_by (And.intro hd ff) ?_)
    | (with_reducible refine GQ_decT ?_ (fun hd => ?_); (· try clear ff; first | assumption | omega); refine st_by (And.intro hd ff) ?_)
    | (with_reducible refine GQ_decF ?_ (fun hd => ?_); (· try clear ff; first | assumption | omega); refine st_by (And.intro hd ff) ?_)
    | (with_reducible refine GQ_dec (fun hp hd => ?_) (fun hp hd => ?_) <;> refine st_by (And.intro hd ff) ?_)
    | (with_reducible refine GQ_ndT ?_ (fun hd => ?_); (· try clear ff; first | assumption | omega); refine st_by (And.intro hd ff) ?_)
    | (with_reducible refine GQ_ndF ?_ (fun hd => ?_); (· try clear ff; first | assumption | omega); refine st_by (And.intro hd ff) ?_)
    | (with_reducible refine GQ_nd (fun hp hd => ?_) (fun hp hd => ?_) <;> refine st_by (And.intro hd ff) ?_)
    | (refine GQ_nb (fun hd => ?_) (fun hd => ?_) <;> refine st_by (And.intro hd ff) ?_)
    | (refine GQ_bool (fun hd => ?_) (fun hd => ?_) <;> refine st_by (And.intro hd ff) ?_))
  all_goals try clear ff
theorem notColor_does (n : Int) : Does Try.prog 127 [I n] (B (!rng n 0 16777215)) := by
  refine Does.walk (nt := 6) Try.func127 rfl rfl (by simp) (by decide) rfl (fun G0 X w0 pv => ?_)
  have ff := trivial
  try refine st_by ff ?_
  repeat' (first
    | exact trivial
    | (refine And.intro ?_ ?_; · (try clear ff; first | omega))
    | (refine ret_q1 rfl ?_; (try refine sr_by ff ?_); all_goals (try clear ff); all_goals (try exact trivial); all_goals (rfl))
    | (refine cq_call (isColor_does n) ?_ ?_ ⟨?_, ?_⟩; (· first | rfl | exact cl_by ff); (· first | assumption | kernel_rfl); (· first | exact ca_by ff | (refine sa_by ff ?_; try clear ff; first | exact trivial | omega)); refine st_by ff ?_)
    | (with_reducible refine CBC_eq (fun hp hd => ?_) (fun hp hd => ?_) <;> refine st_by (And.intro hd ff) ?_)
    | (with_reducible refine CBC_ne (fun hp hd => ?_) (fun hp hd => ?_) <;> refine st_by (And.intro hd ff) ?_)
    | (with_reducible refine CBC_decT ?_ (fun hd => ?_); (· try clear ff; first | assumption | omega); refine st_by (And.intro hd ff) ?_)
    | (with_reducible refine CBC_decF ?_ (fun hd => ?_); (· try clear ff; first | assumption | omega); refine st_by (And.intro hd ff) ?_)
    | (with_reducible refine CBC_dec (fun hp hd => ?_) (fun hp hd => ?_) <;> refine st_by (And.intro hd ff) ?_)
    | (refine CBC_bool (fun hd => ?_) (fun hd => ?_) <;> refine st_by (And.intro hd ff) ?_)
    | (with_reducible refine GQ_eq (fun hp hd => ?_) (fun hp hd => ?_) <;> refine st_by (And.intro hd ff) ?_)
    | (with_reducible refine GQ_ne (fun hp hd => ?_) (fun hp hd => ?_) <;> refine st_by (And.intro hd ff) ?_)
    | (with_reducible refine GQ_decT ?_ (fun hd => ?_); (· try clear ff; first | assumption | omega); refine st_by (And.intro hd ff) ?_)
    | (with_reducible refine GQ_decF ?_ (fun hd => ?_); (· try clear ff; first | assumption | omega); refine st_by (And.intro hd ff) ?_)
    | (with_reducible refine GQ_dec (fun hp hd => ?_) (fun hp hd => ?_) <;> refine st_by (And.intro hd ff) ?_)
    | (with_reducible refine GQ_ndT ?_ (fun hd => ?_); (· try clear ff; first | assumption | omega); refine st_by (And.intro hd ff) ?_)
    | (with_reducible refine GQ_ndF ?_ (fun hd => ?_); (· try clear ff; first | assumption | omega); refine st_by (And.intro hd ff) ?_)
    | (with_reducible refine GQ_nd (fun hp hd => ?_) (fun hp hd => ?_) <;> refine st_by (And.intro hd ff) ?_)
    | (refine GQ_nb (fun hd => ?_) (fun hd => ?_) <;> refine st_by (And.intro hd ff) ?_)
    | (refine GQ_bool (fun hd => ?_) (fun hd => ?_) <;> refine st_by (And.intro hd ff) ?_))
  all_goals try clear ff
def goodSheet (s : GSheet) : Bool := rng s.Wide 1 24 && (rng s.High 1 24 && (((s.Pixels.length : Int) == IntKind.i64.wrap (s.Wide * s.High)) && !(s.Pixels.any fun n => !rng n 0 16777215)))
theorem implGoodSheet_does (s : GSheet) (hl : s.Pixels.length ≤ 9223372036854775807) : Does Try.prog 83 [.agg (eSheet s)] (B (goodSheet s)) := by
  refine Does.walk (nt := 28) Try.func83 rfl rfl (by simp) (by decide) rfl (fun G0 X w0 pv => ?_)
  have ff := And.intro @eSheet_eq (And.intro @Ty.ldA3 (And.intro @Ty.ldS3 (And.intro @Ty.sz3 (And.intro @Ty.szn3 (And.intro @Ty.ldA22 (And.intro @Ty.ldS22 (And.intro @Ty.sz22 (And.intro @Ty.szn22 (And.intro @Ty.fo51_0 (And.intro @Ty.fk51_0 (And.intro @Ty.fs51_0 (And.intro @Ty.fn51_0 (And.intro @Ty.fo51_1 (And.intro @Ty.fk51_1 (And.intro @Ty.fs51_1 (And.intro @Ty.fn51_1 (And.intro @Ty.fo51_2 (And.intro @Ty.fk51_2 (And.intro @Ty.fs51_2 (And.intro @Ty.fn51_2 @Ty.sl22))))))))))))))))))))
  try refine st_by ff ?_
  repeat' (first
    | exact trivial
    | (refine And.intro ?_ ?_; · (try clear ff; first | omega))
    | (refine ret_q1 rfl ?_; (try refine sr_by ff ?_); all_goals (try clear ff); all_goals (try exact trivial); all_goals (simp_all [goodSheet]))
    | (refine cq_call (inRange_does s.Wide 1 24) ?_ ?_ ⟨?_, ?_⟩; (· first | rfl | exact cl_by ff); (· first | assumption | kernel_rfl); (· first | exact ca_by ff | (refine sa_by ff ?_; try clear ff; first | exact trivial | omega)); refine st_by ff ?_)
    | (refine cq_call (inRange_does s.High 1 24) ?_ ?_ ⟨?_, ?_⟩; (· first | rfl | exact cl_by ff); (· first | assumption | kernel_rfl); (· first | exact ca_by ff | (refine sa_by ff ?_; try clear ff; first | exact trivial | omega)); refine st_by ff ?_)
    | (refine cq_call (containsFuncI_does 127 [] rfl rfl (fun n => !rng n 0 16777215) s.Pixels hl (fun x _ => notColor_does x)) ?_ ?_ ⟨?_, ?_⟩; (· first | rfl | exact cl_by ff); (· first | assumption | kernel_rfl); (· first | exact ca_by ff | (refine sa_by ff ?_; try clear ff; first | exact trivial | omega)); refine st_by ff ?_)
    | (with_reducible refine CBC_eq (fun hp hd => ?_) (fun hp hd => ?_) <;> refine st_by (And.intro hd ff) ?_)
    | (with_reducible refine CBC_ne (fun hp hd => ?_) (fun hp hd => ?_) <;> refine st_by (And.intro hd ff) ?_)
    | (with_reducible refine CBC_decT ?_ (fun hd => ?_); (· try clear ff; first | assumption | omega); refine st_by (And.intro hd ff) ?_)
    | (with_reducible refine CBC_decF ?_ (fun hd => ?_); (· try clear ff; first | assumption | omega); refine st_by (And.intro hd ff) ?_)
    | (with_reducible refine CBC_dec (fun hp hd => ?_) (fun hp hd => ?_) <;> refine st_by (And.intro hd ff) ?_)
    | (refine CBC_bool (fun hd => ?_) (fun hd => ?_) <;> refine st_by (And.intro hd ff) ?_)
    | (with_reducible refine GQ_eq (fun hp hd => ?_) (fun hp hd => ?_) <;> refine st_by (And.intro hd ff) ?_)
    | (with_reducible refine GQ_ne (fun hp hd => ?_) (fun hp hd => ?_) <;> refine st_by (And.intro hd ff) ?_)
    | (with_reducible refine GQ_decT ?_ (fun hd => ?_); (· try clear ff; first | assumption | omega); refine st_by (And.intro hd ff) ?_)
    | (with_reducible refine GQ_decF ?_ (fun hd => ?_); (· try clear ff; first | assumption | omega); refine st_by (And.intro hd ff) ?_)
    | (with_reducible refine GQ_dec (fun hp hd => ?_) (fun hp hd => ?_) <;> refine st_by (And.intro hd ff) ?_)
    | (with_reducible refine GQ_ndT ?_ (fun hd => ?_); (· try clear ff; first | assumption | omega); refine st_by (And.intro hd ff) ?_)
    | (with_reducible refine GQ_ndF ?_ (fun hd => ?_); (· try clear ff; first | assumption | omega); refine st_by (And.intro hd ff) ?_)
    | (with_reducible refine GQ_nd (fun hp hd => ?_) (fun hp hd => ?_) <;> refine st_by (And.intro hd ff) ?_)
    | (refine GQ_nb (fun hd => ?_) (fun hd => ?_) <;> refine st_by (And.intro hd ff) ?_)
    | (refine GQ_bool (fun hd => ?_) (fun hd => ?_) <;> refine st_by (And.intro hd ff) ?_))
  all_goals try clear ff
theorem specGoodSheet_does (s : GSheet) (hl : s.Pixels.length ≤ 9223372036854775807) : Does Try.prog 82 [.agg (eSheet s)] (B (goodSheet s)) := by
  refine Does.walk (nt := 37) Try.func82 rfl rfl (by simp) (by decide) rfl (fun G0 X w0 pv => ?_)
  have ff := And.intro @eSheet_eq (And.intro @Ty.sl22 (And.intro @Ty.slz22 (And.intro @Ty.ldA3 (And.intro @Ty.ldS3 (And.intro @Ty.sz3 (And.intro @Ty.szn3 (And.intro @Ty.ldA22 (And.intro @Ty.ldS22 (And.intro @Ty.sz22 (And.intro @Ty.szn22 (And.intro @Ty.fo51_0 (And.intro @Ty.fk51_0 (And.intro @Ty.fs51_0 (And.intro @Ty.fn51_0 (And.intro @Ty.fo51_1 (And.intro @Ty.fk51_1 (And.intro @Ty.fs51_1 (And.intro @Ty.fn51_1 (And.intro @Ty.fo51_2 (And.intro @Ty.fk51_2 (And.intro @Ty.fs51_2 @Ty.fn51_2)))))))))))))))))))))
  try refine st_by ff ?_
  repeat' (first
    | exact trivial
    | (refine And.intro ?_ ?_; · (try clear ff; first | omega))
    | (refine ret_q1 rfl ?_; (try refine sr_by ff ?_); all_goals (try clear ff); all_goals (try exact trivial); all_goals (simp_all [goodSheet]))
    | (refine cq_call (l1In_does s.Wide 1 24) ?_ ?_ ⟨?_, ?_⟩; (· first | rfl | exact cl_by ff); (· first | assumption | kernel_rfl); (· first | exact ca_by ff | (refine sa_by ff ?_; try clear ff; first | exact trivial | omega)); refine st_by ff ?_)
    | (refine cq_call (l1In_does s.High 1 24) ?_ ?_ ⟨?_, ?_⟩; (· first | rfl | exact cl_by ff); (· first | assumption | kernel_rfl); (· first | exact ca_by ff | (refine sa_by ff ?_; try clear ff; first | exact trivial | omega)); refine st_by ff ?_)
    | (with_reducible refine CBC_eq (fun hp hd => ?_) (fun hp hd => ?_) <;> refine st_by (And.intro hd ff) ?_)
    | (with_reducible refine CBC_ne (fun hp hd => ?_) (fun hp hd => ?_) <;> refine st_by (And.intro hd ff) ?_)
    | (with_reducible refine CBC_decT ?_ (fun hd => ?_); (· try clear ff; first | assumption | omega); refine st_by (And.intro hd ff) ?_)
    | (with_reducible refine CBC_decF ?_ (fun hd => ?_); (· try clear ff; first | assumption | omega); refine st_by (And.intro hd ff) ?_)
    | (with_reducible refine CBC_dec (fun hp hd => ?_) (fun hp hd => ?_) <;> refine st_by (And.intro hd ff) ?_)
    | (refine CBC_bool (fun hd => ?_) (fun hd => ?_) <;> refine st_by (And.intro hd ff) ?_)
    | (with_reducible refine GQ_eq (fun hp hd => ?_) (fun hp hd => ?_) <;> refine st_by (And.intro hd ff) ?_)
    | (with_reducible refine GQ_ne (fun hp hd => ?_) (fun hp hd => ?_) <;> refine st_by (And.intro hd ff) ?_)
    | (with_reducible refine GQ_decT ?_ (fun hd => ?_); (· try clear ff; first | assumption | omega); refine st_by (And.intro hd ff) ?_)
    | (with_reducible refine GQ_decF ?_ (fun hd => ?_); (· try clear ff; first | assumption | omega); refine st_by (And.intro hd ff) ?_)
    | (with_reducible refine GQ_dec (fun hp hd => ?_) (fun hp hd => ?_) <;> refine st_by (And.intro hd ff) ?_)
    | (with_reducible refine GQ_ndT ?_ (fun hd => ?_); (· try clear ff; first | assumption | omega); refine st_by (And.intro hd ff) ?_)
    | (with_reducible refine GQ_ndF ?_ (fun hd => ?_); (· try clear ff; first | assumption | omega); refine st_by (And.intro hd ff) ?_)
    | (with_reducible refine GQ_nd (fun hp hd => ?_) (fun hp hd => ?_) <;> refine st_by (And.intro hd ff) ?_)
    | (refine GQ_nb (fun hd => ?_) (fun hd => ?_) <;> refine st_by (And.intro hd ff) ?_)
    | (refine GQ_bool (fun hd => ?_) (fun hd => ?_) <;> refine st_by (And.intro hd ff) ?_))
  all_goals try clear ff
  have hg : goodSheet s = !(s.Pixels.any fun n => !rng n 0 16777215) := by simp_all [goodSheet]
  rw [hg]
  refine aw_loop (ι := Nat) (fun i σ => (i ≤ s.Pixels.length ∧ ∀ x ∈ s.Pixels.take i, rng x 0 16777215 = true) ∧ σ.t 27 = .row false 1 s.Pixels.length (esInt s.Pixels) ∧ σ.t 28 = I s.Pixels.length ∧ σ.t 29 = I i) (fun i => s.Pixels.length - i) 0 ?_ ?_
  · (first | exact cl_by trivial | refine st_by trivial ?_)
    simp
  · rintro i σ ⟨⟨h2, h3⟩, g7, g8, g9⟩
    by_cases hi : i < s.Pixels.length
    · have w2 : IntKind.i64.wrap ((i : Int) + 1) = ((i + 1 : Nat) : Int) := wI _ (by omega) (by omega)
      have hsn : rng s.Pixels[i] 0 16777215 = true → ∀ x ∈ s.Pixels.take (i + 1), rng x 0 16777215 = true := take_snoc_all hi h3
      have hso : rng s.Pixels[i] 0 16777215 = false → (s.Pixels.any fun n => !rng n 0 16777215) = true := fun h => List.any_eq_true.2 ⟨_, List.getElem_mem hi, by simp [h]⟩
      clear h3
      have ff := And.intro @g7 (And.intro @g8 (And.intro @g9 (And.intro @w2 (And.intro @hi (And.intro ((esInt_drop s.Pixels i hi)) (And.intro ((esInt_drop1 s.Pixels i hi)) (And.intro @esInt_len (And.intro @eInt_eq (And.intro @Ty.sl22 (And.intro @Ty.slz22 (And.intro @Ty.ldA3 (And.intro @Ty.ldS3 (And.intro @Ty.sz3 (And.intro @Ty.szn3 (And.intro @Ty.ldA22 (And.intro @Ty.ldS22 (And.intro @Ty.sz22 (And.intro @Ty.szn22 (And.intro @Ty.fo51_0 (And.intro @Ty.fk51_0 (And.intro @Ty.fs51_0 (And.intro @Ty.fn51_0 (And.intro @Ty.fo51_1 (And.intro @Ty.fk51_1 (And.intro @Ty.fs51_1 (And.intro @Ty.fn51_1 (And.intro @Ty.fo51_2 (And.intro @Ty.fk51_2 (And.intro @Ty.fs51_2 @Ty.fn51_2)))))))))))))))))))))))))))))
      try refine st_by ff ?_
      repeat' (first
        | exact trivial
        | (refine And.intro ?_ ?_; · (try clear ff; first | omega | (rw [List.length_append]; simp [esInt_len]; omega) | (simp [eInt]; done) | decide | (simp [esInt_len]; omega)))
        | (refine ret_q1 rfl ?_; (try refine sr_by ff ?_); all_goals (try clear ff); all_goals (try exact trivial); all_goals ((rw [hso hd]; rfl)))
        | (refine cq_call (l20Color_does s.Pixels[i]) ?_ ?_ ⟨?_, ?_⟩; (· first | rfl | exact cl_by ff); (· first | assumption | kernel_rfl); (· first | exact ca_by ff | (refine sa_by ff ?_; try clear ff; first | exact trivial | omega | (rw [List.length_append]; simp [esInt_len]; omega) | (simp [eInt]; done) | decide | (simp [esInt_len]; omega))); refine st_by ff ?_)
        | (with_reducible refine CBC_eq (fun hp hd => ?_) (fun hp hd => ?_) <;> refine st_by (And.intro hd ff) ?_)
        | (with_reducible refine CBC_ne (fun hp hd => ?_) (fun hp hd => ?_) <;> refine st_by (And.intro hd ff) ?_)
        | (with_reducible refine CBC_decT ?_ (fun hd => ?_); (· try clear ff; first | assumption | omega); refine st_by (And.intro hd ff) ?_)
        | (with_reducible refine CBC_decF ?_ (fun hd => ?_); (· try clear ff; first | assumption | omega); refine st_by (And.intro hd ff) ?_)
        | (with_reducible refine CBC_dec (fun hp hd => ?_) (fun hp hd => ?_) <;> refine st_by (And.intro hd ff) ?_)
        | (refine CBC_bool (fun hd => ?_) (fun hd => ?_) <;> refine st_by (And.intro hd ff) ?_)
        | (with_reducible refine GQ_eq (fun hp hd => ?_) (fun hp hd => ?_) <;> refine st_by (And.intro hd ff) ?_)
        | (with_reducible refine GQ_ne (fun hp hd => ?_) (fun hp hd => ?_) <;> refine st_by (And.intro hd ff) ?_)
        | (with_reducible refine GQ_decT ?_ (fun hd => ?_); (· try clear ff; first | assumption | omega); refine st_by (And.intro hd ff) ?_)
        | (with_reducible refine GQ_decF ?_ (fun hd => ?_); (· try clear ff; first | assumption | omega); refine st_by (And.intro hd ff) ?_)
        | (with_reducible refine GQ_dec (fun hp hd => ?_) (fun hp hd => ?_) <;> refine st_by (And.intro hd ff) ?_)
        | (with_reducible refine GQ_ndT ?_ (fun hd => ?_); (· try clear ff; first | assumption | omega); refine st_by (And.intro hd ff) ?_)
        | (with_reducible refine GQ_ndF ?_ (fun hd => ?_); (· try clear ff; first | assumption | omega); refine st_by (And.intro hd ff) ?_)
        | (with_reducible refine GQ_nd (fun hp hd => ?_) (fun hp hd => ?_) <;> refine st_by (And.intro hd ff) ?_)
        | (refine GQ_nb (fun hd => ?_) (fun hd => ?_) <;> refine st_by (And.intro hd ff) ?_)
        | (refine GQ_bool (fun hd => ?_) (fun hd => ?_) <;> refine st_by (And.intro hd ff) ?_)
        | (try clear ff; refine ⟨i + 1, ⟨⟨?_, ?_⟩, rfl⟩, ?_⟩; (· omega); (· exact hsn hd); (· omega)))
      all_goals try clear ff
    · rw [List.take_of_length_le (by omega)] at h3
      have : (s.Pixels.any fun n => !rng n 0 16777215) = false := by
        rw [List.any_eq_false]; intro x hx; simp [h3 x hx]
      have ff := And.intro @g7 (And.intro @g8 (And.intro @g9 (And.intro @Ty.sl22 (And.intro @Ty.slz22 (And.intro @Ty.ldA3 (And.intro @Ty.ldS3 (And.intro @Ty.sz3 (And.intro @Ty.szn3 (And.intro @Ty.ldA22 (And.intro @Ty.ldS22 (And.intro @Ty.sz22 (And.intro @Ty.szn22 (And.intro @Ty.fo51_0 (And.intro @Ty.fk51_0 (And.intro @Ty.fs51_0 (And.intro @Ty.fn51_0 (And.intro @Ty.fo51_1 (And.intro @Ty.fk51_1 (And.intro @Ty.fs51_1 (And.intro @Ty.fn51_1 (And.intro @Ty.fo51_2 (And.intro @Ty.fk51_2 (And.intro @Ty.fs51_2 @Ty.fn51_2)))))))))))))))))))))))
      try refine st_by ff ?_
      repeat' (first
        | exact trivial
        | (refine And.intro ?_ ?_; · (try clear ff; first | omega))
        | (refine ret_q1 rfl ?_; (try refine sr_by ff ?_); all_goals (try clear ff); all_goals (try exact trivial); all_goals ((rw [this]; rfl)))
        | (with_reducible refine CBC_eq (fun hp hd => ?_) (fun hp hd => ?_) <;> refine st_by (And.intro hd ff) ?_)
        | (with_reducible refine CBC_ne (fun hp hd => ?_) (fun hp hd => ?_) <;> refine st_by (And.intro hd ff) ?_)
        | (with_reducible refine CBC_decT ?_ (fun hd => ?_); (· try clear ff; first | assumption | omega); refine st_by (And.intro hd ff) ?_)
        | (with_reducible refine CBC_decF ?_ (fun hd => ?_); (· try clear ff; first | assumption | omega); refine st_by (And.intro hd ff) ?_)
        | (with_reducible refine CBC_dec (fun hp hd => ?_) (fun hp hd => ?_) <;> refine st_by (And.intro hd ff) ?_)
        | (refine CBC_bool (fun hd => ?_) (fun hd => ?_) <;> refine st_by (And.intro hd ff) ?_)
        | (with_reducible refine GQ_eq (fun hp hd => ?_) (fun hp hd => ?_) <;> refine st_by (And.intro hd ff) ?_)
        | (with_reducible refine GQ_ne (fun hp hd => ?_) (fun hp hd => ?_) <;> refine st_by (And.intro hd ff) ?_)
        | (with_reducible refine GQ_decT ?_ (fun hd => ?_); (· try clear ff; first | assumption | omega); refine st_by (And.intro hd ff) ?_)
        | (with_reducible refine GQ_decF ?_ (fun hd => ?_); (· try clear ff; first | assumption | omega); refine st_by (And.intro hd ff) ?_)
        | (with_reducible refine GQ_dec (fun hp hd => ?_) (fun hp hd => ?_) <;> refine st_by (And.intro hd ff) ?_)
        | (with_reducible refine GQ_ndT ?_ (fun hd => ?_); (· try clear ff; first | assumption | omega); refine st_by (And.intro hd ff) ?_)
        | (with_reducible refine GQ_ndF ?_ (fun hd => ?_); (· try clear ff; first | assumption | omega); refine st_by (And.intro hd ff) ?_)
        | (with_reducible refine GQ_nd (fun hp hd => ?_) (fun hp hd => ?_) <;> refine st_by (And.intro hd ff) ?_)
        | (refine GQ_nb (fun hd => ?_) (fun hd => ?_) <;> refine st_by (And.intro hd ff) ?_)
        | (refine GQ_bool (fun hd => ?_) (fun hd => ?_) <;> refine st_by (And.intro hd ff) ?_))
      all_goals try clear ff
end Go.Av
