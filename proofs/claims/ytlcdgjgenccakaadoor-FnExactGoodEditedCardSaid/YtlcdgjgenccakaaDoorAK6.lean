/- Prop -/
import Derived.Test.YtlcdgjgenccakaaDoorAK5
section
set_option linter.unusedSimpArgs false
set_option linter.unusedVariables false
set_option maxRecDepth 100000
set_option maxHeartbeats 1000000
namespace Go.Av
open Go.Proofs
/-! Prop -/
def wfProp (n : Nat) (x : GProp) : Prop := x.Path.size ≤ n ∧ x.Value.size ≤ n
def szProp (x : GProp) (left : Int) : Int := szStep (left - x.Path.size) fun left => szStep (left - x.Value.size) fun left => left
theorem szProp_ok : szOk szProp := fun x left h => szStep_le h (by omega) (fun left h => szStep_le h (by omega) (fun left h => Int.le_refl _))
theorem szProp_does (x : GProp) (left : Int) (h0 : 0 ≤ left) (h1 : left ≤ 1048576) (hx : wfProp 9223372036854775807 x) : Does Tryd.prog 51 [.agg (eProp x), I left] (I (szProp x left)) := by
  unfold wfProp at hx
  refine Does.walk (nt := 20) Tryd.func51 rfl rfl (by simp) (by decide) rfl (fun G0 X w0 pv => ?_)
  unfold szProp
  have hv0 : (left - (x.Path.size : Int) : Int) ≤ left := by omega
  have w0 : IntKind.i64.wrap (left - (x.Path.size : Int)) = left - (x.Path.size : Int) := wI _ (by omega) (by omega)
  have ff := And.intro @eProp_eq (And.intro @w0 (And.intro @Ty.nz9 (And.intro @Ty.ldA9 (And.intro @Ty.ldS9 (And.intro @Ty.sz9 (And.intro @Ty.szn9 (And.intro @Ty.fo68_0 (And.intro @Ty.fk68_0 (And.intro @Ty.fs68_0 (And.intro @Ty.fn68_0 (And.intro @Ty.fo68_1 (And.intro @Ty.fk68_1 (And.intro @Ty.fs68_1 (And.intro @Ty.fn68_1 @Ty.str9))))))))))))))
  try refine st_by ff ?_
  repeat' (first
    | exact trivial
    | (refine And.intro ?_ ?_; · (try clear ff; first | omega))
    | (refine ret_q1 rfl ?_; (try refine sr_by ff ?_); all_goals (try clear ff); all_goals (try exact trivial); all_goals ((rw [szStep_neg (by assumption)])))
    | (with_reducible refine CBC_eq (fun hp hd => ?_) (fun hp hd => ?_) <;> refine st_by (And.intro hd ff) ?_)
    | (with_reducible refine CBC_ne (fun hp hd => ?_) (fun hp hd => ?_) <;> refine st_by (And.intro hd ff) ?_)
    | (with_reducible refine CBC_decT ?_ (fun hd => ?_); (· try clear ff; first | assumption | omega); refine st_by (And.intro hd ff) ?_)
    | (with_reducible refine CBC_decF ?_ (fun hd => ?_); (· try clear ff; first | assumption | omega); refine st_by (And.intro hd ff) ?_)
    | (with_reducible refine CBC_dec (p := left - (x.Path.size : Int) < 0) (fun hp hd => ?_) (fun hp hd => ?_) <;> refine st_by (And.intro hd ff) ?_)
    | (with_reducible refine GQ_eq (fun hp hd => ?_) (fun hp hd => ?_) <;> refine st_by (And.intro hd ff) ?_)
    | (with_reducible refine GQ_ne (fun hp hd => ?_) (fun hp hd => ?_) <;> refine st_by (And.intro hd ff) ?_)
    | (with_reducible refine GQ_decT ?_ (fun hd => ?_); (· try clear ff; first | assumption | omega); refine st_by (And.intro hd ff) ?_)
    | (with_reducible refine GQ_decF ?_ (fun hd => ?_); (· try clear ff; first | assumption | omega); refine st_by (And.intro hd ff) ?_)
    | (with_reducible refine GQ_dec (p := left - (x.Path.size : Int) < 0) (fun hp hd => ?_) (fun hp hd => ?_) <;> refine st_by (And.intro hd ff) ?_)
    | (with_reducible refine GQ_ndT ?_ (fun hd => ?_); (· try clear ff; first | assumption | omega); refine st_by (And.intro hd ff) ?_)
    | (with_reducible refine GQ_ndF ?_ (fun hd => ?_); (· try clear ff; first | assumption | omega); refine st_by (And.intro hd ff) ?_)
    | (with_reducible refine GQ_nd (fun hp hd => ?_) (fun hp hd => ?_) <;> refine st_by (And.intro hd ff) ?_))
  all_goals try clear ff
  rw [szStep_pos (by assumption)]
  generalize hg0 : (left - (x.Path.size : Int) : Int) = v0 at *
  have hv1 : (v0 - (x.Value.size : Int) : Int) ≤ v0 := by omega
  have w1 : IntKind.i64.wrap (v0 - (x.Value.size : Int)) = v0 - (x.Value.size : Int) := wI _ (by omega) (by omega)
  have ff := And.intro @eProp_eq (And.intro @w1 (And.intro @Ty.nz9 (And.intro @Ty.ldA9 (And.intro @Ty.ldS9 (And.intro @Ty.sz9 (And.intro @Ty.szn9 (And.intro @Ty.fo68_0 (And.intro @Ty.fk68_0 (And.intro @Ty.fs68_0 (And.intro @Ty.fn68_0 (And.intro @Ty.fo68_1 (And.intro @Ty.fk68_1 (And.intro @Ty.fs68_1 (And.intro @Ty.fn68_1 @Ty.str9))))))))))))))
  try refine st_by ff ?_
  repeat' (first
    | exact trivial
    | (refine And.intro ?_ ?_; · (try clear ff; first | omega))
    | (refine ret_q1 rfl ?_; (try refine sr_by ff ?_); all_goals (try clear ff); all_goals (try exact trivial); all_goals ((first | rw [szStep_neg (by assumption)] | rw [szStep_pos (by assumption)])))
    | (with_reducible refine CBC_eq (fun hp hd => ?_) (fun hp hd => ?_) <;> refine st_by (And.intro hd ff) ?_)
    | (with_reducible refine CBC_ne (fun hp hd => ?_) (fun hp hd => ?_) <;> refine st_by (And.intro hd ff) ?_)
    | (with_reducible refine CBC_decT ?_ (fun hd => ?_); (· try clear ff; first | assumption | omega); refine st_by (And.intro hd ff) ?_)
    | (with_reducible refine CBC_decF ?_ (fun hd => ?_); (· try clear ff; first | assumption | omega); refine st_by (And.intro hd ff) ?_)
    | (with_reducible refine CBC_dec (fun hp hd => ?_) (fun hp hd => ?_) <;> refine st_by (And.intro hd ff) ?_)
    | (refine CBC_bool (fun hd => ?_) (fun hd => ?_) <;> refine st_by (And.intro hd ff) ?_)
    | (with_reducible refine GQ_eq (fun hp hd => ?_) (fun hp hd => ?_) <;> refine st_by (And.intro hd ff) ?_)
    | (with_reducible refine GQ_ne (fun hp hd => ?_) (fun hp hd => ?_) <;> refine st_by (And.intro hd ff) ?_)
    | (with_reducible refine GQ_decT ?_ (fun hd => ?_); (· try clear ff; first | assumption | omega); refine st_by (And.intro hd ff) ?_)
    | (with_reducible refine GQ_decF ?_ (fun hd => ?_); (· try clear ff; first | assumption | omega); refine st_by (And.intro hd ff) ?_)
    | (with_reducible refine GQ_dec (fun hp hd => ?_) (fun hp hd => ?_) <;> refine st_by (And.intro hd ff) ?_)
    | (with_reducible refine GQ_ndT ?_ (fun hd => ?_); (· try clear ff; first | assumption | omega); refine st_by (And.intro hd ff) ?_)
    | (with_reducible refine GQ_ndF ?_ (fun hd => ?_); (· try clear ff; first | assumption | omega); refine st_by (And.intro hd ff) ?_)
    | (with_reducible refine GQ_nd (fun hp hd => ?_) (fun hp hd => ?_) <;> refine st_by (And.intro hd ff) ?_)
    | (refine GQ_nb (fun hd => ?_) (fun hd => ?_) <;> refine st_by (And.intro hd ff) ?_)
    | (refine GQ_bool (fun hd => ?_) (fun hd => ?_) <;> refine st_by (And.intro hd ff) ?_))
  all_goals try clear ff
theorem toProp_does (x : GProp) : Does Tryd.prog 54 [.agg (eProp x)] (.agg (eProp x)) := by
  refine Does.walk (nt := 11) Tryd.func54 rfl rfl (by simp) (by decide) rfl (fun G0 X w0 pv => ?_)
  have ff := And.intro @eProp_eq (And.intro @Ty.nz9 (And.intro @Ty.ldA9 (And.intro @Ty.ldS9 (And.intro @Ty.sz9 (And.intro @Ty.szn9 (And.intro @Ty.nz71 (And.intro @Ty.ldA71 (And.intro @Ty.sz71 (And.intro @Ty.szn71 (And.intro @Ty.fo68_0 (And.intro @Ty.fk68_0 (And.intro @Ty.fs68_0 (And.intro @Ty.fn68_0 (And.intro @Ty.fo71_0 (And.intro @Ty.fk71_0 (And.intro @Ty.fs71_0 (And.intro @Ty.fn71_0 (And.intro @Ty.fo68_1 (And.intro @Ty.fk68_1 (And.intro @Ty.fs68_1 (And.intro @Ty.fn68_1 (And.intro @Ty.fo71_1 (And.intro @Ty.fk71_1 (And.intro @Ty.fs71_1 (And.intro @Ty.fn71_1 (And.intro @Ty.zv71 @Ty.ag71))))))))))))))))))))))))))
  try refine st_by ff ?_
  repeat' (first
    | exact trivial
    | (refine And.intro ?_ ?_; · (try clear ff; first | omega | decide))
    | (refine ret_q1 rfl ?_; (try refine sr_by ff ?_); all_goals (try clear ff); all_goals (try exact trivial); all_goals (skip))
    | (with_reducible refine CBC_eq (fun hp hd => ?_) (fun hp hd => ?_) <;> refine st_by (And.intro hd ff) ?_)
    | (with_reducible refine CBC_ne (fun hp hd => ?_) (fun hp hd => ?_) <;> refine st_by (And.intro hd ff) ?_)
    | (with_reducible refine CBC_decT ?_ (fun hd => ?_); (· try clear ff; first | assumption | omega); refine st_by (And.intro hd ff) ?_)
    | (with_reducible refine CBC_decF ?_ (fun hd => ?_); (· try clear ff; first | assumption | omega); refine st_by (And.intro hd ff) ?_)
    | (with_reducible refine CBC_dec (fun hp hd => ?_) (fun hp hd => ?_) <;> refine st_by (And.intro hd ff) ?_)
    | (refine CBC_bool (fun hd => ?_) (fun hd => ?_) <;> refine st_by (And.intro hd ff) ?_)
    | (with_reducible refine GQ_eq (fun hp hd => ?_) (fun hp hd => ?_) <;> refine st_by (And.intro hd ff) ?_)
    | (with_reducible refine GQ_ne (fun hp hd => ?_) (fun hp hd => ?_) <;> refine st_by (And.intro hd ff) ?_)
    | (with_reducible refine GQ_decT ?_ (fun hd => ?_); (· try clear ff; first | assumption | omega); refine st_by (And.intro hd ff) ?_)
    | (with_reducible refine GQ_decF ?_ (fun hd => ?_); (· try clear ff; first | assumption | omega); refine st_by (And.intro hd ff) ?_)
    | (with_reducible refine GQ_dec (fun hp hd => ?_) (fun hp hd => ?_) <;> refine st_by (And.intro hd ff) ?_)
    | (with_reducible refine GQ_ndT ?_ (fun hd => ?_); (· try clear ff; first | assumption | omega); refine st_by (And.intro hd ff) ?_)
    | (with_reducible refine GQ_ndF ?_ (fun hd => ?_); (· try clear ff; first | assumption | omega); refine st_by (And.intro hd ff) ?_)
    | (with_reducible refine GQ_nd (fun hp hd => ?_) (fun hp hd => ?_) <;> refine st_by (And.intro hd ff) ?_)
    | (refine GQ_nb (fun hd => ?_) (fun hd => ?_) <;> refine st_by (And.intro hd ff) ?_)
    | (refine GQ_bool (fun hd => ?_) (fun hd => ?_) <;> refine st_by (And.intro hd ff) ?_))
  all_goals try clear ff
theorem eqProp_does (x y : GProp) : Does Tryd.prog 57 [.agg (eProp x), .agg (eProp y)] (B (decide (x = y))) := by
  have hxy : decide (x = y) = decide (x.Path = y.Path ∧ x.Value = y.Value) := decide_eq_decide.2 (by cases x; cases y; simp)
  rw [hxy]
  refine Does.walk (nt := 15) Tryd.func57 rfl rfl (by simp) (by decide) rfl (fun G0 X w0 pv => ?_)
  have ff := And.intro @eProp_eq (And.intro @str_beq (And.intro @Ty.nz9 (And.intro @Ty.ldA9 (And.intro @Ty.ldS9 (And.intro @Ty.sz9 (And.intro @Ty.szn9 (And.intro @Ty.fo71_0 (And.intro @Ty.fk71_0 (And.intro @Ty.fs71_0 (And.intro @Ty.fn71_0 (And.intro @Ty.fo71_1 (And.intro @Ty.fk71_1 (And.intro @Ty.fs71_1 @Ty.fn71_1)))))))))))))
  try refine st_by ff ?_
  repeat' (first
    | exact trivial
    | (refine And.intro ?_ ?_; · (try clear ff; first | omega))
    | (refine ret_q1 rfl ?_; (try refine sr_by ff ?_); all_goals (try clear ff); all_goals (try exact trivial); all_goals (simp_all))
    | (with_reducible refine CBC_eq (fun hp hd => ?_) (fun hp hd => ?_) <;> refine st_by (And.intro hd ff) ?_)
    | (with_reducible refine CBC_ne (fun hp hd => ?_) (fun hp hd => ?_) <;> refine st_by (And.intro hd ff) ?_)
    | (with_reducible refine CBC_decT ?_ (fun hd => ?_); (· try clear ff; first | assumption | omega); refine st_by (And.intro hd ff) ?_)
    | (with_reducible refine CBC_decF ?_ (fun hd => ?_); (· try clear ff; first | assumption | omega); refine st_by (And.intro hd ff) ?_)
    | (with_reducible refine CBC_dec (fun hp hd => ?_) (fun hp hd => ?_) <;> refine st_by (And.intro hd ff) ?_)
    | (refine CBC_bool (fun hd => ?_) (fun hd => ?_) <;> refine st_by (And.intro hd ff) ?_)
    | (with_reducible refine GQ_eq (fun hp hd => ?_) (fun hp hd => ?_) <;> refine st_by (And.intro hd ff) ?_)
    | (with_reducible refine GQ_ne (fun hp hd => ?_) (fun hp hd => ?_) <;> refine st_by (And.intro hd ff) ?_)
    | (with_reducible refine GQ_decT ?_ (fun hd => ?_); (· try clear ff; first | assumption | omega); refine st_by (And.intro hd ff) ?_)
    | (with_reducible refine GQ_decF ?_ (fun hd => ?_); (· try clear ff; first | assumption | omega); refine st_by (And.intro hd ff) ?_)
    | (with_reducible refine GQ_dec (fun hp hd => ?_) (fun hp hd => ?_) <;> refine st_by (And.intro hd ff) ?_)
    | (with_reducible refine GQ_ndT ?_ (fun hd => ?_); (· try clear ff; first | assumption | omega); refine st_by (And.intro hd ff) ?_)
    | (with_reducible refine GQ_ndF ?_ (fun hd => ?_); (· try clear ff; first | assumption | omega); refine st_by (And.intro hd ff) ?_)
    | (with_reducible refine GQ_nd (fun hp hd => ?_) (fun hp hd => ?_) <;> refine st_by (And.intro hd ff) ?_)
    | (refine GQ_nb (fun hd => ?_) (fun hd => ?_) <;> refine st_by (And.intro hd ff) ?_)
    | (refine GQ_bool (fun hd => ?_) (fun hd => ?_) <;> refine st_by (And.intro hd ff) ?_))
  all_goals try clear ff
/-! []Prop -/
theorem szPropS_does (l : List GProp) (left : Int) (h0 : 0 ≤ left) (h1 : left ≤ 1048576) (hl : l.length ≤ 9223372036854775807) (hx : ∀ x ∈ l, wfProp 9223372036854775807 x) : Does Tryd.prog 23 [.row false 2 l.length (esProp l), I left] (I (szRow szProp l left)) := by
  have w1 : IntKind.i64.wrap (left - (l.length : Int)) = left - l.length := wI _ (by omega) (by omega)
  refine Does.walk (nt := 27) Tryd.func23 rfl rfl (by simp) (by decide) rfl (fun G0 X w0 pv => ?_)
  have ff := And.intro @w1 (And.intro @Ty.sl22 (And.intro @Ty.slz22 (And.intro @Ty.nz68 (And.intro @Ty.ldA68 (And.intro @Ty.sz68 @Ty.szn68)))))
  try refine st_by ff ?_
  repeat' (first
    | exact trivial
    | (refine And.intro ?_ ?_; · (try clear ff; first | omega))
    | (refine ret_q1 rfl ?_; (try refine sr_by ff ?_); all_goals (try clear ff); all_goals (try exact trivial); all_goals ((simp only [szRow]; first | rw [szStep_neg (by omega)] | rw [szStep_pos (by omega)])))
    | (with_reducible refine CBC_eq (fun hp hd => ?_) (fun hp hd => ?_) <;> refine st_by (And.intro hd ff) ?_)
    | (with_reducible refine CBC_ne (fun hp hd => ?_) (fun hp hd => ?_) <;> refine st_by (And.intro hd ff) ?_)
    | (with_reducible refine CBC_decT ?_ (fun hd => ?_); (· try clear ff; first | assumption | omega); refine st_by (And.intro hd ff) ?_)
    | (with_reducible refine CBC_decF ?_ (fun hd => ?_); (· try clear ff; first | assumption | omega); refine st_by (And.intro hd ff) ?_)
    | (with_reducible refine CBC_dec (fun hp hd => ?_) (fun hp hd => ?_) <;> refine st_by (And.intro hd ff) ?_)
    | (refine CBC_bool (fun hd => ?_) (fun hd => ?_) <;> refine st_by (And.intro hd ff) ?_)
    | (with_reducible refine GQ_eq (fun hp hd => ?_) (fun hp hd => ?_) <;> refine st_by (And.intro hd ff) ?_)
    | (with_reducible refine GQ_ne (fun hp hd => ?_) (fun hp hd => ?_) <;> refine st_by (And.intro hd ff) ?_)
    | (with_reducible refine GQ_decT ?_ (fun hd => ?_); (· try clear ff; first | assumption | omega); refine st_by (And.intro hd ff) ?_)
    | (with_reducible refine GQ_decF ?_ (fun hd => ?_); (· try clear ff; first | assumption | omega); refine st_by (And.intro hd ff) ?_)
    | (with_reducible refine GQ_dec (fun hp hd => ?_) (fun hp hd => ?_) <;> refine st_by (And.intro hd ff) ?_)
    | (with_reducible refine GQ_ndT ?_ (fun hd => ?_); (· try clear ff; first | assumption | omega); refine st_by (And.intro hd ff) ?_)
    | (with_reducible refine GQ_ndF ?_ (fun hd => ?_); (· try clear ff; first | assumption | omega); refine st_by (And.intro hd ff) ?_)
    | (with_reducible refine GQ_nd (fun hp hd => ?_) (fun hp hd => ?_) <;> refine st_by (And.intro hd ff) ?_)
    | (refine GQ_nb (fun hd => ?_) (fun hd => ?_) <;> refine st_by (And.intro hd ff) ?_)
    | (refine GQ_bool (fun hd => ?_) (fun hd => ?_) <;> refine st_by (And.intro hd ff) ?_))
  all_goals try clear ff
  have e0 : szRow szProp l left = szL szProp l (left - l.length) := by simp only [szRow]; rw [szStep_pos (by omega)]
  rw [e0]
  refine aw_loop (ι := Nat × Int) (fun z σ => (z.1 ≤ l.length ∧ 0 ≤ z.2 ∧ z.2 ≤ 1048576 ∧ szL szProp (l.drop z.1) z.2 = szL szProp l (left - l.length)) ∧ σ.t 0 = .row false 2 l.length (esProp l) ∧ σ.t 1 = I z.2 ∧ σ.t 5 = I z.1) (fun z => l.length - z.1) (0, left - l.length) ?_ ?_
  · (first | exact cl_by trivial | refine st_by trivial ?_)
    simp [w1]; omega
  · rintro ⟨i, a⟩ σ ⟨⟨h2, h3, h4, h5⟩, g0, g1, g5⟩
    simp only at h2 h3 h4 h5 g0 g1 g5
    by_cases hi : i < l.length
    · have w2 : IntKind.i64.wrap ((i : Int) + 1) = ((i + 1 : Nat) : Int) := wI _ (by omega) (by omega)
      have hle := szProp_ok l[i] a h3
      have hd0 := szL_drop (f := szProp) l i hi a
      have hx0 := hx l[i] (List.getElem_mem hi)
      have ff := And.intro @g0 (And.intro @g1 (And.intro @g5 (And.intro @w2 (And.intro @hi (And.intro ((esProp_drop l i hi)) (And.intro @esProp_len (And.intro @eProp_eq (And.intro @Ty.sl22 (And.intro @Ty.slz22 (And.intro @Ty.nz68 (And.intro @Ty.ldA68 (And.intro @Ty.sz68 @Ty.szn68))))))))))))
      try refine st_by ff ?_
      repeat' (first
        | exact trivial
        | (refine And.intro ?_ ?_; · (try clear ff; first | omega | (rw [List.length_append]; simp [esProp_len]; omega) | (simp [eProp]; done) | decide | (simp [esProp_len]; omega) | rfl))
        | (refine ret_q1 rfl ?_; (try refine sr_by ff ?_); all_goals (try clear ff); all_goals (try exact trivial); all_goals (first | (rw [← h5, hd0, szStep_neg (by first | assumption | omega)]; done) | (exfalso; omega)))
        | (with_reducible refine cq_call (szProp_does l[i] a h3 h4 hx0) ?_ ?_ ⟨?_, ?_⟩; (· first | rfl | exact cl_by ff); (· first | assumption | kernel_rfl); (· first | exact ca_by ff | (refine sa_by ff ?_; try clear ff; first | exact trivial | omega | (rw [List.length_append]; simp [esProp_len]; omega) | (simp [eProp]; done) | decide | (simp [esProp_len]; omega) | rfl)); refine st_by ff ?_)
        | (with_reducible refine CBC_eq (fun hp hd => ?_) (fun hp hd => ?_) <;> refine st_by (And.intro hd ff) ?_)
        | (with_reducible refine CBC_ne (fun hp hd => ?_) (fun hp hd => ?_) <;> refine st_by (And.intro hd ff) ?_)
        | (with_reducible refine CBC_decT ?_ (fun hd => ?_); (· try clear ff; first | assumption | omega); refine st_by (And.intro hd ff) ?_)
        | (with_reducible refine CBC_decF ?_ (fun hd => ?_); (· try clear ff; first | assumption | omega); refine st_by (And.intro hd ff) ?_)
        | (with_reducible refine CBC_dec (fun hp hd => ?_) (fun hp hd => ?_) <;> refine st_by (And.intro hd ff) ?_)
        | (refine CBC_bool (fun hd => ?_) (fun hd => ?_) <;> refine st_by (And.intro hd ff) ?_)
        | (with_reducible refine GQ_eq (fun hp hd => ?_) (fun hp hd => ?_) <;> refine st_by (And.intro hd ff) ?_)
        | (with_reducible refine GQ_ne (fun hp hd => ?_) (fun hp hd => ?_) <;> refine st_by (And.intro hd ff) ?_)
        | (with_reducible refine GQ_decT ?_ (fun hd => ?_); (· try clear ff; first | assumption | omega); refine st_by (And.intro hd ff) ?_)
        | (with_reducible refine GQ_decF ?_ (fun hd => ?_); (· try clear ff; first | assumption | omega); refine st_by (And.intro hd ff) ?_)
        | (with_reducible refine GQ_dec (fun hp hd => ?_) (fun hp hd => ?_) <;> refine st_by (And.intro hd ff) ?_)
        | (with_reducible refine GQ_ndT ?_ (fun hd => ?_); (· try clear ff; first | assumption | omega); refine st_by (And.intro hd ff) ?_)
        | (with_reducible refine GQ_ndF ?_ (fun hd => ?_); (· try clear ff; first | assumption | omega); refine st_by (And.intro hd ff) ?_)
        | (with_reducible refine GQ_nd (fun hp hd => ?_) (fun hp hd => ?_) <;> refine st_by (And.intro hd ff) ?_)
        | (refine GQ_nb (fun hd => ?_) (fun hd => ?_) <;> refine st_by (And.intro hd ff) ?_)
        | (refine GQ_bool (fun hd => ?_) (fun hd => ?_) <;> refine st_by (And.intro hd ff) ?_)
        | ((try clear ff); refine ⟨(i + 1, szProp l[i] a), ⟨⟨?_, ?_, ?_, ?_⟩, rfl, rfl⟩, ?_⟩; (· simp only; omega); (· simp only; omega); (· simp only; omega); (· simp only; rw [← h5, hd0, szStep_pos (by first | assumption | omega)]); (· simp only; omega)))
      all_goals try clear ff
    · have e1 : l.drop i = [] := List.drop_of_length_le (by omega)
      have ff := And.intro @g0 (And.intro @g1 (And.intro @g5 (And.intro @Ty.sl22 (And.intro @Ty.slz22 (And.intro @Ty.nz68 (And.intro @Ty.ldA68 (And.intro @Ty.sz68 @Ty.szn68)))))))
      try refine st_by ff ?_
      repeat' (first
        | exact trivial
        | (refine And.intro ?_ ?_; · (try clear ff; first | omega))
        | (refine ret_q1 rfl ?_; (try refine sr_by ff ?_); all_goals (try clear ff); all_goals (try exact trivial); all_goals (rw [← h5, e1]; rfl))
        | (with_reducible refine CBC_eq (fun hp hd => ?_) (fun hp hd => ?_) <;> refine st_by (And.intro hd ff) ?_)
        | (with_reducible refine CBC_ne (fun hp hd => ?_) (fun hp hd => ?_) <;> refine st_by (And.intro hd ff) ?_)
        | (with_reducible refine CBC_decT ?_ (fun hd => ?_); (· try clear ff; first | assumption | omega); refine st_by (And.intro hd ff) ?_)
        | (with_reducible refine CBC_decF ?_ (fun hd => ?_); (· try clear ff; first | assumption | omega); refine st_by (And.intro hd ff) ?_)
        | (with_reducible refine CBC_dec (fun hp hd => ?_) (fun hp hd => ?_) <;> refine st_by (And.intro hd ff) ?_)
        | (refine CBC_bool (fun hd => ?_) (fun hd => ?_) <;> refine st_by (And.intro hd ff) ?_)
        | (with_reducible refine GQ_eq (fun hp hd => ?_) (fun hp hd => ?_) <;> refine st_by (And.intro hd ff) ?_)
        | (with_reducible refine GQ_ne (fun hp hd => ?_) (fun hp hd => ?_) <;> refine st_by (And.intro hd ff) ?_)
        | (with_reducible refine GQ_decT ?_ (fun hd => ?_); (· try clear ff; first | assumption | omega); refine st_by (And.intro hd ff) ?_)
        | (with_reducible refine GQ_decF ?_ (fun hd => ?_); (· try clear ff; first | assumption | omega); refine st_by (And.intro hd ff) ?_)
        | (with_reducible refine GQ_dec (fun hp hd => ?_) (fun hp hd => ?_) <;> refine st_by (And.intro hd ff) ?_)
        | (with_reducible refine GQ_ndT ?_ (fun hd => ?_); (· try clear ff; first | assumption | omega); refine st_by (And.intro hd ff) ?_)
        | (with_reducible refine GQ_ndF ?_ (fun hd => ?_); (· try clear ff; first | assumption | omega); refine st_by (And.intro hd ff) ?_)
        | (with_reducible refine GQ_nd (fun hp hd => ?_) (fun hp hd => ?_) <;> refine st_by (And.intro hd ff) ?_)
        | (refine GQ_nb (fun hd => ?_) (fun hd => ?_) <;> refine st_by (And.intro hd ff) ?_)
        | (refine GQ_bool (fun hd => ?_) (fun hd => ?_) <;> refine st_by (And.intro hd ff) ?_))
      all_goals try clear ff
theorem toPropS_does (l : List GProp) (hl : l.length ≤ 1048576) : Does Tryd.prog 28 [.row false 2 l.length (esProp l)] (.row true 2 l.length (esProp l)) := by
  have hz := zRows (enc := eProp) (z := (⟨⟨#[]⟩, ⟨#[]⟩⟩ : GProp)) (zs := [.string ⟨#[]⟩, .string ⟨#[]⟩]) (by decide) rfl l.length
  refine Does.walk (nt := 23) Tryd.func28 rfl rfl (by simp) (by decide) rfl (fun G0 X w0 pv => ?_)
  have ff := And.intro @Ty.sl22 (And.intro @Ty.slz22 (And.intro @Ty.sl28 (And.intro @Ty.slz28 (And.intro @Ty.nz68 (And.intro @Ty.ldA68 (And.intro @Ty.sz68 (And.intro @Ty.szn68 (And.intro @Ty.nz71 (And.intro @Ty.ldA71 (And.intro @Ty.sz71 (And.intro @Ty.szn71 (And.intro @Ty.nze28 (And.intro @Ty.zok28 (And.intro @Ty.by28 @Ty.zs28))))))))))))))
  try refine st_by ff ?_
  repeat' (first
    | exact trivial
    | (refine And.intro ?_ ?_; · (try clear ff; first | omega | decide | rfl))
    | (refine ret_q1 rfl ?_; (try refine sr_by ff ?_); all_goals (try clear ff); all_goals (try exact trivial); all_goals (skip))
    | (with_reducible refine CBC_eq (fun hp hd => ?_) (fun hp hd => ?_) <;> refine st_by (And.intro hd ff) ?_)
    | (with_reducible refine CBC_ne (fun hp hd => ?_) (fun hp hd => ?_) <;> refine st_by (And.intro hd ff) ?_)
    | (with_reducible refine CBC_decT ?_ (fun hd => ?_); (· try clear ff; first | assumption | omega); refine st_by (And.intro hd ff) ?_)
    | (with_reducible refine CBC_decF ?_ (fun hd => ?_); (· try clear ff; first | assumption | omega); refine st_by (And.intro hd ff) ?_)
    | (with_reducible refine CBC_dec (fun hp hd => ?_) (fun hp hd => ?_) <;> refine st_by (And.intro hd ff) ?_)
    | (refine CBC_bool (fun hd => ?_) (fun hd => ?_) <;> refine st_by (And.intro hd ff) ?_)
    | (with_reducible refine GQ_eq (fun hp hd => ?_) (fun hp hd => ?_) <;> refine st_by (And.intro hd ff) ?_)
    | (with_reducible refine GQ_ne (fun hp hd => ?_) (fun hp hd => ?_) <;> refine st_by (And.intro hd ff) ?_)
    | (with_reducible refine GQ_decT ?_ (fun hd => ?_); (· try clear ff; first | assumption | omega); refine st_by (And.intro hd ff) ?_)
    | (with_reducible refine GQ_decF ?_ (fun hd => ?_); (· try clear ff; first | assumption | omega); refine st_by (And.intro hd ff) ?_)
    | (with_reducible refine GQ_dec (fun hp hd => ?_) (fun hp hd => ?_) <;> refine st_by (And.intro hd ff) ?_)
    | (with_reducible refine GQ_ndT ?_ (fun hd => ?_); (· try clear ff; first | assumption | omega); refine st_by (And.intro hd ff) ?_)
    | (with_reducible refine GQ_ndF ?_ (fun hd => ?_); (· try clear ff; first | assumption | omega); refine st_by (And.intro hd ff) ?_)
    | (with_reducible refine GQ_nd (fun hp hd => ?_) (fun hp hd => ?_) <;> refine st_by (And.intro hd ff) ?_)
    | (refine GQ_nb (fun hd => ?_) (fun hd => ?_) <;> refine st_by (And.intro hd ff) ?_)
    | (refine GQ_bool (fun hd => ?_) (fun hd => ?_) <;> refine st_by (And.intro hd ff) ?_))
  all_goals try clear ff
  refine aw_loop (ι := Nat) (fun i σ => i ≤ l.length ∧ σ.t 0 = .row false 2 l.length (esProp l) ∧ σ.t 4 = I i ∧ σ.t 3 = .sl 3 [] 0 l.length ∧ σ.m 3 = some (.row true 2 l.length (esProp (l.take i ++ List.replicate (l.length - i) ⟨⟨#[]⟩, ⟨#[]⟩⟩)))) (fun i => l.length - i) 0 ?_ ?_
  · (first | exact cl_by (And.intro @Ty.sl22 (And.intro @Ty.slz22 (And.intro @Ty.sl28 (And.intro @Ty.slz28 (And.intro @Ty.nz68 (And.intro @Ty.ldA68 (And.intro @Ty.sz68 (And.intro @Ty.szn68 (And.intro @Ty.nz71 (And.intro @Ty.ldA71 (And.intro @Ty.sz71 (And.intro @Ty.szn71 (And.intro @Ty.nze28 (And.intro @Ty.zok28 (And.intro @Ty.by28 @Ty.zs28))))))))))))))) | refine st_by (And.intro @Ty.sl22 (And.intro @Ty.slz22 (And.intro @Ty.sl28 (And.intro @Ty.slz28 (And.intro @Ty.nz68 (And.intro @Ty.ldA68 (And.intro @Ty.sz68 (And.intro @Ty.szn68 (And.intro @Ty.nz71 (And.intro @Ty.ldA71 (And.intro @Ty.sz71 (And.intro @Ty.szn71 (And.intro @Ty.nze28 (And.intro @Ty.zok28 (And.intro @Ty.by28 @Ty.zs28))))))))))))))) ?_)
    simp [esProp, hz]
  · rintro i σ ⟨h2, g0, g4, g3, m3⟩
    by_cases hi : i < l.length
    · have w2 : IntKind.i64.wrap ((i : Int) + 1) = ((i + 1 : Nat) : Int) := wI _ (by omega) (by omega)
      have hlen : (l.take i ++ List.replicate (l.length - i) (⟨⟨#[]⟩, ⟨#[]⟩⟩ : GProp)).length = l.length := by simp; omega
      have hset := take_rep_set l ⟨⟨#[]⟩, ⟨#[]⟩⟩ i hi
      have hsl := esProp_setL (l.take i ++ List.replicate (l.length - i) ⟨⟨#[]⟩, ⟨#[]⟩⟩) i l[i] (by omega)
      generalize l.take i ++ List.replicate (l.length - i) (⟨⟨#[]⟩, ⟨#[]⟩⟩ : GProp) = L at m3 hlen hset hsl
      rw [hset] at hsl
      have ff := And.intro @g0 (And.intro @g3 (And.intro @g4 (And.intro @m3 (And.intro @w2 (And.intro @hi (And.intro ((esProp_drop l i hi)) (And.intro @esProp_len (And.intro @eProp_eq (And.intro @esProp_len (And.intro @Ty.sl22 (And.intro @Ty.slz22 (And.intro @Ty.sl28 (And.intro @Ty.slz28 (And.intro @Ty.nz68 (And.intro @Ty.ldA68 (And.intro @Ty.sz68 (And.intro @Ty.szn68 (And.intro @Ty.nz71 (And.intro @Ty.ldA71 (And.intro @Ty.sz71 (And.intro @Ty.szn71 (And.intro @Ty.nze28 (And.intro @Ty.zok28 (And.intro @Ty.by28 @Ty.zs28))))))))))))))))))))))))
      try refine st_by ff ?_
      repeat' (first
        | exact trivial
        | (refine And.intro ?_ ?_; · (try clear ff; first | omega | (rw [List.length_append]; simp [esProp_len]; omega) | (simp [eProp]; done) | decide | (simp [esProp_len]; omega) | rfl | (simp [esProp_len, hlen]; omega)))
        | (refine ret_q1 rfl ?_; (try refine sr_by ff ?_); all_goals (try clear ff); all_goals (try exact trivial); all_goals (skip))
        | (with_reducible refine cq_call (toProp_does l[i]) ?_ ?_ ⟨?_, ?_⟩; (· first | rfl | exact cl_by ff); (· first | assumption | kernel_rfl); (· first | exact ca_by ff | (refine sa_by ff ?_; try clear ff; first | exact trivial | omega | (rw [List.length_append]; simp [esProp_len]; omega) | (simp [eProp]; done) | decide | (simp [esProp_len]; omega) | rfl | (simp [esProp_len, hlen]; omega))); refine st_by ff ?_)
        | (with_reducible refine CBC_eq (fun hp hd => ?_) (fun hp hd => ?_) <;> refine st_by (And.intro hd ff) ?_)
        | (with_reducible refine CBC_ne (fun hp hd => ?_) (fun hp hd => ?_) <;> refine st_by (And.intro hd ff) ?_)
        | (with_reducible refine CBC_decT ?_ (fun hd => ?_); (· try clear ff; first | assumption | omega); refine st_by (And.intro hd ff) ?_)
        | (with_reducible refine CBC_decF ?_ (fun hd => ?_); (· try clear ff; first | assumption | omega); refine st_by (And.intro hd ff) ?_)
        | (with_reducible refine CBC_dec (fun hp hd => ?_) (fun hp hd => ?_) <;> refine st_by (And.intro hd ff) ?_)
        | (refine CBC_bool (fun hd => ?_) (fun hd => ?_) <;> refine st_by (And.intro hd ff) ?_)
        | (with_reducible refine GQ_eq (fun hp hd => ?_) (fun hp hd => ?_) <;> refine st_by (And.intro hd ff) ?_)
        | (with_reducible refine GQ_ne (fun hp hd => ?_) (fun hp hd => ?_) <;> refine st_by (And.intro hd ff) ?_)
        | (with_reducible refine GQ_decT ?_ (fun hd => ?_); (· try clear ff; first | assumption | omega); refine st_by (And.intro hd ff) ?_)
        | (with_reducible refine GQ_decF ?_ (fun hd => ?_); (· try clear ff; first | assumption | omega); refine st_by (And.intro hd ff) ?_)
        | (with_reducible refine GQ_dec (fun hp hd => ?_) (fun hp hd => ?_) <;> refine st_by (And.intro hd ff) ?_)
        | (with_reducible refine GQ_ndT ?_ (fun hd => ?_); (· try clear ff; first | assumption | omega); refine st_by (And.intro hd ff) ?_)
        | (with_reducible refine GQ_ndF ?_ (fun hd => ?_); (· try clear ff; first | assumption | omega); refine st_by (And.intro hd ff) ?_)
        | (with_reducible refine GQ_nd (fun hp hd => ?_) (fun hp hd => ?_) <;> refine st_by (And.intro hd ff) ?_)
        | (refine GQ_nb (fun hd => ?_) (fun hd => ?_) <;> refine st_by (And.intro hd ff) ?_)
        | (refine GQ_bool (fun hd => ?_) (fun hd => ?_) <;> refine st_by (And.intro hd ff) ?_)
        | ((try clear ff); refine ⟨i + 1, ⟨?_, rfl, ?_⟩, ?_⟩; (· omega); (· first | (rw [← hsl]; rfl) | (simp only [← hsl, eProp]; rfl)); (· omega)))
      all_goals try clear ff
    · have e1 : l.take i ++ List.replicate (l.length - i) (⟨⟨#[]⟩, ⟨#[]⟩⟩ : GProp) = l := by rw [List.take_of_length_le (by omega)]; simp; omega
      rw [e1] at m3
      have ff := And.intro @g0 (And.intro @g3 (And.intro @g4 (And.intro @m3 (And.intro @Ty.sl22 (And.intro @Ty.slz22 (And.intro @Ty.sl28 (And.intro @Ty.slz28 (And.intro @Ty.nz68 (And.intro @Ty.ldA68 (And.intro @Ty.sz68 (And.intro @Ty.szn68 (And.intro @Ty.nz71 (And.intro @Ty.ldA71 (And.intro @Ty.sz71 (And.intro @Ty.szn71 (And.intro @Ty.nze28 (And.intro @Ty.zok28 (And.intro @Ty.by28 @Ty.zs28))))))))))))))))))
      try refine st_by ff ?_
      repeat' (first
        | exact trivial
        | (refine And.intro ?_ ?_; · (try clear ff; first | omega))
        | (refine ret_q1 rfl ?_; (try refine sr_by ff ?_); all_goals (try clear ff); all_goals (try exact trivial); all_goals (rfl))
        | (with_reducible refine CBC_eq (fun hp hd => ?_) (fun hp hd => ?_) <;> refine st_by (And.intro hd ff) ?_)
        | (with_reducible refine CBC_ne (fun hp hd => ?_) (fun hp hd => ?_) <;> refine st_by (And.intro hd ff) ?_)
        | (with_reducible refine CBC_decT ?_ (fun hd => ?_); (· try clear ff; first | assumption | omega); refine st_by (And.intro hd ff) ?_)
        | (with_reducible refine CBC_decF ?_ (fun hd => ?_); (· try clear ff; first | assumption | omega); refine st_by (And.intro hd ff) ?_)
        | (with_reducible refine CBC_dec (fun hp hd => ?_) (fun hp hd => ?_) <;> refine st_by (And.intro hd ff) ?_)
        | (refine CBC_bool (fun hd => ?_) (fun hd => ?_) <;> refine st_by (And.intro hd ff) ?_)
        | (with_reducible refine GQ_eq (fun hp hd => ?_) (fun hp hd => ?_) <;> refine st_by (And.intro hd ff) ?_)
        | (with_reducible refine GQ_ne (fun hp hd => ?_) (fun hp hd => ?_) <;> refine st_by (And.intro hd ff) ?_)
        | (with_reducible refine GQ_decT ?_ (fun hd => ?_); (· try clear ff; first | assumption | omega); refine st_by (And.intro hd ff) ?_)
        | (with_reducible refine GQ_decF ?_ (fun hd => ?_); (· try clear ff; first | assumption | omega); refine st_by (And.intro hd ff) ?_)
        | (with_reducible refine GQ_dec (fun hp hd => ?_) (fun hp hd => ?_) <;> refine st_by (And.intro hd ff) ?_)
        | (with_reducible refine GQ_ndT ?_ (fun hd => ?_); (· try clear ff; first | assumption | omega); refine st_by (And.intro hd ff) ?_)
        | (with_reducible refine GQ_ndF ?_ (fun hd => ?_); (· try clear ff; first | assumption | omega); refine st_by (And.intro hd ff) ?_)
        | (with_reducible refine GQ_nd (fun hp hd => ?_) (fun hp hd => ?_) <;> refine st_by (And.intro hd ff) ?_)
        | (refine GQ_nb (fun hd => ?_) (fun hd => ?_) <;> refine st_by (And.intro hd ff) ?_)
        | (refine GQ_bool (fun hd => ?_) (fun hd => ?_) <;> refine st_by (And.intro hd ff) ?_))
      all_goals try clear ff
theorem eqPropS_does (l k : List GProp) (hl : l.length ≤ 9223372036854775807) (hk : k.length ≤ 9223372036854775807) : Does Tryd.prog 34 [.row false 2 l.length (esProp l), .row false 2 k.length (esProp k)] (B (decide (l = k))) := by
  refine Does.walk (nt := 27) Tryd.func34 rfl rfl (by simp) (by decide) rfl (fun G0 X w0 pv => ?_)
  have ff := And.intro @Ty.sl28 (And.intro @Ty.slz28 (And.intro @Ty.nz71 (And.intro @Ty.ldA71 (And.intro @Ty.sz71 @Ty.szn71))))
  try refine st_by ff ?_
  repeat' (first
    | exact trivial
    | (refine And.intro ?_ ?_; · (try clear ff; first | omega))
    | (refine ret_q1 rfl ?_; (try refine sr_by ff ?_); all_goals (try clear ff); all_goals (try exact trivial); all_goals ((have : ¬ l = k := fun e => by subst e; omega); simp [this]))
    | (refine aw_drawn (id := 6) ?_ [[], [], [0, 1], [0, 1, 2], [], [], [4, 5], [4, 5, 6], [0, 1, 2, 3, 4, 5, 6, 7], [0, 1, 2, 3, 4, 5, 6, 7, 8]] 8 ?_ ?_; (· kernel_rfl); (· kernel_rfl); refine st_by ff ?_)
    | (with_reducible refine CBC_eq (fun hp hd => ?_) (fun hp hd => ?_) <;> refine st_by (And.intro hd ff) ?_)
    | (with_reducible refine CBC_ne (fun hp hd => ?_) (fun hp hd => ?_) <;> refine st_by (And.intro hd ff) ?_)
    | (with_reducible refine CBC_decT ?_ (fun hd => ?_); (· try clear ff; first | assumption | omega); refine st_by (And.intro hd ff) ?_)
    | (with_reducible refine CBC_decF ?_ (fun hd => ?_); (· try clear ff; first | assumption | omega); refine st_by (And.intro hd ff) ?_)
    | (with_reducible refine CBC_dec (fun hp hd => ?_) (fun hp hd => ?_) <;> refine st_by (And.intro hd ff) ?_)
    | (refine CBC_bool (fun hd => ?_) (fun hd => ?_) <;> refine st_by (And.intro hd ff) ?_)
    | (with_reducible refine GQ_eq (fun hp hd => ?_) (fun hp hd => ?_) <;> refine st_by (And.intro hd ff) ?_)
    | (with_reducible refine GQ_ne (fun hp hd => ?_) (fun hp hd => ?_) <;> refine st_by (And.intro hd ff) ?_)
    | (with_reducible refine GQ_decT ?_ (fun hd => ?_); (· try clear ff; first | assumption | omega); refine st_by (And.intro hd ff) ?_)
    | (with_reducible refine GQ_decF ?_ (fun hd => ?_); (· try clear ff; first | assumption | omega); refine st_by (And.intro hd ff) ?_)
    | (with_reducible refine GQ_dec (fun hp hd => ?_) (fun hp hd => ?_) <;> refine st_by (And.intro hd ff) ?_)
    | (with_reducible refine GQ_ndT ?_ (fun hd => ?_); (· try clear ff; first | assumption | omega); refine st_by (And.intro hd ff) ?_)
    | (with_reducible refine GQ_ndF ?_ (fun hd => ?_); (· try clear ff; first | assumption | omega); refine st_by (And.intro hd ff) ?_)
    | (with_reducible refine GQ_nd (fun hp hd => ?_) (fun hp hd => ?_) <;> refine st_by (And.intro hd ff) ?_)
    | (refine GQ_nb (fun hd => ?_) (fun hd => ?_) <;> refine st_by (And.intro hd ff) ?_)
    | (refine GQ_bool (fun hd => ?_) (fun hd => ?_) <;> refine st_by (And.intro hd ff) ?_)
    | (with_reducible refine GD_eq (fun hp hd => ?_) (fun hp hd => ?_) <;> refine st_by (And.intro hd ff) ?_)
    | (with_reducible refine GD_ne (fun hp hd => ?_) (fun hp hd => ?_) <;> refine st_by (And.intro hd ff) ?_)
    | (with_reducible refine GD_decT ?_ (fun hd => ?_); (· try clear ff; first | assumption | omega); refine st_by (And.intro hd ff) ?_)
    | (with_reducible refine GD_decF ?_ (fun hd => ?_); (· try clear ff; first | assumption | omega); refine st_by (And.intro hd ff) ?_)
    | (with_reducible refine GD_dec (fun hp hd => ?_) (fun hp hd => ?_) <;> refine st_by (And.intro hd ff) ?_)
    | (with_reducible refine GD_ndT ?_ (fun hd => ?_); (· try clear ff; first | assumption | omega); refine st_by (And.intro hd ff) ?_)
    | (with_reducible refine GD_ndF ?_ (fun hd => ?_); (· try clear ff; first | assumption | omega); refine st_by (And.intro hd ff) ?_)
    | (with_reducible refine GD_nd (fun hp hd => ?_) (fun hp hd => ?_) <;> refine st_by (And.intro hd ff) ?_)
    | (refine GD_nb (fun hd => ?_) (fun hd => ?_) <;> refine st_by (And.intro hd ff) ?_)
    | (refine GD_bool (fun hd => ?_) (fun hd => ?_) <;> refine st_by (And.intro hd ff) ?_))
  all_goals try clear ff
  have hlk : l.length = k.length := by omega
  refine aw_loop (ι := Nat) (fun i σ => (i ≤ l.length ∧ l.take i = k.take i) ∧ σ.t 0 = .row false 2 l.length (esProp l) ∧ σ.t 1 = .row false 2 k.length (esProp k) ∧ σ.t 5 = I i) (fun i => l.length - i) 0 ?_ ?_
  · (first | exact cl_by trivial | refine st_by trivial ?_)
    try simp
  · rintro i σ ⟨⟨h2, h3⟩, g0, g1, g5⟩
    by_cases hi : i < l.length
    · have hi' : i < k.length := by omega
      have w2 : IntKind.i64.wrap ((i : Int) + 1) = ((i + 1 : Nat) : Int) := wI _ (by omega) (by omega)
      have hne : ¬ l[i] = k[i] → ¬ l = k := fun h e => h (by subst e; rfl)
      have heq : l[i] = k[i] → l.take (i + 1) = k.take (i + 1) := fun h => by rw [List.take_succ_eq_append_getElem hi, List.take_succ_eq_append_getElem hi', h3, h]
      have ff := And.intro @g0 (And.intro @g1 (And.intro @g5 (And.intro @w2 (And.intro @hi (And.intro @hi' (And.intro ((esProp_drop l i hi)) (And.intro @esProp_len (And.intro @eProp_eq (And.intro ((esProp_drop k i hi')) (And.intro @str_beq (And.intro @Ty.sl28 (And.intro @Ty.slz28 (And.intro @Ty.nz71 (And.intro @Ty.ldA71 (And.intro @Ty.sz71 @Ty.szn71)))))))))))))))
      try refine st_by ff ?_
      repeat' (first
        | exact trivial
        | (refine And.intro ?_ ?_; · (try clear ff; first | omega | (rw [List.length_append]; simp [esProp_len]; omega) | (simp [eProp]; done) | decide | (simp [esProp_len]; omega) | rfl))
        | (refine ret_q1 rfl ?_; (try refine sr_by ff ?_); all_goals (try clear ff); all_goals (try exact trivial); all_goals (simp [hne (by simpa using hp)]))
        | (with_reducible refine cq_call (eqProp_does l[i] k[i]) ?_ ?_ ⟨?_, ?_⟩; (· first | rfl | exact cl_by ff); (· first | assumption | kernel_rfl); (· first | exact ca_by ff | (refine sa_by ff ?_; try clear ff; first | exact trivial | omega | (rw [List.length_append]; simp [esProp_len]; omega) | (simp [eProp]; done) | decide | (simp [esProp_len]; omega) | rfl)); refine st_by ff ?_)
        | (with_reducible refine cq_dcall (eqProp_does l[i] k[i]) ?_ ?_ ⟨?_, ?_⟩; (· first | rfl | exact cl_by ff); (· first | assumption | kernel_rfl); (· first | exact ca_by ff | (refine sa_by ff ?_; try clear ff; first | exact trivial | omega | (rw [List.length_append]; simp [esProp_len]; omega) | (simp [eProp]; done) | decide | (simp [esProp_len]; omega) | rfl)); refine st_by ff ?_)
        | (refine aw_drawn (id := 6) ?_ [[], [], [0, 1], [0, 1, 2], [], [], [4, 5], [4, 5, 6], [0, 1, 2, 3, 4, 5, 6, 7], [0, 1, 2, 3, 4, 5, 6, 7, 8]] 8 ?_ ?_; (· kernel_rfl); (· kernel_rfl); refine st_by ff ?_)
        | (with_reducible refine CBC_eq (fun hp hd => ?_) (fun hp hd => ?_) <;> refine st_by (And.intro hd ff) ?_)
        | (with_reducible refine CBC_ne (fun hp hd => ?_) (fun hp hd => ?_) <;> refine st_by (And.intro hd ff) ?_)
        | (with_reducible refine CBC_decT ?_ (fun hd => ?_); (· try clear ff; first | assumption | omega); refine st_by (And.intro hd ff) ?_)
        | (with_reducible refine CBC_decF ?_ (fun hd => ?_); (· try clear ff; first | assumption | omega); refine st_by (And.intro hd ff) ?_)
        | (with_reducible refine CBC_dec (fun hp hd => ?_) (fun hp hd => ?_) <;> refine st_by (And.intro hd ff) ?_)
        | (refine CBC_bool (fun hd => ?_) (fun hd => ?_) <;> refine st_by (And.intro hd ff) ?_)
        | (with_reducible refine GQ_eq (fun hp hd => ?_) (fun hp hd => ?_) <;> refine st_by (And.intro hd ff) ?_)
        | (with_reducible refine GQ_ne (fun hp hd => ?_) (fun hp hd => ?_) <;> refine st_by (And.intro hd ff) ?_)
        | (with_reducible refine GQ_decT ?_ (fun hd => ?_); (· try clear ff; first | assumption | omega); refine st_by (And.intro hd ff) ?_)
        | (with_reducible refine GQ_decF ?_ (fun hd => ?_); (· try clear ff; first | assumption | omega); refine st_by (And.intro hd ff) ?_)
        | (with_reducible refine GQ_dec (fun hp hd => ?_) (fun hp hd => ?_) <;> refine st_by (And.intro hd ff) ?_)
        | (with_reducible refine GQ_ndT ?_ (fun hd => ?_); (· try clear ff; first | assumption | omega); refine st_by (And.intro hd ff) ?_)
        | (with_reducible refine GQ_ndF ?_ (fun hd => ?_); (· try clear ff; first | assumption | omega); refine st_by (And.intro hd ff) ?_)
        | (with_reducible refine GQ_nd (fun hp hd => ?_) (fun hp hd => ?_) <;> refine st_by (And.intro hd ff) ?_)
        | (refine GQ_nb (fun hd => ?_) (fun hd => ?_) <;> refine st_by (And.intro hd ff) ?_)
        | (refine GQ_bool (fun hd => ?_) (fun hd => ?_) <;> refine st_by (And.intro hd ff) ?_)
        | (with_reducible refine GD_eq (fun hp hd => ?_) (fun hp hd => ?_) <;> refine st_by (And.intro hd ff) ?_)
        | (with_reducible refine GD_ne (fun hp hd => ?_) (fun hp hd => ?_) <;> refine st_by (And.intro hd ff) ?_)
        | (with_reducible refine GD_decT ?_ (fun hd => ?_); (· try clear ff; first | assumption | omega); refine st_by (And.intro hd ff) ?_)
        | (with_reducible refine GD_decF ?_ (fun hd => ?_); (· try clear ff; first | assumption | omega); refine st_by (And.intro hd ff) ?_)
        | (with_reducible refine GD_dec (fun hp hd => ?_) (fun hp hd => ?_) <;> refine st_by (And.intro hd ff) ?_)
        | (with_reducible refine GD_ndT ?_ (fun hd => ?_); (· try clear ff; first | assumption | omega); refine st_by (And.intro hd ff) ?_)
        | (with_reducible refine GD_ndF ?_ (fun hd => ?_); (· try clear ff; first | assumption | omega); refine st_by (And.intro hd ff) ?_)
        | (with_reducible refine GD_nd (fun hp hd => ?_) (fun hp hd => ?_) <;> refine st_by (And.intro hd ff) ?_)
        | (refine GD_nb (fun hd => ?_) (fun hd => ?_) <;> refine st_by (And.intro hd ff) ?_)
        | (refine GD_bool (fun hd => ?_) (fun hd => ?_) <;> refine st_by (And.intro hd ff) ?_)
        | ((try clear ff); refine ⟨i + 1, ⟨⟨?_, heq ?_⟩, rfl⟩, ?_⟩; (· omega); (· simpa using hp); (· omega)))
      all_goals try clear ff
    · have e1 : l = k := by rw [List.take_of_length_le (by omega), List.take_of_length_le (by omega)] at h3; exact h3
      have ff := And.intro @g0 (And.intro @g1 (And.intro @g5 (And.intro @Ty.sl28 (And.intro @Ty.slz28 (And.intro @Ty.nz71 (And.intro @Ty.ldA71 (And.intro @Ty.sz71 @Ty.szn71)))))))
      try refine st_by ff ?_
      repeat' (first
        | exact trivial
        | (refine And.intro ?_ ?_; · (try clear ff; first | omega))
        | (refine ret_q1 rfl ?_; (try refine sr_by ff ?_); all_goals (try clear ff); all_goals (try exact trivial); all_goals (simp [e1]))
        | (refine aw_drawn (id := 6) ?_ [[], [], [0, 1], [0, 1, 2], [], [], [4, 5], [4, 5, 6], [0, 1, 2, 3, 4, 5, 6, 7], [0, 1, 2, 3, 4, 5, 6, 7, 8]] 8 ?_ ?_; (· kernel_rfl); (· kernel_rfl); refine st_by ff ?_)
        | (with_reducible refine CBC_eq (fun hp hd => ?_) (fun hp hd => ?_) <;> refine st_by (And.intro hd ff) ?_)
        | (with_reducible refine CBC_ne (fun hp hd => ?_) (fun hp hd => ?_) <;> refine st_by (And.intro hd ff) ?_)
        | (with_reducible refine CBC_decT ?_ (fun hd => ?_); (· try clear ff; first | assumption | omega); refine st_by (And.intro hd ff) ?_)
        | (with_reducible refine CBC_decF ?_ (fun hd => ?_); (· try clear ff; first | assumption | omega); refine st_by (And.intro hd ff) ?_)
        | (with_reducible refine CBC_dec (fun hp hd => ?_) (fun hp hd => ?_) <;> refine st_by (And.intro hd ff) ?_)
        | (refine CBC_bool (fun hd => ?_) (fun hd => ?_) <;> refine st_by (And.intro hd ff) ?_)
        | (with_reducible refine GQ_eq (fun hp hd => ?_) (fun hp hd => ?_) <;> refine st_by (And.intro hd ff) ?_)
        | (with_reducible refine GQ_ne (fun hp hd => ?_) (fun hp hd => ?_) <;> refine st_by (And.intro hd ff) ?_)
        | (with_reducible refine GQ_decT ?_ (fun hd => ?_); (· try clear ff; first | assumption | omega); refine st_by (And.intro hd ff) ?_)
        | (with_reducible refine GQ_decF ?_ (fun hd => ?_); (· try clear ff; first | assumption | omega); refine st_by (And.intro hd ff) ?_)
        | (with_reducible refine GQ_dec (fun hp hd => ?_) (fun hp hd => ?_) <;> refine st_by (And.intro hd ff) ?_)
        | (with_reducible refine GQ_ndT ?_ (fun hd => ?_); (· try clear ff; first | assumption | omega); refine st_by (And.intro hd ff) ?_)
        | (with_reducible refine GQ_ndF ?_ (fun hd => ?_); (· try clear ff; first | assumption | omega); refine st_by (And.intro hd ff) ?_)
        | (with_reducible refine GQ_nd (fun hp hd => ?_) (fun hp hd => ?_) <;> refine st_by (And.intro hd ff) ?_)
        | (refine GQ_nb (fun hd => ?_) (fun hd => ?_) <;> refine st_by (And.intro hd ff) ?_)
        | (refine GQ_bool (fun hd => ?_) (fun hd => ?_) <;> refine st_by (And.intro hd ff) ?_)
        | (with_reducible refine GD_eq (fun hp hd => ?_) (fun hp hd => ?_) <;> refine st_by (And.intro hd ff) ?_)
        | (with_reducible refine GD_ne (fun hp hd => ?_) (fun hp hd => ?_) <;> refine st_by (And.intro hd ff) ?_)
        | (with_reducible refine GD_decT ?_ (fun hd => ?_); (· try clear ff; first | assumption | omega); refine st_by (And.intro hd ff) ?_)
        | (with_reducible refine GD_decF ?_ (fun hd => ?_); (· try clear ff; first | assumption | omega); refine st_by (And.intro hd ff) ?_)
        | (with_reducible refine GD_dec (fun hp hd => ?_) (fun hp hd => ?_) <;> refine st_by (And.intro hd ff) ?_)
        | (with_reducible refine GD_ndT ?_ (fun hd => ?_); (· try clear ff; first | assumption | omega); refine st_by (And.intro hd ff) ?_)
        | (with_reducible refine GD_ndF ?_ (fun hd => ?_); (· try clear ff; first | assumption | omega); refine st_by (And.intro hd ff) ?_)
        | (with_reducible refine GD_nd (fun hp hd => ?_) (fun hp hd => ?_) <;> refine st_by (And.intro hd ff) ?_)
        | (refine GD_nb (fun hd => ?_) (fun hd => ?_) <;> refine st_by (And.intro hd ff) ?_)
        | (refine GD_bool (fun hd => ?_) (fun hd => ?_) <;> refine st_by (And.intro hd ff) ?_))
      all_goals try clear ff
def mProp (x : GProp) (k : Int) : GProp := { x with Path := mtext (k), Value := mtext (k + 1) }
def cProp (x : GProp) : Nat := 2
/-! Step -/
def wfStep (n : Nat) (x : GStep) : Prop := x.Path.size ≤ n ∧ x.Was.size ≤ n ∧ x.Is.size ≤ n
def szStp (x : GStep) (left : Int) : Int := szStep (left - x.Path.size) fun left => szStep (left - x.Was.size) fun left => szStep (left - x.Is.size) fun left => left
theorem szStep_ok : szOk szStp := fun x left h => szStep_le h (by omega) (fun left h => szStep_le h (by omega) (fun left h => szStep_le h (by omega) (fun left h => Int.le_refl _)))
theorem szStep_does (x : GStep) (left : Int) (h0 : 0 ≤ left) (h1 : left ≤ 1048576) (hx : wfStep 9223372036854775807 x) : Does Tryd.prog 52 [.agg (eStep x), I left] (I (szStp x left)) := by
  unfold wfStep at hx
  refine Does.walk (nt := 27) Tryd.func52 rfl rfl (by simp) (by decide) rfl (fun G0 X w0 pv => ?_)
  unfold szStp
  have hv0 : (left - (x.Path.size : Int) : Int) ≤ left := by omega
  have w0 : IntKind.i64.wrap (left - (x.Path.size : Int)) = left - (x.Path.size : Int) := wI _ (by omega) (by omega)
  have ff := And.intro @eStep_eq (And.intro @w0 (And.intro @Ty.nz9 (And.intro @Ty.ldA9 (And.intro @Ty.ldS9 (And.intro @Ty.sz9 (And.intro @Ty.szn9 (And.intro @Ty.fo70_0 (And.intro @Ty.fk70_0 (And.intro @Ty.fs70_0 (And.intro @Ty.fn70_0 (And.intro @Ty.fo70_1 (And.intro @Ty.fk70_1 (And.intro @Ty.fs70_1 (And.intro @Ty.fn70_1 (And.intro @Ty.fo70_3 (And.intro @Ty.fk70_3 (And.intro @Ty.fs70_3 (And.intro @Ty.fn70_3 @Ty.str9))))))))))))))))))
  try refine st_by ff ?_
  repeat' (first
    | exact trivial
    | (refine And.intro ?_ ?_; · (try clear ff; first | omega))
    | (refine ret_q1 rfl ?_; (try refine sr_by ff ?_); all_goals (try clear ff); all_goals (try exact trivial); all_goals ((rw [szStep_neg (by assumption)])))
    | (with_reducible refine CBC_eq (fun hp hd => ?_) (fun hp hd => ?_) <;> refine st_by (And.intro hd ff) ?_)
    | (with_reducible refine CBC_ne (fun hp hd => ?_) (fun hp hd => ?_) <;> refine st_by (And.intro hd ff) ?_)
    | (with_reducible refine CBC_decT ?_ (fun hd => ?_); (· try clear ff; first | assumption | omega); refine st_by (And.intro hd ff) ?_)
    | (with_reducible refine CBC_decF ?_ (fun hd => ?_); (· try clear ff; first | assumption | omega); refine st_by (And.intro hd ff) ?_)
    | (with_reducible refine CBC_dec (p := left - (x.Path.size : Int) < 0) (fun hp hd => ?_) (fun hp hd => ?_) <;> refine st_by (And.intro hd ff) ?_)
    | (with_reducible refine GQ_eq (fun hp hd => ?_) (fun hp hd => ?_) <;> refine st_by (And.intro hd ff) ?_)
    | (with_reducible refine GQ_ne (fun hp hd => ?_) (fun hp hd => ?_) <;> refine st_by (And.intro hd ff) ?_)
    | (with_reducible refine GQ_decT ?_ (fun hd => ?_); (· try clear ff; first | assumption | omega); refine st_by (And.intro hd ff) ?_)
    | (with_reducible refine GQ_decF ?_ (fun hd => ?_); (· try clear ff; first | assumption | omega); refine st_by (And.intro hd ff) ?_)
    | (with_reducible refine GQ_dec (p := left - (x.Path.size : Int) < 0) (fun hp hd => ?_) (fun hp hd => ?_) <;> refine st_by (And.intro hd ff) ?_)
    | (with_reducible refine GQ_ndT ?_ (fun hd => ?_); (· try clear ff; first | assumption | omega); refine st_by (And.intro hd ff) ?_)
    | (with_reducible refine GQ_ndF ?_ (fun hd => ?_); (· try clear ff; first | assumption | omega); refine st_by (And.intro hd ff) ?_)
    | (with_reducible refine GQ_nd (fun hp hd => ?_) (fun hp hd => ?_) <;> refine st_by (And.intro hd ff) ?_))
  all_goals try clear ff
  rw [szStep_pos (by assumption)]
  generalize hg0 : (left - (x.Path.size : Int) : Int) = v0 at *
  have hv1 : (v0 - (x.Was.size : Int) : Int) ≤ v0 := by omega
  have w1 : IntKind.i64.wrap (v0 - (x.Was.size : Int)) = v0 - (x.Was.size : Int) := wI _ (by omega) (by omega)
  have ff := And.intro @eStep_eq (And.intro @w1 (And.intro @Ty.nz9 (And.intro @Ty.ldA9 (And.intro @Ty.ldS9 (And.intro @Ty.sz9 (And.intro @Ty.szn9 (And.intro @Ty.fo70_0 (And.intro @Ty.fk70_0 (And.intro @Ty.fs70_0 (And.intro @Ty.fn70_0 (And.intro @Ty.fo70_1 (And.intro @Ty.fk70_1 (And.intro @Ty.fs70_1 (And.intro @Ty.fn70_1 (And.intro @Ty.fo70_3 (And.intro @Ty.fk70_3 (And.intro @Ty.fs70_3 (And.intro @Ty.fn70_3 @Ty.str9))))))))))))))))))
  try refine st_by ff ?_
  repeat' (first
    | exact trivial
    | (refine And.intro ?_ ?_; · (try clear ff; first | omega))
    | (refine ret_q1 rfl ?_; (try refine sr_by ff ?_); all_goals (try clear ff); all_goals (try exact trivial); all_goals ((rw [szStep_neg (by assumption)])))
    | (with_reducible refine CBC_eq (fun hp hd => ?_) (fun hp hd => ?_) <;> refine st_by (And.intro hd ff) ?_)
    | (with_reducible refine CBC_ne (fun hp hd => ?_) (fun hp hd => ?_) <;> refine st_by (And.intro hd ff) ?_)
    | (with_reducible refine CBC_decT ?_ (fun hd => ?_); (· try clear ff; first | assumption | omega); refine st_by (And.intro hd ff) ?_)
    | (with_reducible refine CBC_decF ?_ (fun hd => ?_); (· try clear ff; first | assumption | omega); refine st_by (And.intro hd ff) ?_)
    | (with_reducible refine CBC_dec (p := v0 - (x.Was.size : Int) < 0) (fun hp hd => ?_) (fun hp hd => ?_) <;> refine st_by (And.intro hd ff) ?_)
    | (with_reducible refine GQ_eq (fun hp hd => ?_) (fun hp hd => ?_) <;> refine st_by (And.intro hd ff) ?_)
    | (with_reducible refine GQ_ne (fun hp hd => ?_) (fun hp hd => ?_) <;> refine st_by (And.intro hd ff) ?_)
    | (with_reducible refine GQ_decT ?_ (fun hd => ?_); (· try clear ff; first | assumption | omega); refine st_by (And.intro hd ff) ?_)
    | (with_reducible refine GQ_decF ?_ (fun hd => ?_); (· try clear ff; first | assumption | omega); refine st_by (And.intro hd ff) ?_)
    | (with_reducible refine GQ_dec (p := v0 - (x.Was.size : Int) < 0) (fun hp hd => ?_) (fun hp hd => ?_) <;> refine st_by (And.intro hd ff) ?_)
    | (with_reducible refine GQ_ndT ?_ (fun hd => ?_); (· try clear ff; first | assumption | omega); refine st_by (And.intro hd ff) ?_)
    | (with_reducible refine GQ_ndF ?_ (fun hd => ?_); (· try clear ff; first | assumption | omega); refine st_by (And.intro hd ff) ?_)
    | (with_reducible refine GQ_nd (fun hp hd => ?_) (fun hp hd => ?_) <;> refine st_by (And.intro hd ff) ?_))
  all_goals try clear ff
  rw [szStep_pos (by assumption)]
  generalize hg1 : (v0 - (x.Was.size : Int) : Int) = v1 at *
  have hv2 : (v1 - (x.Is.size : Int) : Int) ≤ v1 := by omega
  have w2 : IntKind.i64.wrap (v1 - (x.Is.size : Int)) = v1 - (x.Is.size : Int) := wI _ (by omega) (by omega)
  have ff := And.intro @eStep_eq (And.intro @w2 (And.intro @Ty.nz9 (And.intro @Ty.ldA9 (And.intro @Ty.ldS9 (And.intro @Ty.sz9 (And.intro @Ty.szn9 (And.intro @Ty.fo70_0 (And.intro @Ty.fk70_0 (And.intro @Ty.fs70_0 (And.intro @Ty.fn70_0 (And.intro @Ty.fo70_1 (And.intro @Ty.fk70_1 (And.intro @Ty.fs70_1 (And.intro @Ty.fn70_1 (And.intro @Ty.fo70_3 (And.intro @Ty.fk70_3 (And.intro @Ty.fs70_3 (And.intro @Ty.fn70_3 @Ty.str9))))))))))))))))))
  try refine st_by ff ?_
  repeat' (first
    | exact trivial
    | (refine And.intro ?_ ?_; · (try clear ff; first | omega))
    | (refine ret_q1 rfl ?_; (try refine sr_by ff ?_); all_goals (try clear ff); all_goals (try exact trivial); all_goals ((first | rw [szStep_neg (by assumption)] | rw [szStep_pos (by assumption)])))
    | (with_reducible refine CBC_eq (fun hp hd => ?_) (fun hp hd => ?_) <;> refine st_by (And.intro hd ff) ?_)
    | (with_reducible refine CBC_ne (fun hp hd => ?_) (fun hp hd => ?_) <;> refine st_by (And.intro hd ff) ?_)
    | (with_reducible refine CBC_decT ?_ (fun hd => ?_); (· try clear ff; first | assumption | omega); refine st_by (And.intro hd ff) ?_)
    | (with_reducible refine CBC_decF ?_ (fun hd => ?_); (· try clear ff; first | assumption | omega); refine st_by (And.intro hd ff) ?_)
    | (with_reducible refine CBC_dec (fun hp hd => ?_) (fun hp hd => ?_) <;> refine st_by (And.intro hd ff) ?_)
    | (refine CBC_bool (fun hd => ?_) (fun hd => ?_) <;> refine st_by (And.intro hd ff) ?_)
    | (with_reducible refine GQ_eq (fun hp hd => ?_) (fun hp hd => ?_) <;> refine st_by (And.intro hd ff) ?_)
    | (with_reducible refine GQ_ne (fun hp hd => ?_) (fun hp hd => ?_) <;> refine st_by (And.intro hd ff) ?_)
    | (with_reducible refine GQ_decT ?_ (fun hd => ?_); (· try clear ff; first | assumption | omega); refine st_by (And.intro hd ff) ?_)
    | (with_reducible refine GQ_decF ?_ (fun hd => ?_); (· try clear ff; first | assumption | omega); refine st_by (And.intro hd ff) ?_)
    | (with_reducible refine GQ_dec (fun hp hd => ?_) (fun hp hd => ?_) <;> refine st_by (And.intro hd ff) ?_)
    | (with_reducible refine GQ_ndT ?_ (fun hd => ?_); (· try clear ff; first | assumption | omega); refine st_by (And.intro hd ff) ?_)
    | (with_reducible refine GQ_ndF ?_ (fun hd => ?_); (· try clear ff; first | assumption | omega); refine st_by (And.intro hd ff) ?_)
    | (with_reducible refine GQ_nd (fun hp hd => ?_) (fun hp hd => ?_) <;> refine st_by (And.intro hd ff) ?_)
    | (refine GQ_nb (fun hd => ?_) (fun hd => ?_) <;> refine st_by (And.intro hd ff) ?_)
    | (refine GQ_bool (fun hd => ?_) (fun hd => ?_) <;> refine st_by (And.intro hd ff) ?_))
  all_goals try clear ff
theorem toStep_does (x : GStep) : Does Tryd.prog 55 [.agg (eStep x)] (.agg (eStep x)) := by
  refine Does.walk (nt := 20) Tryd.func55 rfl rfl (by simp) (by decide) rfl (fun G0 X w0 pv => ?_)
  have ff := And.intro @eStep_eq (And.intro @Ty.nz9 (And.intro @Ty.ldA9 (And.intro @Ty.ldS9 (And.intro @Ty.sz9 (And.intro @Ty.szn9 (And.intro @Ty.nz4 (And.intro @Ty.ldA4 (And.intro @Ty.ldS4 (And.intro @Ty.sz4 (And.intro @Ty.szn4 (And.intro @Ty.nz48 (And.intro @Ty.ldA48 (And.intro @Ty.sz48 (And.intro @Ty.szn48 (And.intro @Ty.fo70_0 (And.intro @Ty.fk70_0 (And.intro @Ty.fs70_0 (And.intro @Ty.fn70_0 (And.intro @Ty.fo48_0 (And.intro @Ty.fk48_0 (And.intro @Ty.fs48_0 (And.intro @Ty.fn48_0 (And.intro @Ty.fo70_1 (And.intro @Ty.fk70_1 (And.intro @Ty.fs70_1 (And.intro @Ty.fn70_1 (And.intro @Ty.fo48_1 (And.intro @Ty.fk48_1 (And.intro @Ty.fs48_1 (And.intro @Ty.fn48_1 (And.intro @Ty.fo70_2 (And.intro @Ty.fk70_2 (And.intro @Ty.fs70_2 (And.intro @Ty.fn70_2 (And.intro @Ty.fo48_2 (And.intro @Ty.fk48_2 (And.intro @Ty.fs48_2 (And.intro @Ty.fn48_2 (And.intro @Ty.fo70_3 (And.intro @Ty.fk70_3 (And.intro @Ty.fs70_3 (And.intro @Ty.fn70_3 (And.intro @Ty.fo48_3 (And.intro @Ty.fk48_3 (And.intro @Ty.fs48_3 (And.intro @Ty.fn48_3 (And.intro @Ty.fo70_4 (And.intro @Ty.fk70_4 (And.intro @Ty.fs70_4 (And.intro @Ty.fn70_4 (And.intro @Ty.fo48_4 (And.intro @Ty.fk48_4 (And.intro @Ty.fs48_4 (And.intro @Ty.fn48_4 (And.intro @Ty.zv48 @Ty.ag48)))))))))))))))))))))))))))))))))))))))))))))))))))))))
  try refine st_by ff ?_
  repeat' (first
    | exact trivial
    | (refine And.intro ?_ ?_; · (try clear ff; first | omega | decide))
    | (refine ret_q1 rfl ?_; (try refine sr_by ff ?_); all_goals (try clear ff); all_goals (try exact trivial); all_goals (skip))
    | (with_reducible refine CBC_eq (fun hp hd => ?_) (fun hp hd => ?_) <;> refine st_by (And.intro hd ff) ?_)
    | (with_reducible refine CBC_ne (fun hp hd => ?_) (fun hp hd => ?_) <;> refine st_by (And.intro hd ff) ?_)
    | (with_reducible refine CBC_decT ?_ (fun hd => ?_); (· try clear ff; first | assumption | omega); refine st_by (And.intro hd ff) ?_)
    | (with_reducible refine CBC_decF ?_ (fun hd => ?_); (· try clear ff; first | assumption | omega); refine st_by (And.intro hd ff) ?_)
    | (with_reducible refine CBC_dec (fun hp hd => ?_) (fun hp hd => ?_) <;> refine st_by (And.intro hd ff) ?_)
    | (refine CBC_bool (fun hd => ?_) (fun hd => ?_) <;> refine st_by (And.intro hd ff) ?_)
    | (with_reducible refine GQ_eq (fun hp hd => ?_) (fun hp hd => ?_) <;> refine st_by (And.intro hd ff) ?_)
    | (with_reducible refine GQ_ne (fun hp hd => ?_) (fun hp hd => ?_) <;> refine st_by (And.intro hd ff) ?_)
    | (with_reducible refine GQ_decT ?_ (fun hd => ?_); (· try clear ff; first | assumption | omega); refine st_by (And.intro hd ff) ?_)
    | (with_reducible refine GQ_decF ?_ (fun hd => ?_); (· try clear ff; first | assumption | omega); refine st_by (And.intro hd ff) ?_)
    | (with_reducible refine GQ_dec (fun hp hd => ?_) (fun hp hd => ?_) <;> refine st_by (And.intro hd ff) ?_)
    | (with_reducible refine GQ_ndT ?_ (fun hd => ?_); (· try clear ff; first | assumption | omega); refine st_by (And.intro hd ff) ?_)
    | (with_reducible refine GQ_ndF ?_ (fun hd => ?_); (· try clear ff; first | assumption | omega); refine st_by (And.intro hd ff) ?_)
    | (with_reducible refine GQ_nd (fun hp hd => ?_) (fun hp hd => ?_) <;> refine st_by (And.intro hd ff) ?_)
    | (refine GQ_nb (fun hd => ?_) (fun hd => ?_) <;> refine st_by (And.intro hd ff) ?_)
    | (refine GQ_bool (fun hd => ?_) (fun hd => ?_) <;> refine st_by (And.intro hd ff) ?_))
  all_goals try clear ff
theorem eqStep_does (x y : GStep) : Does Tryd.prog 58 [.agg (eStep x), .agg (eStep y)] (B (decide (x = y))) := by
  have hxy : decide (x = y) = decide (x.Path = y.Path ∧ x.Was = y.Was ∧ x.Had = y.Had ∧ x.Is = y.Is ∧ x.Has = y.Has) := decide_eq_decide.2 (by cases x; cases y; simp)
  rw [hxy]
  refine Does.walk (nt := 30) Tryd.func58 rfl rfl (by simp) (by decide) rfl (fun G0 X w0 pv => ?_)
  have ff := And.intro @eStep_eq (And.intro @str_beq (And.intro @Ty.nz9 (And.intro @Ty.ldA9 (And.intro @Ty.ldS9 (And.intro @Ty.sz9 (And.intro @Ty.szn9 (And.intro @Ty.nz4 (And.intro @Ty.ldA4 (And.intro @Ty.ldS4 (And.intro @Ty.sz4 (And.intro @Ty.szn4 (And.intro @Ty.fo48_0 (And.intro @Ty.fk48_0 (And.intro @Ty.fs48_0 (And.intro @Ty.fn48_0 (And.intro @Ty.fo48_1 (And.intro @Ty.fk48_1 (And.intro @Ty.fs48_1 (And.intro @Ty.fn48_1 (And.intro @Ty.fo48_2 (And.intro @Ty.fk48_2 (And.intro @Ty.fs48_2 (And.intro @Ty.fn48_2 (And.intro @Ty.fo48_3 (And.intro @Ty.fk48_3 (And.intro @Ty.fs48_3 (And.intro @Ty.fn48_3 (And.intro @Ty.fo48_4 (And.intro @Ty.fk48_4 (And.intro @Ty.fs48_4 (And.intro @Ty.fn48_4 @Ty.bl4)))))))))))))))))))))))))))))))
  try refine st_by ff ?_
  repeat' (first
    | exact trivial
    | (refine And.intro ?_ ?_; · (try clear ff; first | omega))
    | (refine ret_q1 rfl ?_; (try refine sr_by ff ?_); all_goals (try clear ff); all_goals (try exact trivial); all_goals (simp_all))
    | (with_reducible refine CBC_eq (fun hp hd => ?_) (fun hp hd => ?_) <;> refine st_by (And.intro hd ff) ?_)
    | (with_reducible refine CBC_ne (fun hp hd => ?_) (fun hp hd => ?_) <;> refine st_by (And.intro hd ff) ?_)
    | (with_reducible refine CBC_decT ?_ (fun hd => ?_); (· try clear ff; first | assumption | omega); refine st_by (And.intro hd ff) ?_)
    | (with_reducible refine CBC_decF ?_ (fun hd => ?_); (· try clear ff; first | assumption | omega); refine st_by (And.intro hd ff) ?_)
    | (with_reducible refine CBC_dec (fun hp hd => ?_) (fun hp hd => ?_) <;> refine st_by (And.intro hd ff) ?_)
    | (refine CBC_bool (fun hd => ?_) (fun hd => ?_) <;> refine st_by (And.intro hd ff) ?_)
    | (with_reducible refine GQ_eq (fun hp hd => ?_) (fun hp hd => ?_) <;> refine st_by (And.intro hd ff) ?_)
    | (with_reducible refine GQ_ne (fun hp hd => ?_) (fun hp hd => ?_) <;> refine st_by (And.intro hd ff) ?_)
    | (with_reducible refine GQ_decT ?_ (fun hd => ?_); (· try clear ff; first | assumption | omega); refine st_by (And.intro hd ff) ?_)
    | (with_reducible refine GQ_decF ?_ (fun hd => ?_); (· try clear ff; first | assumption | omega); refine st_by (And.intro hd ff) ?_)
    | (with_reducible refine GQ_dec (fun hp hd => ?_) (fun hp hd => ?_) <;> refine st_by (And.intro hd ff) ?_)
    | (with_reducible refine GQ_ndT ?_ (fun hd => ?_); (· try clear ff; first | assumption | omega); refine st_by (And.intro hd ff) ?_)
    | (with_reducible refine GQ_ndF ?_ (fun hd => ?_); (· try clear ff; first | assumption | omega); refine st_by (And.intro hd ff) ?_)
    | (with_reducible refine GQ_nd (fun hp hd => ?_) (fun hp hd => ?_) <;> refine st_by (And.intro hd ff) ?_)
    | (refine GQ_nb (fun hd => ?_) (fun hd => ?_) <;> refine st_by (And.intro hd ff) ?_)
    | (refine GQ_bool (fun hd => ?_) (fun hd => ?_) <;> refine st_by (And.intro hd ff) ?_))
  all_goals try clear ff
/-! []Step -/
theorem szStepS_does (l : List GStep) (left : Int) (h0 : 0 ≤ left) (h1 : left ≤ 1048576) (hl : l.length ≤ 9223372036854775807) (hx : ∀ x ∈ l, wfStep 9223372036854775807 x) : Does Tryd.prog 24 [.row false 5 l.length (esStep l), I left] (I (szRow szStp l left)) := by
  have w1 : IntKind.i64.wrap (left - (l.length : Int)) = left - l.length := wI _ (by omega) (by omega)
  refine Does.walk (nt := 27) Tryd.func24 rfl rfl (by simp) (by decide) rfl (fun G0 X w0 pv => ?_)
  have ff := And.intro @w1 (And.intro @Ty.sl23 (And.intro @Ty.slz23 (And.intro @Ty.nz70 (And.intro @Ty.ldA70 (And.intro @Ty.sz70 @Ty.szn70)))))
  try refine st_by ff ?_
  repeat' (first
    | exact trivial
    | (refine And.intro ?_ ?_; · (try clear ff; first | omega))
    | (refine ret_q1 rfl ?_; (try refine sr_by ff ?_); all_goals (try clear ff); all_goals (try exact trivial); all_goals ((simp only [szRow]; first | rw [szStep_neg (by omega)] | rw [szStep_pos (by omega)])))
    | (with_reducible refine CBC_eq (fun hp hd => ?_) (fun hp hd => ?_) <;> refine st_by (And.intro hd ff) ?_)
    | (with_reducible refine CBC_ne (fun hp hd => ?_) (fun hp hd => ?_) <;> refine st_by (And.intro hd ff) ?_)
    | (with_reducible refine CBC_decT ?_ (fun hd => ?_); (· try clear ff; first | assumption | omega); refine st_by (And.intro hd ff) ?_)
    | (with_reducible refine CBC_decF ?_ (fun hd => ?_); (· try clear ff; first | assumption | omega); refine st_by (And.intro hd ff) ?_)
    | (with_reducible refine CBC_dec (fun hp hd => ?_) (fun hp hd => ?_) <;> refine st_by (And.intro hd ff) ?_)
    | (refine CBC_bool (fun hd => ?_) (fun hd => ?_) <;> refine st_by (And.intro hd ff) ?_)
    | (with_reducible refine GQ_eq (fun hp hd => ?_) (fun hp hd => ?_) <;> refine st_by (And.intro hd ff) ?_)
    | (with_reducible refine GQ_ne (fun hp hd => ?_) (fun hp hd => ?_) <;> refine st_by (And.intro hd ff) ?_)
    | (with_reducible refine GQ_decT ?_ (fun hd => ?_); (· try clear ff; first | assumption | omega); refine st_by (And.intro hd ff) ?_)
    | (with_reducible refine GQ_decF ?_ (fun hd => ?_); (· try clear ff; first | assumption | omega); refine st_by (And.intro hd ff) ?_)
    | (with_reducible refine GQ_dec (fun hp hd => ?_) (fun hp hd => ?_) <;> refine st_by (And.intro hd ff) ?_)
    | (with_reducible refine GQ_ndT ?_ (fun hd => ?_); (· try clear ff; first | assumption | omega); refine st_by (And.intro hd ff) ?_)
    | (with_reducible refine GQ_ndF ?_ (fun hd => ?_); (· try clear ff; first | assumption | omega); refine st_by (And.intro hd ff) ?_)
    | (with_reducible refine GQ_nd (fun hp hd => ?_) (fun hp hd => ?_) <;> refine st_by (And.intro hd ff) ?_)
    | (refine GQ_nb (fun hd => ?_) (fun hd => ?_) <;> refine st_by (And.intro hd ff) ?_)
    | (refine GQ_bool (fun hd => ?_) (fun hd => ?_) <;> refine st_by (And.intro hd ff) ?_))
  all_goals try clear ff
  have e0 : szRow szStp l left = szL szStp l (left - l.length) := by simp only [szRow]; rw [szStep_pos (by omega)]
  rw [e0]
  refine aw_loop (ι := Nat × Int) (fun z σ => (z.1 ≤ l.length ∧ 0 ≤ z.2 ∧ z.2 ≤ 1048576 ∧ szL szStp (l.drop z.1) z.2 = szL szStp l (left - l.length)) ∧ σ.t 0 = .row false 5 l.length (esStep l) ∧ σ.t 1 = I z.2 ∧ σ.t 5 = I z.1) (fun z => l.length - z.1) (0, left - l.length) ?_ ?_
  · (first | exact cl_by trivial | refine st_by trivial ?_)
    simp [w1]; omega
  · rintro ⟨i, a⟩ σ ⟨⟨h2, h3, h4, h5⟩, g0, g1, g5⟩
    simp only at h2 h3 h4 h5 g0 g1 g5
    by_cases hi : i < l.length
    · have w2 : IntKind.i64.wrap ((i : Int) + 1) = ((i + 1 : Nat) : Int) := wI _ (by omega) (by omega)
      have hle := szStep_ok l[i] a h3
      have hd0 := szL_drop (f := szStp) l i hi a
      have hx0 := hx l[i] (List.getElem_mem hi)
      have ff := And.intro @g0 (And.intro @g1 (And.intro @g5 (And.intro @w2 (And.intro @hi (And.intro ((esStep_drop l i hi)) (And.intro @esStep_len (And.intro @eStep_eq (And.intro @Ty.sl23 (And.intro @Ty.slz23 (And.intro @Ty.nz70 (And.intro @Ty.ldA70 (And.intro @Ty.sz70 @Ty.szn70))))))))))))
      try refine st_by ff ?_
      repeat' (first
        | exact trivial
        | (refine And.intro ?_ ?_; · (try clear ff; first | omega | (rw [List.length_append]; simp [esStep_len]; omega) | (simp [eStep]; done) | decide | (simp [esStep_len]; omega) | rfl))
        | (refine ret_q1 rfl ?_; (try refine sr_by ff ?_); all_goals (try clear ff); all_goals (try exact trivial); all_goals (first | (rw [← h5, hd0, szStep_neg (by first | assumption | omega)]; done) | (exfalso; omega)))
        | (with_reducible refine cq_call (szStep_does l[i] a h3 h4 hx0) ?_ ?_ ⟨?_, ?_⟩; (· first | rfl | exact cl_by ff); (· first | assumption | kernel_rfl); (· first | exact ca_by ff | (refine sa_by ff ?_; try clear ff; first | exact trivial | omega | (rw [List.length_append]; simp [esStep_len]; omega) | (simp [eStep]; done) | decide | (simp [esStep_len]; omega) | rfl)); refine st_by ff ?_)
        | (with_reducible refine CBC_eq (fun hp hd => ?_) (fun hp hd => ?_) <;> refine st_by (And.intro hd ff) ?_)
        | (with_reducible refine CBC_ne (fun hp hd => ?_) (fun hp hd => ?_) <;> refine st_by (And.intro hd ff) ?_)
        | (with_reducible refine CBC_decT ?_ (fun hd => ?_); (· try clear ff; first | assumption | omega); refine st_by (And.intro hd ff) ?_)
        | (with_reducible refine CBC_decF ?_ (fun hd => ?_); (· try clear ff; first | assumption | omega); refine st_by (And.intro hd ff) ?_)
        | (with_reducible refine CBC_dec (fun hp hd => ?_) (fun hp hd => ?_) <;> refine st_by (And.intro hd ff) ?_)
        | (refine CBC_bool (fun hd => ?_) (fun hd => ?_) <;> refine st_by (And.intro hd ff) ?_)
        | (with_reducible refine GQ_eq (fun hp hd => ?_) (fun hp hd => ?_) <;> refine st_by (And.intro hd ff) ?_)
        | (with_reducible refine GQ_ne (fun hp hd => ?_) (fun hp hd => ?_) <;> refine st_by (And.intro hd ff) ?_)
        | (with_reducible refine GQ_decT ?_ (fun hd => ?_); (· try clear ff; first | assumption | omega); refine st_by (And.intro hd ff) ?_)
        | (with_reducible refine GQ_decF ?_ (fun hd => ?_); (· try clear ff; first | assumption | omega); refine st_by (And.intro hd ff) ?_)
        | (with_reducible refine GQ_dec (fun hp hd => ?_) (fun hp hd => ?_) <;> refine st_by (And.intro hd ff) ?_)
        | (with_reducible refine GQ_ndT ?_ (fun hd => ?_); (· try clear ff; first | assumption | omega); refine st_by (And.intro hd ff) ?_)
        | (with_reducible refine GQ_ndF ?_ (fun hd => ?_); (· try clear ff; first | assumption | omega); refine st_by (And.intro hd ff) ?_)
        | (with_reducible refine GQ_nd (fun hp hd => ?_) (fun hp hd => ?_) <;> refine st_by (And.intro hd ff) ?_)
        | (refine GQ_nb (fun hd => ?_) (fun hd => ?_) <;> refine st_by (And.intro hd ff) ?_)
        | (refine GQ_bool (fun hd => ?_) (fun hd => ?_) <;> refine st_by (And.intro hd ff) ?_)
        | ((try clear ff); refine ⟨(i + 1, szStp l[i] a), ⟨⟨?_, ?_, ?_, ?_⟩, rfl, rfl⟩, ?_⟩; (· simp only; omega); (· simp only; omega); (· simp only; omega); (· simp only; rw [← h5, hd0, szStep_pos (by first | assumption | omega)]); (· simp only; omega)))
      all_goals try clear ff
    · have e1 : l.drop i = [] := List.drop_of_length_le (by omega)
      have ff := And.intro @g0 (And.intro @g1 (And.intro @g5 (And.intro @Ty.sl23 (And.intro @Ty.slz23 (And.intro @Ty.nz70 (And.intro @Ty.ldA70 (And.intro @Ty.sz70 @Ty.szn70)))))))
      try refine st_by ff ?_
      repeat' (first
        | exact trivial
        | (refine And.intro ?_ ?_; · (try clear ff; first | omega))
        | (refine ret_q1 rfl ?_; (try refine sr_by ff ?_); all_goals (try clear ff); all_goals (try exact trivial); all_goals (rw [← h5, e1]; rfl))
        | (with_reducible refine CBC_eq (fun hp hd => ?_) (fun hp hd => ?_) <;> refine st_by (And.intro hd ff) ?_)
        | (with_reducible refine CBC_ne (fun hp hd => ?_) (fun hp hd => ?_) <;> refine st_by (And.intro hd ff) ?_)
        | (with_reducible refine CBC_decT ?_ (fun hd => ?_); (· try clear ff; first | assumption | omega); refine st_by (And.intro hd ff) ?_)
        | (with_reducible refine CBC_decF ?_ (fun hd => ?_); (· try clear ff; first | assumption | omega); refine st_by (And.intro hd ff) ?_)
        | (with_reducible refine CBC_dec (fun hp hd => ?_) (fun hp hd => ?_) <;> refine st_by (And.intro hd ff) ?_)
        | (refine CBC_bool (fun hd => ?_) (fun hd => ?_) <;> refine st_by (And.intro hd ff) ?_)
        | (with_reducible refine GQ_eq (fun hp hd => ?_) (fun hp hd => ?_) <;> refine st_by (And.intro hd ff) ?_)
        | (with_reducible refine GQ_ne (fun hp hd => ?_) (fun hp hd => ?_) <;> refine st_by (And.intro hd ff) ?_)
        | (with_reducible refine GQ_decT ?_ (fun hd => ?_); (· try clear ff; first | assumption | omega); refine st_by (And.intro hd ff) ?_)
        | (with_reducible refine GQ_decF ?_ (fun hd => ?_); (· try clear ff; first | assumption | omega); refine st_by (And.intro hd ff) ?_)
        | (with_reducible refine GQ_dec (fun hp hd => ?_) (fun hp hd => ?_) <;> refine st_by (And.intro hd ff) ?_)
        | (with_reducible refine GQ_ndT ?_ (fun hd => ?_); (· try clear ff; first | assumption | omega); refine st_by (And.intro hd ff) ?_)
        | (with_reducible refine GQ_ndF ?_ (fun hd => ?_); (· try clear ff; first | assumption | omega); refine st_by (And.intro hd ff) ?_)
        | (with_reducible refine GQ_nd (fun hp hd => ?_) (fun hp hd => ?_) <;> refine st_by (And.intro hd ff) ?_)
        | (refine GQ_nb (fun hd => ?_) (fun hd => ?_) <;> refine st_by (And.intro hd ff) ?_)
        | (refine GQ_bool (fun hd => ?_) (fun hd => ?_) <;> refine st_by (And.intro hd ff) ?_))
      all_goals try clear ff
theorem toStepS_does (l : List GStep) (hl : l.length ≤ 1048576) : Does Tryd.prog 29 [.row false 5 l.length (esStep l)] (.row true 5 l.length (esStep l)) := by
  have hz := zRows (enc := eStep) (z := (⟨⟨#[]⟩, ⟨#[]⟩, false, ⟨#[]⟩, false⟩ : GStep)) (zs := [.string ⟨#[]⟩, .string ⟨#[]⟩, .bool false, .string ⟨#[]⟩, .bool false]) (by decide) rfl l.length
  refine Does.walk (nt := 23) Tryd.func29 rfl rfl (by simp) (by decide) rfl (fun G0 X w0 pv => ?_)
  have ff := And.intro @Ty.sl23 (And.intro @Ty.slz23 (And.intro @Ty.sl29 (And.intro @Ty.slz29 (And.intro @Ty.nz70 (And.intro @Ty.ldA70 (And.intro @Ty.sz70 (And.intro @Ty.szn70 (And.intro @Ty.nz48 (And.intro @Ty.ldA48 (And.intro @Ty.sz48 (And.intro @Ty.szn48 (And.intro @Ty.nze29 (And.intro @Ty.zok29 (And.intro @Ty.by29 @Ty.zs29))))))))))))))
  try refine st_by ff ?_
  repeat' (first
    | exact trivial
    | (refine And.intro ?_ ?_; · (try clear ff; first | omega | decide | rfl))
    | (refine ret_q1 rfl ?_; (try refine sr_by ff ?_); all_goals (try clear ff); all_goals (try exact trivial); all_goals (skip))
    | (with_reducible refine CBC_eq (fun hp hd => ?_) (fun hp hd => ?_) <;> refine st_by (And.intro hd ff) ?_)
    | (with_reducible refine CBC_ne (fun hp hd => ?_) (fun hp hd => ?_) <;> refine st_by (And.intro hd ff) ?_)
    | (with_reducible refine CBC_decT ?_ (fun hd => ?_); (· try clear ff; first | assumption | omega); refine st_by (And.intro hd ff) ?_)
    | (with_reducible refine CBC_decF ?_ (fun hd => ?_); (· try clear ff; first | assumption | omega); refine st_by (And.intro hd ff) ?_)
    | (with_reducible refine CBC_dec (fun hp hd => ?_) (fun hp hd => ?_) <;> refine st_by (And.intro hd ff) ?_)
    | (refine CBC_bool (fun hd => ?_) (fun hd => ?_) <;> refine st_by (And.intro hd ff) ?_)
    | (with_reducible refine GQ_eq (fun hp hd => ?_) (fun hp hd => ?_) <;> refine st_by (And.intro hd ff) ?_)
    | (with_reducible refine GQ_ne (fun hp hd => ?_) (fun hp hd => ?_) <;> refine st_by (And.intro hd ff) ?_)
    | (with_reducible refine GQ_decT ?_ (fun hd => ?_); (· try clear ff; first | assumption | omega); refine st_by (And.intro hd ff) ?_)
    | (with_reducible refine GQ_decF ?_ (fun hd => ?_); (· try clear ff; first | assumption | omega); refine st_by (And.intro hd ff) ?_)
    | (with_reducible refine GQ_dec (fun hp hd => ?_) (fun hp hd => ?_) <;> refine st_by (And.intro hd ff) ?_)
    | (with_reducible refine GQ_ndT ?_ (fun hd => ?_); (· try clear ff; first | assumption | omega); refine st_by (And.intro hd ff) ?_)
    | (with_reducible refine GQ_ndF ?_ (fun hd => ?_); (· try clear ff; first | assumption | omega); refine st_by (And.intro hd ff) ?_)
    | (with_reducible refine GQ_nd (fun hp hd => ?_) (fun hp hd => ?_) <;> refine st_by (And.intro hd ff) ?_)
    | (refine GQ_nb (fun hd => ?_) (fun hd => ?_) <;> refine st_by (And.intro hd ff) ?_)
    | (refine GQ_bool (fun hd => ?_) (fun hd => ?_) <;> refine st_by (And.intro hd ff) ?_))
  all_goals try clear ff
  refine aw_loop (ι := Nat) (fun i σ => i ≤ l.length ∧ σ.t 0 = .row false 5 l.length (esStep l) ∧ σ.t 4 = I i ∧ σ.t 3 = .sl 3 [] 0 l.length ∧ σ.m 3 = some (.row true 5 l.length (esStep (l.take i ++ List.replicate (l.length - i) ⟨⟨#[]⟩, ⟨#[]⟩, false, ⟨#[]⟩, false⟩)))) (fun i => l.length - i) 0 ?_ ?_
  · (first | exact cl_by (And.intro @Ty.sl23 (And.intro @Ty.slz23 (And.intro @Ty.sl29 (And.intro @Ty.slz29 (And.intro @Ty.nz70 (And.intro @Ty.ldA70 (And.intro @Ty.sz70 (And.intro @Ty.szn70 (And.intro @Ty.nz48 (And.intro @Ty.ldA48 (And.intro @Ty.sz48 (And.intro @Ty.szn48 (And.intro @Ty.nze29 (And.intro @Ty.zok29 (And.intro @Ty.by29 @Ty.zs29))))))))))))))) | refine st_by (And.intro @Ty.sl23 (And.intro @Ty.slz23 (And.intro @Ty.sl29 (And.intro @Ty.slz29 (And.intro @Ty.nz70 (And.intro @Ty.ldA70 (And.intro @Ty.sz70 (And.intro @Ty.szn70 (And.intro @Ty.nz48 (And.intro @Ty.ldA48 (And.intro @Ty.sz48 (And.intro @Ty.szn48 (And.intro @Ty.nze29 (And.intro @Ty.zok29 (And.intro @Ty.by29 @Ty.zs29))))))))))))))) ?_)
    simp [esStep, hz]
  · rintro i σ ⟨h2, g0, g4, g3, m3⟩
    by_cases hi : i < l.length
    · have w2 : IntKind.i64.wrap ((i : Int) + 1) = ((i + 1 : Nat) : Int) := wI _ (by omega) (by omega)
      have hlen : (l.take i ++ List.replicate (l.length - i) (⟨⟨#[]⟩, ⟨#[]⟩, false, ⟨#[]⟩, false⟩ : GStep)).length = l.length := by simp; omega
      have hset := take_rep_set l ⟨⟨#[]⟩, ⟨#[]⟩, false, ⟨#[]⟩, false⟩ i hi
      have hsl := esStep_setL (l.take i ++ List.replicate (l.length - i) ⟨⟨#[]⟩, ⟨#[]⟩, false, ⟨#[]⟩, false⟩) i l[i] (by omega)
      generalize l.take i ++ List.replicate (l.length - i) (⟨⟨#[]⟩, ⟨#[]⟩, false, ⟨#[]⟩, false⟩ : GStep) = L at m3 hlen hset hsl
      rw [hset] at hsl
      have ff := And.intro @g0 (And.intro @g3 (And.intro @g4 (And.intro @m3 (And.intro @w2 (And.intro @hi (And.intro ((esStep_drop l i hi)) (And.intro @esStep_len (And.intro @eStep_eq (And.intro @esStep_len (And.intro @Ty.sl23 (And.intro @Ty.slz23 (And.intro @Ty.sl29 (And.intro @Ty.slz29 (And.intro @Ty.nz70 (And.intro @Ty.ldA70 (And.intro @Ty.sz70 (And.intro @Ty.szn70 (And.intro @Ty.nz48 (And.intro @Ty.ldA48 (And.intro @Ty.sz48 (And.intro @Ty.szn48 (And.intro @Ty.nze29 (And.intro @Ty.zok29 (And.intro @Ty.by29 @Ty.zs29))))))))))))))))))))))))
      try refine st_by ff ?_
      repeat' (first
        | exact trivial
        | (refine And.intro ?_ ?_; · (try clear ff; first | omega | (rw [List.length_append]; simp [esStep_len]; omega) | (simp [eStep]; done) | decide | (simp [esStep_len]; omega) | rfl | (simp [esStep_len, hlen]; omega)))
        | (refine ret_q1 rfl ?_; (try refine sr_by ff ?_); all_goals (try clear ff); all_goals (try exact trivial); all_goals (skip))
        | (with_reducible refine cq_call (toStep_does l[i]) ?_ ?_ ⟨?_, ?_⟩; (· first | rfl | exact cl_by ff); (· first | assumption | kernel_rfl); (· first | exact ca_by ff | (refine sa_by ff ?_; try clear ff; first | exact trivial | omega | (rw [List.length_append]; simp [esStep_len]; omega) | (simp [eStep]; done) | decide | (simp [esStep_len]; omega) | rfl | (simp [esStep_len, hlen]; omega))); refine st_by ff ?_)
        | (with_reducible refine CBC_eq (fun hp hd => ?_) (fun hp hd => ?_) <;> refine st_by (And.intro hd ff) ?_)
        | (with_reducible refine CBC_ne (fun hp hd => ?_) (fun hp hd => ?_) <;> refine st_by (And.intro hd ff) ?_)
        | (with_reducible refine CBC_decT ?_ (fun hd => ?_); (· try clear ff; first | assumption | omega); refine st_by (And.intro hd ff) ?_)
        | (with_reducible refine CBC_decF ?_ (fun hd => ?_); (· try clear ff; first | assumption | omega); refine st_by (And.intro hd ff) ?_)
        | (with_reducible refine CBC_dec (fun hp hd => ?_) (fun hp hd => ?_) <;> refine st_by (And.intro hd ff) ?_)
        | (refine CBC_bool (fun hd => ?_) (fun hd => ?_) <;> refine st_by (And.intro hd ff) ?_)
        | (with_reducible refine GQ_eq (fun hp hd => ?_) (fun hp hd => ?_) <;> refine st_by (And.intro hd ff) ?_)
        | (with_reducible refine GQ_ne (fun hp hd => ?_) (fun hp hd => ?_) <;> refine st_by (And.intro hd ff) ?_)
        | (with_reducible refine GQ_decT ?_ (fun hd => ?_); (· try clear ff; first | assumption | omega); refine st_by (And.intro hd ff) ?_)
        | (with_reducible refine GQ_decF ?_ (fun hd => ?_); (· try clear ff; first | assumption | omega); refine st_by (And.intro hd ff) ?_)
        | (with_reducible refine GQ_dec (fun hp hd => ?_) (fun hp hd => ?_) <;> refine st_by (And.intro hd ff) ?_)
        | (with_reducible refine GQ_ndT ?_ (fun hd => ?_); (· try clear ff; first | assumption | omega); refine st_by (And.intro hd ff) ?_)
        | (with_reducible refine GQ_ndF ?_ (fun hd => ?_); (· try clear ff; first | assumption | omega); refine st_by (And.intro hd ff) ?_)
        | (with_reducible refine GQ_nd (fun hp hd => ?_) (fun hp hd => ?_) <;> refine st_by (And.intro hd ff) ?_)
        | (refine GQ_nb (fun hd => ?_) (fun hd => ?_) <;> refine st_by (And.intro hd ff) ?_)
        | (refine GQ_bool (fun hd => ?_) (fun hd => ?_) <;> refine st_by (And.intro hd ff) ?_)
        | ((try clear ff); refine ⟨i + 1, ⟨?_, rfl, ?_⟩, ?_⟩; (· omega); (· first | (rw [← hsl]; rfl) | (simp only [← hsl, eStep]; rfl)); (· omega)))
      all_goals try clear ff
    · have e1 : l.take i ++ List.replicate (l.length - i) (⟨⟨#[]⟩, ⟨#[]⟩, false, ⟨#[]⟩, false⟩ : GStep) = l := by rw [List.take_of_length_le (by omega)]; simp; omega
      rw [e1] at m3
      have ff := And.intro @g0 (And.intro @g3 (And.intro @g4 (And.intro @m3 (And.intro @Ty.sl23 (And.intro @Ty.slz23 (And.intro @Ty.sl29 (And.intro @Ty.slz29 (And.intro @Ty.nz70 (And.intro @Ty.ldA70 (And.intro @Ty.sz70 (And.intro @Ty.szn70 (And.intro @Ty.nz48 (And.intro @Ty.ldA48 (And.intro @Ty.sz48 (And.intro @Ty.szn48 (And.intro @Ty.nze29 (And.intro @Ty.zok29 (And.intro @Ty.by29 @Ty.zs29))))))))))))))))))
      try refine st_by ff ?_
      repeat' (first
        | exact trivial
        | (refine And.intro ?_ ?_; · (try clear ff; first | omega))
        | (refine ret_q1 rfl ?_; (try refine sr_by ff ?_); all_goals (try clear ff); all_goals (try exact trivial); all_goals (rfl))
        | (with_reducible refine CBC_eq (fun hp hd => ?_) (fun hp hd => ?_) <;> refine st_by (And.intro hd ff) ?_)
        | (with_reducible refine CBC_ne (fun hp hd => ?_) (fun hp hd => ?_) <;> refine st_by (And.intro hd ff) ?_)
        | (with_reducible refine CBC_decT ?_ (fun hd => ?_); (· try clear ff; first | assumption | omega); refine st_by (And.intro hd ff) ?_)
        | (with_reducible refine CBC_decF ?_ (fun hd => ?_); (· try clear ff; first | assumption | omega); refine st_by (And.intro hd ff) ?_)
        | (with_reducible refine CBC_dec (fun hp hd => ?_) (fun hp hd => ?_) <;> refine st_by (And.intro hd ff) ?_)
        | (refine CBC_bool (fun hd => ?_) (fun hd => ?_) <;> refine st_by (And.intro hd ff) ?_)
        | (with_reducible refine GQ_eq (fun hp hd => ?_) (fun hp hd => ?_) <;> refine st_by (And.intro hd ff) ?_)
        | (with_reducible refine GQ_ne (fun hp hd => ?_) (fun hp hd => ?_) <;> refine st_by (And.intro hd ff) ?_)
        | (with_reducible refine GQ_decT ?_ (fun hd => ?_); (· try clear ff; first | assumption | omega); refine st_by (And.intro hd ff) ?_)
        | (with_reducible refine GQ_decF ?_ (fun hd => ?_); (· try clear ff; first | assumption | omega); refine st_by (And.intro hd ff) ?_)
        | (with_reducible refine GQ_dec (fun hp hd => ?_) (fun hp hd => ?_) <;> refine st_by (And.intro hd ff) ?_)
        | (with_reducible refine GQ_ndT ?_ (fun hd => ?_); (· try clear ff; first | assumption | omega); refine st_by (And.intro hd ff) ?_)
        | (with_reducible refine GQ_ndF ?_ (fun hd => ?_); (· try clear ff; first | assumption | omega); refine st_by (And.intro hd ff) ?_)
        | (with_reducible refine GQ_nd (fun hp hd => ?_) (fun hp hd => ?_) <;> refine st_by (And.intro hd ff) ?_)
        | (refine GQ_nb (fun hd => ?_) (fun hd => ?_) <;> refine st_by (And.intro hd ff) ?_)
        | (refine GQ_bool (fun hd => ?_) (fun hd => ?_) <;> refine st_by (And.intro hd ff) ?_))
      all_goals try clear ff
theorem eqStepS_does (l k : List GStep) (hl : l.length ≤ 9223372036854775807) (hk : k.length ≤ 9223372036854775807) : Does Tryd.prog 35 [.row false 5 l.length (esStep l), .row false 5 k.length (esStep k)] (B (decide (l = k))) := by
  refine Does.walk (nt := 27) Tryd.func35 rfl rfl (by simp) (by decide) rfl (fun G0 X w0 pv => ?_)
  have ff := And.intro @Ty.sl29 (And.intro @Ty.slz29 (And.intro @Ty.nz48 (And.intro @Ty.ldA48 (And.intro @Ty.sz48 @Ty.szn48))))
  try refine st_by ff ?_
  repeat' (first
    | exact trivial
    | (refine And.intro ?_ ?_; · (try clear ff; first | omega))
    | (refine ret_q1 rfl ?_; (try refine sr_by ff ?_); all_goals (try clear ff); all_goals (try exact trivial); all_goals ((have : ¬ l = k := fun e => by subst e; omega); simp [this]))
    | (refine aw_drawn (id := 6) ?_ [[], [], [0, 1], [0, 1, 2], [], [], [4, 5], [4, 5, 6], [0, 1, 2, 3, 4, 5, 6, 7], [0, 1, 2, 3, 4, 5, 6, 7, 8]] 8 ?_ ?_; (· kernel_rfl); (· kernel_rfl); refine st_by ff ?_)
    | (with_reducible refine CBC_eq (fun hp hd => ?_) (fun hp hd => ?_) <;> refine st_by (And.intro hd ff) ?_)
    | (with_reducible refine CBC_ne (fun hp hd => ?_) (fun hp hd => ?_) <;> refine st_by (And.intro hd ff) ?_)
    | (with_reducible refine CBC_decT ?_ (fun hd => ?_); (· try clear ff; first | assumption | omega); refine st_by (And.intro hd ff) ?_)
    | (with_reducible refine CBC_decF ?_ (fun hd => ?_); (· try clear ff; first | assumption | omega); refine st_by (And.intro hd ff) ?_)
    | (with_reducible refine CBC_dec (fun hp hd => ?_) (fun hp hd => ?_) <;> refine st_by (And.intro hd ff) ?_)
    | (refine CBC_bool (fun hd => ?_) (fun hd => ?_) <;> refine st_by (And.intro hd ff) ?_)
    | (with_reducible refine GQ_eq (fun hp hd => ?_) (fun hp hd => ?_) <;> refine st_by (And.intro hd ff) ?_)
    | (with_reducible refine GQ_ne (fun hp hd => ?_) (fun hp hd => ?_) <;> refine st_by (And.intro hd ff) ?_)
    | (with_reducible refine GQ_decT ?_ (fun hd => ?_); (· try clear ff; first | assumption | omega); refine st_by (And.intro hd ff) ?_)
    | (with_reducible refine GQ_decF ?_ (fun hd => ?_); (· try clear ff; first | assumption | omega); refine st_by (And.intro hd ff) ?_)
    | (with_reducible refine GQ_dec (fun hp hd => ?_) (fun hp hd => ?_) <;> refine st_by (And.intro hd ff) ?_)
    | (with_reducible refine GQ_ndT ?_ (fun hd => ?_); (· try clear ff; first | assumption | omega); refine st_by (And.intro hd ff) ?_)
    | (with_reducible refine GQ_ndF ?_ (fun hd => ?_); (· try clear ff; first | assumption | omega); refine st_by (And.intro hd ff) ?_)
    | (with_reducible refine GQ_nd (fun hp hd => ?_) (fun hp hd => ?_) <;> refine st_by (And.intro hd ff) ?_)
    | (refine GQ_nb (fun hd => ?_) (fun hd => ?_) <;> refine st_by (And.intro hd ff) ?_)
    | (refine GQ_bool (fun hd => ?_) (fun hd => ?_) <;> refine st_by (And.intro hd ff) ?_)
    | (with_reducible refine GD_eq (fun hp hd => ?_) (fun hp hd => ?_) <;> refine st_by (And.intro hd ff) ?_)
    | (with_reducible refine GD_ne (fun hp hd => ?_) (fun hp hd => ?_) <;> refine st_by (And.intro hd ff) ?_)
    | (with_reducible refine GD_decT ?_ (fun hd => ?_); (· try clear ff; first | assumption | omega); refine st_by (And.intro hd ff) ?_)
    | (with_reducible refine GD_decF ?_ (fun hd => ?_); (· try clear ff; first | assumption | omega); refine st_by (And.intro hd ff) ?_)
    | (with_reducible refine GD_dec (fun hp hd => ?_) (fun hp hd => ?_) <;> refine st_by (And.intro hd ff) ?_)
    | (with_reducible refine GD_ndT ?_ (fun hd => ?_); (· try clear ff; first | assumption | omega); refine st_by (And.intro hd ff) ?_)
    | (with_reducible refine GD_ndF ?_ (fun hd => ?_); (· try clear ff; first | assumption | omega); refine st_by (And.intro hd ff) ?_)
    | (with_reducible refine GD_nd (fun hp hd => ?_) (fun hp hd => ?_) <;> refine st_by (And.intro hd ff) ?_)
    | (refine GD_nb (fun hd => ?_) (fun hd => ?_) <;> refine st_by (And.intro hd ff) ?_)
    | (refine GD_bool (fun hd => ?_) (fun hd => ?_) <;> refine st_by (And.intro hd ff) ?_))
  all_goals try clear ff
  have hlk : l.length = k.length := by omega
  refine aw_loop (ι := Nat) (fun i σ => (i ≤ l.length ∧ l.take i = k.take i) ∧ σ.t 0 = .row false 5 l.length (esStep l) ∧ σ.t 1 = .row false 5 k.length (esStep k) ∧ σ.t 5 = I i) (fun i => l.length - i) 0 ?_ ?_
  · (first | exact cl_by trivial | refine st_by trivial ?_)
    try simp
  · rintro i σ ⟨⟨h2, h3⟩, g0, g1, g5⟩
    by_cases hi : i < l.length
    · have hi' : i < k.length := by omega
      have w2 : IntKind.i64.wrap ((i : Int) + 1) = ((i + 1 : Nat) : Int) := wI _ (by omega) (by omega)
      have hne : ¬ l[i] = k[i] → ¬ l = k := fun h e => h (by subst e; rfl)
      have heq : l[i] = k[i] → l.take (i + 1) = k.take (i + 1) := fun h => by rw [List.take_succ_eq_append_getElem hi, List.take_succ_eq_append_getElem hi', h3, h]
      have ff := And.intro @g0 (And.intro @g1 (And.intro @g5 (And.intro @w2 (And.intro @hi (And.intro @hi' (And.intro ((esStep_drop l i hi)) (And.intro @esStep_len (And.intro @eStep_eq (And.intro ((esStep_drop k i hi')) (And.intro @str_beq (And.intro @Ty.sl29 (And.intro @Ty.slz29 (And.intro @Ty.nz48 (And.intro @Ty.ldA48 (And.intro @Ty.sz48 @Ty.szn48)))))))))))))))
      try refine st_by ff ?_
      repeat' (first
        | exact trivial
        | (refine And.intro ?_ ?_; · (try clear ff; first | omega | (rw [List.length_append]; simp [esStep_len]; omega) | (simp [eStep]; done) | decide | (simp [esStep_len]; omega) | rfl))
        | (refine ret_q1 rfl ?_; (try refine sr_by ff ?_); all_goals (try clear ff); all_goals (try exact trivial); all_goals (simp [hne (by simpa using hp)]))
        | (with_reducible refine cq_call (eqStep_does l[i] k[i]) ?_ ?_ ⟨?_, ?_⟩; (· first | rfl | exact cl_by ff); (· first | assumption | kernel_rfl); (· first | exact ca_by ff | (refine sa_by ff ?_; try clear ff; first | exact trivial | omega | (rw [List.length_append]; simp [esStep_len]; omega) | (simp [eStep]; done) | decide | (simp [esStep_len]; omega) | rfl)); refine st_by ff ?_)
        | (with_reducible refine cq_dcall (eqStep_does l[i] k[i]) ?_ ?_ ⟨?_, ?_⟩; (· first | rfl | exact cl_by ff); (· first | assumption | kernel_rfl); (· first | exact ca_by ff | (refine sa_by ff ?_; try clear ff; first | exact trivial | omega | (rw [List.length_append]; simp [esStep_len]; omega) | (simp [eStep]; done) | decide | (simp [esStep_len]; omega) | rfl)); refine st_by ff ?_)
        | (refine aw_drawn (id := 6) ?_ [[], [], [0, 1], [0, 1, 2], [], [], [4, 5], [4, 5, 6], [0, 1, 2, 3, 4, 5, 6, 7], [0, 1, 2, 3, 4, 5, 6, 7, 8]] 8 ?_ ?_; (· kernel_rfl); (· kernel_rfl); refine st_by ff ?_)
        | (with_reducible refine CBC_eq (fun hp hd => ?_) (fun hp hd => ?_) <;> refine st_by (And.intro hd ff) ?_)
        | (with_reducible refine CBC_ne (fun hp hd => ?_) (fun hp hd => ?_) <;> refine st_by (And.intro hd ff) ?_)
        | (with_reducible refine CBC_decT ?_ (fun hd => ?_); (· try clear ff; first | assumption | omega); refine st_by (And.intro hd ff) ?_)
        | (with_reducible refine CBC_decF ?_ (fun hd => ?_); (· try clear ff; first | assumption | omega); refine st_by (And.intro hd ff) ?_)
        | (with_reducible refine CBC_dec (fun hp hd => ?_) (fun hp hd => ?_) <;> refine st_by (And.intro hd ff) ?_)
        | (refine CBC_bool (fun hd => ?_) (fun hd => ?_) <;> refine st_by (And.intro hd ff) ?_)
        | (with_reducible refine GQ_eq (fun hp hd => ?_) (fun hp hd => ?_) <;> refine st_by (And.intro hd ff) ?_)
        | (with_reducible refine GQ_ne (fun hp hd => ?_) (fun hp hd => ?_) <;> refine st_by (And.intro hd ff) ?_)
        | (with_reducible refine GQ_decT ?_ (fun hd => ?_); (· try clear ff; first | assumption | omega); refine st_by (And.intro hd ff) ?_)
        | (with_reducible refine GQ_decF ?_ (fun hd => ?_); (· try clear ff; first | assumption | omega); refine st_by (And.intro hd ff) ?_)
        | (with_reducible refine GQ_dec (fun hp hd => ?_) (fun hp hd => ?_) <;> refine st_by (And.intro hd ff) ?_)
        | (with_reducible refine GQ_ndT ?_ (fun hd => ?_); (· try clear ff; first | assumption | omega); refine st_by (And.intro hd ff) ?_)
        | (with_reducible refine GQ_ndF ?_ (fun hd => ?_); (· try clear ff; first | assumption | omega); refine st_by (And.intro hd ff) ?_)
        | (with_reducible refine GQ_nd (fun hp hd => ?_) (fun hp hd => ?_) <;> refine st_by (And.intro hd ff) ?_)
        | (refine GQ_nb (fun hd => ?_) (fun hd => ?_) <;> refine st_by (And.intro hd ff) ?_)
        | (refine GQ_bool (fun hd => ?_) (fun hd => ?_) <;> refine st_by (And.intro hd ff) ?_)
        | (with_reducible refine GD_eq (fun hp hd => ?_) (fun hp hd => ?_) <;> refine st_by (And.intro hd ff) ?_)
        | (with_reducible refine GD_ne (fun hp hd => ?_) (fun hp hd => ?_) <;> refine st_by (And.intro hd ff) ?_)
        | (with_reducible refine GD_decT ?_ (fun hd => ?_); (· try clear ff; first | assumption | omega); refine st_by (And.intro hd ff) ?_)
        | (with_reducible refine GD_decF ?_ (fun hd => ?_); (· try clear ff; first | assumption | omega); refine st_by (And.intro hd ff) ?_)
        | (with_reducible refine GD_dec (fun hp hd => ?_) (fun hp hd => ?_) <;> refine st_by (And.intro hd ff) ?_)
        | (with_reducible refine GD_ndT ?_ (fun hd => ?_); (· try clear ff; first | assumption | omega); refine st_by (And.intro hd ff) ?_)
        | (with_reducible refine GD_ndF ?_ (fun hd => ?_); (· try clear ff; first | assumption | omega); refine st_by (And.intro hd ff) ?_)
        | (with_reducible refine GD_nd (fun hp hd => ?_) (fun hp hd => ?_) <;> refine st_by (And.intro hd ff) ?_)
        | (refine GD_nb (fun hd => ?_) (fun hd => ?_) <;> refine st_by (And.intro hd ff) ?_)
        | (refine GD_bool (fun hd => ?_) (fun hd => ?_) <;> refine st_by (And.intro hd ff) ?_)
        | ((try clear ff); refine ⟨i + 1, ⟨⟨?_, heq ?_⟩, rfl⟩, ?_⟩; (· omega); (· simpa using hp); (· omega)))
      all_goals try clear ff
    · have e1 : l = k := by rw [List.take_of_length_le (by omega), List.take_of_length_le (by omega)] at h3; exact h3
      have ff := And.intro @g0 (And.intro @g1 (And.intro @g5 (And.intro @Ty.sl29 (And.intro @Ty.slz29 (And.intro @Ty.nz48 (And.intro @Ty.ldA48 (And.intro @Ty.sz48 @Ty.szn48)))))))
      try refine st_by ff ?_
      repeat' (first
        | exact trivial
        | (refine And.intro ?_ ?_; · (try clear ff; first | omega))
        | (refine ret_q1 rfl ?_; (try refine sr_by ff ?_); all_goals (try clear ff); all_goals (try exact trivial); all_goals (simp [e1]))
        | (refine aw_drawn (id := 6) ?_ [[], [], [0, 1], [0, 1, 2], [], [], [4, 5], [4, 5, 6], [0, 1, 2, 3, 4, 5, 6, 7], [0, 1, 2, 3, 4, 5, 6, 7, 8]] 8 ?_ ?_; (· kernel_rfl); (· kernel_rfl); refine st_by ff ?_)
        | (with_reducible refine CBC_eq (fun hp hd => ?_) (fun hp hd => ?_) <;> refine st_by (And.intro hd ff) ?_)
        | (with_reducible refine CBC_ne (fun hp hd => ?_) (fun hp hd => ?_) <;> refine st_by (And.intro hd ff) ?_)
        | (with_reducible refine CBC_decT ?_ (fun hd => ?_); (· try clear ff; first | assumption | omega); refine st_by (And.intro hd ff) ?_)
        | (with_reducible refine CBC_decF ?_ (fun hd => ?_); (· try clear ff; first | assumption | omega); refine st_by (And.intro hd ff) ?_)
        | (with_reducible refine CBC_dec (fun hp hd => ?_) (fun hp hd => ?_) <;> refine st_by (And.intro hd ff) ?_)
        | (refine CBC_bool (fun hd => ?_) (fun hd => ?_) <;> refine st_by (And.intro hd ff) ?_)
        | (with_reducible refine GQ_eq (fun hp hd => ?_) (fun hp hd => ?_) <;> refine st_by (And.intro hd ff) ?_)
        | (with_reducible refine GQ_ne (fun hp hd => ?_) (fun hp hd => ?_) <;> refine st_by (And.intro hd ff) ?_)
        | (with_reducible refine GQ_decT ?_ (fun hd => ?_); (· try clear ff; first | assumption | omega); refine st_by (And.intro hd ff) ?_)
        | (with_reducible refine GQ_decF ?_ (fun hd => ?_); (· try clear ff; first | assumption | omega); refine st_by (And.intro hd ff) ?_)
        | (with_reducible refine GQ_dec (fun hp hd => ?_) (fun hp hd => ?_) <;> refine st_by (And.intro hd ff) ?_)
        | (with_reducible refine GQ_ndT ?_ (fun hd => ?_); (· try clear ff; first | assumption | omega); refine st_by (And.intro hd ff) ?_)
        | (with_reducible refine GQ_ndF ?_ (fun hd => ?_); (· try clear ff; first | assumption | omega); refine st_by (And.intro hd ff) ?_)
        | (with_reducible refine GQ_nd (fun hp hd => ?_) (fun hp hd => ?_) <;> refine st_by (And.intro hd ff) ?_)
        | (refine GQ_nb (fun hd => ?_) (fun hd => ?_) <;> refine st_by (And.intro hd ff) ?_)
        | (refine GQ_bool (fun hd => ?_) (fun hd => ?_) <;> refine st_by (And.intro hd ff) ?_)
        | (with_reducible refine GD_eq (fun hp hd => ?_) (fun hp hd => ?_) <;> refine st_by (And.intro hd ff) ?_)
        | (with_reducible refine GD_ne (fun hp hd => ?_) (fun hp hd => ?_) <;> refine st_by (And.intro hd ff) ?_)
        | (with_reducible refine GD_decT ?_ (fun hd => ?_); (· try clear ff; first | assumption | omega); refine st_by (And.intro hd ff) ?_)
        | (with_reducible refine GD_decF ?_ (fun hd => ?_); (· try clear ff; first | assumption | omega); refine st_by (And.intro hd ff) ?_)
        | (with_reducible refine GD_dec (fun hp hd => ?_) (fun hp hd => ?_) <;> refine st_by (And.intro hd ff) ?_)
        | (with_reducible refine GD_ndT ?_ (fun hd => ?_); (· try clear ff; first | assumption | omega); refine st_by (And.intro hd ff) ?_)
        | (with_reducible refine GD_ndF ?_ (fun hd => ?_); (· try clear ff; first | assumption | omega); refine st_by (And.intro hd ff) ?_)
        | (with_reducible refine GD_nd (fun hp hd => ?_) (fun hp hd => ?_) <;> refine st_by (And.intro hd ff) ?_)
        | (refine GD_nb (fun hd => ?_) (fun hd => ?_) <;> refine st_by (And.intro hd ff) ?_)
        | (refine GD_bool (fun hd => ?_) (fun hd => ?_) <;> refine st_by (And.intro hd ff) ?_))
      all_goals try clear ff
def mStep (x : GStep) (k : Int) : GStep := { x with Path := mtext (k), Was := mtext (k + 1), Had := mbool (k + 2), Is := mtext (k + 3), Has := mbool (k + 4) }
def cStep (x : GStep) : Nat := 5
/-! Edited -/
def wfEdited (n : Nat) (x : GEdited) : Prop := x.Props.length ≤ n ∧ (∀ y ∈ x.Props, wfProp n y) ∧ x.Done.length ≤ n ∧ (∀ y ∈ x.Done, wfStep n y) ∧ x.Back.length ≤ n ∧ (∀ y ∈ x.Back, wfStep n y)
def szEdited (x : GEdited) (left : Int) : Int := szStep ((szRow szProp) x.Props left) fun left => szStep ((szRow szStp) x.Done left) fun left => szStep ((szRow szStp) x.Back left) fun left => left
theorem szEdited_does (x : GEdited) (left : Int) (h0 : 0 ≤ left) (h1 : left ≤ 1048576) (hx : wfEdited 9223372036854775807 x) : Does Tryd.prog 8 [.agg (eEdited x), I left] (I (szEdited x left)) := by
  unfold wfEdited at hx
  refine Does.walk (nt := 24) Tryd.func8 rfl rfl (by simp) (by decide) rfl (fun G0 X w0 pv => ?_)
  unfold szEdited
  have hv0 : ((szRow szProp) x.Props left : Int) ≤ left := (szRow_ok szProp_ok) x.Props _ (by omega)
  have ff := And.intro @eEdited_eq (And.intro @Ty.nz22 (And.intro @Ty.ldA22 (And.intro @Ty.ldS22 (And.intro @Ty.sz22 (And.intro @Ty.szn22 (And.intro @Ty.nz23 (And.intro @Ty.ldA23 (And.intro @Ty.ldS23 (And.intro @Ty.sz23 (And.intro @Ty.szn23 (And.intro @Ty.fo25_0 (And.intro @Ty.fk25_0 (And.intro @Ty.fs25_0 (And.intro @Ty.fn25_0 (And.intro @Ty.fo25_1 (And.intro @Ty.fk25_1 (And.intro @Ty.fs25_1 (And.intro @Ty.fn25_1 (And.intro @Ty.fo25_2 (And.intro @Ty.fk25_2 (And.intro @Ty.fs25_2 @Ty.fn25_2)))))))))))))))))))))
  try refine st_by ff ?_
  repeat' (first
    | exact trivial
    | (refine And.intro ?_ ?_; · (try clear ff; first | omega))
    | (refine ret_q1 rfl ?_; (try refine sr_by ff ?_); all_goals (try clear ff); all_goals (try exact trivial); all_goals ((rw [szStep_neg (by assumption)])))
    | (with_reducible refine cq_call (szPropS_does x.Props left (by omega) (by omega) hx.1 hx.2.1) ?_ ?_ ⟨?_, ?_⟩; (· first | rfl | exact cl_by ff); (· first | assumption | kernel_rfl); (· first | exact ca_by ff | (refine sa_by ff ?_; try clear ff; first | exact trivial | omega)); refine st_by ff ?_)
    | (with_reducible refine CBC_eq (fun hp hd => ?_) (fun hp hd => ?_) <;> refine st_by (And.intro hd ff) ?_)
    | (with_reducible refine CBC_ne (fun hp hd => ?_) (fun hp hd => ?_) <;> refine st_by (And.intro hd ff) ?_)
    | (with_reducible refine CBC_decT ?_ (fun hd => ?_); (· try clear ff; first | assumption | omega); refine st_by (And.intro hd ff) ?_)
    | (with_reducible refine CBC_decF ?_ (fun hd => ?_); (· try clear ff; first | assumption | omega); refine st_by (And.intro hd ff) ?_)
    | (with_reducible refine CBC_dec (fun hp hd => ?_) (fun hp hd => ?_) <;> refine st_by (And.intro hd ff) ?_)
    | (refine CBC_bool (fun hd => ?_) (fun hd => ?_) <;> refine st_by (And.intro hd ff) ?_)
    | (with_reducible refine GQ_eq (fun hp hd => ?_) (fun hp hd => ?_) <;> refine st_by (And.intro hd ff) ?_)
    | (with_reducible refine GQ_ne (fun hp hd => ?_) (fun hp hd => ?_) <;> refine st_by (And.intro hd ff) ?_)
    | (with_reducible refine GQ_decT ?_ (fun hd => ?_); (· try clear ff; first | assumption | omega); refine st_by (And.intro hd ff) ?_)
    | (with_reducible refine GQ_decF ?_ (fun hd => ?_); (· try clear ff; first | assumption | omega); refine st_by (And.intro hd ff) ?_)
    | (with_reducible refine GQ_dec (fun hp hd => ?_) (fun hp hd => ?_) <;> refine st_by (And.intro hd ff) ?_)
    | (with_reducible refine GQ_ndT ?_ (fun hd => ?_); (· try clear ff; first | assumption | omega); refine st_by (And.intro hd ff) ?_)
    | (with_reducible refine GQ_ndF ?_ (fun hd => ?_); (· try clear ff; first | assumption | omega); refine st_by (And.intro hd ff) ?_)
    | (with_reducible refine GQ_nd (fun hp hd => ?_) (fun hp hd => ?_) <;> refine st_by (And.intro hd ff) ?_)
    | (refine GQ_nb (fun hd => ?_) (fun hd => ?_) <;> refine st_by (And.intro hd ff) ?_)
    | (refine GQ_bool (fun hd => ?_) (fun hd => ?_) <;> refine st_by (And.intro hd ff) ?_))
  all_goals try clear ff
  rw [szStep_pos (by assumption)]
  generalize hg0 : ((szRow szProp) x.Props left : Int) = v0 at *
  have hv1 : ((szRow szStp) x.Done v0 : Int) ≤ v0 := (szRow_ok szStep_ok) x.Done _ (by omega)
  have ff := And.intro @eEdited_eq (And.intro @Ty.nz22 (And.intro @Ty.ldA22 (And.intro @Ty.ldS22 (And.intro @Ty.sz22 (And.intro @Ty.szn22 (And.intro @Ty.nz23 (And.intro @Ty.ldA23 (And.intro @Ty.ldS23 (And.intro @Ty.sz23 (And.intro @Ty.szn23 (And.intro @Ty.fo25_0 (And.intro @Ty.fk25_0 (And.intro @Ty.fs25_0 (And.intro @Ty.fn25_0 (And.intro @Ty.fo25_1 (And.intro @Ty.fk25_1 (And.intro @Ty.fs25_1 (And.intro @Ty.fn25_1 (And.intro @Ty.fo25_2 (And.intro @Ty.fk25_2 (And.intro @Ty.fs25_2 @Ty.fn25_2)))))))))))))))))))))
  try refine st_by ff ?_
  repeat' (first
    | exact trivial
    | (refine And.intro ?_ ?_; · (try clear ff; first | omega))
    | (refine ret_q1 rfl ?_; (try refine sr_by ff ?_); all_goals (try clear ff); all_goals (try exact trivial); all_goals ((rw [szStep_neg (by assumption)])))
    | (with_reducible refine cq_call (szStepS_does x.Done v0 (by omega) (by omega) hx.2.2.1 hx.2.2.2.1) ?_ ?_ ⟨?_, ?_⟩; (· first | rfl | exact cl_by ff); (· first | assumption | kernel_rfl); (· first | exact ca_by ff | (refine sa_by ff ?_; try clear ff; first | exact trivial | omega)); refine st_by ff ?_)
    | (with_reducible refine CBC_eq (fun hp hd => ?_) (fun hp hd => ?_) <;> refine st_by (And.intro hd ff) ?_)
    | (with_reducible refine CBC_ne (fun hp hd => ?_) (fun hp hd => ?_) <;> refine st_by (And.intro hd ff) ?_)
    | (with_reducible refine CBC_decT ?_ (fun hd => ?_); (· try clear ff; first | assumption | omega); refine st_by (And.intro hd ff) ?_)
    | (with_reducible refine CBC_decF ?_ (fun hd => ?_); (· try clear ff; first | assumption | omega); refine st_by (And.intro hd ff) ?_)
    | (with_reducible refine CBC_dec (fun hp hd => ?_) (fun hp hd => ?_) <;> refine st_by (And.intro hd ff) ?_)
    | (refine CBC_bool (fun hd => ?_) (fun hd => ?_) <;> refine st_by (And.intro hd ff) ?_)
    | (with_reducible refine GQ_eq (fun hp hd => ?_) (fun hp hd => ?_) <;> refine st_by (And.intro hd ff) ?_)
    | (with_reducible refine GQ_ne (fun hp hd => ?_) (fun hp hd => ?_) <;> refine st_by (And.intro hd ff) ?_)
    | (with_reducible refine GQ_decT ?_ (fun hd => ?_); (· try clear ff; first | assumption | omega); refine st_by (And.intro hd ff) ?_)
    | (with_reducible refine GQ_decF ?_ (fun hd => ?_); (· try clear ff; first | assumption | omega); refine st_by (And.intro hd ff) ?_)
    | (with_reducible refine GQ_dec (fun hp hd => ?_) (fun hp hd => ?_) <;> refine st_by (And.intro hd ff) ?_)
    | (with_reducible refine GQ_ndT ?_ (fun hd => ?_); (· try clear ff; first | assumption | omega); refine st_by (And.intro hd ff) ?_)
    | (with_reducible refine GQ_ndF ?_ (fun hd => ?_); (· try clear ff; first | assumption | omega); refine st_by (And.intro hd ff) ?_)
    | (with_reducible refine GQ_nd (fun hp hd => ?_) (fun hp hd => ?_) <;> refine st_by (And.intro hd ff) ?_)
    | (refine GQ_nb (fun hd => ?_) (fun hd => ?_) <;> refine st_by (And.intro hd ff) ?_)
    | (refine GQ_bool (fun hd => ?_) (fun hd => ?_) <;> refine st_by (And.intro hd ff) ?_))
  all_goals try clear ff
  rw [szStep_pos (by assumption)]
  generalize hg1 : ((szRow szStp) x.Done v0 : Int) = v1 at *
  have hv2 : ((szRow szStp) x.Back v1 : Int) ≤ v1 := (szRow_ok szStep_ok) x.Back _ (by omega)
  have ff := And.intro @eEdited_eq (And.intro @Ty.nz22 (And.intro @Ty.ldA22 (And.intro @Ty.ldS22 (And.intro @Ty.sz22 (And.intro @Ty.szn22 (And.intro @Ty.nz23 (And.intro @Ty.ldA23 (And.intro @Ty.ldS23 (And.intro @Ty.sz23 (And.intro @Ty.szn23 (And.intro @Ty.fo25_0 (And.intro @Ty.fk25_0 (And.intro @Ty.fs25_0 (And.intro @Ty.fn25_0 (And.intro @Ty.fo25_1 (And.intro @Ty.fk25_1 (And.intro @Ty.fs25_1 (And.intro @Ty.fn25_1 (And.intro @Ty.fo25_2 (And.intro @Ty.fk25_2 (And.intro @Ty.fs25_2 @Ty.fn25_2)))))))))))))))))))))
  try refine st_by ff ?_
  repeat' (first
    | exact trivial
    | (refine And.intro ?_ ?_; · (try clear ff; first | omega))
    | (refine ret_q1 rfl ?_; (try refine sr_by ff ?_); all_goals (try clear ff); all_goals (try exact trivial); all_goals ((first | rw [szStep_neg (by assumption)] | rw [szStep_pos (by assumption)])))
    | (with_reducible refine cq_call (szStepS_does x.Back v1 (by omega) (by omega) hx.2.2.2.2.1 hx.2.2.2.2.2) ?_ ?_ ⟨?_, ?_⟩; (· first | rfl | exact cl_by ff); (· first | assumption | kernel_rfl); (· first | exact ca_by ff | (refine sa_by ff ?_; try clear ff; first | exact trivial | omega)); refine st_by ff ?_)
    | (with_reducible refine CBC_eq (fun hp hd => ?_) (fun hp hd => ?_) <;> refine st_by (And.intro hd ff) ?_)
    | (with_reducible refine CBC_ne (fun hp hd => ?_) (fun hp hd => ?_) <;> refine st_by (And.intro hd ff) ?_)
    | (with_reducible refine CBC_decT ?_ (fun hd => ?_); (· try clear ff; first | assumption | omega); refine st_by (And.intro hd ff) ?_)
    | (with_reducible refine CBC_decF ?_ (fun hd => ?_); (· try clear ff; first | assumption | omega); refine st_by (And.intro hd ff) ?_)
    | (with_reducible refine CBC_dec (fun hp hd => ?_) (fun hp hd => ?_) <;> refine st_by (And.intro hd ff) ?_)
    | (refine CBC_bool (fun hd => ?_) (fun hd => ?_) <;> refine st_by (And.intro hd ff) ?_)
    | (with_reducible refine GQ_eq (fun hp hd => ?_) (fun hp hd => ?_) <;> refine st_by (And.intro hd ff) ?_)
    | (with_reducible refine GQ_ne (fun hp hd => ?_) (fun hp hd => ?_) <;> refine st_by (And.intro hd ff) ?_)
    | (with_reducible refine GQ_decT ?_ (fun hd => ?_); (· try clear ff; first | assumption | omega); refine st_by (And.intro hd ff) ?_)
    | (with_reducible refine GQ_decF ?_ (fun hd => ?_); (· try clear ff; first | assumption | omega); refine st_by (And.intro hd ff) ?_)
    | (with_reducible refine GQ_dec (fun hp hd => ?_) (fun hp hd => ?_) <;> refine st_by (And.intro hd ff) ?_)
    | (with_reducible refine GQ_ndT ?_ (fun hd => ?_); (· try clear ff; first | assumption | omega); refine st_by (And.intro hd ff) ?_)
    | (with_reducible refine GQ_ndF ?_ (fun hd => ?_); (· try clear ff; first | assumption | omega); refine st_by (And.intro hd ff) ?_)
    | (with_reducible refine GQ_nd (fun hp hd => ?_) (fun hp hd => ?_) <;> refine st_by (And.intro hd ff) ?_)
    | (refine GQ_nb (fun hd => ?_) (fun hd => ?_) <;> refine st_by (And.intro hd ff) ?_)
    | (refine GQ_bool (fun hd => ?_) (fun hd => ?_) <;> refine st_by (And.intro hd ff) ?_))
  all_goals try clear ff
theorem toEdited_does (x : GEdited) (hx : wfEdited 1048576 x) : Does Tryd.prog 10 [.agg (eEdited x)] (.agg (eEditedo x)) := by
  unfold wfEdited at hx
  refine Does.walk (nt := 17) Tryd.func10 rfl rfl (by simp) (by decide) rfl (fun G0 X w0 pv => ?_)
  have ff := And.intro @eEdited_eq (And.intro @eEditedo_eq (And.intro @Ty.nz22 (And.intro @Ty.ldA22 (And.intro @Ty.ldS22 (And.intro @Ty.sz22 (And.intro @Ty.szn22 (And.intro @Ty.nz28 (And.intro @Ty.ldA28 (And.intro @Ty.ldS28 (And.intro @Ty.sz28 (And.intro @Ty.szn28 (And.intro @Ty.nz23 (And.intro @Ty.ldA23 (And.intro @Ty.ldS23 (And.intro @Ty.sz23 (And.intro @Ty.szn23 (And.intro @Ty.nz29 (And.intro @Ty.ldA29 (And.intro @Ty.ldS29 (And.intro @Ty.sz29 (And.intro @Ty.szn29 (And.intro @Ty.nz31 (And.intro @Ty.ldA31 (And.intro @Ty.sz31 (And.intro @Ty.szn31 (And.intro @Ty.fo25_0 (And.intro @Ty.fk25_0 (And.intro @Ty.fs25_0 (And.intro @Ty.fn25_0 (And.intro @Ty.fo31_0 (And.intro @Ty.fk31_0 (And.intro @Ty.fs31_0 (And.intro @Ty.fn31_0 (And.intro @Ty.fo25_1 (And.intro @Ty.fk25_1 (And.intro @Ty.fs25_1 (And.intro @Ty.fn25_1 (And.intro @Ty.fo31_1 (And.intro @Ty.fk31_1 (And.intro @Ty.fs31_1 (And.intro @Ty.fn31_1 (And.intro @Ty.fo25_2 (And.intro @Ty.fk25_2 (And.intro @Ty.fs25_2 (And.intro @Ty.fn25_2 (And.intro @Ty.fo31_2 (And.intro @Ty.fk31_2 (And.intro @Ty.fs31_2 (And.intro @Ty.fn31_2 (And.intro @Ty.zv31 @Ty.ag31))))))))))))))))))))))))))))))))))))))))))))))))))
  try refine st_by ff ?_
  repeat' (first
    | exact trivial
    | (refine And.intro ?_ ?_; · (try clear ff; first | omega | decide))
    | (refine ret_q1 rfl ?_; (try refine sr_by ff ?_); all_goals (try clear ff); all_goals (try exact trivial); all_goals (skip))
    | (with_reducible refine cq_own (toPropS_does x.Props hx.1) ?_ ?_ ⟨?_, ?_⟩; (· first | rfl | exact cl_by ff); (· first | assumption | kernel_rfl); (· first | exact ca_by ff | (refine sa_by ff ?_; try clear ff; first | exact trivial | omega | decide)); refine st_by ff ?_)
    | (with_reducible refine cq_own (toStepS_does x.Done hx.2.2.1) ?_ ?_ ⟨?_, ?_⟩; (· first | rfl | exact cl_by ff); (· first | assumption | kernel_rfl); (· first | exact ca_by ff | (refine sa_by ff ?_; try clear ff; first | exact trivial | omega | decide)); refine st_by ff ?_)
    | (with_reducible refine cq_own (toStepS_does x.Back hx.2.2.2.2.1) ?_ ?_ ⟨?_, ?_⟩; (· first | rfl | exact cl_by ff); (· first | assumption | kernel_rfl); (· first | exact ca_by ff | (refine sa_by ff ?_; try clear ff; first | exact trivial | omega | decide)); refine st_by ff ?_)
    | (with_reducible refine CBC_eq (fun hp hd => ?_) (fun hp hd => ?_) <;> refine st_by (And.intro hd ff) ?_)
    | (with_reducible refine CBC_ne (fun hp hd => ?_) (fun hp hd => ?_) <;> refine st_by (And.intro hd ff) ?_)
    | (with_reducible refine CBC_decT ?_ (fun hd => ?_); (· try clear ff; first | assumption | omega); refine st_by (And.intro hd ff) ?_)
    | (with_reducible refine CBC_decF ?_ (fun hd => ?_); (· try clear ff; first | assumption | omega); refine st_by (And.intro hd ff) ?_)
    | (with_reducible refine CBC_dec (fun hp hd => ?_) (fun hp hd => ?_) <;> refine st_by (And.intro hd ff) ?_)
    | (refine CBC_bool (fun hd => ?_) (fun hd => ?_) <;> refine st_by (And.intro hd ff) ?_)
    | (with_reducible refine GQ_eq (fun hp hd => ?_) (fun hp hd => ?_) <;> refine st_by (And.intro hd ff) ?_)
    | (with_reducible refine GQ_ne (fun hp hd => ?_) (fun hp hd => ?_) <;> refine st_by (And.intro hd ff) ?_)
    | (with_reducible refine GQ_decT ?_ (fun hd => ?_); (· try clear ff; first | assumption | omega); refine st_by (And.intro hd ff) ?_)
    | (with_reducible refine GQ_decF ?_ (fun hd => ?_); (· try clear ff; first | assumption | omega); refine st_by (And.intro hd ff) ?_)
    | (with_reducible refine GQ_dec (fun hp hd => ?_) (fun hp hd => ?_) <;> refine st_by (And.intro hd ff) ?_)
    | (with_reducible refine GQ_ndT ?_ (fun hd => ?_); (· try clear ff; first | assumption | omega); refine st_by (And.intro hd ff) ?_)
    | (with_reducible refine GQ_ndF ?_ (fun hd => ?_); (· try clear ff; first | assumption | omega); refine st_by (And.intro hd ff) ?_)
    | (with_reducible refine GQ_nd (fun hp hd => ?_) (fun hp hd => ?_) <;> refine st_by (And.intro hd ff) ?_)
    | (refine GQ_nb (fun hd => ?_) (fun hd => ?_) <;> refine st_by (And.intro hd ff) ?_)
    | (refine GQ_bool (fun hd => ?_) (fun hd => ?_) <;> refine st_by (And.intro hd ff) ?_))
  all_goals try clear ff
theorem eqEdited_does (x y : GEdited) (hx : wfEdited 9223372036854775807 x) (hy : wfEdited 9223372036854775807 y) : Does Tryd.prog 12 [.agg (eEdited x), .agg (eEdited y)] (B (decide (x = y))) := by
  unfold wfEdited at hx hy
  have hxy : decide (x = y) = decide (x.Props = y.Props ∧ x.Done = y.Done ∧ x.Back = y.Back) := decide_eq_decide.2 (by cases x; cases y; simp)
  rw [hxy]
  refine Does.walk (nt := 23) Tryd.func12 rfl rfl (by simp) (by decide) rfl (fun G0 X w0 pv => ?_)
  have ff := And.intro @eEdited_eq (And.intro @str_beq (And.intro @Ty.nz28 (And.intro @Ty.ldA28 (And.intro @Ty.ldS28 (And.intro @Ty.sz28 (And.intro @Ty.szn28 (And.intro @Ty.nz29 (And.intro @Ty.ldA29 (And.intro @Ty.ldS29 (And.intro @Ty.sz29 (And.intro @Ty.szn29 (And.intro @Ty.fo31_0 (And.intro @Ty.fk31_0 (And.intro @Ty.fs31_0 (And.intro @Ty.fn31_0 (And.intro @Ty.fo31_1 (And.intro @Ty.fk31_1 (And.intro @Ty.fs31_1 (And.intro @Ty.fn31_1 (And.intro @Ty.fo31_2 (And.intro @Ty.fk31_2 (And.intro @Ty.fs31_2 @Ty.fn31_2))))))))))))))))))))))
  try refine st_by ff ?_
  repeat' (first
    | exact trivial
    | (refine And.intro ?_ ?_; · (try clear ff; first | omega))
    | (refine ret_q1 rfl ?_; (try refine sr_by ff ?_); all_goals (try clear ff); all_goals (try exact trivial); all_goals (simp_all))
    | (with_reducible refine cq_call (eqPropS_does x.Props y.Props hx.1 hy.1) ?_ ?_ ⟨?_, ?_⟩; (· first | rfl | exact cl_by ff); (· first | assumption | kernel_rfl); (· first | exact ca_by ff | (refine sa_by ff ?_; try clear ff; first | exact trivial | omega)); refine st_by ff ?_)
    | (with_reducible refine cq_call (eqStepS_does x.Done y.Done hx.2.2.1 hy.2.2.1) ?_ ?_ ⟨?_, ?_⟩; (· first | rfl | exact cl_by ff); (· first | assumption | kernel_rfl); (· first | exact ca_by ff | (refine sa_by ff ?_; try clear ff; first | exact trivial | omega)); refine st_by ff ?_)
    | (with_reducible refine cq_call (eqStepS_does x.Back y.Back hx.2.2.2.2.1 hy.2.2.2.2.1) ?_ ?_ ⟨?_, ?_⟩; (· first | rfl | exact cl_by ff); (· first | assumption | kernel_rfl); (· first | exact ca_by ff | (refine sa_by ff ?_; try clear ff; first | exact trivial | omega)); refine st_by ff ?_)
    | (with_reducible refine CBC_eq (fun hp hd => ?_) (fun hp hd => ?_) <;> refine st_by (And.intro hd ff) ?_)
    | (with_reducible refine CBC_ne (fun hp hd => ?_) (fun hp hd => ?_) <;> refine st_by (And.intro hd ff) ?_)
    | (with_reducible refine CBC_decT ?_ (fun hd => ?_); (· try clear ff; first | assumption | omega); refine st_by (And.intro hd ff) ?_)
    | (with_reducible refine CBC_decF ?_ (fun hd => ?_); (· try clear ff; first | assumption | omega); refine st_by (And.intro hd ff) ?_)
    | (with_reducible refine CBC_dec (fun hp hd => ?_) (fun hp hd => ?_) <;> refine st_by (And.intro hd ff) ?_)
    | (refine CBC_bool (fun hd => ?_) (fun hd => ?_) <;> refine st_by (And.intro hd ff) ?_)
    | (with_reducible refine GQ_eq (fun hp hd => ?_) (fun hp hd => ?_) <;> refine st_by (And.intro hd ff) ?_)
    | (with_reducible refine GQ_ne (fun hp hd => ?_) (fun hp hd => ?_) <;> refine st_by (And.intro hd ff) ?_)
    | (with_reducible refine GQ_decT ?_ (fun hd => ?_); (· try clear ff; first | assumption | omega); refine st_by (And.intro hd ff) ?_)
    | (with_reducible refine GQ_decF ?_ (fun hd => ?_); (· try clear ff; first | assumption | omega); refine st_by (And.intro hd ff) ?_)
    | (with_reducible refine GQ_dec (fun hp hd => ?_) (fun hp hd => ?_) <;> refine st_by (And.intro hd ff) ?_)
    | (with_reducible refine GQ_ndT ?_ (fun hd => ?_); (· try clear ff; first | assumption | omega); refine st_by (And.intro hd ff) ?_)
    | (with_reducible refine GQ_ndF ?_ (fun hd => ?_); (· try clear ff; first | assumption | omega); refine st_by (And.intro hd ff) ?_)
    | (with_reducible refine GQ_nd (fun hp hd => ?_) (fun hp hd => ?_) <;> refine st_by (And.intro hd ff) ?_)
    | (refine GQ_nb (fun hd => ?_) (fun hd => ?_) <;> refine st_by (And.intro hd ff) ?_)
    | (refine GQ_bool (fun hd => ?_) (fun hd => ?_) <;> refine st_by (And.intro hd ff) ?_))
  all_goals try clear ff
def mTEdited (x : GEdited) (k : Int) : GEdited := { x with Props := (markL mProp cProp) x.Props (k), Done := (markL mStep cStep) x.Done (k + ((cntL cProp) x.Props : Int)), Back := (markL mStep cStep) x.Back (k + ((cntL cProp) x.Props : Int) + ((cntL cStep) x.Done : Int)) }
def cTEdited (x : GEdited) : Nat := (cntL cProp) x.Props + (cntL cStep) x.Done + (cntL cStep) x.Back
end Go.Av
end
section
set_option linter.unusedSimpArgs false
set_option linter.unusedVariables false
set_option maxRecDepth 100000
set_option maxHeartbeats 1000000
namespace Go.Av
open Go.Proofs
/-! The law of GoodEdited. -/
theorem szProps_nm {l : List GProp} {a : Int} (h0 : 0 ≤ a) (ha : a ≤ 1048576) (h : 0 ≤ szRow szProp l a) : l.length ≤ 1048576 ∧ ∀ x ∈ l, wfProp 1048576 x := by
  refine ⟨by have := szRow_len szProp_ok h0 h; omega, fun x hx => ?_⟩
  obtain ⟨b, h1, h2, h3⟩ := szRow_mem szProp_ok h0 h x hx
  have g1 := (szStep_of h3)
  have g2 := szStep_of (show 0 ≤ szStep (b - (x.Path.size : Int) - (x.Value.size : Int)) fun left => left from by rw [← g1.2]; exact h3)
  exact ⟨by have := g1.1; omega, by have := g1.1; have := g2.1; omega⟩
theorem szStps_nm {l : List GStep} {a : Int} (h0 : 0 ≤ a) (ha : a ≤ 1048576) (h : 0 ≤ szRow szStp l a) : l.length ≤ 1048576 ∧ ∀ x ∈ l, wfStep 1048576 x := by
  refine ⟨by have := szRow_len szStep_ok h0 h; omega, fun x hx => ?_⟩
  obtain ⟨b, h1, h2, h3⟩ := szRow_mem szStep_ok h0 h x hx
  have g1 := (szStep_of h3)
  have h4 : 0 ≤ szStep (b - (x.Path.size : Int) - (x.Was.size : Int)) fun left => szStep (left - x.Is.size) fun left => left := by rw [← g1.2]; exact h3
  have g2 := szStep_of h4
  have g3 := szStep_of (show 0 ≤ szStep (b - (x.Path.size : Int) - (x.Was.size : Int) - (x.Is.size : Int)) fun left => left from by rw [← g2.2]; exact h4)
  exact ⟨by have := g1.1; omega, by have := g1.1; have := g2.1; omega, by have := g1.1; have := g2.1; have := g3.1; omega⟩
theorem szEd_nm {x : GEdited} (h : 0 ≤ szEdited x 1048576) : wfEdited 1048576 x := by
  have g1 := szStep_of h
  have k1 := szRow_ok szProp_ok x.Props 1048576 (by decide)
  have h2 : 0 ≤ szStep (szRow szStp x.Done (szRow szProp x.Props 1048576)) fun left => szStep (szRow szStp x.Back left) fun left => left := by rw [← g1.2]; exact h
  have g2 := szStep_of h2
  have k2 := szRow_ok szStep_ok x.Done (szRow szProp x.Props 1048576) g1.1
  have h3 : 0 ≤ szStep (szRow szStp x.Back (szRow szStp x.Done (szRow szProp x.Props 1048576))) fun left => left := by rw [← g2.2]; exact h2
  have g3 := szStep_of h3
  obtain ⟨a1, a2⟩ := szProps_nm (by decide) (by decide) g1.1
  obtain ⟨a3, a4⟩ := szStps_nm g1.1 (by omega) g2.1
  obtain ⟨a5, a6⟩ := szStps_nm g2.1 (by omega) g3.1
  exact ⟨a1, a2, a3, a4, a5, a6⟩
theorem wfEd_ok {x : GEdited} (h : wfEdited 1048576 x) : okEd x := ⟨⟨h.1, fun y hy => (h.2.1 y hy).1⟩, ⟨h.2.2.1, h.2.2.2.1⟩, ⟨h.2.2.2.2.1, h.2.2.2.2.2⟩⟩
theorem lawGE_does (x : GEdited) (hx : wfEdited 9223372036854775807 x) : Does Tryd.prog 3 [.agg (eEdited x)] (B true) := by
  refine Does.walk (nt := 27) Tryd.func3 rfl rfl (by simp) (by decide) rfl (fun G0 X w0 pv => ?_)
  have ff := And.intro @eEdited_eq (And.intro @Ty.nz25 (And.intro @Ty.ldA25 (And.intro @Ty.sz25 (And.intro @Ty.szn25 (And.intro @Ty.nz31 (And.intro @Ty.ldA31 (And.intro @Ty.sz31 (And.intro @Ty.szn31 (And.intro @Ty.bl4 @Ty.zv31)))))))))
  try refine st_by ff ?_
  repeat' (first
    | exact trivial
    | (refine And.intro ?_ ?_; · (try clear ff; first | omega))
    | (refine ret_q1 rfl ?_; (try refine sr_by ff ?_); all_goals (try clear ff); all_goals (try exact trivial); all_goals (rfl))
    | (with_reducible refine cq_call (szEdited_does x 1048576 (by decide) (by decide) hx) ?_ ?_ ⟨?_, ?_⟩; (· first | rfl | exact cl_by ff); (· first | assumption | kernel_rfl); (· first | exact ca_by ff | (refine sa_by ff ?_; try clear ff; first | exact trivial | omega)); refine st_by ff ?_)
    | (with_reducible refine cq_dcall (szEdited_does x 1048576 (by decide) (by decide) hx) ?_ ?_ ⟨?_, ?_⟩; (· first | rfl | exact cl_by ff); (· first | assumption | kernel_rfl); (· first | exact ca_by ff | (refine sa_by ff ?_; try clear ff; first | exact trivial | omega)); refine st_by ff ?_)
    | (refine aw_drawn (id := 10) ?_ [[], [], [1], [0, 1, 2], [0, 1, 2, 3]] 3 ?_ ?_; (· kernel_rfl); (· kernel_rfl); refine st_by ff ?_)
    | (with_reducible refine CBC_eq (fun hp hd => ?_) (fun hp hd => ?_) <;> refine st_by (And.intro hd ff) ?_)
    | (with_reducible refine CBC_ne (fun hp hd => ?_) (fun hp hd => ?_) <;> refine st_by (And.intro hd ff) ?_)
    | (with_reducible refine CBC_decT ?_ (fun hd => ?_); (· try clear ff; first | assumption | omega); refine st_by (And.intro hd ff) ?_)
    | (with_reducible refine CBC_decF ?_ (fun hd => ?_); (· try clear ff; first | assumption | omega); refine st_by (And.intro hd ff) ?_)
    | (with_reducible refine CBC_dec (fun hp hd => ?_) (fun hp hd => ?_) <;> refine st_by (And.intro hd ff) ?_)
    | (refine CBC_bool (fun hd => ?_) (fun hd => ?_) <;> refine st_by (And.intro hd ff) ?_)
    | (with_reducible refine GQ_eq (fun hp hd => ?_) (fun hp hd => ?_) <;> refine st_by (And.intro hd ff) ?_)
    | (with_reducible refine GQ_ne (fun hp hd => ?_) (fun hp hd => ?_) <;> refine st_by (And.intro hd ff) ?_)
    | (with_reducible refine GQ_decT ?_ (fun hd => ?_); (· try clear ff; first | assumption | omega); refine st_by (And.intro hd ff) ?_)
    | (with_reducible refine GQ_decF ?_ (fun hd => ?_); (· try clear ff; first | assumption | omega); refine st_by (And.intro hd ff) ?_)
    | (with_reducible refine GQ_dec (fun hp hd => ?_) (fun hp hd => ?_) <;> refine st_by (And.intro hd ff) ?_)
    | (with_reducible refine GQ_ndT ?_ (fun hd => ?_); (· try clear ff; first | assumption | omega); refine st_by (And.intro hd ff) ?_)
    | (with_reducible refine GQ_ndF ?_ (fun hd => ?_); (· try clear ff; first | assumption | omega); refine st_by (And.intro hd ff) ?_)
    | (with_reducible refine GQ_nd (fun hp hd => ?_) (fun hp hd => ?_) <;> refine st_by (And.intro hd ff) ?_)
    | (refine GQ_nb (fun hd => ?_) (fun hd => ?_) <;> refine st_by (And.intro hd ff) ?_)
    | (refine GQ_bool (fun hd => ?_) (fun hd => ?_) <;> refine st_by (And.intro hd ff) ?_)
    | (with_reducible refine GD_eq (fun hp hd => ?_) (fun hp hd => ?_) <;> refine st_by (And.intro hd ff) ?_)
    | (with_reducible refine GD_ne (fun hp hd => ?_) (fun hp hd => ?_) <;> refine st_by (And.intro hd ff) ?_)
    | (with_reducible refine GD_decT ?_ (fun hd => ?_); (· try clear ff; first | assumption | omega); refine st_by (And.intro hd ff) ?_)
    | (with_reducible refine GD_decF ?_ (fun hd => ?_); (· try clear ff; first | assumption | omega); refine st_by (And.intro hd ff) ?_)
    | (with_reducible refine GD_dec (fun hp hd => ?_) (fun hp hd => ?_) <;> refine st_by (And.intro hd ff) ?_)
    | (with_reducible refine GD_ndT ?_ (fun hd => ?_); (· try clear ff; first | assumption | omega); refine st_by (And.intro hd ff) ?_)
    | (with_reducible refine GD_ndF ?_ (fun hd => ?_); (· try clear ff; first | assumption | omega); refine st_by (And.intro hd ff) ?_)
    | (with_reducible refine GD_nd (fun hp hd => ?_) (fun hp hd => ?_) <;> refine st_by (And.intro hd ff) ?_)
    | (refine GD_nb (fun hd => ?_) (fun hd => ?_) <;> refine st_by (And.intro hd ff) ?_)
    | (refine GD_bool (fun hd => ?_) (fun hd => ?_) <;> refine st_by (And.intro hd ff) ?_))
  all_goals try clear ff
  have h1 : 0 ≤ szEdited x 1048576 := by omega
  have h2 := szEd_nm h1
  have e1 := specEd' 1048578 x (wfEd_ok h2) (by decide)
  have e2 := implEd 1048578 x (wfEd_ok h2) (by decide)
  clear hp hd
  have ff := And.intro @eEdited_eq (And.intro @eEditedo_eq (And.intro @esProp_share (And.intro @esProp_pure (And.intro @esStep_share (And.intro @esStep_pure (And.intro @Ty.nz25 (And.intro @Ty.ldA25 (And.intro @Ty.sz25 (And.intro @Ty.szn25 (And.intro @Ty.nz31 (And.intro @Ty.ldA31 (And.intro @Ty.sz31 (And.intro @Ty.szn31 (And.intro @Ty.bl4 @Ty.zv31))))))))))))))
  try refine st_by ff ?_
  repeat' (first
    | exact trivial
    | (refine And.intro ?_ ?_; · (try clear ff; first | omega | rfl | decide | (simp [pureV, pureVs, esProp_pure, esStep_pure])))
    | (refine ret_q1 rfl ?_; (try refine sr_by ff ?_); all_goals (try clear ff); all_goals (try exact trivial); all_goals (rfl))
    | (with_reducible refine cq_own (toEdited_does x h2) ?_ ?_ ⟨?_, ?_⟩; (· first | rfl | exact cl_by ff); (· first | assumption | kernel_rfl); (· first | exact ca_by ff | (refine sa_by ff ?_; try clear ff; first | exact trivial | omega | rfl | decide | (simp [pureV, pureVs, esProp_pure, esStep_pure]))); refine st_by ff ?_)
    | (with_reducible refine cq_down (toEdited_does x h2) ?_ ?_ ⟨?_, ?_⟩; (· first | rfl | exact cl_by ff); (· first | assumption | kernel_rfl); (· first | exact ca_by ff | (refine sa_by ff ?_; try clear ff; first | exact trivial | omega | rfl | decide | (simp [pureV, pureVs, esProp_pure, esStep_pure]))); refine st_by ff ?_)
    | (with_reducible refine cq_lend (p_spec_GoodEdited_does 1048578 x _ e1) ?_ ?_ ⟨?_, ?_⟩; (· first | rfl | exact cl_by ff); (· first | assumption | kernel_rfl); (· first | exact ca_by ff | (refine sa_by ff ?_; try clear ff; first | exact trivial | omega | rfl | decide | (simp [pureV, pureVs, esProp_pure, esStep_pure]))); refine st_by ff ?_)
    | (with_reducible refine cq_dlend (p_spec_GoodEdited_does 1048578 x _ e1) ?_ ?_ ⟨?_, ?_⟩; (· first | rfl | exact cl_by ff); (· first | assumption | kernel_rfl); (· first | exact ca_by ff | (refine sa_by ff ?_; try clear ff; first | exact trivial | omega | rfl | decide | (simp [pureV, pureVs, esProp_pure, esStep_pure]))); refine st_by ff ?_)
    | (with_reducible refine cq_lend (p_impl_GoodEdited_does 1048578 x _ e2) ?_ ?_ ⟨?_, ?_⟩; (· first | rfl | exact cl_by ff); (· first | assumption | kernel_rfl); (· first | exact ca_by ff | (refine sa_by ff ?_; try clear ff; first | exact trivial | omega | rfl | decide | (simp [pureV, pureVs, esProp_pure, esStep_pure]))); refine st_by ff ?_)
    | (with_reducible refine cq_dlend (p_impl_GoodEdited_does 1048578 x _ e2) ?_ ?_ ⟨?_, ?_⟩; (· first | rfl | exact cl_by ff); (· first | assumption | kernel_rfl); (· first | exact ca_by ff | (refine sa_by ff ?_; try clear ff; first | exact trivial | omega | rfl | decide | (simp [pureV, pureVs, esProp_pure, esStep_pure]))); refine st_by ff ?_)
    | (with_reducible refine cq_lend (eqEdited_does x x hx hx) ?_ ?_ ⟨?_, ?_⟩; (· first | rfl | exact cl_by ff); (· first | assumption | kernel_rfl); (· first | exact ca_by ff | (refine sa_by ff ?_; try clear ff; first | exact trivial | omega | rfl | decide | (simp [pureV, pureVs, esProp_pure, esStep_pure]))); refine st_by ff ?_)
    | (with_reducible refine cq_dlend (eqEdited_does x x hx hx) ?_ ?_ ⟨?_, ?_⟩; (· first | rfl | exact cl_by ff); (· first | assumption | kernel_rfl); (· first | exact ca_by ff | (refine sa_by ff ?_; try clear ff; first | exact trivial | omega | rfl | decide | (simp [pureV, pureVs, esProp_pure, esStep_pure]))); refine st_by ff ?_)
    | (refine aw_drawn (id := 10) ?_ [[], [], [1], [0, 1, 2], [0, 1, 2, 3]] 3 ?_ ?_; (· kernel_rfl); (· kernel_rfl); refine st_by ff ?_)
    | (with_reducible refine CBC_eq (fun hp hd => ?_) (fun hp hd => ?_) <;> refine st_by (And.intro hd ff) ?_)
    | (with_reducible refine CBC_ne (fun hp hd => ?_) (fun hp hd => ?_) <;> refine st_by (And.intro hd ff) ?_)
    | (with_reducible refine CBC_decT ?_ (fun hd => ?_); (· try clear ff; first | assumption | omega); refine st_by (And.intro hd ff) ?_)
    | (with_reducible refine CBC_decF ?_ (fun hd => ?_); (· try clear ff; first | assumption | omega); refine st_by (And.intro hd ff) ?_)
    | (with_reducible refine CBC_dec (fun hp hd => ?_) (fun hp hd => ?_) <;> refine st_by (And.intro hd ff) ?_)
    | (refine CBC_bool (fun hd => ?_) (fun hd => ?_) <;> refine st_by (And.intro hd ff) ?_)
    | (with_reducible refine GQ_eq (fun hp hd => ?_) (fun hp hd => ?_) <;> refine st_by (And.intro hd ff) ?_)
    | (with_reducible refine GQ_ne (fun hp hd => ?_) (fun hp hd => ?_) <;> refine st_by (And.intro hd ff) ?_)
    | (with_reducible refine GQ_decT ?_ (fun hd => ?_); (· try clear ff; first | assumption | omega); refine st_by (And.intro hd ff) ?_)
    | (with_reducible refine GQ_decF ?_ (fun hd => ?_); (· try clear ff; first | assumption | omega); refine st_by (And.intro hd ff) ?_)
    | (with_reducible refine GQ_dec (fun hp hd => ?_) (fun hp hd => ?_) <;> refine st_by (And.intro hd ff) ?_)
    | (with_reducible refine GQ_ndT ?_ (fun hd => ?_); (· try clear ff; first | assumption | omega); refine st_by (And.intro hd ff) ?_)
    | (with_reducible refine GQ_ndF ?_ (fun hd => ?_); (· try clear ff; first | assumption | omega); refine st_by (And.intro hd ff) ?_)
    | (with_reducible refine GQ_nd (fun hp hd => ?_) (fun hp hd => ?_) <;> refine st_by (And.intro hd ff) ?_)
    | (refine GQ_nb (fun hd => ?_) (fun hd => ?_) <;> refine st_by (And.intro hd ff) ?_)
    | (refine GQ_bool (fun hd => ?_) (fun hd => ?_) <;> refine st_by (And.intro hd ff) ?_)
    | (with_reducible refine GD_eq (fun hp hd => ?_) (fun hp hd => ?_) <;> refine st_by (And.intro hd ff) ?_)
    | (with_reducible refine GD_ne (fun hp hd => ?_) (fun hp hd => ?_) <;> refine st_by (And.intro hd ff) ?_)
    | (with_reducible refine GD_decT ?_ (fun hd => ?_); (· try clear ff; first | assumption | omega); refine st_by (And.intro hd ff) ?_)
    | (with_reducible refine GD_decF ?_ (fun hd => ?_); (· try clear ff; first | assumption | omega); refine st_by (And.intro hd ff) ?_)
    | (with_reducible refine GD_dec (fun hp hd => ?_) (fun hp hd => ?_) <;> refine st_by (And.intro hd ff) ?_)
    | (with_reducible refine GD_ndT ?_ (fun hd => ?_); (· try clear ff; first | assumption | omega); refine st_by (And.intro hd ff) ?_)
    | (with_reducible refine GD_ndF ?_ (fun hd => ?_); (· try clear ff; first | assumption | omega); refine st_by (And.intro hd ff) ?_)
    | (with_reducible refine GD_nd (fun hp hd => ?_) (fun hp hd => ?_) <;> refine st_by (And.intro hd ff) ?_)
    | (refine GD_nb (fun hd => ?_) (fun hd => ?_) <;> refine st_by (And.intro hd ff) ?_)
    | (refine GD_bool (fun hd => ?_) (fun hd => ?_) <;> refine st_by (And.intro hd ff) ?_))
  all_goals try clear ff
end Go.Av
end
