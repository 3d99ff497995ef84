/- Prop -/
import Derived.Test.YtnidajafjmcfaaaDoorBK5
section
set_option linter.unusedSimpArgs false
set_option linter.unusedVariables false
set_option maxRecDepth 100000
set_option maxHeartbeats 1000000
namespace Go.Av
open Go.Proofs
/-! Prop -/
def wfProp (n : Nat) (x : GProp) : Prop := x.Path.size ≤ n ∧ x.Value.size ≤ n
def szProp (x : GProp) (left : Int) : Int := szStep (left - x.Path.size) fun left => szStep (left - x.Value.size) fun left => left
theorem szProp_ok : szOk szProp := fun x left h => szStep_le h (by omega) (fun left h => szStep_le h (by omega) (fun left h => Int.le_refl _))
theorem szProp_does (x : GProp) (left : Int) (h0 : 0 ≤ left) (h1 : left ≤ 1048576) (hx : wfProp 9223372036854775807 x) : Does Tryd.prog 35 [.agg (eProp x), I left] (I (szProp x left)) := by
  unfold wfProp at hx
  refine Does.walk (nt := 20) Tryd.func35 rfl rfl (by simp) (by decide) rfl (fun G0 X w0 pv => ?_)
  unfold szProp
  have hv0 : (left - (x.Path.size : Int) : Int) ≤ left := by omega
  have w0 : IntKind.i64.wrap (left - (x.Path.size : Int)) = left - (x.Path.size : Int) := wI _ (by omega) (by omega)
  have ff := And.intro @eProp_eq (And.intro @w0 (And.intro @Ty.nz9 (And.intro @Ty.ldA9 (And.intro @Ty.ldS9 (And.intro @Ty.sz9 (And.intro @Ty.szn9 (And.intro @Ty.fo63_0 (And.intro @Ty.fk63_0 (And.intro @Ty.fs63_0 (And.intro @Ty.fn63_0 (And.intro @Ty.fo63_1 (And.intro @Ty.fk63_1 (And.intro @Ty.fs63_1 (And.intro @Ty.fn63_1 @Ty.str9))))))))))))))
  try refine st_by ff ?_
  repeat' (first
    | exact trivial
    | (refine And.intro ?_ ?_; · (try clear ff; first | omega))
    | (refine ret_q1 rfl ?_; (try refine sr_by ff ?_); all_goals (try clear ff); all_goals (try exact trivial); all_goals ((rw [szStep_neg (by assumption)])))
    | (with_reducible refine CBC_eq (fun hp hd => ?_) (fun hp hd => ?_) <;> refine st_by (And.intro hd ff) ?_)
    | (with_reducible refine CBC_ne (fun hp hd => ?_) (fun hp hd => ?_) <;> refine st_by (And.intro hd ff) ?_)
    | (with_reducible refine CBC_decT ?_ (fun hd => ?_); (· try clear ff; first | assumption | omega); refine st_by (And.intro hd ff) ?_)
    | (with_reducible refine CBC_decF ?_ (fun hd => ?_); (· try clear ff; first | assumption | omega); refine st_by (And.intro hd ff) ?_)
    | (with_reducible refine CBC_dec (p := left - (x.Path.size : Int) < 0) (fun hp hd => ?_) (fun hp hd => ?_) <;> refine st_by (And.intro hd ff) ?_)
    | (with_reducible refine GQ_eq (fun hp hd => ?_) (fun hp hd => ?_) <;> refine st_by (And.intro hd ff) ?_)
    | (with_reducible refine GQ_ne (fun hp hd => ?_) (fun hp hd => ?_) <;> refine st_by (And.intro hd ff) ?_)
    | (with_reducible refine GQ_decT ?_ (fun hd => ?_); (· try clear ff; first | assumption | omega); refine st_by (And.intro hd ff) ?_)
    | (with_reducible refine GQ_decF ?_ (fun hd => ?_); (· try clear ff; first | assumption | omega); refine st_by (And.intro hd ff) ?_)
    | (with_reducible refine GQ_dec (p := left - (x.Path.size : Int) < 0) (fun hp hd => ?_) (fun hp hd => ?_) <;> refine st_by (And.intro hd ff) ?_)
    | (with_reducible refine GQ_ndT ?_ (fun hd => ?_); (· try clear ff; first | assumption | omega); refine st_by (And.intro hd ff) ?_)
    | (with_reducible refine GQ_ndF ?_ (fun hd => ?_); (· try clear ff; first | assumption | omega); refine st_by (And.intro hd ff) ?_)
    | (with_reducible refine GQ_nd (fun hp hd => ?_) (fun hp hd => ?_) <;> refine st_by (And.intro hd ff) ?_))
  all_goals try clear ff
  rw [szStep_pos (by assumption)]
  generalize hg0 : (left - (x.Path.size : Int) : Int) = v0 at *
  have hv1 : (v0 - (x.Value.size : Int) : Int) ≤ v0 := by omega
  have w1 : IntKind.i64.wrap (v0 - (x.Value.size : Int)) = v0 - (x.Value.size : Int) := wI _ (by omega) (by omega)
  have ff := And.intro @eProp_eq (And.intro @w1 (And.intro @Ty.nz9 (And.intro @Ty.ldA9 (And.intro @Ty.ldS9 (And.intro @Ty.sz9 (And.intro @Ty.szn9 (And.intro @Ty.fo63_0 (And.intro @Ty.fk63_0 (And.intro @Ty.fs63_0 (And.intro @Ty.fn63_0 (And.intro @Ty.fo63_1 (And.intro @Ty.fk63_1 (And.intro @Ty.fs63_1 (And.intro @Ty.fn63_1 @Ty.str9))))))))))))))
  try refine st_by ff ?_
  repeat' (first
    | exact trivial
    | (refine And.intro ?_ ?_; · (try clear ff; first | omega))
    | (refine ret_q1 rfl ?_; (try refine sr_by ff ?_); all_goals (try clear ff); all_goals (try exact trivial); all_goals ((first | rw [szStep_neg (by assumption)] | rw [szStep_pos (by assumption)])))
    | (with_reducible refine CBC_eq (fun hp hd => ?_) (fun hp hd => ?_) <;> refine st_by (And.intro hd ff) ?_)
    | (with_reducible refine CBC_ne (fun hp hd => ?_) (fun hp hd => ?_) <;> refine st_by (And.intro hd ff) ?_)
    | (with_reducible refine CBC_decT ?_ (fun hd => ?_); (· try clear ff; first | assumption | omega); refine st_by (And.intro hd ff) ?_)
    | (with_reducible refine CBC_decF ?_ (fun hd => ?_); (· try clear ff; first | assumption | omega); refine st_by (And.intro hd ff) ?_)
    | (with_reducible refine CBC_dec (fun hp hd => ?_) (fun hp hd => ?_) <;> refine st_by (And.intro hd ff) ?_)
    | (refine CBC_bool (fun hd => ?_) (fun hd => ?_) <;> refine st_by (And.intro hd ff) ?_)
    | (with_reducible refine GQ_eq (fun hp hd => ?_) (fun hp hd => ?_) <;> refine st_by (And.intro hd ff) ?_)
    | (with_reducible refine GQ_ne (fun hp hd => ?_) (fun hp hd => ?_) <;> refine st_by (And.intro hd ff) ?_)
    | (with_reducible refine GQ_decT ?_ (fun hd => ?_); (· try clear ff; first | assumption | omega); refine st_by (And.intro hd ff) ?_)
    | (with_reducible refine GQ_decF ?_ (fun hd => ?_); (· try clear ff; first | assumption | omega); refine st_by (And.intro hd ff) ?_)
    | (with_reducible refine GQ_dec (fun hp hd => ?_) (fun hp hd => ?_) <;> refine st_by (And.intro hd ff) ?_)
    | (with_reducible refine GQ_ndT ?_ (fun hd => ?_); (· try clear ff; first | assumption | omega); refine st_by (And.intro hd ff) ?_)
    | (with_reducible refine GQ_ndF ?_ (fun hd => ?_); (· try clear ff; first | assumption | omega); refine st_by (And.intro hd ff) ?_)
    | (with_reducible refine GQ_nd (fun hp hd => ?_) (fun hp hd => ?_) <;> refine st_by (And.intro hd ff) ?_)
    | (refine GQ_nb (fun hd => ?_) (fun hd => ?_) <;> refine st_by (And.intro hd ff) ?_)
    | (refine GQ_bool (fun hd => ?_) (fun hd => ?_) <;> refine st_by (And.intro hd ff) ?_))
  all_goals try clear ff
theorem toProp_does (x : GProp) : Does Tryd.prog 38 [.agg (eProp x)] (.agg (eProp x)) := by
  refine Does.walk (nt := 11) Tryd.func38 rfl rfl (by simp) (by decide) rfl (fun G0 X w0 pv => ?_)
  have ff := And.intro @eProp_eq (And.intro @Ty.nz9 (And.intro @Ty.ldA9 (And.intro @Ty.ldS9 (And.intro @Ty.sz9 (And.intro @Ty.szn9 (And.intro @Ty.nz59 (And.intro @Ty.ldA59 (And.intro @Ty.sz59 (And.intro @Ty.szn59 (And.intro @Ty.fo63_0 (And.intro @Ty.fk63_0 (And.intro @Ty.fs63_0 (And.intro @Ty.fn63_0 (And.intro @Ty.fo59_0 (And.intro @Ty.fk59_0 (And.intro @Ty.fs59_0 (And.intro @Ty.fn59_0 (And.intro @Ty.fo63_1 (And.intro @Ty.fk63_1 (And.intro @Ty.fs63_1 (And.intro @Ty.fn63_1 (And.intro @Ty.fo59_1 (And.intro @Ty.fk59_1 (And.intro @Ty.fs59_1 (And.intro @Ty.fn59_1 (And.intro @Ty.zv59 @Ty.ag59))))))))))))))))))))))))))
  try refine st_by ff ?_
  repeat' (first
    | exact trivial
    | (refine And.intro ?_ ?_; · (try clear ff; first | omega | decide))
    | (refine ret_q1 rfl ?_; (try refine sr_by ff ?_); all_goals (try clear ff); all_goals (try exact trivial); all_goals (skip))
    | (with_reducible refine CBC_eq (fun hp hd => ?_) (fun hp hd => ?_) <;> refine st_by (And.intro hd ff) ?_)
    | (with_reducible refine CBC_ne (fun hp hd => ?_) (fun hp hd => ?_) <;> refine st_by (And.intro hd ff) ?_)
    | (with_reducible refine CBC_decT ?_ (fun hd => ?_); (· try clear ff; first | assumption | omega); refine st_by (And.intro hd ff) ?_)
    | (with_reducible refine CBC_decF ?_ (fun hd => ?_); (· try clear ff; first | assumption | omega); refine st_by (And.intro hd ff) ?_)
    | (with_reducible refine CBC_dec (fun hp hd => ?_) (fun hp hd => ?_) <;> refine st_by (And.intro hd ff) ?_)
    | (refine CBC_bool (fun hd => ?_) (fun hd => ?_) <;> refine st_by (And.intro hd ff) ?_)
    | (with_reducible refine GQ_eq (fun hp hd => ?_) (fun hp hd => ?_) <;> refine st_by (And.intro hd ff) ?_)
    | (with_reducible refine GQ_ne (fun hp hd => ?_) (fun hp hd => ?_) <;> refine st_by (And.intro hd ff) ?_)
    | (with_reducible refine GQ_decT ?_ (fun hd => ?_); (· try clear ff; first | assumption | omega); refine st_by (And.intro hd ff) ?_)
    | (with_reducible refine GQ_decF ?_ (fun hd => ?_); (· try clear ff; first | assumption | omega); refine st_by (And.intro hd ff) ?_)
    | (with_reducible refine GQ_dec (fun hp hd => ?_) (fun hp hd => ?_) <;> refine st_by (And.intro hd ff) ?_)
    | (with_reducible refine GQ_ndT ?_ (fun hd => ?_); (· try clear ff; first | assumption | omega); refine st_by (And.intro hd ff) ?_)
    | (with_reducible refine GQ_ndF ?_ (fun hd => ?_); (· try clear ff; first | assumption | omega); refine st_by (And.intro hd ff) ?_)
    | (with_reducible refine GQ_nd (fun hp hd => ?_) (fun hp hd => ?_) <;> refine st_by (And.intro hd ff) ?_)
    | (refine GQ_nb (fun hd => ?_) (fun hd => ?_) <;> refine st_by (And.intro hd ff) ?_)
    | (refine GQ_bool (fun hd => ?_) (fun hd => ?_) <;> refine st_by (And.intro hd ff) ?_))
  all_goals try clear ff
theorem eqProp_does (x y : GProp) : Does Tryd.prog 32 [.agg (eProp x), .agg (eProp y)] (B (decide (x = y))) := by
  have hxy : decide (x = y) = decide (x.Path = y.Path ∧ x.Value = y.Value) := decide_eq_decide.2 (by cases x; cases y; simp)
  rw [hxy]
  refine Does.walk (nt := 15) Tryd.func32 rfl rfl (by simp) (by decide) rfl (fun G0 X w0 pv => ?_)
  have ff := And.intro @eProp_eq (And.intro @str_beq (And.intro @Ty.nz9 (And.intro @Ty.ldA9 (And.intro @Ty.ldS9 (And.intro @Ty.sz9 (And.intro @Ty.szn9 (And.intro @Ty.fo59_0 (And.intro @Ty.fk59_0 (And.intro @Ty.fs59_0 (And.intro @Ty.fn59_0 (And.intro @Ty.fo59_1 (And.intro @Ty.fk59_1 (And.intro @Ty.fs59_1 @Ty.fn59_1)))))))))))))
  try refine st_by ff ?_
  repeat' (first
    | exact trivial
    | (refine And.intro ?_ ?_; · (try clear ff; first | omega))
    | (refine ret_q1 rfl ?_; (try refine sr_by ff ?_); all_goals (try clear ff); all_goals (try exact trivial); all_goals (simp_all))
    | (with_reducible refine CBC_eq (fun hp hd => ?_) (fun hp hd => ?_) <;> refine st_by (And.intro hd ff) ?_)
    | (with_reducible refine CBC_ne (fun hp hd => ?_) (fun hp hd => ?_) <;> refine st_by (And.intro hd ff) ?_)
    | (with_reducible refine CBC_decT ?_ (fun hd => ?_); (· try clear ff; first | assumption | omega); refine st_by (And.intro hd ff) ?_)
    | (with_reducible refine CBC_decF ?_ (fun hd => ?_); (· try clear ff; first | assumption | omega); refine st_by (And.intro hd ff) ?_)
    | (with_reducible refine CBC_dec (fun hp hd => ?_) (fun hp hd => ?_) <;> refine st_by (And.intro hd ff) ?_)
    | (refine CBC_bool (fun hd => ?_) (fun hd => ?_) <;> refine st_by (And.intro hd ff) ?_)
    | (with_reducible refine GQ_eq (fun hp hd => ?_) (fun hp hd => ?_) <;> refine st_by (And.intro hd ff) ?_)
    | (with_reducible refine GQ_ne (fun hp hd => ?_) (fun hp hd => ?_) <;> refine st_by (And.intro hd ff) ?_)
    | (with_reducible refine GQ_decT ?_ (fun hd => ?_); (· try clear ff; first | assumption | omega); refine st_by (And.intro hd ff) ?_)
    | (with_reducible refine GQ_decF ?_ (fun hd => ?_); (· try clear ff; first | assumption | omega); refine st_by (And.intro hd ff) ?_)
    | (with_reducible refine GQ_dec (fun hp hd => ?_) (fun hp hd => ?_) <;> refine st_by (And.intro hd ff) ?_)
    | (with_reducible refine GQ_ndT ?_ (fun hd => ?_); (· try clear ff; first | assumption | omega); refine st_by (And.intro hd ff) ?_)
    | (with_reducible refine GQ_ndF ?_ (fun hd => ?_); (· try clear ff; first | assumption | omega); refine st_by (And.intro hd ff) ?_)
    | (with_reducible refine GQ_nd (fun hp hd => ?_) (fun hp hd => ?_) <;> refine st_by (And.intro hd ff) ?_)
    | (refine GQ_nb (fun hd => ?_) (fun hd => ?_) <;> refine st_by (And.intro hd ff) ?_)
    | (refine GQ_bool (fun hd => ?_) (fun hd => ?_) <;> refine st_by (And.intro hd ff) ?_))
  all_goals try clear ff
/-! []Prop -/
theorem szPropS_does (l : List GProp) (left : Int) (h0 : 0 ≤ left) (h1 : left ≤ 1048576) (hl : l.length ≤ 9223372036854775807) (hx : ∀ x ∈ l, wfProp 9223372036854775807 x) : Does Tryd.prog 15 [.row false 2 l.length (esProp l), I left] (I (szRow szProp l left)) := by
  have w1 : IntKind.i64.wrap (left - (l.length : Int)) = left - l.length := wI _ (by omega) (by omega)
  refine Does.walk (nt := 27) Tryd.func15 rfl rfl (by simp) (by decide) rfl (fun G0 X w0 pv => ?_)
  have ff := And.intro @w1 (And.intro @Ty.sl34 (And.intro @Ty.slz34 (And.intro @Ty.nz63 (And.intro @Ty.ldA63 (And.intro @Ty.sz63 @Ty.szn63)))))
  try refine st_by ff ?_
  repeat' (first
    | exact trivial
    | (refine And.intro ?_ ?_; · (try clear ff; first | omega))
    | (refine ret_q1 rfl ?_; (try refine sr_by ff ?_); all_goals (try clear ff); all_goals (try exact trivial); all_goals ((simp only [szRow]; first | rw [szStep_neg (by omega)] | rw [szStep_pos (by omega)])))
    | (with_reducible refine CBC_eq (fun hp hd => ?_) (fun hp hd => ?_) <;> refine st_by (And.intro hd ff) ?_)
    | (with_reducible refine CBC_ne (fun hp hd => ?_) (fun hp hd => ?_) <;> refine st_by (And.intro hd ff) ?_)
    | (with_reducible refine CBC_decT ?_ (fun hd => ?_); (· try clear ff; first | assumption | omega); refine st_by (And.intro hd ff) ?_)
    | (with_reducible refine CBC_decF ?_ (fun hd => ?_); (· try clear ff; first | assumption | omega); refine st_by (And.intro hd ff) ?_)
    | (with_reducible refine CBC_dec (fun hp hd => ?_) (fun hp hd => ?_) <;> refine st_by (And.intro hd ff) ?_)
    | (refine CBC_bool (fun hd => ?_) (fun hd => ?_) <;> refine st_by (And.intro hd ff) ?_)
    | (with_reducible refine GQ_eq (fun hp hd => ?_) (fun hp hd => ?_) <;> refine st_by (And.intro hd ff) ?_)
    | (with_reducible refine GQ_ne (fun hp hd => ?_) (fun hp hd => ?_) <;> refine st_by (And.intro hd ff) ?_)
    | (with_reducible refine GQ_decT ?_ (fun hd => ?_); (· try clear ff; first | assumption | omega); refine st_by (And.intro hd ff) ?_)
    | (with_reducible refine GQ_decF ?_ (fun hd => ?_); (· try clear ff; first | assumption | omega); refine st_by (And.intro hd ff) ?_)
    | (with_reducible refine GQ_dec (fun hp hd => ?_) (fun hp hd => ?_) <;> refine st_by (And.intro hd ff) ?_)
    | (with_reducible refine GQ_ndT ?_ (fun hd => ?_); (· try clear ff; first | assumption | omega); refine st_by (And.intro hd ff) ?_)
    | (with_reducible refine GQ_ndF ?_ (fun hd => ?_); (· try clear ff; first | assumption | omega); refine st_by (And.intro hd ff) ?_)
    | (with_reducible refine GQ_nd (fun hp hd => ?_) (fun hp hd => ?_) <;> refine st_by (And.intro hd ff) ?_)
    | (refine GQ_nb (fun hd => ?_) (fun hd => ?_) <;> refine st_by (And.intro hd ff) ?_)
    | (refine GQ_bool (fun hd => ?_) (fun hd => ?_) <;> refine st_by (And.intro hd ff) ?_))
  all_goals try clear ff
  have e0 : szRow szProp l left = szL szProp l (left - l.length) := by simp only [szRow]; rw [szStep_pos (by omega)]
  rw [e0]
  refine aw_loop (ι := Nat × Int) (fun z σ => (z.1 ≤ l.length ∧ 0 ≤ z.2 ∧ z.2 ≤ 1048576 ∧ szL szProp (l.drop z.1) z.2 = szL szProp l (left - l.length)) ∧ σ.t 0 = .row false 2 l.length (esProp l) ∧ σ.t 1 = I z.2 ∧ σ.t 5 = I z.1) (fun z => l.length - z.1) (0, left - l.length) ?_ ?_
  · (first | exact cl_by trivial | refine st_by trivial ?_)
    simp [w1]; omega
  · rintro ⟨i, a⟩ σ ⟨⟨h2, h3, h4, h5⟩, g0, g1, g5⟩
    simp only at h2 h3 h4 h5 g0 g1 g5
    by_cases hi : i < l.length
    · have w2 : IntKind.i64.wrap ((i : Int) + 1) = ((i + 1 : Nat) : Int) := wI _ (by omega) (by omega)
      have hle := szProp_ok l[i] a h3
      have hd0 := szL_drop (f := szProp) l i hi a
      have hx0 := hx l[i] (List.getElem_mem hi)
      have ff := And.intro @g0 (And.intro @g1 (And.intro @g5 (And.intro @w2 (And.intro @hi (And.intro ((esProp_drop l i hi)) (And.intro @esProp_len (And.intro @eProp_eq (And.intro @Ty.sl34 (And.intro @Ty.slz34 (And.intro @Ty.nz63 (And.intro @Ty.ldA63 (And.intro @Ty.sz63 @Ty.szn63))))))))))))
      try refine st_by ff ?_
      repeat' (first
        | exact trivial
        | (refine And.intro ?_ ?_; · (try clear ff; first | omega | (rw [List.length_append]; simp [esProp_len]; omega) | (simp [eProp]; done) | decide | (simp [esProp_len]; omega) | rfl))
        | (refine ret_q1 rfl ?_; (try refine sr_by ff ?_); all_goals (try clear ff); all_goals (try exact trivial); all_goals (first | (rw [← h5, hd0, szStep_neg (by first | assumption | omega)]; done) | (exfalso; omega)))
        | (with_reducible refine cq_call (szProp_does l[i] a h3 h4 hx0) ?_ ?_ ⟨?_, ?_⟩; (· first | rfl | exact cl_by ff); (· first | assumption | kernel_rfl); (· first | exact ca_by ff | (refine sa_by ff ?_; try clear ff; first | exact trivial | omega | (rw [List.length_append]; simp [esProp_len]; omega) | (simp [eProp]; done) | decide | (simp [esProp_len]; omega) | rfl)); refine st_by ff ?_)
        | (with_reducible refine CBC_eq (fun hp hd => ?_) (fun hp hd => ?_) <;> refine st_by (And.intro hd ff) ?_)
        | (with_reducible refine CBC_ne (fun hp hd => ?_) (fun hp hd => ?_) <;> refine st_by (And.intro hd ff) ?_)
        | (with_reducible refine CBC_decT ?_ (fun hd => ?_); (· try clear ff; first | assumption | omega); refine st_by (And.intro hd ff) ?_)
        | (with_reducible refine CBC_decF ?_ (fun hd => ?_); (· try clear ff; first | assumption | omega); refine st_by (And.intro hd ff) ?_)
        | (with_reducible refine CBC_dec (fun hp hd => ?_) (fun hp hd => ?_) <;> refine st_by (And.intro hd ff) ?_)
        | (refine CBC_bool (fun hd => ?_) (fun hd => ?_) <;> refine st_by (And.intro hd ff) ?_)
        | (with_reducible refine GQ_eq (fun hp hd => ?_) (fun hp hd => ?_) <;> refine st_by (And.intro hd ff) ?_)
        | (with_reducible refine GQ_ne (fun hp hd => ?_) (fun hp hd => ?_) <;> refine st_by (And.intro hd ff) ?_)
        | (with_reducible refine GQ_decT ?_ (fun hd => ?_); (· try clear ff; first | assumption | omega); refine st_by (And.intro hd ff) ?_)
        | (with_reducible refine GQ_decF ?_ (fun hd => ?_); (· try clear ff; first | assumption | omega); refine st_by (And.intro hd ff) ?_)
        | (with_reducible refine GQ_dec (fun hp hd => ?_) (fun hp hd => ?_) <;> refine st_by (And.intro hd ff) ?_)
        | (with_reducible refine GQ_ndT ?_ (fun hd => ?_); (· try clear ff; first | assumption | omega); refine st_by (And.intro hd ff) ?_)
        | (with_reducible refine GQ_ndF ?_ (fun hd => ?_); (· try clear ff; first | assumption | omega); refine st_by (And.intro hd ff) ?_)
        | (with_reducible refine GQ_nd (fun hp hd => ?_) (fun hp hd => ?_) <;> refine st_by (And.intro hd ff) ?_)
        | (refine GQ_nb (fun hd => ?_) (fun hd => ?_) <;> refine st_by (And.intro hd ff) ?_)
        | (refine GQ_bool (fun hd => ?_) (fun hd => ?_) <;> refine st_by (And.intro hd ff) ?_)
        | ((try clear ff); refine ⟨(i + 1, szProp l[i] a), ⟨⟨?_, ?_, ?_, ?_⟩, rfl, rfl⟩, ?_⟩; (· simp only; omega); (· simp only; omega); (· simp only; omega); (· simp only; rw [← h5, hd0, szStep_pos (by first | assumption | omega)]); (· simp only; omega)))
      all_goals try clear ff
    · have e1 : l.drop i = [] := List.drop_of_length_le (by omega)
      have ff := And.intro @g0 (And.intro @g1 (And.intro @g5 (And.intro @Ty.sl34 (And.intro @Ty.slz34 (And.intro @Ty.nz63 (And.intro @Ty.ldA63 (And.intro @Ty.sz63 @Ty.szn63)))))))
      try refine st_by ff ?_
      repeat' (first
        | exact trivial
        | (refine And.intro ?_ ?_; · (try clear ff; first | omega))
        | (refine ret_q1 rfl ?_; (try refine sr_by ff ?_); all_goals (try clear ff); all_goals (try exact trivial); all_goals (rw [← h5, e1]; rfl))
        | (with_reducible refine CBC_eq (fun hp hd => ?_) (fun hp hd => ?_) <;> refine st_by (And.intro hd ff) ?_)
        | (with_reducible refine CBC_ne (fun hp hd => ?_) (fun hp hd => ?_) <;> refine st_by (And.intro hd ff) ?_)
        | (with_reducible refine CBC_decT ?_ (fun hd => ?_); (· try clear ff; first | assumption | omega); refine st_by (And.intro hd ff) ?_)
        | (with_reducible refine CBC_decF ?_ (fun hd => ?_); (· try clear ff; first | assumption | omega); refine st_by (And.intro hd ff) ?_)
        | (with_reducible refine CBC_dec (fun hp hd => ?_) (fun hp hd => ?_) <;> refine st_by (And.intro hd ff) ?_)
        | (refine CBC_bool (fun hd => ?_) (fun hd => ?_) <;> refine st_by (And.intro hd ff) ?_)
        | (with_reducible refine GQ_eq (fun hp hd => ?_) (fun hp hd => ?_) <;> refine st_by (And.intro hd ff) ?_)
        | (with_reducible refine GQ_ne (fun hp hd => ?_) (fun hp hd => ?_) <;> refine st_by (And.intro hd ff) ?_)
        | (with_reducible refine GQ_decT ?_ (fun hd => ?_); (· try clear ff; first | assumption | omega); refine st_by (And.intro hd ff) ?_)
        | (with_reducible refine GQ_decF ?_ (fun hd => ?_); (· try clear ff; first | assumption | omega); refine st_by (And.intro hd ff) ?_)
        | (with_reducible refine GQ_dec (fun hp hd => ?_) (fun hp hd => ?_) <;> refine st_by (And.intro hd ff) ?_)
        | (with_reducible refine GQ_ndT ?_ (fun hd => ?_); (· try clear ff; first | assumption | omega); refine st_by (And.intro hd ff) ?_)
        | (with_reducible refine GQ_ndF ?_ (fun hd => ?_); (· try clear ff; first | assumption | omega); refine st_by (And.intro hd ff) ?_)
        | (with_reducible refine GQ_nd (fun hp hd => ?_) (fun hp hd => ?_) <;> refine st_by (And.intro hd ff) ?_)
        | (refine GQ_nb (fun hd => ?_) (fun hd => ?_) <;> refine st_by (And.intro hd ff) ?_)
        | (refine GQ_bool (fun hd => ?_) (fun hd => ?_) <;> refine st_by (And.intro hd ff) ?_))
      all_goals try clear ff
theorem toPropS_does (l : List GProp) (hl : l.length ≤ 1048576) : Does Tryd.prog 17 [.row false 2 l.length (esProp l)] (.row true 2 l.length (esProp l)) := by
  have hz := zRows (enc := eProp) (z := (⟨⟨#[]⟩, ⟨#[]⟩⟩ : GProp)) (zs := [.string ⟨#[]⟩, .string ⟨#[]⟩]) (by decide) rfl l.length
  refine Does.walk (nt := 23) Tryd.func17 rfl rfl (by simp) (by decide) rfl (fun G0 X w0 pv => ?_)
  have ff := And.intro @Ty.sl34 (And.intro @Ty.slz34 (And.intro @Ty.sl24 (And.intro @Ty.slz24 (And.intro @Ty.nz63 (And.intro @Ty.ldA63 (And.intro @Ty.sz63 (And.intro @Ty.szn63 (And.intro @Ty.nz59 (And.intro @Ty.ldA59 (And.intro @Ty.sz59 (And.intro @Ty.szn59 (And.intro @Ty.nze24 (And.intro @Ty.zok24 (And.intro @Ty.by24 @Ty.zs24))))))))))))))
  try refine st_by ff ?_
  repeat' (first
    | exact trivial
    | (refine And.intro ?_ ?_; · (try clear ff; first | omega | decide | rfl))
    | (refine ret_q1 rfl ?_; (try refine sr_by ff ?_); all_goals (try clear ff); all_goals (try exact trivial); all_goals (skip))
    | (with_reducible refine CBC_eq (fun hp hd => ?_) (fun hp hd => ?_) <;> refine st_by (And.intro hd ff) ?_)
    | (with_reducible refine CBC_ne (fun hp hd => ?_) (fun hp hd => ?_) <;> refine st_by (And.intro hd ff) ?_)
    | (with_reducible refine CBC_decT ?_ (fun hd => ?_); (· try clear ff; first | assumption | omega); refine st_by (And.intro hd ff) ?_)
    | (with_reducible refine CBC_decF ?_ (fun hd => ?_); (· try clear ff; first | assumption | omega); refine st_by (And.intro hd ff) ?_)
    | (with_reducible refine CBC_dec (fun hp hd => ?_) (fun hp hd => ?_) <;> refine st_by (And.intro hd ff) ?_)
    | (refine CBC_bool (fun hd => ?_) (fun hd => ?_) <;> refine st_by (And.intro hd ff) ?_)
    | (with_reducible refine GQ_eq (fun hp hd => ?_) (fun hp hd => ?_) <;> refine st_by (And.intro hd ff) ?_)
    | (with_reducible refine GQ_ne (fun hp hd => ?_) (fun hp hd => ?_) <;> refine st_by (And.intro hd ff) ?_)
    | (with_reducible refine GQ_decT ?_ (fun hd => ?_); (· try clear ff; first | assumption | omega); refine st_by (And.intro hd ff) ?_)
    | (with_reducible refine GQ_decF ?_ (fun hd => ?_); (· try clear ff; first | assumption | omega); refine st_by (And.intro hd ff) ?_)
    | (with_reducible refine GQ_dec (fun hp hd => ?_) (fun hp hd => ?_) <;> refine st_by (And.intro hd ff) ?_)
    | (with_reducible refine GQ_ndT ?_ (fun hd => ?_); (· try clear ff; first | assumption | omega); refine st_by (And.intro hd ff) ?_)
    | (with_reducible refine GQ_ndF ?_ (fun hd => ?_); (· try clear ff; first | assumption | omega); refine st_by (And.intro hd ff) ?_)
    | (with_reducible refine GQ_nd (fun hp hd => ?_) (fun hp hd => ?_) <;> refine st_by (And.intro hd ff) ?_)
    | (refine GQ_nb (fun hd => ?_) (fun hd => ?_) <;> refine st_by (And.intro hd ff) ?_)
    | (refine GQ_bool (fun hd => ?_) (fun hd => ?_) <;> refine st_by (And.intro hd ff) ?_))
  all_goals try clear ff
  refine aw_loop (ι := Nat) (fun i σ => i ≤ l.length ∧ σ.t 0 = .row false 2 l.length (esProp l) ∧ σ.t 4 = I i ∧ σ.t 3 = .sl 3 [] 0 l.length ∧ σ.m 3 = some (.row true 2 l.length (esProp (l.take i ++ List.replicate (l.length - i) ⟨⟨#[]⟩, ⟨#[]⟩⟩)))) (fun i => l.length - i) 0 ?_ ?_
  · (first | exact cl_by (And.intro @Ty.sl34 (And.intro @Ty.slz34 (And.intro @Ty.sl24 (And.intro @Ty.slz24 (And.intro @Ty.nz63 (And.intro @Ty.ldA63 (And.intro @Ty.sz63 (And.intro @Ty.szn63 (And.intro @Ty.nz59 (And.intro @Ty.ldA59 (And.intro @Ty.sz59 (And.intro @Ty.szn59 (And.intro @Ty.nze24 (And.intro @Ty.zok24 (And.intro @Ty.by24 @Ty.zs24))))))))))))))) | refine st_by (And.intro @Ty.sl34 (And.intro @Ty.slz34 (And.intro @Ty.sl24 (And.intro @Ty.slz24 (And.intro @Ty.nz63 (And.intro @Ty.ldA63 (And.intro @Ty.sz63 (And.intro @Ty.szn63 (And.intro @Ty.nz59 (And.intro @Ty.ldA59 (And.intro @Ty.sz59 (And.intro @Ty.szn59 (And.intro @Ty.nze24 (And.intro @Ty.zok24 (And.intro @Ty.by24 @Ty.zs24))))))))))))))) ?_)
    simp [esProp, hz]
  · rintro i σ ⟨h2, g0, g4, g3, m3⟩
    by_cases hi : i < l.length
    · have w2 : IntKind.i64.wrap ((i : Int) + 1) = ((i + 1 : Nat) : Int) := wI _ (by omega) (by omega)
      have hlen : (l.take i ++ List.replicate (l.length - i) (⟨⟨#[]⟩, ⟨#[]⟩⟩ : GProp)).length = l.length := by simp; omega
      have hset := take_rep_set l ⟨⟨#[]⟩, ⟨#[]⟩⟩ i hi
      have hsl := esProp_setL (l.take i ++ List.replicate (l.length - i) ⟨⟨#[]⟩, ⟨#[]⟩⟩) i l[i] (by omega)
      generalize l.take i ++ List.replicate (l.length - i) (⟨⟨#[]⟩, ⟨#[]⟩⟩ : GProp) = L at m3 hlen hset hsl
      rw [hset] at hsl
      have ff := And.intro @g0 (And.intro @g3 (And.intro @g4 (And.intro @m3 (And.intro @w2 (And.intro @hi (And.intro ((esProp_drop l i hi)) (And.intro @esProp_len (And.intro @eProp_eq (And.intro @esProp_len (And.intro @Ty.sl34 (And.intro @Ty.slz34 (And.intro @Ty.sl24 (And.intro @Ty.slz24 (And.intro @Ty.nz63 (And.intro @Ty.ldA63 (And.intro @Ty.sz63 (And.intro @Ty.szn63 (And.intro @Ty.nz59 (And.intro @Ty.ldA59 (And.intro @Ty.sz59 (And.intro @Ty.szn59 (And.intro @Ty.nze24 (And.intro @Ty.zok24 (And.intro @Ty.by24 @Ty.zs24))))))))))))))))))))))))
      try refine st_by ff ?_
      repeat' (first
        | exact trivial
        | (refine And.intro ?_ ?_; · (try clear ff; first | omega | (rw [List.length_append]; simp [esProp_len]; omega) | (simp [eProp]; done) | decide | (simp [esProp_len]; omega) | rfl | (simp [esProp_len, hlen]; omega)))
        | (refine ret_q1 rfl ?_; (try refine sr_by ff ?_); all_goals (try clear ff); all_goals (try exact trivial); all_goals (skip))
        | (with_reducible refine cq_call (toProp_does l[i]) ?_ ?_ ⟨?_, ?_⟩; (· first | rfl | exact cl_by ff); (· first | assumption | kernel_rfl); (· first | exact ca_by ff | (refine sa_by ff ?_; try clear ff; first | exact trivial | omega | (rw [List.length_append]; simp [esProp_len]; omega) | (simp [eProp]; done) | decide | (simp [esProp_len]; omega) | rfl | (simp [esProp_len, hlen]; omega))); refine st_by ff ?_)
        | (with_reducible refine CBC_eq (fun hp hd => ?_) (fun hp hd => ?_) <;> refine st_by (And.intro hd ff) ?_)
        | (with_reducible refine CBC_ne (fun hp hd => ?_) (fun hp hd => ?_) <;> refine st_by (And.intro hd ff) ?_)
        | (with_reducible refine CBC_decT ?_ (fun hd => ?_); (· try clear ff; first | assumption | omega); refine st_by (And.intro hd ff) ?_)
        | (with_reducible refine CBC_decF ?_ (fun hd => ?_); (· try clear ff; first | assumption | omega); refine st_by (And.intro hd ff) ?_)
        | (with_reducible refine CBC_dec (fun hp hd => ?_) (fun hp hd => ?_) <;> refine st_by (And.intro hd ff) ?_)
        | (refine CBC_bool (fun hd => ?_) (fun hd => ?_) <;> refine st_by (And.intro hd ff) ?_)
        | (with_reducible refine GQ_eq (fun hp hd => ?_) (fun hp hd => ?_) <;> refine st_by (And.intro hd ff) ?_)
        | (with_reducible refine GQ_ne (fun hp hd => ?_) (fun hp hd => ?_) <;> refine st_by (And.intro hd ff) ?_)
        | (with_reducible refine GQ_decT ?_ (fun hd => ?_); (· try clear ff; first | assumption | omega); refine st_by (And.intro hd ff) ?_)
        | (with_reducible refine GQ_decF ?_ (fun hd => ?_); (· try clear ff; first | assumption | omega); refine st_by (And.intro hd ff) ?_)
        | (with_reducible refine GQ_dec (fun hp hd => ?_) (fun hp hd => ?_) <;> refine st_by (And.intro hd ff) ?_)
        | (with_reducible refine GQ_ndT ?_ (fun hd => ?_); (· try clear ff; first | assumption | omega); refine st_by (And.intro hd ff) ?_)
        | (with_reducible refine GQ_ndF ?_ (fun hd => ?_); (· try clear ff; first | assumption | omega); refine st_by (And.intro hd ff) ?_)
        | (with_reducible refine GQ_nd (fun hp hd => ?_) (fun hp hd => ?_) <;> refine st_by (And.intro hd ff) ?_)
        | (refine GQ_nb (fun hd => ?_) (fun hd => ?_) <;> refine st_by (And.intro hd ff) ?_)
        | (refine GQ_bool (fun hd => ?_) (fun hd => ?_) <;> refine st_by (And.intro hd ff) ?_)
        | ((try clear ff); refine ⟨i + 1, ⟨?_, rfl, ?_⟩, ?_⟩; (· omega); (· first | (rw [← hsl]; rfl) | (simp only [← hsl, eProp]; rfl)); (· omega)))
      all_goals try clear ff
    · have e1 : l.take i ++ List.replicate (l.length - i) (⟨⟨#[]⟩, ⟨#[]⟩⟩ : GProp) = l := by rw [List.take_of_length_le (by omega)]; simp; omega
      rw [e1] at m3
      have ff := And.intro @g0 (And.intro @g3 (And.intro @g4 (And.intro @m3 (And.intro @Ty.sl34 (And.intro @Ty.slz34 (And.intro @Ty.sl24 (And.intro @Ty.slz24 (And.intro @Ty.nz63 (And.intro @Ty.ldA63 (And.intro @Ty.sz63 (And.intro @Ty.szn63 (And.intro @Ty.nz59 (And.intro @Ty.ldA59 (And.intro @Ty.sz59 (And.intro @Ty.szn59 (And.intro @Ty.nze24 (And.intro @Ty.zok24 (And.intro @Ty.by24 @Ty.zs24))))))))))))))))))
      try refine st_by ff ?_
      repeat' (first
        | exact trivial
        | (refine And.intro ?_ ?_; · (try clear ff; first | omega))
        | (refine ret_q1 rfl ?_; (try refine sr_by ff ?_); all_goals (try clear ff); all_goals (try exact trivial); all_goals (rfl))
        | (with_reducible refine CBC_eq (fun hp hd => ?_) (fun hp hd => ?_) <;> refine st_by (And.intro hd ff) ?_)
        | (with_reducible refine CBC_ne (fun hp hd => ?_) (fun hp hd => ?_) <;> refine st_by (And.intro hd ff) ?_)
        | (with_reducible refine CBC_decT ?_ (fun hd => ?_); (· try clear ff; first | assumption | omega); refine st_by (And.intro hd ff) ?_)
        | (with_reducible refine CBC_decF ?_ (fun hd => ?_); (· try clear ff; first | assumption | omega); refine st_by (And.intro hd ff) ?_)
        | (with_reducible refine CBC_dec (fun hp hd => ?_) (fun hp hd => ?_) <;> refine st_by (And.intro hd ff) ?_)
        | (refine CBC_bool (fun hd => ?_) (fun hd => ?_) <;> refine st_by (And.intro hd ff) ?_)
        | (with_reducible refine GQ_eq (fun hp hd => ?_) (fun hp hd => ?_) <;> refine st_by (And.intro hd ff) ?_)
        | (with_reducible refine GQ_ne (fun hp hd => ?_) (fun hp hd => ?_) <;> refine st_by (And.intro hd ff) ?_)
        | (with_reducible refine GQ_decT ?_ (fun hd => ?_); (· try clear ff; first | assumption | omega); refine st_by (And.intro hd ff) ?_)
        | (with_reducible refine GQ_decF ?_ (fun hd => ?_); (· try clear ff; first | assumption | omega); refine st_by (And.intro hd ff) ?_)
        | (with_reducible refine GQ_dec (fun hp hd => ?_) (fun hp hd => ?_) <;> refine st_by (And.intro hd ff) ?_)
        | (with_reducible refine GQ_ndT ?_ (fun hd => ?_); (· try clear ff; first | assumption | omega); refine st_by (And.intro hd ff) ?_)
        | (with_reducible refine GQ_ndF ?_ (fun hd => ?_); (· try clear ff; first | assumption | omega); refine st_by (And.intro hd ff) ?_)
        | (with_reducible refine GQ_nd (fun hp hd => ?_) (fun hp hd => ?_) <;> refine st_by (And.intro hd ff) ?_)
        | (refine GQ_nb (fun hd => ?_) (fun hd => ?_) <;> refine st_by (And.intro hd ff) ?_)
        | (refine GQ_bool (fun hd => ?_) (fun hd => ?_) <;> refine st_by (And.intro hd ff) ?_))
      all_goals try clear ff
theorem eqPropS_does (l k : List GProp) (hl : l.length ≤ 9223372036854775807) (hk : k.length ≤ 9223372036854775807) : Does Tryd.prog 10 [.row false 2 l.length (esProp l), .row false 2 k.length (esProp k)] (B (decide (l = k))) := by
  refine Does.walk (nt := 27) Tryd.func10 rfl rfl (by simp) (by decide) rfl (fun G0 X w0 pv => ?_)
  have ff := And.intro @Ty.sl24 (And.intro @Ty.slz24 (And.intro @Ty.nz59 (And.intro @Ty.ldA59 (And.intro @Ty.sz59 @Ty.szn59))))
  try refine st_by ff ?_
  repeat' (first
    | exact trivial
    | (refine And.intro ?_ ?_; · (try clear ff; first | omega))
    | (refine ret_q1 rfl ?_; (try refine sr_by ff ?_); all_goals (try clear ff); all_goals (try exact trivial); all_goals ((have : ¬ l = k := fun e => by subst e; omega); simp [this]))
    | (refine aw_drawn (id := 6) ?_ [[], [], [0, 1], [0, 1, 2], [], [], [4, 5], [4, 5, 6], [0, 1, 2, 3, 4, 5, 6, 7], [0, 1, 2, 3, 4, 5, 6, 7, 8]] 8 ?_ ?_; (· kernel_rfl); (· kernel_rfl); refine st_by ff ?_)
    | (with_reducible refine CBC_eq (fun hp hd => ?_) (fun hp hd => ?_) <;> refine st_by (And.intro hd ff) ?_)
    | (with_reducible refine CBC_ne (fun hp hd => ?_) (fun hp hd => ?_) <;> refine st_by (And.intro hd ff) ?_)
    | (with_reducible refine CBC_decT ?_ (fun hd => ?_); (· try clear ff; first | assumption | omega); refine st_by (And.intro hd ff) ?_)
    | (with_reducible refine CBC_decF ?_ (fun hd => ?_); (· try clear ff; first | assumption | omega); refine st_by (And.intro hd ff) ?_)
    | (with_reducible refine CBC_dec (fun hp hd => ?_) (fun hp hd => ?_) <;> refine st_by (And.intro hd ff) ?_)
    | (refine CBC_bool (fun hd => ?_) (fun hd => ?_) <;> refine st_by (And.intro hd ff) ?_)
    | (with_reducible refine GQ_eq (fun hp hd => ?_) (fun hp hd => ?_) <;> refine st_by (And.intro hd ff) ?_)
    | (with_reducible refine GQ_ne (fun hp hd => ?_) (fun hp hd => ?_) <;> refine st_by (And.intro hd ff) ?_)
    | (with_reducible refine GQ_decT ?_ (fun hd => ?_); (· try clear ff; first | assumption | omega); refine st_by (And.intro hd ff) ?_)
    | (with_reducible refine GQ_decF ?_ (fun hd => ?_); (· try clear ff; first | assumption | omega); refine st_by (And.intro hd ff) ?_)
    | (with_reducible refine GQ_dec (fun hp hd => ?_) (fun hp hd => ?_) <;> refine st_by (And.intro hd ff) ?_)
    | (with_reducible refine GQ_ndT ?_ (fun hd => ?_); (· try clear ff; first | assumption | omega); refine st_by (And.intro hd ff) ?_)
    | (with_reducible refine GQ_ndF ?_ (fun hd => ?_); (· try clear ff; first | assumption | omega); refine st_by (And.intro hd ff) ?_)
    | (with_reducible refine GQ_nd (fun hp hd => ?_) (fun hp hd => ?_) <;> refine st_by (And.intro hd ff) ?_)
    | (refine GQ_nb (fun hd => ?_) (fun hd => ?_) <;> refine st_by (And.intro hd ff) ?_)
    | (refine GQ_bool (fun hd => ?_) (fun hd => ?_) <;> refine st_by (And.intro hd ff) ?_)
    | (with_reducible refine GD_eq (fun hp hd => ?_) (fun hp hd => ?_) <;> refine st_by (And.intro hd ff) ?_)
    | (with_reducible refine GD_ne (fun hp hd => ?_) (fun hp hd => ?_) <;> refine st_by (And.intro hd ff) ?_)
    | (with_reducible refine GD_decT ?_ (fun hd => ?_); (· try clear ff; first | assumption | omega); refine st_by (And.intro hd ff) ?_)
    | (with_reducible refine GD_decF ?_ (fun hd => ?_); (· try clear ff; first | assumption | omega); refine st_by (And.intro hd ff) ?_)
    | (with_reducible refine GD_dec (fun hp hd => ?_) (fun hp hd => ?_) <;> refine st_by (And.intro hd ff) ?_)
    | (with_reducible refine GD_ndT ?_ (fun hd => ?_); (· try clear ff; first | assumption | omega); refine st_by (And.intro hd ff) ?_)
    | (with_reducible refine GD_ndF ?_ (fun hd => ?_); (· try clear ff; first | assumption | omega); refine st_by (And.intro hd ff) ?_)
    | (with_reducible refine GD_nd (fun hp hd => ?_) (fun hp hd => ?_) <;> refine st_by (And.intro hd ff) ?_)
    | (refine GD_nb (fun hd => ?_) (fun hd => ?_) <;> refine st_by (And.intro hd ff) ?_)
    | (refine GD_bool (fun hd => ?_) (fun hd => ?_) <;> refine st_by (And.intro hd ff) ?_))
  all_goals try clear ff
  have hlk : l.length = k.length := by omega
  refine aw_loop (ι := Nat) (fun i σ => (i ≤ l.length ∧ l.take i = k.take i) ∧ σ.t 0 = .row false 2 l.length (esProp l) ∧ σ.t 1 = .row false 2 k.length (esProp k) ∧ σ.t 5 = I i) (fun i => l.length - i) 0 ?_ ?_
  · (first | exact cl_by trivial | refine st_by trivial ?_)
    try simp
  · rintro i σ ⟨⟨h2, h3⟩, g0, g1, g5⟩
    by_cases hi : i < l.length
    · have hi' : i < k.length := by omega
      have w2 : IntKind.i64.wrap ((i : Int) + 1) = ((i + 1 : Nat) : Int) := wI _ (by omega) (by omega)
      have hne : ¬ l[i] = k[i] → ¬ l = k := fun h e => h (by subst e; rfl)
      have heq : l[i] = k[i] → l.take (i + 1) = k.take (i + 1) := fun h => by rw [List.take_succ_eq_append_getElem hi, List.take_succ_eq_append_getElem hi', h3, h]
      have ff := And.intro @g0 (And.intro @g1 (And.intro @g5 (And.intro @w2 (And.intro @hi (And.intro @hi' (And.intro ((esProp_drop l i hi)) (And.intro @esProp_len (And.intro @eProp_eq (And.intro ((esProp_drop k i hi')) (And.intro @str_beq (And.intro @Ty.sl24 (And.intro @Ty.slz24 (And.intro @Ty.nz59 (And.intro @Ty.ldA59 (And.intro @Ty.sz59 @Ty.szn59)))))))))))))))
      try refine st_by ff ?_
      repeat' (first
        | exact trivial
        | (refine And.intro ?_ ?_; · (try clear ff; first | omega | (rw [List.length_append]; simp [esProp_len]; omega) | (simp [eProp]; done) | decide | (simp [esProp_len]; omega) | rfl))
        | (refine ret_q1 rfl ?_; (try refine sr_by ff ?_); all_goals (try clear ff); all_goals (try exact trivial); all_goals (simp [hne (by simpa using hp)]))
        | (with_reducible refine cq_call (eqProp_does l[i] k[i]) ?_ ?_ ⟨?_, ?_⟩; (· first | rfl | exact cl_by ff); (· first | assumption | kernel_rfl); (· first | exact ca_by ff | (refine sa_by ff ?_; try clear ff; first | exact trivial | omega | (rw [List.length_append]; simp [esProp_len]; omega) | (simp [eProp]; done) | decide | (simp [esProp_len]; omega) | rfl)); refine st_by ff ?_)
        | (with_reducible refine cq_dcall (eqProp_does l[i] k[i]) ?_ ?_ ⟨?_, ?_⟩; (· first | rfl | exact cl_by ff); (· first | assumption | kernel_rfl); (· first | exact ca_by ff | (refine sa_by ff ?_; try clear ff; first | exact trivial | omega | (rw [List.length_append]; simp [esProp_len]; omega) | (simp [eProp]; done) | decide | (simp [esProp_len]; omega) | rfl)); refine st_by ff ?_)
        | (refine aw_drawn (id := 6) ?_ [[], [], [0, 1], [0, 1, 2], [], [], [4, 5], [4, 5, 6], [0, 1, 2, 3, 4, 5, 6, 7], [0, 1, 2, 3, 4, 5, 6, 7, 8]] 8 ?_ ?_; (· kernel_rfl); (· kernel_rfl); refine st_by ff ?_)
        | (with_reducible refine CBC_eq (fun hp hd => ?_) (fun hp hd => ?_) <;> refine st_by (And.intro hd ff) ?_)
        | (with_reducible refine CBC_ne (fun hp hd => ?_) (fun hp hd => ?_) <;> refine st_by (And.intro hd ff) ?_)
        | (with_reducible refine CBC_decT ?_ (fun hd => ?_); (· try clear ff; first | assumption | omega); refine st_by (And.intro hd ff) ?_)
        | (with_reducible refine CBC_decF ?_ (fun hd => ?_); (· try clear ff; first | assumption | omega); refine st_by (And.intro hd ff) ?_)
        | (with_reducible refine CBC_dec (fun hp hd => ?_) (fun hp hd => ?_) <;> refine st_by (And.intro hd ff) ?_)
        | (refine CBC_bool (fun hd => ?_) (fun hd => ?_) <;> refine st_by (And.intro hd ff) ?_)
        | (with_reducible refine GQ_eq (fun hp hd => ?_) (fun hp hd => ?_) <;> refine st_by (And.intro hd ff) ?_)
        | (with_reducible refine GQ_ne (fun hp hd => ?_) (fun hp hd => ?_) <;> refine st_by (And.intro hd ff) ?_)
        | (with_reducible refine GQ_decT ?_ (fun hd => ?_); (· try clear ff; first | assumption | omega); refine st_by (And.intro hd ff) ?_)
        | (with_reducible refine GQ_decF ?_ (fun hd => ?_); (· try clear ff; first | assumption | omega); refine st_by (And.intro hd ff) ?_)
        | (with_reducible refine GQ_dec (fun hp hd => ?_) (fun hp hd => ?_) <;> refine st_by (And.intro hd ff) ?_)
        | (with_reducible refine GQ_ndT ?_ (fun hd => ?_); (· try clear ff; first | assumption | omega); refine st_by (And.intro hd ff) ?_)
        | (with_reducible refine GQ_ndF ?_ (fun hd => ?_); (· try clear ff; first | assumption | omega); refine st_by (And.intro hd ff) ?_)
        | (with_reducible refine GQ_nd (fun hp hd => ?_) (fun hp hd => ?_) <;> refine st_by (And.intro hd ff) ?_)
        | (refine GQ_nb (fun hd => ?_) (fun hd => ?_) <;> refine st_by (And.intro hd ff) ?_)
        | (refine GQ_bool (fun hd => ?_) (fun hd => ?_) <;> refine st_by (And.intro hd ff) ?_)
        | (with_reducible refine GD_eq (fun hp hd => ?_) (fun hp hd => ?_) <;> refine st_by (And.intro hd ff) ?_)
        | (with_reducible refine GD_ne (fun hp hd => ?_) (fun hp hd => ?_) <;> refine st_by (And.intro hd ff) ?_)
        | (with_reducible refine GD_decT ?_ (fun hd => ?_); (· try clear ff; first | assumption | omega); refine st_by (And.intro hd ff) ?_)
        | (with_reducible refine GD_decF ?_ (fun hd => ?_); (· try clear ff; first | assumption | omega); refine st_by (And.intro hd ff) ?_)
        | (with_reducible refine GD_dec (fun hp hd => ?_) (fun hp hd => ?_) <;> refine st_by (And.intro hd ff) ?_)
        | (with_reducible refine GD_ndT ?_ (fun hd => ?_); (· try clear ff; first | assumption | omega); refine st_by (And.intro hd ff) ?_)
        | (with_reducible refine GD_ndF ?_ (fun hd => ?_); (· try clear ff; first | assumption | omega); refine st_by (And.intro hd ff) ?_)
        | (with_reducible refine GD_nd (fun hp hd => ?_) (fun hp hd => ?_) <;> refine st_by (And.intro hd ff) ?_)
        | (refine GD_nb (fun hd => ?_) (fun hd => ?_) <;> refine st_by (And.intro hd ff) ?_)
        | (refine GD_bool (fun hd => ?_) (fun hd => ?_) <;> refine st_by (And.intro hd ff) ?_)
        | ((try clear ff); refine ⟨i + 1, ⟨⟨?_, heq ?_⟩, rfl⟩, ?_⟩; (· omega); (· simpa using hp); (· omega)))
      all_goals try clear ff
    · have e1 : l = k := by rw [List.take_of_length_le (by omega), List.take_of_length_le (by omega)] at h3; exact h3
      have ff := And.intro @g0 (And.intro @g1 (And.intro @g5 (And.intro @Ty.sl24 (And.intro @Ty.slz24 (And.intro @Ty.nz59 (And.intro @Ty.ldA59 (And.intro @Ty.sz59 @Ty.szn59)))))))
      try refine st_by ff ?_
      repeat' (first
        | exact trivial
        | (refine And.intro ?_ ?_; · (try clear ff; first | omega))
        | (refine ret_q1 rfl ?_; (try refine sr_by ff ?_); all_goals (try clear ff); all_goals (try exact trivial); all_goals (simp [e1]))
        | (refine aw_drawn (id := 6) ?_ [[], [], [0, 1], [0, 1, 2], [], [], [4, 5], [4, 5, 6], [0, 1, 2, 3, 4, 5, 6, 7], [0, 1, 2, 3, 4, 5, 6, 7, 8]] 8 ?_ ?_; (· kernel_rfl); (· kernel_rfl); refine st_by ff ?_)
        | (with_reducible refine CBC_eq (fun hp hd => ?_) (fun hp hd => ?_) <;> refine st_by (And.intro hd ff) ?_)
        | (with_reducible refine CBC_ne (fun hp hd => ?_) (fun hp hd => ?_) <;> refine st_by (And.intro hd ff) ?_)
        | (with_reducible refine CBC_decT ?_ (fun hd => ?_); (· try clear ff; first | assumption | omega); refine st_by (And.intro hd ff) ?_)
        | (with_reducible refine CBC_decF ?_ (fun hd => ?_); (· try clear ff; first | assumption | omega); refine st_by (And.intro hd ff) ?_)
        | (with_reducible refine CBC_dec (fun hp hd => ?_) (fun hp hd => ?_) <;> refine st_by (And.intro hd ff) ?_)
        | (refine CBC_bool (fun hd => ?_) (fun hd => ?_) <;> refine st_by (And.intro hd ff) ?_)
        | (with_reducible refine GQ_eq (fun hp hd => ?_) (fun hp hd => ?_) <;> refine st_by (And.intro hd ff) ?_)
        | (with_reducible refine GQ_ne (fun hp hd => ?_) (fun hp hd => ?_) <;> refine st_by (And.intro hd ff) ?_)
        | (with_reducible refine GQ_decT ?_ (fun hd => ?_); (· try clear ff; first | assumption | omega); refine st_by (And.intro hd ff) ?_)
        | (with_reducible refine GQ_decF ?_ (fun hd => ?_); (· try clear ff; first | assumption | omega); refine st_by (And.intro hd ff) ?_)
        | (with_reducible refine GQ_dec (fun hp hd => ?_) (fun hp hd => ?_) <;> refine st_by (And.intro hd ff) ?_)
        | (with_reducible refine GQ_ndT ?_ (fun hd => ?_); (· try clear ff; first | assumption | omega); refine st_by (And.intro hd ff) ?_)
        | (with_reducible refine GQ_ndF ?_ (fun hd => ?_); (· try clear ff; first | assumption | omega); refine st_by (And.intro hd ff) ?_)
        | (with_reducible refine GQ_nd (fun hp hd => ?_) (fun hp hd => ?_) <;> refine st_by (And.intro hd ff) ?_)
        | (refine GQ_nb (fun hd => ?_) (fun hd => ?_) <;> refine st_by (And.intro hd ff) ?_)
        | (refine GQ_bool (fun hd => ?_) (fun hd => ?_) <;> refine st_by (And.intro hd ff) ?_)
        | (with_reducible refine GD_eq (fun hp hd => ?_) (fun hp hd => ?_) <;> refine st_by (And.intro hd ff) ?_)
        | (with_reducible refine GD_ne (fun hp hd => ?_) (fun hp hd => ?_) <;> refine st_by (And.intro hd ff) ?_)
        | (with_reducible refine GD_decT ?_ (fun hd => ?_); (· try clear ff; first | assumption | omega); refine st_by (And.intro hd ff) ?_)
        | (with_reducible refine GD_decF ?_ (fun hd => ?_); (· try clear ff; first | assumption | omega); refine st_by (And.intro hd ff) ?_)
        | (with_reducible refine GD_dec (fun hp hd => ?_) (fun hp hd => ?_) <;> refine st_by (And.intro hd ff) ?_)
        | (with_reducible refine GD_ndT ?_ (fun hd => ?_); (· try clear ff; first | assumption | omega); refine st_by (And.intro hd ff) ?_)
        | (with_reducible refine GD_ndF ?_ (fun hd => ?_); (· try clear ff; first | assumption | omega); refine st_by (And.intro hd ff) ?_)
        | (with_reducible refine GD_nd (fun hp hd => ?_) (fun hp hd => ?_) <;> refine st_by (And.intro hd ff) ?_)
        | (refine GD_nb (fun hd => ?_) (fun hd => ?_) <;> refine st_by (And.intro hd ff) ?_)
        | (refine GD_bool (fun hd => ?_) (fun hd => ?_) <;> refine st_by (And.intro hd ff) ?_))
      all_goals try clear ff
def mProp (x : GProp) (k : Int) : GProp := { x with Path := mtext (k), Value := mtext (k + 1) }
def cProp (x : GProp) : Nat := 2
theorem markPropS_does (l : List GProp) (k : Int) (h0 : 0 ≤ k) (hk : k + cntL cProp l ≤ 4611686018427387904) (hl : l.length ≤ 9223372036854775807) :
    DoesX Tryd.prog 13 [.sl 1000 [] 0 l.length, I k] [.row true 2 l.length (esProp l)] (I (k + cntL cProp l)) [.row true 2 l.length (esProp (markL mProp cProp l k))] := by
  refine DoesX.walk (nt := 29) Tryd.func13 rfl rfl (by simp) (by decide) rfl (fun G0 X w0 pv => ?_)
  have ff := And.intro @Ty.sl24 (And.intro @Ty.slz24 (And.intro @Ty.nz9 (And.intro @Ty.ldA9 (And.intro @Ty.ldS9 (And.intro @Ty.sz9 (And.intro @Ty.szn9 (And.intro @Ty.fo59_0 (And.intro @Ty.fk59_0 (And.intro @Ty.fs59_0 (And.intro @Ty.fn59_0 (And.intro @Ty.fo59_1 (And.intro @Ty.fk59_1 (And.intro @Ty.fs59_1 @Ty.fn59_1)))))))))))))
  try refine st_by ff ?_
  repeat' (first
    | exact trivial
    | (refine And.intro ?_ ?_; · (try clear ff; first | omega))
    | (refine ret_q1 rfl ?_; (try refine sr_by ff ?_); all_goals (try clear ff); all_goals (try exact trivial); all_goals (skip))
    | (with_reducible refine CBC_eq (fun hp hd => ?_) (fun hp hd => ?_) <;> refine st_by (And.intro hd ff) ?_)
    | (with_reducible refine CBC_ne (fun hp hd => ?_) (fun hp hd => ?_) <;> refine st_by (And.intro hd ff) ?_)
    | (with_reducible refine CBC_decT ?_ (fun hd => ?_); (· try clear ff; first | assumption | omega); refine st_by (And.intro hd ff) ?_)
    | (with_reducible refine CBC_decF ?_ (fun hd => ?_); (· try clear ff; first | assumption | omega); refine st_by (And.intro hd ff) ?_)
    | (with_reducible refine CBC_dec (fun hp hd => ?_) (fun hp hd => ?_) <;> refine st_by (And.intro hd ff) ?_)
    | (refine CBC_bool (fun hd => ?_) (fun hd => ?_) <;> refine st_by (And.intro hd ff) ?_)
    | (with_reducible refine GQ_eq (fun hp hd => ?_) (fun hp hd => ?_) <;> refine st_by (And.intro hd ff) ?_)
    | (with_reducible refine GQ_ne (fun hp hd => ?_) (fun hp hd => ?_) <;> refine st_by (And.intro hd ff) ?_)
    | (with_reducible refine GQ_decT ?_ (fun hd => ?_); (· try clear ff; first | assumption | omega); refine st_by (And.intro hd ff) ?_)
    | (with_reducible refine GQ_decF ?_ (fun hd => ?_); (· try clear ff; first | assumption | omega); refine st_by (And.intro hd ff) ?_)
    | (with_reducible refine GQ_dec (fun hp hd => ?_) (fun hp hd => ?_) <;> refine st_by (And.intro hd ff) ?_)
    | (with_reducible refine GQ_ndT ?_ (fun hd => ?_); (· try clear ff; first | assumption | omega); refine st_by (And.intro hd ff) ?_)
    | (with_reducible refine GQ_ndF ?_ (fun hd => ?_); (· try clear ff; first | assumption | omega); refine st_by (And.intro hd ff) ?_)
    | (with_reducible refine GQ_nd (fun hp hd => ?_) (fun hp hd => ?_) <;> refine st_by (And.intro hd ff) ?_)
    | (refine GQ_nb (fun hd => ?_) (fun hd => ?_) <;> refine st_by (And.intro hd ff) ?_)
    | (refine GQ_bool (fun hd => ?_) (fun hd => ?_) <;> refine st_by (And.intro hd ff) ?_))
  all_goals try clear ff
  refine aw_loop (ι := Nat) (fun i σ => (i ≤ l.length) ∧ σ.t 0 = .sl 1000 [] 0 l.length ∧ σ.t 1 = I (k + cntL cProp (l.take i)) ∧ σ.t 5 = I i ∧ σ.m 1000 = some (.row true 2 l.length (esProp (midL mProp cProp l k i)))) (fun i => l.length - i) 0 ?_ ?_
  · (first | exact cl_by trivial | refine st_by trivial ?_)
    simp [midL_zero, cntL]
  · rintro i σ ⟨h2, g0, g1, g5, m1⟩
    by_cases hi : i < l.length
    · have w2 : IntKind.i64.wrap ((i : Int) + 1) = ((i + 1 : Nat) : Int) := wI _ (by omega) (by omega)
      have hc := cntL_lt (c := cProp) l i hi
      have hc1 := cntL_take (c := cProp) l i hi
      have hmid := midL_set (f := mProp) (c := cProp) l k i hi
      have hmq : (midL mProp cProp l k i)[i]? = some l[i] := by rw [List.getElem?_eq_getElem (by rw [midL_len]; exact hi), midL_get l k i hi]
      have hmi : i < (midL mProp cProp l k i).length := by rw [midL_len]; exact hi
      have hmidl := midL_len (f := mProp) (c := cProp) l k i
      simp only [cProp] at hc hc1
      generalize midL mProp cProp l k i = L at m1 hmid hmq hmi hmidl
      have hms : ∀ a, i < (L.set i a).length := fun a => by rw [List.length_set]; exact hmi
      have hmg : L[i] = l[i] := by rw [List.getElem?_eq_getElem hmi] at hmq; simpa using hmq
      generalize hn : k + (cntL cProp (l.take i) : Int) = n at g1 hmid
      have wk0 : IntKind.i64.wrap (n + 1) = n + 1 := wE (by omega) (by omega) (by omega)
      have wk1 : IntKind.i64.wrap (n + 1 + 1) = n + 2 := wE (by omega) (by omega) (by omega)
      have ff := And.intro @g0 (And.intro @g1 (And.intro @g5 (And.intro @m1 (And.intro @w2 (And.intro @wk0 (And.intro @wk1 (And.intro @hi (And.intro @hmi (And.intro ((fun v => esProp_set_Path L i v hmi)) (And.intro ((fun a v => esProp_set_Path (L.set i a) i v (hms a))) (And.intro ((fun v => esProp_set_Value L i v hmi)) (And.intro ((fun a v => esProp_set_Value (L.set i a) i v (hms a))) (And.intro @esProp_len (And.intro @lset_len (And.intro @lget_set (And.intro @lset_set (And.intro @Ty.sl24 (And.intro @Ty.slz24 (And.intro @Ty.nz9 (And.intro @Ty.ldA9 (And.intro @Ty.ldS9 (And.intro @Ty.sz9 (And.intro @Ty.szn9 (And.intro @Ty.fo59_0 (And.intro @Ty.fk59_0 (And.intro @Ty.fs59_0 (And.intro @Ty.fn59_0 (And.intro @Ty.fo59_1 (And.intro @Ty.fk59_1 (And.intro @Ty.fs59_1 @Ty.fn59_1))))))))))))))))))))))))))))))
      try refine st_by ff ?_
      repeat' (first
        | exact trivial
        | (refine And.intro ?_ ?_; · (try clear ff; first | omega | (simp [esProp_len, hmidl]; omega) | decide))
        | (refine ret_q1 rfl ?_; (try refine sr_by ff ?_); all_goals (try clear ff); all_goals (try exact trivial); all_goals (skip))
        | (with_reducible refine cq_call (markText_does (n) (by omega)) ?_ ?_ ⟨?_, ?_⟩; (· first | rfl | exact cl_by ff); (· first | assumption | kernel_rfl); (· first | exact ca_by ff | (refine sa_by ff ?_; try clear ff; first | exact trivial | omega | (simp [esProp_len, hmidl]; omega) | decide)); refine st_by ff ?_)
        | (with_reducible refine cq_call (markText_does (n + 1) (by omega)) ?_ ?_ ⟨?_, ?_⟩; (· first | rfl | exact cl_by ff); (· first | assumption | kernel_rfl); (· first | exact ca_by ff | (refine sa_by ff ?_; try clear ff; first | exact trivial | omega | (simp [esProp_len, hmidl]; omega) | decide)); refine st_by ff ?_)
        | (with_reducible refine CBC_eq (fun hp hd => ?_) (fun hp hd => ?_) <;> refine st_by (And.intro hd ff) ?_)
        | (with_reducible refine CBC_ne (fun hp hd => ?_) (fun hp hd => ?_) <;> refine st_by (And.intro hd ff) ?_)
        | (with_reducible refine CBC_decT ?_ (fun hd => ?_); (· try clear ff; first | assumption | omega); refine st_by (And.intro hd ff) ?_)
        | (with_reducible refine CBC_decF ?_ (fun hd => ?_); (· try clear ff; first | assumption | omega); refine st_by (And.intro hd ff) ?_)
        | (with_reducible refine CBC_dec (fun hp hd => ?_) (fun hp hd => ?_) <;> refine st_by (And.intro hd ff) ?_)
        | (refine CBC_bool (fun hd => ?_) (fun hd => ?_) <;> refine st_by (And.intro hd ff) ?_)
        | (with_reducible refine GQ_eq (fun hp hd => ?_) (fun hp hd => ?_) <;> refine st_by (And.intro hd ff) ?_)
        | (with_reducible refine GQ_ne (fun hp hd => ?_) (fun hp hd => ?_) <;> refine st_by (And.intro hd ff) ?_)
        | (with_reducible refine GQ_decT ?_ (fun hd => ?_); (· try clear ff; first | assumption | omega); refine st_by (And.intro hd ff) ?_)
        | (with_reducible refine GQ_decF ?_ (fun hd => ?_); (· try clear ff; first | assumption | omega); refine st_by (And.intro hd ff) ?_)
        | (with_reducible refine GQ_dec (fun hp hd => ?_) (fun hp hd => ?_) <;> refine st_by (And.intro hd ff) ?_)
        | (with_reducible refine GQ_ndT ?_ (fun hd => ?_); (· try clear ff; first | assumption | omega); refine st_by (And.intro hd ff) ?_)
        | (with_reducible refine GQ_ndF ?_ (fun hd => ?_); (· try clear ff; first | assumption | omega); refine st_by (And.intro hd ff) ?_)
        | (with_reducible refine GQ_nd (fun hp hd => ?_) (fun hp hd => ?_) <;> refine st_by (And.intro hd ff) ?_)
        | (refine GQ_nb (fun hd => ?_) (fun hd => ?_) <;> refine st_by (And.intro hd ff) ?_)
        | (refine GQ_bool (fun hd => ?_) (fun hd => ?_) <;> refine st_by (And.intro hd ff) ?_)
        | ((try clear ff); refine ⟨i + 1, ⟨?_, ?_, ?_, ?_⟩, ?_⟩; (· omega); (· refine congrArg I ?_; omega); (· rfl); (· rw [← hmid]; simp only [mProp, hmg]); (· omega)))
      all_goals try clear ff
    · have e1 : midL mProp cProp l k i = markL mProp cProp l k := midL_all l k i (by omega)
      have e2 : l.take i = l := List.take_of_length_le (by omega)
      rw [e1] at m1
      rw [e2] at g1
      have ff := And.intro @g0 (And.intro @g1 (And.intro @g5 (And.intro @m1 (And.intro @Ty.sl24 (And.intro @Ty.slz24 (And.intro @Ty.nz9 (And.intro @Ty.ldA9 (And.intro @Ty.ldS9 (And.intro @Ty.sz9 (And.intro @Ty.szn9 (And.intro @Ty.fo59_0 (And.intro @Ty.fk59_0 (And.intro @Ty.fs59_0 (And.intro @Ty.fn59_0 (And.intro @Ty.fo59_1 (And.intro @Ty.fk59_1 (And.intro @Ty.fs59_1 @Ty.fn59_1)))))))))))))))))
      try refine st_by ff ?_
      repeat' (first
        | exact trivial
        | (refine And.intro ?_ ?_; · (try clear ff; first | omega))
        | (refine retX_q1 rfl ?_; (try refine sr_by ff ?_); all_goals (try clear ff); all_goals (try exact trivial); all_goals ((refine regsOk_one ?_; (first | exact cl_by @m1 | refine st_by @m1 ?_))))
        | (with_reducible refine CBC_eq (fun hp hd => ?_) (fun hp hd => ?_) <;> refine st_by (And.intro hd ff) ?_)
        | (with_reducible refine CBC_ne (fun hp hd => ?_) (fun hp hd => ?_) <;> refine st_by (And.intro hd ff) ?_)
        | (with_reducible refine CBC_decT ?_ (fun hd => ?_); (· try clear ff; first | assumption | omega); refine st_by (And.intro hd ff) ?_)
        | (with_reducible refine CBC_decF ?_ (fun hd => ?_); (· try clear ff; first | assumption | omega); refine st_by (And.intro hd ff) ?_)
        | (with_reducible refine CBC_dec (fun hp hd => ?_) (fun hp hd => ?_) <;> refine st_by (And.intro hd ff) ?_)
        | (refine CBC_bool (fun hd => ?_) (fun hd => ?_) <;> refine st_by (And.intro hd ff) ?_)
        | (with_reducible refine GQ_eq (fun hp hd => ?_) (fun hp hd => ?_) <;> refine st_by (And.intro hd ff) ?_)
        | (with_reducible refine GQ_ne (fun hp hd => ?_) (fun hp hd => ?_) <;> refine st_by (And.intro hd ff) ?_)
        | (with_reducible refine GQ_decT ?_ (fun hd => ?_); (· try clear ff; first | assumption | omega); refine st_by (And.intro hd ff) ?_)
        | (with_reducible refine GQ_decF ?_ (fun hd => ?_); (· try clear ff; first | assumption | omega); refine st_by (And.intro hd ff) ?_)
        | (with_reducible refine GQ_dec (fun hp hd => ?_) (fun hp hd => ?_) <;> refine st_by (And.intro hd ff) ?_)
        | (with_reducible refine GQ_ndT ?_ (fun hd => ?_); (· try clear ff; first | assumption | omega); refine st_by (And.intro hd ff) ?_)
        | (with_reducible refine GQ_ndF ?_ (fun hd => ?_); (· try clear ff; first | assumption | omega); refine st_by (And.intro hd ff) ?_)
        | (with_reducible refine GQ_nd (fun hp hd => ?_) (fun hp hd => ?_) <;> refine st_by (And.intro hd ff) ?_)
        | (refine GQ_nb (fun hd => ?_) (fun hd => ?_) <;> refine st_by (And.intro hd ff) ?_)
        | (refine GQ_bool (fun hd => ?_) (fun hd => ?_) <;> refine st_by (And.intro hd ff) ?_))
      all_goals try clear ff
theorem heldPropS_does (l : List GProp) (k : Int) (h0 : 0 ≤ k) (hk : k + cntL cProp l ≤ 4611686018427387904) (hl : l.length ≤ 9223372036854775807) (hm : markL mProp cProp l k = l) :
    Does Tryd.prog 14 [.row false 2 l.length (esProp l), I k] (I (k + cntL cProp l)) := by
  refine Does.walk (nt := 33) Tryd.func14 rfl rfl (by simp) (by decide) rfl (fun G0 X w0 pv => ?_)
  have ff := And.intro @Ty.sl24 (And.intro @Ty.slz24 (And.intro @Ty.nz9 (And.intro @Ty.ldA9 (And.intro @Ty.ldS9 (And.intro @Ty.sz9 (And.intro @Ty.szn9 (And.intro @Ty.fo59_0 (And.intro @Ty.fk59_0 (And.intro @Ty.fs59_0 (And.intro @Ty.fn59_0 (And.intro @Ty.fo59_1 (And.intro @Ty.fk59_1 (And.intro @Ty.fs59_1 @Ty.fn59_1)))))))))))))
  try refine st_by ff ?_
  repeat' (first
    | exact trivial
    | (refine And.intro ?_ ?_; · (try clear ff; first | omega))
    | (refine ret_q1 rfl ?_; (try refine sr_by ff ?_); all_goals (try clear ff); all_goals (try exact trivial); all_goals (skip))
    | (refine aw_drawn (id := 4) ?_ [[], [], [0, 1], [0, 1, 2], [0, 1, 2, 3], [], [5], [0, 1, 2, 3, 4, 5, 6]] 7 ?_ ?_; (· kernel_rfl); (· kernel_rfl); refine st_by ff ?_)
    | (refine aw_drawn (id := 7) ?_ [[], [], [0, 1], [0, 1, 2], [0, 1, 2, 3], [], [5], [0, 1, 2, 3, 4, 5, 6]] 7 ?_ ?_; (· kernel_rfl); (· kernel_rfl); refine st_by ff ?_)
    | (with_reducible refine CBC_eq (fun hp hd => ?_) (fun hp hd => ?_) <;> refine st_by (And.intro hd ff) ?_)
    | (with_reducible refine CBC_ne (fun hp hd => ?_) (fun hp hd => ?_) <;> refine st_by (And.intro hd ff) ?_)
    | (with_reducible refine CBC_decT ?_ (fun hd => ?_); (· try clear ff; first | assumption | omega); refine st_by (And.intro hd ff) ?_)
    | (with_reducible refine CBC_decF ?_ (fun hd => ?_); (· try clear ff; first | assumption | omega); refine st_by (And.intro hd ff) ?_)
    | (with_reducible refine CBC_dec (fun hp hd => ?_) (fun hp hd => ?_) <;> refine st_by (And.intro hd ff) ?_)
    | (refine CBC_bool (fun hd => ?_) (fun hd => ?_) <;> refine st_by (And.intro hd ff) ?_)
    | (with_reducible refine GQ_eq (fun hp hd => ?_) (fun hp hd => ?_) <;> refine st_by (And.intro hd ff) ?_)
    | (with_reducible refine GQ_ne (fun hp hd => ?_) (fun hp hd => ?_) <;> refine st_by (And.intro hd ff) ?_)
    | (with_reducible refine GQ_decT ?_ (fun hd => ?_); (· try clear ff; first | assumption | omega); refine st_by (And.intro hd ff) ?_)
    | (with_reducible refine GQ_decF ?_ (fun hd => ?_); (· try clear ff; first | assumption | omega); refine st_by (And.intro hd ff) ?_)
    | (with_reducible refine GQ_dec (fun hp hd => ?_) (fun hp hd => ?_) <;> refine st_by (And.intro hd ff) ?_)
    | (with_reducible refine GQ_ndT ?_ (fun hd => ?_); (· try clear ff; first | assumption | omega); refine st_by (And.intro hd ff) ?_)
    | (with_reducible refine GQ_ndF ?_ (fun hd => ?_); (· try clear ff; first | assumption | omega); refine st_by (And.intro hd ff) ?_)
    | (with_reducible refine GQ_nd (fun hp hd => ?_) (fun hp hd => ?_) <;> refine st_by (And.intro hd ff) ?_)
    | (refine GQ_nb (fun hd => ?_) (fun hd => ?_) <;> refine st_by (And.intro hd ff) ?_)
    | (refine GQ_bool (fun hd => ?_) (fun hd => ?_) <;> refine st_by (And.intro hd ff) ?_)
    | (with_reducible refine GD_eq (fun hp hd => ?_) (fun hp hd => ?_) <;> refine st_by (And.intro hd ff) ?_)
    | (with_reducible refine GD_ne (fun hp hd => ?_) (fun hp hd => ?_) <;> refine st_by (And.intro hd ff) ?_)
    | (with_reducible refine GD_decT ?_ (fun hd => ?_); (· try clear ff; first | assumption | omega); refine st_by (And.intro hd ff) ?_)
    | (with_reducible refine GD_decF ?_ (fun hd => ?_); (· try clear ff; first | assumption | omega); refine st_by (And.intro hd ff) ?_)
    | (with_reducible refine GD_dec (fun hp hd => ?_) (fun hp hd => ?_) <;> refine st_by (And.intro hd ff) ?_)
    | (with_reducible refine GD_ndT ?_ (fun hd => ?_); (· try clear ff; first | assumption | omega); refine st_by (And.intro hd ff) ?_)
    | (with_reducible refine GD_ndF ?_ (fun hd => ?_); (· try clear ff; first | assumption | omega); refine st_by (And.intro hd ff) ?_)
    | (with_reducible refine GD_nd (fun hp hd => ?_) (fun hp hd => ?_) <;> refine st_by (And.intro hd ff) ?_)
    | (refine GD_nb (fun hd => ?_) (fun hd => ?_) <;> refine st_by (And.intro hd ff) ?_)
    | (refine GD_bool (fun hd => ?_) (fun hd => ?_) <;> refine st_by (And.intro hd ff) ?_))
  all_goals try clear ff
  refine aw_loop (ι := Nat) (fun i σ => (i ≤ l.length) ∧ σ.t 0 = .row false 2 l.length (esProp l) ∧ σ.t 1 = I (k + cntL cProp (l.take i)) ∧ σ.t 5 = I i) (fun i => l.length - i) 0 ?_ ?_
  · (first | exact cl_by trivial | refine st_by trivial ?_)
    simp [cntL]
  · rintro i σ ⟨h2, g0, g1, g5⟩
    by_cases hi : i < l.length
    · have w2 : IntKind.i64.wrap ((i : Int) + 1) = ((i + 1 : Nat) : Int) := wI _ (by omega) (by omega)
      have hc := cntL_lt (c := cProp) l i hi
      have hc1 := cntL_take (c := cProp) l i hi
      have hs := markL_self hm i hi
      simp only [cProp] at hc hc1
      generalize hn : k + (cntL cProp (l.take i) : Int) = n at g1 hs
      have f0 : l[i].Path = mtext (n) := by rw [hs]; rfl
      have f1 : l[i].Value = mtext (n + 1) := by rw [hs]; rfl
      clear hs
      have wk0 : IntKind.i64.wrap (n + 1) = n + 1 := wE (by omega) (by omega) (by omega)
      have wk1 : IntKind.i64.wrap (n + 1 + 1) = n + 2 := wE (by omega) (by omega) (by omega)
      have ff := And.intro @g0 (And.intro @g1 (And.intro @g5 (And.intro @w2 (And.intro @wk0 (And.intro @wk1 (And.intro @hi (And.intro @f0 (And.intro @f1 (And.intro ((esProp_drop l i hi)) (And.intro @esProp_len (And.intro @eProp_eq (And.intro @Ty.sl24 (And.intro @Ty.slz24 (And.intro @Ty.nz9 (And.intro @Ty.ldA9 (And.intro @Ty.ldS9 (And.intro @Ty.sz9 (And.intro @Ty.szn9 (And.intro @Ty.fo59_0 (And.intro @Ty.fk59_0 (And.intro @Ty.fs59_0 (And.intro @Ty.fn59_0 (And.intro @Ty.fo59_1 (And.intro @Ty.fk59_1 (And.intro @Ty.fs59_1 @Ty.fn59_1)))))))))))))))))))))))))
      try refine st_by ff ?_
      repeat' (first
        | exact trivial
        | (refine And.intro ?_ ?_; · (try clear ff; first | omega | (rw [List.length_append]; simp [esProp_len]; omega) | (simp [eProp]; done) | decide | (simp [esProp_len]; omega)))
        | (refine ret_q1 rfl ?_; (try refine sr_by ff ?_); all_goals (try clear ff); all_goals (try exact trivial); all_goals (skip))
        | (with_reducible refine cq_call (markText_does (n) (by omega)) ?_ ?_ ⟨?_, ?_⟩; (· first | rfl | exact cl_by ff); (· first | assumption | kernel_rfl); (· first | exact ca_by ff | (refine sa_by ff ?_; try clear ff; first | exact trivial | omega | (rw [List.length_append]; simp [esProp_len]; omega) | (simp [eProp]; done) | decide | (simp [esProp_len]; omega))); refine st_by ff ?_)
        | (with_reducible refine cq_dcall (markText_does (n) (by omega)) ?_ ?_ ⟨?_, ?_⟩; (· first | rfl | exact cl_by ff); (· first | assumption | kernel_rfl); (· first | exact ca_by ff | (refine sa_by ff ?_; try clear ff; first | exact trivial | omega | (rw [List.length_append]; simp [esProp_len]; omega) | (simp [eProp]; done) | decide | (simp [esProp_len]; omega))); refine st_by ff ?_)
        | (with_reducible refine cq_call (markText_does (n + 1) (by omega)) ?_ ?_ ⟨?_, ?_⟩; (· first | rfl | exact cl_by ff); (· first | assumption | kernel_rfl); (· first | exact ca_by ff | (refine sa_by ff ?_; try clear ff; first | exact trivial | omega | (rw [List.length_append]; simp [esProp_len]; omega) | (simp [eProp]; done) | decide | (simp [esProp_len]; omega))); refine st_by ff ?_)
        | (with_reducible refine cq_dcall (markText_does (n + 1) (by omega)) ?_ ?_ ⟨?_, ?_⟩; (· first | rfl | exact cl_by ff); (· first | assumption | kernel_rfl); (· first | exact ca_by ff | (refine sa_by ff ?_; try clear ff; first | exact trivial | omega | (rw [List.length_append]; simp [esProp_len]; omega) | (simp [eProp]; done) | decide | (simp [esProp_len]; omega))); refine st_by ff ?_)
        | (refine aw_drawn (id := 4) ?_ [[], [], [0, 1], [0, 1, 2], [0, 1, 2, 3], [], [5], [0, 1, 2, 3, 4, 5, 6]] 7 ?_ ?_; (· kernel_rfl); (· kernel_rfl); refine st_by ff ?_)
        | (refine aw_drawn (id := 7) ?_ [[], [], [0, 1], [0, 1, 2], [0, 1, 2, 3], [], [5], [0, 1, 2, 3, 4, 5, 6]] 7 ?_ ?_; (· kernel_rfl); (· kernel_rfl); refine st_by ff ?_)
        | (with_reducible refine CBC_eq (fun hp hd => ?_) (fun hp hd => ?_) <;> refine st_by (And.intro hd ff) ?_)
        | (with_reducible refine CBC_ne (fun hp hd => ?_) (fun hp hd => ?_) <;> refine st_by (And.intro hd ff) ?_)
        | (with_reducible refine CBC_decT ?_ (fun hd => ?_); (· try clear ff; first | assumption | omega); refine st_by (And.intro hd ff) ?_)
        | (with_reducible refine CBC_decF ?_ (fun hd => ?_); (· try clear ff; first | assumption | omega); refine st_by (And.intro hd ff) ?_)
        | (with_reducible refine CBC_dec (fun hp hd => ?_) (fun hp hd => ?_) <;> refine st_by (And.intro hd ff) ?_)
        | (refine CBC_bool (fun hd => ?_) (fun hd => ?_) <;> refine st_by (And.intro hd ff) ?_)
        | (with_reducible refine GQ_eq (fun hp hd => ?_) (fun hp hd => ?_) <;> refine st_by (And.intro hd ff) ?_)
        | (with_reducible refine GQ_ne (fun hp hd => ?_) (fun hp hd => ?_) <;> refine st_by (And.intro hd ff) ?_)
        | (with_reducible refine GQ_decT ?_ (fun hd => ?_); (· try clear ff; first | assumption | omega); refine st_by (And.intro hd ff) ?_)
        | (with_reducible refine GQ_decF ?_ (fun hd => ?_); (· try clear ff; first | assumption | omega); refine st_by (And.intro hd ff) ?_)
        | (with_reducible refine GQ_dec (fun hp hd => ?_) (fun hp hd => ?_) <;> refine st_by (And.intro hd ff) ?_)
        | (with_reducible refine GQ_ndT ?_ (fun hd => ?_); (· try clear ff; first | assumption | omega); refine st_by (And.intro hd ff) ?_)
        | (with_reducible refine GQ_ndF ?_ (fun hd => ?_); (· try clear ff; first | assumption | omega); refine st_by (And.intro hd ff) ?_)
        | (with_reducible refine GQ_nd (fun hp hd => ?_) (fun hp hd => ?_) <;> refine st_by (And.intro hd ff) ?_)
        | (refine GQ_nb (fun hd => ?_) (fun hd => ?_) <;> refine st_by (And.intro hd ff) ?_)
        | (refine GQ_bool (fun hd => ?_) (fun hd => ?_) <;> refine st_by (And.intro hd ff) ?_)
        | (with_reducible refine GD_eq (fun hp hd => ?_) (fun hp hd => ?_) <;> refine st_by (And.intro hd ff) ?_)
        | (with_reducible refine GD_ne (fun hp hd => ?_) (fun hp hd => ?_) <;> refine st_by (And.intro hd ff) ?_)
        | (with_reducible refine GD_decT ?_ (fun hd => ?_); (· try clear ff; first | assumption | omega); refine st_by (And.intro hd ff) ?_)
        | (with_reducible refine GD_decF ?_ (fun hd => ?_); (· try clear ff; first | assumption | omega); refine st_by (And.intro hd ff) ?_)
        | (with_reducible refine GD_dec (fun hp hd => ?_) (fun hp hd => ?_) <;> refine st_by (And.intro hd ff) ?_)
        | (with_reducible refine GD_ndT ?_ (fun hd => ?_); (· try clear ff; first | assumption | omega); refine st_by (And.intro hd ff) ?_)
        | (with_reducible refine GD_ndF ?_ (fun hd => ?_); (· try clear ff; first | assumption | omega); refine st_by (And.intro hd ff) ?_)
        | (with_reducible refine GD_nd (fun hp hd => ?_) (fun hp hd => ?_) <;> refine st_by (And.intro hd ff) ?_)
        | (refine GD_nb (fun hd => ?_) (fun hd => ?_) <;> refine st_by (And.intro hd ff) ?_)
        | (refine GD_bool (fun hd => ?_) (fun hd => ?_) <;> refine st_by (And.intro hd ff) ?_)
        | ((try clear ff); refine ⟨i + 1, ⟨?_, ?_, ?_⟩, ?_⟩; (· omega); (· refine congrArg I ?_; omega); (· rfl); (· omega)))
      all_goals try clear ff
    · have e2 : l.take i = l := List.take_of_length_le (by omega)
      rw [e2] at g1
      have ff := And.intro @g0 (And.intro @g1 (And.intro @g5 (And.intro @Ty.sl24 (And.intro @Ty.slz24 (And.intro @Ty.nz9 (And.intro @Ty.ldA9 (And.intro @Ty.ldS9 (And.intro @Ty.sz9 (And.intro @Ty.szn9 (And.intro @Ty.fo59_0 (And.intro @Ty.fk59_0 (And.intro @Ty.fs59_0 (And.intro @Ty.fn59_0 (And.intro @Ty.fo59_1 (And.intro @Ty.fk59_1 (And.intro @Ty.fs59_1 @Ty.fn59_1))))))))))))))))
      try refine st_by ff ?_
      repeat' (first
        | exact trivial
        | (refine And.intro ?_ ?_; · (try clear ff; first | omega))
        | (refine ret_q1 rfl ?_; (try refine sr_by ff ?_); all_goals (try clear ff); all_goals (try exact trivial); all_goals (rfl))
        | (refine aw_drawn (id := 4) ?_ [[], [], [0, 1], [0, 1, 2], [0, 1, 2, 3], [], [5], [0, 1, 2, 3, 4, 5, 6]] 7 ?_ ?_; (· kernel_rfl); (· kernel_rfl); refine st_by ff ?_)
        | (refine aw_drawn (id := 7) ?_ [[], [], [0, 1], [0, 1, 2], [0, 1, 2, 3], [], [5], [0, 1, 2, 3, 4, 5, 6]] 7 ?_ ?_; (· kernel_rfl); (· kernel_rfl); refine st_by ff ?_)
        | (with_reducible refine CBC_eq (fun hp hd => ?_) (fun hp hd => ?_) <;> refine st_by (And.intro hd ff) ?_)
        | (with_reducible refine CBC_ne (fun hp hd => ?_) (fun hp hd => ?_) <;> refine st_by (And.intro hd ff) ?_)
        | (with_reducible refine CBC_decT ?_ (fun hd => ?_); (· try clear ff; first | assumption | omega); refine st_by (And.intro hd ff) ?_)
        | (with_reducible refine CBC_decF ?_ (fun hd => ?_); (· try clear ff; first | assumption | omega); refine st_by (And.intro hd ff) ?_)
        | (with_reducible refine CBC_dec (fun hp hd => ?_) (fun hp hd => ?_) <;> refine st_by (And.intro hd ff) ?_)
        | (refine CBC_bool (fun hd => ?_) (fun hd => ?_) <;> refine st_by (And.intro hd ff) ?_)
        | (with_reducible refine GQ_eq (fun hp hd => ?_) (fun hp hd => ?_) <;> refine st_by (And.intro hd ff) ?_)
        | (with_reducible refine GQ_ne (fun hp hd => ?_) (fun hp hd => ?_) <;> refine st_by (And.intro hd ff) ?_)
        | (with_reducible refine GQ_decT ?_ (fun hd => ?_); (· try clear ff; first | assumption | omega); refine st_by (And.intro hd ff) ?_)
        | (with_reducible refine GQ_decF ?_ (fun hd => ?_); (· try clear ff; first | assumption | omega); refine st_by (And.intro hd ff) ?_)
        | (with_reducible refine GQ_dec (fun hp hd => ?_) (fun hp hd => ?_) <;> refine st_by (And.intro hd ff) ?_)
        | (with_reducible refine GQ_ndT ?_ (fun hd => ?_); (· try clear ff; first | assumption | omega); refine st_by (And.intro hd ff) ?_)
        | (with_reducible refine GQ_ndF ?_ (fun hd => ?_); (· try clear ff; first | assumption | omega); refine st_by (And.intro hd ff) ?_)
        | (with_reducible refine GQ_nd (fun hp hd => ?_) (fun hp hd => ?_) <;> refine st_by (And.intro hd ff) ?_)
        | (refine GQ_nb (fun hd => ?_) (fun hd => ?_) <;> refine st_by (And.intro hd ff) ?_)
        | (refine GQ_bool (fun hd => ?_) (fun hd => ?_) <;> refine st_by (And.intro hd ff) ?_)
        | (with_reducible refine GD_eq (fun hp hd => ?_) (fun hp hd => ?_) <;> refine st_by (And.intro hd ff) ?_)
        | (with_reducible refine GD_ne (fun hp hd => ?_) (fun hp hd => ?_) <;> refine st_by (And.intro hd ff) ?_)
        | (with_reducible refine GD_decT ?_ (fun hd => ?_); (· try clear ff; first | assumption | omega); refine st_by (And.intro hd ff) ?_)
        | (with_reducible refine GD_decF ?_ (fun hd => ?_); (· try clear ff; first | assumption | omega); refine st_by (And.intro hd ff) ?_)
        | (with_reducible refine GD_dec (fun hp hd => ?_) (fun hp hd => ?_) <;> refine st_by (And.intro hd ff) ?_)
        | (with_reducible refine GD_ndT ?_ (fun hd => ?_); (· try clear ff; first | assumption | omega); refine st_by (And.intro hd ff) ?_)
        | (with_reducible refine GD_ndF ?_ (fun hd => ?_); (· try clear ff; first | assumption | omega); refine st_by (And.intro hd ff) ?_)
        | (with_reducible refine GD_nd (fun hp hd => ?_) (fun hp hd => ?_) <;> refine st_by (And.intro hd ff) ?_)
        | (refine GD_nb (fun hd => ?_) (fun hd => ?_) <;> refine st_by (And.intro hd ff) ?_)
        | (refine GD_bool (fun hd => ?_) (fun hd => ?_) <;> refine st_by (And.intro hd ff) ?_))
      all_goals try clear ff
end Go.Av
end
section
set_option linter.unusedSimpArgs false
set_option linter.unusedVariables false
set_option maxRecDepth 100000
set_option maxHeartbeats 1000000
namespace Go.Av
open Go.Proofs
/-! Prefab -/
def wfPrefab (n : Nat) (x : GPrefab) : Prop := x.Name.size ≤ n ∧ x.From.size ≤ n ∧ x.Props.length ≤ n ∧ (∀ y ∈ x.Props, wfProp n y)
def szPrefab (x : GPrefab) (left : Int) : Int := szStep (left - x.Name.size) fun left => szStep (left - x.From.size) fun left => szStep ((szRow szProp) x.Props left) fun left => left
theorem szPrefab_ok : szOk szPrefab := fun x left h => szStep_le h (by omega) (fun left h => szStep_le h (by omega) (fun left h => szStep_le h ((szRow_ok szProp_ok) x.Props left h) (fun left h => Int.le_refl _)))
theorem szPrefab_does (x : GPrefab) (left : Int) (h0 : 0 ≤ left) (h1 : left ≤ 1048576) (hx : wfPrefab 9223372036854775807 x) : Does Tryd.prog 24 [.agg (ePrefab x), I left] (I (szPrefab x left)) := by
  unfold wfPrefab at hx
  refine Does.walk (nt := 26) Tryd.func24 rfl rfl (by simp) (by decide) rfl (fun G0 X w0 pv => ?_)
  unfold szPrefab
  have hv0 : (left - (x.Name.size : Int) : Int) ≤ left := by omega
  have w0 : IntKind.i64.wrap (left - (x.Name.size : Int)) = left - (x.Name.size : Int) := wI _ (by omega) (by omega)
  have ff := And.intro @ePrefab_eq (And.intro @w0 (And.intro @Ty.nz9 (And.intro @Ty.ldA9 (And.intro @Ty.ldS9 (And.intro @Ty.sz9 (And.intro @Ty.szn9 (And.intro @Ty.nz34 (And.intro @Ty.ldA34 (And.intro @Ty.ldS34 (And.intro @Ty.sz34 (And.intro @Ty.szn34 (And.intro @Ty.fo49_0 (And.intro @Ty.fk49_0 (And.intro @Ty.fs49_0 (And.intro @Ty.fn49_0 (And.intro @Ty.fo49_1 (And.intro @Ty.fk49_1 (And.intro @Ty.fs49_1 (And.intro @Ty.fn49_1 (And.intro @Ty.fo49_2 (And.intro @Ty.fk49_2 (And.intro @Ty.fs49_2 (And.intro @Ty.fn49_2 @Ty.str9)))))))))))))))))))))))
  try refine st_by ff ?_
  repeat' (first
    | exact trivial
    | (refine And.intro ?_ ?_; · (try clear ff; first | omega))
    | (refine ret_q1 rfl ?_; (try refine sr_by ff ?_); all_goals (try clear ff); all_goals (try exact trivial); all_goals ((rw [szStep_neg (by assumption)])))
    | (with_reducible refine CBC_eq (fun hp hd => ?_) (fun hp hd => ?_) <;> refine st_by (And.intro hd ff) ?_)
    | (with_reducible refine CBC_ne (fun hp hd => ?_) (fun hp hd => ?_) <;> refine st_by (And.intro hd ff) ?_)
    | (with_reducible refine CBC_decT ?_ (fun hd => ?_); (· try clear ff; first | assumption | omega); refine st_by (And.intro hd ff) ?_)
    | (with_reducible refine CBC_decF ?_ (fun hd => ?_); (· try clear ff; first | assumption | omega); refine st_by (And.intro hd ff) ?_)
    | (with_reducible refine CBC_dec (p := left - (x.Name.size : Int) < 0) (fun hp hd => ?_) (fun hp hd => ?_) <;> refine st_by (And.intro hd ff) ?_)
    | (with_reducible refine GQ_eq (fun hp hd => ?_) (fun hp hd => ?_) <;> refine st_by (And.intro hd ff) ?_)
    | (with_reducible refine GQ_ne (fun hp hd => ?_) (fun hp hd => ?_) <;> refine st_by (And.intro hd ff) ?_)
    | (with_reducible refine GQ_decT ?_ (fun hd => ?_); (· try clear ff; first | assumption | omega); refine st_by (And.intro hd ff) ?_)
    | (with_reducible refine GQ_decF ?_ (fun hd => ?_); (· try clear ff; first | assumption | omega); refine st_by (And.intro hd ff) ?_)
    | (with_reducible refine GQ_dec (p := left - (x.Name.size : Int) < 0) (fun hp hd => ?_) (fun hp hd => ?_) <;> refine st_by (And.intro hd ff) ?_)
    | (with_reducible refine GQ_ndT ?_ (fun hd => ?_); (· try clear ff; first | assumption | omega); refine st_by (And.intro hd ff) ?_)
    | (with_reducible refine GQ_ndF ?_ (fun hd => ?_); (· try clear ff; first | assumption | omega); refine st_by (And.intro hd ff) ?_)
    | (with_reducible refine GQ_nd (fun hp hd => ?_) (fun hp hd => ?_) <;> refine st_by (And.intro hd ff) ?_))
  all_goals try clear ff
  rw [szStep_pos (by assumption)]
  generalize hg0 : (left - (x.Name.size : Int) : Int) = v0 at *
  have hv1 : (v0 - (x.From.size : Int) : Int) ≤ v0 := by omega
  have w1 : IntKind.i64.wrap (v0 - (x.From.size : Int)) = v0 - (x.From.size : Int) := wI _ (by omega) (by omega)
  have ff := And.intro @ePrefab_eq (And.intro @w1 (And.intro @Ty.nz9 (And.intro @Ty.ldA9 (And.intro @Ty.ldS9 (And.intro @Ty.sz9 (And.intro @Ty.szn9 (And.intro @Ty.nz34 (And.intro @Ty.ldA34 (And.intro @Ty.ldS34 (And.intro @Ty.sz34 (And.intro @Ty.szn34 (And.intro @Ty.fo49_0 (And.intro @Ty.fk49_0 (And.intro @Ty.fs49_0 (And.intro @Ty.fn49_0 (And.intro @Ty.fo49_1 (And.intro @Ty.fk49_1 (And.intro @Ty.fs49_1 (And.intro @Ty.fn49_1 (And.intro @Ty.fo49_2 (And.intro @Ty.fk49_2 (And.intro @Ty.fs49_2 (And.intro @Ty.fn49_2 @Ty.str9)))))))))))))))))))))))
  try refine st_by ff ?_
  repeat' (first
    | exact trivial
    | (refine And.intro ?_ ?_; · (try clear ff; first | omega))
    | (refine ret_q1 rfl ?_; (try refine sr_by ff ?_); all_goals (try clear ff); all_goals (try exact trivial); all_goals ((rw [szStep_neg (by assumption)])))
    | (with_reducible refine CBC_eq (fun hp hd => ?_) (fun hp hd => ?_) <;> refine st_by (And.intro hd ff) ?_)
    | (with_reducible refine CBC_ne (fun hp hd => ?_) (fun hp hd => ?_) <;> refine st_by (And.intro hd ff) ?_)
    | (with_reducible refine CBC_decT ?_ (fun hd => ?_); (· try clear ff; first | assumption | omega); refine st_by (And.intro hd ff) ?_)
    | (with_reducible refine CBC_decF ?_ (fun hd => ?_); (· try clear ff; first | assumption | omega); refine st_by (And.intro hd ff) ?_)
    | (with_reducible refine CBC_dec (fun hp hd => ?_) (fun hp hd => ?_) <;> refine st_by (And.intro hd ff) ?_)
    | (refine CBC_bool (fun hd => ?_) (fun hd => ?_) <;> refine st_by (And.intro hd ff) ?_)
    | (with_reducible refine GQ_eq (fun hp hd => ?_) (fun hp hd => ?_) <;> refine st_by (And.intro hd ff) ?_)
    | (with_reducible refine GQ_ne (fun hp hd => ?_) (fun hp hd => ?_) <;> refine st_by (And.intro hd ff) ?_)
    | (with_reducible refine GQ_decT ?_ (fun hd => ?_); (· try clear ff; first | assumption | omega); refine st_by (And.intro hd ff) ?_)
    | (with_reducible refine GQ_decF ?_ (fun hd => ?_); (· try clear ff; first | assumption | omega); refine st_by (And.intro hd ff) ?_)
    | (with_reducible refine GQ_dec (fun hp hd => ?_) (fun hp hd => ?_) <;> refine st_by (And.intro hd ff) ?_)
    | (with_reducible refine GQ_ndT ?_ (fun hd => ?_); (· try clear ff; first | assumption | omega); refine st_by (And.intro hd ff) ?_)
    | (with_reducible refine GQ_ndF ?_ (fun hd => ?_); (· try clear ff; first | assumption | omega); refine st_by (And.intro hd ff) ?_)
    | (with_reducible refine GQ_nd (fun hp hd => ?_) (fun hp hd => ?_) <;> refine st_by (And.intro hd ff) ?_)
    | (refine GQ_nb (fun hd => ?_) (fun hd => ?_) <;> refine st_by (And.intro hd ff) ?_)
    | (refine GQ_bool (fun hd => ?_) (fun hd => ?_) <;> refine st_by (And.intro hd ff) ?_))
  all_goals try clear ff
  rw [szStep_pos (by assumption)]
  generalize hg1 : (v0 - (x.From.size : Int) : Int) = v1 at *
  have hv2 : ((szRow szProp) x.Props v1 : Int) ≤ v1 := (szRow_ok szProp_ok) x.Props _ (by omega)
  have ff := And.intro @ePrefab_eq (And.intro @Ty.nz9 (And.intro @Ty.ldA9 (And.intro @Ty.ldS9 (And.intro @Ty.sz9 (And.intro @Ty.szn9 (And.intro @Ty.nz34 (And.intro @Ty.ldA34 (And.intro @Ty.ldS34 (And.intro @Ty.sz34 (And.intro @Ty.szn34 (And.intro @Ty.fo49_0 (And.intro @Ty.fk49_0 (And.intro @Ty.fs49_0 (And.intro @Ty.fn49_0 (And.intro @Ty.fo49_1 (And.intro @Ty.fk49_1 (And.intro @Ty.fs49_1 (And.intro @Ty.fn49_1 (And.intro @Ty.fo49_2 (And.intro @Ty.fk49_2 (And.intro @Ty.fs49_2 (And.intro @Ty.fn49_2 @Ty.str9))))))))))))))))))))))
  try refine st_by ff ?_
  repeat' (first
    | exact trivial
    | (refine And.intro ?_ ?_; · (try clear ff; first | omega))
    | (refine ret_q1 rfl ?_; (try refine sr_by ff ?_); all_goals (try clear ff); all_goals (try exact trivial); all_goals ((first | rw [szStep_neg (by assumption)] | rw [szStep_pos (by assumption)])))
    | (with_reducible refine cq_call (szPropS_does x.Props v1 (by omega) (by omega) hx.2.2.1 hx.2.2.2) ?_ ?_ ⟨?_, ?_⟩; (· first | rfl | exact cl_by ff); (· first | assumption | kernel_rfl); (· first | exact ca_by ff | (refine sa_by ff ?_; try clear ff; first | exact trivial | omega)); refine st_by ff ?_)
    | (with_reducible refine CBC_eq (fun hp hd => ?_) (fun hp hd => ?_) <;> refine st_by (And.intro hd ff) ?_)
    | (with_reducible refine CBC_ne (fun hp hd => ?_) (fun hp hd => ?_) <;> refine st_by (And.intro hd ff) ?_)
    | (with_reducible refine CBC_decT ?_ (fun hd => ?_); (· try clear ff; first | assumption | omega); refine st_by (And.intro hd ff) ?_)
    | (with_reducible refine CBC_decF ?_ (fun hd => ?_); (· try clear ff; first | assumption | omega); refine st_by (And.intro hd ff) ?_)
    | (with_reducible refine CBC_dec (fun hp hd => ?_) (fun hp hd => ?_) <;> refine st_by (And.intro hd ff) ?_)
    | (refine CBC_bool (fun hd => ?_) (fun hd => ?_) <;> refine st_by (And.intro hd ff) ?_)
    | (with_reducible refine GQ_eq (fun hp hd => ?_) (fun hp hd => ?_) <;> refine st_by (And.intro hd ff) ?_)
    | (with_reducible refine GQ_ne (fun hp hd => ?_) (fun hp hd => ?_) <;> refine st_by (And.intro hd ff) ?_)
    | (with_reducible refine GQ_decT ?_ (fun hd => ?_); (· try clear ff; first | assumption | omega); refine st_by (And.intro hd ff) ?_)
    | (with_reducible refine GQ_decF ?_ (fun hd => ?_); (· try clear ff; first | assumption | omega); refine st_by (And.intro hd ff) ?_)
    | (with_reducible refine GQ_dec (fun hp hd => ?_) (fun hp hd => ?_) <;> refine st_by (And.intro hd ff) ?_)
    | (with_reducible refine GQ_ndT ?_ (fun hd => ?_); (· try clear ff; first | assumption | omega); refine st_by (And.intro hd ff) ?_)
    | (with_reducible refine GQ_ndF ?_ (fun hd => ?_); (· try clear ff; first | assumption | omega); refine st_by (And.intro hd ff) ?_)
    | (with_reducible refine GQ_nd (fun hp hd => ?_) (fun hp hd => ?_) <;> refine st_by (And.intro hd ff) ?_)
    | (refine GQ_nb (fun hd => ?_) (fun hd => ?_) <;> refine st_by (And.intro hd ff) ?_)
    | (refine GQ_bool (fun hd => ?_) (fun hd => ?_) <;> refine st_by (And.intro hd ff) ?_))
  all_goals try clear ff
theorem toPrefab_does (x : GPrefab) (hx : wfPrefab 1048576 x) : Does Tryd.prog 28 [.agg (ePrefab x)] (.agg (ePrefabo x)) := by
  unfold wfPrefab at hx
  refine Does.walk (nt := 15) Tryd.func28 rfl rfl (by simp) (by decide) rfl (fun G0 X w0 pv => ?_)
  have ff := And.intro @ePrefab_eq (And.intro @ePrefabo_eq (And.intro @Ty.nz9 (And.intro @Ty.ldA9 (And.intro @Ty.ldS9 (And.intro @Ty.sz9 (And.intro @Ty.szn9 (And.intro @Ty.nz34 (And.intro @Ty.ldA34 (And.intro @Ty.ldS34 (And.intro @Ty.sz34 (And.intro @Ty.szn34 (And.intro @Ty.nz24 (And.intro @Ty.ldA24 (And.intro @Ty.ldS24 (And.intro @Ty.sz24 (And.intro @Ty.szn24 (And.intro @Ty.nz54 (And.intro @Ty.ldA54 (And.intro @Ty.sz54 (And.intro @Ty.szn54 (And.intro @Ty.fo49_0 (And.intro @Ty.fk49_0 (And.intro @Ty.fs49_0 (And.intro @Ty.fn49_0 (And.intro @Ty.fo54_0 (And.intro @Ty.fk54_0 (And.intro @Ty.fs54_0 (And.intro @Ty.fn54_0 (And.intro @Ty.fo49_1 (And.intro @Ty.fk49_1 (And.intro @Ty.fs49_1 (And.intro @Ty.fn49_1 (And.intro @Ty.fo54_1 (And.intro @Ty.fk54_1 (And.intro @Ty.fs54_1 (And.intro @Ty.fn54_1 (And.intro @Ty.fo49_2 (And.intro @Ty.fk49_2 (And.intro @Ty.fs49_2 (And.intro @Ty.fn49_2 (And.intro @Ty.fo54_2 (And.intro @Ty.fk54_2 (And.intro @Ty.fs54_2 (And.intro @Ty.fn54_2 (And.intro @Ty.zv54 @Ty.ag54)))))))))))))))))))))))))))))))))))))))))))))
  try refine st_by ff ?_
  repeat' (first
    | exact trivial
    | (refine And.intro ?_ ?_; · (try clear ff; first | omega | decide))
    | (refine ret_q1 rfl ?_; (try refine sr_by ff ?_); all_goals (try clear ff); all_goals (try exact trivial); all_goals (skip))
    | (with_reducible refine cq_own (toPropS_does x.Props hx.2.2.1) ?_ ?_ ⟨?_, ?_⟩; (· first | rfl | exact cl_by ff); (· first | assumption | kernel_rfl); (· first | exact ca_by ff | (refine sa_by ff ?_; try clear ff; first | exact trivial | omega | decide)); refine st_by ff ?_)
    | (with_reducible refine CBC_eq (fun hp hd => ?_) (fun hp hd => ?_) <;> refine st_by (And.intro hd ff) ?_)
    | (with_reducible refine CBC_ne (fun hp hd => ?_) (fun hp hd => ?_) <;> refine st_by (And.intro hd ff) ?_)
    | (with_reducible refine CBC_decT ?_ (fun hd => ?_); (· try clear ff; first | assumption | omega); refine st_by (And.intro hd ff) ?_)
    | (with_reducible refine CBC_decF ?_ (fun hd => ?_); (· try clear ff; first | assumption | omega); refine st_by (And.intro hd ff) ?_)
    | (with_reducible refine CBC_dec (fun hp hd => ?_) (fun hp hd => ?_) <;> refine st_by (And.intro hd ff) ?_)
    | (refine CBC_bool (fun hd => ?_) (fun hd => ?_) <;> refine st_by (And.intro hd ff) ?_)
    | (with_reducible refine GQ_eq (fun hp hd => ?_) (fun hp hd => ?_) <;> refine st_by (And.intro hd ff) ?_)
    | (with_reducible refine GQ_ne (fun hp hd => ?_) (fun hp hd => ?_) <;> refine st_by (And.intro hd ff) ?_)
    | (with_reducible refine GQ_decT ?_ (fun hd => ?_); (· try clear ff; first | assumption | omega); refine st_by (And.intro hd ff) ?_)
    | (with_reducible refine GQ_decF ?_ (fun hd => ?_); (· try clear ff; first | assumption | omega); refine st_by (And.intro hd ff) ?_)
    | (with_reducible refine GQ_dec (fun hp hd => ?_) (fun hp hd => ?_) <;> refine st_by (And.intro hd ff) ?_)
    | (with_reducible refine GQ_ndT ?_ (fun hd => ?_); (· try clear ff; first | assumption | omega); refine st_by (And.intro hd ff) ?_)
    | (with_reducible refine GQ_ndF ?_ (fun hd => ?_); (· try clear ff; first | assumption | omega); refine st_by (And.intro hd ff) ?_)
    | (with_reducible refine GQ_nd (fun hp hd => ?_) (fun hp hd => ?_) <;> refine st_by (And.intro hd ff) ?_)
    | (refine GQ_nb (fun hd => ?_) (fun hd => ?_) <;> refine st_by (And.intro hd ff) ?_)
    | (refine GQ_bool (fun hd => ?_) (fun hd => ?_) <;> refine st_by (And.intro hd ff) ?_))
  all_goals try clear ff
theorem eqPrefab_does (x y : GPrefab) (hx : wfPrefab 9223372036854775807 x) (hy : wfPrefab 9223372036854775807 y) : Does Tryd.prog 33 [.agg (ePrefab x), .agg (ePrefab y)] (B (decide (x = y))) := by
  unfold wfPrefab at hx hy
  have hxy : decide (x = y) = decide (x.Name = y.Name ∧ x.From = y.From ∧ x.Props = y.Props) := decide_eq_decide.2 (by cases x; cases y; simp)
  rw [hxy]
  refine Does.walk (nt := 21) Tryd.func33 rfl rfl (by simp) (by decide) rfl (fun G0 X w0 pv => ?_)
  have ff := And.intro @ePrefab_eq (And.intro @str_beq (And.intro @Ty.nz9 (And.intro @Ty.ldA9 (And.intro @Ty.ldS9 (And.intro @Ty.sz9 (And.intro @Ty.szn9 (And.intro @Ty.nz24 (And.intro @Ty.ldA24 (And.intro @Ty.ldS24 (And.intro @Ty.sz24 (And.intro @Ty.szn24 (And.intro @Ty.fo54_0 (And.intro @Ty.fk54_0 (And.intro @Ty.fs54_0 (And.intro @Ty.fn54_0 (And.intro @Ty.fo54_1 (And.intro @Ty.fk54_1 (And.intro @Ty.fs54_1 (And.intro @Ty.fn54_1 (And.intro @Ty.fo54_2 (And.intro @Ty.fk54_2 (And.intro @Ty.fs54_2 @Ty.fn54_2))))))))))))))))))))))
  try refine st_by ff ?_
  repeat' (first
    | exact trivial
    | (refine And.intro ?_ ?_; · (try clear ff; first | omega))
    | (refine ret_q1 rfl ?_; (try refine sr_by ff ?_); all_goals (try clear ff); all_goals (try exact trivial); all_goals (simp_all))
    | (with_reducible refine cq_call (eqPropS_does x.Props y.Props hx.2.2.1 hy.2.2.1) ?_ ?_ ⟨?_, ?_⟩; (· first | rfl | exact cl_by ff); (· first | assumption | kernel_rfl); (· first | exact ca_by ff | (refine sa_by ff ?_; try clear ff; first | exact trivial | omega)); refine st_by ff ?_)
    | (with_reducible refine CBC_eq (fun hp hd => ?_) (fun hp hd => ?_) <;> refine st_by (And.intro hd ff) ?_)
    | (with_reducible refine CBC_ne (fun hp hd => ?_) (fun hp hd => ?_) <;> refine st_by (And.intro hd ff) ?_)
    | (with_reducible refine CBC_decT ?_ (fun hd => ?_); (· try clear ff; first | assumption | omega); refine st_by (And.intro hd ff) ?_)
    | (with_reducible refine CBC_decF ?_ (fun hd => ?_); (· try clear ff; first | assumption | omega); refine st_by (And.intro hd ff) ?_)
    | (with_reducible refine CBC_dec (fun hp hd => ?_) (fun hp hd => ?_) <;> refine st_by (And.intro hd ff) ?_)
    | (refine CBC_bool (fun hd => ?_) (fun hd => ?_) <;> refine st_by (And.intro hd ff) ?_)
    | (with_reducible refine GQ_eq (fun hp hd => ?_) (fun hp hd => ?_) <;> refine st_by (And.intro hd ff) ?_)
    | (with_reducible refine GQ_ne (fun hp hd => ?_) (fun hp hd => ?_) <;> refine st_by (And.intro hd ff) ?_)
    | (with_reducible refine GQ_decT ?_ (fun hd => ?_); (· try clear ff; first | assumption | omega); refine st_by (And.intro hd ff) ?_)
    | (with_reducible refine GQ_decF ?_ (fun hd => ?_); (· try clear ff; first | assumption | omega); refine st_by (And.intro hd ff) ?_)
    | (with_reducible refine GQ_dec (fun hp hd => ?_) (fun hp hd => ?_) <;> refine st_by (And.intro hd ff) ?_)
    | (with_reducible refine GQ_ndT ?_ (fun hd => ?_); (· try clear ff; first | assumption | omega); refine st_by (And.intro hd ff) ?_)
    | (with_reducible refine GQ_ndF ?_ (fun hd => ?_); (· try clear ff; first | assumption | omega); refine st_by (And.intro hd ff) ?_)
    | (with_reducible refine GQ_nd (fun hp hd => ?_) (fun hp hd => ?_) <;> refine st_by (And.intro hd ff) ?_)
    | (refine GQ_nb (fun hd => ?_) (fun hd => ?_) <;> refine st_by (And.intro hd ff) ?_)
    | (refine GQ_bool (fun hd => ?_) (fun hd => ?_) <;> refine st_by (And.intro hd ff) ?_))
  all_goals try clear ff
/-! []Prefab -/
theorem szPrefabS_does (l : List GPrefab) (left : Int) (h0 : 0 ≤ left) (h1 : left ≤ 1048576) (hl : l.length ≤ 9223372036854775807) (hx : ∀ x ∈ l, wfPrefab 9223372036854775807 x) : Does Tryd.prog 6 [.row false 3 l.length (esPrefab l), I left] (I (szRow szPrefab l left)) := by
  have w1 : IntKind.i64.wrap (left - (l.length : Int)) = left - l.length := wI _ (by omega) (by omega)
  refine Does.walk (nt := 27) Tryd.func6 rfl rfl (by simp) (by decide) rfl (fun G0 X w0 pv => ?_)
  have ff := And.intro @w1 (And.intro @Ty.sl22 (And.intro @Ty.slz22 (And.intro @Ty.nz49 (And.intro @Ty.ldA49 (And.intro @Ty.sz49 @Ty.szn49)))))
  try refine st_by ff ?_
  repeat' (first
    | exact trivial
    | (refine And.intro ?_ ?_; · (try clear ff; first | omega))
    | (refine ret_q1 rfl ?_; (try refine sr_by ff ?_); all_goals (try clear ff); all_goals (try exact trivial); all_goals ((simp only [szRow]; first | rw [szStep_neg (by omega)] | rw [szStep_pos (by omega)])))
    | (with_reducible refine CBC_eq (fun hp hd => ?_) (fun hp hd => ?_) <;> refine st_by (And.intro hd ff) ?_)
    | (with_reducible refine CBC_ne (fun hp hd => ?_) (fun hp hd => ?_) <;> refine st_by (And.intro hd ff) ?_)
    | (with_reducible refine CBC_decT ?_ (fun hd => ?_); (· try clear ff; first | assumption | omega); refine st_by (And.intro hd ff) ?_)
    | (with_reducible refine CBC_decF ?_ (fun hd => ?_); (· try clear ff; first | assumption | omega); refine st_by (And.intro hd ff) ?_)
    | (with_reducible refine CBC_dec (fun hp hd => ?_) (fun hp hd => ?_) <;> refine st_by (And.intro hd ff) ?_)
    | (refine CBC_bool (fun hd => ?_) (fun hd => ?_) <;> refine st_by (And.intro hd ff) ?_)
    | (with_reducible refine GQ_eq (fun hp hd => ?_) (fun hp hd => ?_) <;> refine st_by (And.intro hd ff) ?_)
    | (with_reducible refine GQ_ne (fun hp hd => ?_) (fun hp hd => ?_) <;> refine st_by (And.intro hd ff) ?_)
    | (with_reducible refine GQ_decT ?_ (fun hd => ?_); (· try clear ff; first | assumption | omega); refine st_by (And.intro hd ff) ?_)
    | (with_reducible refine GQ_decF ?_ (fun hd => ?_); (· try clear ff; first | assumption | omega); refine st_by (And.intro hd ff) ?_)
    | (with_reducible refine GQ_dec (fun hp hd => ?_) (fun hp hd => ?_) <;> refine st_by (And.intro hd ff) ?_)
    | (with_reducible refine GQ_ndT ?_ (fun hd => ?_); (· try clear ff; first | assumption | omega); refine st_by (And.intro hd ff) ?_)
    | (with_reducible refine GQ_ndF ?_ (fun hd => ?_); (· try clear ff; first | assumption | omega); refine st_by (And.intro hd ff) ?_)
    | (with_reducible refine GQ_nd (fun hp hd => ?_) (fun hp hd => ?_) <;> refine st_by (And.intro hd ff) ?_)
    | (refine GQ_nb (fun hd => ?_) (fun hd => ?_) <;> refine st_by (And.intro hd ff) ?_)
    | (refine GQ_bool (fun hd => ?_) (fun hd => ?_) <;> refine st_by (And.intro hd ff) ?_))
  all_goals try clear ff
  have e0 : szRow szPrefab l left = szL szPrefab l (left - l.length) := by simp only [szRow]; rw [szStep_pos (by omega)]
  rw [e0]
  refine aw_loop (ι := Nat × Int) (fun z σ => (z.1 ≤ l.length ∧ 0 ≤ z.2 ∧ z.2 ≤ 1048576 ∧ szL szPrefab (l.drop z.1) z.2 = szL szPrefab l (left - l.length)) ∧ σ.t 0 = .row false 3 l.length (esPrefab l) ∧ σ.t 1 = I z.2 ∧ σ.t 5 = I z.1) (fun z => l.length - z.1) (0, left - l.length) ?_ ?_
  · (first | exact cl_by trivial | refine st_by trivial ?_)
    simp [w1]; omega
  · rintro ⟨i, a⟩ σ ⟨⟨h2, h3, h4, h5⟩, g0, g1, g5⟩
    simp only at h2 h3 h4 h5 g0 g1 g5
    by_cases hi : i < l.length
    · have w2 : IntKind.i64.wrap ((i : Int) + 1) = ((i + 1 : Nat) : Int) := wI _ (by omega) (by omega)
      have hle := szPrefab_ok l[i] a h3
      have hd0 := szL_drop (f := szPrefab) l i hi a
      have hx0 := hx l[i] (List.getElem_mem hi)
      have ff := And.intro @g0 (And.intro @g1 (And.intro @g5 (And.intro @w2 (And.intro @hi (And.intro ((esPrefab_drop l i hi)) (And.intro @esPrefab_len (And.intro @ePrefab_eq (And.intro @Ty.sl22 (And.intro @Ty.slz22 (And.intro @Ty.nz49 (And.intro @Ty.ldA49 (And.intro @Ty.sz49 @Ty.szn49))))))))))))
      try refine st_by ff ?_
      repeat' (first
        | exact trivial
        | (refine And.intro ?_ ?_; · (try clear ff; first | omega | (rw [List.length_append]; simp [esPrefab_len]; omega) | (simp [ePrefab]; done) | decide | (simp [esPrefab_len]; omega) | rfl))
        | (refine ret_q1 rfl ?_; (try refine sr_by ff ?_); all_goals (try clear ff); all_goals (try exact trivial); all_goals (first | (rw [← h5, hd0, szStep_neg (by first | assumption | omega)]; done) | (exfalso; omega)))
        | (with_reducible refine cq_call (szPrefab_does l[i] a h3 h4 hx0) ?_ ?_ ⟨?_, ?_⟩; (· first | rfl | exact cl_by ff); (· first | assumption | kernel_rfl); (· first | exact ca_by ff | (refine sa_by ff ?_; try clear ff; first | exact trivial | omega | (rw [List.length_append]; simp [esPrefab_len]; omega) | (simp [ePrefab]; done) | decide | (simp [esPrefab_len]; omega) | rfl)); refine st_by ff ?_)
        | (with_reducible refine CBC_eq (fun hp hd => ?_) (fun hp hd => ?_) <;> refine st_by (And.intro hd ff) ?_)
        | (with_reducible refine CBC_ne (fun hp hd => ?_) (fun hp hd => ?_) <;> refine st_by (And.intro hd ff) ?_)
        | (with_reducible refine CBC_decT ?_ (fun hd => ?_); (· try clear ff; first | assumption | omega); refine st_by (And.intro hd ff) ?_)
        | (with_reducible refine CBC_decF ?_ (fun hd => ?_); (· try clear ff; first | assumption | omega); refine st_by (And.intro hd ff) ?_)
        | (with_reducible refine CBC_dec (fun hp hd => ?_) (fun hp hd => ?_) <;> refine st_by (And.intro hd ff) ?_)
        | (refine CBC_bool (fun hd => ?_) (fun hd => ?_) <;> refine st_by (And.intro hd ff) ?_)
        | (with_reducible refine GQ_eq (fun hp hd => ?_) (fun hp hd => ?_) <;> refine st_by (And.intro hd ff) ?_)
        | (with_reducible refine GQ_ne (fun hp hd => ?_) (fun hp hd => ?_) <;> refine st_by (And.intro hd ff) ?_)
        | (with_reducible refine GQ_decT ?_ (fun hd => ?_); (· try clear ff; first | assumption | omega); refine st_by (And.intro hd ff) ?_)
        | (with_reducible refine GQ_decF ?_ (fun hd => ?_); (· try clear ff; first | assumption | omega); refine st_by (And.intro hd ff) ?_)
        | (with_reducible refine GQ_dec (fun hp hd => ?_) (fun hp hd => ?_) <;> refine st_by (And.intro hd ff) ?_)
        | (with_reducible refine GQ_ndT ?_ (fun hd => ?_); (· try clear ff; first | assumption | omega); refine st_by (And.intro hd ff) ?_)
        | (with_reducible refine GQ_ndF ?_ (fun hd => ?_); (· try clear ff; first | assumption | omega); refine st_by (And.intro hd ff) ?_)
        | (with_reducible refine GQ_nd (fun hp hd => ?_) (fun hp hd => ?_) <;> refine st_by (And.intro hd ff) ?_)
        | (refine GQ_nb (fun hd => ?_) (fun hd => ?_) <;> refine st_by (And.intro hd ff) ?_)
        | (refine GQ_bool (fun hd => ?_) (fun hd => ?_) <;> refine st_by (And.intro hd ff) ?_)
        | ((try clear ff); refine ⟨(i + 1, szPrefab l[i] a), ⟨⟨?_, ?_, ?_, ?_⟩, rfl, rfl⟩, ?_⟩; (· simp only; omega); (· simp only; omega); (· simp only; omega); (· simp only; rw [← h5, hd0, szStep_pos (by first | assumption | omega)]); (· simp only; omega)))
      all_goals try clear ff
    · have e1 : l.drop i = [] := List.drop_of_length_le (by omega)
      have ff := And.intro @g0 (And.intro @g1 (And.intro @g5 (And.intro @Ty.sl22 (And.intro @Ty.slz22 (And.intro @Ty.nz49 (And.intro @Ty.ldA49 (And.intro @Ty.sz49 @Ty.szn49)))))))
      try refine st_by ff ?_
      repeat' (first
        | exact trivial
        | (refine And.intro ?_ ?_; · (try clear ff; first | omega))
        | (refine ret_q1 rfl ?_; (try refine sr_by ff ?_); all_goals (try clear ff); all_goals (try exact trivial); all_goals (rw [← h5, e1]; rfl))
        | (with_reducible refine CBC_eq (fun hp hd => ?_) (fun hp hd => ?_) <;> refine st_by (And.intro hd ff) ?_)
        | (with_reducible refine CBC_ne (fun hp hd => ?_) (fun hp hd => ?_) <;> refine st_by (And.intro hd ff) ?_)
        | (with_reducible refine CBC_decT ?_ (fun hd => ?_); (· try clear ff; first | assumption | omega); refine st_by (And.intro hd ff) ?_)
        | (with_reducible refine CBC_decF ?_ (fun hd => ?_); (· try clear ff; first | assumption | omega); refine st_by (And.intro hd ff) ?_)
        | (with_reducible refine CBC_dec (fun hp hd => ?_) (fun hp hd => ?_) <;> refine st_by (And.intro hd ff) ?_)
        | (refine CBC_bool (fun hd => ?_) (fun hd => ?_) <;> refine st_by (And.intro hd ff) ?_)
        | (with_reducible refine GQ_eq (fun hp hd => ?_) (fun hp hd => ?_) <;> refine st_by (And.intro hd ff) ?_)
        | (with_reducible refine GQ_ne (fun hp hd => ?_) (fun hp hd => ?_) <;> refine st_by (And.intro hd ff) ?_)
        | (with_reducible refine GQ_decT ?_ (fun hd => ?_); (· try clear ff; first | assumption | omega); refine st_by (And.intro hd ff) ?_)
        | (with_reducible refine GQ_decF ?_ (fun hd => ?_); (· try clear ff; first | assumption | omega); refine st_by (And.intro hd ff) ?_)
        | (with_reducible refine GQ_dec (fun hp hd => ?_) (fun hp hd => ?_) <;> refine st_by (And.intro hd ff) ?_)
        | (with_reducible refine GQ_ndT ?_ (fun hd => ?_); (· try clear ff; first | assumption | omega); refine st_by (And.intro hd ff) ?_)
        | (with_reducible refine GQ_ndF ?_ (fun hd => ?_); (· try clear ff; first | assumption | omega); refine st_by (And.intro hd ff) ?_)
        | (with_reducible refine GQ_nd (fun hp hd => ?_) (fun hp hd => ?_) <;> refine st_by (And.intro hd ff) ?_)
        | (refine GQ_nb (fun hd => ?_) (fun hd => ?_) <;> refine st_by (And.intro hd ff) ?_)
        | (refine GQ_bool (fun hd => ?_) (fun hd => ?_) <;> refine st_by (And.intro hd ff) ?_))
      all_goals try clear ff
theorem toPrefabS_does (l : List GPrefab) (hl : l.length ≤ 1048576) (hx : ∀ x ∈ l, wfPrefab 1048576 x) : Does Tryd.prog 8 [.row false 3 l.length (esPrefab l)] (.row true 3 l.length (esPrefabo l)) := by
  have hz := zRowsN (enc := ePrefabo) (z := (⟨⟨#[]⟩, ⟨#[]⟩, []⟩ : GPrefab)) (zs := [.string ⟨#[]⟩, .string ⟨#[]⟩, .slice none 0 0]) (os := [none, none, some 2]) (by decide) rfl rfl l.length
  refine Does.walk (nt := 23) Tryd.func8 rfl rfl (by simp) (by decide) rfl (fun G0 X w0 pv => ?_)
  have ff := And.intro @Ty.sl22 (And.intro @Ty.slz22 (And.intro @Ty.sl27 (And.intro @Ty.slz27 (And.intro @Ty.nz49 (And.intro @Ty.ldA49 (And.intro @Ty.sz49 (And.intro @Ty.szn49 (And.intro @Ty.nz54 (And.intro @Ty.ldA54 (And.intro @Ty.sz54 (And.intro @Ty.szn54 (And.intro @Ty.nze27 (And.intro @Ty.zok27 (And.intro @Ty.by27 @Ty.zs27))))))))))))))
  try refine st_by ff ?_
  repeat' (first
    | exact trivial
    | (refine And.intro ?_ ?_; · (try clear ff; first | omega | decide | rfl))
    | (refine ret_q1 rfl ?_; (try refine sr_by ff ?_); all_goals (try clear ff); all_goals (try exact trivial); all_goals (skip))
    | (with_reducible refine CBC_eq (fun hp hd => ?_) (fun hp hd => ?_) <;> refine st_by (And.intro hd ff) ?_)
    | (with_reducible refine CBC_ne (fun hp hd => ?_) (fun hp hd => ?_) <;> refine st_by (And.intro hd ff) ?_)
    | (with_reducible refine CBC_decT ?_ (fun hd => ?_); (· try clear ff; first | assumption | omega); refine st_by (And.intro hd ff) ?_)
    | (with_reducible refine CBC_decF ?_ (fun hd => ?_); (· try clear ff; first | assumption | omega); refine st_by (And.intro hd ff) ?_)
    | (with_reducible refine CBC_dec (fun hp hd => ?_) (fun hp hd => ?_) <;> refine st_by (And.intro hd ff) ?_)
    | (refine CBC_bool (fun hd => ?_) (fun hd => ?_) <;> refine st_by (And.intro hd ff) ?_)
    | (with_reducible refine GQ_eq (fun hp hd => ?_) (fun hp hd => ?_) <;> refine st_by (And.intro hd ff) ?_)
    | (with_reducible refine GQ_ne (fun hp hd => ?_) (fun hp hd => ?_) <;> refine st_by (And.intro hd ff) ?_)
    | (with_reducible refine GQ_decT ?_ (fun hd => ?_); (· try clear ff; first | assumption | omega); refine st_by (And.intro hd ff) ?_)
    | (with_reducible refine GQ_decF ?_ (fun hd => ?_); (· try clear ff; first | assumption | omega); refine st_by (And.intro hd ff) ?_)
    | (with_reducible refine GQ_dec (fun hp hd => ?_) (fun hp hd => ?_) <;> refine st_by (And.intro hd ff) ?_)
    | (with_reducible refine GQ_ndT ?_ (fun hd => ?_); (· try clear ff; first | assumption | omega); refine st_by (And.intro hd ff) ?_)
    | (with_reducible refine GQ_ndF ?_ (fun hd => ?_); (· try clear ff; first | assumption | omega); refine st_by (And.intro hd ff) ?_)
    | (with_reducible refine GQ_nd (fun hp hd => ?_) (fun hp hd => ?_) <;> refine st_by (And.intro hd ff) ?_)
    | (refine GQ_nb (fun hd => ?_) (fun hd => ?_) <;> refine st_by (And.intro hd ff) ?_)
    | (refine GQ_bool (fun hd => ?_) (fun hd => ?_) <;> refine st_by (And.intro hd ff) ?_))
  all_goals try clear ff
  refine aw_loop (ι := Nat) (fun i σ => i ≤ l.length ∧ σ.t 0 = .row false 3 l.length (esPrefab l) ∧ σ.t 4 = I i ∧ σ.t 3 = .sl 3 [] 0 l.length ∧ σ.m 3 = some (.row true 3 l.length (esPrefabo (l.take i ++ List.replicate (l.length - i) ⟨⟨#[]⟩, ⟨#[]⟩, []⟩)))) (fun i => l.length - i) 0 ?_ ?_
  · (first | exact cl_by (And.intro @Ty.sl22 (And.intro @Ty.slz22 (And.intro @Ty.sl27 (And.intro @Ty.slz27 (And.intro @Ty.nz49 (And.intro @Ty.ldA49 (And.intro @Ty.sz49 (And.intro @Ty.szn49 (And.intro @Ty.nz54 (And.intro @Ty.ldA54 (And.intro @Ty.sz54 (And.intro @Ty.szn54 (And.intro @Ty.nze27 (And.intro @Ty.zok27 (And.intro @Ty.by27 @Ty.zs27))))))))))))))) | refine st_by (And.intro @Ty.sl22 (And.intro @Ty.slz22 (And.intro @Ty.sl27 (And.intro @Ty.slz27 (And.intro @Ty.nz49 (And.intro @Ty.ldA49 (And.intro @Ty.sz49 (And.intro @Ty.szn49 (And.intro @Ty.nz54 (And.intro @Ty.ldA54 (And.intro @Ty.sz54 (And.intro @Ty.szn54 (And.intro @Ty.nze27 (And.intro @Ty.zok27 (And.intro @Ty.by27 @Ty.zs27))))))))))))))) ?_)
    simp [esPrefabo, hz]
  · rintro i σ ⟨h2, g0, g4, g3, m3⟩
    by_cases hi : i < l.length
    · have w2 : IntKind.i64.wrap ((i : Int) + 1) = ((i + 1 : Nat) : Int) := wI _ (by omega) (by omega)
      have hlen : (l.take i ++ List.replicate (l.length - i) (⟨⟨#[]⟩, ⟨#[]⟩, []⟩ : GPrefab)).length = l.length := by simp; omega
      have hset := take_rep_set l ⟨⟨#[]⟩, ⟨#[]⟩, []⟩ i hi
      have hsl := esPrefabo_setL (l.take i ++ List.replicate (l.length - i) ⟨⟨#[]⟩, ⟨#[]⟩, []⟩) i l[i] (by omega)
      generalize l.take i ++ List.replicate (l.length - i) (⟨⟨#[]⟩, ⟨#[]⟩, []⟩ : GPrefab) = L at m3 hlen hset hsl
      rw [hset] at hsl
      have hx0 := hx l[i] (List.getElem_mem hi)
      have ff := And.intro @g0 (And.intro @g3 (And.intro @g4 (And.intro @m3 (And.intro @w2 (And.intro @hi (And.intro ((esPrefab_drop l i hi)) (And.intro @esPrefab_len (And.intro @ePrefab_eq (And.intro @esPrefabo_len (And.intro @ePrefabo_eq (And.intro @Ty.sl22 (And.intro @Ty.slz22 (And.intro @Ty.sl27 (And.intro @Ty.slz27 (And.intro @Ty.nz49 (And.intro @Ty.ldA49 (And.intro @Ty.sz49 (And.intro @Ty.szn49 (And.intro @Ty.nz54 (And.intro @Ty.ldA54 (And.intro @Ty.sz54 (And.intro @Ty.szn54 (And.intro @Ty.nze27 (And.intro @Ty.zok27 (And.intro @Ty.by27 @Ty.zs27)))))))))))))))))))))))))
      try refine st_by ff ?_
      repeat' (first
        | exact trivial
        | (refine And.intro ?_ ?_; · (try clear ff; first | omega | (rw [List.length_append]; simp [esPrefab_len]; omega) | (simp [ePrefab]; done) | decide | (simp [esPrefab_len]; omega) | rfl | (simp [esPrefabo_len, hlen]; omega)))
        | (refine ret_q1 rfl ?_; (try refine sr_by ff ?_); all_goals (try clear ff); all_goals (try exact trivial); all_goals (skip))
        | (with_reducible refine cq_own (toPrefab_does l[i] hx0) ?_ ?_ ⟨?_, ?_⟩; (· first | rfl | exact cl_by ff); (· first | assumption | kernel_rfl); (· first | exact ca_by ff | (refine sa_by ff ?_; try clear ff; first | exact trivial | omega | (rw [List.length_append]; simp [esPrefab_len]; omega) | (simp [ePrefab]; done) | decide | (simp [esPrefab_len]; omega) | rfl | (simp [esPrefabo_len, hlen]; omega))); refine st_by ff ?_)
        | (with_reducible refine CBC_eq (fun hp hd => ?_) (fun hp hd => ?_) <;> refine st_by (And.intro hd ff) ?_)
        | (with_reducible refine CBC_ne (fun hp hd => ?_) (fun hp hd => ?_) <;> refine st_by (And.intro hd ff) ?_)
        | (with_reducible refine CBC_decT ?_ (fun hd => ?_); (· try clear ff; first | assumption | omega); refine st_by (And.intro hd ff) ?_)
        | (with_reducible refine CBC_decF ?_ (fun hd => ?_); (· try clear ff; first | assumption | omega); refine st_by (And.intro hd ff) ?_)
        | (with_reducible refine CBC_dec (fun hp hd => ?_) (fun hp hd => ?_) <;> refine st_by (And.intro hd ff) ?_)
        | (refine CBC_bool (fun hd => ?_) (fun hd => ?_) <;> refine st_by (And.intro hd ff) ?_)
        | (with_reducible refine GQ_eq (fun hp hd => ?_) (fun hp hd => ?_) <;> refine st_by (And.intro hd ff) ?_)
        | (with_reducible refine GQ_ne (fun hp hd => ?_) (fun hp hd => ?_) <;> refine st_by (And.intro hd ff) ?_)
        | (with_reducible refine GQ_decT ?_ (fun hd => ?_); (· try clear ff; first | assumption | omega); refine st_by (And.intro hd ff) ?_)
        | (with_reducible refine GQ_decF ?_ (fun hd => ?_); (· try clear ff; first | assumption | omega); refine st_by (And.intro hd ff) ?_)
        | (with_reducible refine GQ_dec (fun hp hd => ?_) (fun hp hd => ?_) <;> refine st_by (And.intro hd ff) ?_)
        | (with_reducible refine GQ_ndT ?_ (fun hd => ?_); (· try clear ff; first | assumption | omega); refine st_by (And.intro hd ff) ?_)
        | (with_reducible refine GQ_ndF ?_ (fun hd => ?_); (· try clear ff; first | assumption | omega); refine st_by (And.intro hd ff) ?_)
        | (with_reducible refine GQ_nd (fun hp hd => ?_) (fun hp hd => ?_) <;> refine st_by (And.intro hd ff) ?_)
        | (refine GQ_nb (fun hd => ?_) (fun hd => ?_) <;> refine st_by (And.intro hd ff) ?_)
        | (refine GQ_bool (fun hd => ?_) (fun hd => ?_) <;> refine st_by (And.intro hd ff) ?_)
        | ((try clear ff); refine ⟨i + 1, ⟨?_, rfl, ?_⟩, ?_⟩; (· omega); (· first | (rw [← hsl]; rfl) | (simp only [← hsl, ePrefabo]; rfl)); (· omega)))
      all_goals try clear ff
    · have e1 : l.take i ++ List.replicate (l.length - i) (⟨⟨#[]⟩, ⟨#[]⟩, []⟩ : GPrefab) = l := by rw [List.take_of_length_le (by omega)]; simp; omega
      rw [e1] at m3
      have ff := And.intro @g0 (And.intro @g3 (And.intro @g4 (And.intro @m3 (And.intro @Ty.sl22 (And.intro @Ty.slz22 (And.intro @Ty.sl27 (And.intro @Ty.slz27 (And.intro @Ty.nz49 (And.intro @Ty.ldA49 (And.intro @Ty.sz49 (And.intro @Ty.szn49 (And.intro @Ty.nz54 (And.intro @Ty.ldA54 (And.intro @Ty.sz54 (And.intro @Ty.szn54 (And.intro @Ty.nze27 (And.intro @Ty.zok27 (And.intro @Ty.by27 @Ty.zs27))))))))))))))))))
      try refine st_by ff ?_
      repeat' (first
        | exact trivial
        | (refine And.intro ?_ ?_; · (try clear ff; first | omega))
        | (refine ret_q1 rfl ?_; (try refine sr_by ff ?_); all_goals (try clear ff); all_goals (try exact trivial); all_goals (rfl))
        | (with_reducible refine CBC_eq (fun hp hd => ?_) (fun hp hd => ?_) <;> refine st_by (And.intro hd ff) ?_)
        | (with_reducible refine CBC_ne (fun hp hd => ?_) (fun hp hd => ?_) <;> refine st_by (And.intro hd ff) ?_)
        | (with_reducible refine CBC_decT ?_ (fun hd => ?_); (· try clear ff; first | assumption | omega); refine st_by (And.intro hd ff) ?_)
        | (with_reducible refine CBC_decF ?_ (fun hd => ?_); (· try clear ff; first | assumption | omega); refine st_by (And.intro hd ff) ?_)
        | (with_reducible refine CBC_dec (fun hp hd => ?_) (fun hp hd => ?_) <;> refine st_by (And.intro hd ff) ?_)
        | (refine CBC_bool (fun hd => ?_) (fun hd => ?_) <;> refine st_by (And.intro hd ff) ?_)
        | (with_reducible refine GQ_eq (fun hp hd => ?_) (fun hp hd => ?_) <;> refine st_by (And.intro hd ff) ?_)
        | (with_reducible refine GQ_ne (fun hp hd => ?_) (fun hp hd => ?_) <;> refine st_by (And.intro hd ff) ?_)
        | (with_reducible refine GQ_decT ?_ (fun hd => ?_); (· try clear ff; first | assumption | omega); refine st_by (And.intro hd ff) ?_)
        | (with_reducible refine GQ_decF ?_ (fun hd => ?_); (· try clear ff; first | assumption | omega); refine st_by (And.intro hd ff) ?_)
        | (with_reducible refine GQ_dec (fun hp hd => ?_) (fun hp hd => ?_) <;> refine st_by (And.intro hd ff) ?_)
        | (with_reducible refine GQ_ndT ?_ (fun hd => ?_); (· try clear ff; first | assumption | omega); refine st_by (And.intro hd ff) ?_)
        | (with_reducible refine GQ_ndF ?_ (fun hd => ?_); (· try clear ff; first | assumption | omega); refine st_by (And.intro hd ff) ?_)
        | (with_reducible refine GQ_nd (fun hp hd => ?_) (fun hp hd => ?_) <;> refine st_by (And.intro hd ff) ?_)
        | (refine GQ_nb (fun hd => ?_) (fun hd => ?_) <;> refine st_by (And.intro hd ff) ?_)
        | (refine GQ_bool (fun hd => ?_) (fun hd => ?_) <;> refine st_by (And.intro hd ff) ?_))
      all_goals try clear ff
theorem eqPrefabS_does (l k : List GPrefab) (hl : l.length ≤ 9223372036854775807) (hk : k.length ≤ 9223372036854775807) (hx : ∀ x ∈ l, wfPrefab 9223372036854775807 x) (hy : ∀ x ∈ k, wfPrefab 9223372036854775807 x) : Does Tryd.prog 11 [.row false 3 l.length (esPrefab l), .row false 3 k.length (esPrefab k)] (B (decide (l = k))) := by
  refine Does.walk (nt := 27) Tryd.func11 rfl rfl (by simp) (by decide) rfl (fun G0 X w0 pv => ?_)
  have ff := And.intro @Ty.sl27 (And.intro @Ty.slz27 (And.intro @Ty.nz54 (And.intro @Ty.ldA54 (And.intro @Ty.sz54 @Ty.szn54))))
  try refine st_by ff ?_
  repeat' (first
    | exact trivial
    | (refine And.intro ?_ ?_; · (try clear ff; first | omega))
    | (refine ret_q1 rfl ?_; (try refine sr_by ff ?_); all_goals (try clear ff); all_goals (try exact trivial); all_goals ((have : ¬ l = k := fun e => by subst e; omega); simp [this]))
    | (refine aw_drawn (id := 6) ?_ [[], [], [0, 1], [0, 1, 2], [], [], [4, 5], [4, 5, 6], [0, 1, 2, 3, 4, 5, 6, 7], [0, 1, 2, 3, 4, 5, 6, 7, 8]] 8 ?_ ?_; (· kernel_rfl); (· kernel_rfl); refine st_by ff ?_)
    | (with_reducible refine CBC_eq (fun hp hd => ?_) (fun hp hd => ?_) <;> refine st_by (And.intro hd ff) ?_)
    | (with_reducible refine CBC_ne (fun hp hd => ?_) (fun hp hd => ?_) <;> refine st_by (And.intro hd ff) ?_)
    | (with_reducible refine CBC_decT ?_ (fun hd => ?_); (· try clear ff; first | assumption | omega); refine st_by (And.intro hd ff) ?_)
    | (with_reducible refine CBC_decF ?_ (fun hd => ?_); (· try clear ff; first | assumption | omega); refine st_by (And.intro hd ff) ?_)
    | (with_reducible refine CBC_dec (fun hp hd => ?_) (fun hp hd => ?_) <;> refine st_by (And.intro hd ff) ?_)
    | (refine CBC_bool (fun hd => ?_) (fun hd => ?_) <;> refine st_by (And.intro hd ff) ?_)
    | (with_reducible refine GQ_eq (fun hp hd => ?_) (fun hp hd => ?_) <;> refine st_by (And.intro hd ff) ?_)
    | (with_reducible refine GQ_ne (fun hp hd => ?_) (fun hp hd => ?_) <;> refine st_by (And.intro hd ff) ?_)
    | (with_reducible refine GQ_decT ?_ (fun hd => ?_); (· try clear ff; first | assumption | omega); refine st_by (And.intro hd ff) ?_)
    | (with_reducible refine GQ_decF ?_ (fun hd => ?_); (· try clear ff; first | assumption | omega); refine st_by (And.intro hd ff) ?_)
    | (with_reducible refine GQ_dec (fun hp hd => ?_) (fun hp hd => ?_) <;> refine st_by (And.intro hd ff) ?_)
    | (with_reducible refine GQ_ndT ?_ (fun hd => ?_); (· try clear ff; first | assumption | omega); refine st_by (And.intro hd ff) ?_)
    | (with_reducible refine GQ_ndF ?_ (fun hd => ?_); (· try clear ff; first | assumption | omega); refine st_by (And.intro hd ff) ?_)
    | (with_reducible refine GQ_nd (fun hp hd => ?_) (fun hp hd => ?_) <;> refine st_by (And.intro hd ff) ?_)
    | (refine GQ_nb (fun hd => ?_) (fun hd => ?_) <;> refine st_by (And.intro hd ff) ?_)
    | (refine GQ_bool (fun hd => ?_) (fun hd => ?_) <;> refine st_by (And.intro hd ff) ?_)
    | (with_reducible refine GD_eq (fun hp hd => ?_) (fun hp hd => ?_) <;> refine st_by (And.intro hd ff) ?_)
    | (with_reducible refine GD_ne (fun hp hd => ?_) (fun hp hd => ?_) <;> refine st_by (And.intro hd ff) ?_)
    | (with_reducible refine GD_decT ?_ (fun hd => ?_); (· try clear ff; first | assumption | omega); refine st_by (And.intro hd ff) ?_)
    | (with_reducible refine GD_decF ?_ (fun hd => ?_); (· try clear ff; first | assumption | omega); refine st_by (And.intro hd ff) ?_)
    | (with_reducible refine GD_dec (fun hp hd => ?_) (fun hp hd => ?_) <;> refine st_by (And.intro hd ff) ?_)
    | (with_reducible refine GD_ndT ?_ (fun hd => ?_); (· try clear ff; first | assumption | omega); refine st_by (And.intro hd ff) ?_)
    | (with_reducible refine GD_ndF ?_ (fun hd => ?_); (· try clear ff; first | assumption | omega); refine st_by (And.intro hd ff) ?_)
    | (with_reducible refine GD_nd (fun hp hd => ?_) (fun hp hd => ?_) <;> refine st_by (And.intro hd ff) ?_)
    | (refine GD_nb (fun hd => ?_) (fun hd => ?_) <;> refine st_by (And.intro hd ff) ?_)
    | (refine GD_bool (fun hd => ?_) (fun hd => ?_) <;> refine st_by (And.intro hd ff) ?_))
  all_goals try clear ff
  have hlk : l.length = k.length := by omega
  refine aw_loop (ι := Nat) (fun i σ => (i ≤ l.length ∧ l.take i = k.take i) ∧ σ.t 0 = .row false 3 l.length (esPrefab l) ∧ σ.t 1 = .row false 3 k.length (esPrefab k) ∧ σ.t 5 = I i) (fun i => l.length - i) 0 ?_ ?_
  · (first | exact cl_by trivial | refine st_by trivial ?_)
    try simp
  · rintro i σ ⟨⟨h2, h3⟩, g0, g1, g5⟩
    by_cases hi : i < l.length
    · have hi' : i < k.length := by omega
      have w2 : IntKind.i64.wrap ((i : Int) + 1) = ((i + 1 : Nat) : Int) := wI _ (by omega) (by omega)
      have hne : ¬ l[i] = k[i] → ¬ l = k := fun h e => h (by subst e; rfl)
      have heq : l[i] = k[i] → l.take (i + 1) = k.take (i + 1) := fun h => by rw [List.take_succ_eq_append_getElem hi, List.take_succ_eq_append_getElem hi', h3, h]
      have hx0 := hx l[i] (List.getElem_mem hi)
      have hy0 := hy k[i] (List.getElem_mem hi')
      have ff := And.intro @g0 (And.intro @g1 (And.intro @g5 (And.intro @w2 (And.intro @hi (And.intro @hi' (And.intro ((esPrefab_drop l i hi)) (And.intro @esPrefab_len (And.intro @ePrefab_eq (And.intro ((esPrefab_drop k i hi')) (And.intro @str_beq (And.intro @Ty.sl27 (And.intro @Ty.slz27 (And.intro @Ty.nz54 (And.intro @Ty.ldA54 (And.intro @Ty.sz54 @Ty.szn54)))))))))))))))
      try refine st_by ff ?_
      repeat' (first
        | exact trivial
        | (refine And.intro ?_ ?_; · (try clear ff; first | omega | (rw [List.length_append]; simp [esPrefab_len]; omega) | (simp [ePrefab]; done) | decide | (simp [esPrefab_len]; omega) | rfl))
        | (refine ret_q1 rfl ?_; (try refine sr_by ff ?_); all_goals (try clear ff); all_goals (try exact trivial); all_goals (simp [hne (by simpa using hp)]))
        | (with_reducible refine cq_call (eqPrefab_does l[i] k[i] hx0 hy0) ?_ ?_ ⟨?_, ?_⟩; (· first | rfl | exact cl_by ff); (· first | assumption | kernel_rfl); (· first | exact ca_by ff | (refine sa_by ff ?_; try clear ff; first | exact trivial | omega | (rw [List.length_append]; simp [esPrefab_len]; omega) | (simp [ePrefab]; done) | decide | (simp [esPrefab_len]; omega) | rfl)); refine st_by ff ?_)
        | (with_reducible refine cq_dcall (eqPrefab_does l[i] k[i] hx0 hy0) ?_ ?_ ⟨?_, ?_⟩; (· first | rfl | exact cl_by ff); (· first | assumption | kernel_rfl); (· first | exact ca_by ff | (refine sa_by ff ?_; try clear ff; first | exact trivial | omega | (rw [List.length_append]; simp [esPrefab_len]; omega) | (simp [ePrefab]; done) | decide | (simp [esPrefab_len]; omega) | rfl)); refine st_by ff ?_)
        | (refine aw_drawn (id := 6) ?_ [[], [], [0, 1], [0, 1, 2], [], [], [4, 5], [4, 5, 6], [0, 1, 2, 3, 4, 5, 6, 7], [0, 1, 2, 3, 4, 5, 6, 7, 8]] 8 ?_ ?_; (· kernel_rfl); (· kernel_rfl); refine st_by ff ?_)
        | (with_reducible refine CBC_eq (fun hp hd => ?_) (fun hp hd => ?_) <;> refine st_by (And.intro hd ff) ?_)
        | (with_reducible refine CBC_ne (fun hp hd => ?_) (fun hp hd => ?_) <;> refine st_by (And.intro hd ff) ?_)
        | (with_reducible refine CBC_decT ?_ (fun hd => ?_); (· try clear ff; first | assumption | omega); refine st_by (And.intro hd ff) ?_)
        | (with_reducible refine CBC_decF ?_ (fun hd => ?_); (· try clear ff; first | assumption | omega); refine st_by (And.intro hd ff) ?_)
        | (with_reducible refine CBC_dec (fun hp hd => ?_) (fun hp hd => ?_) <;> refine st_by (And.intro hd ff) ?_)
        | (refine CBC_bool (fun hd => ?_) (fun hd => ?_) <;> refine st_by (And.intro hd ff) ?_)
        | (with_reducible refine GQ_eq (fun hp hd => ?_) (fun hp hd => ?_) <;> refine st_by (And.intro hd ff) ?_)
        | (with_reducible refine GQ_ne (fun hp hd => ?_) (fun hp hd => ?_) <;> refine st_by (And.intro hd ff) ?_)
        | (with_reducible refine GQ_decT ?_ (fun hd => ?_); (· try clear ff; first | assumption | omega); refine st_by (And.intro hd ff) ?_)
        | (with_reducible refine GQ_decF ?_ (fun hd => ?_); (· try clear ff; first | assumption | omega); refine st_by (And.intro hd ff) ?_)
        | (with_reducible refine GQ_dec (fun hp hd => ?_) (fun hp hd => ?_) <;> refine st_by (And.intro hd ff) ?_)
        | (with_reducible refine GQ_ndT ?_ (fun hd => ?_); (· try clear ff; first | assumption | omega); refine st_by (And.intro hd ff) ?_)
        | (with_reducible refine GQ_ndF ?_ (fun hd => ?_); (· try clear ff; first | assumption | omega); refine st_by (And.intro hd ff) ?_)
        | (with_reducible refine GQ_nd (fun hp hd => ?_) (fun hp hd => ?_) <;> refine st_by (And.intro hd ff) ?_)
        | (refine GQ_nb (fun hd => ?_) (fun hd => ?_) <;> refine st_by (And.intro hd ff) ?_)
        | (refine GQ_bool (fun hd => ?_) (fun hd => ?_) <;> refine st_by (And.intro hd ff) ?_)
        | (with_reducible refine GD_eq (fun hp hd => ?_) (fun hp hd => ?_) <;> refine st_by (And.intro hd ff) ?_)
        | (with_reducible refine GD_ne (fun hp hd => ?_) (fun hp hd => ?_) <;> refine st_by (And.intro hd ff) ?_)
        | (with_reducible refine GD_decT ?_ (fun hd => ?_); (· try clear ff; first | assumption | omega); refine st_by (And.intro hd ff) ?_)
        | (with_reducible refine GD_decF ?_ (fun hd => ?_); (· try clear ff; first | assumption | omega); refine st_by (And.intro hd ff) ?_)
        | (with_reducible refine GD_dec (fun hp hd => ?_) (fun hp hd => ?_) <;> refine st_by (And.intro hd ff) ?_)
        | (with_reducible refine GD_ndT ?_ (fun hd => ?_); (· try clear ff; first | assumption | omega); refine st_by (And.intro hd ff) ?_)
        | (with_reducible refine GD_ndF ?_ (fun hd => ?_); (· try clear ff; first | assumption | omega); refine st_by (And.intro hd ff) ?_)
        | (with_reducible refine GD_nd (fun hp hd => ?_) (fun hp hd => ?_) <;> refine st_by (And.intro hd ff) ?_)
        | (refine GD_nb (fun hd => ?_) (fun hd => ?_) <;> refine st_by (And.intro hd ff) ?_)
        | (refine GD_bool (fun hd => ?_) (fun hd => ?_) <;> refine st_by (And.intro hd ff) ?_)
        | ((try clear ff); refine ⟨i + 1, ⟨⟨?_, heq ?_⟩, rfl⟩, ?_⟩; (· omega); (· simpa using hp); (· omega)))
      all_goals try clear ff
    · have e1 : l = k := by rw [List.take_of_length_le (by omega), List.take_of_length_le (by omega)] at h3; exact h3
      have ff := And.intro @g0 (And.intro @g1 (And.intro @g5 (And.intro @Ty.sl27 (And.intro @Ty.slz27 (And.intro @Ty.nz54 (And.intro @Ty.ldA54 (And.intro @Ty.sz54 @Ty.szn54)))))))
      try refine st_by ff ?_
      repeat' (first
        | exact trivial
        | (refine And.intro ?_ ?_; · (try clear ff; first | omega))
        | (refine ret_q1 rfl ?_; (try refine sr_by ff ?_); all_goals (try clear ff); all_goals (try exact trivial); all_goals (simp [e1]))
        | (refine aw_drawn (id := 6) ?_ [[], [], [0, 1], [0, 1, 2], [], [], [4, 5], [4, 5, 6], [0, 1, 2, 3, 4, 5, 6, 7], [0, 1, 2, 3, 4, 5, 6, 7, 8]] 8 ?_ ?_; (· kernel_rfl); (· kernel_rfl); refine st_by ff ?_)
        | (with_reducible refine CBC_eq (fun hp hd => ?_) (fun hp hd => ?_) <;> refine st_by (And.intro hd ff) ?_)
        | (with_reducible refine CBC_ne (fun hp hd => ?_) (fun hp hd => ?_) <;> refine st_by (And.intro hd ff) ?_)
        | (with_reducible refine CBC_decT ?_ (fun hd => ?_); (· try clear ff; first | assumption | omega); refine st_by (And.intro hd ff) ?_)
        | (with_reducible refine CBC_decF ?_ (fun hd => ?_); (· try clear ff; first | assumption | omega); refine st_by (And.intro hd ff) ?_)
        | (with_reducible refine CBC_dec (fun hp hd => ?_) (fun hp hd => ?_) <;> refine st_by (And.intro hd ff) ?_)
        | (refine CBC_bool (fun hd => ?_) (fun hd => ?_) <;> refine st_by (And.intro hd ff) ?_)
        | (with_reducible refine GQ_eq (fun hp hd => ?_) (fun hp hd => ?_) <;> refine st_by (And.intro hd ff) ?_)
        | (with_reducible refine GQ_ne (fun hp hd => ?_) (fun hp hd => ?_) <;> refine st_by (And.intro hd ff) ?_)
        | (with_reducible refine GQ_decT ?_ (fun hd => ?_); (· try clear ff; first | assumption | omega); refine st_by (And.intro hd ff) ?_)
        | (with_reducible refine GQ_decF ?_ (fun hd => ?_); (· try clear ff; first | assumption | omega); refine st_by (And.intro hd ff) ?_)
        | (with_reducible refine GQ_dec (fun hp hd => ?_) (fun hp hd => ?_) <;> refine st_by (And.intro hd ff) ?_)
        | (with_reducible refine GQ_ndT ?_ (fun hd => ?_); (· try clear ff; first | assumption | omega); refine st_by (And.intro hd ff) ?_)
        | (with_reducible refine GQ_ndF ?_ (fun hd => ?_); (· try clear ff; first | assumption | omega); refine st_by (And.intro hd ff) ?_)
        | (with_reducible refine GQ_nd (fun hp hd => ?_) (fun hp hd => ?_) <;> refine st_by (And.intro hd ff) ?_)
        | (refine GQ_nb (fun hd => ?_) (fun hd => ?_) <;> refine st_by (And.intro hd ff) ?_)
        | (refine GQ_bool (fun hd => ?_) (fun hd => ?_) <;> refine st_by (And.intro hd ff) ?_)
        | (with_reducible refine GD_eq (fun hp hd => ?_) (fun hp hd => ?_) <;> refine st_by (And.intro hd ff) ?_)
        | (with_reducible refine GD_ne (fun hp hd => ?_) (fun hp hd => ?_) <;> refine st_by (And.intro hd ff) ?_)
        | (with_reducible refine GD_decT ?_ (fun hd => ?_); (· try clear ff; first | assumption | omega); refine st_by (And.intro hd ff) ?_)
        | (with_reducible refine GD_decF ?_ (fun hd => ?_); (· try clear ff; first | assumption | omega); refine st_by (And.intro hd ff) ?_)
        | (with_reducible refine GD_dec (fun hp hd => ?_) (fun hp hd => ?_) <;> refine st_by (And.intro hd ff) ?_)
        | (with_reducible refine GD_ndT ?_ (fun hd => ?_); (· try clear ff; first | assumption | omega); refine st_by (And.intro hd ff) ?_)
        | (with_reducible refine GD_ndF ?_ (fun hd => ?_); (· try clear ff; first | assumption | omega); refine st_by (And.intro hd ff) ?_)
        | (with_reducible refine GD_nd (fun hp hd => ?_) (fun hp hd => ?_) <;> refine st_by (And.intro hd ff) ?_)
        | (refine GD_nb (fun hd => ?_) (fun hd => ?_) <;> refine st_by (And.intro hd ff) ?_)
        | (refine GD_bool (fun hd => ?_) (fun hd => ?_) <;> refine st_by (And.intro hd ff) ?_))
      all_goals try clear ff
def mPrefab (x : GPrefab) (k : Int) : GPrefab := { x with Name := mtext (k), From := mtext (k + 1), Props := (markL mProp cProp) x.Props (k + 2) }
def cPrefab (x : GPrefab) : Nat := 2 + (cntL cProp) x.Props
theorem markPrefabS_does (l : List GPrefab) (k : Int) (h0 : 0 ≤ k) (hk : k + cntL cPrefab l ≤ 4611686018427387904) (hl : l.length ≤ 9223372036854775807) (hx : ∀ x ∈ l, wfPrefab 9223372036854775807 x) :
    DoesX Tryd.prog 12 [.sl 1000 [] 0 l.length, I k] [.row true 3 l.length (esPrefabo l)] (I (k + cntL cPrefab l)) [.row true 3 l.length (esPrefabo (markL mPrefab cPrefab l k))] := by
  refine DoesX.walk (nt := 36) Tryd.func12 rfl rfl (by simp) (by decide) rfl (fun G0 X w0 pv => ?_)
  have ff := And.intro @Ty.sl27 (And.intro @Ty.slz27 (And.intro @Ty.nz9 (And.intro @Ty.ldA9 (And.intro @Ty.ldS9 (And.intro @Ty.sz9 (And.intro @Ty.szn9 (And.intro @Ty.nz24 (And.intro @Ty.ldA24 (And.intro @Ty.ldS24 (And.intro @Ty.sz24 (And.intro @Ty.szn24 (And.intro @Ty.fo54_0 (And.intro @Ty.fk54_0 (And.intro @Ty.fs54_0 (And.intro @Ty.fn54_0 (And.intro @Ty.fo54_1 (And.intro @Ty.fk54_1 (And.intro @Ty.fs54_1 (And.intro @Ty.fn54_1 (And.intro @Ty.fo54_2 (And.intro @Ty.fk54_2 (And.intro @Ty.fs54_2 @Ty.fn54_2))))))))))))))))))))))
  try refine st_by ff ?_
  repeat' (first
    | exact trivial
    | (refine And.intro ?_ ?_; · (try clear ff; first | omega))
    | (refine ret_q1 rfl ?_; (try refine sr_by ff ?_); all_goals (try clear ff); all_goals (try exact trivial); all_goals (skip))
    | (with_reducible refine CBC_eq (fun hp hd => ?_) (fun hp hd => ?_) <;> refine st_by (And.intro hd ff) ?_)
    | (with_reducible refine CBC_ne (fun hp hd => ?_) (fun hp hd => ?_) <;> refine st_by (And.intro hd ff) ?_)
    | (with_reducible refine CBC_decT ?_ (fun hd => ?_); (· try clear ff; first | assumption | omega); refine st_by (And.intro hd ff) ?_)
    | (with_reducible refine CBC_decF ?_ (fun hd => ?_); (· try clear ff; first | assumption | omega); refine st_by (And.intro hd ff) ?_)
    | (with_reducible refine CBC_dec (fun hp hd => ?_) (fun hp hd => ?_) <;> refine st_by (And.intro hd ff) ?_)
    | (refine CBC_bool (fun hd => ?_) (fun hd => ?_) <;> refine st_by (And.intro hd ff) ?_)
    | (with_reducible refine GQ_eq (fun hp hd => ?_) (fun hp hd => ?_) <;> refine st_by (And.intro hd ff) ?_)
    | (with_reducible refine GQ_ne (fun hp hd => ?_) (fun hp hd => ?_) <;> refine st_by (And.intro hd ff) ?_)
    | (with_reducible refine GQ_decT ?_ (fun hd => ?_); (· try clear ff; first | assumption | omega); refine st_by (And.intro hd ff) ?_)
    | (with_reducible refine GQ_decF ?_ (fun hd => ?_); (· try clear ff; first | assumption | omega); refine st_by (And.intro hd ff) ?_)
    | (with_reducible refine GQ_dec (fun hp hd => ?_) (fun hp hd => ?_) <;> refine st_by (And.intro hd ff) ?_)
    | (with_reducible refine GQ_ndT ?_ (fun hd => ?_); (· try clear ff; first | assumption | omega); refine st_by (And.intro hd ff) ?_)
    | (with_reducible refine GQ_ndF ?_ (fun hd => ?_); (· try clear ff; first | assumption | omega); refine st_by (And.intro hd ff) ?_)
    | (with_reducible refine GQ_nd (fun hp hd => ?_) (fun hp hd => ?_) <;> refine st_by (And.intro hd ff) ?_)
    | (refine GQ_nb (fun hd => ?_) (fun hd => ?_) <;> refine st_by (And.intro hd ff) ?_)
    | (refine GQ_bool (fun hd => ?_) (fun hd => ?_) <;> refine st_by (And.intro hd ff) ?_))
  all_goals try clear ff
  refine aw_loop (ι := Nat) (fun i σ => (i ≤ l.length) ∧ σ.t 0 = .sl 1000 [] 0 l.length ∧ σ.t 1 = I (k + cntL cPrefab (l.take i)) ∧ σ.t 5 = I i ∧ σ.m 1000 = some (.row true 3 l.length (esPrefabo (midL mPrefab cPrefab l k i)))) (fun i => l.length - i) 0 ?_ ?_
  · (first | exact cl_by trivial | refine st_by trivial ?_)
    simp [midL_zero, cntL]
  · rintro i σ ⟨h2, g0, g1, g5, m1⟩
    by_cases hi : i < l.length
    · have w2 : IntKind.i64.wrap ((i : Int) + 1) = ((i + 1 : Nat) : Int) := wI _ (by omega) (by omega)
      have hc := cntL_lt (c := cPrefab) l i hi
      have hc1 := cntL_take (c := cPrefab) l i hi
      have hmid := midL_set (f := mPrefab) (c := cPrefab) l k i hi
      have hmq : (midL mPrefab cPrefab l k i)[i]? = some l[i] := by rw [List.getElem?_eq_getElem (by rw [midL_len]; exact hi), midL_get l k i hi]
      have hmi : i < (midL mPrefab cPrefab l k i).length := by rw [midL_len]; exact hi
      have hmidl := midL_len (f := mPrefab) (c := cPrefab) l k i
      simp only [cPrefab] at hc hc1
      have hx0 := hx l[i] (List.getElem_mem hi)
      unfold wfPrefab at hx0
      generalize midL mPrefab cPrefab l k i = L at m1 hmid hmq hmi hmidl
      have hms : ∀ a, i < (L.set i a).length := fun a => by rw [List.length_set]; exact hmi
      have hmg : L[i] = l[i] := by rw [List.getElem?_eq_getElem hmi] at hmq; simpa using hmq
      generalize hn : k + (cntL cPrefab (l.take i) : Int) = n at g1 hmid
      obtain ⟨hb1, hb2⟩ := cnt_step hn h0 hk hc
      have hF := cnt_next hn hc1
      clear hc hc1 hk hn
      have wk0 : IntKind.i64.wrap (n + 1) = n + 1 := wE (by omega) (by omega) (by omega)
      have wk1 : IntKind.i64.wrap (n + 1 + 1) = n + 2 := wE (by omega) (by omega) (by omega)
      have hg_Props := fun a => esPrefabo_get_Props (L.set i a) i (hms a)
      have hh_Props := esPrefabo_get_Props L i hmi
      simp only [lget_set] at hg_Props
      have hd_Props := fun a => getD_of (hg_Props a)
      have he_Props := getD_of hh_Props
      have hs_Props : ∀ k : Int, (esPrefabo L).set (i * 3 + 2) (.row true 2 L[i].Props.length (esProp ((markL mProp cProp) L[i].Props k))) = esPrefabo (L.set i { L[i] with Props := (markL mProp cProp) L[i].Props k }) := fun k => by have := esPrefabo_set_Props L i ((markL mProp cProp) L[i].Props k) hmi; rw [markL_len] at this; exact this
      have ht_Props : ∀ (a : GPrefab) (k : Int), (esPrefabo (L.set i a)).set (i * 3 + 2) (.row true 2 a.Props.length (esProp ((markL mProp cProp) a.Props k))) = esPrefabo (L.set i { a with Props := (markL mProp cProp) a.Props k }) := fun a k => by have := esPrefabo_set_Props (L.set i a) i ((markL mProp cProp) a.Props k) (hms a); rw [markL_len] at this; simp only [lget_set, lset_set] at this; exact this
      simp only [hmg] at hs_Props hh_Props he_Props
      have ff := And.intro @g0 (And.intro @g1 (And.intro @g5 (And.intro @m1 (And.intro @w2 (And.intro @wk0 (And.intro @wk1 (And.intro @hi (And.intro @hmi (And.intro @hmg (And.intro ((fun v => esPrefabo_set_Name L i v hmi)) (And.intro ((fun a v => esPrefabo_set_Name (L.set i a) i v (hms a))) (And.intro ((fun v => esPrefabo_set_From L i v hmi)) (And.intro ((fun a v => esPrefabo_set_From (L.set i a) i v (hms a))) (And.intro @hg_Props (And.intro @hh_Props (And.intro @hd_Props (And.intro @he_Props (And.intro @hs_Props (And.intro @ht_Props (And.intro @esPrefabo_len (And.intro @lset_len (And.intro @lget_set (And.intro @lset_set (And.intro @Ty.sl27 (And.intro @Ty.slz27 (And.intro @Ty.nz9 (And.intro @Ty.ldA9 (And.intro @Ty.ldS9 (And.intro @Ty.sz9 (And.intro @Ty.szn9 (And.intro @Ty.nz24 (And.intro @Ty.ldA24 (And.intro @Ty.ldS24 (And.intro @Ty.sz24 (And.intro @Ty.szn24 (And.intro @Ty.fo54_0 (And.intro @Ty.fk54_0 (And.intro @Ty.fs54_0 (And.intro @Ty.fn54_0 (And.intro @Ty.fo54_1 (And.intro @Ty.fk54_1 (And.intro @Ty.fs54_1 (And.intro @Ty.fn54_1 (And.intro @Ty.fo54_2 (And.intro @Ty.fk54_2 (And.intro @Ty.fs54_2 @Ty.fn54_2))))))))))))))))))))))))))))))))))))))))))))))
      try refine st_by ff ?_
      repeat' (first
        | exact trivial
        | (refine And.intro ?_ ?_; · (try clear ff; first | omega | (simp [esPrefabo_len, hmidl]; omega) | decide | (simp; done)))
        | (refine ret_q1 rfl ?_; (try refine sr_by ff ?_); all_goals (try clear ff); all_goals (try exact trivial); all_goals (skip))
        | (with_reducible refine cq_call (markText_does (n) (by omega)) ?_ ?_ ⟨?_, ?_⟩; (· first | rfl | exact cl_by ff); (· first | assumption | kernel_rfl); (· first | exact ca_by ff | (refine sa_by ff ?_; try clear ff; first | exact trivial | omega | (simp [esPrefabo_len, hmidl]; omega) | decide | (simp; done))); refine st_by ff ?_)
        | (with_reducible refine cq_call (markText_does (n + 1) (by omega)) ?_ ?_ ⟨?_, ?_⟩; (· first | rfl | exact cl_by ff); (· first | assumption | kernel_rfl); (· first | exact ca_by ff | (refine sa_by ff ?_; try clear ff; first | exact trivial | omega | (simp [esPrefabo_len, hmidl]; omega) | decide | (simp; done))); refine st_by ff ?_)
        | (with_reducible refine cq_Xs [(1000, [i * 3 + 2])] (markPropS_does l[i].Props (n + 2) (by omega) (by omega) hx0.2.2.1) ?_ ?_ ?_ ⟨?_, ?_⟩; (· first | rfl | exact cl_by ff); (· first | assumption | kernel_rfl); (· first | decide | simp); (· first | exact ca_by ff | (refine sa_by ff ?_; try clear ff; first | exact trivial | omega | (simp [esPrefabo_len, hmidl]; omega) | decide | (simp; done))); refine st_by ff ?_)
        | (with_reducible refine CBC_eq (fun hp hd => ?_) (fun hp hd => ?_) <;> refine st_by (And.intro hd ff) ?_)
        | (with_reducible refine CBC_ne (fun hp hd => ?_) (fun hp hd => ?_) <;> refine st_by (And.intro hd ff) ?_)
        | (with_reducible refine CBC_decT ?_ (fun hd => ?_); (· try clear ff; first | assumption | omega); refine st_by (And.intro hd ff) ?_)
        | (with_reducible refine CBC_decF ?_ (fun hd => ?_); (· try clear ff; first | assumption | omega); refine st_by (And.intro hd ff) ?_)
        | (with_reducible refine CBC_dec (fun hp hd => ?_) (fun hp hd => ?_) <;> refine st_by (And.intro hd ff) ?_)
        | (refine CBC_bool (fun hd => ?_) (fun hd => ?_) <;> refine st_by (And.intro hd ff) ?_)
        | (with_reducible refine GQ_eq (fun hp hd => ?_) (fun hp hd => ?_) <;> refine st_by (And.intro hd ff) ?_)
        | (with_reducible refine GQ_ne (fun hp hd => ?_) (fun hp hd => ?_) <;> refine st_by (And.intro hd ff) ?_)
        | (with_reducible refine GQ_decT ?_ (fun hd => ?_); (· try clear ff; first | assumption | omega); refine st_by (And.intro hd ff) ?_)
        | (with_reducible refine GQ_decF ?_ (fun hd => ?_); (· try clear ff; first | assumption | omega); refine st_by (And.intro hd ff) ?_)
        | (with_reducible refine GQ_dec (fun hp hd => ?_) (fun hp hd => ?_) <;> refine st_by (And.intro hd ff) ?_)
        | (with_reducible refine GQ_ndT ?_ (fun hd => ?_); (· try clear ff; first | assumption | omega); refine st_by (And.intro hd ff) ?_)
        | (with_reducible refine GQ_ndF ?_ (fun hd => ?_); (· try clear ff; first | assumption | omega); refine st_by (And.intro hd ff) ?_)
        | (with_reducible refine GQ_nd (fun hp hd => ?_) (fun hp hd => ?_) <;> refine st_by (And.intro hd ff) ?_)
        | (refine GQ_nb (fun hd => ?_) (fun hd => ?_) <;> refine st_by (And.intro hd ff) ?_)
        | (refine GQ_bool (fun hd => ?_) (fun hd => ?_) <;> refine st_by (And.intro hd ff) ?_)
        | ((try clear ff); refine ⟨i + 1, ⟨?_, ?_, ?_, ?_⟩, ?_⟩; (· omega); (· refine congrArg I ?_; first | (rw [← hF ()]; done) | (rw [← hF ()]; clear hF; omega)); (· rfl); (· rw [← hmid]; try simp only [mPrefab, hmg]); (· omega)))
      all_goals try clear ff
    · have e1 : midL mPrefab cPrefab l k i = markL mPrefab cPrefab l k := midL_all l k i (by omega)
      have e2 : l.take i = l := List.take_of_length_le (by omega)
      rw [e1] at m1
      rw [e2] at g1
      have ff := And.intro @g0 (And.intro @g1 (And.intro @g5 (And.intro @m1 (And.intro @Ty.sl27 (And.intro @Ty.slz27 (And.intro @Ty.nz9 (And.intro @Ty.ldA9 (And.intro @Ty.ldS9 (And.intro @Ty.sz9 (And.intro @Ty.szn9 (And.intro @Ty.nz24 (And.intro @Ty.ldA24 (And.intro @Ty.ldS24 (And.intro @Ty.sz24 (And.intro @Ty.szn24 (And.intro @Ty.fo54_0 (And.intro @Ty.fk54_0 (And.intro @Ty.fs54_0 (And.intro @Ty.fn54_0 (And.intro @Ty.fo54_1 (And.intro @Ty.fk54_1 (And.intro @Ty.fs54_1 (And.intro @Ty.fn54_1 (And.intro @Ty.fo54_2 (And.intro @Ty.fk54_2 (And.intro @Ty.fs54_2 @Ty.fn54_2))))))))))))))))))))))))))
      try refine st_by ff ?_
      repeat' (first
        | exact trivial
        | (refine And.intro ?_ ?_; · (try clear ff; first | omega))
        | (refine retX_q1 rfl ?_; (try refine sr_by ff ?_); all_goals (try clear ff); all_goals (try exact trivial); all_goals ((refine regsOk_one ?_; (first | exact cl_by @m1 | refine st_by @m1 ?_))))
        | (with_reducible refine CBC_eq (fun hp hd => ?_) (fun hp hd => ?_) <;> refine st_by (And.intro hd ff) ?_)
        | (with_reducible refine CBC_ne (fun hp hd => ?_) (fun hp hd => ?_) <;> refine st_by (And.intro hd ff) ?_)
        | (with_reducible refine CBC_decT ?_ (fun hd => ?_); (· try clear ff; first | assumption | omega); refine st_by (And.intro hd ff) ?_)
        | (with_reducible refine CBC_decF ?_ (fun hd => ?_); (· try clear ff; first | assumption | omega); refine st_by (And.intro hd ff) ?_)
        | (with_reducible refine CBC_dec (fun hp hd => ?_) (fun hp hd => ?_) <;> refine st_by (And.intro hd ff) ?_)
        | (refine CBC_bool (fun hd => ?_) (fun hd => ?_) <;> refine st_by (And.intro hd ff) ?_)
        | (with_reducible refine GQ_eq (fun hp hd => ?_) (fun hp hd => ?_) <;> refine st_by (And.intro hd ff) ?_)
        | (with_reducible refine GQ_ne (fun hp hd => ?_) (fun hp hd => ?_) <;> refine st_by (And.intro hd ff) ?_)
        | (with_reducible refine GQ_decT ?_ (fun hd => ?_); (· try clear ff; first | assumption | omega); refine st_by (And.intro hd ff) ?_)
        | (with_reducible refine GQ_decF ?_ (fun hd => ?_); (· try clear ff; first | assumption | omega); refine st_by (And.intro hd ff) ?_)
        | (with_reducible refine GQ_dec (fun hp hd => ?_) (fun hp hd => ?_) <;> refine st_by (And.intro hd ff) ?_)
        | (with_reducible refine GQ_ndT ?_ (fun hd => ?_); (· try clear ff; first | assumption | omega); refine st_by (And.intro hd ff) ?_)
        | (with_reducible refine GQ_ndF ?_ (fun hd => ?_); (· try clear ff; first | assumption | omega); refine st_by (And.intro hd ff) ?_)
        | (with_reducible refine GQ_nd (fun hp hd => ?_) (fun hp hd => ?_) <;> refine st_by (And.intro hd ff) ?_)
        | (refine GQ_nb (fun hd => ?_) (fun hd => ?_) <;> refine st_by (And.intro hd ff) ?_)
        | (refine GQ_bool (fun hd => ?_) (fun hd => ?_) <;> refine st_by (And.intro hd ff) ?_))
      all_goals try clear ff
end Go.Av
end
section
set_option linter.unusedSimpArgs false
set_option linter.unusedVariables false
set_option maxRecDepth 100000
namespace Go.Av
/-! Props and prefabs: what the laws' measures say, and their marks. -/
theorem szProps_nm {l : List GProp} {a : Int} (h0 : 0 ≤ a) (ha : a ≤ 1048576) (h : 0 ≤ szRow szProp l a) : l.length ≤ 1048576 ∧ ∀ x ∈ l, wfProp 1048576 x := by
  refine ⟨by have := szRow_len szProp_ok h0 h; omega, fun x hx => ?_⟩
  obtain ⟨b, h1, h2, h3⟩ := szRow_mem szProp_ok h0 h x hx
  have g1 := (szStep_of h3)
  have g2 := szStep_of (show 0 ≤ szStep (b - (x.Path.size : Int) - (x.Value.size : Int)) fun left => left from by rw [← g1.2]; exact h3)
  exact ⟨by have := g1.1; omega, by have := g1.1; have := g2.1; omega⟩
theorem szPrefab_wf {x : GPrefab} {a : Int} (h0 : 0 ≤ a) (ha : a ≤ 1048576) (h : 0 ≤ szPrefab x a) : wfPrefab 1048576 x := by
  have g1 := szStep_of h
  have g2 := szStep_of (show 0 ≤ szStep (a - (x.Name.size : Int) - (x.From.size : Int)) fun left => szStep (szRow szProp x.Props left) fun left => left from by rw [← g1.2]; exact h)
  have g3 := szStep_of (show 0 ≤ szStep (szRow szProp x.Props (a - (x.Name.size : Int) - (x.From.size : Int))) fun left => left from by rw [← g2.2, ← g1.2]; exact h)
  obtain ⟨h2, h3⟩ := szProps_nm g2.1 (by omega) g3.1
  exact ⟨by have := g1.1; omega, by have := g1.1; have := g2.1; omega, h2, h3⟩
theorem szPrefabs_nm {l : List GPrefab} {a : Int} (h0 : 0 ≤ a) (ha : a ≤ 1048576) (h : 0 ≤ szRow szPrefab l a) : l.length ≤ 1048576 ∧ ∀ x ∈ l, wfPrefab 1048576 x := by
  refine ⟨by have := szRow_len szPrefab_ok h0 h; omega, fun x hx => ?_⟩
  obtain ⟨b, h1, h2, h3⟩ := szRow_mem szPrefab_ok h0 h x hx
  exact szPrefab_wf h1 (by omega) h3
theorem wfPf_ok {x : GPrefab} (h : wfPrefab 1048576 x) : okPf x := ⟨h.1, h.2.2.1, fun y hy => (h.2.2.2 y hy).1⟩
theorem cntL_bdM {α : Type} {c : α → Nat} {K : Nat} : ∀ {l : List α}, (∀ x ∈ l, c x ≤ K) → cntL c l ≤ K * l.length
  | [], _ => by simp [cntL]
  | x :: r, h => by
    have := cntL_bdM (l := r) (fun y hy => h y (by simp [hy]))
    have := h x (by simp)
    simp only [cntL, List.length_cons, Nat.mul_succ]; omega
theorem cProps (l : List GProp) : cntL cProp l = 2 * l.length := cntL_k (fun _ => rfl) l
theorem cPrefabs {l : List GPrefab} (h : l.length ≤ 1048576) (hx : ∀ x ∈ l, wfPrefab 1048576 x) : cntL cPrefab l ≤ 2199025352704 := by
  have := cntL_bdM (c := cPrefab) (K := 2097154) (l := l) (fun x h => by
    have := (hx x h).2.2.1
    unfold cPrefab; rw [cProps]; omega)
  omega
theorem markProp_idem : ∀ (l : List GProp) (k : Int), markL mProp cProp (markL mProp cProp l k) k = markL mProp cProp l k
  | [], k => rfl
  | x :: r, k => by simp only [markL, mProp, cProp]; rw [markProp_idem r]
end Go.Av
end
section
set_option linter.unusedSimpArgs false
set_option linter.unusedVariables false
set_option maxRecDepth 100000
set_option maxHeartbeats 1000000
namespace Go.Av
open Go.Proofs
/-! The law of OverridesOf. -/
theorem lawOV_does (l : List GPrefab) (t : ByteArray) (w : List GProp) (hl : l.length ≤ 9223372036854775807) (hx : ∀ x ∈ l, wfPrefab 9223372036854775807 x) (ht : t.size ≤ 9223372036854775807) (hw : w.length ≤ 9223372036854775807) (hy : ∀ x ∈ w, wfProp 9223372036854775807 x) : Does Tryd.prog 4 [.row false 3 l.length (esPrefab l), S t, .row false 2 w.length (esProp w)] (B true) := by
  refine Does.walk (nt := 127) Tryd.func4 rfl rfl (by simp) (by decide) rfl (fun G0 X w0 pv => ?_)
  have ff := And.intro @Ty.str9 (And.intro @Ty.bl4 (And.intro @Ty.sl24 (And.intro @Ty.slz24 (And.intro @Ty.sl27 @Ty.slz27))))
  try refine st_by ff ?_
  repeat' (first
    | exact trivial
    | (refine And.intro ?_ ?_; · (try clear ff; first | omega))
    | (refine ret_q1 rfl ?_; (try refine sr_by ff ?_); all_goals (try clear ff); all_goals (try exact trivial); all_goals (rfl))
    | (with_reducible refine cq_call (szPrefabS_does l 1048576 (by decide) (by decide) hl hx) ?_ ?_ ⟨?_, ?_⟩; (· first | rfl | exact cl_by ff); (· first | assumption | kernel_rfl); (· first | exact ca_by ff | (refine sa_by ff ?_; try clear ff; first | exact trivial | omega)); refine st_by ff ?_)
    | (with_reducible refine CBC_eq (fun hp hd => ?_) (fun hp hd => ?_) <;> refine st_by (And.intro hd ff) ?_)
    | (with_reducible refine CBC_ne (fun hp hd => ?_) (fun hp hd => ?_) <;> refine st_by (And.intro hd ff) ?_)
    | (with_reducible refine CBC_decT ?_ (fun hd => ?_); (· try clear ff; first | assumption | omega); refine st_by (And.intro hd ff) ?_)
    | (with_reducible refine CBC_decF ?_ (fun hd => ?_); (· try clear ff; first | assumption | omega); refine st_by (And.intro hd ff) ?_)
    | (with_reducible refine CBC_dec (fun hp hd => ?_) (fun hp hd => ?_) <;> refine st_by (And.intro hd ff) ?_)
    | (refine CBC_bool (fun hd => ?_) (fun hd => ?_) <;> refine st_by (And.intro hd ff) ?_)
    | (with_reducible refine GQ_eq (fun hp hd => ?_) (fun hp hd => ?_) <;> refine st_by (And.intro hd ff) ?_)
    | (with_reducible refine GQ_ne (fun hp hd => ?_) (fun hp hd => ?_) <;> refine st_by (And.intro hd ff) ?_)
    | (with_reducible refine GQ_decT ?_ (fun hd => ?_); (· try clear ff; first | assumption | omega); refine st_by (And.intro hd ff) ?_)
    | (with_reducible refine GQ_decF ?_ (fun hd => ?_); (· try clear ff; first | assumption | omega); refine st_by (And.intro hd ff) ?_)
    | (with_reducible refine GQ_dec (fun hp hd => ?_) (fun hp hd => ?_) <;> refine st_by (And.intro hd ff) ?_)
    | (with_reducible refine GQ_ndT ?_ (fun hd => ?_); (· try clear ff; first | assumption | omega); refine st_by (And.intro hd ff) ?_)
    | (with_reducible refine GQ_ndF ?_ (fun hd => ?_); (· try clear ff; first | assumption | omega); refine st_by (And.intro hd ff) ?_)
    | (with_reducible refine GQ_nd (fun hp hd => ?_) (fun hp hd => ?_) <;> refine st_by (And.intro hd ff) ?_)
    | (refine GQ_nb (fun hd => ?_) (fun hd => ?_) <;> refine st_by (And.intro hd ff) ?_)
    | (refine GQ_bool (fun hd => ?_) (fun hd => ?_) <;> refine st_by (And.intro hd ff) ?_))
  all_goals try clear ff
  have h1 : 0 ≤ szRow szPrefab l 1048576 := by omega
  obtain ⟨h2, h3⟩ := szPrefabs_nm (by decide) (by decide) h1
  have hle := szRow_ok szPrefab_ok l 1048576 (by decide)
  clear hp hd
  generalize hk0 : szRow szPrefab l 1048576 = k0 at *
  have hle2 : k0 ≤ 1048576 := by omega
  have ff := And.intro @hk0 (And.intro @Ty.str9 (And.intro @Ty.bl4 (And.intro @Ty.sl24 (And.intro @Ty.slz24 (And.intro @Ty.sl27 @Ty.slz27)))))
  try refine st_by ff ?_
  repeat' (first
    | exact trivial
    | (refine And.intro ?_ ?_; · (try clear ff; first | omega))
    | (refine ret_q1 rfl ?_; (try refine sr_by ff ?_); all_goals (try clear ff); all_goals (try exact trivial); all_goals (rfl))
    | (with_reducible refine cq_call (szPropS_does w k0 h1 hle2 hw hy) ?_ ?_ ⟨?_, ?_⟩; (· first | rfl | exact cl_by ff); (· first | assumption | kernel_rfl); (· first | exact ca_by ff | (refine sa_by ff ?_; try clear ff; first | exact trivial | omega)); refine st_by ff ?_)
    | (with_reducible refine CBC_eq (fun hp hd => ?_) (fun hp hd => ?_) <;> refine st_by (And.intro hd ff) ?_)
    | (with_reducible refine CBC_ne (fun hp hd => ?_) (fun hp hd => ?_) <;> refine st_by (And.intro hd ff) ?_)
    | (with_reducible refine CBC_decT ?_ (fun hd => ?_); (· try clear ff; first | assumption | omega); refine st_by (And.intro hd ff) ?_)
    | (with_reducible refine CBC_decF ?_ (fun hd => ?_); (· try clear ff; first | assumption | omega); refine st_by (And.intro hd ff) ?_)
    | (with_reducible refine CBC_dec (fun hp hd => ?_) (fun hp hd => ?_) <;> refine st_by (And.intro hd ff) ?_)
    | (refine CBC_bool (fun hd => ?_) (fun hd => ?_) <;> refine st_by (And.intro hd ff) ?_)
    | (with_reducible refine GQ_eq (fun hp hd => ?_) (fun hp hd => ?_) <;> refine st_by (And.intro hd ff) ?_)
    | (with_reducible refine GQ_ne (fun hp hd => ?_) (fun hp hd => ?_) <;> refine st_by (And.intro hd ff) ?_)
    | (with_reducible refine GQ_decT ?_ (fun hd => ?_); (· try clear ff; first | assumption | omega); refine st_by (And.intro hd ff) ?_)
    | (with_reducible refine GQ_decF ?_ (fun hd => ?_); (· try clear ff; first | assumption | omega); refine st_by (And.intro hd ff) ?_)
    | (with_reducible refine GQ_dec (fun hp hd => ?_) (fun hp hd => ?_) <;> refine st_by (And.intro hd ff) ?_)
    | (with_reducible refine GQ_ndT ?_ (fun hd => ?_); (· try clear ff; first | assumption | omega); refine st_by (And.intro hd ff) ?_)
    | (with_reducible refine GQ_ndF ?_ (fun hd => ?_); (· try clear ff; first | assumption | omega); refine st_by (And.intro hd ff) ?_)
    | (with_reducible refine GQ_nd (fun hp hd => ?_) (fun hp hd => ?_) <;> refine st_by (And.intro hd ff) ?_)
    | (refine GQ_nb (fun hd => ?_) (fun hd => ?_) <;> refine st_by (And.intro hd ff) ?_)
    | (refine GQ_bool (fun hd => ?_) (fun hd => ?_) <;> refine st_by (And.intro hd ff) ?_))
  all_goals try clear ff
  have g1 : 0 ≤ szRow szProp w k0 := by omega
  obtain ⟨g2, g3⟩ := szProps_nm h1 hle2 g1
  obtain ⟨rr, e1, e2, e3, e4⟩ := over_both 1048578 l t w h2 (fun x hx => wfPf_ok (h3 x hx)) g2 (fun x hx => (g3 x hx).1) (by decide)
  obtain ⟨o, b⟩ := rr
  simp only at e3 e4
  clear hp hd
  have c1 := cPrefabs h2 h3
  have d1 : (1 : Int) + (cntL cPrefab l : Int) ≤ 4611686018427387904 := by omega
  have o1 : o.length ≤ 9223372036854775807 := by omega
  have c2 := cProps o
  have c3 := cProps w
  have d2 : (1 : Int) + (cntL cProp o : Int) ≤ 4611686018427387904 := by omega
  have c4 : (markL mProp cProp o 1).length = o.length := markL_len o 1
  have c5 : cntL cProp (markL mProp cProp o 1) = cntL cProp o := by rw [cProps, cProps, c4]
  have d3 : (1 : Int) + (cntL cProp (markL mProp cProp o 1) : Int) ≤ 4611686018427387904 := by rw [c5]; exact d2
  have o2 : (markL mProp cProp o 1).length ≤ 9223372036854775807 := by omega
  generalize hk : (1 : Int) + (cntL cPrefab l : Int) = k at *
  have kz : 0 ≤ k := by omega
  have d4 : k + (cntL cProp w : Int) ≤ 4611686018427387904 := by omega
  have ff := And.intro @esPrefabo_share (And.intro @esPrefabo_pure (And.intro @esProp_share (And.intro @esProp_pure (And.intro @c4 (And.intro @c5 (And.intro @hk (And.intro @Ty.str9 (And.intro @Ty.bl4 (And.intro @Ty.sl24 (And.intro @Ty.slz24 (And.intro @Ty.sl27 @Ty.slz27)))))))))))
  try refine st_by ff ?_
  repeat' (first
    | exact trivial
    | (refine And.intro ?_ ?_; · (try clear ff; first | omega | rfl | decide | (simp [pureV, pureVs, esProp_pure, esPrefabo_pure])))
    | (refine ret_q1 rfl ?_; (try refine sr_by ff ?_); all_goals (try clear ff); all_goals (try exact trivial); all_goals (rfl))
    | (with_reducible refine cq_own (toPrefabS_does l h2 h3) ?_ ?_ ⟨?_, ?_⟩; (· first | rfl | exact cl_by ff); (· first | assumption | kernel_rfl); (· first | exact ca_by ff | (refine sa_by ff ?_; try clear ff; first | exact trivial | omega | rfl | decide | (simp [pureV, pureVs, esProp_pure, esPrefabo_pure]))); refine st_by ff ?_)
    | (with_reducible refine cq_own (toPropS_does w g2) ?_ ?_ ⟨?_, ?_⟩; (· first | rfl | exact cl_by ff); (· first | assumption | kernel_rfl); (· first | exact ca_by ff | (refine sa_by ff ?_; try clear ff; first | exact trivial | omega | rfl | decide | (simp [pureV, pureVs, esProp_pure, esPrefabo_pure]))); refine st_by ff ?_)
    | (with_reducible refine cq_lend (p_spec_OverridesOf_does 1048578 l t w _ e1) ?_ ?_ ⟨?_, ?_⟩; (· first | rfl | exact cl_by ff); (· first | assumption | kernel_rfl); (· first | exact ca_by ff | (refine sa_by ff ?_; try clear ff; first | exact trivial | omega | rfl | decide | (simp [pureV, pureVs, esProp_pure, esPrefabo_pure]))); refine st_by ff ?_)
    | (with_reducible refine cq_lendOwn (p_impl_OverridesOf_does 1048578 l t w _ e2) ?_ ?_ ⟨?_, ?_⟩; (· first | rfl | exact cl_by ff); (· first | assumption | kernel_rfl); (· first | exact ca_by ff | (refine sa_by ff ?_; try clear ff; first | exact trivial | omega | rfl | decide | (simp [pureV, pureVs, esProp_pure, esPrefabo_pure]))); refine st_by ff ?_)
    | (with_reducible refine cq_lend (eqPropS_does o o o1 o1) ?_ ?_ ⟨?_, ?_⟩; (· first | rfl | exact cl_by ff); (· first | assumption | kernel_rfl); (· first | exact ca_by ff | (refine sa_by ff ?_; try clear ff; first | exact trivial | omega | rfl | decide | (simp [pureV, pureVs, esProp_pure, esPrefabo_pure]))); refine st_by ff ?_)
    | (with_reducible refine cq_lend (eqPropS_does w w hw hw) ?_ ?_ ⟨?_, ?_⟩; (· first | rfl | exact cl_by ff); (· first | assumption | kernel_rfl); (· first | exact ca_by ff | (refine sa_by ff ?_; try clear ff; first | exact trivial | omega | rfl | decide | (simp [pureV, pureVs, esProp_pure, esPrefabo_pure]))); refine st_by ff ?_)
    | (with_reducible refine cq_lend (eqPrefabS_does l l hl hl hx hx) ?_ ?_ ⟨?_, ?_⟩; (· first | rfl | exact cl_by ff); (· first | assumption | kernel_rfl); (· first | exact ca_by ff | (refine sa_by ff ?_; try clear ff; first | exact trivial | omega | rfl | decide | (simp [pureV, pureVs, esProp_pure, esPrefabo_pure]))); refine st_by ff ?_)
    | (with_reducible refine cq_Xs [(10, [])] (markPrefabS_does l 1 (by decide) (by rw [hk]; exact d1) hl hx) ?_ ?_ ?_ ⟨?_, ?_⟩; (· first | rfl | exact cl_by ff); (· first | assumption | kernel_rfl); (· first | decide | simp); (· first | exact ca_by ff | (refine sa_by ff ?_; try clear ff; first | exact trivial | omega | rfl | decide | (simp [pureV, pureVs, esProp_pure, esPrefabo_pure]))); refine st_by ff ?_)
    | (with_reducible refine cq_Xs [(11, [])] (markPropS_does w k kz d4 hw) ?_ ?_ ?_ ⟨?_, ?_⟩; (· first | rfl | exact cl_by ff); (· first | assumption | kernel_rfl); (· first | decide | simp); (· first | exact ca_by ff | (refine sa_by ff ?_; try clear ff; first | exact trivial | omega | rfl | decide | (simp [pureV, pureVs, esProp_pure, esPrefabo_pure]))); refine st_by ff ?_)
    | (with_reducible refine cq_Xs [(49, [0])] (markPropS_does o 1 (by decide) d2 o1) ?_ ?_ ?_ ⟨?_, ?_⟩; (· first | rfl | exact cl_by ff); (· first | assumption | kernel_rfl); (· first | decide | simp); (· first | exact ca_by ff | (refine sa_by ff ?_; try clear ff; first | exact trivial | omega | rfl | decide | (simp [pureV, pureVs, esProp_pure, esPrefabo_pure]))); refine st_by ff ?_)
    | (with_reducible refine cq_lend (heldPropS_does (markL mProp cProp o 1) 1 (by decide) d3 o2 (markProp_idem o 1)) ?_ ?_ ⟨?_, ?_⟩; (· first | rfl | exact cl_by ff); (· first | assumption | kernel_rfl); (· first | exact ca_by ff | (refine sa_by ff ?_; try clear ff; first | exact trivial | omega | rfl | decide | (simp [pureV, pureVs, esProp_pure, esPrefabo_pure]))); refine st_by ff ?_)
    | (with_reducible refine CBC_eq (fun hp hd => ?_) (fun hp hd => ?_) <;> refine st_by (And.intro hd ff) ?_)
    | (with_reducible refine CBC_ne (fun hp hd => ?_) (fun hp hd => ?_) <;> refine st_by (And.intro hd ff) ?_)
    | (with_reducible refine CBC_decT ?_ (fun hd => ?_); (· try clear ff; first | assumption | omega); refine st_by (And.intro hd ff) ?_)
    | (with_reducible refine CBC_decF ?_ (fun hd => ?_); (· try clear ff; first | assumption | omega); refine st_by (And.intro hd ff) ?_)
    | (with_reducible refine CBC_dec (fun hp hd => ?_) (fun hp hd => ?_) <;> refine st_by (And.intro hd ff) ?_)
    | (refine CBC_bool (fun hd => ?_) (fun hd => ?_) <;> refine st_by (And.intro hd ff) ?_)
    | (with_reducible refine GQ_eq (fun hp hd => ?_) (fun hp hd => ?_) <;> refine st_by (And.intro hd ff) ?_)
    | (with_reducible refine GQ_ne (fun hp hd => ?_) (fun hp hd => ?_) <;> refine st_by (And.intro hd ff) ?_)
    | (with_reducible refine GQ_decT ?_ (fun hd => ?_); (· try clear ff; first | assumption | omega); refine st_by (And.intro hd ff) ?_)
    | (with_reducible refine GQ_decF ?_ (fun hd => ?_); (· try clear ff; first | assumption | omega); refine st_by (And.intro hd ff) ?_)
    | (with_reducible refine GQ_dec (fun hp hd => ?_) (fun hp hd => ?_) <;> refine st_by (And.intro hd ff) ?_)
    | (with_reducible refine GQ_ndT ?_ (fun hd => ?_); (· try clear ff; first | assumption | omega); refine st_by (And.intro hd ff) ?_)
    | (with_reducible refine GQ_ndF ?_ (fun hd => ?_); (· try clear ff; first | assumption | omega); refine st_by (And.intro hd ff) ?_)
    | (with_reducible refine GQ_nd (fun hp hd => ?_) (fun hp hd => ?_) <;> refine st_by (And.intro hd ff) ?_)
    | (refine GQ_nb (fun hd => ?_) (fun hd => ?_) <;> refine st_by (And.intro hd ff) ?_)
    | (refine GQ_bool (fun hd => ?_) (fun hd => ?_) <;> refine st_by (And.intro hd ff) ?_))
  all_goals try clear ff
end Go.Av
end
