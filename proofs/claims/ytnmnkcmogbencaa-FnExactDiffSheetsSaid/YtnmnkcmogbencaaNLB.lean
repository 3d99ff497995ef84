/- Placed -/
import Derived.Test.YtnmnkcmogbencaaNLA
set_option linter.unusedSimpArgs false
set_option linter.unusedVariables false
set_option maxRecDepth 100000
namespace Go.Av
open Go.Proofs
/-! Placed -/
def szPlaced (x : GPlaced) (left : Int) : Int := left
theorem szPlaced_ok : szOk szPlaced := fun x left h => Int.le_refl _
theorem toPlaced_does (x : GPlaced) : Does Try.prog 35 [.agg (ePlaced x)] (.agg (ePlaced x)) := by
  refine Does.walk (nt := 17) Try.func35 rfl rfl (by simp) (by decide) rfl (fun G0 X w0 pv => ?_)
  have ff := And.intro @ePlaced_eq (And.intro @Ty.ldA3 (And.intro @Ty.ldS3 (And.intro @Ty.sz3 (And.intro @Ty.szn3 (And.intro @Ty.ldA46 (And.intro @Ty.sz46 (And.intro @Ty.szn46 (And.intro @Ty.fo56_0 (And.intro @Ty.fk56_0 (And.intro @Ty.fs56_0 (And.intro @Ty.fn56_0 (And.intro @Ty.fo46_0 (And.intro @Ty.fk46_0 (And.intro @Ty.fs46_0 (And.intro @Ty.fn46_0 (And.intro @Ty.fo56_1 (And.intro @Ty.fk56_1 (And.intro @Ty.fs56_1 (And.intro @Ty.fn56_1 (And.intro @Ty.fo46_1 (And.intro @Ty.fk46_1 (And.intro @Ty.fs46_1 (And.intro @Ty.fn46_1 (And.intro @Ty.fo56_2 (And.intro @Ty.fk56_2 (And.intro @Ty.fs56_2 (And.intro @Ty.fn56_2 (And.intro @Ty.fo46_2 (And.intro @Ty.fk46_2 (And.intro @Ty.fs46_2 (And.intro @Ty.fn46_2 (And.intro @Ty.fo56_3 (And.intro @Ty.fk56_3 (And.intro @Ty.fs56_3 (And.intro @Ty.fn56_3 (And.intro @Ty.fo46_3 (And.intro @Ty.fk46_3 (And.intro @Ty.fs46_3 (And.intro @Ty.fn46_3 (And.intro @Ty.zv46 @Ty.ag46))))))))))))))))))))))))))))))))))))))))
  try refine st_by ff ?_
  repeat' (first
    | exact trivial
    | (refine And.intro ?_ ?_; · (try clear ff; first | omega | decide))
    | (refine ret_q1 rfl ?_; (try refine sr_by ff ?_); all_goals (try clear ff); all_goals (try exact trivial); all_goals (skip))
    | (with_reducible refine CBC_eq (fun hp hd => ?_) (fun hp hd => ?_) <;> refine st_by (And.intro hd ff) ?_)
    | (with_reducible refine CBC_ne (fun hp hd => ?_) (fun hp hd => ?_) <;> refine st_by (And.intro hd ff) ?_)
    | (with_reducible refine CBC_decT ?_ (fun hd => ?_); (· try clear ff; first | assumption | omega); refine st_by (And.intro hd ff) ?_)
    | (with_reducible refine CBC_decF ?_ (fun hd => ?_); (· try clear ff; first | assumption | omega); refine st_by (And.intro hd ff) ?_)
    | (with_reducible refine CBC_dec (fun hp hd => ?_) (fun hp hd => ?_) <;> refine st_by (And.intro hd ff) ?_)
    | (refine CBC_bool (fun hd => ?_) (fun hd => ?_) <;> refine st_by (And.intro hd ff) ?_)
    | (with_reducible refine GQ_eq (fun hp hd => ?_) (fun hp hd => ?_) <;> refine st_by (And.intro hd ff) ?_)
    | (with_reducible refine GQ_ne (fun hp hd => ?_) (fun hp hd => ?_) <;> refine st_by (And.intro hd ff) ?_)
    | (with_reducible refine GQ_decT ?_ (fun hd => ?_); (· try clear ff; first | assumption | omega); refine st_by (And.intro hd ff) ?_)
    | (with_reducible refine GQ_decF ?_ (fun hd => ?_); (· try clear ff; first | assumption | omega); refine st_by (And.intro hd ff) ?_)
    | (with_reducible refine GQ_dec (fun hp hd => ?_) (fun hp hd => ?_) <;> refine st_by (And.intro hd ff) ?_)
    | (with_reducible refine GQ_ndT ?_ (fun hd => ?_); (· try clear ff; first | assumption | omega); refine st_by (And.intro hd ff) ?_)
    | (with_reducible refine GQ_ndF ?_ (fun hd => ?_); (· try clear ff; first | assumption | omega); refine st_by (And.intro hd ff) ?_)
    | (with_reducible refine GQ_nd (fun hp hd => ?_) (fun hp hd => ?_) <;> refine st_by (And.intro hd ff) ?_)
    | (refine GQ_nb (fun hd => ?_) (fun hd => ?_) <;> refine st_by (And.intro hd ff) ?_)
    | (refine GQ_bool (fun hd => ?_) (fun hd => ?_) <;> refine st_by (And.intro hd ff) ?_))
  all_goals try clear ff
theorem eqPlaced_does (x y : GPlaced) : Does Try.prog 84 [.agg (ePlaced x), .agg (ePlaced y)] (B (decide (x = y))) := by
  have hxy : decide (x = y) = decide (x.X = y.X ∧ x.Y = y.Y ∧ x.W = y.W ∧ x.H = y.H) := decide_eq_decide.2 (by cases x; cases y; simp)
  rw [hxy]
  refine Does.walk (nt := 25) Try.func84 rfl rfl (by simp) (by decide) rfl (fun G0 X w0 pv => ?_)
  have ff := And.intro @ePlaced_eq (And.intro @str_beq (And.intro @Ty.ldA3 (And.intro @Ty.ldS3 (And.intro @Ty.sz3 (And.intro @Ty.szn3 (And.intro @Ty.fo46_0 (And.intro @Ty.fk46_0 (And.intro @Ty.fs46_0 (And.intro @Ty.fn46_0 (And.intro @Ty.fo46_1 (And.intro @Ty.fk46_1 (And.intro @Ty.fs46_1 (And.intro @Ty.fn46_1 (And.intro @Ty.fo46_2 (And.intro @Ty.fk46_2 (And.intro @Ty.fs46_2 (And.intro @Ty.fn46_2 (And.intro @Ty.fo46_3 (And.intro @Ty.fk46_3 (And.intro @Ty.fs46_3 @Ty.fn46_3))))))))))))))))))))
  try refine st_by ff ?_
  repeat' (first
    | exact trivial
    | (refine And.intro ?_ ?_; · (try clear ff; first | omega))
    | (refine ret_q1 rfl ?_; (try refine sr_by ff ?_); all_goals (try clear ff); all_goals (try exact trivial); all_goals (simp_all))
    | (with_reducible refine CBC_eq (fun hp hd => ?_) (fun hp hd => ?_) <;> refine st_by (And.intro hd ff) ?_)
    | (with_reducible refine CBC_ne (fun hp hd => ?_) (fun hp hd => ?_) <;> refine st_by (And.intro hd ff) ?_)
    | (with_reducible refine CBC_decT ?_ (fun hd => ?_); (· try clear ff; first | assumption | omega); refine st_by (And.intro hd ff) ?_)
    | (with_reducible refine CBC_decF ?_ (fun hd => ?_); (· try clear ff; first | assumption | omega); refine st_by (And.intro hd ff) ?_)
    | (with_reducible refine CBC_dec (fun hp hd => ?_) (fun hp hd => ?_) <;> refine st_by (And.intro hd ff) ?_)
    | (refine CBC_bool (fun hd => ?_) (fun hd => ?_) <;> refine st_by (And.intro hd ff) ?_)
    | (with_reducible refine GQ_eq (fun hp hd => ?_) (fun hp hd => ?_) <;> refine st_by (And.intro hd ff) ?_)
    | (with_reducible refine GQ_ne (fun hp hd => ?_) (fun hp hd => ?_) <;> refine st_by (And.intro hd ff) ?_)
    | (with_reducible refine GQ_decT ?_ (fun hd => ?_); (· try clear ff; first | assumption | omega); refine st_by (And.intro hd ff) ?_)
    | (with_reducible refine GQ_decF ?_ (fun hd => ?_); (· try clear ff; first | assumption | omega); refine st_by (And.intro hd ff) ?_)
    | (with_reducible refine GQ_dec (fun hp hd => ?_) (fun hp hd => ?_) <;> refine st_by (And.intro hd ff) ?_)
    | (with_reducible refine GQ_ndT ?_ (fun hd => ?_); (· try clear ff; first | assumption | omega); refine st_by (And.intro hd ff) ?_)
    | (with_reducible refine GQ_ndF ?_ (fun hd => ?_); (· try clear ff; first | assumption | omega); refine st_by (And.intro hd ff) ?_)
    | (with_reducible refine GQ_nd (fun hp hd => ?_) (fun hp hd => ?_) <;> refine st_by (And.intro hd ff) ?_)
    | (refine GQ_nb (fun hd => ?_) (fun hd => ?_) <;> refine st_by (And.intro hd ff) ?_)
    | (refine GQ_bool (fun hd => ?_) (fun hd => ?_) <;> refine st_by (And.intro hd ff) ?_))
  all_goals try clear ff
/-! Diff -/
def szDiff (x : GDiff) (left : Int) : Int := left
theorem szDiff_ok : szOk szDiff := fun x left h => Int.le_refl _
theorem eqDiff_does (x y : GDiff) : Does Try.prog 32 [.agg (eDiff x), .agg (eDiff y)] (B (decide (x = y))) := by
  have hxy : decide (x = y) = decide (x.Count = y.Count ∧ x.First = y.First ∧ x.Box = y.Box) := decide_eq_decide.2 (by cases x; cases y; simp)
  rw [hxy]
  refine Does.walk (nt := 21) Try.func32 rfl rfl (by simp) (by decide) rfl (fun G0 X w0 pv => ?_)
  have ff := And.intro @eDiff_eq (And.intro @ePlaced_eq (And.intro @str_beq (And.intro @Ty.ldA3 (And.intro @Ty.ldS3 (And.intro @Ty.sz3 (And.intro @Ty.szn3 (And.intro @Ty.ldA46 (And.intro @Ty.sz46 (And.intro @Ty.szn46 (And.intro @Ty.fo48_0 (And.intro @Ty.fk48_0 (And.intro @Ty.fs48_0 (And.intro @Ty.fn48_0 (And.intro @Ty.fo48_1 (And.intro @Ty.fk48_1 (And.intro @Ty.fs48_1 (And.intro @Ty.fn48_1 (And.intro @Ty.fo48_2 (And.intro @Ty.fk48_2 @Ty.fn48_2)))))))))))))))))))
  try refine st_by ff ?_
  repeat' (first
    | exact trivial
    | (refine And.intro ?_ ?_; · (try clear ff; first | omega))
    | (refine ret_q1 rfl ?_; (try refine sr_by ff ?_); all_goals (try clear ff); all_goals (try exact trivial); all_goals (simp_all))
    | (refine cq_call (eqPlaced_does x.Box y.Box) ?_ ?_ ⟨?_, ?_⟩; (· first | rfl | exact cl_by ff); (· first | assumption | kernel_rfl); (· first | exact ca_by ff | (refine sa_by ff ?_; try clear ff; first | exact trivial | omega)); refine st_by ff ?_)
    | (with_reducible refine CBC_eq (fun hp hd => ?_) (fun hp hd => ?_) <;> refine st_by (And.intro hd ff) ?_)
    | (with_reducible refine CBC_ne (fun hp hd => ?_) (fun hp hd => ?_) <;> refine st_by (And.intro hd ff) ?_)
    | (with_reducible refine CBC_decT ?_ (fun hd => ?_); (· try clear ff; first | assumption | omega); refine st_by (And.intro hd ff) ?_)
    | (with_reducible refine CBC_decF ?_ (fun hd => ?_); (· try clear ff; first | assumption | omega); refine st_by (And.intro hd ff) ?_)
    | (with_reducible refine CBC_dec (fun hp hd => ?_) (fun hp hd => ?_) <;> refine st_by (And.intro hd ff) ?_)
    | (refine CBC_bool (fun hd => ?_) (fun hd => ?_) <;> refine st_by (And.intro hd ff) ?_)
    | (with_reducible refine GQ_eq (fun hp hd => ?_) (fun hp hd => ?_) <;> refine st_by (And.intro hd ff) ?_)
    | (with_reducible refine GQ_ne (fun hp hd => ?_) (fun hp hd => ?_) <;> refine st_by (And.intro hd ff) ?_)
    | (with_reducible refine GQ_decT ?_ (fun hd => ?_); (· try clear ff; first | assumption | omega); refine st_by (And.intro hd ff) ?_)
    | (with_reducible refine GQ_decF ?_ (fun hd => ?_); (· try clear ff; first | assumption | omega); refine st_by (And.intro hd ff) ?_)
    | (with_reducible refine GQ_dec (fun hp hd => ?_) (fun hp hd => ?_) <;> refine st_by (And.intro hd ff) ?_)
    | (with_reducible refine GQ_ndT ?_ (fun hd => ?_); (· try clear ff; first | assumption | omega); refine st_by (And.intro hd ff) ?_)
    | (with_reducible refine GQ_ndF ?_ (fun hd => ?_); (· try clear ff; first | assumption | omega); refine st_by (And.intro hd ff) ?_)
    | (with_reducible refine GQ_nd (fun hp hd => ?_) (fun hp hd => ?_) <;> refine st_by (And.intro hd ff) ?_)
    | (refine GQ_nb (fun hd => ?_) (fun hd => ?_) <;> refine st_by (And.intro hd ff) ?_)
    | (refine GQ_bool (fun hd => ?_) (fun hd => ?_) <;> refine st_by (And.intro hd ff) ?_))
  all_goals try clear ff
/-! Sheet -/
def wfSheet (n : Nat) (x : GSheet) : Prop := x.Pixels.length ≤ n
def szSheet (x : GSheet) (left : Int) : Int := szStep ((szRow szOne) x.Pixels left) fun left => left
theorem szSheet_ok : szOk szSheet := fun x left h => szStep_le h ((szRow_ok szOne_ok) x.Pixels left h) (fun left h => Int.le_refl _)
theorem szSheet_does (x : GSheet) (left : Int) (h0 : 0 ≤ left) (h1 : left ≤ 1048576) (hx : wfSheet 9223372036854775807 x) : Does Try.prog 28 [.agg (eSheet x), I left] (I (szSheet x left)) := by
  unfold wfSheet at hx
  refine Does.walk (nt := 12) Try.func28 rfl rfl (by simp) (by decide) rfl (fun G0 X w0 pv => ?_)
  unfold szSheet
  have hv0 : ((szRow szOne) x.Pixels left : Int) ≤ left := (szRow_ok szOne_ok) x.Pixels _ (by omega)
  have ff := And.intro @eSheet_eq (And.intro @Ty.ldA22 (And.intro @Ty.ldS22 (And.intro @Ty.sz22 (And.intro @Ty.szn22 (And.intro @Ty.fo43_2 (And.intro @Ty.fk43_2 (And.intro @Ty.fs43_2 @Ty.fn43_2)))))))
  try refine st_by ff ?_
  repeat' (first
    | exact trivial
    | (refine And.intro ?_ ?_; · (try clear ff; first | omega))
    | (refine ret_q1 rfl ?_; (try refine sr_by ff ?_); all_goals (try clear ff); all_goals (try exact trivial); all_goals ((first | rw [szStep_neg (by assumption)] | rw [szStep_pos (by assumption)])))
    | (refine cq_call (szIntS_does x.Pixels left (by omega) (by omega) hx) ?_ ?_ ⟨?_, ?_⟩; (· first | rfl | exact cl_by ff); (· first | assumption | kernel_rfl); (· first | exact ca_by ff | (refine sa_by ff ?_; try clear ff; first | exact trivial | omega)); refine st_by ff ?_)
    | (with_reducible refine CBC_eq (fun hp hd => ?_) (fun hp hd => ?_) <;> refine st_by (And.intro hd ff) ?_)
    | (with_reducible refine CBC_ne (fun hp hd => ?_) (fun hp hd => ?_) <;> refine st_by (And.intro hd ff) ?_)
    | (with_reducible refine CBC_decT ?_ (fun hd => ?_); (· try clear ff; first | assumption | omega); refine st_by (And.intro hd ff) ?_)
    | (with_reducible refine CBC_decF ?_ (fun hd => ?_); (· try clear ff; first | assumption | omega); refine st_by (And.intro hd ff) ?_)
    | (with_reducible refine CBC_dec (fun hp hd => ?_) (fun hp hd => ?_) <;> refine st_by (And.intro hd ff) ?_)
    | (refine CBC_bool (fun hd => ?_) (fun hd => ?_) <;> refine st_by (And.intro hd ff) ?_)
    | (with_reducible refine GQ_eq (fun hp hd => ?_) (fun hp hd => ?_) <;> refine st_by (And.intro hd ff) ?_)
    | (with_reducible refine GQ_ne (fun hp hd => ?_) (fun hp hd => ?_) <;> refine st_by (And.intro hd ff) ?_)
    | (with_reducible refine GQ_decT ?_ (fun hd => ?_); (· try clear ff; first | assumption | omega); refine st_by (And.intro hd ff) ?_)
    | (with_reducible refine GQ_decF ?_ (fun hd => ?_); (· try clear ff; first | assumption | omega); refine st_by (And.intro hd ff) ?_)
    | (with_reducible refine GQ_dec (fun hp hd => ?_) (fun hp hd => ?_) <;> refine st_by (And.intro hd ff) ?_)
    | (with_reducible refine GQ_ndT ?_ (fun hd => ?_); (· try clear ff; first | assumption | omega); refine st_by (And.intro hd ff) ?_)
    | (with_reducible refine GQ_ndF ?_ (fun hd => ?_); (· try clear ff; first | assumption | omega); refine st_by (And.intro hd ff) ?_)
    | (with_reducible refine GQ_nd (fun hp hd => ?_) (fun hp hd => ?_) <;> refine st_by (And.intro hd ff) ?_)
    | (refine GQ_nb (fun hd => ?_) (fun hd => ?_) <;> refine st_by (And.intro hd ff) ?_)
    | (refine GQ_bool (fun hd => ?_) (fun hd => ?_) <;> refine st_by (And.intro hd ff) ?_))
  all_goals try clear ff
theorem toSheet_does (x : GSheet) (hx : wfSheet 1048576 x) : Does Try.prog 30 [.agg (eSheet x)] (.agg (eSheeto x)) := by
  unfold wfSheet at hx
  refine Does.walk (nt := 15) Try.func30 rfl rfl (by simp) (by decide) rfl (fun G0 X w0 pv => ?_)
  have ff := And.intro @eSheet_eq (And.intro @eSheeto_eq (And.intro @Ty.ldA3 (And.intro @Ty.ldS3 (And.intro @Ty.sz3 (And.intro @Ty.szn3 (And.intro @Ty.ldA22 (And.intro @Ty.ldS22 (And.intro @Ty.sz22 (And.intro @Ty.szn22 (And.intro @Ty.ldA51 (And.intro @Ty.sz51 (And.intro @Ty.szn51 (And.intro @Ty.fo43_0 (And.intro @Ty.fk43_0 (And.intro @Ty.fs43_0 (And.intro @Ty.fn43_0 (And.intro @Ty.fo51_0 (And.intro @Ty.fk51_0 (And.intro @Ty.fs51_0 (And.intro @Ty.fn51_0 (And.intro @Ty.fo43_1 (And.intro @Ty.fk43_1 (And.intro @Ty.fs43_1 (And.intro @Ty.fn43_1 (And.intro @Ty.fo51_1 (And.intro @Ty.fk51_1 (And.intro @Ty.fs51_1 (And.intro @Ty.fn51_1 (And.intro @Ty.fo43_2 (And.intro @Ty.fk43_2 (And.intro @Ty.fs43_2 (And.intro @Ty.fn43_2 (And.intro @Ty.fo51_2 (And.intro @Ty.fk51_2 (And.intro @Ty.fs51_2 (And.intro @Ty.fn51_2 (And.intro @Ty.zv51 @Ty.ag51)))))))))))))))))))))))))))))))))))))
  try refine st_by ff ?_
  repeat' (first
    | exact trivial
    | (refine And.intro ?_ ?_; · (try clear ff; first | omega | decide))
    | (refine ret_q1 rfl ?_; (try refine sr_by ff ?_); all_goals (try clear ff); all_goals (try exact trivial); all_goals (skip))
    | (refine cq_own (toIntS_does x.Pixels hx) ?_ ?_ ⟨?_, ?_⟩; (· first | rfl | exact cl_by ff); (· first | assumption | kernel_rfl); (· first | exact ca_by ff | (refine sa_by ff ?_; try clear ff; first | exact trivial | omega | decide)); refine st_by ff ?_)
    | (with_reducible refine CBC_eq (fun hp hd => ?_) (fun hp hd => ?_) <;> refine st_by (And.intro hd ff) ?_)
    | (with_reducible refine CBC_ne (fun hp hd => ?_) (fun hp hd => ?_) <;> refine st_by (And.intro hd ff) ?_)
    | (with_reducible refine CBC_decT ?_ (fun hd => ?_); (· try clear ff; first | assumption | omega); refine st_by (And.intro hd ff) ?_)
    | (with_reducible refine CBC_decF ?_ (fun hd => ?_); (· try clear ff; first | assumption | omega); refine st_by (And.intro hd ff) ?_)
    | (with_reducible refine CBC_dec (fun hp hd => ?_) (fun hp hd => ?_) <;> refine st_by (And.intro hd ff) ?_)
    | (refine CBC_bool (fun hd => ?_) (fun hd => ?_) <;> refine st_by (And.intro hd ff) ?_)
    | (with_reducible refine GQ_eq (fun hp hd => ?_) (fun hp hd => ?_) <;> refine st_by (And.intro hd ff) ?_)
    | (with_reducible refine GQ_ne (fun hp hd => ?_) (fun hp hd => ?_) <;> refine st_by (And.intro hd ff) ?_)
    | (with_reducible refine GQ_decT ?_ (fun hd => ?_); (· try clear ff; first | assumption | omega); refine st_by (And.intro hd ff) ?_)
    | (with_reducible refine GQ_decF ?_ (fun hd => ?_); (· try clear ff; first | assumption | omega); refine st_by (And.intro hd ff) ?_)
    | (with_reducible refine GQ_dec (fun hp hd => ?_) (fun hp hd => ?_) <;> refine st_by (And.intro hd ff) ?_)
    | (with_reducible refine GQ_ndT ?_ (fun hd => ?_); (· try clear ff; first | assumption | omega); refine st_by (And.intro hd ff) ?_)
    | (with_reducible refine GQ_ndF ?_ (fun hd => ?_); (· try clear ff; first | assumption | omega); refine st_by (And.intro hd ff) ?_)
    | (with_reducible refine GQ_nd (fun hp hd => ?_) (fun hp hd => ?_) <;> refine st_by (And.intro hd ff) ?_)
    | (refine GQ_nb (fun hd => ?_) (fun hd => ?_) <;> refine st_by (And.intro hd ff) ?_)
    | (refine GQ_bool (fun hd => ?_) (fun hd => ?_) <;> refine st_by (And.intro hd ff) ?_))
  all_goals try clear ff
theorem eqSheet_does (x y : GSheet) (hx : wfSheet 9223372036854775807 x) (hy : wfSheet 9223372036854775807 y) : Does Try.prog 33 [.agg (eSheet x), .agg (eSheet y)] (B (decide (x = y))) := by
  unfold wfSheet at hx hy
  have hxy : decide (x = y) = decide (x.Wide = y.Wide ∧ x.High = y.High ∧ x.Pixels = y.Pixels) := decide_eq_decide.2 (by cases x; cases y; simp)
  rw [hxy]
  refine Does.walk (nt := 21) Try.func33 rfl rfl (by simp) (by decide) rfl (fun G0 X w0 pv => ?_)
  have ff := And.intro @eSheet_eq (And.intro @str_beq (And.intro @Ty.ldA3 (And.intro @Ty.ldS3 (And.intro @Ty.sz3 (And.intro @Ty.szn3 (And.intro @Ty.ldA22 (And.intro @Ty.ldS22 (And.intro @Ty.sz22 (And.intro @Ty.szn22 (And.intro @Ty.fo51_0 (And.intro @Ty.fk51_0 (And.intro @Ty.fs51_0 (And.intro @Ty.fn51_0 (And.intro @Ty.fo51_1 (And.intro @Ty.fk51_1 (And.intro @Ty.fs51_1 (And.intro @Ty.fn51_1 (And.intro @Ty.fo51_2 (And.intro @Ty.fk51_2 (And.intro @Ty.fs51_2 @Ty.fn51_2))))))))))))))))))))
  try refine st_by ff ?_
  repeat' (first
    | exact trivial
    | (refine And.intro ?_ ?_; · (try clear ff; first | omega))
    | (refine ret_q1 rfl ?_; (try refine sr_by ff ?_); all_goals (try clear ff); all_goals (try exact trivial); all_goals (simp_all))
    | (refine cq_call (eqIntS_does x.Pixels y.Pixels hx hy) ?_ ?_ ⟨?_, ?_⟩; (· first | rfl | exact cl_by ff); (· first | assumption | kernel_rfl); (· first | exact ca_by ff | (refine sa_by ff ?_; try clear ff; first | exact trivial | omega)); refine st_by ff ?_)
    | (with_reducible refine CBC_eq (fun hp hd => ?_) (fun hp hd => ?_) <;> refine st_by (And.intro hd ff) ?_)
    | (with_reducible refine CBC_ne (fun hp hd => ?_) (fun hp hd => ?_) <;> refine st_by (And.intro hd ff) ?_)
    | (with_reducible refine CBC_decT ?_ (fun hd => ?_); (· try clear ff; first | assumption | omega); refine st_by (And.intro hd ff) ?_)
    | (with_reducible refine CBC_decF ?_ (fun hd => ?_); (· try clear ff; first | assumption | omega); refine st_by (And.intro hd ff) ?_)
    | (with_reducible refine CBC_dec (fun hp hd => ?_) (fun hp hd => ?_) <;> refine st_by (And.intro hd ff) ?_)
    | (refine CBC_bool (fun hd => ?_) (fun hd => ?_) <;> refine st_by (And.intro hd ff) ?_)
    | (with_reducible refine GQ_eq (fun hp hd => ?_) (fun hp hd => ?_) <;> refine st_by (And.intro hd ff) ?_)
    | (with_reducible refine GQ_ne (fun hp hd => ?_) (fun hp hd => ?_) <;> refine st_by (And.intro hd ff) ?_)
    | (with_reducible refine GQ_decT ?_ (fun hd => ?_); (· try clear ff; first | assumption | omega); refine st_by (And.intro hd ff) ?_)
    | (with_reducible refine GQ_decF ?_ (fun hd => ?_); (· try clear ff; first | assumption | omega); refine st_by (And.intro hd ff) ?_)
    | (with_reducible refine GQ_dec (fun hp hd => ?_) (fun hp hd => ?_) <;> refine st_by (And.intro hd ff) ?_)
    | (with_reducible refine GQ_ndT ?_ (fun hd => ?_); (· try clear ff; first | assumption | omega); refine st_by (And.intro hd ff) ?_)
    | (with_reducible refine GQ_ndF ?_ (fun hd => ?_); (· try clear ff; first | assumption | omega); refine st_by (And.intro hd ff) ?_)
    | (with_reducible refine GQ_nd (fun hp hd => ?_) (fun hp hd => ?_) <;> refine st_by (And.intro hd ff) ?_)
    | (refine GQ_nb (fun hd => ?_) (fun hd => ?_) <;> refine st_by (And.intro hd ff) ?_)
    | (refine GQ_bool (fun hd => ?_) (fun hd => ?_) <;> refine st_by (And.intro hd ff) ?_))
  all_goals try clear ff
end Go.Av
