/- Placed -/
import Derived.Test.YtheheedekbhonaaALA
set_option linter.unusedSimpArgs false
set_option linter.unusedVariables false
set_option maxRecDepth 100000
set_option maxHeartbeats 1000000
namespace Go.Av
open Go.Proofs
/-! Placed -/
def szPlaced (x : GPlaced) (left : Int) : Int := left
theorem szPlaced_ok : szOk szPlaced := fun x left h => Int.le_refl _
theorem toPlaced_does (x : GPlaced) : Does Try.prog 8 [.agg (ePlaced x)] (.agg (ePlaced x)) := by
  refine Does.walk (nt := 17) Try.func8 rfl rfl (by simp) (by decide) rfl (fun G0 X w0 pv => ?_)
  have ff := And.intro @ePlaced_eq (And.intro @Ty.nz3 (And.intro @Ty.ldA3 (And.intro @Ty.ldS3 (And.intro @Ty.sz3 (And.intro @Ty.szn3 (And.intro @Ty.nz32 (And.intro @Ty.ldA32 (And.intro @Ty.sz32 (And.intro @Ty.szn32 (And.intro @Ty.fo26_0 (And.intro @Ty.fk26_0 (And.intro @Ty.fs26_0 (And.intro @Ty.fn26_0 (And.intro @Ty.fo32_0 (And.intro @Ty.fk32_0 (And.intro @Ty.fs32_0 (And.intro @Ty.fn32_0 (And.intro @Ty.fo26_1 (And.intro @Ty.fk26_1 (And.intro @Ty.fs26_1 (And.intro @Ty.fn26_1 (And.intro @Ty.fo32_1 (And.intro @Ty.fk32_1 (And.intro @Ty.fs32_1 (And.intro @Ty.fn32_1 (And.intro @Ty.fo26_2 (And.intro @Ty.fk26_2 (And.intro @Ty.fs26_2 (And.intro @Ty.fn26_2 (And.intro @Ty.fo32_2 (And.intro @Ty.fk32_2 (And.intro @Ty.fs32_2 (And.intro @Ty.fn32_2 (And.intro @Ty.fo26_3 (And.intro @Ty.fk26_3 (And.intro @Ty.fs26_3 (And.intro @Ty.fn26_3 (And.intro @Ty.fo32_3 (And.intro @Ty.fk32_3 (And.intro @Ty.fs32_3 (And.intro @Ty.fn32_3 (And.intro @Ty.zv32 @Ty.ag32))))))))))))))))))))))))))))))))))))))))))
  try refine st_by ff ?_
  repeat' (first
    | exact trivial
    | (refine And.intro ?_ ?_; · (try clear ff; first | omega | decide))
    | (refine ret_q1 rfl ?_; (try refine sr_by ff ?_); all_goals (try clear ff); all_goals (try exact trivial); all_goals (skip))
    | (with_reducible refine CBC_eq (fun hp hd => ?_) (fun hp hd => ?_) <;> refine st_by (And.intro hd ff) ?_)
    | (with_reducible refine CBC_ne (fun hp hd => ?_) (fun hp hd => ?_) <;> refine st_by (And.intro hd ff) ?_)
    | (with_reducible refine CBC_decT ?_ (fun hd => ?_); (· try clear ff; first | assumption | omega); refine st_by (And.intro hd ff) ?_)
    | (with_reducible refine CBC_decF ?_ (fun hd => ?_); (· try clear ff; first | assumption | omega); refine st_by (And.intro hd ff) ?_)
    | (with_reducible refine CBC_dec (fun hp hd => ?_) (fun hp hd => ?_) <;> refine st_by (And.intro hd ff) ?_)
    | (refine CBC_bool (fun hd => ?_) (fun hd => ?_) <;> refine st_by (And.intro hd ff) ?_)
    | (with_reducible refine GQ_eq (fun hp hd => ?_) (fun hp hd => ?_) <;> refine st_by (And.intro hd ff) ?_)
    | (with_reducible refine GQ_ne (fun hp hd => ?_) (fun hp hd => ?_) <;> refine st_by (And.intro hd ff) ?_)
    | (with_reducible refine GQ_decT ?_ (fun hd => ?_); (· try clear ff; first | assumption | omega); refine st_by (And.intro hd ff) ?_)
    | (with_reducible refine GQ_decF ?_ (fun hd => ?_); (· try clear ff; first | assumption | omega); refine st_by (And.intro hd ff) ?_)
    | (with_reducible refine GQ_dec (fun hp hd => ?_) (fun hp hd => ?_) <;> refine st_by (And.intro hd ff) ?_)
    | (with_reducible refine GQ_ndT ?_ (fun hd => ?_); (· try clear ff; first | assumption | omega); refine st_by (And.intro hd ff) ?_)
    | (with_reducible refine GQ_ndF ?_ (fun hd => ?_); (· try clear ff; first | assumption | omega); refine st_by (And.intro hd ff) ?_)
    | (with_reducible refine GQ_nd (fun hp hd => ?_) (fun hp hd => ?_) <;> refine st_by (And.intro hd ff) ?_)
    | (refine GQ_nb (fun hd => ?_) (fun hd => ?_) <;> refine st_by (And.intro hd ff) ?_)
    | (refine GQ_bool (fun hd => ?_) (fun hd => ?_) <;> refine st_by (And.intro hd ff) ?_))
  all_goals try clear ff
/-! Sheet -/
def wfSheet (n : Nat) (x : GSheet) : Prop := x.Pixels.length ≤ n
def szSheet (x : GSheet) (left : Int) : Int := szStep ((szRow szOne) x.Pixels left) fun left => left
theorem szSheet_ok : szOk szSheet := fun x left h => szStep_le h ((szRow_ok szOne_ok) x.Pixels left h) (fun left h => Int.le_refl _)
theorem szSheet_does (x : GSheet) (left : Int) (h0 : 0 ≤ left) (h1 : left ≤ 1048576) (hx : wfSheet 9223372036854775807 x) : Does Try.prog 5 [.agg (eSheet x), I left] (I (szSheet x left)) := by
  unfold wfSheet at hx
  refine Does.walk (nt := 12) Try.func5 rfl rfl (by simp) (by decide) rfl (fun G0 X w0 pv => ?_)
  unfold szSheet
  have hv0 : ((szRow szOne) x.Pixels left : Int) ≤ left := (szRow_ok szOne_ok) x.Pixels _ (by omega)
  have ff := And.intro @eSheet_eq (And.intro @Ty.nz22 (And.intro @Ty.ldA22 (And.intro @Ty.ldS22 (And.intro @Ty.sz22 (And.intro @Ty.szn22 (And.intro @Ty.fo24_2 (And.intro @Ty.fk24_2 (And.intro @Ty.fs24_2 @Ty.fn24_2))))))))
  try refine st_by ff ?_
  repeat' (first
    | exact trivial
    | (refine And.intro ?_ ?_; · (try clear ff; first | omega))
    | (refine ret_q1 rfl ?_; (try refine sr_by ff ?_); all_goals (try clear ff); all_goals (try exact trivial); all_goals ((first | rw [szStep_neg (by assumption)] | rw [szStep_pos (by assumption)])))
    | (with_reducible refine cq_call (szIntS_does x.Pixels left (by omega) (by omega) hx) ?_ ?_ ⟨?_, ?_⟩; (· first | rfl | exact cl_by ff); (· first | assumption | kernel_rfl); (· first | exact ca_by ff | (refine sa_by ff ?_; try clear ff; first | exact trivial | omega)); refine st_by ff ?_)
    | (with_reducible refine CBC_eq (fun hp hd => ?_) (fun hp hd => ?_) <;> refine st_by (And.intro hd ff) ?_)
    | (with_reducible refine CBC_ne (fun hp hd => ?_) (fun hp hd => ?_) <;> refine st_by (And.intro hd ff) ?_)
    | (with_reducible refine CBC_decT ?_ (fun hd => ?_); (· try clear ff; first | assumption | omega); refine st_by (And.intro hd ff) ?_)
    | (with_reducible refine CBC_decF ?_ (fun hd => ?_); (· try clear ff; first | assumption | omega); refine st_by (And.intro hd ff) ?_)
    | (with_reducible refine CBC_dec (fun hp hd => ?_) (fun hp hd => ?_) <;> refine st_by (And.intro hd ff) ?_)
    | (refine CBC_bool (fun hd => ?_) (fun hd => ?_) <;> refine st_by (And.intro hd ff) ?_)
    | (with_reducible refine GQ_eq (fun hp hd => ?_) (fun hp hd => ?_) <;> refine st_by (And.intro hd ff) ?_)
    | (with_reducible refine GQ_ne (fun hp hd => ?_) (fun hp hd => ?_) <;> refine st_by (And.intro hd ff) ?_)
    | (with_reducible refine GQ_decT ?_ (fun hd => ?_); (· try clear ff; first | assumption | omega); refine st_by (And.intro hd ff) ?_)
    | (with_reducible refine GQ_decF ?_ (fun hd => ?_); (· try clear ff; first | assumption | omega); refine st_by (And.intro hd ff) ?_)
    | (with_reducible refine GQ_dec (fun hp hd => ?_) (fun hp hd => ?_) <;> refine st_by (And.intro hd ff) ?_)
    | (with_reducible refine GQ_ndT ?_ (fun hd => ?_); (· try clear ff; first | assumption | omega); refine st_by (And.intro hd ff) ?_)
    | (with_reducible refine GQ_ndF ?_ (fun hd => ?_); (· try clear ff; first | assumption | omega); refine st_by (And.intro hd ff) ?_)
    | (with_reducible refine GQ_nd (fun hp hd => ?_) (fun hp hd => ?_) <;> refine st_by (And.intro hd ff) ?_)
    | (refine GQ_nb (fun hd => ?_) (fun hd => ?_) <;> refine st_by (And.intro hd ff) ?_)
    | (refine GQ_bool (fun hd => ?_) (fun hd => ?_) <;> refine st_by (And.intro hd ff) ?_))
  all_goals try clear ff
theorem toSheet_does (x : GSheet) (hx : wfSheet 1048576 x) : Does Try.prog 7 [.agg (eSheet x)] (.agg (eSheeto x)) := by
  unfold wfSheet at hx
  refine Does.walk (nt := 15) Try.func7 rfl rfl (by simp) (by decide) rfl (fun G0 X w0 pv => ?_)
  have ff := And.intro @eSheet_eq (And.intro @eSheeto_eq (And.intro @Ty.nz3 (And.intro @Ty.ldA3 (And.intro @Ty.ldS3 (And.intro @Ty.sz3 (And.intro @Ty.szn3 (And.intro @Ty.nz22 (And.intro @Ty.ldA22 (And.intro @Ty.ldS22 (And.intro @Ty.sz22 (And.intro @Ty.szn22 (And.intro @Ty.nz28 (And.intro @Ty.ldA28 (And.intro @Ty.sz28 (And.intro @Ty.szn28 (And.intro @Ty.fo24_0 (And.intro @Ty.fk24_0 (And.intro @Ty.fs24_0 (And.intro @Ty.fn24_0 (And.intro @Ty.fo28_0 (And.intro @Ty.fk28_0 (And.intro @Ty.fs28_0 (And.intro @Ty.fn28_0 (And.intro @Ty.fo24_1 (And.intro @Ty.fk24_1 (And.intro @Ty.fs24_1 (And.intro @Ty.fn24_1 (And.intro @Ty.fo28_1 (And.intro @Ty.fk28_1 (And.intro @Ty.fs28_1 (And.intro @Ty.fn28_1 (And.intro @Ty.fo24_2 (And.intro @Ty.fk24_2 (And.intro @Ty.fs24_2 (And.intro @Ty.fn24_2 (And.intro @Ty.fo28_2 (And.intro @Ty.fk28_2 (And.intro @Ty.fs28_2 (And.intro @Ty.fn28_2 (And.intro @Ty.zv28 @Ty.ag28))))))))))))))))))))))))))))))))))))))))
  try refine st_by ff ?_
  repeat' (first
    | exact trivial
    | (refine And.intro ?_ ?_; · (try clear ff; first | omega | decide))
    | (refine ret_q1 rfl ?_; (try refine sr_by ff ?_); all_goals (try clear ff); all_goals (try exact trivial); all_goals (skip))
    | (with_reducible refine cq_own (toIntS_does x.Pixels hx) ?_ ?_ ⟨?_, ?_⟩; (· first | rfl | exact cl_by ff); (· first | assumption | kernel_rfl); (· first | exact ca_by ff | (refine sa_by ff ?_; try clear ff; first | exact trivial | omega | decide)); refine st_by ff ?_)
    | (with_reducible refine CBC_eq (fun hp hd => ?_) (fun hp hd => ?_) <;> refine st_by (And.intro hd ff) ?_)
    | (with_reducible refine CBC_ne (fun hp hd => ?_) (fun hp hd => ?_) <;> refine st_by (And.intro hd ff) ?_)
    | (with_reducible refine CBC_decT ?_ (fun hd => ?_); (· try clear ff; first | assumption | omega); refine st_by (And.intro hd ff) ?_)
    | (with_reducible refine CBC_decF ?_ (fun hd => ?_); (· try clear ff; first | assumption | omega); refine st_by (And.intro hd ff) ?_)
    | (with_reducible refine CBC_dec (fun hp hd => ?_) (fun hp hd => ?_) <;> refine st_by (And.intro hd ff) ?_)
    | (refine CBC_bool (fun hd => ?_) (fun hd => ?_) <;> refine st_by (And.intro hd ff) ?_)
    | (with_reducible refine GQ_eq (fun hp hd => ?_) (fun hp hd => ?_) <;> refine st_by (And.intro hd ff) ?_)
    | (with_reducible refine GQ_ne (fun hp hd => ?_) (fun hp hd => ?_) <;> refine st_by (And.intro hd ff) ?_)
    | (with_reducible refine GQ_decT ?_ (fun hd => ?_); (· try clear ff; first | assumption | omega); refine st_by (And.intro hd ff) ?_)
    | (with_reducible refine GQ_decF ?_ (fun hd => ?_); (· try clear ff; first | assumption | omega); refine st_by (And.intro hd ff) ?_)
    | (with_reducible refine GQ_dec (fun hp hd => ?_) (fun hp hd => ?_) <;> refine st_by (And.intro hd ff) ?_)
    | (with_reducible refine GQ_ndT ?_ (fun hd => ?_); (· try clear ff; first | assumption | omega); refine st_by (And.intro hd ff) ?_)
    | (with_reducible refine GQ_ndF ?_ (fun hd => ?_); (· try clear ff; first | assumption | omega); refine st_by (And.intro hd ff) ?_)
    | (with_reducible refine GQ_nd (fun hp hd => ?_) (fun hp hd => ?_) <;> refine st_by (And.intro hd ff) ?_)
    | (refine GQ_nb (fun hd => ?_) (fun hd => ?_) <;> refine st_by (And.intro hd ff) ?_)
    | (refine GQ_bool (fun hd => ?_) (fun hd => ?_) <;> refine st_by (And.intro hd ff) ?_))
  all_goals try clear ff
theorem eqSheet_does (x y : GSheet) (hx : wfSheet 9223372036854775807 x) (hy : wfSheet 9223372036854775807 y) : Does Try.prog 10 [.agg (eSheet x), .agg (eSheet y)] (B (decide (x = y))) := by
  unfold wfSheet at hx hy
  have hxy : decide (x = y) = decide (x.Wide = y.Wide ∧ x.High = y.High ∧ x.Pixels = y.Pixels) := decide_eq_decide.2 (by cases x; cases y; simp)
  rw [hxy]
  refine Does.walk (nt := 21) Try.func10 rfl rfl (by simp) (by decide) rfl (fun G0 X w0 pv => ?_)
  have ff := And.intro @eSheet_eq (And.intro @str_beq (And.intro @Ty.nz3 (And.intro @Ty.ldA3 (And.intro @Ty.ldS3 (And.intro @Ty.sz3 (And.intro @Ty.szn3 (And.intro @Ty.nz22 (And.intro @Ty.ldA22 (And.intro @Ty.ldS22 (And.intro @Ty.sz22 (And.intro @Ty.szn22 (And.intro @Ty.fo28_0 (And.intro @Ty.fk28_0 (And.intro @Ty.fs28_0 (And.intro @Ty.fn28_0 (And.intro @Ty.fo28_1 (And.intro @Ty.fk28_1 (And.intro @Ty.fs28_1 (And.intro @Ty.fn28_1 (And.intro @Ty.fo28_2 (And.intro @Ty.fk28_2 (And.intro @Ty.fs28_2 @Ty.fn28_2))))))))))))))))))))))
  try refine st_by ff ?_
  repeat' (first
    | exact trivial
    | (refine And.intro ?_ ?_; · (try clear ff; first | omega))
    | (refine ret_q1 rfl ?_; (try refine sr_by ff ?_); all_goals (try clear ff); all_goals (try exact trivial); all_goals (simp_all))
    | (with_reducible refine cq_call (eqIntS_does x.Pixels y.Pixels hx hy) ?_ ?_ ⟨?_, ?_⟩; (· first | rfl | exact cl_by ff); (· first | assumption | kernel_rfl); (· first | exact ca_by ff | (refine sa_by ff ?_; try clear ff; first | exact trivial | omega)); refine st_by ff ?_)
    | (with_reducible refine CBC_eq (fun hp hd => ?_) (fun hp hd => ?_) <;> refine st_by (And.intro hd ff) ?_)
    | (with_reducible refine CBC_ne (fun hp hd => ?_) (fun hp hd => ?_) <;> refine st_by (And.intro hd ff) ?_)
    | (with_reducible refine CBC_decT ?_ (fun hd => ?_); (· try clear ff; first | assumption | omega); refine st_by (And.intro hd ff) ?_)
    | (with_reducible refine CBC_decF ?_ (fun hd => ?_); (· try clear ff; first | assumption | omega); refine st_by (And.intro hd ff) ?_)
    | (with_reducible refine CBC_dec (fun hp hd => ?_) (fun hp hd => ?_) <;> refine st_by (And.intro hd ff) ?_)
    | (refine CBC_bool (fun hd => ?_) (fun hd => ?_) <;> refine st_by (And.intro hd ff) ?_)
    | (with_reducible refine GQ_eq (fun hp hd => ?_) (fun hp hd => ?_) <;> refine st_by (And.intro hd ff) ?_)
    | (with_reducible refine GQ_ne (fun hp hd => ?_) (fun hp hd => ?_) <;> refine st_by (And.intro hd ff) ?_)
    | (with_reducible refine GQ_decT ?_ (fun hd => ?_); (· try clear ff; first | assumption | omega); refine st_by (And.intro hd ff) ?_)
    | (with_reducible refine GQ_decF ?_ (fun hd => ?_); (· try clear ff; first | assumption | omega); refine st_by (And.intro hd ff) ?_)
    | (with_reducible refine GQ_dec (fun hp hd => ?_) (fun hp hd => ?_) <;> refine st_by (And.intro hd ff) ?_)
    | (with_reducible refine GQ_ndT ?_ (fun hd => ?_); (· try clear ff; first | assumption | omega); refine st_by (And.intro hd ff) ?_)
    | (with_reducible refine GQ_ndF ?_ (fun hd => ?_); (· try clear ff; first | assumption | omega); refine st_by (And.intro hd ff) ?_)
    | (with_reducible refine GQ_nd (fun hp hd => ?_) (fun hp hd => ?_) <;> refine st_by (And.intro hd ff) ?_)
    | (refine GQ_nb (fun hd => ?_) (fun hd => ?_) <;> refine st_by (And.intro hd ff) ?_)
    | (refine GQ_bool (fun hd => ?_) (fun hd => ?_) <;> refine st_by (And.intro hd ff) ?_))
  all_goals try clear ff
def mTSheet (x : GSheet) (k : Int) : GSheet := { x with Pixels := (markL mInt cOne) x.Pixels (k) }
def cTSheet (x : GSheet) : Nat := (cntL cOne) x.Pixels
theorem markSheet_does (x : GSheet) (k : Int) (h0 : 0 ≤ k) (hk : k + ((cntL cOne) x.Pixels : Int) ≤ 4611686018427387904) (hl0 : x.Pixels.length ≤ 9223372036854775807) :
    DoesX Try.prog 11 [.agg [I x.Wide, I x.High, .sl 1000 [] 0 x.Pixels.length], I k] [.row true 1 x.Pixels.length (esInt x.Pixels)] (I (k + ((cntL cOne) x.Pixels : Int))) [.row true 1 x.Pixels.length (esInt ((markL mInt cOne) x.Pixels (k)))] := by
  refine DoesX.walkL (nt := 10) Try.func11 rfl rfl (by simp) (by decide) rfl (by simp [fullArg, fullA, fullAs, regs]) rfl (fun G0 X w0 vals hvals hone => ?_)
  obtain ⟨v0, rfl⟩ := len1 hvals
  have hv0 := hone v0 (by simp)
  simp only [List.map_cons, List.map_nil, litArg, litAs, litA, regs, Nat.le_refl, Nat.sub_self, if_true, List.getElem?_cons_zero, List.getElem?_cons_succ, Nat.reduceLeDiff, Nat.reduceSub]
  have ff := And.intro @lget_set (And.intro @Ty.nz22 (And.intro @Ty.ldA22 (And.intro @Ty.ldS22 (And.intro @Ty.sz22 (And.intro @Ty.szn22 (And.intro @Ty.fo28_2 (And.intro @Ty.fk28_2 (And.intro @Ty.fs28_2 @Ty.fn28_2))))))))
  try refine st_by ff ?_
  repeat' (first
    | (refine opq_relit (i := 6) (r := 1000) (c := v0) (sz := 1) (n := x.Pixels.length) (cs := esInt x.Pixels) ?_ ?_ ?_ ?_; (· (first | exact cl_by trivial | refine st_by trivial ?_)); (· first | rfl | ((first | exact cl_by trivial | refine st_by trivial ?_); done)); (· (first | exact cl_by trivial | refine st_by trivial ?_)))
    | exact trivial
    | (refine And.intro ?_ ?_; · (try clear ff; first | omega | exact hv0 | (simp only [Value.oneCell'] at hv0; simp only [hv0, Bool.and_self]; done)))
    | (refine retX_q1 rfl ?_; (try refine sr_by ff ?_); all_goals (try clear ff); all_goals (try exact trivial); all_goals ((refine regsOk_of ?_; (first | exact cl_by (And.intro @regsAt_cons @regsAt_nil) | refine st_by (And.intro @regsAt_cons @regsAt_nil) ?_))))
    | (with_reducible refine cq_Xs [(1000, [])] (markIntS_does x.Pixels (k) (by omega) (by omega) hl0) ?_ ?_ ?_ ⟨?_, ?_⟩; (· first | rfl | exact cl_by ff); (· first | assumption | kernel_rfl); (· first | decide | simp); (· first | exact ca_by ff | (refine sa_by ff ?_; try clear ff; first | exact trivial | omega | exact hv0 | (simp only [Value.oneCell'] at hv0; simp only [hv0, Bool.and_self]; done))); refine st_by ff ?_)
    | (with_reducible refine CBC_eq (fun hp hd => ?_) (fun hp hd => ?_) <;> refine st_by (And.intro hd ff) ?_)
    | (with_reducible refine CBC_ne (fun hp hd => ?_) (fun hp hd => ?_) <;> refine st_by (And.intro hd ff) ?_)
    | (with_reducible refine CBC_decT ?_ (fun hd => ?_); (· try clear ff; first | assumption | omega); refine st_by (And.intro hd ff) ?_)
    | (with_reducible refine CBC_decF ?_ (fun hd => ?_); (· try clear ff; first | assumption | omega); refine st_by (And.intro hd ff) ?_)
    | (with_reducible refine CBC_dec (fun hp hd => ?_) (fun hp hd => ?_) <;> refine st_by (And.intro hd ff) ?_)
    | (refine CBC_bool (fun hd => ?_) (fun hd => ?_) <;> refine st_by (And.intro hd ff) ?_)
    | (with_reducible refine GQ_eq (fun hp hd => ?_) (fun hp hd => ?_) <;> refine st_by (And.intro hd ff) ?_)
    | (with_reducible refine GQ_ne (fun hp hd => ?_) (fun hp hd => ?_) <;> refine st_by (And.intro hd ff) ?_)
    | (with_reducible refine GQ_decT ?_ (fun hd => ?_); (· try clear ff; first | assumption | omega); refine st_by (And.intro hd ff) ?_)
    | (with_reducible refine GQ_decF ?_ (fun hd => ?_); (· try clear ff; first | assumption | omega); refine st_by (And.intro hd ff) ?_)
    | (with_reducible refine GQ_dec (fun hp hd => ?_) (fun hp hd => ?_) <;> refine st_by (And.intro hd ff) ?_)
    | (with_reducible refine GQ_ndT ?_ (fun hd => ?_); (· try clear ff; first | assumption | omega); refine st_by (And.intro hd ff) ?_)
    | (with_reducible refine GQ_ndF ?_ (fun hd => ?_); (· try clear ff; first | assumption | omega); refine st_by (And.intro hd ff) ?_)
    | (with_reducible refine GQ_nd (fun hp hd => ?_) (fun hp hd => ?_) <;> refine st_by (And.intro hd ff) ?_)
    | (refine GQ_nb (fun hd => ?_) (fun hd => ?_) <;> refine st_by (And.intro hd ff) ?_)
    | (refine GQ_bool (fun hd => ?_) (fun hd => ?_) <;> refine st_by (And.intro hd ff) ?_))
  all_goals try clear ff
theorem heldSheet_does (x : GSheet) (k : Int) (h0 : 0 ≤ k) (hk : k + ((cntL cOne) x.Pixels : Int) ≤ 4611686018427387904) (hl0 : x.Pixels.length ≤ 9223372036854775807) (hm0 : (markL mInt cOne) x.Pixels (k) = x.Pixels) :
    Does Try.prog 12 [.agg (eSheet x), I k] (I (k + ((cntL cOne) x.Pixels : Int))) := by
  refine Does.walk (nt := 12) Try.func12 rfl rfl (by simp) (by decide) rfl (fun G0 X w0 pv => ?_)
  have ff := And.intro @eSheet_eq (And.intro @Ty.nz22 (And.intro @Ty.ldA22 (And.intro @Ty.ldS22 (And.intro @Ty.sz22 (And.intro @Ty.szn22 (And.intro @Ty.fo28_2 (And.intro @Ty.fk28_2 (And.intro @Ty.fs28_2 @Ty.fn28_2))))))))
  try refine st_by ff ?_
  repeat' (first
    | exact trivial
    | (refine And.intro ?_ ?_; · (try clear ff; first | omega))
    | (refine ret_q1 rfl ?_; (try refine sr_by ff ?_); all_goals (try clear ff); all_goals (try exact trivial); all_goals (rfl))
    | (with_reducible refine cq_call (heldIntS_does x.Pixels (k) (by omega) (by omega) hl0 hm0) ?_ ?_ ⟨?_, ?_⟩; (· first | rfl | exact cl_by ff); (· first | assumption | kernel_rfl); (· first | exact ca_by ff | (refine sa_by ff ?_; try clear ff; first | exact trivial | omega)); refine st_by ff ?_)
    | (with_reducible refine CBC_eq (fun hp hd => ?_) (fun hp hd => ?_) <;> refine st_by (And.intro hd ff) ?_)
    | (with_reducible refine CBC_ne (fun hp hd => ?_) (fun hp hd => ?_) <;> refine st_by (And.intro hd ff) ?_)
    | (with_reducible refine CBC_decT ?_ (fun hd => ?_); (· try clear ff; first | assumption | omega); refine st_by (And.intro hd ff) ?_)
    | (with_reducible refine CBC_decF ?_ (fun hd => ?_); (· try clear ff; first | assumption | omega); refine st_by (And.intro hd ff) ?_)
    | (with_reducible refine CBC_dec (fun hp hd => ?_) (fun hp hd => ?_) <;> refine st_by (And.intro hd ff) ?_)
    | (refine CBC_bool (fun hd => ?_) (fun hd => ?_) <;> refine st_by (And.intro hd ff) ?_)
    | (with_reducible refine GQ_eq (fun hp hd => ?_) (fun hp hd => ?_) <;> refine st_by (And.intro hd ff) ?_)
    | (with_reducible refine GQ_ne (fun hp hd => ?_) (fun hp hd => ?_) <;> refine st_by (And.intro hd ff) ?_)
    | (with_reducible refine GQ_decT ?_ (fun hd => ?_); (· try clear ff; first | assumption | omega); refine st_by (And.intro hd ff) ?_)
    | (with_reducible refine GQ_decF ?_ (fun hd => ?_); (· try clear ff; first | assumption | omega); refine st_by (And.intro hd ff) ?_)
    | (with_reducible refine GQ_dec (fun hp hd => ?_) (fun hp hd => ?_) <;> refine st_by (And.intro hd ff) ?_)
    | (with_reducible refine GQ_ndT ?_ (fun hd => ?_); (· try clear ff; first | assumption | omega); refine st_by (And.intro hd ff) ?_)
    | (with_reducible refine GQ_ndF ?_ (fun hd => ?_); (· try clear ff; first | assumption | omega); refine st_by (And.intro hd ff) ?_)
    | (with_reducible refine GQ_nd (fun hp hd => ?_) (fun hp hd => ?_) <;> refine st_by (And.intro hd ff) ?_)
    | (refine GQ_nb (fun hd => ?_) (fun hd => ?_) <;> refine st_by (And.intro hd ff) ?_)
    | (refine GQ_bool (fun hd => ?_) (fun hd => ?_) <;> refine st_by (And.intro hd ff) ?_))
  all_goals try clear ff
end Go.Av
