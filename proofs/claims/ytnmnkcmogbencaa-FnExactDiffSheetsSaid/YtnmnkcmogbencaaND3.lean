/- Contracts of functions of this seat, each for every argument within its bounds. -/
import Derived.Test.YtnmnkcmogbencaaND2
set_option linter.unusedSimpArgs false
set_option linter.unusedVariables false
set_option maxRecDepth 100000
namespace Go.Av
open Go.Proofs
theorem szSheet_len {x : GSheet} {a : Int} (h0 : 0 ≤ a) (h : 0 ≤ szSheet x a) : (x.Pixels.length : Int) ≤ a := by
  have := (szStep_of h).1
  exact szRow_len szOne_ok h0 this
theorem lawDS_does (a b : GSheet) (ha : a.Pixels.length ≤ 9223372036854775807) (hb : b.Pixels.length ≤ 9223372036854775807) : Does Try.prog 6 [.agg (eSheet a), .agg (eSheet b)] (B true) := by
  refine Does.walk (nt := 59) Try.func6 rfl rfl (by simp) (by decide) rfl (fun G0 X w0 pv => ?_)
  have ff := And.intro @eSheet_eq (And.intro @Ty.ldA43 (And.intro @Ty.sz43 (And.intro @Ty.szn43 (And.intro @Ty.ldA48 (And.intro @Ty.sz48 (And.intro @Ty.szn48 (And.intro @Ty.ldA51 (And.intro @Ty.sz51 (And.intro @Ty.szn51 (And.intro @Ty.bl4 (And.intro @Ty.zv48 @Ty.zv51)))))))))))
  try refine st_by ff ?_
  repeat' (first
    | exact trivial
    | (refine And.intro ?_ ?_; · (try clear ff; first | omega))
    | (refine ret_q1 rfl ?_; (try refine sr_by ff ?_); all_goals (try clear ff); all_goals (try exact trivial); all_goals (rfl))
    | (refine cq_call (szSheet_does a 1048576 (by decide) (by decide) ha) ?_ ?_ ⟨?_, ?_⟩; (· first | rfl | exact cl_by ff); (· first | assumption | kernel_rfl); (· first | exact ca_by ff | (refine sa_by ff ?_; try clear ff; first | exact trivial | omega)); refine st_by ff ?_)
    | (refine cq_dcall (szSheet_does a 1048576 (by decide) (by decide) ha) ?_ ?_ ⟨?_, ?_⟩; (· first | rfl | exact cl_by ff); (· first | assumption | kernel_rfl); (· first | exact ca_by ff | (refine sa_by ff ?_; try clear ff; first | exact trivial | omega)); refine st_by ff ?_)
    | (refine aw_drawn (id := 8) ?_ [[], [0], [], [0, 1, 2], [0, 1, 2, 3], [0, 1, 2, 3, 4], [0, 1, 2, 3, 4, 5], [0, 1, 2, 3, 4, 5], [], [0, 1, 2, 3, 4, 5, 6, 8], [0, 1, 2, 3, 4, 5, 6, 7, 8, 9]] 10 ?_ ?_; (· kernel_rfl); (· kernel_rfl); refine st_by ff ?_)
    | (refine aw_drawn (id := 14) ?_ [[], [], [1], [0, 1, 2], [0, 1, 2, 3]] 3 ?_ ?_; (· kernel_rfl); (· kernel_rfl); refine st_by ff ?_)
    | (refine aw_drawn (id := 16) ?_ [[], [], [1], [0, 1, 2], [0, 1, 2, 3]] 3 ?_ ?_; (· kernel_rfl); (· kernel_rfl); refine st_by ff ?_)
    | (with_reducible refine CBC_eq (fun hp hd => ?_) (fun hp hd => ?_) <;> refine st_by (And.intro hd ff) ?_)
    | (with_reducible refine CBC_ne (fun hp hd => ?_) (fun hp hd => ?_) <;> refine st_by (And.intro hd ff) ?_)
    | (with_reducible refine CBC_decT ?_ (fun hd => ?_); (· try clear ff; first | assumption | omega); refine st_by (And.intro hd ff) ?_)
    | (with_reducible refine CBC_decF ?_ (fun hd => ?_); (· try clear ff; first | assumption | omega); refine st_by (And.intro hd ff) ?_)
    | (with_reducible refine CBC_dec (fun hp hd => ?_) (fun hp hd => ?_) <;> refine st_by (And.intro hd ff) ?_)
    | (refine CBC_bool (fun hd => ?_) (fun hd => ?_) <;> refine st_by (And.intro hd ff) ?_)
    | (with_reducible refine GQ_eq (fun hp hd => ?_) (fun hp hd => ?_) <;> refine st_by (And.intro hd ff) ?_)
    | (with_reducible refine GQ_ne (fun hp hd => ?_) (fun hp hd => ?_) <;> refine st_by (And.intro hd ff) ?_)
    | (with_reducible refine GQ_decT ?_ (fun hd => ?_); (· try clear ff; first | assumption | omega); refine st_by (And.intro hd ff) ?_)
    | (with_reducible refine GQ_decF ?_ (fun hd => ?_); (· try clear ff; first | assumption | omega); refine st_by (And.intro hd ff) ?_)
    | (with_reducible refine GQ_dec (fun hp hd => ?_) (fun hp hd => ?_) <;> refine st_by (And.intro hd ff) ?_)
    | (with_reducible refine GQ_ndT ?_ (fun hd => ?_); (· try clear ff; first | assumption | omega); refine st_by (And.intro hd ff) ?_)
    | (with_reducible refine GQ_ndF ?_ (fun hd => ?_); (· try clear ff; first | assumption | omega); refine st_by (And.intro hd ff) ?_)
    | (with_reducible refine GQ_nd (fun hp hd => ?_) (fun hp hd => ?_) <;> refine st_by (And.intro hd ff) ?_)
    | (refine GQ_nb (fun hd => ?_) (fun hd => ?_) <;> refine st_by (And.intro hd ff) ?_)
    | (refine GQ_bool (fun hd => ?_) (fun hd => ?_) <;> refine st_by (And.intro hd ff) ?_)
    | (with_reducible refine GD_eq (fun hp hd => ?_) (fun hp hd => ?_) <;> refine st_by (And.intro hd ff) ?_)
    | (with_reducible refine GD_ne (fun hp hd => ?_) (fun hp hd => ?_) <;> refine st_by (And.intro hd ff) ?_)
    | (with_reducible refine GD_decT ?_ (fun hd => ?_); (· try clear ff; first | assumption | omega); refine st_by (And.intro hd ff) ?_)
    | (with_reducible refine GD_decF ?_ (fun hd => ?_); (· try clear ff; first | assumption | omega); refine st_by (And.intro hd ff) ?_)
    | (with_reducible refine GD_dec (fun hp hd => ?_) (fun hp hd => ?_) <;> refine st_by (And.intro hd ff) ?_)
    | (with_reducible refine GD_ndT ?_ (fun hd => ?_); (· try clear ff; first | assumption | omega); refine st_by (And.intro hd ff) ?_)
    | (with_reducible refine GD_ndF ?_ (fun hd => ?_); (· try clear ff; first | assumption | omega); refine st_by (And.intro hd ff) ?_)
    | (with_reducible refine GD_nd (fun hp hd => ?_) (fun hp hd => ?_) <;> refine st_by (And.intro hd ff) ?_)
    | (refine GD_nb (fun hd => ?_) (fun hd => ?_) <;> refine st_by (And.intro hd ff) ?_)
    | (refine GD_bool (fun hd => ?_) (fun hd => ?_) <;> refine st_by (And.intro hd ff) ?_))
  all_goals try clear ff
  have h1 : 0 ≤ szSheet a 1048576 := by omega
  have h2 := szSheet_ok a 1048576 (by decide)
  have h3 := szSheet_len (by decide) h1
  clear hp hd
  have ff := And.intro @eSheet_eq (And.intro @Ty.ldA43 (And.intro @Ty.sz43 (And.intro @Ty.szn43 (And.intro @Ty.ldA48 (And.intro @Ty.sz48 (And.intro @Ty.szn48 (And.intro @Ty.ldA51 (And.intro @Ty.sz51 (And.intro @Ty.szn51 (And.intro @Ty.bl4 (And.intro @Ty.zv48 @Ty.zv51)))))))))))
  try refine st_by ff ?_
  repeat' (first
    | exact trivial
    | (refine And.intro ?_ ?_; · (try clear ff; first | omega))
    | (refine ret_q1 rfl ?_; (try refine sr_by ff ?_); all_goals (try clear ff); all_goals (try exact trivial); all_goals (rfl))
    | (refine cq_call (szSheet_does b (szSheet a 1048576) h1 h2 hb) ?_ ?_ ⟨?_, ?_⟩; (· first | rfl | exact cl_by ff); (· first | assumption | kernel_rfl); (· first | exact ca_by ff | (refine sa_by ff ?_; try clear ff; first | exact trivial | omega)); refine st_by ff ?_)
    | (refine cq_dcall (szSheet_does b (szSheet a 1048576) h1 h2 hb) ?_ ?_ ⟨?_, ?_⟩; (· first | rfl | exact cl_by ff); (· first | assumption | kernel_rfl); (· first | exact ca_by ff | (refine sa_by ff ?_; try clear ff; first | exact trivial | omega)); refine st_by ff ?_)
    | (refine aw_drawn (id := 8) ?_ [[], [0], [], [0, 1, 2], [0, 1, 2, 3], [0, 1, 2, 3, 4], [0, 1, 2, 3, 4, 5], [0, 1, 2, 3, 4, 5], [], [0, 1, 2, 3, 4, 5, 6, 8], [0, 1, 2, 3, 4, 5, 6, 7, 8, 9]] 10 ?_ ?_; (· kernel_rfl); (· kernel_rfl); refine st_by ff ?_)
    | (refine aw_drawn (id := 14) ?_ [[], [], [1], [0, 1, 2], [0, 1, 2, 3]] 3 ?_ ?_; (· kernel_rfl); (· kernel_rfl); refine st_by ff ?_)
    | (refine aw_drawn (id := 16) ?_ [[], [], [1], [0, 1, 2], [0, 1, 2, 3]] 3 ?_ ?_; (· kernel_rfl); (· kernel_rfl); refine st_by ff ?_)
    | (with_reducible refine CBC_eq (fun hp hd => ?_) (fun hp hd => ?_) <;> refine st_by (And.intro hd ff) ?_)
    | (with_reducible refine CBC_ne (fun hp hd => ?_) (fun hp hd => ?_) <;> refine st_by (And.intro hd ff) ?_)
    | (with_reducible refine CBC_decT ?_ (fun hd => ?_); (· try clear ff; first | assumption | omega); refine st_by (And.intro hd ff) ?_)
    | (with_reducible refine CBC_decF ?_ (fun hd => ?_); (· try clear ff; first | assumption | omega); refine st_by (And.intro hd ff) ?_)
    | (with_reducible refine CBC_dec (fun hp hd => ?_) (fun hp hd => ?_) <;> refine st_by (And.intro hd ff) ?_)
    | (refine CBC_bool (fun hd => ?_) (fun hd => ?_) <;> refine st_by (And.intro hd ff) ?_)
    | (with_reducible refine GQ_eq (fun hp hd => ?_) (fun hp hd => ?_) <;> refine st_by (And.intro hd ff) ?_)
    | (with_reducible refine GQ_ne (fun hp hd => ?_) (fun hp hd => ?_) <;> refine st_by (And.intro hd ff) ?_)
    | (with_reducible refine GQ_decT ?_ (fun hd => ?_); (· try clear ff; first | assumption | omega); refine st_by (And.intro hd ff) ?_)
    | (with_reducible refine GQ_decF ?_ (fun hd => ?_); (· try clear ff; first | assumption | omega); refine st_by (And.intro hd ff) ?_)
    | (with_reducible refine GQ_dec (fun hp hd => ?_) (fun hp hd => ?_) <;> refine st_by (And.intro hd ff) ?_)
    | (with_reducible refine GQ_ndT ?_ (fun hd => ?_); (· try clear ff; first | assumption | omega); refine st_by (And.intro hd ff) ?_)
    | (with_reducible refine GQ_ndF ?_ (fun hd => ?_); (· try clear ff; first | assumption | omega); refine st_by (And.intro hd ff) ?_)
    | (with_reducible refine GQ_nd (fun hp hd => ?_) (fun hp hd => ?_) <;> refine st_by (And.intro hd ff) ?_)
    | (refine GQ_nb (fun hd => ?_) (fun hd => ?_) <;> refine st_by (And.intro hd ff) ?_)
    | (refine GQ_bool (fun hd => ?_) (fun hd => ?_) <;> refine st_by (And.intro hd ff) ?_)
    | (with_reducible refine GD_eq (fun hp hd => ?_) (fun hp hd => ?_) <;> refine st_by (And.intro hd ff) ?_)
    | (with_reducible refine GD_ne (fun hp hd => ?_) (fun hp hd => ?_) <;> refine st_by (And.intro hd ff) ?_)
    | (with_reducible refine GD_decT ?_ (fun hd => ?_); (· try clear ff; first | assumption | omega); refine st_by (And.intro hd ff) ?_)
    | (with_reducible refine GD_decF ?_ (fun hd => ?_); (· try clear ff; first | assumption | omega); refine st_by (And.intro hd ff) ?_)
    | (with_reducible refine GD_dec (fun hp hd => ?_) (fun hp hd => ?_) <;> refine st_by (And.intro hd ff) ?_)
    | (with_reducible refine GD_ndT ?_ (fun hd => ?_); (· try clear ff; first | assumption | omega); refine st_by (And.intro hd ff) ?_)
    | (with_reducible refine GD_ndF ?_ (fun hd => ?_); (· try clear ff; first | assumption | omega); refine st_by (And.intro hd ff) ?_)
    | (with_reducible refine GD_nd (fun hp hd => ?_) (fun hp hd => ?_) <;> refine st_by (And.intro hd ff) ?_)
    | (refine GD_nb (fun hd => ?_) (fun hd => ?_) <;> refine st_by (And.intro hd ff) ?_)
    | (refine GD_bool (fun hd => ?_) (fun hd => ?_) <;> refine st_by (And.intro hd ff) ?_))
  all_goals try clear ff
  have h4 : 0 ≤ szSheet b (szSheet a 1048576) := by omega
  have h5 := szSheet_len h1 h4
  have k1 : a.Pixels.length ≤ 1048576 := by omega
  have k2 : b.Pixels.length ≤ 1048576 := by omega
  clear hp hd
  have ff := And.intro @eSheet_eq (And.intro @eSheeto_eq (And.intro @esInt_share (And.intro @eDiff_eq (And.intro @Ty.ldA43 (And.intro @Ty.sz43 (And.intro @Ty.szn43 (And.intro @Ty.ldA48 (And.intro @Ty.sz48 (And.intro @Ty.szn48 (And.intro @Ty.ldA51 (And.intro @Ty.sz51 (And.intro @Ty.szn51 (And.intro @Ty.bl4 (And.intro @Ty.zv48 @Ty.zv51))))))))))))))
  try refine st_by ff ?_
  repeat' (first
    | exact trivial
    | (refine And.intro ?_ ?_; · (try clear ff; first | omega | rfl | decide))
    | (refine ret_q1 rfl ?_; (try refine sr_by ff ?_); all_goals (try clear ff); all_goals (try exact trivial); all_goals (rfl))
    | (refine cq_call (toSheet_does a k1) ?_ ?_ ⟨?_, ?_⟩; (· first | rfl | exact cl_by ff); (· first | assumption | kernel_rfl); (· first | exact ca_by ff | (refine sa_by ff ?_; try clear ff; first | exact trivial | omega | rfl | decide)); refine st_by ff ?_)
    | (refine cq_dcall (toSheet_does a k1) ?_ ?_ ⟨?_, ?_⟩; (· first | rfl | exact cl_by ff); (· first | assumption | kernel_rfl); (· first | exact ca_by ff | (refine sa_by ff ?_; try clear ff; first | exact trivial | omega | rfl | decide)); refine st_by ff ?_)
    | (refine cq_call (toSheet_does b k2) ?_ ?_ ⟨?_, ?_⟩; (· first | rfl | exact cl_by ff); (· first | assumption | kernel_rfl); (· first | exact ca_by ff | (refine sa_by ff ?_; try clear ff; first | exact trivial | omega | rfl | decide)); refine st_by ff ?_)
    | (refine cq_dcall (toSheet_does b k2) ?_ ?_ ⟨?_, ?_⟩; (· first | rfl | exact cl_by ff); (· first | assumption | kernel_rfl); (· first | exact ca_by ff | (refine sa_by ff ?_; try clear ff; first | exact trivial | omega | rfl | decide)); refine st_by ff ?_)
    | (refine cq_call (specDiffSheets_does a b ha hb) ?_ ?_ ⟨?_, ?_⟩; (· first | rfl | exact cl_by ff); (· first | assumption | kernel_rfl); (· first | exact ca_by ff | (refine sa_by ff ?_; try clear ff; first | exact trivial | omega | rfl | decide)); refine st_by ff ?_)
    | (refine cq_dcall (specDiffSheets_does a b ha hb) ?_ ?_ ⟨?_, ?_⟩; (· first | rfl | exact cl_by ff); (· first | assumption | kernel_rfl); (· first | exact ca_by ff | (refine sa_by ff ?_; try clear ff; first | exact trivial | omega | rfl | decide)); refine st_by ff ?_)
    | (refine cq_call (implDiffSheets_does a b ha hb) ?_ ?_ ⟨?_, ?_⟩; (· first | rfl | exact cl_by ff); (· first | assumption | kernel_rfl); (· first | exact ca_by ff | (refine sa_by ff ?_; try clear ff; first | exact trivial | omega | rfl | decide)); refine st_by ff ?_)
    | (refine cq_dcall (implDiffSheets_does a b ha hb) ?_ ?_ ⟨?_, ?_⟩; (· first | rfl | exact cl_by ff); (· first | assumption | kernel_rfl); (· first | exact ca_by ff | (refine sa_by ff ?_; try clear ff; first | exact trivial | omega | rfl | decide)); refine st_by ff ?_)
    | (refine cq_call (eqDiff_does (diffS a b) (diffS a b)) ?_ ?_ ⟨?_, ?_⟩; (· first | rfl | exact cl_by ff); (· first | assumption | kernel_rfl); (· first | exact ca_by ff | (refine sa_by ff ?_; try clear ff; first | exact trivial | omega | rfl | decide)); refine st_by ff ?_)
    | (refine cq_dcall (eqDiff_does (diffS a b) (diffS a b)) ?_ ?_ ⟨?_, ?_⟩; (· first | rfl | exact cl_by ff); (· first | assumption | kernel_rfl); (· first | exact ca_by ff | (refine sa_by ff ?_; try clear ff; first | exact trivial | omega | rfl | decide)); refine st_by ff ?_)
    | (refine cq_call (eqSheet_does a a ha ha) ?_ ?_ ⟨?_, ?_⟩; (· first | rfl | exact cl_by ff); (· first | assumption | kernel_rfl); (· first | exact ca_by ff | (refine sa_by ff ?_; try clear ff; first | exact trivial | omega | rfl | decide)); refine st_by ff ?_)
    | (refine cq_dcall (eqSheet_does a a ha ha) ?_ ?_ ⟨?_, ?_⟩; (· first | rfl | exact cl_by ff); (· first | assumption | kernel_rfl); (· first | exact ca_by ff | (refine sa_by ff ?_; try clear ff; first | exact trivial | omega | rfl | decide)); refine st_by ff ?_)
    | (refine cq_call (eqSheet_does b b hb hb) ?_ ?_ ⟨?_, ?_⟩; (· first | rfl | exact cl_by ff); (· first | assumption | kernel_rfl); (· first | exact ca_by ff | (refine sa_by ff ?_; try clear ff; first | exact trivial | omega | rfl | decide)); refine st_by ff ?_)
    | (refine cq_dcall (eqSheet_does b b hb hb) ?_ ?_ ⟨?_, ?_⟩; (· first | rfl | exact cl_by ff); (· first | assumption | kernel_rfl); (· first | exact ca_by ff | (refine sa_by ff ?_; try clear ff; first | exact trivial | omega | rfl | decide)); refine st_by ff ?_)
    | (refine aw_drawn (id := 8) ?_ [[], [0], [], [0, 1, 2], [0, 1, 2, 3], [0, 1, 2, 3, 4], [0, 1, 2, 3, 4, 5], [0, 1, 2, 3, 4, 5], [], [0, 1, 2, 3, 4, 5, 6, 8], [0, 1, 2, 3, 4, 5, 6, 7, 8, 9]] 10 ?_ ?_; (· kernel_rfl); (· kernel_rfl); refine st_by ff ?_)
    | (refine aw_drawn (id := 14) ?_ [[], [], [1], [0, 1, 2], [0, 1, 2, 3]] 3 ?_ ?_; (· kernel_rfl); (· kernel_rfl); refine st_by ff ?_)
    | (refine aw_drawn (id := 16) ?_ [[], [], [1], [0, 1, 2], [0, 1, 2, 3]] 3 ?_ ?_; (· kernel_rfl); (· kernel_rfl); refine st_by ff ?_)
    | (with_reducible refine CBC_eq (fun hp hd => ?_) (fun hp hd => ?_) <;> refine st_by (And.intro hd ff) ?_)
    | (with_reducible refine CBC_ne (fun hp hd => ?_) (fun hp hd => ?_) <;> refine st_by (And.intro hd ff) ?_)
    | (with_reducible refine CBC_decT ?_ (fun hd => ?_); (· try clear ff; first | assumption | omega); refine st_by (And.intro hd ff) ?_)
    | (with_reducible refine CBC_decF ?_ (fun hd => ?_); (· try clear ff; first | assumption | omega); refine st_by (And.intro hd ff) ?_)
    | (with_reducible refine CBC_dec (fun hp hd => ?_) (fun hp hd => ?_) <;> refine st_by (And.intro hd ff) ?_)
    | (refine CBC_bool (fun hd => ?_) (fun hd => ?_) <;> refine st_by (And.intro hd ff) ?_)
    | (with_reducible refine GQ_eq (fun hp hd => ?_) (fun hp hd => ?_) <;> refine st_by (And.intro hd ff) ?_)
    | (with_reducible refine GQ_ne (fun hp hd => ?_) (fun hp hd => ?_) <;> refine st_by (And.intro hd ff) ?_)
    | (with_reducible refine GQ_decT ?_ (fun hd => ?_); (· try clear ff; first | assumption | omega); refine st_by (And.intro hd ff) ?_)
    | (with_reducible refine GQ_decF ?_ (fun hd => ?_); (· try clear ff; first | assumption | omega); refine st_by (And.intro hd ff) ?_)
    | (with_reducible refine GQ_dec (fun hp hd => ?_) (fun hp hd => ?_) <;> refine st_by (And.intro hd ff) ?_)
    | (with_reducible refine GQ_ndT ?_ (fun hd => ?_); (· try clear ff; first | assumption | omega); refine st_by (And.intro hd ff) ?_)
    | (with_reducible refine GQ_ndF ?_ (fun hd => ?_); (· try clear ff; first | assumption | omega); refine st_by (And.intro hd ff) ?_)
    | (with_reducible refine GQ_nd (fun hp hd => ?_) (fun hp hd => ?_) <;> refine st_by (And.intro hd ff) ?_)
    | (refine GQ_nb (fun hd => ?_) (fun hd => ?_) <;> refine st_by (And.intro hd ff) ?_)
    | (refine GQ_bool (fun hd => ?_) (fun hd => ?_) <;> refine st_by (And.intro hd ff) ?_)
    | (with_reducible refine GD_eq (fun hp hd => ?_) (fun hp hd => ?_) <;> refine st_by (And.intro hd ff) ?_)
    | (with_reducible refine GD_ne (fun hp hd => ?_) (fun hp hd => ?_) <;> refine st_by (And.intro hd ff) ?_)
    | (with_reducible refine GD_decT ?_ (fun hd => ?_); (· try clear ff; first | assumption | omega); refine st_by (And.intro hd ff) ?_)
    | (with_reducible refine GD_decF ?_ (fun hd => ?_); (· try clear ff; first | assumption | omega); refine st_by (And.intro hd ff) ?_)
    | (with_reducible refine GD_dec (fun hp hd => ?_) (fun hp hd => ?_) <;> refine st_by (And.intro hd ff) ?_)
    | (with_reducible refine GD_ndT ?_ (fun hd => ?_); (· try clear ff; first | assumption | omega); refine st_by (And.intro hd ff) ?_)
    | (with_reducible refine GD_ndF ?_ (fun hd => ?_); (· try clear ff; first | assumption | omega); refine st_by (And.intro hd ff) ?_)
    | (with_reducible refine GD_nd (fun hp hd => ?_) (fun hp hd => ?_) <;> refine st_by (And.intro hd ff) ?_)
    | (refine GD_nb (fun hd => ?_) (fun hd => ?_) <;> refine st_by (And.intro hd ff) ?_)
    | (refine GD_bool (fun hd => ?_) (fun hd => ?_) <;> refine st_by (And.intro hd ff) ?_))
  all_goals try clear ff
end Go.Av
