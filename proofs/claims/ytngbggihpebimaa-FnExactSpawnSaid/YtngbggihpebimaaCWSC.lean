/- The law of Spawn. -/
import Derived.Test.YtngbggihpebimaaCWC
import Derived.Test.YtngbggihpebimaaCWSB
set_option linter.unusedSimpArgs false
set_option linter.unusedVariables false
set_option maxRecDepth 100000
set_option maxHeartbeats 1000000
namespace Go.Av
open Go.Proofs
/-! The law of Spawn. -/
theorem lawSP_does (w : GWorld) (hw : wfWorld 9223372036854775807 w) : Does Try.prog 11 [.agg (eWorld w)] (B true) := by
  refine Does.walk (nt := 117) Try.func11 rfl rfl (by simp) (by decide) rfl (fun G0 X w0 pv => ?_)
  have ff := And.intro @eWorld_eq (And.intro @Ty.nz41 (And.intro @Ty.ldA41 (And.intro @Ty.sz41 (And.intro @Ty.szn41 (And.intro @Ty.nz45 (And.intro @Ty.ldA45 (And.intro @Ty.sz45 (And.intro @Ty.szn45 @Ty.zv45))))))))
  try refine st_by ff ?_
  repeat' (first
    | exact trivial
    | (refine And.intro ?_ ?_; · (try clear ff; first | omega))
    | (refine ret_q1 rfl ?_; (try refine sr_by ff ?_); all_goals (try clear ff); all_goals (try exact trivial); all_goals (rfl))
    | (with_reducible refine cq_call (szWorld_does w 1048576 (by decide) (by decide) hw) ?_ ?_ ⟨?_, ?_⟩; (· first | rfl | exact cl_by ff); (· first | assumption | kernel_rfl); (· first | exact ca_by ff | (refine sa_by ff ?_; try clear ff; first | exact trivial | omega)); refine st_by ff ?_)
    | (with_reducible refine cq_dcall (szWorld_does w 1048576 (by decide) (by decide) hw) ?_ ?_ ⟨?_, ?_⟩; (· first | rfl | exact cl_by ff); (· first | assumption | kernel_rfl); (· first | exact ca_by ff | (refine sa_by ff ?_; try clear ff; first | exact trivial | omega)); refine st_by ff ?_)
    | (refine aw_drawn (id := 10) ?_ [[], [], [1], [0, 1, 2], [0, 1, 2, 3]] 3 ?_ ?_; (· kernel_rfl); (· kernel_rfl); refine st_by ff ?_)
    | (with_reducible refine CBC_eq (fun hp hd => ?_) (fun hp hd => ?_) <;> refine st_by (And.intro hd ff) ?_)
    | (with_reducible refine CBC_ne (fun hp hd => ?_) (fun hp hd => ?_) <;> refine st_by (And.intro hd ff) ?_)
    | (with_reducible refine CBC_decT ?_ (fun hd => ?_); (· try clear ff; first | assumption | omega); refine st_by (And.intro hd ff) ?_)
    | (with_reducible refine CBC_decF ?_ (fun hd => ?_); (· try clear ff; first | assumption | omega); refine st_by (And.intro hd ff) ?_)
    | (with_reducible refine CBC_dec (fun hp hd => ?_) (fun hp hd => ?_) <;> refine st_by (And.intro hd ff) ?_)
    | (refine CBC_bool (fun hd => ?_) (fun hd => ?_) <;> refine st_by (And.intro hd ff) ?_)
    | (with_reducible refine GQ_eq (fun hp hd => ?_) (fun hp hd => ?_) <;> refine st_by (And.intro hd ff) ?_)
    | (with_reducible refine GQ_ne (fun hp hd => ?_) (fun hp hd => ?_) <;> refine st_by (And.intro hd ff) ?_)
    | (with_reducible refine GQ_decT ?_ (fun hd => ?_); (· try clear ff; first | assumption | omega); refine st_by (And.intro hd ff) ?_)
    | (with_reducible refine GQ_decF ?_ (fun hd => ?_); (· try clear ff; first | assumption | omega); refine st_by (And.intro hd ff) ?_)
    | (with_reducible refine GQ_dec (fun hp hd => ?_) (fun hp hd => ?_) <;> refine st_by (And.intro hd ff) ?_)
    | (with_reducible refine GQ_ndT ?_ (fun hd => ?_); (· try clear ff; first | assumption | omega); refine st_by (And.intro hd ff) ?_)
    | (with_reducible refine GQ_ndF ?_ (fun hd => ?_); (· try clear ff; first | assumption | omega); refine st_by (And.intro hd ff) ?_)
    | (with_reducible refine GQ_nd (fun hp hd => ?_) (fun hp hd => ?_) <;> refine st_by (And.intro hd ff) ?_)
    | (refine GQ_nb (fun hd => ?_) (fun hd => ?_) <;> refine st_by (And.intro hd ff) ?_)
    | (refine GQ_bool (fun hd => ?_) (fun hd => ?_) <;> refine st_by (And.intro hd ff) ?_)
    | (with_reducible refine GD_eq (fun hp hd => ?_) (fun hp hd => ?_) <;> refine st_by (And.intro hd ff) ?_)
    | (with_reducible refine GD_ne (fun hp hd => ?_) (fun hp hd => ?_) <;> refine st_by (And.intro hd ff) ?_)
    | (with_reducible refine GD_decT ?_ (fun hd => ?_); (· try clear ff; first | assumption | omega); refine st_by (And.intro hd ff) ?_)
    | (with_reducible refine GD_decF ?_ (fun hd => ?_); (· try clear ff; first | assumption | omega); refine st_by (And.intro hd ff) ?_)
    | (with_reducible refine GD_dec (fun hp hd => ?_) (fun hp hd => ?_) <;> refine st_by (And.intro hd ff) ?_)
    | (with_reducible refine GD_ndT ?_ (fun hd => ?_); (· try clear ff; first | assumption | omega); refine st_by (And.intro hd ff) ?_)
    | (with_reducible refine GD_ndF ?_ (fun hd => ?_); (· try clear ff; first | assumption | omega); refine st_by (And.intro hd ff) ?_)
    | (with_reducible refine GD_nd (fun hp hd => ?_) (fun hp hd => ?_) <;> refine st_by (And.intro hd ff) ?_)
    | (refine GD_nb (fun hd => ?_) (fun hd => ?_) <;> refine st_by (And.intro hd ff) ?_)
    | (refine GD_bool (fun hd => ?_) (fun hd => ?_) <;> refine st_by (And.intro hd ff) ?_))
  all_goals try clear ff
  have h1 : 0 ≤ szWorld w 1048576 := by omega
  have h2 := szWorld_wf (by decide) (by decide) h1
  have h3 := szWorld_cnt (by decide) h1
  obtain ⟨r, c, d, e1, e2, e4⟩ := spawn_eq w (wOk_of h2)
  have hr : wfWorld 9223372036854775807 r := by
    have hu := wfWorld_up h2
    have h4 := h2.1
    rcases e4 with e4 | e4 | e4
    · exact ⟨by rw [e4]; exact hw.1, by rw [e4]; exact hw.2⟩
    · exact ⟨by rw [e4]; simp, by rw [e4]; simp⟩
    · refine ⟨by rw [e4]; simp; omega, fun y hy => ?_⟩
      rw [e4] at hy
      rcases List.mem_append.1 hy with hy | hy
      · exact hw.2 y hy
      · rw [List.mem_singleton] at hy; subst hy
        exact ⟨by simp, by simp⟩
  have hc : (cntL cEntity r.Entities : Int) ≤ 3145729 := by
    rcases e4 with e4 | e4 | e4
    · rw [e4]; omega
    · rw [e4]; simp [cntL]
    · rw [e4, cntL_app]; simp [cntL, cEntity]; omega
  have c1 : (1 : Int) + (cntL cEntity w.Entities : Int) ≤ 4611686018427387904 := by omega
  have c2 : (1 : Int) + (cntL cEntity r.Entities : Int) ≤ 4611686018427387904 := by omega
  clear hp hd h3 hc e4
  have c4 := mEnts_len r.Entities 1
  have c5 : cntL cEntity (markL mEntity cEntity r.Entities 1) = cntL cEntity r.Entities := cntL_mark cEntity_mark _ _
  have c7 := mEnts_len w.Entities 1
  have hm := markL_idem mEntity_idem cEntity_mark r.Entities 1
  have q1 : (1 : Int) + (cntL cEntity (⟨r.Next, r.Tick, markL mEntity cEntity r.Entities 1⟩ : GWorld).Entities : Int) ≤ 4611686018427387904 := by show 1 + (cntL cEntity (markL mEntity cEntity r.Entities 1) : Int) ≤ 4611686018427387904; rw [c5]; exact c2
  have q2 : (⟨r.Next, r.Tick, markL mEntity cEntity r.Entities 1⟩ : GWorld).Entities.length ≤ 9223372036854775807 := by show (markL mEntity cEntity r.Entities 1).length ≤ 9223372036854775807; rw [c4]; exact hr.1
  have q3 := wfE_mark c2 hr.2
  have w1 : w.Entities.length ≤ 9223372036854775807 := hw.1
  have w2 : ∀ y ∈ w.Entities, wfEntity 9223372036854775807 y := hw.2
  have r1 : r.Entities.length ≤ 9223372036854775807 := hr.1
  have r2 : ∀ y ∈ r.Entities, wfEntity 9223372036854775807 y := hr.2
  have ff := And.intro @eWorld_eq (And.intro @eWorldo_eq (And.intro @esEntityo_share (And.intro @esEntityo_pure (And.intro @c4 (And.intro @c5 (And.intro @c7 (And.intro @Ty.nz41 (And.intro @Ty.ldA41 (And.intro @Ty.sz41 (And.intro @Ty.szn41 (And.intro @Ty.nz45 (And.intro @Ty.ldA45 (And.intro @Ty.sz45 (And.intro @Ty.szn45 @Ty.zv45))))))))))))))
  try refine st_by ff ?_
  repeat' (first
    | exact trivial
    | (refine And.intro ?_ ?_; · (try clear ff; first | omega | rfl | decide | (simp [pureV, pureVs, esEntityo_pure])))
    | (refine ret_q1 rfl ?_; (try refine sr_by ff ?_); all_goals (try clear ff); all_goals (try exact trivial); all_goals (rfl))
    | (with_reducible refine cq_own (toWorld_does w h2) ?_ ?_ ⟨?_, ?_⟩; (· first | rfl | exact cl_by ff); (· first | assumption | kernel_rfl); (· first | exact ca_by ff | (refine sa_by ff ?_; try clear ff; first | exact trivial | omega | rfl | decide | (simp [pureV, pureVs, esEntityo_pure]))); refine st_by ff ?_)
    | (with_reducible refine cq_down (toWorld_does w h2) ?_ ?_ ⟨?_, ?_⟩; (· first | rfl | exact cl_by ff); (· first | assumption | kernel_rfl); (· first | exact ca_by ff | (refine sa_by ff ?_; try clear ff; first | exact trivial | omega | rfl | decide | (simp [pureV, pureVs, esEntityo_pure]))); refine st_by ff ?_)
    | (with_reducible refine cq_lend (p_spec_Spawn_does w _ e2) ?_ ?_ ⟨?_, ?_⟩; (· first | rfl | exact cl_by ff); (· first | assumption | kernel_rfl); (· first | exact ca_by ff | (refine sa_by ff ?_; try clear ff; first | exact trivial | omega | rfl | decide | (simp [pureV, pureVs, esEntityo_pure]))); refine st_by ff ?_)
    | (with_reducible refine cq_dlend (p_spec_Spawn_does w _ e2) ?_ ?_ ⟨?_, ?_⟩; (· first | rfl | exact cl_by ff); (· first | assumption | kernel_rfl); (· first | exact ca_by ff | (refine sa_by ff ?_; try clear ff; first | exact trivial | omega | rfl | decide | (simp [pureV, pureVs, esEntityo_pure]))); refine st_by ff ?_)
    | (with_reducible refine cq_lendOwn (p_impl_Spawn_does w _ e1) ?_ ?_ ⟨?_, ?_⟩; (· first | rfl | exact cl_by ff); (· first | assumption | kernel_rfl); (· first | exact ca_by ff | (refine sa_by ff ?_; try clear ff; first | exact trivial | omega | rfl | decide | (simp [pureV, pureVs, esEntityo_pure]))); refine st_by ff ?_)
    | (with_reducible refine cq_dlendOwn (p_impl_Spawn_does w _ e1) ?_ ?_ ⟨?_, ?_⟩; (· first | rfl | exact cl_by ff); (· first | assumption | kernel_rfl); (· first | exact ca_by ff | (refine sa_by ff ?_; try clear ff; first | exact trivial | omega | rfl | decide | (simp [pureV, pureVs, esEntityo_pure]))); refine st_by ff ?_)
    | (with_reducible refine cq_lend (eqWorld_does r r hr hr) ?_ ?_ ⟨?_, ?_⟩; (· first | rfl | exact cl_by ff); (· first | assumption | kernel_rfl); (· first | exact ca_by ff | (refine sa_by ff ?_; try clear ff; first | exact trivial | omega | rfl | decide | (simp [pureV, pureVs, esEntityo_pure]))); refine st_by ff ?_)
    | (with_reducible refine cq_dlend (eqWorld_does r r hr hr) ?_ ?_ ⟨?_, ?_⟩; (· first | rfl | exact cl_by ff); (· first | assumption | kernel_rfl); (· first | exact ca_by ff | (refine sa_by ff ?_; try clear ff; first | exact trivial | omega | rfl | decide | (simp [pureV, pureVs, esEntityo_pure]))); refine st_by ff ?_)
    | (with_reducible refine cq_lend (eqWorld_does w w hw hw) ?_ ?_ ⟨?_, ?_⟩; (· first | rfl | exact cl_by ff); (· first | assumption | kernel_rfl); (· first | exact ca_by ff | (refine sa_by ff ?_; try clear ff; first | exact trivial | omega | rfl | decide | (simp [pureV, pureVs, esEntityo_pure]))); refine st_by ff ?_)
    | (with_reducible refine cq_dlend (eqWorld_does w w hw hw) ?_ ?_ ⟨?_, ?_⟩; (· first | rfl | exact cl_by ff); (· first | assumption | kernel_rfl); (· first | exact ca_by ff | (refine sa_by ff ?_; try clear ff; first | exact trivial | omega | rfl | decide | (simp [pureV, pureVs, esEntityo_pure]))); refine st_by ff ?_)
    | (with_reducible refine cq_Xs [(7, [2])] (markWorld_does w 1 (by decide) c1 w1 w2) ?_ ?_ ?_ ⟨?_, ?_⟩; (· first | rfl | exact cl_by ff); (· first | assumption | kernel_rfl); (· first | decide | simp); (· first | exact ca_by ff | (refine sa_by ff ?_; try clear ff; first | exact trivial | omega | rfl | decide | (simp [pureV, pureVs, esEntityo_pure]))); refine st_by ff ?_)
    | (with_reducible refine cq_Xs [(8, [2])] (markWorld_does r 1 (by decide) c2 r1 r2) ?_ ?_ ?_ ⟨?_, ?_⟩; (· first | rfl | exact cl_by ff); (· first | assumption | kernel_rfl); (· first | decide | simp); (· first | exact ca_by ff | (refine sa_by ff ?_; try clear ff; first | exact trivial | omega | rfl | decide | (simp [pureV, pureVs, esEntityo_pure]))); refine st_by ff ?_)
    | (with_reducible refine cq_lend (heldWorld_does (⟨r.Next, r.Tick, markL mEntity cEntity r.Entities 1⟩ : GWorld) 1 (by decide) q1 q2 q3 hm) ?_ ?_ ⟨?_, ?_⟩; (· first | rfl | exact cl_by ff); (· first | assumption | kernel_rfl); (· first | exact ca_by ff | (refine sa_by ff ?_; try clear ff; first | exact trivial | omega | rfl | decide | (simp [pureV, pureVs, esEntityo_pure]))); refine st_by ff ?_)
    | (with_reducible refine cq_dlend (heldWorld_does (⟨r.Next, r.Tick, markL mEntity cEntity r.Entities 1⟩ : GWorld) 1 (by decide) q1 q2 q3 hm) ?_ ?_ ⟨?_, ?_⟩; (· first | rfl | exact cl_by ff); (· first | assumption | kernel_rfl); (· first | exact ca_by ff | (refine sa_by ff ?_; try clear ff; first | exact trivial | omega | rfl | decide | (simp [pureV, pureVs, esEntityo_pure]))); refine st_by ff ?_)
    | (refine aw_drawn (id := 10) ?_ [[], [], [1], [0, 1, 2], [0, 1, 2, 3]] 3 ?_ ?_; (· kernel_rfl); (· kernel_rfl); refine st_by ff ?_)
    | (with_reducible refine CBC_eq (fun hp hd => ?_) (fun hp hd => ?_) <;> refine st_by (And.intro hd ff) ?_)
    | (with_reducible refine CBC_ne (fun hp hd => ?_) (fun hp hd => ?_) <;> refine st_by (And.intro hd ff) ?_)
    | (with_reducible refine CBC_decT ?_ (fun hd => ?_); (· try clear ff; first | assumption | omega); refine st_by (And.intro hd ff) ?_)
    | (with_reducible refine CBC_decF ?_ (fun hd => ?_); (· try clear ff; first | assumption | omega); refine st_by (And.intro hd ff) ?_)
    | (with_reducible refine CBC_dec (fun hp hd => ?_) (fun hp hd => ?_) <;> refine st_by (And.intro hd ff) ?_)
    | (refine CBC_bool (fun hd => ?_) (fun hd => ?_) <;> refine st_by (And.intro hd ff) ?_)
    | (with_reducible refine GQ_eq (fun hp hd => ?_) (fun hp hd => ?_) <;> refine st_by (And.intro hd ff) ?_)
    | (with_reducible refine GQ_ne (fun hp hd => ?_) (fun hp hd => ?_) <;> refine st_by (And.intro hd ff) ?_)
    | (with_reducible refine GQ_decT ?_ (fun hd => ?_); (· try clear ff; first | assumption | omega); refine st_by (And.intro hd ff) ?_)
    | (with_reducible refine GQ_decF ?_ (fun hd => ?_); (· try clear ff; first | assumption | omega); refine st_by (And.intro hd ff) ?_)
    | (with_reducible refine GQ_dec (fun hp hd => ?_) (fun hp hd => ?_) <;> refine st_by (And.intro hd ff) ?_)
    | (with_reducible refine GQ_ndT ?_ (fun hd => ?_); (· try clear ff; first | assumption | omega); refine st_by (And.intro hd ff) ?_)
    | (with_reducible refine GQ_ndF ?_ (fun hd => ?_); (· try clear ff; first | assumption | omega); refine st_by (And.intro hd ff) ?_)
    | (with_reducible refine GQ_nd (fun hp hd => ?_) (fun hp hd => ?_) <;> refine st_by (And.intro hd ff) ?_)
    | (refine GQ_nb (fun hd => ?_) (fun hd => ?_) <;> refine st_by (And.intro hd ff) ?_)
    | (refine GQ_bool (fun hd => ?_) (fun hd => ?_) <;> refine st_by (And.intro hd ff) ?_)
    | (with_reducible refine GD_eq (fun hp hd => ?_) (fun hp hd => ?_) <;> refine st_by (And.intro hd ff) ?_)
    | (with_reducible refine GD_ne (fun hp hd => ?_) (fun hp hd => ?_) <;> refine st_by (And.intro hd ff) ?_)
    | (with_reducible refine GD_decT ?_ (fun hd => ?_); (· try clear ff; first | assumption | omega); refine st_by (And.intro hd ff) ?_)
    | (with_reducible refine GD_decF ?_ (fun hd => ?_); (· try clear ff; first | assumption | omega); refine st_by (And.intro hd ff) ?_)
    | (with_reducible refine GD_dec (fun hp hd => ?_) (fun hp hd => ?_) <;> refine st_by (And.intro hd ff) ?_)
    | (with_reducible refine GD_ndT ?_ (fun hd => ?_); (· try clear ff; first | assumption | omega); refine st_by (And.intro hd ff) ?_)
    | (with_reducible refine GD_ndF ?_ (fun hd => ?_); (· try clear ff; first | assumption | omega); refine st_by (And.intro hd ff) ?_)
    | (with_reducible refine GD_nd (fun hp hd => ?_) (fun hp hd => ?_) <;> refine st_by (And.intro hd ff) ?_)
    | (refine GD_nb (fun hd => ?_) (fun hd => ?_) <;> refine st_by (And.intro hd ff) ?_)
    | (refine GD_bool (fun hd => ?_) (fun hd => ?_) <;> refine st_by (And.intro hd ff) ?_))
  all_goals try clear ff
end Go.Av
