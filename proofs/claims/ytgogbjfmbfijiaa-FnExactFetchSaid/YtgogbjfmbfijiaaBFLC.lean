/- The law of Fetch. -/
import Derived.Test.YtgogbjfmbfijiaaBFH
import Derived.Test.YtgogbjfmbfijiaaBLS
import Derived.Test.YtgogbjfmbfijiaaBPM
set_option linter.unusedSimpArgs false
set_option linter.unusedVariables false
set_option maxRecDepth 100000
set_option maxHeartbeats 1000000
namespace Go.Av
open Go.Proofs
/-! The law of Fetch. -/
theorem markStr_idem : ∀ (l : List ByteArray) (k : Int), markL mStr cOne (markL mStr cOne l k) k = markL mStr cOne l k
  | [], k => rfl
  | x :: r, k => by simp only [markL, mStr, cOne]; rw [markStr_idem r]
theorem mRes_idem : ∀ (x : GResident) (k : Int), mResident (mResident x k) k = mResident x k := fun _ _ => rfl
theorem cRes_mark : ∀ (x : GResident) (k : Int), cResident (mResident x k) = cResident x := fun _ _ => rfl
theorem cRes (l : List GResident) : cntL cResident l = 4 * l.length := cntL_k (fun _ => rfl) l
theorem szRes_wf {x : GResident} {a : Int} (ha : a ≤ 1048576) (h : 0 ≤ szResident x a) : wfResident 1048576 x := by
  have := (szStep_of h).1
  show x.Name.size ≤ 1048576; omega
theorem szStore_wf {x : GStore} {a : Int} (h0 : 0 ≤ a) (ha : a ≤ 1048576) (h : 0 ≤ szStore x a) : wfStore 1048576 x := by
  have h1 := (szStep_of h).1
  have h2 := szRow_len szResident_ok h0 h1
  refine ⟨by omega, fun y hy => ?_⟩
  obtain ⟨b, k1, k2, k3⟩ := szRow_mem szResident_ok h0 h1 y hy
  exact szRes_wf (by omega) k3
theorem lawFE_does (s : GStore) (t : ByteArray) (z : Int) (hs : wfStore 9223372036854775807 s) (ht : t.size ≤ 9223372036854775807) : Does Try.prog 5 [.agg (eStore s), S t, I z] (B true) := by
  refine Does.walk (nt := 146) Try.func5 rfl rfl (by simp) (by decide) rfl (fun G0 X w0 pv => ?_)
  have ff := And.intro @eStore_eq (And.intro @Ty.nz42 (And.intro @Ty.ldA42 (And.intro @Ty.sz42 (And.intro @Ty.szn42 (And.intro @Ty.nz46 (And.intro @Ty.ldA46 (And.intro @Ty.sz46 (And.intro @Ty.szn46 (And.intro @Ty.str9 (And.intro @Ty.zv46 (And.intro @Ty.sl47 @Ty.slz47)))))))))))
  try refine st_by ff ?_
  repeat' (first
    | exact trivial
    | (refine And.intro ?_ ?_; · (try clear ff; first | omega))
    | (refine ret_q1 rfl ?_; (try refine sr_by ff ?_); all_goals (try clear ff); all_goals (try exact trivial); all_goals (rfl))
    | (with_reducible refine cq_call (szStore_does s 1048576 (by decide) (by decide) hs) ?_ ?_ ⟨?_, ?_⟩; (· first | rfl | exact cl_by ff); (· first | assumption | kernel_rfl); (· first | exact ca_by ff | (refine sa_by ff ?_; try clear ff; first | exact trivial | omega)); refine st_by ff ?_)
    | (with_reducible refine cq_dcall (szStore_does s 1048576 (by decide) (by decide) hs) ?_ ?_ ⟨?_, ?_⟩; (· first | rfl | exact cl_by ff); (· first | assumption | kernel_rfl); (· first | exact ca_by ff | (refine sa_by ff ?_; try clear ff; first | exact trivial | omega)); refine st_by ff ?_)
    | (refine aw_drawn (id := 12) ?_ [[], [], [1], [0, 1, 2], [0, 1, 2, 3]] 3 ?_ ?_; (· kernel_rfl); (· kernel_rfl); refine st_by ff ?_)
    | (with_reducible refine CBC_eq (fun hp hd => ?_) (fun hp hd => ?_) <;> refine st_by (And.intro hd ff) ?_)
    | (with_reducible refine CBC_ne (fun hp hd => ?_) (fun hp hd => ?_) <;> refine st_by (And.intro hd ff) ?_)
    | (with_reducible refine CBC_decT ?_ (fun hd => ?_); (· try clear ff; first | assumption | omega); refine st_by (And.intro hd ff) ?_)
    | (with_reducible refine CBC_decF ?_ (fun hd => ?_); (· try clear ff; first | assumption | omega); refine st_by (And.intro hd ff) ?_)
    | (with_reducible refine CBC_dec (fun hp hd => ?_) (fun hp hd => ?_) <;> refine st_by (And.intro hd ff) ?_)
    | (refine CBC_bool (fun hd => ?_) (fun hd => ?_) <;> refine st_by (And.intro hd ff) ?_)
    | (with_reducible refine GQ_eq (fun hp hd => ?_) (fun hp hd => ?_) <;> refine st_by (And.intro hd ff) ?_)
    | (with_reducible refine GQ_ne (fun hp hd => ?_) (fun hp hd => ?_) <;> refine st_by (And.intro hd ff) ?_)
    | (with_reducible refine GQ_decT ?_ (fun hd => ?_); (· try clear ff; first | assumption | omega); refine st_by (And.intro hd ff) ?_)
    | (with_reducible refine GQ_decF ?_ (fun hd => ?_); (· try clear ff; first | assumption | omega); refine st_by (And.intro hd ff) ?_)
    | (with_reducible refine GQ_dec (fun hp hd => ?_) (fun hp hd => ?_) <;> refine st_by (And.intro hd ff) ?_)
    | (with_reducible refine GQ_ndT ?_ (fun hd => ?_); (· try clear ff; first | assumption | omega); refine st_by (And.intro hd ff) ?_)
    | (with_reducible refine GQ_ndF ?_ (fun hd => ?_); (· try clear ff; first | assumption | omega); refine st_by (And.intro hd ff) ?_)
    | (with_reducible refine GQ_nd (fun hp hd => ?_) (fun hp hd => ?_) <;> refine st_by (And.intro hd ff) ?_)
    | (refine GQ_nb (fun hd => ?_) (fun hd => ?_) <;> refine st_by (And.intro hd ff) ?_)
    | (refine GQ_bool (fun hd => ?_) (fun hd => ?_) <;> refine st_by (And.intro hd ff) ?_)
    | (with_reducible refine GD_eq (fun hp hd => ?_) (fun hp hd => ?_) <;> refine st_by (And.intro hd ff) ?_)
    | (with_reducible refine GD_ne (fun hp hd => ?_) (fun hp hd => ?_) <;> refine st_by (And.intro hd ff) ?_)
    | (with_reducible refine GD_decT ?_ (fun hd => ?_); (· try clear ff; first | assumption | omega); refine st_by (And.intro hd ff) ?_)
    | (with_reducible refine GD_decF ?_ (fun hd => ?_); (· try clear ff; first | assumption | omega); refine st_by (And.intro hd ff) ?_)
    | (with_reducible refine GD_dec (fun hp hd => ?_) (fun hp hd => ?_) <;> refine st_by (And.intro hd ff) ?_)
    | (with_reducible refine GD_ndT ?_ (fun hd => ?_); (· try clear ff; first | assumption | omega); refine st_by (And.intro hd ff) ?_)
    | (with_reducible refine GD_ndF ?_ (fun hd => ?_); (· try clear ff; first | assumption | omega); refine st_by (And.intro hd ff) ?_)
    | (with_reducible refine GD_nd (fun hp hd => ?_) (fun hp hd => ?_) <;> refine st_by (And.intro hd ff) ?_)
    | (refine GD_nb (fun hd => ?_) (fun hd => ?_) <;> refine st_by (And.intro hd ff) ?_)
    | (refine GD_bool (fun hd => ?_) (fun hd => ?_) <;> refine st_by (And.intro hd ff) ?_))
  all_goals try clear ff
  have h1 : 0 ≤ szStore s 1048576 := by omega
  have h2 := szStore_wf (by decide) (by decide) h1
  have hn : ∀ x ∈ s.In, x.Name.size ≤ 9223372036854775807 := hs.2
  obtain ⟨rr, e1, e2, hrl, hrn, hol, hon⟩ := fet_both (s.In.length + 2) s t z (Nat.le_refl _) h2.1 hn ht
  obtain ⟨r, o, c⟩ := rr
  simp only at hrl hrn hol hon
  have hr : wfStore 9223372036854775807 r := ⟨by show r.In.length ≤ 9223372036854775807; omega, hrn⟩
  clear hp hd
  have c1 := cRes s.In
  have c2 := cRes r.In
  have c4 : (markL mResident cResident r.In 1).length = r.In.length := markL_len _ _
  have c5 : cntL cResident (markL mResident cResident r.In 1) = cntL cResident r.In := cntL_mark cRes_mark _ _
  have c7 : (markL mResident cResident s.In 1).length = s.In.length := markL_len _ _
  have hm := markL_idem mRes_idem cRes_mark r.In 1
  have hsl := h2.1
  have w1 : s.In.length ≤ 9223372036854775807 := by omega
  have r1 : r.In.length ≤ 9223372036854775807 := by omega
  have o1 : o.length ≤ 9223372036854775807 := by omega
  have d1 : (1 : Int) + (cntL cResident s.In : Int) ≤ 4611686018427387904 := by omega
  have d2 : (1 : Int) + (cntL cResident r.In : Int) ≤ 4611686018427387904 := by omega
  generalize hk : (1 : Int) + (cntL cResident r.In : Int) = k at *
  have k0 : 0 ≤ k := by omega
  have kb : k ≤ 4611686018427387904 - 1048576 := by omega
  have cs1 := cntL_one o
  have c8 : (markL mStr cOne o k).length = o.length := markL_len o k
  have c9 : cntL cOne (markL mStr cOne o k) = cntL cOne o := by rw [cntL_one, cntL_one, c8]
  have d3 : k + (cntL cOne o : Int) ≤ 4611686018427387904 := by omega
  have d4 : k + (cntL cOne (markL mStr cOne o k) : Int) ≤ 4611686018427387904 := by rw [c9]; exact d3
  have o2 : (markL mStr cOne o k).length ≤ 9223372036854775807 := by omega
  have hms := markStr_idem o k
  have q1 : (1 : Int) + (cntL cResident (⟨r.Budget, r.Clock, markL mResident cResident r.In 1⟩ : GStore).In : Int) ≤ 4611686018427387904 := by show 1 + (cntL cResident (markL mResident cResident r.In 1) : Int) ≤ 4611686018427387904; omega
  have q2 : (⟨r.Budget, r.Clock, markL mResident cResident r.In 1⟩ : GStore).In.length ≤ 9223372036854775807 := by show (markL mResident cResident r.In 1).length ≤ 9223372036854775807; omega
  have ff := And.intro @eStore_eq (And.intro @eStoreo_eq (And.intro @esResident_share (And.intro @esResident_pure (And.intro @esStr_share (And.intro @esStr_pure (And.intro @c4 (And.intro @c5 (And.intro @c7 (And.intro @c8 (And.intro @c9 (And.intro @hk (And.intro @Ty.nz42 (And.intro @Ty.ldA42 (And.intro @Ty.sz42 (And.intro @Ty.szn42 (And.intro @Ty.nz46 (And.intro @Ty.ldA46 (And.intro @Ty.sz46 (And.intro @Ty.szn46 (And.intro @Ty.str9 (And.intro @Ty.zv46 (And.intro @Ty.sl47 @Ty.slz47))))))))))))))))))))))
  try refine st_by ff ?_
  repeat' (first
    | exact trivial
    | (refine And.intro ?_ ?_; · (try clear ff; first | omega | rfl | decide | (simp [pureV, pureVs, esResident_pure, esStr_pure])))
    | (refine ret_q1 rfl ?_; (try refine sr_by ff ?_); all_goals (try clear ff); all_goals (try exact trivial); all_goals (rfl))
    | (with_reducible refine cq_own (toStore_does s h2) ?_ ?_ ⟨?_, ?_⟩; (· first | rfl | exact cl_by ff); (· first | assumption | kernel_rfl); (· first | exact ca_by ff | (refine sa_by ff ?_; try clear ff; first | exact trivial | omega | rfl | decide | (simp [pureV, pureVs, esResident_pure, esStr_pure]))); refine st_by ff ?_)
    | (with_reducible refine cq_down (toStore_does s h2) ?_ ?_ ⟨?_, ?_⟩; (· first | rfl | exact cl_by ff); (· first | assumption | kernel_rfl); (· first | exact ca_by ff | (refine sa_by ff ?_; try clear ff; first | exact trivial | omega | rfl | decide | (simp [pureV, pureVs, esResident_pure, esStr_pure]))); refine st_by ff ?_)
    | (with_reducible refine cq_lend (p_spec_Fetch_does (s.In.length + 2) s t z _ e1) ?_ ?_ ⟨?_, ?_⟩; (· first | rfl | exact cl_by ff); (· first | assumption | kernel_rfl); (· first | exact ca_by ff | (refine sa_by ff ?_; try clear ff; first | exact trivial | omega | rfl | decide | (simp [pureV, pureVs, esResident_pure, esStr_pure]))); refine st_by ff ?_)
    | (with_reducible refine cq_dlend (p_spec_Fetch_does (s.In.length + 2) s t z _ e1) ?_ ?_ ⟨?_, ?_⟩; (· first | rfl | exact cl_by ff); (· first | assumption | kernel_rfl); (· first | exact ca_by ff | (refine sa_by ff ?_; try clear ff; first | exact trivial | omega | rfl | decide | (simp [pureV, pureVs, esResident_pure, esStr_pure]))); refine st_by ff ?_)
    | (with_reducible refine cq_lendOwn (p_impl_Fetch_does (s.In.length + 2) s t z _ e2) ?_ ?_ ⟨?_, ?_⟩; (· first | rfl | exact cl_by ff); (· first | assumption | kernel_rfl); (· first | exact ca_by ff | (refine sa_by ff ?_; try clear ff; first | exact trivial | omega | rfl | decide | (simp [pureV, pureVs, esResident_pure, esStr_pure]))); refine st_by ff ?_)
    | (with_reducible refine cq_dlendOwn (p_impl_Fetch_does (s.In.length + 2) s t z _ e2) ?_ ?_ ⟨?_, ?_⟩; (· first | rfl | exact cl_by ff); (· first | assumption | kernel_rfl); (· first | exact ca_by ff | (refine sa_by ff ?_; try clear ff; first | exact trivial | omega | rfl | decide | (simp [pureV, pureVs, esResident_pure, esStr_pure]))); refine st_by ff ?_)
    | (with_reducible refine cq_lend (eqStore_does r r hr hr) ?_ ?_ ⟨?_, ?_⟩; (· first | rfl | exact cl_by ff); (· first | assumption | kernel_rfl); (· first | exact ca_by ff | (refine sa_by ff ?_; try clear ff; first | exact trivial | omega | rfl | decide | (simp [pureV, pureVs, esResident_pure, esStr_pure]))); refine st_by ff ?_)
    | (with_reducible refine cq_dlend (eqStore_does r r hr hr) ?_ ?_ ⟨?_, ?_⟩; (· first | rfl | exact cl_by ff); (· first | assumption | kernel_rfl); (· first | exact ca_by ff | (refine sa_by ff ?_; try clear ff; first | exact trivial | omega | rfl | decide | (simp [pureV, pureVs, esResident_pure, esStr_pure]))); refine st_by ff ?_)
    | (with_reducible refine cq_lend (eqStringS_does o o o1 o1) ?_ ?_ ⟨?_, ?_⟩; (· first | rfl | exact cl_by ff); (· first | assumption | kernel_rfl); (· first | exact ca_by ff | (refine sa_by ff ?_; try clear ff; first | exact trivial | omega | rfl | decide | (simp [pureV, pureVs, esResident_pure, esStr_pure]))); refine st_by ff ?_)
    | (with_reducible refine cq_dlend (eqStringS_does o o o1 o1) ?_ ?_ ⟨?_, ?_⟩; (· first | rfl | exact cl_by ff); (· first | assumption | kernel_rfl); (· first | exact ca_by ff | (refine sa_by ff ?_; try clear ff; first | exact trivial | omega | rfl | decide | (simp [pureV, pureVs, esResident_pure, esStr_pure]))); refine st_by ff ?_)
    | (with_reducible refine cq_lend (eqStore_does s s hs hs) ?_ ?_ ⟨?_, ?_⟩; (· first | rfl | exact cl_by ff); (· first | assumption | kernel_rfl); (· first | exact ca_by ff | (refine sa_by ff ?_; try clear ff; first | exact trivial | omega | rfl | decide | (simp [pureV, pureVs, esResident_pure, esStr_pure]))); refine st_by ff ?_)
    | (with_reducible refine cq_dlend (eqStore_does s s hs hs) ?_ ?_ ⟨?_, ?_⟩; (· first | rfl | exact cl_by ff); (· first | assumption | kernel_rfl); (· first | exact ca_by ff | (refine sa_by ff ?_; try clear ff; first | exact trivial | omega | rfl | decide | (simp [pureV, pureVs, esResident_pure, esStr_pure]))); refine st_by ff ?_)
    | (with_reducible refine cq_Xs [(11, [2])] (markStore_does s 1 (by decide) d1 w1) ?_ ?_ ?_ ⟨?_, ?_⟩; (· first | rfl | exact cl_by ff); (· first | assumption | kernel_rfl); (· first | decide | simp); (· first | exact ca_by ff | (refine sa_by ff ?_; try clear ff; first | exact trivial | omega | rfl | decide | (simp [pureV, pureVs, esResident_pure, esStr_pure]))); refine st_by ff ?_)
    | (with_reducible refine cq_Xs [(12, [2])] (markStore_does r 1 (by decide) (by rw [hk]; omega) r1) ?_ ?_ ?_ ⟨?_, ?_⟩; (· first | rfl | exact cl_by ff); (· first | assumption | kernel_rfl); (· first | decide | simp); (· first | exact ca_by ff | (refine sa_by ff ?_; try clear ff; first | exact trivial | omega | rfl | decide | (simp [pureV, pureVs, esResident_pure, esStr_pure]))); refine st_by ff ?_)
    | (with_reducible refine cq_Xs [(44, [1])] (markStringS_does o k k0 d3 o1) ?_ ?_ ?_ ⟨?_, ?_⟩; (· first | rfl | exact cl_by ff); (· first | assumption | kernel_rfl); (· first | decide | simp); (· first | exact ca_by ff | (refine sa_by ff ?_; try clear ff; first | exact trivial | omega | rfl | decide | (simp [pureV, pureVs, esResident_pure, esStr_pure]))); refine st_by ff ?_)
    | (with_reducible refine cq_lend (heldStore_does (⟨r.Budget, r.Clock, markL mResident cResident r.In 1⟩ : GStore) 1 (by decide) q1 q2 hm) ?_ ?_ ⟨?_, ?_⟩; (· first | rfl | exact cl_by ff); (· first | assumption | kernel_rfl); (· first | exact ca_by ff | (refine sa_by ff ?_; try clear ff; first | exact trivial | omega | rfl | decide | (simp [pureV, pureVs, esResident_pure, esStr_pure]))); refine st_by ff ?_)
    | (with_reducible refine cq_dlend (heldStore_does (⟨r.Budget, r.Clock, markL mResident cResident r.In 1⟩ : GStore) 1 (by decide) q1 q2 hm) ?_ ?_ ⟨?_, ?_⟩; (· first | rfl | exact cl_by ff); (· first | assumption | kernel_rfl); (· first | exact ca_by ff | (refine sa_by ff ?_; try clear ff; first | exact trivial | omega | rfl | decide | (simp [pureV, pureVs, esResident_pure, esStr_pure]))); refine st_by ff ?_)
    | (with_reducible refine cq_lend (heldStringS_does (markL mStr cOne o k) k k0 d4 o2 hms) ?_ ?_ ⟨?_, ?_⟩; (· first | rfl | exact cl_by ff); (· first | assumption | kernel_rfl); (· first | exact ca_by ff | (refine sa_by ff ?_; try clear ff; first | exact trivial | omega | rfl | decide | (simp [pureV, pureVs, esResident_pure, esStr_pure]))); refine st_by ff ?_)
    | (with_reducible refine cq_dlend (heldStringS_does (markL mStr cOne o k) k k0 d4 o2 hms) ?_ ?_ ⟨?_, ?_⟩; (· first | rfl | exact cl_by ff); (· first | assumption | kernel_rfl); (· first | exact ca_by ff | (refine sa_by ff ?_; try clear ff; first | exact trivial | omega | rfl | decide | (simp [pureV, pureVs, esResident_pure, esStr_pure]))); refine st_by ff ?_)
    | (refine aw_drawn (id := 12) ?_ [[], [], [1], [0, 1, 2], [0, 1, 2, 3]] 3 ?_ ?_; (· kernel_rfl); (· kernel_rfl); refine st_by ff ?_)
    | (with_reducible refine CBC_eq (fun hp hd => ?_) (fun hp hd => ?_) <;> refine st_by (And.intro hd ff) ?_)
    | (with_reducible refine CBC_ne (fun hp hd => ?_) (fun hp hd => ?_) <;> refine st_by (And.intro hd ff) ?_)
    | (with_reducible refine CBC_decT ?_ (fun hd => ?_); (· try clear ff; first | assumption | omega); refine st_by (And.intro hd ff) ?_)
    | (with_reducible refine CBC_decF ?_ (fun hd => ?_); (· try clear ff; first | assumption | omega); refine st_by (And.intro hd ff) ?_)
    | (with_reducible refine CBC_dec (fun hp hd => ?_) (fun hp hd => ?_) <;> refine st_by (And.intro hd ff) ?_)
    | (refine CBC_bool (fun hd => ?_) (fun hd => ?_) <;> refine st_by (And.intro hd ff) ?_)
    | (with_reducible refine GQ_eq (fun hp hd => ?_) (fun hp hd => ?_) <;> refine st_by (And.intro hd ff) ?_)
    | (with_reducible refine GQ_ne (fun hp hd => ?_) (fun hp hd => ?_) <;> refine st_by (And.intro hd ff) ?_)
    | (with_reducible refine GQ_decT ?_ (fun hd => ?_); (· try clear ff; first | assumption | omega); refine st_by (And.intro hd ff) ?_)
    | (with_reducible refine GQ_decF ?_ (fun hd => ?_); (· try clear ff; first | assumption | omega); refine st_by (And.intro hd ff) ?_)
    | (with_reducible refine GQ_dec (fun hp hd => ?_) (fun hp hd => ?_) <;> refine st_by (And.intro hd ff) ?_)
    | (with_reducible refine GQ_ndT ?_ (fun hd => ?_); (· try clear ff; first | assumption | omega); refine st_by (And.intro hd ff) ?_)
    | (with_reducible refine GQ_ndF ?_ (fun hd => ?_); (· try clear ff; first | assumption | omega); refine st_by (And.intro hd ff) ?_)
    | (with_reducible refine GQ_nd (fun hp hd => ?_) (fun hp hd => ?_) <;> refine st_by (And.intro hd ff) ?_)
    | (refine GQ_nb (fun hd => ?_) (fun hd => ?_) <;> refine st_by (And.intro hd ff) ?_)
    | (refine GQ_bool (fun hd => ?_) (fun hd => ?_) <;> refine st_by (And.intro hd ff) ?_)
    | (with_reducible refine GD_eq (fun hp hd => ?_) (fun hp hd => ?_) <;> refine st_by (And.intro hd ff) ?_)
    | (with_reducible refine GD_ne (fun hp hd => ?_) (fun hp hd => ?_) <;> refine st_by (And.intro hd ff) ?_)
    | (with_reducible refine GD_decT ?_ (fun hd => ?_); (· try clear ff; first | assumption | omega); refine st_by (And.intro hd ff) ?_)
    | (with_reducible refine GD_decF ?_ (fun hd => ?_); (· try clear ff; first | assumption | omega); refine st_by (And.intro hd ff) ?_)
    | (with_reducible refine GD_dec (fun hp hd => ?_) (fun hp hd => ?_) <;> refine st_by (And.intro hd ff) ?_)
    | (with_reducible refine GD_ndT ?_ (fun hd => ?_); (· try clear ff; first | assumption | omega); refine st_by (And.intro hd ff) ?_)
    | (with_reducible refine GD_ndF ?_ (fun hd => ?_); (· try clear ff; first | assumption | omega); refine st_by (And.intro hd ff) ?_)
    | (with_reducible refine GD_nd (fun hp hd => ?_) (fun hp hd => ?_) <;> refine st_by (And.intro hd ff) ?_)
    | (refine GD_nb (fun hd => ?_) (fun hd => ?_) <;> refine st_by (And.intro hd ff) ?_)
    | (refine GD_bool (fun hd => ?_) (fun hd => ?_) <;> refine st_by (And.intro hd ff) ?_))
  all_goals try clear ff
end Go.Av
