/- The laws of SetProp and CutProp. -/
import Derived.Test.YtlcdgjgenccakaaDoorBK6
import Derived.Test.YtlcdgjgenccakaaDoorBK3
section
set_option linter.unusedSimpArgs false
set_option linter.unusedVariables false
set_option maxRecDepth 100000
set_option maxHeartbeats 1000000
namespace Go.Av
open Go.Proofs
/-! The laws of SetProp and CutProp. -/
theorem cProps (l : List GProp) : cntL cProp l = 2 * l.length := cntL_k (fun _ => rfl) l
theorem cSteps (l : List GStep) : cntL cStep l = 5 * l.length := cntL_k (fun _ => rfl) l
theorem mProp_idem : ∀ (x : GProp) (k : Int), mProp (mProp x k) k = mProp x k := fun _ _ => rfl
theorem cProp_mark : ∀ (x : GProp) (k : Int), cProp (mProp x k) = cProp x := fun _ _ => rfl
theorem mStep_idem : ∀ (x : GStep) (k : Int), mStep (mStep x k) k = mStep x k := fun _ _ => rfl
theorem cStep_mark : ∀ (x : GStep) (k : Int), cStep (mStep x k) = cStep x := fun _ _ => rfl
theorem wfEd_up {x : GEdited} (h : wfEdited 1048577 x) : wfEdited 9223372036854775807 x :=
  ⟨by have := h.1; omega, fun y hy => ⟨by have := (h.2.1 y hy).1; omega, by have := (h.2.1 y hy).2; omega⟩, by have := h.2.2.1; omega, fun y hy => ⟨by have := (h.2.2.2.1 y hy).1; omega, by have := (h.2.2.2.1 y hy).2.1; omega, by have := (h.2.2.2.1 y hy).2.2; omega⟩,
    by have := h.2.2.2.2.1; omega, fun y hy => ⟨by have := (h.2.2.2.2.2 y hy).1; omega, by have := (h.2.2.2.2.2 y hy).2.1; omega, by have := (h.2.2.2.2.2 y hy).2.2; omega⟩⟩
theorem wfEd_one {x : GEdited} (h : wfEdited 1048576 x) : wfEdited 1048577 x :=
  ⟨by have := h.1; omega, fun y hy => ⟨by have := (h.2.1 y hy).1; omega, by have := (h.2.1 y hy).2; omega⟩, by have := h.2.2.1; omega, fun y hy => ⟨by have := (h.2.2.2.1 y hy).1; omega, by have := (h.2.2.2.1 y hy).2.1; omega, by have := (h.2.2.2.1 y hy).2.2; omega⟩,
    by have := h.2.2.2.2.1; omega, fun y hy => ⟨by have := (h.2.2.2.2.2 y hy).1; omega, by have := (h.2.2.2.2.2 y hy).2.1; omega, by have := (h.2.2.2.2.2 y hy).2.2; omega⟩⟩
theorem nilEd_wf : wfEdited 1048577 nilEd := ⟨by decide, fun y hy => by simp [nilEd] at hy, by decide, fun y hy => by simp [nilEd] at hy, by decide, fun y hy => by simp [nilEd] at hy⟩
theorem doR_wf {l : List GProp} {s : GStep} (hl : l.length ≤ 1048576) (hx : ∀ y ∈ l, wfProp 1048576 y) (hs : okSt s) : (doR l s).1.length ≤ 1048577 ∧ ∀ y ∈ (doR l s).1, wfProp 1048577 y := by
  unfold doR
  split
  · refine ⟨by have := (layR_len s.Path s.Is s.Has l).1; show (layR s.Path s.Is s.Has l).length ≤ 1048577; omega, fun y hy => ?_⟩
    rcases layR_mem hy with ⟨_, rfl⟩ | hy
    · exact ⟨by have := hs.1; show s.Path.size ≤ _; omega, by have := hs.2.2; show s.Is.size ≤ _; omega⟩
    · exact ⟨by have := (hx y hy).1; omega, by have := (hx y hy).2; omega⟩
  · exact ⟨by simp, fun y hy => by simp at hy⟩
theorem stepR_wf {x : GEdited} {s : GStep} (h : wfEdited 1048576 x) (hs : okSt s) : wfEdited 1048577 (stepR x s).1 := by
  unfold stepR
  split
  · obtain ⟨d1, d2⟩ := doR_wf h.1 h.2.1 hs
    refine ⟨d1, d2, by have := h.2.2.1; show (x.Done ++ [s]).length ≤ _; rw [List.length_append, List.length_singleton]; omega, fun y hy => ?_, by show 0 ≤ _; omega, fun y hy => by simp at hy⟩
    rcases List.mem_append.1 hy with hy | hy
    · exact ⟨by have := (h.2.2.2.1 y hy).1; omega, by have := (h.2.2.2.1 y hy).2.1; omega, by have := (h.2.2.2.1 y hy).2.2; omega⟩
    · simp at hy; subst hy; exact ⟨by have := hs.1; omega, by have := hs.2.1; omega, by have := hs.2.2; omega⟩
  · exact nilEd_wf
theorem setR_wf {x : GEdited} {p v : ByteArray} (h : wfEdited 1048576 x) (hp : p.size ≤ 1048576) (hv : v.size ≤ 1048576) : wfEdited 1048577 (setR x p v).1 := by
  unfold setR
  split
  · split
    · exact wfEd_one h
    · exact stepR_wf h ⟨hp, findR_size (fun y hy => (h.2.1 y hy).2), hv⟩
  · exact nilEd_wf
/-- What is marked, as a struct. -/
def mkEd (x : GEdited) (k : Int) : GEdited := ⟨markL mProp cProp x.Props k, markL mStep cStep x.Done (k + (cntL cProp x.Props : Int)), markL mStep cStep x.Back (k + (cntL cProp x.Props : Int) + (cntL cStep x.Done : Int))⟩
theorem markEditedB_does (x : GEdited) (k : Int) (h0 : 0 ≤ k) (hk : k + ((cntL cProp) x.Props : Int) + ((cntL cStep) x.Done : Int) + ((cntL cStep) x.Back : Int) ≤ 4611686018427387904) (hl0 : x.Props.length ≤ 9223372036854775807) (hl1 : x.Done.length ≤ 9223372036854775807) (hl2 : x.Back.length ≤ 9223372036854775807) :
    DoesX Tryd.prog 15 [.agg [.sl 1000 [0] 0 x.Props.length, .sl 1000 [1] 0 x.Done.length, .sl 1000 [2] 0 x.Back.length], I k] [.box true [.row true 2 x.Props.length (esProp x.Props), .row true 5 x.Done.length (esStep x.Done), .row true 5 x.Back.length (esStep x.Back)]] (I (k + ((cntL cProp) x.Props : Int) + ((cntL cStep) x.Done : Int) + ((cntL cStep) x.Back : Int)))
      [.box true [.row true 2 x.Props.length (esProp ((markL mProp cProp) x.Props (k))), .row true 5 x.Done.length (esStep ((markL mStep cStep) x.Done (k + ((cntL cProp) x.Props : Int)))), .row true 5 x.Back.length (esStep ((markL mStep cStep) x.Back (k + ((cntL cProp) x.Props : Int) + ((cntL cStep) x.Done : Int))))]] :=
  DoesX.inBox (markEdited_does x k h0 hk hl0 hl1 hl2)
theorem lawSPr_does (x : GEdited) (p v : ByteArray) (hx : wfEdited 9223372036854775807 x) (hp : p.size ≤ 9223372036854775807) (hv : v.size ≤ 9223372036854775807) : Does Tryd.prog 7 [.agg (eEdited x), S p, S v] (B true) := by
  refine Does.walk (nt := 112) Tryd.func7 rfl rfl (by simp) (by decide) rfl (fun G0 X w0 pv => ?_)
  by_cases g1 : (p.size : Int) > 1048576
  · have dg := decide_eq_true g1
    have ff := And.intro @eEdited_eq (And.intro @dg (And.intro @Ty.nz25 (And.intro @Ty.ldA25 (And.intro @Ty.sz25 (And.intro @Ty.szn25 (And.intro @Ty.nz31 (And.intro @Ty.ldA31 (And.intro @Ty.sz31 (And.intro @Ty.szn31 (And.intro @Ty.str9 (And.intro @Ty.bl4 @Ty.zv31)))))))))))
    try refine st_by ff ?_
    repeat' (first
      | exact trivial
      | (refine And.intro ?_ ?_; · (try clear ff; first | omega))
      | (refine ret_q1 rfl ?_; (try refine sr_by ff ?_); all_goals (try clear ff); all_goals (try exact trivial); all_goals (rfl))
      | (refine aw_drawn (id := 14) ?_ [[], [], [1], [0, 1, 2], [0, 1, 2, 3]] 3 ?_ ?_; (· kernel_rfl); (· kernel_rfl); refine st_by ff ?_)
      | (with_reducible refine CBC_eq (fun hp hd => ?_) (fun hp hd => ?_) <;> refine st_by (And.intro hd ff) ?_)
      | (with_reducible refine CBC_ne (fun hp hd => ?_) (fun hp hd => ?_) <;> refine st_by (And.intro hd ff) ?_)
      | (with_reducible refine CBC_decT ?_ (fun hd => ?_); (· try clear ff; first | assumption | omega); refine st_by (And.intro hd ff) ?_)
      | (with_reducible refine CBC_decF ?_ (fun hd => ?_); (· try clear ff; first | assumption | omega); refine st_by (And.intro hd ff) ?_)
      | (with_reducible refine CBC_dec (fun hp hd => ?_) (fun hp hd => ?_) <;> refine st_by (And.intro hd ff) ?_)
      | (refine CBC_bool (fun hd => ?_) (fun hd => ?_) <;> refine st_by (And.intro hd ff) ?_)
      | (with_reducible refine GQ_eq (fun hp hd => ?_) (fun hp hd => ?_) <;> refine st_by (And.intro hd ff) ?_)
      | (with_reducible refine GQ_ne (fun hp hd => ?_) (fun hp hd => ?_) <;> refine st_by (And.intro hd ff) ?_)
      | (with_reducible refine GQ_decT ?_ (fun hd => ?_); (· try clear ff; first | assumption | omega); refine st_by (And.intro hd ff) ?_)
      | (with_reducible refine GQ_decF ?_ (fun hd => ?_); (· try clear ff; first | assumption | omega); refine st_by (And.intro hd ff) ?_)
      | (with_reducible refine GQ_dec (fun hp hd => ?_) (fun hp hd => ?_) <;> refine st_by (And.intro hd ff) ?_)
      | (with_reducible refine GQ_ndT ?_ (fun hd => ?_); (· try clear ff; first | assumption | omega); refine st_by (And.intro hd ff) ?_)
      | (with_reducible refine GQ_ndF ?_ (fun hd => ?_); (· try clear ff; first | assumption | omega); refine st_by (And.intro hd ff) ?_)
      | (with_reducible refine GQ_nd (fun hp hd => ?_) (fun hp hd => ?_) <;> refine st_by (And.intro hd ff) ?_)
      | (refine GQ_nb (fun hd => ?_) (fun hd => ?_) <;> refine st_by (And.intro hd ff) ?_)
      | (refine GQ_bool (fun hd => ?_) (fun hd => ?_) <;> refine st_by (And.intro hd ff) ?_)
      | (with_reducible refine GD_eq (fun hp hd => ?_) (fun hp hd => ?_) <;> refine st_by (And.intro hd ff) ?_)
      | (with_reducible refine GD_ne (fun hp hd => ?_) (fun hp hd => ?_) <;> refine st_by (And.intro hd ff) ?_)
      | (with_reducible refine GD_decT ?_ (fun hd => ?_); (· try clear ff; first | assumption | omega); refine st_by (And.intro hd ff) ?_)
      | (with_reducible refine GD_decF ?_ (fun hd => ?_); (· try clear ff; first | assumption | omega); refine st_by (And.intro hd ff) ?_)
      | (with_reducible refine GD_dec (fun hp hd => ?_) (fun hp hd => ?_) <;> refine st_by (And.intro hd ff) ?_)
      | (with_reducible refine GD_ndT ?_ (fun hd => ?_); (· try clear ff; first | assumption | omega); refine st_by (And.intro hd ff) ?_)
      | (with_reducible refine GD_ndF ?_ (fun hd => ?_); (· try clear ff; first | assumption | omega); refine st_by (And.intro hd ff) ?_)
      | (with_reducible refine GD_nd (fun hp hd => ?_) (fun hp hd => ?_) <;> refine st_by (And.intro hd ff) ?_)
      | (refine GD_nb (fun hd => ?_) (fun hd => ?_) <;> refine st_by (And.intro hd ff) ?_)
      | (refine GD_bool (fun hd => ?_) (fun hd => ?_) <;> refine st_by (And.intro hd ff) ?_))
    all_goals try clear ff
  have dg1 := decide_eq_false g1
  by_cases g2 : (v.size : Int) > 1048576
  · have dg := decide_eq_true g2
    have ff := And.intro @eEdited_eq (And.intro @dg1 (And.intro @dg (And.intro @Ty.nz25 (And.intro @Ty.ldA25 (And.intro @Ty.sz25 (And.intro @Ty.szn25 (And.intro @Ty.nz31 (And.intro @Ty.ldA31 (And.intro @Ty.sz31 (And.intro @Ty.szn31 (And.intro @Ty.str9 (And.intro @Ty.bl4 @Ty.zv31))))))))))))
    try refine st_by ff ?_
    repeat' (first
      | exact trivial
      | (refine And.intro ?_ ?_; · (try clear ff; first | omega))
      | (refine ret_q1 rfl ?_; (try refine sr_by ff ?_); all_goals (try clear ff); all_goals (try exact trivial); all_goals (rfl))
      | (refine aw_drawn (id := 14) ?_ [[], [], [1], [0, 1, 2], [0, 1, 2, 3]] 3 ?_ ?_; (· kernel_rfl); (· kernel_rfl); refine st_by ff ?_)
      | (with_reducible refine CBC_eq (fun hp hd => ?_) (fun hp hd => ?_) <;> refine st_by (And.intro hd ff) ?_)
      | (with_reducible refine CBC_ne (fun hp hd => ?_) (fun hp hd => ?_) <;> refine st_by (And.intro hd ff) ?_)
      | (with_reducible refine CBC_decT ?_ (fun hd => ?_); (· try clear ff; first | assumption | omega); refine st_by (And.intro hd ff) ?_)
      | (with_reducible refine CBC_decF ?_ (fun hd => ?_); (· try clear ff; first | assumption | omega); refine st_by (And.intro hd ff) ?_)
      | (with_reducible refine CBC_dec (fun hp hd => ?_) (fun hp hd => ?_) <;> refine st_by (And.intro hd ff) ?_)
      | (refine CBC_bool (fun hd => ?_) (fun hd => ?_) <;> refine st_by (And.intro hd ff) ?_)
      | (with_reducible refine GQ_eq (fun hp hd => ?_) (fun hp hd => ?_) <;> refine st_by (And.intro hd ff) ?_)
      | (with_reducible refine GQ_ne (fun hp hd => ?_) (fun hp hd => ?_) <;> refine st_by (And.intro hd ff) ?_)
      | (with_reducible refine GQ_decT ?_ (fun hd => ?_); (· try clear ff; first | assumption | omega); refine st_by (And.intro hd ff) ?_)
      | (with_reducible refine GQ_decF ?_ (fun hd => ?_); (· try clear ff; first | assumption | omega); refine st_by (And.intro hd ff) ?_)
      | (with_reducible refine GQ_dec (fun hp hd => ?_) (fun hp hd => ?_) <;> refine st_by (And.intro hd ff) ?_)
      | (with_reducible refine GQ_ndT ?_ (fun hd => ?_); (· try clear ff; first | assumption | omega); refine st_by (And.intro hd ff) ?_)
      | (with_reducible refine GQ_ndF ?_ (fun hd => ?_); (· try clear ff; first | assumption | omega); refine st_by (And.intro hd ff) ?_)
      | (with_reducible refine GQ_nd (fun hp hd => ?_) (fun hp hd => ?_) <;> refine st_by (And.intro hd ff) ?_)
      | (refine GQ_nb (fun hd => ?_) (fun hd => ?_) <;> refine st_by (And.intro hd ff) ?_)
      | (refine GQ_bool (fun hd => ?_) (fun hd => ?_) <;> refine st_by (And.intro hd ff) ?_)
      | (with_reducible refine GD_eq (fun hp hd => ?_) (fun hp hd => ?_) <;> refine st_by (And.intro hd ff) ?_)
      | (with_reducible refine GD_ne (fun hp hd => ?_) (fun hp hd => ?_) <;> refine st_by (And.intro hd ff) ?_)
      | (with_reducible refine GD_decT ?_ (fun hd => ?_); (· try clear ff; first | assumption | omega); refine st_by (And.intro hd ff) ?_)
      | (with_reducible refine GD_decF ?_ (fun hd => ?_); (· try clear ff; first | assumption | omega); refine st_by (And.intro hd ff) ?_)
      | (with_reducible refine GD_dec (fun hp hd => ?_) (fun hp hd => ?_) <;> refine st_by (And.intro hd ff) ?_)
      | (with_reducible refine GD_ndT ?_ (fun hd => ?_); (· try clear ff; first | assumption | omega); refine st_by (And.intro hd ff) ?_)
      | (with_reducible refine GD_ndF ?_ (fun hd => ?_); (· try clear ff; first | assumption | omega); refine st_by (And.intro hd ff) ?_)
      | (with_reducible refine GD_nd (fun hp hd => ?_) (fun hp hd => ?_) <;> refine st_by (And.intro hd ff) ?_)
      | (refine GD_nb (fun hd => ?_) (fun hd => ?_) <;> refine st_by (And.intro hd ff) ?_)
      | (refine GD_bool (fun hd => ?_) (fun hd => ?_) <;> refine st_by (And.intro hd ff) ?_))
    all_goals try clear ff
  have dg2 := decide_eq_false g2
  have ff := And.intro @eEdited_eq (And.intro @dg1 (And.intro @dg2 (And.intro @Ty.nz25 (And.intro @Ty.ldA25 (And.intro @Ty.sz25 (And.intro @Ty.szn25 (And.intro @Ty.nz31 (And.intro @Ty.ldA31 (And.intro @Ty.sz31 (And.intro @Ty.szn31 (And.intro @Ty.str9 (And.intro @Ty.bl4 @Ty.zv31))))))))))))
  try refine st_by ff ?_
  repeat' (first
    | exact trivial
    | (refine And.intro ?_ ?_; · (try clear ff; first | omega))
    | (refine ret_q1 rfl ?_; (try refine sr_by ff ?_); all_goals (try clear ff); all_goals (try exact trivial); all_goals (rfl))
    | (with_reducible refine cq_call (szEdited_does x 1048576 (by decide) (by decide) hx) ?_ ?_ ⟨?_, ?_⟩; (· first | rfl | exact cl_by ff); (· first | assumption | kernel_rfl); (· first | exact ca_by ff | (refine sa_by ff ?_; try clear ff; first | exact trivial | omega)); refine st_by ff ?_)
    | (with_reducible refine cq_dcall (szEdited_does x 1048576 (by decide) (by decide) hx) ?_ ?_ ⟨?_, ?_⟩; (· first | rfl | exact cl_by ff); (· first | assumption | kernel_rfl); (· first | exact ca_by ff | (refine sa_by ff ?_; try clear ff; first | exact trivial | omega)); refine st_by ff ?_)
    | (refine aw_drawn (id := 14) ?_ [[], [], [1], [0, 1, 2], [0, 1, 2, 3]] 3 ?_ ?_; (· kernel_rfl); (· kernel_rfl); refine st_by ff ?_)
    | (with_reducible refine CBC_eq (fun hp hd => ?_) (fun hp hd => ?_) <;> refine st_by (And.intro hd ff) ?_)
    | (with_reducible refine CBC_ne (fun hp hd => ?_) (fun hp hd => ?_) <;> refine st_by (And.intro hd ff) ?_)
    | (with_reducible refine CBC_decT ?_ (fun hd => ?_); (· try clear ff; first | assumption | omega); refine st_by (And.intro hd ff) ?_)
    | (with_reducible refine CBC_decF ?_ (fun hd => ?_); (· try clear ff; first | assumption | omega); refine st_by (And.intro hd ff) ?_)
    | (with_reducible refine CBC_dec (fun hp hd => ?_) (fun hp hd => ?_) <;> refine st_by (And.intro hd ff) ?_)
    | (refine CBC_bool (fun hd => ?_) (fun hd => ?_) <;> refine st_by (And.intro hd ff) ?_)
    | (with_reducible refine GQ_eq (fun hp hd => ?_) (fun hp hd => ?_) <;> refine st_by (And.intro hd ff) ?_)
    | (with_reducible refine GQ_ne (fun hp hd => ?_) (fun hp hd => ?_) <;> refine st_by (And.intro hd ff) ?_)
    | (with_reducible refine GQ_decT ?_ (fun hd => ?_); (· try clear ff; first | assumption | omega); refine st_by (And.intro hd ff) ?_)
    | (with_reducible refine GQ_decF ?_ (fun hd => ?_); (· try clear ff; first | assumption | omega); refine st_by (And.intro hd ff) ?_)
    | (with_reducible refine GQ_dec (fun hp hd => ?_) (fun hp hd => ?_) <;> refine st_by (And.intro hd ff) ?_)
    | (with_reducible refine GQ_ndT ?_ (fun hd => ?_); (· try clear ff; first | assumption | omega); refine st_by (And.intro hd ff) ?_)
    | (with_reducible refine GQ_ndF ?_ (fun hd => ?_); (· try clear ff; first | assumption | omega); refine st_by (And.intro hd ff) ?_)
    | (with_reducible refine GQ_nd (fun hp hd => ?_) (fun hp hd => ?_) <;> refine st_by (And.intro hd ff) ?_)
    | (refine GQ_nb (fun hd => ?_) (fun hd => ?_) <;> refine st_by (And.intro hd ff) ?_)
    | (refine GQ_bool (fun hd => ?_) (fun hd => ?_) <;> refine st_by (And.intro hd ff) ?_)
    | (with_reducible refine GD_eq (fun hp hd => ?_) (fun hp hd => ?_) <;> refine st_by (And.intro hd ff) ?_)
    | (with_reducible refine GD_ne (fun hp hd => ?_) (fun hp hd => ?_) <;> refine st_by (And.intro hd ff) ?_)
    | (with_reducible refine GD_decT ?_ (fun hd => ?_); (· try clear ff; first | assumption | omega); refine st_by (And.intro hd ff) ?_)
    | (with_reducible refine GD_decF ?_ (fun hd => ?_); (· try clear ff; first | assumption | omega); refine st_by (And.intro hd ff) ?_)
    | (with_reducible refine GD_dec (fun hp hd => ?_) (fun hp hd => ?_) <;> refine st_by (And.intro hd ff) ?_)
    | (with_reducible refine GD_ndT ?_ (fun hd => ?_); (· try clear ff; first | assumption | omega); refine st_by (And.intro hd ff) ?_)
    | (with_reducible refine GD_ndF ?_ (fun hd => ?_); (· try clear ff; first | assumption | omega); refine st_by (And.intro hd ff) ?_)
    | (with_reducible refine GD_nd (fun hp hd => ?_) (fun hp hd => ?_) <;> refine st_by (And.intro hd ff) ?_)
    | (refine GD_nb (fun hd => ?_) (fun hd => ?_) <;> refine st_by (And.intro hd ff) ?_)
    | (refine GD_bool (fun hd => ?_) (fun hd => ?_) <;> refine st_by (And.intro hd ff) ?_))
  all_goals try clear ff
  have h1 : 0 ≤ szEdited x 1048576 := by omega
  have h2 := szEd_nm h1
  have hps : p.size ≤ 1048576 := by omega
  have hvs : v.size ≤ 1048576 := by omega
  have ho := wfEd_ok h2
  have hval : ∀ y ∈ x.Props, y.Value.size ≤ 1048576 := fun y hy => (h2.2.1 y hy).2
  have e1 := set_spec 1048578 x p v ho hval hps hvs (by decide)
  have e2 := set_impl 1048578 x p v ho hval hps hvs (by decide)
  have hw := setR_wf h2 hps hvs
  generalize setR x p v = rr at *
  obtain ⟨r, c⟩ := rr
  simp only at hw
  have hr := wfEd_up hw
  obtain ⟨x1, _, x2, _, x3, _⟩ := h2
  obtain ⟨r1, _, r2, _, r3, _⟩ := hw
  have h2 := szEd_nm h1
  have c1 := cProps x.Props
  have c2 := cSteps x.Done
  have c3 := cSteps x.Back
  have c4 := cProps r.Props
  have c5 := cSteps r.Done
  have c6 := cSteps r.Back
  have X1 : x.Props.length ≤ 9223372036854775807 := by omega
  have X2 : x.Done.length ≤ 9223372036854775807 := by omega
  have X3 : x.Back.length ≤ 9223372036854775807 := by omega
  have R1 : r.Props.length ≤ 9223372036854775807 := by omega
  have R2 : r.Done.length ≤ 9223372036854775807 := by omega
  have R3 : r.Back.length ≤ 9223372036854775807 := by omega
  have d1 : (1 : Int) + (cntL cProp x.Props : Int) + (cntL cStep x.Done : Int) + (cntL cStep x.Back : Int) ≤ 4611686018427387904 := by omega
  have d2 : (1 : Int) + (cntL cProp r.Props : Int) + (cntL cStep r.Done : Int) + (cntL cStep r.Back : Int) ≤ 4611686018427387904 := by omega
  have m1 : (markL mProp cProp r.Props 1).length = r.Props.length := markL_len _ _
  have m2 : ∀ k, (markL mStep cStep r.Done k).length = r.Done.length := fun k => markL_len _ _
  have m3 : ∀ k, (markL mStep cStep r.Back k).length = r.Back.length := fun k => markL_len _ _
  have n1 : cntL cProp (markL mProp cProp r.Props 1) = cntL cProp r.Props := cntL_mark cProp_mark _ _
  have n2 : ∀ k, cntL cStep (markL mStep cStep r.Done k) = cntL cStep r.Done := fun k => cntL_mark cStep_mark _ _
  have n3 : ∀ k, cntL cStep (markL mStep cStep r.Back k) = cntL cStep r.Back := fun k => cntL_mark cStep_mark _ _
  have q0 : (1 : Int) + (cntL cProp (mkEd r 1).Props : Int) + (cntL cStep (mkEd r 1).Done : Int) + (cntL cStep (mkEd r 1).Back : Int) ≤ 4611686018427387904 := by
    simp only [mkEd, n1, n2, n3]; exact d2
  have q1 : (mkEd r 1).Props.length ≤ 9223372036854775807 := by simp only [mkEd, m1]; exact R1
  have q2 : (mkEd r 1).Done.length ≤ 9223372036854775807 := by simp only [mkEd, m2]; exact R2
  have q3 : (mkEd r 1).Back.length ≤ 9223372036854775807 := by simp only [mkEd, m3]; exact R3
  have i1 : markL mProp cProp (mkEd r 1).Props 1 = (mkEd r 1).Props := markL_idem mProp_idem cProp_mark _ _
  have i2 : markL mStep cStep (mkEd r 1).Done (1 + (cntL cProp (mkEd r 1).Props : Int)) = (mkEd r 1).Done := by
    simp only [mkEd, n1]; exact markL_idem mStep_idem cStep_mark _ _
  have i3 : markL mStep cStep (mkEd r 1).Back (1 + (cntL cProp (mkEd r 1).Props : Int) + (cntL cStep (mkEd r 1).Done : Int)) = (mkEd r 1).Back := by
    simp only [mkEd, n1, n2]; exact markL_idem mStep_idem cStep_mark _ _
  have hheld := heldEdited_does (mkEd r 1) 1 (by decide) q0 q1 q2 q3 i1 i2 i3
  simp only [mkEd, n1, n2, n3, eEdited, m1, m2, m3] at hheld
  (try clear hd)
  have ff := And.intro @eEdited_eq (And.intro @eEditedo_eq (And.intro @esProp_share (And.intro @esProp_pure (And.intro @esStep_share (And.intro @esStep_pure (And.intro @m1 (And.intro @m2 (And.intro @m3 (And.intro @n1 (And.intro @n2 (And.intro @n3 (And.intro @Ty.nz25 (And.intro @Ty.ldA25 (And.intro @Ty.sz25 (And.intro @Ty.szn25 (And.intro @Ty.nz31 (And.intro @Ty.ldA31 (And.intro @Ty.sz31 (And.intro @Ty.szn31 (And.intro @Ty.str9 (And.intro @Ty.bl4 @Ty.zv31)))))))))))))))))))))
  try refine st_by ff ?_
  repeat' (first
    | exact trivial
    | (refine And.intro ?_ ?_; · (try clear ff; first | omega | rfl | decide | (simp [pureV, pureVs, esProp_pure, esStep_pure])))
    | (refine ret_q1 rfl ?_; (try refine sr_by ff ?_); all_goals (try clear ff); all_goals (try exact trivial); all_goals (rfl))
    | (with_reducible refine cq_own (toEdited_does x h2) ?_ ?_ ⟨?_, ?_⟩; (· first | rfl | exact cl_by ff); (· first | assumption | kernel_rfl); (· first | exact ca_by ff | (refine sa_by ff ?_; try clear ff; first | exact trivial | omega | rfl | decide | (simp [pureV, pureVs, esProp_pure, esStep_pure]))); refine st_by ff ?_)
    | (with_reducible refine cq_down (toEdited_does x h2) ?_ ?_ ⟨?_, ?_⟩; (· first | rfl | exact cl_by ff); (· first | assumption | kernel_rfl); (· first | exact ca_by ff | (refine sa_by ff ?_; try clear ff; first | exact trivial | omega | rfl | decide | (simp [pureV, pureVs, esProp_pure, esStep_pure]))); refine st_by ff ?_)
    | (with_reducible refine cq_lend (p_spec_SetProp_does 1048578 x p v _ e1) ?_ ?_ ⟨?_, ?_⟩; (· first | rfl | exact cl_by ff); (· first | assumption | kernel_rfl); (· first | exact ca_by ff | (refine sa_by ff ?_; try clear ff; first | exact trivial | omega | rfl | decide | (simp [pureV, pureVs, esProp_pure, esStep_pure]))); refine st_by ff ?_)
    | (with_reducible refine cq_dlend (p_spec_SetProp_does 1048578 x p v _ e1) ?_ ?_ ⟨?_, ?_⟩; (· first | rfl | exact cl_by ff); (· first | assumption | kernel_rfl); (· first | exact ca_by ff | (refine sa_by ff ?_; try clear ff; first | exact trivial | omega | rfl | decide | (simp [pureV, pureVs, esProp_pure, esStep_pure]))); refine st_by ff ?_)
    | (with_reducible refine cq_lendOwn (p_impl_SetProp_does 1048578 x p v _ e2) ?_ ?_ ⟨?_, ?_⟩; (· first | rfl | exact cl_by ff); (· first | assumption | kernel_rfl); (· first | exact ca_by ff | (refine sa_by ff ?_; try clear ff; first | exact trivial | omega | rfl | decide | (simp [pureV, pureVs, esProp_pure, esStep_pure]))); refine st_by ff ?_)
    | (with_reducible refine cq_dlendOwn (p_impl_SetProp_does 1048578 x p v _ e2) ?_ ?_ ⟨?_, ?_⟩; (· first | rfl | exact cl_by ff); (· first | assumption | kernel_rfl); (· first | exact ca_by ff | (refine sa_by ff ?_; try clear ff; first | exact trivial | omega | rfl | decide | (simp [pureV, pureVs, esProp_pure, esStep_pure]))); refine st_by ff ?_)
    | (with_reducible refine cq_lend (eqEdited_does r r hr hr) ?_ ?_ ⟨?_, ?_⟩; (· first | rfl | exact cl_by ff); (· first | assumption | kernel_rfl); (· first | exact ca_by ff | (refine sa_by ff ?_; try clear ff; first | exact trivial | omega | rfl | decide | (simp [pureV, pureVs, esProp_pure, esStep_pure]))); refine st_by ff ?_)
    | (with_reducible refine cq_dlend (eqEdited_does r r hr hr) ?_ ?_ ⟨?_, ?_⟩; (· first | rfl | exact cl_by ff); (· first | assumption | kernel_rfl); (· first | exact ca_by ff | (refine sa_by ff ?_; try clear ff; first | exact trivial | omega | rfl | decide | (simp [pureV, pureVs, esProp_pure, esStep_pure]))); refine st_by ff ?_)
    | (with_reducible refine cq_lend (eqEdited_does x x hx hx) ?_ ?_ ⟨?_, ?_⟩; (· first | rfl | exact cl_by ff); (· first | assumption | kernel_rfl); (· first | exact ca_by ff | (refine sa_by ff ?_; try clear ff; first | exact trivial | omega | rfl | decide | (simp [pureV, pureVs, esProp_pure, esStep_pure]))); refine st_by ff ?_)
    | (with_reducible refine cq_dlend (eqEdited_does x x hx hx) ?_ ?_ ⟨?_, ?_⟩; (· first | rfl | exact cl_by ff); (· first | assumption | kernel_rfl); (· first | exact ca_by ff | (refine sa_by ff ?_; try clear ff; first | exact trivial | omega | rfl | decide | (simp [pureV, pureVs, esProp_pure, esStep_pure]))); refine st_by ff ?_)
    | (with_reducible refine cq_Xs [(10, [])] (markEditedB_does x 1 (by decide) d1 X1 X2 X3) ?_ ?_ ?_ ⟨?_, ?_⟩; (· first | rfl | exact cl_by ff); (· first | assumption | kernel_rfl); (· first | decide | simp); (· first | exact ca_by ff | (refine sa_by ff ?_; try clear ff; first | exact trivial | omega | rfl | decide | (simp [pureV, pureVs, esProp_pure, esStep_pure]))); refine st_by ff ?_)
    | (with_reducible refine cq_Xs [(11, [])] (markEditedB_does r 1 (by decide) d2 R1 R2 R3) ?_ ?_ ?_ ⟨?_, ?_⟩; (· first | rfl | exact cl_by ff); (· first | assumption | kernel_rfl); (· first | decide | simp); (· first | exact ca_by ff | (refine sa_by ff ?_; try clear ff; first | exact trivial | omega | rfl | decide | (simp [pureV, pureVs, esProp_pure, esStep_pure]))); refine st_by ff ?_)
    | (with_reducible refine cq_lend (hheld) ?_ ?_ ⟨?_, ?_⟩; (· first | rfl | exact cl_by ff); (· first | assumption | kernel_rfl); (· first | exact ca_by ff | (refine sa_by ff ?_; try clear ff; first | exact trivial | omega | rfl | decide | (simp [pureV, pureVs, esProp_pure, esStep_pure]))); refine st_by ff ?_)
    | (with_reducible refine cq_dlend (hheld) ?_ ?_ ⟨?_, ?_⟩; (· first | rfl | exact cl_by ff); (· first | assumption | kernel_rfl); (· first | exact ca_by ff | (refine sa_by ff ?_; try clear ff; first | exact trivial | omega | rfl | decide | (simp [pureV, pureVs, esProp_pure, esStep_pure]))); refine st_by ff ?_)
    | (refine aw_drawn (id := 14) ?_ [[], [], [1], [0, 1, 2], [0, 1, 2, 3]] 3 ?_ ?_; (· kernel_rfl); (· kernel_rfl); refine st_by ff ?_)
    | (with_reducible refine CBC_eq (fun hp hd => ?_) (fun hp hd => ?_) <;> refine st_by (And.intro hd ff) ?_)
    | (with_reducible refine CBC_ne (fun hp hd => ?_) (fun hp hd => ?_) <;> refine st_by (And.intro hd ff) ?_)
    | (with_reducible refine CBC_decT ?_ (fun hd => ?_); (· try clear ff; first | assumption | omega); refine st_by (And.intro hd ff) ?_)
    | (with_reducible refine CBC_decF ?_ (fun hd => ?_); (· try clear ff; first | assumption | omega); refine st_by (And.intro hd ff) ?_)
    | (with_reducible refine CBC_dec (fun hp hd => ?_) (fun hp hd => ?_) <;> refine st_by (And.intro hd ff) ?_)
    | (refine CBC_bool (fun hd => ?_) (fun hd => ?_) <;> refine st_by (And.intro hd ff) ?_)
    | (with_reducible refine GQ_eq (fun hp hd => ?_) (fun hp hd => ?_) <;> refine st_by (And.intro hd ff) ?_)
    | (with_reducible refine GQ_ne (fun hp hd => ?_) (fun hp hd => ?_) <;> refine st_by (And.intro hd ff) ?_)
    | (with_reducible refine GQ_decT ?_ (fun hd => ?_); (· try clear ff; first | assumption | omega); refine st_by (And.intro hd ff) ?_)
    | (with_reducible refine GQ_decF ?_ (fun hd => ?_); (· try clear ff; first | assumption | omega); refine st_by (And.intro hd ff) ?_)
    | (with_reducible refine GQ_dec (fun hp hd => ?_) (fun hp hd => ?_) <;> refine st_by (And.intro hd ff) ?_)
    | (with_reducible refine GQ_ndT ?_ (fun hd => ?_); (· try clear ff; first | assumption | omega); refine st_by (And.intro hd ff) ?_)
    | (with_reducible refine GQ_ndF ?_ (fun hd => ?_); (· try clear ff; first | assumption | omega); refine st_by (And.intro hd ff) ?_)
    | (with_reducible refine GQ_nd (fun hp hd => ?_) (fun hp hd => ?_) <;> refine st_by (And.intro hd ff) ?_)
    | (refine GQ_nb (fun hd => ?_) (fun hd => ?_) <;> refine st_by (And.intro hd ff) ?_)
    | (refine GQ_bool (fun hd => ?_) (fun hd => ?_) <;> refine st_by (And.intro hd ff) ?_)
    | (with_reducible refine GD_eq (fun hp hd => ?_) (fun hp hd => ?_) <;> refine st_by (And.intro hd ff) ?_)
    | (with_reducible refine GD_ne (fun hp hd => ?_) (fun hp hd => ?_) <;> refine st_by (And.intro hd ff) ?_)
    | (with_reducible refine GD_decT ?_ (fun hd => ?_); (· try clear ff; first | assumption | omega); refine st_by (And.intro hd ff) ?_)
    | (with_reducible refine GD_decF ?_ (fun hd => ?_); (· try clear ff; first | assumption | omega); refine st_by (And.intro hd ff) ?_)
    | (with_reducible refine GD_dec (fun hp hd => ?_) (fun hp hd => ?_) <;> refine st_by (And.intro hd ff) ?_)
    | (with_reducible refine GD_ndT ?_ (fun hd => ?_); (· try clear ff; first | assumption | omega); refine st_by (And.intro hd ff) ?_)
    | (with_reducible refine GD_ndF ?_ (fun hd => ?_); (· try clear ff; first | assumption | omega); refine st_by (And.intro hd ff) ?_)
    | (with_reducible refine GD_nd (fun hp hd => ?_) (fun hp hd => ?_) <;> refine st_by (And.intro hd ff) ?_)
    | (refine GD_nb (fun hd => ?_) (fun hd => ?_) <;> refine st_by (And.intro hd ff) ?_)
    | (refine GD_bool (fun hd => ?_) (fun hd => ?_) <;> refine st_by (And.intro hd ff) ?_))
  all_goals try clear ff
end Go.Av
end
