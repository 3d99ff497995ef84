/- The laws of PlayAll and SumsOf. -/
import Derived.Test.YtngbggihpebimaaASC
set_option linter.unusedSimpArgs false
set_option linter.unusedVariables false
set_option maxRecDepth 100000
set_option maxHeartbeats 1000000
namespace Go.Av
open Go.Proofs
/-! The laws of PlayAll and SumsOf. -/
theorem intSS_cnt {l : List (List Int)} {a : Int} (h0 : 0 ≤ a) (h : 0 ≤ szRow (szRow szOne) l a) : (cntL (cntL cOne) l : Int) ≤ 1 * (a - szRow (szRow szOne) l a) :=
  szRow_cnt (by decide) (szRow_ok szOne_ok) (szCnt_row (by decide) szOne_ok (szCnt_k (K := 1) szOne_ok (fun _ => Nat.le_refl _))) h0 h
theorem intSS_mem {l : List (List Int)} {a : Int} (h0 : 0 ≤ a) (ha : a ≤ 1048576) (h : 0 ≤ szRow (szRow szOne) l a) : ∀ x ∈ l, x.length ≤ 1048576 := fun x hx => by
  obtain ⟨b, h1, h2, h3⟩ := szRow_mem (szRow_ok szOne_ok) h0 h x hx
  have := szRow_len szOne_ok h1 h3
  omega
theorem mInts_len (l : List (List Int)) (k : Int) : (markL (markL mInt cOne) (cntL cOne) l k).length = l.length := markL_len l k
theorem lawPA_does (s c : Int) (l : List (List Int)) (hl : l.length ≤ 9223372036854775807) (hx : ∀ x ∈ l, x.length ≤ 9223372036854775807) : Does Try.prog 6 [I s, I c, .row false 1 l.length (esLInt l)] (B true) := by
  refine Does.walk (nt := 106) Try.func6 rfl rfl (by simp) (by decide) rfl (fun G0 X w0 pv => ?_)
  have ff := And.intro @Ty.nz29 (And.intro @Ty.ldA29 (And.intro @Ty.sz29 (And.intro @Ty.szn29 (And.intro @Ty.bl4 (And.intro @Ty.zv29 (And.intro @Ty.sl52 @Ty.slz52))))))
  try refine st_by ff ?_
  repeat' (first
    | exact trivial
    | (refine And.intro ?_ ?_; · (try clear ff; first | omega))
    | (refine ret_q1 rfl ?_; (try refine sr_by ff ?_); all_goals (try clear ff); all_goals (try exact trivial); all_goals (rfl))
    | (with_reducible refine cq_call (szIntSS_does l 1048576 (by decide) (by decide) hl hx) ?_ ?_ ⟨?_, ?_⟩; (· first | rfl | exact cl_by ff); (· first | assumption | kernel_rfl); (· first | exact ca_by ff | (refine sa_by ff ?_; try clear ff; first | exact trivial | omega)); refine st_by ff ?_)
    | (with_reducible refine CBC_eq (fun hp hd => ?_) (fun hp hd => ?_) <;> refine st_by (And.intro hd ff) ?_)
    | (with_reducible refine CBC_ne (fun hp hd => ?_) (fun hp hd => ?_) <;> refine st_by (And.intro hd ff) ?_)
    | (with_reducible refine CBC_decT ?_ (fun hd => ?_); (· try clear ff; first | assumption | omega); refine st_by (And.intro hd ff) ?_)
    | (with_reducible refine CBC_decF ?_ (fun hd => ?_); (· try clear ff; first | assumption | omega); refine st_by (And.intro hd ff) ?_)
    | (with_reducible refine CBC_dec (fun hp hd => ?_) (fun hp hd => ?_) <;> refine st_by (And.intro hd ff) ?_)
    | (refine CBC_bool (fun hd => ?_) (fun hd => ?_) <;> refine st_by (And.intro hd ff) ?_)
    | (with_reducible refine GQ_eq (fun hp hd => ?_) (fun hp hd => ?_) <;> refine st_by (And.intro hd ff) ?_)
    | (with_reducible refine GQ_ne (fun hp hd => ?_) (fun hp hd => ?_) <;> refine st_by (And.intro hd ff) ?_)
    | (with_reducible refine GQ_decT ?_ (fun hd => ?_); (· try clear ff; first | assumption | omega); refine st_by (And.intro hd ff) ?_)
    | (with_reducible refine GQ_decF ?_ (fun hd => ?_); (· try clear ff; first | assumption | omega); refine st_by (And.intro hd ff) ?_)
    | (with_reducible refine GQ_dec (fun hp hd => ?_) (fun hp hd => ?_) <;> refine st_by (And.intro hd ff) ?_)
    | (with_reducible refine GQ_ndT ?_ (fun hd => ?_); (· try clear ff; first | assumption | omega); refine st_by (And.intro hd ff) ?_)
    | (with_reducible refine GQ_ndF ?_ (fun hd => ?_); (· try clear ff; first | assumption | omega); refine st_by (And.intro hd ff) ?_)
    | (with_reducible refine GQ_nd (fun hp hd => ?_) (fun hp hd => ?_) <;> refine st_by (And.intro hd ff) ?_)
    | (refine GQ_nb (fun hd => ?_) (fun hd => ?_) <;> refine st_by (And.intro hd ff) ?_)
    | (refine GQ_bool (fun hd => ?_) (fun hd => ?_) <;> refine st_by (And.intro hd ff) ?_))
  all_goals try clear ff
  have h1 : 0 ≤ szRow (szRow szOne) l 1048576 := by omega
  have h2 := szRow_len (szRow_ok szOne_ok) (by decide) h1
  have h3 := intSS_mem (by decide) (by decide) h1
  have h4 := intSS_cnt (by decide) h1
  have hll : l.length ≤ 1048576 := by omega
  obtain ⟨r, b, e1, e2, e4⟩ := playAll_eq 5 (by decide) s c l hll
  have hc : (1 : Int) + (cntL (cntL cOne) l : Int) ≤ 4611686018427387904 := by omega
  clear hp hd h4
  have c2 := cSeats r.Seats
  have c3 := cSeats (markL mSeat cSeat r.Seats 1)
  have c4 : (markL mSeat cSeat r.Seats 1).length = r.Seats.length := markL_len r.Seats 1
  have c5 : cntL cSeat (markL mSeat cSeat r.Seats 1) = cntL cSeat r.Seats := cntL_mark cSeat_mark _ _
  have c7 := mInts_len l 1
  have hm := markL_idem mSeat_idem cSeat_mark r.Seats 1
  have hr : wfGame 9223372036854775807 r := by show r.Seats.length ≤ 9223372036854775807; omega
  have hr2 : (1 : Int) + (cntL cSeat r.Seats : Int) ≤ 4611686018427387904 := by omega
  have hr3 : r.Seats.length ≤ 9223372036854775807 := by omega
  have q1 : (1 : Int) + (cntL cSeat (⟨r.Frame, r.Coin, markL mSeat cSeat r.Seats 1⟩ : GGame).Seats : Int) ≤ 4611686018427387904 := by show 1 + (cntL cSeat (markL mSeat cSeat r.Seats 1) : Int) ≤ 4611686018427387904; omega
  have q2 : (⟨r.Frame, r.Coin, markL mSeat cSeat r.Seats 1⟩ : GGame).Seats.length ≤ 9223372036854775807 := by show (markL mSeat cSeat r.Seats 1).length ≤ 9223372036854775807; omega
  clear c2 c3
  have ff := And.intro @eGame_eq (And.intro @eGameo_eq (And.intro @esSeat_share (And.intro @esLInto_share (And.intro @esSeat_pure (And.intro @esLInto_pure (And.intro @c4 (And.intro @c5 (And.intro @c7 (And.intro @Ty.nz29 (And.intro @Ty.ldA29 (And.intro @Ty.sz29 (And.intro @Ty.szn29 (And.intro @Ty.bl4 (And.intro @Ty.zv29 (And.intro @Ty.sl52 @Ty.slz52)))))))))))))))
  try refine st_by ff ?_
  repeat' (first
    | exact trivial
    | (refine And.intro ?_ ?_; · (try clear ff; first | omega | rfl | decide | (simp [pureV, pureVs, esSeat_pure])))
    | (refine ret_q1 rfl ?_; (try refine sr_by ff ?_); all_goals (try clear ff); all_goals (try exact trivial); all_goals (rfl))
    | (with_reducible refine cq_own (toIntSS_does l hll h3) ?_ ?_ ⟨?_, ?_⟩; (· first | rfl | exact cl_by ff); (· first | assumption | kernel_rfl); (· first | exact ca_by ff | (refine sa_by ff ?_; try clear ff; first | exact trivial | omega | rfl | decide | (simp [pureV, pureVs, esSeat_pure]))); refine st_by ff ?_)
    | (with_reducible refine cq_lend (p_spec_PlayAll_does 5 s c l _ e2) ?_ ?_ ⟨?_, ?_⟩; (· first | rfl | exact cl_by ff); (· first | assumption | kernel_rfl); (· first | exact ca_by ff | (refine sa_by ff ?_; try clear ff; first | exact trivial | omega | rfl | decide | (simp [pureV, pureVs, esSeat_pure]))); refine st_by ff ?_)
    | (with_reducible refine cq_lendOwn (p_impl_PlayAll_does 5 s c l _ e1) ?_ ?_ ⟨?_, ?_⟩; (· first | rfl | exact cl_by ff); (· first | assumption | kernel_rfl); (· first | exact ca_by ff | (refine sa_by ff ?_; try clear ff; first | exact trivial | omega | rfl | decide | (simp [pureV, pureVs, esSeat_pure]))); refine st_by ff ?_)
    | (with_reducible refine cq_lend (eqGame_does r r hr hr) ?_ ?_ ⟨?_, ?_⟩; (· first | rfl | exact cl_by ff); (· first | assumption | kernel_rfl); (· first | exact ca_by ff | (refine sa_by ff ?_; try clear ff; first | exact trivial | omega | rfl | decide | (simp [pureV, pureVs, esSeat_pure]))); refine st_by ff ?_)
    | (with_reducible refine cq_lend (eqIntSS_does l l hl hl hx hx) ?_ ?_ ⟨?_, ?_⟩; (· first | rfl | exact cl_by ff); (· first | assumption | kernel_rfl); (· first | exact ca_by ff | (refine sa_by ff ?_; try clear ff; first | exact trivial | omega | rfl | decide | (simp [pureV, pureVs, esSeat_pure]))); refine st_by ff ?_)
    | (with_reducible refine cq_Xs [(10, [])] (markIntSS_does l 1 (by decide) hc hl hx) ?_ ?_ ?_ ⟨?_, ?_⟩; (· first | rfl | exact cl_by ff); (· first | assumption | kernel_rfl); (· first | decide | simp); (· first | exact ca_by ff | (refine sa_by ff ?_; try clear ff; first | exact trivial | omega | rfl | decide | (simp [pureV, pureVs, esSeat_pure]))); refine st_by ff ?_)
    | (with_reducible refine cq_Xs [(11, [2])] (markGame_does r 1 (by decide) hr2 hr3) ?_ ?_ ?_ ⟨?_, ?_⟩; (· first | rfl | exact cl_by ff); (· first | assumption | kernel_rfl); (· first | decide | simp); (· first | exact ca_by ff | (refine sa_by ff ?_; try clear ff; first | exact trivial | omega | rfl | decide | (simp [pureV, pureVs, esSeat_pure]))); refine st_by ff ?_)
    | (with_reducible refine cq_lend (heldGame_does (⟨r.Frame, r.Coin, markL mSeat cSeat r.Seats 1⟩ : GGame) 1 (by decide) q1 q2 hm) ?_ ?_ ⟨?_, ?_⟩; (· first | rfl | exact cl_by ff); (· first | assumption | kernel_rfl); (· first | exact ca_by ff | (refine sa_by ff ?_; try clear ff; first | exact trivial | omega | rfl | decide | (simp [pureV, pureVs, esSeat_pure]))); refine st_by ff ?_)
    | (with_reducible refine CBC_eq (fun hp hd => ?_) (fun hp hd => ?_) <;> refine st_by (And.intro hd ff) ?_)
    | (with_reducible refine CBC_ne (fun hp hd => ?_) (fun hp hd => ?_) <;> refine st_by (And.intro hd ff) ?_)
    | (with_reducible refine CBC_decT ?_ (fun hd => ?_); (· try clear ff; first | assumption | omega); refine st_by (And.intro hd ff) ?_)
    | (with_reducible refine CBC_decF ?_ (fun hd => ?_); (· try clear ff; first | assumption | omega); refine st_by (And.intro hd ff) ?_)
    | (with_reducible refine CBC_dec (fun hp hd => ?_) (fun hp hd => ?_) <;> refine st_by (And.intro hd ff) ?_)
    | (refine CBC_bool (fun hd => ?_) (fun hd => ?_) <;> refine st_by (And.intro hd ff) ?_)
    | (with_reducible refine GQ_eq (fun hp hd => ?_) (fun hp hd => ?_) <;> refine st_by (And.intro hd ff) ?_)
    | (with_reducible refine GQ_ne (fun hp hd => ?_) (fun hp hd => ?_) <;> refine st_by (And.intro hd ff) ?_)
    | (with_reducible refine GQ_decT ?_ (fun hd => ?_); (· try clear ff; first | assumption | omega); refine st_by (And.intro hd ff) ?_)
    | (with_reducible refine GQ_decF ?_ (fun hd => ?_); (· try clear ff; first | assumption | omega); refine st_by (And.intro hd ff) ?_)
    | (with_reducible refine GQ_dec (fun hp hd => ?_) (fun hp hd => ?_) <;> refine st_by (And.intro hd ff) ?_)
    | (with_reducible refine GQ_ndT ?_ (fun hd => ?_); (· try clear ff; first | assumption | omega); refine st_by (And.intro hd ff) ?_)
    | (with_reducible refine GQ_ndF ?_ (fun hd => ?_); (· try clear ff; first | assumption | omega); refine st_by (And.intro hd ff) ?_)
    | (with_reducible refine GQ_nd (fun hp hd => ?_) (fun hp hd => ?_) <;> refine st_by (And.intro hd ff) ?_)
    | (refine GQ_nb (fun hd => ?_) (fun hd => ?_) <;> refine st_by (And.intro hd ff) ?_)
    | (refine GQ_bool (fun hd => ?_) (fun hd => ?_) <;> refine st_by (And.intro hd ff) ?_))
  all_goals try clear ff
theorem lawSO_does (s c : Int) (l : List (List Int)) (hl : l.length ≤ 9223372036854775807) (hx : ∀ x ∈ l, x.length ≤ 9223372036854775807) : Does Try.prog 5 [I s, I c, .row false 1 l.length (esLInt l)] (B true) := by
  refine Does.walk (nt := 106) Try.func5 rfl rfl (by simp) (by decide) rfl (fun G0 X w0 pv => ?_)
  have ff := And.intro @Ty.bl4 (And.intro @Ty.sl25 (And.intro @Ty.slz25 (And.intro @Ty.sl52 @Ty.slz52)))
  try refine st_by ff ?_
  repeat' (first
    | exact trivial
    | (refine And.intro ?_ ?_; · (try clear ff; first | omega))
    | (refine ret_q1 rfl ?_; (try refine sr_by ff ?_); all_goals (try clear ff); all_goals (try exact trivial); all_goals (rfl))
    | (with_reducible refine cq_call (szIntSS_does l 1048576 (by decide) (by decide) hl hx) ?_ ?_ ⟨?_, ?_⟩; (· first | rfl | exact cl_by ff); (· first | assumption | kernel_rfl); (· first | exact ca_by ff | (refine sa_by ff ?_; try clear ff; first | exact trivial | omega)); refine st_by ff ?_)
    | (with_reducible refine CBC_eq (fun hp hd => ?_) (fun hp hd => ?_) <;> refine st_by (And.intro hd ff) ?_)
    | (with_reducible refine CBC_ne (fun hp hd => ?_) (fun hp hd => ?_) <;> refine st_by (And.intro hd ff) ?_)
    | (with_reducible refine CBC_decT ?_ (fun hd => ?_); (· try clear ff; first | assumption | omega); refine st_by (And.intro hd ff) ?_)
    | (with_reducible refine CBC_decF ?_ (fun hd => ?_); (· try clear ff; first | assumption | omega); refine st_by (And.intro hd ff) ?_)
    | (with_reducible refine CBC_dec (fun hp hd => ?_) (fun hp hd => ?_) <;> refine st_by (And.intro hd ff) ?_)
    | (refine CBC_bool (fun hd => ?_) (fun hd => ?_) <;> refine st_by (And.intro hd ff) ?_)
    | (with_reducible refine GQ_eq (fun hp hd => ?_) (fun hp hd => ?_) <;> refine st_by (And.intro hd ff) ?_)
    | (with_reducible refine GQ_ne (fun hp hd => ?_) (fun hp hd => ?_) <;> refine st_by (And.intro hd ff) ?_)
    | (with_reducible refine GQ_decT ?_ (fun hd => ?_); (· try clear ff; first | assumption | omega); refine st_by (And.intro hd ff) ?_)
    | (with_reducible refine GQ_decF ?_ (fun hd => ?_); (· try clear ff; first | assumption | omega); refine st_by (And.intro hd ff) ?_)
    | (with_reducible refine GQ_dec (fun hp hd => ?_) (fun hp hd => ?_) <;> refine st_by (And.intro hd ff) ?_)
    | (with_reducible refine GQ_ndT ?_ (fun hd => ?_); (· try clear ff; first | assumption | omega); refine st_by (And.intro hd ff) ?_)
    | (with_reducible refine GQ_ndF ?_ (fun hd => ?_); (· try clear ff; first | assumption | omega); refine st_by (And.intro hd ff) ?_)
    | (with_reducible refine GQ_nd (fun hp hd => ?_) (fun hp hd => ?_) <;> refine st_by (And.intro hd ff) ?_)
    | (refine GQ_nb (fun hd => ?_) (fun hd => ?_) <;> refine st_by (And.intro hd ff) ?_)
    | (refine GQ_bool (fun hd => ?_) (fun hd => ?_) <;> refine st_by (And.intro hd ff) ?_))
  all_goals try clear ff
  have h1 : 0 ≤ szRow (szRow szOne) l 1048576 := by omega
  have h2 := szRow_len (szRow_ok szOne_ok) (by decide) h1
  have h3 := intSS_mem (by decide) (by decide) h1
  have h4 := intSS_cnt (by decide) h1
  have hll : l.length ≤ 1048576 := by omega
  obtain ⟨r, b, e1, e2, e4⟩ := sumsOf_eq 5 (by decide) s c l hll
  have hc : (1 : Int) + (cntL (cntL cOne) l : Int) ≤ 4611686018427387904 := by omega
  clear hp hd h4
  have c2 := cntL_one r
  have c3 := cntL_one (markL mInt cOne r 1)
  have c4 : (markL mInt cOne r 1).length = r.length := markL_len r 1
  have c5 : cntL cOne (markL mInt cOne r 1) = cntL cOne r := by rw [c3, c4, c2]
  have c7 := mInts_len l 1
  have hm := markL_idem (c := cOne) mInt_idem (fun _ _ => rfl) r 1
  have hr3 : r.length ≤ 9223372036854775807 := by omega
  have hr2 : (1 : Int) + (cntL cOne r : Int) ≤ 4611686018427387904 := by omega
  have q1 : (1 : Int) + (cntL cOne (markL mInt cOne r 1) : Int) ≤ 4611686018427387904 := by omega
  have q2 : (markL mInt cOne r 1).length ≤ 9223372036854775807 := by omega
  clear c2 c3
  have ff := And.intro @esInt_share (And.intro @esLInto_share (And.intro @esInt_pure (And.intro @esLInto_pure (And.intro @c4 (And.intro @c5 (And.intro @c7 (And.intro @Ty.bl4 (And.intro @Ty.sl25 (And.intro @Ty.slz25 (And.intro @Ty.sl52 @Ty.slz52))))))))))
  try refine st_by ff ?_
  repeat' (first
    | exact trivial
    | (refine And.intro ?_ ?_; · (try clear ff; first | omega | rfl | decide | (simp [pureV, pureVs, esInt_pure])))
    | (refine ret_q1 rfl ?_; (try refine sr_by ff ?_); all_goals (try clear ff); all_goals (try exact trivial); all_goals (rfl))
    | (with_reducible refine cq_own (toIntSS_does l hll h3) ?_ ?_ ⟨?_, ?_⟩; (· first | rfl | exact cl_by ff); (· first | assumption | kernel_rfl); (· first | exact ca_by ff | (refine sa_by ff ?_; try clear ff; first | exact trivial | omega | rfl | decide | (simp [pureV, pureVs, esInt_pure]))); refine st_by ff ?_)
    | (with_reducible refine cq_lend (p_spec_SumsOf_does 5 s c l _ e2) ?_ ?_ ⟨?_, ?_⟩; (· first | rfl | exact cl_by ff); (· first | assumption | kernel_rfl); (· first | exact ca_by ff | (refine sa_by ff ?_; try clear ff; first | exact trivial | omega | rfl | decide | (simp [pureV, pureVs, esInt_pure]))); refine st_by ff ?_)
    | (with_reducible refine cq_lendOwn (p_impl_SumsOf_does 5 s c l _ e1) ?_ ?_ ⟨?_, ?_⟩; (· first | rfl | exact cl_by ff); (· first | assumption | kernel_rfl); (· first | exact ca_by ff | (refine sa_by ff ?_; try clear ff; first | exact trivial | omega | rfl | decide | (simp [pureV, pureVs, esInt_pure]))); refine st_by ff ?_)
    | (with_reducible refine cq_lend (eqIntS_does r r hr3 hr3) ?_ ?_ ⟨?_, ?_⟩; (· first | rfl | exact cl_by ff); (· first | assumption | kernel_rfl); (· first | exact ca_by ff | (refine sa_by ff ?_; try clear ff; first | exact trivial | omega | rfl | decide | (simp [pureV, pureVs, esInt_pure]))); refine st_by ff ?_)
    | (with_reducible refine cq_lend (eqIntSS_does l l hl hl hx hx) ?_ ?_ ⟨?_, ?_⟩; (· first | rfl | exact cl_by ff); (· first | assumption | kernel_rfl); (· first | exact ca_by ff | (refine sa_by ff ?_; try clear ff; first | exact trivial | omega | rfl | decide | (simp [pureV, pureVs, esInt_pure]))); refine st_by ff ?_)
    | (with_reducible refine cq_Xs [(10, [])] (markIntSS_does l 1 (by decide) hc hl hx) ?_ ?_ ?_ ⟨?_, ?_⟩; (· first | rfl | exact cl_by ff); (· first | assumption | kernel_rfl); (· first | decide | simp); (· first | exact ca_by ff | (refine sa_by ff ?_; try clear ff; first | exact trivial | omega | rfl | decide | (simp [pureV, pureVs, esInt_pure]))); refine st_by ff ?_)
    | (with_reducible refine cq_Xs [(37, [0])] (markIntS_does r 1 (by decide) hr2 hr3) ?_ ?_ ?_ ⟨?_, ?_⟩; (· first | rfl | exact cl_by ff); (· first | assumption | kernel_rfl); (· first | decide | simp); (· first | exact ca_by ff | (refine sa_by ff ?_; try clear ff; first | exact trivial | omega | rfl | decide | (simp [pureV, pureVs, esInt_pure]))); refine st_by ff ?_)
    | (with_reducible refine cq_lend (heldIntS_does (markL mInt cOne r 1) 1 (by decide) q1 q2 hm) ?_ ?_ ⟨?_, ?_⟩; (· first | rfl | exact cl_by ff); (· first | assumption | kernel_rfl); (· first | exact ca_by ff | (refine sa_by ff ?_; try clear ff; first | exact trivial | omega | rfl | decide | (simp [pureV, pureVs, esInt_pure]))); refine st_by ff ?_)
    | (with_reducible refine CBC_eq (fun hp hd => ?_) (fun hp hd => ?_) <;> refine st_by (And.intro hd ff) ?_)
    | (with_reducible refine CBC_ne (fun hp hd => ?_) (fun hp hd => ?_) <;> refine st_by (And.intro hd ff) ?_)
    | (with_reducible refine CBC_decT ?_ (fun hd => ?_); (· try clear ff; first | assumption | omega); refine st_by (And.intro hd ff) ?_)
    | (with_reducible refine CBC_decF ?_ (fun hd => ?_); (· try clear ff; first | assumption | omega); refine st_by (And.intro hd ff) ?_)
    | (with_reducible refine CBC_dec (fun hp hd => ?_) (fun hp hd => ?_) <;> refine st_by (And.intro hd ff) ?_)
    | (refine CBC_bool (fun hd => ?_) (fun hd => ?_) <;> refine st_by (And.intro hd ff) ?_)
    | (with_reducible refine GQ_eq (fun hp hd => ?_) (fun hp hd => ?_) <;> refine st_by (And.intro hd ff) ?_)
    | (with_reducible refine GQ_ne (fun hp hd => ?_) (fun hp hd => ?_) <;> refine st_by (And.intro hd ff) ?_)
    | (with_reducible refine GQ_decT ?_ (fun hd => ?_); (· try clear ff; first | assumption | omega); refine st_by (And.intro hd ff) ?_)
    | (with_reducible refine GQ_decF ?_ (fun hd => ?_); (· try clear ff; first | assumption | omega); refine st_by (And.intro hd ff) ?_)
    | (with_reducible refine GQ_dec (fun hp hd => ?_) (fun hp hd => ?_) <;> refine st_by (And.intro hd ff) ?_)
    | (with_reducible refine GQ_ndT ?_ (fun hd => ?_); (· try clear ff; first | assumption | omega); refine st_by (And.intro hd ff) ?_)
    | (with_reducible refine GQ_ndF ?_ (fun hd => ?_); (· try clear ff; first | assumption | omega); refine st_by (And.intro hd ff) ?_)
    | (with_reducible refine GQ_nd (fun hp hd => ?_) (fun hp hd => ?_) <;> refine st_by (And.intro hd ff) ?_)
    | (refine GQ_nb (fun hd => ?_) (fun hd => ?_) <;> refine st_by (And.intro hd ff) ?_)
    | (refine GQ_bool (fun hd => ?_) (fun hd => ?_) <;> refine st_by (And.intro hd ff) ?_))
  all_goals try clear ff
end Go.Av
