/- The laws of StepGame, PlayAll and SumsOf. -/
import Derived.Test.YtngbggihpebimaaASB
import Derived.Test.YtngbggihpebimaaALA
set_option linter.unusedSimpArgs false
set_option linter.unusedVariables false
set_option maxRecDepth 100000
set_option maxHeartbeats 1000000
namespace Go.Av
open Go.Proofs
/-! The laws of StepGame, PlayAll and SumsOf. -/
theorem szGame_len {x : GGame} {a : Int} (h0 : 0 ≤ a) (h : 0 ≤ szGame x a) : (x.Seats.length : Int) ≤ a := szRow_len szOne_ok h0 (szStep_of h).1
theorem mSeat_idem : ∀ (x : GSeat) (k : Int), mSeat (mSeat x k) k = mSeat x k := fun _ _ => rfl
theorem cSeat_mark : ∀ (x : GSeat) (k : Int), cSeat (mSeat x k) = cSeat x := fun _ _ => rfl
theorem cSeats (l : List GSeat) : cntL cSeat l = 3 * l.length := cntL_k (fun _ => rfl) l
theorem mInt_idem : ∀ (x k : Int), mInt (mInt x k) k = mInt x k := fun _ _ => rfl
theorem lawSG_does (g : GGame) (inp : List Int) (hg : wfGame 9223372036854775807 g) (hi : inp.length ≤ 9223372036854775807) : Does Try.prog 3 [.agg (eGame g), .row false 1 inp.length (esInt inp)] (B true) := by
  have hg' : g.Seats.length ≤ 9223372036854775807 := hg
  refine Does.walk (nt := 117) Try.func3 rfl rfl (by simp) (by decide) rfl (fun G0 X w0 pv => ?_)
  have ff := And.intro @eGame_eq (And.intro @Ty.nz24 (And.intro @Ty.ldA24 (And.intro @Ty.sz24 (And.intro @Ty.szn24 (And.intro @Ty.nz29 (And.intro @Ty.ldA29 (And.intro @Ty.sz29 (And.intro @Ty.szn29 (And.intro @Ty.sl25 (And.intro @Ty.bl4 (And.intro @Ty.zv29 @Ty.slz25)))))))))))
  try refine st_by ff ?_
  repeat' (first
    | exact trivial
    | (refine And.intro ?_ ?_; · (try clear ff; first | omega))
    | (refine ret_q1 rfl ?_; (try refine sr_by ff ?_); all_goals (try clear ff); all_goals (try exact trivial); all_goals (rfl))
    | (with_reducible refine cq_call (szGame_does g 1048576 (by decide) (by decide) hg) ?_ ?_ ⟨?_, ?_⟩; (· first | rfl | exact cl_by ff); (· first | assumption | kernel_rfl); (· first | exact ca_by ff | (refine sa_by ff ?_; try clear ff; first | exact trivial | omega)); refine st_by ff ?_)
    | (with_reducible refine cq_dcall (szGame_does g 1048576 (by decide) (by decide) hg) ?_ ?_ ⟨?_, ?_⟩; (· first | rfl | exact cl_by ff); (· first | assumption | kernel_rfl); (· first | exact ca_by ff | (refine sa_by ff ?_; try clear ff; first | exact trivial | omega)); refine st_by ff ?_)
    | (refine aw_drawn (id := 13) ?_ [[], [], [1], [0, 1, 2], [0, 1, 2, 3]] 3 ?_ ?_; (· kernel_rfl); (· kernel_rfl); refine st_by ff ?_)
    | (with_reducible refine CBC_eq (fun hp hd => ?_) (fun hp hd => ?_) <;> refine st_by (And.intro hd ff) ?_)
    | (with_reducible refine CBC_ne (fun hp hd => ?_) (fun hp hd => ?_) <;> refine st_by (And.intro hd ff) ?_)
    | (with_reducible refine CBC_decT ?_ (fun hd => ?_); (· try clear ff; first | assumption | omega); refine st_by (And.intro hd ff) ?_)
    | (with_reducible refine CBC_decF ?_ (fun hd => ?_); (· try clear ff; first | assumption | omega); refine st_by (And.intro hd ff) ?_)
    | (with_reducible refine CBC_dec (fun hp hd => ?_) (fun hp hd => ?_) <;> refine st_by (And.intro hd ff) ?_)
    | (refine CBC_bool (fun hd => ?_) (fun hd => ?_) <;> refine st_by (And.intro hd ff) ?_)
    | (with_reducible refine GQ_eq (fun hp hd => ?_) (fun hp hd => ?_) <;> refine st_by (And.intro hd ff) ?_)
    | (with_reducible refine GQ_ne (fun hp hd => ?_) (fun hp hd => ?_) <;> refine st_by (And.intro hd ff) ?_)
    | (with_reducible refine GQ_decT ?_ (fun hd => ?_); (· try clear ff; first | assumption | omega); refine st_by (And.intro hd ff) ?_)
    | (with_reducible refine GQ_decF ?_ (fun hd => ?_); (· try clear ff; first | assumption | omega); refine st_by (And.intro hd ff) ?_)
    | (with_reducible refine GQ_dec (fun hp hd => ?_) (fun hp hd => ?_) <;> refine st_by (And.intro hd ff) ?_)
    | (with_reducible refine GQ_ndT ?_ (fun hd => ?_); (· try clear ff; first | assumption | omega); refine st_by (And.intro hd ff) ?_)
    | (with_reducible refine GQ_ndF ?_ (fun hd => ?_); (· try clear ff; first | assumption | omega); refine st_by (And.intro hd ff) ?_)
    | (with_reducible refine GQ_nd (fun hp hd => ?_) (fun hp hd => ?_) <;> refine st_by (And.intro hd ff) ?_)
    | (refine GQ_nb (fun hd => ?_) (fun hd => ?_) <;> refine st_by (And.intro hd ff) ?_)
    | (refine GQ_bool (fun hd => ?_) (fun hd => ?_) <;> refine st_by (And.intro hd ff) ?_)
    | (with_reducible refine GD_eq (fun hp hd => ?_) (fun hp hd => ?_) <;> refine st_by (And.intro hd ff) ?_)
    | (with_reducible refine GD_ne (fun hp hd => ?_) (fun hp hd => ?_) <;> refine st_by (And.intro hd ff) ?_)
    | (with_reducible refine GD_decT ?_ (fun hd => ?_); (· try clear ff; first | assumption | omega); refine st_by (And.intro hd ff) ?_)
    | (with_reducible refine GD_decF ?_ (fun hd => ?_); (· try clear ff; first | assumption | omega); refine st_by (And.intro hd ff) ?_)
    | (with_reducible refine GD_dec (fun hp hd => ?_) (fun hp hd => ?_) <;> refine st_by (And.intro hd ff) ?_)
    | (with_reducible refine GD_ndT ?_ (fun hd => ?_); (· try clear ff; first | assumption | omega); refine st_by (And.intro hd ff) ?_)
    | (with_reducible refine GD_ndF ?_ (fun hd => ?_); (· try clear ff; first | assumption | omega); refine st_by (And.intro hd ff) ?_)
    | (with_reducible refine GD_nd (fun hp hd => ?_) (fun hp hd => ?_) <;> refine st_by (And.intro hd ff) ?_)
    | (refine GD_nb (fun hd => ?_) (fun hd => ?_) <;> refine st_by (And.intro hd ff) ?_)
    | (refine GD_bool (fun hd => ?_) (fun hd => ?_) <;> refine st_by (And.intro hd ff) ?_))
  all_goals try clear ff
  have hil : inp.length ≤ 1048576 := by omega
  have h1 : 0 ≤ szGame g 1048576 := by omega
  have h2 := szGame_len (by decide) h1
  have hgl : wfGame 1048576 g := by show g.Seats.length ≤ 1048576; omega
  obtain ⟨r, b, e1, e2, _, e4⟩ := stepGame_eq 5 (by decide) g inp
  clear hp hd
  have c1 := cSeats g.Seats
  have c2 := cSeats r.Seats
  have c3 := cSeats (markL mSeat cSeat r.Seats 1)
  have c4 : (markL mSeat cSeat r.Seats 1).length = r.Seats.length := markL_len r.Seats 1
  have c5 : cntL cSeat (markL mSeat cSeat r.Seats 1) = cntL cSeat r.Seats := cntL_mark cSeat_mark _ _
  have c6 := cntL_one inp
  have hr : wfGame 9223372036854775807 r := by show r.Seats.length ≤ 9223372036854775807; omega
  have q1 : (1 : Int) + (cntL cSeat (⟨r.Frame, r.Coin, markL mSeat cSeat r.Seats 1⟩ : GGame).Seats : Int) ≤ 4611686018427387904 := by show 1 + (cntL cSeat (markL mSeat cSeat r.Seats 1) : Int) ≤ 4611686018427387904; omega
  have q2 : (⟨r.Frame, r.Coin, markL mSeat cSeat r.Seats 1⟩ : GGame).Seats.length ≤ 9223372036854775807 := by show (markL mSeat cSeat r.Seats 1).length ≤ 9223372036854775807; omega
  have c7 : (markL mSeat cSeat g.Seats 1).length = g.Seats.length := markL_len g.Seats 1
  have hm := markL_idem mSeat_idem cSeat_mark r.Seats 1
  have ff := And.intro @eGame_eq (And.intro @eGameo_eq (And.intro @esSeat_share (And.intro @esInt_share (And.intro @esSeat_pure (And.intro @esInt_pure (And.intro @c4 (And.intro @c5 (And.intro @c7 (And.intro @Ty.nz24 (And.intro @Ty.ldA24 (And.intro @Ty.sz24 (And.intro @Ty.szn24 (And.intro @Ty.nz29 (And.intro @Ty.ldA29 (And.intro @Ty.sz29 (And.intro @Ty.szn29 (And.intro @Ty.sl25 (And.intro @Ty.bl4 (And.intro @Ty.zv29 @Ty.slz25)))))))))))))))))))
  try refine st_by ff ?_
  repeat' (first
    | exact trivial
    | (refine And.intro ?_ ?_; · (try clear ff; first | omega | rfl | decide | (simp [pureV, pureVs, esSeat_pure])))
    | (refine ret_q1 rfl ?_; (try refine sr_by ff ?_); all_goals (try clear ff); all_goals (try exact trivial); all_goals (rfl))
    | (with_reducible refine cq_own (toGame_does g hgl) ?_ ?_ ⟨?_, ?_⟩; (· first | rfl | exact cl_by ff); (· first | assumption | kernel_rfl); (· first | exact ca_by ff | (refine sa_by ff ?_; try clear ff; first | exact trivial | omega | rfl | decide | (simp [pureV, pureVs, esSeat_pure]))); refine st_by ff ?_)
    | (with_reducible refine cq_down (toGame_does g hgl) ?_ ?_ ⟨?_, ?_⟩; (· first | rfl | exact cl_by ff); (· first | assumption | kernel_rfl); (· first | exact ca_by ff | (refine sa_by ff ?_; try clear ff; first | exact trivial | omega | rfl | decide | (simp [pureV, pureVs, esSeat_pure]))); refine st_by ff ?_)
    | (with_reducible refine cq_own (toIntS_does inp hil) ?_ ?_ ⟨?_, ?_⟩; (· first | rfl | exact cl_by ff); (· first | assumption | kernel_rfl); (· first | exact ca_by ff | (refine sa_by ff ?_; try clear ff; first | exact trivial | omega | rfl | decide | (simp [pureV, pureVs, esSeat_pure]))); refine st_by ff ?_)
    | (with_reducible refine cq_down (toIntS_does inp hil) ?_ ?_ ⟨?_, ?_⟩; (· first | rfl | exact cl_by ff); (· first | assumption | kernel_rfl); (· first | exact ca_by ff | (refine sa_by ff ?_; try clear ff; first | exact trivial | omega | rfl | decide | (simp [pureV, pureVs, esSeat_pure]))); refine st_by ff ?_)
    | (with_reducible refine cq_lend (p_spec_StepGame_does 5 g inp _ e2) ?_ ?_ ⟨?_, ?_⟩; (· first | rfl | exact cl_by ff); (· first | assumption | kernel_rfl); (· first | exact ca_by ff | (refine sa_by ff ?_; try clear ff; first | exact trivial | omega | rfl | decide | (simp [pureV, pureVs, esSeat_pure]))); refine st_by ff ?_)
    | (with_reducible refine cq_dlend (p_spec_StepGame_does 5 g inp _ e2) ?_ ?_ ⟨?_, ?_⟩; (· first | rfl | exact cl_by ff); (· first | assumption | kernel_rfl); (· first | exact ca_by ff | (refine sa_by ff ?_; try clear ff; first | exact trivial | omega | rfl | decide | (simp [pureV, pureVs, esSeat_pure]))); refine st_by ff ?_)
    | (with_reducible refine cq_lendOwn (p_impl_StepGame_does 5 g inp _ e1) ?_ ?_ ⟨?_, ?_⟩; (· first | rfl | exact cl_by ff); (· first | assumption | kernel_rfl); (· first | exact ca_by ff | (refine sa_by ff ?_; try clear ff; first | exact trivial | omega | rfl | decide | (simp [pureV, pureVs, esSeat_pure]))); refine st_by ff ?_)
    | (with_reducible refine cq_dlendOwn (p_impl_StepGame_does 5 g inp _ e1) ?_ ?_ ⟨?_, ?_⟩; (· first | rfl | exact cl_by ff); (· first | assumption | kernel_rfl); (· first | exact ca_by ff | (refine sa_by ff ?_; try clear ff; first | exact trivial | omega | rfl | decide | (simp [pureV, pureVs, esSeat_pure]))); refine st_by ff ?_)
    | (with_reducible refine cq_lend (eqGame_does r r hr hr) ?_ ?_ ⟨?_, ?_⟩; (· first | rfl | exact cl_by ff); (· first | assumption | kernel_rfl); (· first | exact ca_by ff | (refine sa_by ff ?_; try clear ff; first | exact trivial | omega | rfl | decide | (simp [pureV, pureVs, esSeat_pure]))); refine st_by ff ?_)
    | (with_reducible refine cq_dlend (eqGame_does r r hr hr) ?_ ?_ ⟨?_, ?_⟩; (· first | rfl | exact cl_by ff); (· first | assumption | kernel_rfl); (· first | exact ca_by ff | (refine sa_by ff ?_; try clear ff; first | exact trivial | omega | rfl | decide | (simp [pureV, pureVs, esSeat_pure]))); refine st_by ff ?_)
    | (with_reducible refine cq_lend (eqGame_does g g hg hg) ?_ ?_ ⟨?_, ?_⟩; (· first | rfl | exact cl_by ff); (· first | assumption | kernel_rfl); (· first | exact ca_by ff | (refine sa_by ff ?_; try clear ff; first | exact trivial | omega | rfl | decide | (simp [pureV, pureVs, esSeat_pure]))); refine st_by ff ?_)
    | (with_reducible refine cq_dlend (eqGame_does g g hg hg) ?_ ?_ ⟨?_, ?_⟩; (· first | rfl | exact cl_by ff); (· first | assumption | kernel_rfl); (· first | exact ca_by ff | (refine sa_by ff ?_; try clear ff; first | exact trivial | omega | rfl | decide | (simp [pureV, pureVs, esSeat_pure]))); refine st_by ff ?_)
    | (with_reducible refine cq_lend (eqIntS_does inp inp hi hi) ?_ ?_ ⟨?_, ?_⟩; (· first | rfl | exact cl_by ff); (· first | assumption | kernel_rfl); (· first | exact ca_by ff | (refine sa_by ff ?_; try clear ff; first | exact trivial | omega | rfl | decide | (simp [pureV, pureVs, esSeat_pure]))); refine st_by ff ?_)
    | (with_reducible refine cq_dlend (eqIntS_does inp inp hi hi) ?_ ?_ ⟨?_, ?_⟩; (· first | rfl | exact cl_by ff); (· first | assumption | kernel_rfl); (· first | exact ca_by ff | (refine sa_by ff ?_; try clear ff; first | exact trivial | omega | rfl | decide | (simp [pureV, pureVs, esSeat_pure]))); refine st_by ff ?_)
    | (with_reducible refine cq_Xs [(8, [2])] (markGame_does g 1 (by decide) (by omega) hg') ?_ ?_ ?_ ⟨?_, ?_⟩; (· first | rfl | exact cl_by ff); (· first | assumption | kernel_rfl); (· first | decide | simp); (· first | exact ca_by ff | (refine sa_by ff ?_; try clear ff; first | exact trivial | omega | rfl | decide | (simp [pureV, pureVs, esSeat_pure]))); refine st_by ff ?_)
    | (with_reducible refine cq_Xs [(9, [])] (markIntS_does inp (1 + (cntL cSeat g.Seats : Int)) (by omega) (by omega) hi) ?_ ?_ ?_ ⟨?_, ?_⟩; (· first | rfl | exact cl_by ff); (· first | assumption | kernel_rfl); (· first | decide | simp); (· first | exact ca_by ff | (refine sa_by ff ?_; try clear ff; first | exact trivial | omega | rfl | decide | (simp [pureV, pureVs, esSeat_pure]))); refine st_by ff ?_)
    | (with_reducible refine cq_Xs [(10, [2])] (markGame_does r 1 (by decide) (by omega) (by omega)) ?_ ?_ ?_ ⟨?_, ?_⟩; (· first | rfl | exact cl_by ff); (· first | assumption | kernel_rfl); (· first | decide | simp); (· first | exact ca_by ff | (refine sa_by ff ?_; try clear ff; first | exact trivial | omega | rfl | decide | (simp [pureV, pureVs, esSeat_pure]))); refine st_by ff ?_)
    | (with_reducible refine cq_lend (heldGame_does (⟨r.Frame, r.Coin, markL mSeat cSeat r.Seats 1⟩ : GGame) 1 (by decide) q1 q2 hm) ?_ ?_ ⟨?_, ?_⟩; (· first | rfl | exact cl_by ff); (· first | assumption | kernel_rfl); (· first | exact ca_by ff | (refine sa_by ff ?_; try clear ff; first | exact trivial | omega | rfl | decide | (simp [pureV, pureVs, esSeat_pure]))); refine st_by ff ?_)
    | (with_reducible refine cq_dlend (heldGame_does (⟨r.Frame, r.Coin, markL mSeat cSeat r.Seats 1⟩ : GGame) 1 (by decide) q1 q2 hm) ?_ ?_ ⟨?_, ?_⟩; (· first | rfl | exact cl_by ff); (· first | assumption | kernel_rfl); (· first | exact ca_by ff | (refine sa_by ff ?_; try clear ff; first | exact trivial | omega | rfl | decide | (simp [pureV, pureVs, esSeat_pure]))); refine st_by ff ?_)
    | (refine aw_drawn (id := 13) ?_ [[], [], [1], [0, 1, 2], [0, 1, 2, 3]] 3 ?_ ?_; (· kernel_rfl); (· kernel_rfl); refine st_by ff ?_)
    | (with_reducible refine CBC_eq (fun hp hd => ?_) (fun hp hd => ?_) <;> refine st_by (And.intro hd ff) ?_)
    | (with_reducible refine CBC_ne (fun hp hd => ?_) (fun hp hd => ?_) <;> refine st_by (And.intro hd ff) ?_)
    | (with_reducible refine CBC_decT ?_ (fun hd => ?_); (· try clear ff; first | assumption | omega); refine st_by (And.intro hd ff) ?_)
    | (with_reducible refine CBC_decF ?_ (fun hd => ?_); (· try clear ff; first | assumption | omega); refine st_by (And.intro hd ff) ?_)
    | (with_reducible refine CBC_dec (fun hp hd => ?_) (fun hp hd => ?_) <;> refine st_by (And.intro hd ff) ?_)
    | (refine CBC_bool (fun hd => ?_) (fun hd => ?_) <;> refine st_by (And.intro hd ff) ?_)
    | (with_reducible refine GQ_eq (fun hp hd => ?_) (fun hp hd => ?_) <;> refine st_by (And.intro hd ff) ?_)
    | (with_reducible refine GQ_ne (fun hp hd => ?_) (fun hp hd => ?_) <;> refine st_by (And.intro hd ff) ?_)
    | (with_reducible refine GQ_decT ?_ (fun hd => ?_); (· try clear ff; first | assumption | omega); refine st_by (And.intro hd ff) ?_)
    | (with_reducible refine GQ_decF ?_ (fun hd => ?_); (· try clear ff; first | assumption | omega); refine st_by (And.intro hd ff) ?_)
    | (with_reducible refine GQ_dec (fun hp hd => ?_) (fun hp hd => ?_) <;> refine st_by (And.intro hd ff) ?_)
    | (with_reducible refine GQ_ndT ?_ (fun hd => ?_); (· try clear ff; first | assumption | omega); refine st_by (And.intro hd ff) ?_)
    | (with_reducible refine GQ_ndF ?_ (fun hd => ?_); (· try clear ff; first | assumption | omega); refine st_by (And.intro hd ff) ?_)
    | (with_reducible refine GQ_nd (fun hp hd => ?_) (fun hp hd => ?_) <;> refine st_by (And.intro hd ff) ?_)
    | (refine GQ_nb (fun hd => ?_) (fun hd => ?_) <;> refine st_by (And.intro hd ff) ?_)
    | (refine GQ_bool (fun hd => ?_) (fun hd => ?_) <;> refine st_by (And.intro hd ff) ?_)
    | (with_reducible refine GD_eq (fun hp hd => ?_) (fun hp hd => ?_) <;> refine st_by (And.intro hd ff) ?_)
    | (with_reducible refine GD_ne (fun hp hd => ?_) (fun hp hd => ?_) <;> refine st_by (And.intro hd ff) ?_)
    | (with_reducible refine GD_decT ?_ (fun hd => ?_); (· try clear ff; first | assumption | omega); refine st_by (And.intro hd ff) ?_)
    | (with_reducible refine GD_decF ?_ (fun hd => ?_); (· try clear ff; first | assumption | omega); refine st_by (And.intro hd ff) ?_)
    | (with_reducible refine GD_dec (fun hp hd => ?_) (fun hp hd => ?_) <;> refine st_by (And.intro hd ff) ?_)
    | (with_reducible refine GD_ndT ?_ (fun hd => ?_); (· try clear ff; first | assumption | omega); refine st_by (And.intro hd ff) ?_)
    | (with_reducible refine GD_ndF ?_ (fun hd => ?_); (· try clear ff; first | assumption | omega); refine st_by (And.intro hd ff) ?_)
    | (with_reducible refine GD_nd (fun hp hd => ?_) (fun hp hd => ?_) <;> refine st_by (And.intro hd ff) ?_)
    | (refine GD_nb (fun hd => ?_) (fun hd => ?_) <;> refine st_by (And.intro hd ff) ?_)
    | (refine GD_bool (fun hd => ?_) (fun hd => ?_) <;> refine st_by (And.intro hd ff) ?_))
  all_goals try clear ff
end Go.Av
