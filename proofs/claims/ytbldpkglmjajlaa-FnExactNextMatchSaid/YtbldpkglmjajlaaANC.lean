/- The law of NextMatch. -/
import Derived.Test.YtbldpkglmjajlaaANP
import Derived.Test.YtbldpkglmjajlaaALA
set_option linter.unusedSimpArgs false
set_option linter.unusedVariables false
set_option maxRecDepth 100000
namespace Go.Av
open Go.Proofs
/-! The law of NextMatch. -/
theorem markStr_idem : ∀ (l : List ByteArray) (k : Int), markL mStr cOne (markL mStr cOne l k) k = markL mStr cOne l k
  | [], k => rfl
  | x :: r, k => by simp only [markL, mStr, cOne]; rw [markStr_idem r]
theorem szPlayers_nm {l : List GPlayer} {a : Int} (h0 : 0 ≤ a) (ha : a ≤ 1048576) (h : 0 ≤ szRow szPlayer l a) : l.length ≤ 1048576 ∧ ∀ x ∈ l, x.Name.size ≤ 1048576 := by
  refine ⟨by have := szRow_len szPlayer_ok h0 h; omega, fun x hx => ?_⟩
  obtain ⟨b, h1, h2, h3⟩ := szRow_mem szPlayer_ok h0 h x hx
  have := (szStep_of h3).1
  omega
theorem lawNM_does (l : List GPlayer) (now : Int) (hl : l.length ≤ 9223372036854775807) (hx : ∀ x ∈ l, wfPlayer 9223372036854775807 x) : Does Try.prog 3 [.row false 3 l.length (esPlayer l), I now] (B true) := by
  refine Does.walk (nt := 101) Try.func3 rfl rfl (by simp) (by decide) rfl (fun G0 X w0 pv => ?_)
  have ff := And.intro @Ty.bl4 (And.intro @Ty.sl24 (And.intro @Ty.slz24 (And.intro @Ty.sl27 @Ty.slz27)))
  try refine st_by ff ?_
  repeat' (first
    | exact trivial
    | (refine And.intro ?_ ?_; · (try clear ff; first | omega))
    | (refine ret_q1 rfl ?_; (try refine sr_by ff ?_); all_goals (try clear ff); all_goals (try exact trivial); all_goals (rfl))
    | (with_reducible refine cq_call (szPlayerS_does l 1048576 (by decide) (by decide) hl hx) ?_ ?_ ⟨?_, ?_⟩; (· first | rfl | exact cl_by ff); (· first | assumption | kernel_rfl); (· first | exact ca_by ff | (refine sa_by ff ?_; try clear ff; first | exact trivial | omega)); refine st_by ff ?_)
    | (with_reducible refine CBC_eq (fun hp hd => ?_) (fun hp hd => ?_) <;> refine st_by (And.intro hd ff) ?_)
    | (with_reducible refine CBC_ne (fun hp hd => ?_) (fun hp hd => ?_) <;> refine st_by (And.intro hd ff) ?_)
    | (with_reducible refine CBC_decT ?_ (fun hd => ?_); (· try clear ff; first | assumption | omega); refine st_by (And.intro hd ff) ?_)
    | (with_reducible refine CBC_decF ?_ (fun hd => ?_); (· try clear ff; first | assumption | omega); refine st_by (And.intro hd ff) ?_)
    | (with_reducible refine CBC_dec (fun hp hd => ?_) (fun hp hd => ?_) <;> refine st_by (And.intro hd ff) ?_)
    | (refine CBC_bool (fun hd => ?_) (fun hd => ?_) <;> refine st_by (And.intro hd ff) ?_)
    | (with_reducible refine GQ_eq (fun hp hd => ?_) (fun hp hd => ?_) <;> refine st_by (And.intro hd ff) ?_)
    | (with_reducible refine GQ_ne (fun hp hd => ?_) (fun hp hd => ?_) <;> refine st_by (And.intro hd ff) ?_)
    | (with_reducible refine GQ_decT ?_ (fun hd => ?_); (· try clear ff; first | assumption | omega); refine st_by (And.intro hd ff) ?_)
    | (with_reducible refine GQ_decF ?_ (fun hd => ?_); (· try clear ff; first | assumption | omega); refine st_by (And.intro hd ff) ?_)
    | (with_reducible refine GQ_dec (fun hp hd => ?_) (fun hp hd => ?_) <;> refine st_by (And.intro hd ff) ?_)
    | (with_reducible refine GQ_ndT ?_ (fun hd => ?_); (· try clear ff; first | assumption | omega); refine st_by (And.intro hd ff) ?_)
    | (with_reducible refine GQ_ndF ?_ (fun hd => ?_); (· try clear ff; first | assumption | omega); refine st_by (And.intro hd ff) ?_)
    | (with_reducible refine GQ_nd (fun hp hd => ?_) (fun hp hd => ?_) <;> refine st_by (And.intro hd ff) ?_)
    | (refine GQ_nb (fun hd => ?_) (fun hd => ?_) <;> refine st_by (And.intro hd ff) ?_)
    | (refine GQ_bool (fun hd => ?_) (fun hd => ?_) <;> refine st_by (And.intro hd ff) ?_))
  all_goals try clear ff
  have h1 : 0 ≤ szRow szPlayer l 1048576 := by omega
  obtain ⟨h2, h3⟩ := szPlayers_nm (by decide) (by decide) h1
  obtain ⟨o, b, e1, e2, ho⟩ := nextMatch_eq l now h2 (fun x hx => by have := h3 x hx; omega)
  have ho := ho.1
  clear hp hd
  have c1 := cntL_bd (c := cPlayer) (K := 3) (fun _ => Nat.le_refl _) l
  have c2 := cntL_bd (c := cOne (α := ByteArray)) (K := 1) (fun _ => Nat.le_refl _) o
  have c3 := cntL_bd (c := cOne (α := ByteArray)) (K := 1) (fun _ => Nat.le_refl _) (markL mStr cOne o 1)
  have c4 : (markL mStr cOne o 1).length = o.length := markL_len o 1
  have c5 : cntL cOne (markL mStr cOne o 1) = cntL cOne o := by rw [cntL_one, cntL_one, c4]
  have ff := And.intro @esPlayer_share (And.intro @esStr_share (And.intro @esPlayer_pure (And.intro @esStr_pure (And.intro @c4 (And.intro @c5 (And.intro @Ty.bl4 (And.intro @Ty.sl24 (And.intro @Ty.slz24 (And.intro @Ty.sl27 @Ty.slz27)))))))))
  try refine st_by ff ?_
  repeat' (first
    | exact trivial
    | (refine And.intro ?_ ?_; · (try clear ff; first | omega | rfl | decide | (simp [pureV, pureVs, esStr_pure])))
    | (refine ret_q1 rfl ?_; (try refine sr_by ff ?_); all_goals (try clear ff); all_goals (try exact trivial); all_goals (rfl))
    | (with_reducible refine cq_own (toPlayerS_does l h2) ?_ ?_ ⟨?_, ?_⟩; (· first | rfl | exact cl_by ff); (· first | assumption | kernel_rfl); (· first | exact ca_by ff | (refine sa_by ff ?_; try clear ff; first | exact trivial | omega | rfl | decide | (simp [pureV, pureVs, esStr_pure]))); refine st_by ff ?_)
    | (with_reducible refine cq_lend (p_spec_NextMatch_does l now _ e1) ?_ ?_ ⟨?_, ?_⟩; (· first | rfl | exact cl_by ff); (· first | assumption | kernel_rfl); (· first | exact ca_by ff | (refine sa_by ff ?_; try clear ff; first | exact trivial | omega | rfl | decide | (simp [pureV, pureVs, esStr_pure]))); refine st_by ff ?_)
    | (with_reducible refine cq_lendOwn (p_impl_NextMatch_does l now _ e2) ?_ ?_ ⟨?_, ?_⟩; (· first | rfl | exact cl_by ff); (· first | assumption | kernel_rfl); (· first | exact ca_by ff | (refine sa_by ff ?_; try clear ff; first | exact trivial | omega | rfl | decide | (simp [pureV, pureVs, esStr_pure]))); refine st_by ff ?_)
    | (with_reducible refine cq_lend (eqStringS_does o o (by omega) (by omega)) ?_ ?_ ⟨?_, ?_⟩; (· first | rfl | exact cl_by ff); (· first | assumption | kernel_rfl); (· first | exact ca_by ff | (refine sa_by ff ?_; try clear ff; first | exact trivial | omega | rfl | decide | (simp [pureV, pureVs, esStr_pure]))); refine st_by ff ?_)
    | (with_reducible refine cq_lend (eqPlayerS_does l l hl hl) ?_ ?_ ⟨?_, ?_⟩; (· first | rfl | exact cl_by ff); (· first | assumption | kernel_rfl); (· first | exact ca_by ff | (refine sa_by ff ?_; try clear ff; first | exact trivial | omega | rfl | decide | (simp [pureV, pureVs, esStr_pure]))); refine st_by ff ?_)
    | (with_reducible refine cq_Xs [(8, [])] (markPlayerS_does l 1 (by decide) (by omega) hl) ?_ ?_ ?_ ⟨?_, ?_⟩; (· first | rfl | exact cl_by ff); (· first | assumption | kernel_rfl); (· first | decide | simp); (· first | exact ca_by ff | (refine sa_by ff ?_; try clear ff; first | exact trivial | omega | rfl | decide | (simp [pureV, pureVs, esStr_pure]))); refine st_by ff ?_)
    | (with_reducible refine cq_Xs [(33, [0])] (markStringS_does o 1 (by decide) (by omega) (by omega)) ?_ ?_ ?_ ⟨?_, ?_⟩; (· first | rfl | exact cl_by ff); (· first | assumption | kernel_rfl); (· first | decide | simp); (· first | exact ca_by ff | (refine sa_by ff ?_; try clear ff; first | exact trivial | omega | rfl | decide | (simp [pureV, pureVs, esStr_pure]))); refine st_by ff ?_)
    | (with_reducible refine cq_lend (heldStringS_does (markL mStr cOne o 1) 1 (by decide) (by omega) (by omega) (markStr_idem o 1)) ?_ ?_ ⟨?_, ?_⟩; (· first | rfl | exact cl_by ff); (· first | assumption | kernel_rfl); (· first | exact ca_by ff | (refine sa_by ff ?_; try clear ff; first | exact trivial | omega | rfl | decide | (simp [pureV, pureVs, esStr_pure]))); refine st_by ff ?_)
    | (with_reducible refine CBC_eq (fun hp hd => ?_) (fun hp hd => ?_) <;> refine st_by (And.intro hd ff) ?_)
    | (with_reducible refine CBC_ne (fun hp hd => ?_) (fun hp hd => ?_) <;> refine st_by (And.intro hd ff) ?_)
    | (with_reducible refine CBC_decT ?_ (fun hd => ?_); (· try clear ff; first | assumption | omega); refine st_by (And.intro hd ff) ?_)
    | (with_reducible refine CBC_decF ?_ (fun hd => ?_); (· try clear ff; first | assumption | omega); refine st_by (And.intro hd ff) ?_)
    | (with_reducible refine CBC_dec (fun hp hd => ?_) (fun hp hd => ?_) <;> refine st_by (And.intro hd ff) ?_)
    | (refine CBC_bool (fun hd => ?_) (fun hd => ?_) <;> refine st_by (And.intro hd ff) ?_)
    | (with_reducible refine GQ_eq (fun hp hd => ?_) (fun hp hd => ?_) <;> refine st_by (And.intro hd ff) ?_)
    | (with_reducible refine GQ_ne (fun hp hd => ?_) (fun hp hd => ?_) <;> refine st_by (And.intro hd ff) ?_)
    | (with_reducible refine GQ_decT ?_ (fun hd => ?_); (· try clear ff; first | assumption | omega); refine st_by (And.intro hd ff) ?_)
    | (with_reducible refine GQ_decF ?_ (fun hd => ?_); (· try clear ff; first | assumption | omega); refine st_by (And.intro hd ff) ?_)
    | (with_reducible refine GQ_dec (fun hp hd => ?_) (fun hp hd => ?_) <;> refine st_by (And.intro hd ff) ?_)
    | (with_reducible refine GQ_ndT ?_ (fun hd => ?_); (· try clear ff; first | assumption | omega); refine st_by (And.intro hd ff) ?_)
    | (with_reducible refine GQ_ndF ?_ (fun hd => ?_); (· try clear ff; first | assumption | omega); refine st_by (And.intro hd ff) ?_)
    | (with_reducible refine GQ_nd (fun hp hd => ?_) (fun hp hd => ?_) <;> refine st_by (And.intro hd ff) ?_)
    | (refine GQ_nb (fun hd => ?_) (fun hd => ?_) <;> refine st_by (And.intro hd ff) ?_)
    | (refine GQ_bool (fun hd => ?_) (fun hd => ?_) <;> refine st_by (And.intro hd ff) ?_))
  all_goals try clear ff
end Go.Av
