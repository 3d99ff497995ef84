/- The law of FairTeams. -/
import Derived.Test.YtbldpkglmjajlaaBFX
import Derived.Test.YtbldpkglmjajlaaBLT
set_option linter.unusedSimpArgs false
set_option linter.unusedVariables false
set_option maxRecDepth 100000
set_option maxHeartbeats 1000000
namespace Go.Av
open Go.Proofs
/-! The law of FairTeams. -/
theorem mdig_size : ∀ (n : Nat) (k : Int) (out : ByteArray), k.toNat ≤ n → (mdig k out).size ≤ out.size + k.toNat
  | 0, k, out, h => by rw [mdig_neg (by omega)]; omega
  | n + 1, k, out, h => by
    by_cases hk : 0 < k
    · rw [mdig_pos hk]
      have e1 : k.tdiv 10 = k / 10 := Int.tdiv_eq_ediv_of_nonneg (by omega)
      have := mdig_size n (k.tdiv 10) (strOf [IntKind.u8.wrap (IntKind.i64.wrap (48 + k.tmod 10))] ++ out) (by omega)
      rw [ByteArray.size_append, strOf_size] at this
      simp only [List.length_cons, List.length_nil] at this
      omega
    · rw [mdig_neg hk]; omega
theorem mtext_size {k : Int} (h : k ≤ 4611686018427387904) : (mtext k).size ≤ 9223372036854775807 := by
  unfold mtext
  split
  · show 2 ≤ 9223372036854775807; omega
  · have := mdig_size k.toNat k ⟨#[]⟩ (Nat.le_refl _)
    rw [ByteArray.size_append]
    have e : (ByteArray.mk #[109]).size = 1 := rfl
    have e2 : (ByteArray.mk #[]).size = 0 := rfl
    omega
theorem markL_mem {α : Type} {f : α → Int → α} {c : α → Nat} : ∀ (l : List α) (k : Int) (y : α), y ∈ markL f c l k → ∃ x ∈ l, ∃ k' : Int, k ≤ k' ∧ k' + (c x : Int) ≤ k + (cntL c l : Int) ∧ y = f x k'
  | [], k, y, h => by simp [markL] at h
  | x :: r, k, y, h => by
    simp only [markL, List.mem_cons] at h
    rcases h with rfl | h
    · exact ⟨x, by simp, k, Int.le_refl _, by simp only [cntL]; omega, rfl⟩
    · obtain ⟨x', h1, k', h2, h3, h4⟩ := markL_mem r _ y h
      exact ⟨x', by simp [h1], k', by omega, by simp only [cntL]; omega, h4⟩
theorem cntL_le {α : Type} {c : α → Nat} {K : Nat} : ∀ {l : List α}, (∀ y ∈ l, c y ≤ K) → cntL c l ≤ K * l.length
  | [], _ => by simp [cntL]
  | x :: l, h => by
    have h1 := h x (by simp)
    have ih := cntL_le (c := c) (K := K) (l := l) (fun y hy => h y (by simp [hy]))
    simp only [cntL, List.length_cons, Nat.mul_add, Nat.mul_one]; omega
theorem markStr_idem2 : ∀ (l : List ByteArray) (k : Int), markL mStr cOne (markL mStr cOne l k) k = markL mStr cOne l k
  | [], k => rfl
  | x :: r, k => by simp only [markL, mStr, cOne]; rw [markStr_idem2 r]
theorem cntStr_mark (l : List ByteArray) (k : Int) : cntL cOne (markL mStr cOne l k) = cntL cOne l := by rw [cntL_one, cntL_one, markL_len]
theorem mTeam_idem : ∀ (x : GTeam) (k : Int), mTeam (mTeam x k) k = mTeam x k := fun x k => by
  simp only [mTeam]; rw [markStr_idem2, cntStr_mark]
theorem cTeam_mark : ∀ (x : GTeam) (k : Int), cTeam (mTeam x k) = cTeam x := fun x k => by
  show 1 + cntL cOne (markL mStr cOne x.Names k) = 1 + cntL cOne x.Names
  rw [cntStr_mark]
theorem szPlayers_nm {l : List GPlayer} {a : Int} (h0 : 0 ≤ a) (ha : a ≤ 1048576) (h : 0 ≤ szRow szPlayer l a) : l.length ≤ 1048576 ∧ ∀ x ∈ l, x.Name.size ≤ 1048576 := by
  refine ⟨by have := szRow_len szPlayer_ok h0 h; omega, fun x hx => ?_⟩
  obtain ⟨b, h1, h2, h3⟩ := szRow_mem szPlayer_ok h0 h x hx
  have := (szStep_of h3).1
  omega
theorem wfT_mark {l : List GTeam} (hw : ∀ y ∈ l, wfTeam 9223372036854775807 y) (hk : 1 + (cntL cTeam l : Int) ≤ 4611686018427387904) : ∀ y ∈ markL mTeam cTeam l 1, wfTeam 9223372036854775807 y := fun y hy => by
  obtain ⟨x, h1, k', h2, h3, rfl⟩ := markL_mem l 1 y hy
  refine ⟨by show (markL mStr cOne x.Names k').length ≤ _; rw [markL_len]; exact (hw x h1).1, fun z hz => ?_⟩
  obtain ⟨s, g1, k2, g2, g3, rfl⟩ := markL_mem x.Names k' z hz
  refine mtext_size ?_
  have : (cTeam x : Int) = 1 + (cntL cOne x.Names : Int) := by show ((1 + cntL cOne x.Names : Nat) : Int) = _; omega
  have g4 : (cOne s : Int) = 1 := rfl
  omega
theorem lawFT_does (l : List GPlayer) (hl : l.length ≤ 9223372036854775807) (hx : ∀ x ∈ l, wfPlayer 9223372036854775807 x) : Does Try.prog 4 [.row false 3 l.length (esPlayer l)] (B true) := by
  refine Does.walk (nt := 96) Try.func4 rfl rfl (by simp) (by decide) rfl (fun G0 X w0 pv => ?_)
  have ff := And.intro @Ty.bl4 (And.intro @Ty.sl34 (And.intro @Ty.slz34 (And.intro @Ty.sl27 @Ty.slz27)))
  try refine st_by ff ?_
  repeat' (first
    | exact trivial
    | (refine And.intro ?_ ?_; · (try clear ff; first | omega))
    | (refine ret_q1 rfl ?_; (try refine sr_by ff ?_); all_goals (try clear ff); all_goals (try exact trivial); all_goals (rfl))
    | (with_reducible refine cq_call (szPlayerS_does l 1048576 (by decide) (by decide) hl hx) ?_ ?_ ⟨?_, ?_⟩; (· first | rfl | exact cl_by ff); (· first | assumption | kernel_rfl); (· first | exact ca_by ff | (refine sa_by ff ?_; try clear ff; first | exact trivial | omega)); refine st_by ff ?_)
    | (with_reducible refine CBC_eq (fun hp hd => ?_) (fun hp hd => ?_) <;> refine st_by (And.intro hd ff) ?_)
    | (with_reducible refine CBC_ne (fun hp hd => ?_) (fun hp hd => ?_) <;> refine st_by (And.intro hd ff) ?_)
    | (with_reducible refine CBC_decT ?_ (fun hd => ?_); (· try clear ff; first | assumption | omega); refine st_by (And.intro hd ff) ?_)
    | (with_reducible refine CBC_decF ?_ (fun hd => ?_); (· try clear ff; first | assumption | omega); refine st_by (And.intro hd ff) ?_)
    | (with_reducible refine CBC_dec (fun hp hd => ?_) (fun hp hd => ?_) <;> refine st_by (And.intro hd ff) ?_)
    | (refine CBC_bool (fun hd => ?_) (fun hd => ?_) <;> refine st_by (And.intro hd ff) ?_)
    | (with_reducible refine GQ_eq (fun hp hd => ?_) (fun hp hd => ?_) <;> refine st_by (And.intro hd ff) ?_)
    | (with_reducible refine GQ_ne (fun hp hd => ?_) (fun hp hd => ?_) <;> refine st_by (And.intro hd ff) ?_)
    | (with_reducible refine GQ_decT ?_ (fun hd => ?_); (· try clear ff; first | assumption | omega); refine st_by (And.intro hd ff) ?_)
    | (with_reducible refine GQ_decF ?_ (fun hd => ?_); (· try clear ff; first | assumption | omega); refine st_by (And.intro hd ff) ?_)
    | (with_reducible refine GQ_dec (fun hp hd => ?_) (fun hp hd => ?_) <;> refine st_by (And.intro hd ff) ?_)
    | (with_reducible refine GQ_ndT ?_ (fun hd => ?_); (· try clear ff; first | assumption | omega); refine st_by (And.intro hd ff) ?_)
    | (with_reducible refine GQ_ndF ?_ (fun hd => ?_); (· try clear ff; first | assumption | omega); refine st_by (And.intro hd ff) ?_)
    | (with_reducible refine GQ_nd (fun hp hd => ?_) (fun hp hd => ?_) <;> refine st_by (And.intro hd ff) ?_)
    | (refine GQ_nb (fun hd => ?_) (fun hd => ?_) <;> refine st_by (And.intro hd ff) ?_)
    | (refine GQ_bool (fun hd => ?_) (fun hd => ?_) <;> refine st_by (And.intro hd ff) ?_))
  all_goals try clear ff
  have h1 : 0 ≤ szRow szPlayer l 1048576 := by omega
  obtain ⟨h2, h3⟩ := szPlayers_nm (by decide) (by decide) h1
  obtain ⟨o, b, e1, e2, ho⟩ := fairTeams_eq l h2 (fun x hx => by have := h3 x hx; omega)
  have hol : o.length ≤ 2 := ho.1
  have how : ∀ y ∈ o, wfTeam 9223372036854775807 y := fun y hy => ⟨by have := (ho.2 y hy).1; omega, fun s hs => by
    obtain ⟨p, p1, p2⟩ := (ho.2 y hy).2 s hs
    rw [← p2]; have := h3 p p1; omega⟩
  have hcn : (cntL cTeam o : Int) ≤ 13 * 2 := by
    have := cntL_le (c := cTeam) (K := 13) (l := o) (fun y hy => by
      show 1 + cntL cOne y.Names ≤ 13
      have := (ho.2 y hy).1
      rw [cntL_one]; omega)
    have h4 : 13 * o.length ≤ 13 * 2 := Nat.mul_le_mul_left _ hol
    omega
  clear hp hd
  have c1 := cntL_bd (c := cPlayer) (K := 3) (fun _ => Nat.le_refl _) l
  have c2 : (1 : Int) + (cntL cTeam o : Int) ≤ 4611686018427387904 := by omega
  have c4 : (markL mTeam cTeam o 1).length = o.length := markL_len o 1
  have c5 : cntL cTeam (markL mTeam cTeam o 1) = cntL cTeam o := cntL_mark cTeam_mark _ _
  have hwm := wfT_mark how c2
  have q1 : (1 : Int) + (cntL cTeam (markL mTeam cTeam o 1) : Int) ≤ 4611686018427387904 := by rw [c5]; exact c2
  have q2 : (markL mTeam cTeam o 1).length ≤ 9223372036854775807 := by rw [c4]; omega
  have hm := markL_idem mTeam_idem cTeam_mark o 1
  have o1 : o.length ≤ 9223372036854775807 := by omega
  have l1 : (1 : Int) + (cntL cPlayer l : Int) ≤ 4611686018427387904 := by omega
  have ff := And.intro @esPlayer_share (And.intro @esTeamo_share (And.intro @esPlayer_pure (And.intro @esTeamo_pure (And.intro @c4 (And.intro @c5 (And.intro @Ty.bl4 (And.intro @Ty.sl34 (And.intro @Ty.slz34 (And.intro @Ty.sl27 @Ty.slz27)))))))))
  try refine st_by ff ?_
  repeat' (first
    | exact trivial
    | (refine And.intro ?_ ?_; · (try clear ff; first | omega | rfl | decide | (simp [pureV, pureVs, esTeamo_pure])))
    | (refine ret_q1 rfl ?_; (try refine sr_by ff ?_); all_goals (try clear ff); all_goals (try exact trivial); all_goals (rfl))
    | (with_reducible refine cq_own (toPlayerS_does l h2) ?_ ?_ ⟨?_, ?_⟩; (· first | rfl | exact cl_by ff); (· first | assumption | kernel_rfl); (· first | exact ca_by ff | (refine sa_by ff ?_; try clear ff; first | exact trivial | omega | rfl | decide | (simp [pureV, pureVs, esTeamo_pure]))); refine st_by ff ?_)
    | (with_reducible refine cq_lend (p_spec_FairTeams_does 5000 l _ e1) ?_ ?_ ⟨?_, ?_⟩; (· first | rfl | exact cl_by ff); (· first | assumption | kernel_rfl); (· first | exact ca_by ff | (refine sa_by ff ?_; try clear ff; first | exact trivial | omega | rfl | decide | (simp [pureV, pureVs, esTeamo_pure]))); refine st_by ff ?_)
    | (with_reducible refine cq_lendOwn (p_impl_FairTeams_does 5000 l _ e2) ?_ ?_ ⟨?_, ?_⟩; (· first | rfl | exact cl_by ff); (· first | assumption | kernel_rfl); (· first | exact ca_by ff | (refine sa_by ff ?_; try clear ff; first | exact trivial | omega | rfl | decide | (simp [pureV, pureVs, esTeamo_pure]))); refine st_by ff ?_)
    | (with_reducible refine cq_lend (eqTeamS_does o o o1 o1 how how) ?_ ?_ ⟨?_, ?_⟩; (· first | rfl | exact cl_by ff); (· first | assumption | kernel_rfl); (· first | exact ca_by ff | (refine sa_by ff ?_; try clear ff; first | exact trivial | omega | rfl | decide | (simp [pureV, pureVs, esTeamo_pure]))); refine st_by ff ?_)
    | (with_reducible refine cq_lend (eqPlayerS_does l l hl hl) ?_ ?_ ⟨?_, ?_⟩; (· first | rfl | exact cl_by ff); (· first | assumption | kernel_rfl); (· first | exact ca_by ff | (refine sa_by ff ?_; try clear ff; first | exact trivial | omega | rfl | decide | (simp [pureV, pureVs, esTeamo_pure]))); refine st_by ff ?_)
    | (with_reducible refine cq_Xs [(6, [])] (markPlayerS_does l 1 (by decide) l1 hl) ?_ ?_ ?_ ⟨?_, ?_⟩; (· first | rfl | exact cl_by ff); (· first | assumption | kernel_rfl); (· first | decide | simp); (· first | exact ca_by ff | (refine sa_by ff ?_; try clear ff; first | exact trivial | omega | rfl | decide | (simp [pureV, pureVs, esTeamo_pure]))); refine st_by ff ?_)
    | (with_reducible refine cq_Xs [(29, [0])] (markTeamS_does o 1 (by decide) c2 o1 how) ?_ ?_ ?_ ⟨?_, ?_⟩; (· first | rfl | exact cl_by ff); (· first | assumption | kernel_rfl); (· first | decide | simp); (· first | exact ca_by ff | (refine sa_by ff ?_; try clear ff; first | exact trivial | omega | rfl | decide | (simp [pureV, pureVs, esTeamo_pure]))); refine st_by ff ?_)
    | (with_reducible refine cq_lend (heldTeamS_does (markL mTeam cTeam o 1) 1 (by decide) q1 q2 hwm hm) ?_ ?_ ⟨?_, ?_⟩; (· first | rfl | exact cl_by ff); (· first | assumption | kernel_rfl); (· first | exact ca_by ff | (refine sa_by ff ?_; try clear ff; first | exact trivial | omega | rfl | decide | (simp [pureV, pureVs, esTeamo_pure]))); refine st_by ff ?_)
    | (with_reducible refine CBC_eq (fun hp hd => ?_) (fun hp hd => ?_) <;> refine st_by (And.intro hd ff) ?_)
    | (with_reducible refine CBC_ne (fun hp hd => ?_) (fun hp hd => ?_) <;> refine st_by (And.intro hd ff) ?_)
    | (with_reducible refine CBC_decT ?_ (fun hd => ?_); (· try clear ff; first | assumption | omega); refine st_by (And.intro hd ff) ?_)
    | (with_reducible refine CBC_decF ?_ (fun hd => ?_); (· try clear ff; first | assumption | omega); refine st_by (And.intro hd ff) ?_)
    | (with_reducible refine CBC_dec (fun hp hd => ?_) (fun hp hd => ?_) <;> refine st_by (And.intro hd ff) ?_)
    | (refine CBC_bool (fun hd => ?_) (fun hd => ?_) <;> refine st_by (And.intro hd ff) ?_)
    | (with_reducible refine GQ_eq (fun hp hd => ?_) (fun hp hd => ?_) <;> refine st_by (And.intro hd ff) ?_)
    | (with_reducible refine GQ_ne (fun hp hd => ?_) (fun hp hd => ?_) <;> refine st_by (And.intro hd ff) ?_)
    | (with_reducible refine GQ_decT ?_ (fun hd => ?_); (· try clear ff; first | assumption | omega); refine st_by (And.intro hd ff) ?_)
    | (with_reducible refine GQ_decF ?_ (fun hd => ?_); (· try clear ff; first | assumption | omega); refine st_by (And.intro hd ff) ?_)
    | (with_reducible refine GQ_dec (fun hp hd => ?_) (fun hp hd => ?_) <;> refine st_by (And.intro hd ff) ?_)
    | (with_reducible refine GQ_ndT ?_ (fun hd => ?_); (· try clear ff; first | assumption | omega); refine st_by (And.intro hd ff) ?_)
    | (with_reducible refine GQ_ndF ?_ (fun hd => ?_); (· try clear ff; first | assumption | omega); refine st_by (And.intro hd ff) ?_)
    | (with_reducible refine GQ_nd (fun hp hd => ?_) (fun hp hd => ?_) <;> refine st_by (And.intro hd ff) ?_)
    | (refine GQ_nb (fun hd => ?_) (fun hd => ?_) <;> refine st_by (And.intro hd ff) ?_)
    | (refine GQ_bool (fun hd => ?_) (fun hd => ?_) <;> refine st_by (And.intro hd ff) ?_))
  all_goals try clear ff
end Go.Av
