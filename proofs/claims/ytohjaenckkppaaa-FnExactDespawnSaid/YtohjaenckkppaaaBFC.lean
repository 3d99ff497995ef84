/- The law of Despawn. -/
import Derived.Test.YtohjaenckkppaaaBFP
import Derived.Test.YtohjaenckkppaaaBLC
set_option linter.unusedSimpArgs false
set_option linter.unusedVariables false
set_option maxRecDepth 100000
set_option maxHeartbeats 1000000
namespace Go.Av
open Go.Proofs
/-! The law of Despawn. -/
theorem mdig_size : ∀ (n : Nat) (k : Int) (out : ByteArray), k.toNat ≤ n → (mdig k out).size ≤ out.size + k.toNat
  | 0, k, out, h => by rw [mdig_neg (by omega)]; omega
  | n + 1, k, out, h => by
    by_cases hk : 0 < k
    · rw [mdig_pos hk]
      have e1 : k.tdiv 10 = k / 10 := Int.tdiv_eq_ediv_of_nonneg (by omega)
      have := mdig_size n (k.tdiv 10) (strOf [IntKind.u8.wrap (IntKind.i64.wrap (48 + k.tmod 10))] ++ out) (by omega)
      rw [ByteArray.size_append, strOf_size] at this
      simp only [List.length_cons, List.length_nil] at this
      omega
    · rw [mdig_neg hk]; omega
theorem mtext_size {k : Int} (h : k ≤ 4611686018427387904) : (mtext k).size ≤ 9223372036854775807 := by
  unfold mtext
  split
  · show 2 ≤ 9223372036854775807; omega
  · have := mdig_size k.toNat k ⟨#[]⟩ (Nat.le_refl _)
    rw [ByteArray.size_append]
    have e : (ByteArray.mk #[109]).size = 1 := rfl
    have e2 : (ByteArray.mk #[]).size = 0 := rfl
    omega
theorem markL_mem {α : Type} {f : α → Int → α} {c : α → Nat} : ∀ (l : List α) (k : Int) (y : α), y ∈ markL f c l k → ∃ x ∈ l, ∃ k' : Int, k ≤ k' ∧ k' + (c x : Int) ≤ k + (cntL c l : Int) ∧ y = f x k'
  | [], k, y, h => by simp [markL] at h
  | x :: r, k, y, h => by
    simp only [markL, List.mem_cons] at h
    rcases h with rfl | h
    · exact ⟨x, by simp, k, Int.le_refl _, by simp only [cntL]; omega, rfl⟩
    · obtain ⟨x', h1, k', h2, h3, h4⟩ := markL_mem r _ y h
      exact ⟨x', by simp [h1], k', by omega, by simp only [cntL]; omega, h4⟩
theorem wfP_mark {l : List GPart} {k : Int} (hk : k + (cntL cPart l : Int) ≤ 4611686018427387904) : ∀ y ∈ markL mPart cPart l k, wfPart 9223372036854775807 y := fun y hy => by
  obtain ⟨x, h1, k', h2, h3, rfl⟩ := markL_mem l k y hy
  exact mtext_size (by omega)
theorem wfE_mark {l : List GEntity} {k : Int} (hk : k + (cntL cEntity l : Int) ≤ 4611686018427387904) (hw : ∀ y ∈ l, wfEntity 9223372036854775807 y) : ∀ y ∈ markL mEntity cEntity l k, wfEntity 9223372036854775807 y := fun y hy => by
  obtain ⟨x, h1, k', h2, h3, rfl⟩ := markL_mem l k y hy
  have := hw x h1
  simp only [cEntity] at h3
  refine ⟨by show (markL mPart cPart x.Parts (k' + 1)).length ≤ _; rw [markL_len]; exact this.1, wfP_mark (by omega)⟩
theorem mPart_idem : ∀ (x : GPart) (k : Int), mPart (mPart x k) k = mPart x k := fun _ _ => rfl
theorem cPart_mark : ∀ (x : GPart) (k : Int), cPart (mPart x k) = cPart x := fun _ _ => rfl
theorem cEntity_mark : ∀ (x : GEntity) (k : Int), cEntity (mEntity x k) = cEntity x := fun x k => by
  show 1 + cntL cPart (markL mPart cPart x.Parts (k + 1)) = 1 + cntL cPart x.Parts
  rw [cntL_mark cPart_mark]
theorem mEntity_idem : ∀ (x : GEntity) (k : Int), mEntity (mEntity x k) k = mEntity x k := fun x k => by
  simp only [mEntity]; rw [markL_idem mPart_idem cPart_mark]
theorem szPart_wf {x : GPart} {a : Int} (ha : a ≤ 1048576) (h : 0 ≤ szPart x a) : wfPart 1048576 x := by
  have := (szStep_of h).1
  show x.Name.size ≤ 1048576; omega
theorem szEntity_wf {x : GEntity} {a : Int} (h0 : 0 ≤ a) (ha : a ≤ 1048576) (h : 0 ≤ szEntity x a) : wfEntity 1048576 x := by
  have h1 := (szStep_of h).1
  have h2 := szRow_len szPart_ok h0 h1
  refine ⟨by omega, fun y hy => ?_⟩
  obtain ⟨b, k1, k2, k3⟩ := szRow_mem szPart_ok h0 h1 y hy
  exact szPart_wf (by omega) k3
theorem szWorld_wf {x : GWorld} {a : Int} (h0 : 0 ≤ a) (ha : a ≤ 1048576) (h : 0 ≤ szWorld x a) : wfWorld 1048576 x := by
  have h1 := (szStep_of h).1
  have h2 := szRow_len szEntity_ok h0 h1
  refine ⟨by omega, fun y hy => ?_⟩
  obtain ⟨b, k1, k2, k3⟩ := szRow_mem szEntity_ok h0 h1 y hy
  exact szEntity_wf k1 (by omega) k3
theorem szEntity_cnt : ∀ (x : GEntity) (a : Int), 0 ≤ a → 0 ≤ szEntity x a → (cEntity x : Int) ≤ 3 * (1 + (a - szEntity x a)) := fun x a h0 h => by
  have h1 := szStep_of h
  have e : szEntity x a = szRow szPart x.Parts a := h1.2
  have := szRow_cnt (c := cPart) (K := 3) (by decide) szPart_ok (szCnt_k (K := 3) szPart_ok (fun _ => Nat.le_refl _)) h0 h1.1
  rw [e]
  simp only [cEntity]
  omega
theorem szWorld_cnt {x : GWorld} {a : Int} (h0 : 0 ≤ a) (h : 0 ≤ szWorld x a) : (cntL cEntity x.Entities : Int) ≤ 3 * a := by
  have h1 := (szStep_of h).1
  have := szRow_cnt (c := cEntity) (K := 3) (by decide) szEntity_ok szEntity_cnt h0 h1
  omega
theorem wfPart_up {x : GPart} (h : wfPart 1048576 x) : wfPart 9223372036854775807 x := Nat.le_trans h (by decide)
theorem wfEntity_up {x : GEntity} (h : wfEntity 1048576 x) : wfEntity 9223372036854775807 x := ⟨Nat.le_trans h.1 (by decide), fun y hy => wfPart_up (h.2 y hy)⟩
theorem wfWorld_up {x : GWorld} (h : wfWorld 1048576 x) : wfWorld 9223372036854775807 x := ⟨Nat.le_trans h.1 (by decide), fun y hy => wfEntity_up (h.2 y hy)⟩
theorem wOk_of {x : GWorld} (h : wfWorld 1048576 x) : wOk x := ⟨h.1, fun e he => ⟨(h.2 e he).1, fun p hp => wfPart_up ((h.2 e he).2 p hp)⟩⟩
theorem mEnts_len (l : List GEntity) (k : Int) : (markL mEntity cEntity l k).length = l.length := markL_len l k
theorem cntL_set_le {α : Type} {c : α → Nat} {e x : α} (h : c x ≤ c e) : ∀ {l : List α} {k : Nat}, l[k]? = some e → cntL c (l.set k x) ≤ cntL c l
  | [], k, hk => by simp at hk
  | y :: l, 0, hk => by simp at hk; subst hk; simp only [List.set_cons_zero, cntL]; omega
  | y :: l, k + 1, hk => by
    have := cntL_set_le h (l := l) (k := k) (by simpa using hk)
    simp only [List.set_cons_succ, cntL]; omega
theorem cntL_cut {α : Type} {c : α → Nat} : ∀ {l : List α} {k : Nat}, cntL c (l.take k ++ l.drop (k + 1)) ≤ cntL c l
  | [], k => by simp [cntL]
  | y :: l, 0 => by simp only [List.take_zero, List.nil_append, Nat.zero_add, List.drop_succ_cons, List.drop_zero, cntL]; omega
  | y :: l, k + 1 => by
    have := cntL_cut (c := c) (l := l) (k := k)
    simp only [List.take_succ_cons, List.cons_append, List.drop_succ_cons, cntL]; omega
theorem lawDE_does (w : GWorld) (id : Int) (hw : wfWorld 9223372036854775807 w) : Does Try.prog 3 [.agg (eWorld w), I id] (B true) := by
  refine Does.walk (nt := 101) Try.func3 rfl rfl (by simp) (by decide) rfl (fun G0 X w0 pv => ?_)
  have ff := And.intro @eWorld_eq (And.intro @Ty.nz24 (And.intro @Ty.ldA24 (And.intro @Ty.sz24 (And.intro @Ty.szn24 (And.intro @Ty.nz28 (And.intro @Ty.ldA28 (And.intro @Ty.sz28 (And.intro @Ty.szn28 @Ty.zv28))))))))
  try refine st_by ff ?_
  repeat' (first
    | exact trivial
    | (refine And.intro ?_ ?_; · (try clear ff; first | omega))
    | (refine ret_q1 rfl ?_; (try refine sr_by ff ?_); all_goals (try clear ff); all_goals (try exact trivial); all_goals (rfl))
    | (with_reducible refine cq_call (szWorld_does w 1048576 (by decide) (by decide) hw) ?_ ?_ ⟨?_, ?_⟩; (· first | rfl | exact cl_by ff); (· first | assumption | kernel_rfl); (· first | exact ca_by ff | (refine sa_by ff ?_; try clear ff; first | exact trivial | omega)); refine st_by ff ?_)
    | (with_reducible refine cq_dcall (szWorld_does w 1048576 (by decide) (by decide) hw) ?_ ?_ ⟨?_, ?_⟩; (· first | rfl | exact cl_by ff); (· first | assumption | kernel_rfl); (· first | exact ca_by ff | (refine sa_by ff ?_; try clear ff; first | exact trivial | omega)); refine st_by ff ?_)
    | (refine aw_drawn (id := 10) ?_ [[], [], [1], [0, 1, 2], [0, 1, 2, 3]] 3 ?_ ?_; (· kernel_rfl); (· kernel_rfl); refine st_by ff ?_)
    | (with_reducible refine CBC_eq (fun hp hd => ?_) (fun hp hd => ?_) <;> refine st_by (And.intro hd ff) ?_)
    | (with_reducible refine CBC_ne (fun hp hd => ?_) (fun hp hd => ?_) <;> refine st_by (And.intro hd ff) ?_)
    | (with_reducible refine CBC_decT ?_ (fun hd => ?_); (· try clear ff; first | assumption | omega); refine st_by (And.intro hd ff) ?_)
    | (with_reducible refine CBC_decF ?_ (fun hd => ?_); (· try clear ff; first | assumption | omega); refine st_by (And.intro hd ff) ?_)
    | (with_reducible refine CBC_dec (fun hp hd => ?_) (fun hp hd => ?_) <;> refine st_by (And.intro hd ff) ?_)
    | (refine CBC_bool (fun hd => ?_) (fun hd => ?_) <;> refine st_by (And.intro hd ff) ?_)
    | (with_reducible refine GQ_eq (fun hp hd => ?_) (fun hp hd => ?_) <;> refine st_by (And.intro hd ff) ?_)
    | (with_reducible refine GQ_ne (fun hp hd => ?_) (fun hp hd => ?_) <;> refine st_by (And.intro hd ff) ?_)
    | (with_reducible refine GQ_decT ?_ (fun hd => ?_); (· try clear ff; first | assumption | omega); refine st_by (And.intro hd ff) ?_)
    | (with_reducible refine GQ_decF ?_ (fun hd => ?_); (· try clear ff; first | assumption | omega); refine st_by (And.intro hd ff) ?_)
    | (with_reducible refine GQ_dec (fun hp hd => ?_) (fun hp hd => ?_) <;> refine st_by (And.intro hd ff) ?_)
    | (with_reducible refine GQ_ndT ?_ (fun hd => ?_); (· try clear ff; first | assumption | omega); refine st_by (And.intro hd ff) ?_)
    | (with_reducible refine GQ_ndF ?_ (fun hd => ?_); (· try clear ff; first | assumption | omega); refine st_by (And.intro hd ff) ?_)
    | (with_reducible refine GQ_nd (fun hp hd => ?_) (fun hp hd => ?_) <;> refine st_by (And.intro hd ff) ?_)
    | (refine GQ_nb (fun hd => ?_) (fun hd => ?_) <;> refine st_by (And.intro hd ff) ?_)
    | (refine GQ_bool (fun hd => ?_) (fun hd => ?_) <;> refine st_by (And.intro hd ff) ?_)
    | (with_reducible refine GD_eq (fun hp hd => ?_) (fun hp hd => ?_) <;> refine st_by (And.intro hd ff) ?_)
    | (with_reducible refine GD_ne (fun hp hd => ?_) (fun hp hd => ?_) <;> refine st_by (And.intro hd ff) ?_)
    | (with_reducible refine GD_decT ?_ (fun hd => ?_); (· try clear ff; first | assumption | omega); refine st_by (And.intro hd ff) ?_)
    | (with_reducible refine GD_decF ?_ (fun hd => ?_); (· try clear ff; first | assumption | omega); refine st_by (And.intro hd ff) ?_)
    | (with_reducible refine GD_dec (fun hp hd => ?_) (fun hp hd => ?_) <;> refine st_by (And.intro hd ff) ?_)
    | (with_reducible refine GD_ndT ?_ (fun hd => ?_); (· try clear ff; first | assumption | omega); refine st_by (And.intro hd ff) ?_)
    | (with_reducible refine GD_ndF ?_ (fun hd => ?_); (· try clear ff; first | assumption | omega); refine st_by (And.intro hd ff) ?_)
    | (with_reducible refine GD_nd (fun hp hd => ?_) (fun hp hd => ?_) <;> refine st_by (And.intro hd ff) ?_)
    | (refine GD_nb (fun hd => ?_) (fun hd => ?_) <;> refine st_by (And.intro hd ff) ?_)
    | (refine GD_bool (fun hd => ?_) (fun hd => ?_) <;> refine st_by (And.intro hd ff) ?_))
  all_goals try clear ff
  have h1 : 0 ≤ szWorld w 1048576 := by omega
  have h2 := szWorld_wf (by decide) (by decide) h1
  have h3 := szWorld_cnt (by decide) h1
  obtain ⟨r, c, e1, e2, e4⟩ := despawn_eq w (wOk_of h2) id
  have hr : wfWorld 9223372036854775807 r := by
    have hu := wfWorld_up h2
    have h4 := h2.1
    rcases e4 with e4 | e4 | e4
    · exact ⟨by rw [e4]; exact hw.1, by rw [e4]; exact hw.2⟩
    · exact ⟨by rw [e4]; simp, by rw [e4]; simp⟩
    · obtain ⟨k, k1, k2⟩ := e4
      refine ⟨by rw [k2]; have := hw.1; simp; omega, fun y hy => ?_⟩
      rw [k2] at hy
      rcases List.mem_append.1 hy with hy | hy
      · exact hw.2 y (List.mem_of_mem_take hy)
      · exact hw.2 y (List.mem_of_mem_drop hy)
  have hc : (cntL cEntity r.Entities : Int) ≤ 3145729 := by
    rcases e4 with e4 | e4 | e4
    · rw [e4]; omega
    · rw [e4]; simp [cntL]
    · obtain ⟨k, k1, k2⟩ := e4
      have := cntL_cut (c := cEntity) (l := w.Entities) (k := k)
      rw [k2]; omega
  have c1 : (1 : Int) + (cntL cEntity w.Entities : Int) ≤ 4611686018427387904 := by omega
  have c2 : (1 : Int) + (cntL cEntity r.Entities : Int) ≤ 4611686018427387904 := by omega
  clear hp hd h3 hc e4
  have c4 := mEnts_len r.Entities 1
  have c5 : cntL cEntity (markL mEntity cEntity r.Entities 1) = cntL cEntity r.Entities := cntL_mark cEntity_mark _ _
  have c7 := mEnts_len w.Entities 1
  have hm := markL_idem mEntity_idem cEntity_mark r.Entities 1
  have q1 : (1 : Int) + (cntL cEntity (⟨r.Next, r.Tick, markL mEntity cEntity r.Entities 1⟩ : GWorld).Entities : Int) ≤ 4611686018427387904 := by show 1 + (cntL cEntity (markL mEntity cEntity r.Entities 1) : Int) ≤ 4611686018427387904; rw [c5]; exact c2
  have q2 : (⟨r.Next, r.Tick, markL mEntity cEntity r.Entities 1⟩ : GWorld).Entities.length ≤ 9223372036854775807 := by show (markL mEntity cEntity r.Entities 1).length ≤ 9223372036854775807; rw [c4]; exact hr.1
  have q3 := wfE_mark c2 hr.2
  have w1 : w.Entities.length ≤ 9223372036854775807 := hw.1
  have w2 : ∀ y ∈ w.Entities, wfEntity 9223372036854775807 y := hw.2
  have r1 : r.Entities.length ≤ 9223372036854775807 := hr.1
  have r2 : ∀ y ∈ r.Entities, wfEntity 9223372036854775807 y := hr.2
  have ff := And.intro @eWorld_eq (And.intro @eWorldo_eq (And.intro @esEntityo_share (And.intro @esEntityo_pure (And.intro @c4 (And.intro @c5 (And.intro @c7 (And.intro @Ty.nz24 (And.intro @Ty.ldA24 (And.intro @Ty.sz24 (And.intro @Ty.szn24 (And.intro @Ty.nz28 (And.intro @Ty.ldA28 (And.intro @Ty.sz28 (And.intro @Ty.szn28 @Ty.zv28))))))))))))))
  try refine st_by ff ?_
  repeat' (first
    | exact trivial
    | (refine And.intro ?_ ?_; · (try clear ff; first | omega | rfl | decide | (simp [pureV, pureVs, esEntityo_pure])))
    | (refine ret_q1 rfl ?_; (try refine sr_by ff ?_); all_goals (try clear ff); all_goals (try exact trivial); all_goals (rfl))
    | (with_reducible refine cq_own (toWorld_does w h2) ?_ ?_ ⟨?_, ?_⟩; (· first | rfl | exact cl_by ff); (· first | assumption | kernel_rfl); (· first | exact ca_by ff | (refine sa_by ff ?_; try clear ff; first | exact trivial | omega | rfl | decide | (simp [pureV, pureVs, esEntityo_pure]))); refine st_by ff ?_)
    | (with_reducible refine cq_down (toWorld_does w h2) ?_ ?_ ⟨?_, ?_⟩; (· first | rfl | exact cl_by ff); (· first | assumption | kernel_rfl); (· first | exact ca_by ff | (refine sa_by ff ?_; try clear ff; first | exact trivial | omega | rfl | decide | (simp [pureV, pureVs, esEntityo_pure]))); refine st_by ff ?_)
    | (with_reducible refine cq_lend (p_spec_Despawn_does w id _ e2) ?_ ?_ ⟨?_, ?_⟩; (· first | rfl | exact cl_by ff); (· first | assumption | kernel_rfl); (· first | exact ca_by ff | (refine sa_by ff ?_; try clear ff; first | exact trivial | omega | rfl | decide | (simp [pureV, pureVs, esEntityo_pure]))); refine st_by ff ?_)
    | (with_reducible refine cq_dlend (p_spec_Despawn_does w id _ e2) ?_ ?_ ⟨?_, ?_⟩; (· first | rfl | exact cl_by ff); (· first | assumption | kernel_rfl); (· first | exact ca_by ff | (refine sa_by ff ?_; try clear ff; first | exact trivial | omega | rfl | decide | (simp [pureV, pureVs, esEntityo_pure]))); refine st_by ff ?_)
    | (with_reducible refine cq_lendOwn (p_impl_Despawn_does w id _ e1) ?_ ?_ ⟨?_, ?_⟩; (· first | rfl | exact cl_by ff); (· first | assumption | kernel_rfl); (· first | exact ca_by ff | (refine sa_by ff ?_; try clear ff; first | exact trivial | omega | rfl | decide | (simp [pureV, pureVs, esEntityo_pure]))); refine st_by ff ?_)
    | (with_reducible refine cq_dlendOwn (p_impl_Despawn_does w id _ e1) ?_ ?_ ⟨?_, ?_⟩; (· first | rfl | exact cl_by ff); (· first | assumption | kernel_rfl); (· first | exact ca_by ff | (refine sa_by ff ?_; try clear ff; first | exact trivial | omega | rfl | decide | (simp [pureV, pureVs, esEntityo_pure]))); refine st_by ff ?_)
    | (with_reducible refine cq_lend (eqWorld_does r r hr hr) ?_ ?_ ⟨?_, ?_⟩; (· first | rfl | exact cl_by ff); (· first | assumption | kernel_rfl); (· first | exact ca_by ff | (refine sa_by ff ?_; try clear ff; first | exact trivial | omega | rfl | decide | (simp [pureV, pureVs, esEntityo_pure]))); refine st_by ff ?_)
    | (with_reducible refine cq_dlend (eqWorld_does r r hr hr) ?_ ?_ ⟨?_, ?_⟩; (· first | rfl | exact cl_by ff); (· first | assumption | kernel_rfl); (· first | exact ca_by ff | (refine sa_by ff ?_; try clear ff; first | exact trivial | omega | rfl | decide | (simp [pureV, pureVs, esEntityo_pure]))); refine st_by ff ?_)
    | (with_reducible refine cq_lend (eqWorld_does w w hw hw) ?_ ?_ ⟨?_, ?_⟩; (· first | rfl | exact cl_by ff); (· first | assumption | kernel_rfl); (· first | exact ca_by ff | (refine sa_by ff ?_; try clear ff; first | exact trivial | omega | rfl | decide | (simp [pureV, pureVs, esEntityo_pure]))); refine st_by ff ?_)
    | (with_reducible refine cq_dlend (eqWorld_does w w hw hw) ?_ ?_ ⟨?_, ?_⟩; (· first | rfl | exact cl_by ff); (· first | assumption | kernel_rfl); (· first | exact ca_by ff | (refine sa_by ff ?_; try clear ff; first | exact trivial | omega | rfl | decide | (simp [pureV, pureVs, esEntityo_pure]))); refine st_by ff ?_)
    | (with_reducible refine cq_Xs [(8, [2])] (markWorld_does w 1 (by decide) c1 w1 w2) ?_ ?_ ?_ ⟨?_, ?_⟩; (· first | rfl | exact cl_by ff); (· first | assumption | kernel_rfl); (· first | decide | simp); (· first | exact ca_by ff | (refine sa_by ff ?_; try clear ff; first | exact trivial | omega | rfl | decide | (simp [pureV, pureVs, esEntityo_pure]))); refine st_by ff ?_)
    | (with_reducible refine cq_Xs [(9, [2])] (markWorld_does r 1 (by decide) c2 r1 r2) ?_ ?_ ?_ ⟨?_, ?_⟩; (· first | rfl | exact cl_by ff); (· first | assumption | kernel_rfl); (· first | decide | simp); (· first | exact ca_by ff | (refine sa_by ff ?_; try clear ff; first | exact trivial | omega | rfl | decide | (simp [pureV, pureVs, esEntityo_pure]))); refine st_by ff ?_)
    | (with_reducible refine cq_lend (heldWorld_does (⟨r.Next, r.Tick, markL mEntity cEntity r.Entities 1⟩ : GWorld) 1 (by decide) q1 q2 q3 hm) ?_ ?_ ⟨?_, ?_⟩; (· first | rfl | exact cl_by ff); (· first | assumption | kernel_rfl); (· first | exact ca_by ff | (refine sa_by ff ?_; try clear ff; first | exact trivial | omega | rfl | decide | (simp [pureV, pureVs, esEntityo_pure]))); refine st_by ff ?_)
    | (with_reducible refine cq_dlend (heldWorld_does (⟨r.Next, r.Tick, markL mEntity cEntity r.Entities 1⟩ : GWorld) 1 (by decide) q1 q2 q3 hm) ?_ ?_ ⟨?_, ?_⟩; (· first | rfl | exact cl_by ff); (· first | assumption | kernel_rfl); (· first | exact ca_by ff | (refine sa_by ff ?_; try clear ff; first | exact trivial | omega | rfl | decide | (simp [pureV, pureVs, esEntityo_pure]))); refine st_by ff ?_)
    | (refine aw_drawn (id := 10) ?_ [[], [], [1], [0, 1, 2], [0, 1, 2, 3]] 3 ?_ ?_; (· kernel_rfl); (· kernel_rfl); refine st_by ff ?_)
    | (with_reducible refine CBC_eq (fun hp hd => ?_) (fun hp hd => ?_) <;> refine st_by (And.intro hd ff) ?_)
    | (with_reducible refine CBC_ne (fun hp hd => ?_) (fun hp hd => ?_) <;> refine st_by (And.intro hd ff) ?_)
    | (with_reducible refine CBC_decT ?_ (fun hd => ?_); (· try clear ff; first | assumption | omega); refine st_by (And.intro hd ff) ?_)
    | (with_reducible refine CBC_decF ?_ (fun hd => ?_); (· try clear ff; first | assumption | omega); refine st_by (And.intro hd ff) ?_)
    | (with_reducible refine CBC_dec (fun hp hd => ?_) (fun hp hd => ?_) <;> refine st_by (And.intro hd ff) ?_)
    | (refine CBC_bool (fun hd => ?_) (fun hd => ?_) <;> refine st_by (And.intro hd ff) ?_)
    | (with_reducible refine GQ_eq (fun hp hd => ?_) (fun hp hd => ?_) <;> refine st_by (And.intro hd ff) ?_)
    | (with_reducible refine GQ_ne (fun hp hd => ?_) (fun hp hd => ?_) <;> refine st_by (And.intro hd ff) ?_)
    | (with_reducible refine GQ_decT ?_ (fun hd => ?_); (· try clear ff; first | assumption | omega); refine st_by (And.intro hd ff) ?_)
    | (with_reducible refine GQ_decF ?_ (fun hd => ?_); (· try clear ff; first | assumption | omega); refine st_by (And.intro hd ff) ?_)
    | (with_reducible refine GQ_dec (fun hp hd => ?_) (fun hp hd => ?_) <;> refine st_by (And.intro hd ff) ?_)
    | (with_reducible refine GQ_ndT ?_ (fun hd => ?_); (· try clear ff; first | assumption | omega); refine st_by (And.intro hd ff) ?_)
    | (with_reducible refine GQ_ndF ?_ (fun hd => ?_); (· try clear ff; first | assumption | omega); refine st_by (And.intro hd ff) ?_)
    | (with_reducible refine GQ_nd (fun hp hd => ?_) (fun hp hd => ?_) <;> refine st_by (And.intro hd ff) ?_)
    | (refine GQ_nb (fun hd => ?_) (fun hd => ?_) <;> refine st_by (And.intro hd ff) ?_)
    | (refine GQ_bool (fun hd => ?_) (fun hd => ?_) <;> refine st_by (And.intro hd ff) ?_)
    | (with_reducible refine GD_eq (fun hp hd => ?_) (fun hp hd => ?_) <;> refine st_by (And.intro hd ff) ?_)
    | (with_reducible refine GD_ne (fun hp hd => ?_) (fun hp hd => ?_) <;> refine st_by (And.intro hd ff) ?_)
    | (with_reducible refine GD_decT ?_ (fun hd => ?_); (· try clear ff; first | assumption | omega); refine st_by (And.intro hd ff) ?_)
    | (with_reducible refine GD_decF ?_ (fun hd => ?_); (· try clear ff; first | assumption | omega); refine st_by (And.intro hd ff) ?_)
    | (with_reducible refine GD_dec (fun hp hd => ?_) (fun hp hd => ?_) <;> refine st_by (And.intro hd ff) ?_)
    | (with_reducible refine GD_ndT ?_ (fun hd => ?_); (· try clear ff; first | assumption | omega); refine st_by (And.intro hd ff) ?_)
    | (with_reducible refine GD_ndF ?_ (fun hd => ?_); (· try clear ff; first | assumption | omega); refine st_by (And.intro hd ff) ?_)
    | (with_reducible refine GD_nd (fun hp hd => ?_) (fun hp hd => ?_) <;> refine st_by (And.intro hd ff) ?_)
    | (refine GD_nb (fun hd => ?_) (fun hd => ?_) <;> refine st_by (And.intro hd ff) ?_)
    | (refine GD_bool (fun hd => ?_) (fun hd => ?_) <;> refine st_by (And.intro hd ff) ?_))
  all_goals try clear ff
end Go.Av
