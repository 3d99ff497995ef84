/- slices.IndexFunc[[]impl.Resident,impl.Resident] -/
import Derived.Test.YtgogbjfmbfijiaaBYi
import Derived.Test.YtgogbjfmbfijiaaBL0
set_option linter.unusedSimpArgs false
set_option linter.unusedVariables false
set_option maxRecDepth 100000
set_option maxHeartbeats 1000000
namespace Go.Av
open Go.Proofs
/-! slices.IndexFunc[[]impl.Resident,impl.Resident] -/
def p_slices_IndexFunc_impl_Resident_impl_Resident_l0 (f_a1 : GResident → Option Bool) : List GResident → Nat → Option (LR (Int) (Unit))
  | [], i_0 => some (.out ())
  | x_0 :: r_0, i_0 => ((f_a1 x_0).bind fun v12 => (if v12 = true then some (.ret (i_0 : Int)) else p_slices_IndexFunc_impl_Resident_impl_Resident_l0 f_a1 r_0 (i_0 + 1)))
theorem p_slices_IndexFunc_impl_Resident_impl_Resident_pv {F C A : Prop} (hF : F) (hC : C) (h : F → C → A := by intro hF hC; first | exact cl_by hF | (refine st_by hF ?_; (repeat' (first | exact trivial | apply And.intro)); all_goals (clear hF; first | rfl | (simp only [hC, List.length_append, List.length_cons, List.length_nil, List.append_nil, List.nil_append, List.cons_append, List.length_set, List.append_assoc, Nat.zero_add, List.length_replicate, esResident_app, esResident_cons, esResident_nil, eResident_eq]; done) | (simp [hC, List.length_append, List.length_cons, List.length_nil, List.append_nil, List.nil_append, List.cons_append, List.length_set, List.append_assoc, Nat.zero_add, List.length_replicate, esResident_app, esResident_cons, esResident_nil, eResident_eq]; done) | omega))) : A := h hF hC
theorem p_slices_IndexFunc_impl_Resident_impl_Resident_sa {F C A : Prop} (hF : F) (hC : C) (h : F → C → A := by intro hF hC; first | exact ca_by hF | (refine sa_by hF ?_; (repeat' (first | exact trivial | apply And.intro)); all_goals (clear hF; first | rfl | (simp only [hC, List.length_append, List.length_cons, List.length_nil, List.append_nil, List.nil_append, List.cons_append, List.length_set, List.append_assoc, Nat.zero_add, List.length_replicate, esResident_app, esResident_cons, esResident_nil, eResident_eq]; done) | (simp [hC, List.length_append, List.length_cons, List.length_nil, List.append_nil, List.nil_append, List.cons_append, List.length_set, List.append_assoc, Nat.zero_add, List.length_replicate, esResident_app, esResident_cons, esResident_nil, eResident_eq]; done) | omega))) : A := h hF hC
theorem p_slices_IndexFunc_impl_Resident_impl_Resident_rt {F C A : Prop} (hF : F) (hC : C) (h : F → C → A := by intro hF hC; first | (refine sr_by hF ?_; (repeat' (first | exact trivial | apply And.intro)); all_goals (clear hF; first | rfl | (simp only [hC, List.length_append, List.length_cons, List.length_nil, List.append_nil, List.nil_append, List.cons_append, List.length_set, List.append_assoc, Nat.zero_add, List.length_replicate, esResident_app, esResident_cons, esResident_nil, eResident_eq]; done) | (simp [hC, List.length_append, List.length_cons, List.length_nil, List.append_nil, List.nil_append, List.cons_append, List.length_set, List.append_assoc, Nat.zero_add, List.length_replicate, esResident_app, esResident_cons, esResident_nil, eResident_eq]; done) | omega)) | (first | rfl | (simp only [hC, List.length_append, List.length_cons, List.length_nil, List.append_nil, List.nil_append, List.cons_append, List.length_set, List.append_assoc, Nat.zero_add, List.length_replicate, esResident_app, esResident_cons, esResident_nil, eResident_eq]; done) | (simp [hC, List.length_append, List.length_cons, List.length_nil, List.append_nil, List.nil_append, List.cons_append, List.length_set, List.append_assoc, Nat.zero_add, List.length_replicate, esResident_app, esResident_cons, esResident_nil, eResident_eq]; done) | omega)) : A := h hF hC
def p_slices_IndexFunc_impl_Resident_impl_Resident_tf := PLift.up (And.intro @eResident_eq (And.intro @esResident_len (And.intro @esResident_nil (And.intro @esResident_leaf (And.intro @esResident_fit (And.intro @esResident_share (And.intro @esResident_pure (And.intro @str_beq (And.intro @Ty.sl44 (And.intro @Ty.slz44 (And.intro @Ty.nz87 (And.intro @Ty.ldA87 (And.intro @Ty.sz87 (And.intro @Ty.szn87 @trivial))))))))))))))
def p_slices_IndexFunc_impl_Resident_impl_Resident (s_a0 : List GResident) (f_a1 : GResident → Option Bool) : Option (Int) := ((p_slices_IndexFunc_impl_Resident_impl_Resident_l0 f_a1 s_a0 0).bind fun q_0 => match q_0 with | .ret r_ => some r_ | .out _ => some (-1))
theorem p_slices_IndexFunc_impl_Resident_impl_Resident_does (s_a0 : List GResident) (f1 : FuncId) (caps1 : List AV) (hc1 : AV.noRefs caps1 = true) (he1 : entB Try.prog f1 = true) (f_a1 : GResident → Option Bool) (hp1 : ∀ (x0_ : GResident) (y_ : Bool), f_a1 x0_ = some y_ → Does Try.prog f1 ([.agg (eResident x0_)] ++ caps1) (B y_)) (r : Int) (h : p_slices_IndexFunc_impl_Resident_impl_Resident s_a0 f_a1 = some r) : Does Try.prog 100 [.row false 4 s_a0.length (esResident s_a0), .fn f1 caps1] (I r) := by
  rw [p_slices_IndexFunc_impl_Resident_impl_Resident] at h
  refine Does.bnd (fun hb => ?_)
  have hb2 : s_a0.length ≤ 9223372036854775807 := by simpa [AV.fitNs, AV.fitN] using hb
  have hl0 := hb2
  refine Does.walk (nt := 19) Try.func100 rfl rfl (by simp) (by decide) (by simp [AV.noRefs, AV.noRef, hc1]) (fun G0 X w0 pv => ?_)
  have hL_0 : s_a0.length ≤ 9223372036854775807 := by first | assumption | omega
  obtain ⟨q_0, eq_0, h⟩ := Option.bind_eq_some_iff.1 h
  have ff := And.intro @hc1 p_slices_IndexFunc_impl_Resident_impl_Resident_tf.down
  try refine st_by ff ?_
  repeat' (first | exact trivial | refine And.intro sd ?_)
  obtain ⟨I_0, hI_0⟩ : ∃ I_ : (Nat) → ASt → Prop, I_ = (fun (i_0 : Nat) σ => (i_0 ≤ s_a0.length ∧ p_slices_IndexFunc_impl_Resident_impl_Resident_l0 f_a1 (s_a0.drop i_0) i_0 = some q_0) ∧ σ.t 0 = .row false 4 s_a0.length (esResident s_a0) ∧ σ.t 1 = .fn f1 caps1 ∧ σ.t 7 = I (s_a0.length : Int) ∧ σ.t 8 = I (i_0 : Int)) := ⟨_, rfl⟩
  obtain ⟨M_0, hM_0⟩ : ∃ M_ : (Nat) → Nat, M_ = (fun (i_0 : Nat) => s_a0.length - i_0) := ⟨_, rfl⟩
  obtain ⟨J_0, hJ_0⟩ : ∃ J_ : ASt → Prop, J_ = (fun σ => (some (.out ()) = some q_0) ∧ True) := ⟨_, rfl⟩
  refine aw_loopC (id := 0) I_0 M_0 J_0 (0) ?_ ?_ ?_
  · rw [hI_0]
    refine ⟨⟨Nat.zero_le _, eq_0⟩, ?_⟩
    exact p_slices_IndexFunc_impl_Resident_impl_Resident_pv ff trivial
  · try clear ff
    rintro i_0 σ hg_0
    rw [hI_0] at hg_0
    obtain ⟨⟨hi_0, h_0⟩, g0_0, g1_0, g2_0, g3_0⟩ := hg_0
    cases hr_0 : s_a0.drop i_0 with
    | nil =>
      rw [hr_0] at h_0
      rw [p_slices_IndexFunc_impl_Resident_impl_Resident_l0] at h_0
      have hn_0 := drop_nil hr_0
      have dr_0 : decide ((i_0 : Int) < (s_a0.length : Int)) = false := decide_eq_false (by omega)
      have ff := And.intro @hc1 (And.intro @dr_0 (And.intro @g0_0 (And.intro @g1_0 (And.intro @g2_0 (And.intro @g3_0 p_slices_IndexFunc_impl_Resident_impl_Resident_tf.down)))))
      try refine st_by ff ?_
      repeat' (first | exact trivial | refine And.intro sd ?_)
      refine JW.intro ?_
      rw [hJ_0]
      refine ⟨h_0, ?_⟩
      exact p_slices_IndexFunc_impl_Resident_impl_Resident_pv ff trivial
    | cons x_0 r_0 =>
      rw [hr_0] at h_0
      rw [p_slices_IndexFunc_impl_Resident_impl_Resident_l0] at h_0
      obtain ⟨ht_0, hg_0, hd_0⟩ := drop_cons hr_0
      have dr_0 : decide ((i_0 : Int) < (s_a0.length : Int)) = true := decide_eq_true (by omega)
      have w_0 : IntKind.i64.wrap ((i_0 : Int) + 1) = ((i_0 + 1 : Nat) : Int) := wI _ (by omega) (by omega)
      have kk0c : (esResident s_a0).drop (i_0 * 4) = eResident x_0 ++ esResident (s_a0.drop (i_0 + 1)) := drop_enc (fun _ => rfl) (hg_0)
      obtain ⟨v12, ev12, h_0⟩ := Option.bind_eq_some_iff.1 h_0
      try dsimp only at h_0
      have ff := And.intro @hc1 (And.intro @dr_0 (And.intro @w_0 (And.intro @g0_0 (And.intro @g1_0 (And.intro @g2_0 (And.intro @g3_0 (And.intro @kk0c p_slices_IndexFunc_impl_Resident_impl_Resident_tf.down)))))))
      try refine st_by ff ?_
      repeat' (first | exact trivial | refine And.intro sd ?_)
      first
      | (refine cq_call (hp1 x_0 v12 ev12) (hf_by ff) he1 ⟨p_slices_IndexFunc_impl_Resident_impl_Resident_sa ff trivial, ?_⟩; clear ff)
      by_cases c13 : v12 = true
      · rw [if_pos c13] at h_0
        have dc13 := c13
        cases h_0
        try dsimp only at h
        have ff := And.intro @hc1 (And.intro @dr_0 (And.intro @w_0 (And.intro @g0_0 (And.intro @g1_0 (And.intro @g2_0 (And.intro @g3_0 (And.intro @kk0c (And.intro @dc13 p_slices_IndexFunc_impl_Resident_impl_Resident_tf.down))))))))
        try refine st_by ff ?_
        repeat' (first | exact trivial | refine And.intro sd ?_)
        cases h
        exact ret_q1 rfl (p_slices_IndexFunc_impl_Resident_impl_Resident_rt ff trivial)
      rw [if_neg c13] at h_0
      have dc13 := eq_false_of_ne_true c13
      have ff := And.intro @hc1 (And.intro @dr_0 (And.intro @w_0 (And.intro @g0_0 (And.intro @g1_0 (And.intro @g2_0 (And.intro @g3_0 (And.intro @kk0c (And.intro @dc13 p_slices_IndexFunc_impl_Resident_impl_Resident_tf.down))))))))
      try refine st_by ff ?_
      repeat' (first | exact trivial | refine And.intro sd ?_)
      refine Back.intro (i_0 + 1) ?_ ?_
      · clear ff; rw [hM_0]; show s_a0.length - (i_0 + 1) < s_a0.length - i_0; omega
      rw [hI_0]
      refine ⟨⟨by clear ff; show i_0 + 1 ≤ s_a0.length; omega, by show p_slices_IndexFunc_impl_Resident_impl_Resident_l0 f_a1 (s_a0.drop (i_0 + 1)) (i_0 + 1) = some q_0; rw [hd_0]; exact h_0⟩, ?_⟩
      exact p_slices_IndexFunc_impl_Resident_impl_Resident_pv ff trivial
  · try clear ff
    rintro σ hg_0
    rw [hJ_0] at hg_0
    obtain ⟨hj_0, _⟩ := hg_0
    cases hj_0
    try dsimp only at h
    have ff := And.intro @hc1 p_slices_IndexFunc_impl_Resident_impl_Resident_tf.down
    try refine st_by ff ?_
    repeat' (first | exact trivial | refine And.intro sd ?_)
    cases h
    exact ret_q1 rfl (p_slices_IndexFunc_impl_Resident_impl_Resident_rt ff trivial)
/-! slices.DeleteFunc[[]impl.Resident,impl.Resident] -/
def p_slices_DeleteFunc_impl_Resident_impl_Resident_l0 (del_a1 : GResident → Option Bool) : Nat → Int → Int → (List GResident) → Option (Int × Int × (List GResident))
  | 0, _, _, _ => none
  | n_0 + 1, i_12, j_11, u_13 => (if j_11 < (u_13.length : Int) then ((idx u_13 j_11).bind fun x23 => ((del_a1 x23).bind fun v25 => (if v25 = true then p_slices_DeleteFunc_impl_Resident_impl_Resident_l0 del_a1 n_0 i_12 (IntKind.i64.wrap (j_11 + 1)) u_13 else ((idx u_13 i_12).bind fun x27 => p_slices_DeleteFunc_impl_Resident_impl_Resident_l0 del_a1 n_0 (IntKind.i64.wrap (i_12 + 1)) (IntKind.i64.wrap (j_11 + 1)) (u_13.set i_12.toNat x23))))) else some (i_12, j_11, u_13))
def p_slices_DeleteFunc_impl_Resident_impl_Resident_tf := PLift.up (And.intro @eResident_eq (And.intro @esResident_len (And.intro @esResident_nil (And.intro @esResident_leaf (And.intro @esResident_fit (And.intro @esResident_share (And.intro @esResident_pure (And.intro @str_beq (And.intro @Ty.sl44 (And.intro @Ty.slz44 (And.intro @Ty.nz87 (And.intro @Ty.ldA87 (And.intro @Ty.sz87 (And.intro @Ty.szn87 (And.intro @Ty.nze44 (And.intro @Ty.zok44 (And.intro @Ty.by44 (And.intro @Ty.zs44 (And.intro @Ty.zv87 @trivial)))))))))))))))))))
def p_slices_DeleteFunc_impl_Resident_impl_Resident (N : Nat) (s_a0 : List GResident) (del_a1 : GResident → Option Bool) : Option (List GResident) := ((p_slices_IndexFunc_impl_Resident_impl_Resident s_a0 del_a1).bind fun v1 => (if v1 = (-1) then some s_a0 else ((p_slices_DeleteFunc_impl_Resident_impl_Resident_l0 del_a1 N v1 (IntKind.i64.wrap (v1 + 1)) s_a0).bind fun q_0 => match q_0 with | (i_12, j_11, u_13) => ((slc u_13 i_12 (u_13.length : Int)).bind fun m30 => (if i_12.toNat < u_13.length then some (u_13.take i_12.toNat) else none)))))
theorem p_slices_DeleteFunc_impl_Resident_impl_Resident_does (N : Nat) (s_a0 : List GResident) (f1 : FuncId) (hc1 : AV.noRefs [] = true) (he1 : entB Try.prog f1 = true) (del_a1 : GResident → Option Bool) (hp1 : ∀ (x0_ : GResident) (y_ : Bool), del_a1 x0_ = some y_ → Does Try.prog f1 ([.agg (eResident x0_)] ++ []) (B y_)) (r : List GResident) (h : p_slices_DeleteFunc_impl_Resident_impl_Resident N s_a0 del_a1 = some r) : DoesX Try.prog 89 [.sl 1000 [] 0 s_a0.length, .fn f1 []] [.row true 4 s_a0.length (esResident s_a0)] (.row true 4 r.length (esResident r)) [.junk] := by
  rw [p_slices_DeleteFunc_impl_Resident_impl_Resident] at h
  refine DoesX.walk (nt := 42) Try.func89 rfl rfl (by simp) (by decide) rfl (fun G0 X w0 pv => ?_)
  obtain ⟨v1, ev1, h⟩ := Option.bind_eq_some_iff.1 h
  try dsimp only at h
  have ff := And.intro @hc1 p_slices_DeleteFunc_impl_Resident_impl_Resident_tf.down
  try refine st_by ff ?_
  repeat' (first | exact trivial | refine And.intro sd ?_)
  first
  | (refine cq_lend (p_slices_IndexFunc_impl_Resident_impl_Resident_does s_a0 f1 [] hc1 he1 del_a1 hp1 v1 ev1) (hf_by ff) kr ⟨p_slices_IndexFunc_impl_Resident_impl_Resident_sa ff trivial, ?_⟩; clear ff)
  by_cases c2 : v1 = (-1)
  · rw [if_pos c2] at h
    have dc2 := beq_yes c2
    have ff := And.intro @hc1 (And.intro @dc2 p_slices_DeleteFunc_impl_Resident_impl_Resident_tf.down)
    try refine st_by ff ?_
    repeat' (first | exact trivial | refine And.intro sd ?_)
    cases h
    exact retX_p1 rfl (p_slices_IndexFunc_impl_Resident_impl_Resident_rt ff trivial)
  rw [if_neg c2] at h
  have dc2 := beq_no c2
  obtain ⟨q_0, eq_0, h⟩ := Option.bind_eq_some_iff.1 h
  have ff := And.intro @hc1 (And.intro @dc2 p_slices_DeleteFunc_impl_Resident_impl_Resident_tf.down)
  try refine st_by ff ?_
  repeat' (first | exact trivial | refine And.intro sd ?_)
  obtain ⟨I_0, hI_0⟩ : ∃ I_ : (Nat × Int × Int × (List GResident)) → ASt → Prop, I_ = (fun (a : Nat × Int × Int × (List GResident)) σ => match a with | (n_0, i_12, j_11, u_13) => (p_slices_DeleteFunc_impl_Resident_impl_Resident_l0 del_a1 n_0 i_12 j_11 u_13 = some q_0) ∧ σ.t 0 = .sl 1000 [] 0 u_13.length ∧ σ.t 1 = .fn f1 [] ∧ σ.t 5 = I i_12 ∧ σ.t 6 = I j_11 ∧ σ.m 1000 = some (.row true 4 u_13.length (esResident u_13))) := ⟨_, rfl⟩
  obtain ⟨M_0, hM_0⟩ : ∃ M_ : (Nat × Int × Int × (List GResident)) → Nat, M_ = (fun (a : Nat × Int × Int × (List GResident)) => match a with | (n_0, i_12, j_11, u_13) => n_0) := ⟨_, rfl⟩
  obtain ⟨J_0, hJ_0⟩ : ∃ J_ : ASt → Prop, J_ = (fun σ => ∃ i_12 : Int, ∃ j_11 : Int, ∃ u_13 : List GResident, (some (i_12, j_11, u_13) = some q_0) ∧ σ.t 0 = .sl 1000 [] 0 u_13.length ∧ σ.t 5 = I i_12 ∧ σ.m 1000 = some (.row true 4 u_13.length (esResident u_13))) := ⟨_, rfl⟩
  refine aw_loopC (id := 0) I_0 M_0 J_0 (N, v1, (IntKind.i64.wrap (v1 + 1)), s_a0) ?_ ?_ ?_
  · rw [hI_0]
    refine ⟨eq_0, ?_⟩
    exact p_slices_IndexFunc_impl_Resident_impl_Resident_pv ff trivial
  · try clear ff
    rintro ⟨n_0, i_12, j_11, u_13⟩ σ hg_0
    rw [hI_0] at hg_0
    obtain ⟨h_0, g0_0, g1_0, g2_0, g3_0, g4_0⟩ := hg_0
    cases n_0 with
    | zero => rw [p_slices_DeleteFunc_impl_Resident_impl_Resident_l0] at h_0; cases h_0
    | succ n_0 =>
      rw [p_slices_DeleteFunc_impl_Resident_impl_Resident_l0] at h_0
      by_cases c22 : j_11 < (u_13.length : Int)
      case neg =>
       rw [if_neg c22] at h_0
       have dc22 := decide_eq_false c22
       have ff := And.intro @hc1 (And.intro @dc2 (And.intro @g0_0 (And.intro @g1_0 (And.intro @g2_0 (And.intro @g3_0 (And.intro @g4_0 (And.intro @dc22 p_slices_DeleteFunc_impl_Resident_impl_Resident_tf.down)))))))
       try refine st_by ff ?_
       repeat' (first | exact trivial | refine And.intro sd ?_)
       refine JW.intro ?_
       rw [hJ_0]
       refine ⟨i_12, j_11, u_13, h_0, ?_⟩
       exact p_slices_IndexFunc_impl_Resident_impl_Resident_pv ff trivial
      rw [if_pos c22] at h_0
      have dc22 := decide_eq_true c22
      obtain ⟨x23, ex23, h_0⟩ := Option.bind_eq_some_iff.1 h_0
      try dsimp only at h_0
      have f24a := idx_lo ex23
      have f24b := idx_hi ex23
      have f24c : (esResident u_13).drop (j_11.toNat * 4) = eResident x23 ++ esResident (u_13.drop (j_11.toNat + 1)) := drop_enc (fun _ => rfl) (idx_get ex23)
      have f24g0 : (esResident u_13).getD (j_11.toNat * 4) .junk = (eResident x23).getD 0 .junk := getD_enc0 (enc := eResident) (sz := 4) (fun _ => rfl) (idx_get ex23) (by decide)
      have f24g1 : (esResident u_13).getD (j_11.toNat * 4 + 1) .junk = (eResident x23).getD 1 .junk := getD_enc (enc := eResident) (sz := 4) (fun _ => rfl) (idx_get ex23) (by decide)
      have f24g2 : (esResident u_13).getD (j_11.toNat * 4 + 2) .junk = (eResident x23).getD 2 .junk := getD_enc (enc := eResident) (sz := 4) (fun _ => rfl) (idx_get ex23) (by decide)
      have f24g3 : (esResident u_13).getD (j_11.toNat * 4 + 3) .junk = (eResident x23).getD 3 .junk := getD_enc (enc := eResident) (sz := 4) (fun _ => rfl) (idx_get ex23) (by decide)
      obtain ⟨v25, ev25, h_0⟩ := Option.bind_eq_some_iff.1 h_0
      try dsimp only at h_0
      have ff := And.intro @hc1 (And.intro @dc2 (And.intro @g0_0 (And.intro @g1_0 (And.intro @g2_0 (And.intro @g3_0 (And.intro @g4_0 (And.intro @dc22 (And.intro @f24c (And.intro @f24g0 (And.intro @f24g1 (And.intro @f24g2 (And.intro @f24g3 p_slices_DeleteFunc_impl_Resident_impl_Resident_tf.down))))))))))))
      try refine st_by ff ?_
      repeat' (first | exact trivial | refine And.intro sd ?_)
      first
      | (refine cq_call (hp1 x23 v25 ev25) (hf_by ff) he1 ⟨p_slices_IndexFunc_impl_Resident_impl_Resident_sa ff trivial, ?_⟩; clear ff)
      by_cases c26 : v25 = true
      · rw [if_pos c26] at h_0
        have dc26 := c26
        have ff := And.intro @hc1 (And.intro @dc2 (And.intro @g0_0 (And.intro @g1_0 (And.intro @g2_0 (And.intro @g3_0 (And.intro @g4_0 (And.intro @dc22 (And.intro @f24c (And.intro @f24g0 (And.intro @f24g1 (And.intro @f24g2 (And.intro @f24g3 (And.intro @dc26 p_slices_DeleteFunc_impl_Resident_impl_Resident_tf.down)))))))))))))
        try refine st_by ff ?_
        repeat' (first | exact trivial | refine And.intro sd ?_)
        refine Back.intro (n_0, i_12, (IntKind.i64.wrap (j_11 + 1)), u_13) ?_ ?_
        · rw [hM_0]; exact Nat.lt_succ_self _
        rw [hI_0]
        refine ⟨h_0, ?_⟩
        exact p_slices_IndexFunc_impl_Resident_impl_Resident_pv ff trivial
      rw [if_neg c26] at h_0
      have dc26 := eq_false_of_ne_true c26
      obtain ⟨x27, ex27, h_0⟩ := Option.bind_eq_some_iff.1 h_0
      try dsimp only at h_0
      have f28a := idx_lo ex27
      have f28b := idx_hi ex27
      have f28c : (esResident u_13).drop (i_12.toNat * 4) = eResident x27 ++ esResident (u_13.drop (i_12.toNat + 1)) := drop_enc (fun _ => rfl) (idx_get ex27)
      have f28g0 : (esResident u_13).getD (i_12.toNat * 4) .junk = (eResident x27).getD 0 .junk := getD_enc0 (enc := eResident) (sz := 4) (fun _ => rfl) (idx_get ex27) (by decide)
      have f28g1 : (esResident u_13).getD (i_12.toNat * 4 + 1) .junk = (eResident x27).getD 1 .junk := getD_enc (enc := eResident) (sz := 4) (fun _ => rfl) (idx_get ex27) (by decide)
      have f28g2 : (esResident u_13).getD (i_12.toNat * 4 + 2) .junk = (eResident x27).getD 2 .junk := getD_enc (enc := eResident) (sz := 4) (fun _ => rfl) (idx_get ex27) (by decide)
      have f28g3 : (esResident u_13).getD (i_12.toNat * 4 + 3) .junk = (eResident x27).getD 3 .junk := getD_enc (enc := eResident) (sz := 4) (fun _ => rfl) (idx_get ex27) (by decide)
      have w29l : i_12.toNat < u_13.length := (List.getElem?_eq_some_iff.1 (idx_get ex27)).1
      have w29a : setL (esResident u_13) (i_12.toNat * 4) [S x23.Name, I x23.Size, I x23.Held, I x23.Used] = esResident (u_13.set i_12.toNat x23) := esResident_setL u_13 i_12.toNat x23 w29l
      have w29b : (u_13.set i_12.toNat x23).length = u_13.length := List.length_set
      have w29u := w29a; simp only [setL, List.length_cons, List.length_nil, Nat.zero_add, List.cons_append, List.nil_append] at w29u
      have ff := And.intro @hc1 (And.intro @dc2 (And.intro @g0_0 (And.intro @g1_0 (And.intro @g2_0 (And.intro @g3_0 (And.intro @g4_0 (And.intro @dc22 (And.intro @f24c (And.intro @f24g0 (And.intro @f24g1 (And.intro @f24g2 (And.intro @f24g3 (And.intro @dc26 (And.intro @f28c (And.intro @f28g0 (And.intro @f28g1 (And.intro @f28g2 (And.intro @f28g3 (And.intro @w29a (And.intro @w29u p_slices_DeleteFunc_impl_Resident_impl_Resident_tf.down))))))))))))))))))))
      try refine st_by ff ?_
      repeat' (first | exact trivial | refine And.intro sd ?_)
      refine Back.intro (n_0, (IntKind.i64.wrap (i_12 + 1)), (IntKind.i64.wrap (j_11 + 1)), (u_13.set i_12.toNat x23)) ?_ ?_
      · rw [hM_0]; exact Nat.lt_succ_self _
      rw [hI_0]
      refine ⟨h_0, ?_⟩
      exact p_slices_IndexFunc_impl_Resident_impl_Resident_pv ff trivial
  · try clear ff
    rintro σ hg_0
    rw [hJ_0] at hg_0
    obtain ⟨i_12, j_11, u_13, hj_0, g0_0a, g1_0a, g2_0a⟩ := hg_0
    cases hj_0
    try dsimp only at h
    obtain ⟨m30, em30, h⟩ := Option.bind_eq_some_iff.1 h
    try dsimp only at h
    obtain ⟨f31a, f31b⟩ := slc_ok em30
    have f31c : ((esResident u_13).drop (i_12.toNat * 4)).take ((u_13.length - i_12.toNat) * 4) = esResident m30 := slc_encH (enc := eResident) (fun _ => rfl) em30
    have f31d : m30.length = u_13.length - i_12.toNat := (slc_lenH em30).symm
    have f31e : (if (i_12.toNat = 0 ∧ u_13.length - i_12.toNat = u_13.length) then esResident u_13 else esResident m30) = esResident m30 := slc_ite (enc := eResident) (sz := 4) (fun _ => rfl) em30
    by_cases c32 : i_12.toNat < u_13.length
    case neg => rw [if_neg c32] at h; cases h
    rw [if_pos c32] at h
    have ff := And.intro @hc1 (And.intro @dc2 (And.intro @g0_0a (And.intro @g1_0a (And.intro @g2_0a (And.intro @f31c (And.intro @f31e p_slices_DeleteFunc_impl_Resident_impl_Resident_tf.down))))))
    try refine st_by ff ?_
    repeat' (first | exact trivial | refine And.intro sd ?_)
    refine l_clear (n := u_13.length) (cs := esResident u_13) (off := i_12.toNat) (m := u_13.length - i_12.toNat) (r := 1000) (p := []) Ty.zok44 ?_ ?_ (by omega) (by omega) ?_
    · (first | exact cl_by ff | refine st_by ff ?_)
    · rw [Ty.slz44]; (first | exact cl_by ff | refine st_by ff ?_)
    rw [Ty.slz44]
    generalize hcs3 : setL _ _ _ = cs3
    (first | exact cl_by ff | refine st_by ff ?_)
    (repeat' (first | exact trivial | refine And.intro sd ?_ | fail))
    cases h
    refine retX_cut (n := u_13.length) (len := i_12.toNat) (cs := cs3) (r := 1000) (p := []) (sz := 4) rfl ?_ ?_ (by omega) ?_ ?_
    · (first | exact cl_by ff | refine st_by ff ?_)
    · (first | exact cl_by ff | refine st_by ff ?_)
    · rw [← hcs3, setL_take (by rw [esResident_len]; exact Nat.mul_le_mul_right _ (by omega)) (Nat.le_refl _), esResident_takek, show (u_13.take i_12.toNat).length = i_12.toNat by simp; omega]
    · (first | exact cl_by (And.intro @regsQ_cons (And.intro @regsQ_nil ff)) | refine st_by (And.intro @regsQ_cons (And.intro @regsQ_nil ff)) ?_)
end Go.Av
