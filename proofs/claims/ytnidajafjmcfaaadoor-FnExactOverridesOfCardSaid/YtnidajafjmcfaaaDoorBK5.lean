/- spec.l26Lay -/
import Derived.Test.YtnidajafjmcfaaaDoorBK4
import Derived.Test.YtnidajafjmcfaaaDoorBK3
section
set_option linter.unusedSimpArgs false
set_option linter.unusedVariables false
set_option maxRecDepth 100000
set_option maxHeartbeats 1000000
namespace Go.Av
open Go.Proofs
/-! spec.l26Lay -/
def p_spec_l26Lay_j1 (path_a1 : ByteArray) (x_0 : GProp) (i_0 : Nat) (rec_0 : Nat → Bool → (List GProp) → Option (Bool × (List GProp))) (put_29 : Bool) (out_30 : List GProp) : Option (Bool × (List GProp)) := (if x_0.Path = path_a1 then rec_0 (i_0 + 1) put_29 out_30 else (if out_30.length < 4294967296 then rec_0 (i_0 + 1) put_29 (out_30 ++ [x_0]) else none))
def p_spec_l26Lay_j0 (path_a1 : ByteArray) (value_a2 : ByteArray) (put_12 : Bool) (out_14 : List GProp) (x_0 : GProp) (i_0 : Nat) (rec_0 : Nat → Bool → (List GProp) → Option (Bool × (List GProp))) (b_28 : Bool) : Option (Bool × (List GProp)) := (if b_28 = true then (if out_14.length < 4294967296 then p_spec_l26Lay_j1 path_a1 x_0 i_0 (rec_0) true (out_14 ++ [(⟨path_a1, value_a2⟩ : GProp)]) else none) else p_spec_l26Lay_j1 path_a1 x_0 i_0 (rec_0) put_12 out_14)
def p_spec_l26Lay_l0 (path_a1 : ByteArray) (value_a2 : ByteArray) : List GProp → Nat → Bool → (List GProp) → Option (Bool × (List GProp))
  | [], i_0, put_12, out_14 => some (put_12, out_14)
  | x_0 :: r_0, i_0, put_12, out_14 => (if put_12 = true then p_spec_l26Lay_j0 path_a1 value_a2 put_12 out_14 x_0 i_0 (p_spec_l26Lay_l0 path_a1 value_a2 r_0) false else p_spec_l26Lay_j0 path_a1 value_a2 put_12 out_14 x_0 i_0 (p_spec_l26Lay_l0 path_a1 value_a2 r_0) (!(Op.bytesLess x_0.Path.toList path_a1.toList)))
theorem p_spec_l26Lay_pv {F C A : Prop} (hF : F) (hC : C) (h : F → C → A := by intro hF hC; first | exact cl_by hF | (refine st_by hF ?_; (repeat' (first | exact trivial | apply And.intro)); all_goals (clear hF; first | rfl | (simp only [hC, List.length_append, List.length_cons, List.length_nil, List.append_nil, List.nil_append, List.cons_append, List.length_set, List.append_assoc, Nat.zero_add, List.length_replicate, esProp_app, esProp_cons, esProp_nil, eProp_eq]; done) | (simp [hC, List.length_append, List.length_cons, List.length_nil, List.append_nil, List.nil_append, List.cons_append, List.length_set, List.append_assoc, Nat.zero_add, List.length_replicate, esProp_app, esProp_cons, esProp_nil, eProp_eq]; done) | omega))) : A := h hF hC
theorem p_spec_l26Lay_rt {F C A : Prop} (hF : F) (hC : C) (h : F → C → A := by intro hF hC; first | (refine sr_by hF ?_; (repeat' (first | exact trivial | apply And.intro)); all_goals (clear hF; first | rfl | (simp only [hC, List.length_append, List.length_cons, List.length_nil, List.append_nil, List.nil_append, List.cons_append, List.length_set, List.append_assoc, Nat.zero_add, List.length_replicate, esProp_app, esProp_cons, esProp_nil, eProp_eq]; done) | (simp [hC, List.length_append, List.length_cons, List.length_nil, List.append_nil, List.nil_append, List.cons_append, List.length_set, List.append_assoc, Nat.zero_add, List.length_replicate, esProp_app, esProp_cons, esProp_nil, eProp_eq]; done) | omega)) | (first | rfl | (simp only [hC, List.length_append, List.length_cons, List.length_nil, List.append_nil, List.nil_append, List.cons_append, List.length_set, List.append_assoc, Nat.zero_add, List.length_replicate, esProp_app, esProp_cons, esProp_nil, eProp_eq]; done) | (simp [hC, List.length_append, List.length_cons, List.length_nil, List.append_nil, List.nil_append, List.cons_append, List.length_set, List.append_assoc, Nat.zero_add, List.length_replicate, esProp_app, esProp_cons, esProp_nil, eProp_eq]; done) | omega)) : A := h hF hC
def p_spec_l26Lay_tf := PLift.up (ai @eProp_eq (ai @esProp_len (ai @esProp_nil (ai @esProp_leaf (ai @esProp_fit (ai @esProp_share (ai @esProp_pure (ai @str_beq (ai @Ty.sl24 (ai @Ty.slz24 (ai @Ty.nz59 (ai @Ty.ldA59 (ai @Ty.sz59 (ai @Ty.szn59 (ai @Ty.nz9 (ai @Ty.ldA9 (ai @Ty.ldS9 (ai @Ty.sz9 (ai @Ty.szn9 (ai @Ty.fo59_0 (ai @Ty.fk59_0 (ai @Ty.fs59_0 (ai @Ty.fn59_0 (ai @Ty.nze24 (ai @Ty.zok24 (ai @Ty.by24 (ai @Ty.zs24 (ai @Ty.zv59 (ai @Ty.bd59 (ai @Ty.pl59_0 (ai @Ty.pl59_1 @trivial)))))))))))))))))))))))))))))))
def p_spec_l26Lay (l_a0 : List GProp) (path_a1 : ByteArray) (value_a2 : ByteArray) (has_a3 : Bool) : Option (List GProp) := ((p_spec_l26Lay_l0 path_a1 value_a2 l_a0 0 (!has_a3) ([] : List GProp)).bind fun q_0 => match q_0 with | (put_12, out_14) => (if put_12 = true then some out_14 else (if out_14.length < 4294967296 then some (out_14 ++ [(⟨path_a1, value_a2⟩ : GProp)]) else none)))
theorem p_spec_l26Lay_does (l_a0 : List GProp) (path_a1 : ByteArray) (value_a2 : ByteArray) (has_a3 : Bool) (r : List GProp) (h : p_spec_l26Lay l_a0 path_a1 value_a2 has_a3 = some r) : Does Tryd.prog 50 [.row false 2 l_a0.length (esProp l_a0), S path_a1, S value_a2, B has_a3] (.row true 2 r.length (esProp r)) := by
  rw [p_spec_l26Lay] at h
  refine Does.bnd (fun hb => ?_)
  have hb2 : l_a0.length ≤ 9223372036854775807 := by simpa [AV.fitNs, AV.fitN] using hb
  have hl0 := hb2
  refine Does.walk (nt := 53) Tryd.func50 rfl rfl (by simp) (by decide) rfl (fun G0 X w0 pv => ?_)
  have hL_0 : l_a0.length ≤ 9223372036854775807 := by first | assumption | omega
  obtain ⟨q_0, eq_0, h⟩ := Option.bind_eq_some_iff.1 h
  have ff := p_spec_l26Lay_tf.down
  try refine st_by ff ?_
  repeat' (first | exact trivial | refine And.intro sd ?_)
  obtain ⟨I_0, hI_0⟩ : ∃ I_ : (Nat × Bool × (List GProp)) → ASt → Prop, I_ = (fun (a : Nat × Bool × (List GProp)) σ => match a with | (i_0, put_12, out_14) => (i_0 ≤ l_a0.length ∧ p_spec_l26Lay_l0 path_a1 value_a2 (l_a0.drop i_0) i_0 put_12 out_14 = some q_0) ∧ σ.t 1 = S path_a1 ∧ σ.t 2 = S value_a2 ∧ σ.t 9 = .sl 9 [] 0 out_14.length ∧ σ.t 10 = B put_12 ∧ σ.t 15 = .row false 2 l_a0.length (esProp l_a0) ∧ σ.t 16 = I (l_a0.length : Int) ∧ σ.t 17 = I (i_0 : Int) ∧ σ.m 9 = some (.row true 2 out_14.length (esProp out_14))) := ⟨_, rfl⟩
  obtain ⟨M_0, hM_0⟩ : ∃ M_ : (Nat × Bool × (List GProp)) → Nat, M_ = (fun (a : Nat × Bool × (List GProp)) => match a with | (i_0, put_12, out_14) => l_a0.length - i_0) := ⟨_, rfl⟩
  obtain ⟨J_0, hJ_0⟩ : ∃ J_ : ASt → Prop, J_ = (fun σ => ∃ put_12 : Bool, ∃ out_14 : List GProp, (some (put_12, out_14) = some q_0) ∧ σ.t 1 = S path_a1 ∧ σ.t 2 = S value_a2 ∧ σ.t 9 = .sl 9 [] 0 out_14.length ∧ σ.t 10 = B put_12 ∧ σ.m 9 = some (.row true 2 out_14.length (esProp out_14))) := ⟨_, rfl⟩
  refine aw_loopC (id := 0) I_0 M_0 J_0 (0, !has_a3, ([] : List GProp)) ?_ ?_ ?_
  · rw [hI_0]
    refine ⟨⟨Nat.zero_le _, eq_0⟩, ?_⟩
    exact p_spec_l26Lay_pv ff trivial
  · try clear ff
    rintro ⟨i_0, put_12, out_14⟩ σ hg_0
    rw [hI_0] at hg_0
    obtain ⟨⟨hi_0, h_0⟩, g0_0, g1_0, g2_0, g3_0, g4_0, g5_0, g6_0, g7_0⟩ := hg_0
    cases hr_0 : l_a0.drop i_0 with
    | nil =>
      rw [hr_0] at h_0
      rw [p_spec_l26Lay_l0] at h_0
      have hn_0 := drop_nil hr_0
      have dr_0 : decide ((i_0 : Int) < (l_a0.length : Int)) = false := decide_eq_false (by omega)
      have ff := ai @dr_0 (ai @g0_0 (ai @g1_0 (ai @g2_0 (ai @g3_0 (ai @g4_0 (ai @g5_0 (ai @g6_0 (ai @g7_0 p_spec_l26Lay_tf.down))))))))
      try refine st_by ff ?_
      repeat' (first | exact trivial | refine And.intro sd ?_)
      refine JW.intro ?_
      rw [hJ_0]
      refine ⟨put_12, out_14, h_0, ?_⟩
      exact p_spec_l26Lay_pv ff trivial
    | cons x_0 r_0 =>
      rw [hr_0] at h_0
      rw [p_spec_l26Lay_l0] at h_0
      obtain ⟨ht_0, hg_0, hd_0⟩ := drop_cons hr_0
      have dr_0 : decide ((i_0 : Int) < (l_a0.length : Int)) = true := decide_eq_true (by omega)
      have w_0 : IntKind.i64.wrap ((i_0 : Int) + 1) = ((i_0 + 1 : Nat) : Int) := wI _ (by omega) (by omega)
      have kk0c : (esProp l_a0).drop (i_0 * 2) = eProp x_0 ++ esProp (l_a0.drop (i_0 + 1)) := drop_enc (fun _ => rfl) (hg_0)
      have ff := ai @dr_0 (ai @w_0 (ai @g0_0 (ai @g1_0 (ai @g2_0 (ai @g3_0 (ai @g4_0 (ai @g5_0 (ai @g6_0 (ai @g7_0 (ai @kk0c p_spec_l26Lay_tf.down))))))))))
      try refine st_by ff ?_
      repeat' (first | exact trivial | refine And.intro sd ?_)
      try clear ff
      generalize hk_0 : thenK _ _ = kk_0
      have key_0 : ∀ σ, (∃ b_28 : Bool, (p_spec_l26Lay_j0 path_a1 value_a2 put_12 out_14 x_0 i_0 (p_spec_l26Lay_l0 path_a1 value_a2 r_0) b_28 = some q_0) ∧ σ.t 1 = S path_a1 ∧ σ.t 2 = S value_a2 ∧ σ.t 9 = .sl 9 [] 0 out_14.length ∧ σ.t 10 = B put_12 ∧ σ.t 12 = .ptr 12 [] 0 ∧ σ.t 15 = .row false 2 l_a0.length (esProp l_a0) ∧ σ.t 16 = I (l_a0.length : Int) ∧ σ.t 17 = I (i_0 : Int) ∧ σ.t 28 = B b_28 ∧ σ.m 9 = some (.row true 2 out_14.length (esProp out_14)) ∧ σ.m 12 = some (.box true [S x_0.Path, S x_0.Value])) → kk_0 .nm σ := by
        rintro σ ⟨b_28, h_0, g0_j0, g1_j0, g2_j0, g3_j0, g4_j0, g5_j0, g6_j0, g7_j0, g8_j0, g9_j0, g10_j0⟩
        rw [← hk_0]
        rw [p_spec_l26Lay_j0] at h_0
        have ff := ai @dr_0 (ai @w_0 (ai @kk0c (ai @g0_j0 (ai @g1_j0 (ai @g2_j0 (ai @g3_j0 (ai @g4_j0 (ai @g5_j0 (ai @g6_j0 (ai @g7_j0 (ai @g8_j0 (ai @g9_j0 (ai @g10_j0 p_spec_l26Lay_tf.down)))))))))))))
        try refine st_by ff ?_
        repeat' (first | exact trivial | refine And.intro sd ?_)
        try clear ff
        generalize hk_1 : thenK _ _ = kk_1
        have key_1 : ∀ σ, (∃ put_29 : Bool, ∃ out_30 : List GProp, (p_spec_l26Lay_j1 path_a1 x_0 i_0 (p_spec_l26Lay_l0 path_a1 value_a2 r_0) put_29 out_30 = some q_0) ∧ σ.t 1 = S path_a1 ∧ σ.t 2 = S value_a2 ∧ σ.t 9 = .sl 9 [] 0 out_30.length ∧ σ.t 10 = B put_29 ∧ σ.t 12 = .ptr 12 [] 0 ∧ σ.t 15 = .row false 2 l_a0.length (esProp l_a0) ∧ σ.t 16 = I (l_a0.length : Int) ∧ σ.t 17 = I (i_0 : Int) ∧ σ.m 9 = some (.row true 2 out_30.length (esProp out_30)) ∧ σ.m 12 = some (.box true [S x_0.Path, S x_0.Value])) → kk_1 .nm σ := by
          rintro σ ⟨put_29, out_30, h_0, g0_j1, g1_j1, g2_j1, g3_j1, g4_j1, g5_j1, g6_j1, g7_j1, g8_j1, g9_j1⟩
          rw [← hk_1]
          rw [p_spec_l26Lay_j1] at h_0
          by_cases c31 : x_0.Path = path_a1
          · rw [if_pos c31] at h_0
            have dc31 := decide_eq_true c31
            have ff := ai @dr_0 (ai @w_0 (ai @kk0c (ai @g0_j1 (ai @g1_j1 (ai @g2_j1 (ai @g3_j1 (ai @g4_j1 (ai @g5_j1 (ai @g6_j1 (ai @g7_j1 (ai @g8_j1 (ai @g9_j1 (ai @dc31 p_spec_l26Lay_tf.down)))))))))))))
            try refine st_by ff ?_
            repeat' (first | exact trivial | refine And.intro sd ?_)
            refine Back.intro (i_0 + 1, put_29, out_30) ?_ ?_
            · clear ff; rw [hM_0]; show l_a0.length - (i_0 + 1) < l_a0.length - i_0; omega
            rw [hI_0]
            refine ⟨⟨by clear ff; show i_0 + 1 ≤ l_a0.length; omega, by show p_spec_l26Lay_l0 path_a1 value_a2 (l_a0.drop (i_0 + 1)) (i_0 + 1) put_29 out_30 = some q_0; rw [hd_0]; exact h_0⟩, ?_⟩
            exact p_spec_l26Lay_pv ff trivial
          rw [if_neg c31] at h_0
          have dc31 := decide_eq_false c31
          by_cases c32 : out_30.length < 4294967296
          case neg => rw [if_neg c32] at h_0; cases h_0
          rw [if_pos c32] at h_0
          have a33a : esProp out_30 ++ [S x_0.Path, S x_0.Value] = esProp (out_30 ++ [x_0]) := by simp [esProp_app, esProp_cons, esProp_nil, eProp_eq, esProp_nil]
          have a33b : out_30.length + 1 = (out_30 ++ [x_0]).length := by simp
          have ff := ai @dr_0 (ai @w_0 (ai @kk0c (ai @g0_j1 (ai @g1_j1 (ai @g2_j1 (ai @g3_j1 (ai @g4_j1 (ai @g5_j1 (ai @g6_j1 (ai @g7_j1 (ai @g8_j1 (ai @g9_j1 (ai @dc31 (ai @a33a (ai @a33b p_spec_l26Lay_tf.down)))))))))))))))
          try refine st_by ff ?_
          repeat' (first | exact trivial | refine And.intro sd ?_)
          refine Back.intro (i_0 + 1, put_29, (out_30 ++ [x_0])) ?_ ?_
          · clear ff; rw [hM_0]; show l_a0.length - (i_0 + 1) < l_a0.length - i_0; omega
          rw [hI_0]
          refine ⟨⟨by clear ff; show i_0 + 1 ≤ l_a0.length; omega, by show p_spec_l26Lay_l0 path_a1 value_a2 (l_a0.drop (i_0 + 1)) (i_0 + 1) put_29 (out_30 ++ [x_0]) = some q_0; rw [hd_0]; exact h_0⟩, ?_⟩
          exact p_spec_l26Lay_pv ff trivial
        have hrt_1 := fun σ : ASt => congrFun (congrFun hk_1.symm AX.rt) σ
        have hex_1 := fun (i : Nat) (σ : ASt) => congrFun (congrFun hk_1.symm (AX.ex i)) σ
        by_cases c34 : b_28 = true
        case neg =>
         rw [if_neg c34] at h_0
         have dc34 := eq_false_of_ne_true c34
         have ff := ai @dr_0 (ai @w_0 (ai @kk0c (ai @g0_j0 (ai @g1_j0 (ai @g2_j0 (ai @g3_j0 (ai @g4_j0 (ai @g5_j0 (ai @g6_j0 (ai @g7_j0 (ai @g8_j0 (ai @g9_j0 (ai @g10_j0 (ai @hrt_1 (ai @hex_1 (ai @dc34 p_spec_l26Lay_tf.down))))))))))))))))
         try refine st_by ff ?_
         repeat' (first | exact trivial | refine And.intro sd ?_)
         refine key_1 _ ?_
         refine ⟨put_12, out_14, h_0, ?_⟩
         exact p_spec_l26Lay_pv ff trivial
        rw [if_pos c34] at h_0
        have dc34 := c34
        by_cases c35 : out_14.length < 4294967296
        case neg => rw [if_neg c35] at h_0; cases h_0
        rw [if_pos c35] at h_0
        have a36a : esProp out_14 ++ [S path_a1, S value_a2] = esProp (out_14 ++ [(⟨path_a1, value_a2⟩ : GProp)]) := by simp [esProp_app, esProp_cons, esProp_nil, eProp_eq, esProp_nil]
        have a36b : out_14.length + 1 = (out_14 ++ [(⟨path_a1, value_a2⟩ : GProp)]).length := by simp
        have ff := ai @dr_0 (ai @w_0 (ai @kk0c (ai @g0_j0 (ai @g1_j0 (ai @g2_j0 (ai @g3_j0 (ai @g4_j0 (ai @g5_j0 (ai @g6_j0 (ai @g7_j0 (ai @g8_j0 (ai @g9_j0 (ai @g10_j0 (ai @hrt_1 (ai @hex_1 (ai @dc34 (ai @a36a (ai @a36b p_spec_l26Lay_tf.down))))))))))))))))))
        try refine st_by ff ?_
        repeat' (first | exact trivial | refine And.intro sd ?_)
        refine key_1 _ ?_
        refine ⟨true, (out_14 ++ [(⟨path_a1, value_a2⟩ : GProp)]), h_0, ?_⟩
        exact p_spec_l26Lay_pv ff trivial
      have hrt_0 := fun σ : ASt => congrFun (congrFun hk_0.symm AX.rt) σ
      have hex_0 := fun (i : Nat) (σ : ASt) => congrFun (congrFun hk_0.symm (AX.ex i)) σ
      by_cases c37 : put_12 = true
      case neg =>
       rw [if_neg c37] at h_0
       have dc37 := eq_false_of_ne_true c37
       have ff := ai @dr_0 (ai @w_0 (ai @g0_0 (ai @g1_0 (ai @g2_0 (ai @g3_0 (ai @g4_0 (ai @g5_0 (ai @g6_0 (ai @g7_0 (ai @kk0c (ai @hrt_0 (ai @hex_0 (ai @dc37 p_spec_l26Lay_tf.down)))))))))))))
       try refine st_by ff ?_
       repeat' (first | exact trivial | refine And.intro sd ?_)
       refine key_0 _ ?_
       refine ⟨!(Op.bytesLess x_0.Path.toList path_a1.toList), h_0, ?_⟩
       exact p_spec_l26Lay_pv ff trivial
      rw [if_pos c37] at h_0
      have dc37 := c37
      have ff := ai @dr_0 (ai @w_0 (ai @g0_0 (ai @g1_0 (ai @g2_0 (ai @g3_0 (ai @g4_0 (ai @g5_0 (ai @g6_0 (ai @g7_0 (ai @kk0c (ai @hrt_0 (ai @hex_0 (ai @dc37 p_spec_l26Lay_tf.down)))))))))))))
      try refine st_by ff ?_
      repeat' (first | exact trivial | refine And.intro sd ?_)
      refine key_0 _ ?_
      refine ⟨false, h_0, ?_⟩
      exact p_spec_l26Lay_pv ff trivial
  · try clear ff
    rintro σ hg_0
    rw [hJ_0] at hg_0
    obtain ⟨put_12, out_14, hj_0, g0_0a, g1_0a, g2_0a, g3_0a, g4_0a⟩ := hg_0
    cases hj_0
    try dsimp only at h
    by_cases c38 : put_12 = true
    · rw [if_pos c38] at h
      have dc38 := c38
      have ff := ai @g0_0a (ai @g1_0a (ai @g2_0a (ai @g3_0a (ai @g4_0a (ai @dc38 p_spec_l26Lay_tf.down)))))
      try refine st_by ff ?_
      repeat' (first | exact trivial | refine And.intro sd ?_)
      cases h
      exact ret_q1 rfl (p_spec_l26Lay_rt ff trivial)
    rw [if_neg c38] at h
    have dc38 := eq_false_of_ne_true c38
    by_cases c39 : out_14.length < 4294967296
    case neg => rw [if_neg c39] at h; cases h
    rw [if_pos c39] at h
    have a40a : esProp out_14 ++ [S path_a1, S value_a2] = esProp (out_14 ++ [(⟨path_a1, value_a2⟩ : GProp)]) := by simp [esProp_app, esProp_cons, esProp_nil, eProp_eq, esProp_nil]
    have a40b : out_14.length + 1 = (out_14 ++ [(⟨path_a1, value_a2⟩ : GProp)]).length := by simp
    have ff := ai @g0_0a (ai @g1_0a (ai @g2_0a (ai @g3_0a (ai @g4_0a (ai @dc38 (ai @a40a (ai @a40b p_spec_l26Lay_tf.down)))))))
    try refine st_by ff ?_
    repeat' (first | exact trivial | refine And.intro sd ?_)
    cases h
    exact ret_q1 rfl (p_spec_l26Lay_rt ff trivial)
/-! spec.l26Props -/
def p_spec_l26Props_l0 : List GProp → Nat → (List GProp) → Option ((List GProp))
  | [], i_0, out_11 => some out_11
  | x_0 :: r_0, i_0, out_11 => ((p_spec_l26Lay out_11 x_0.Path x_0.Value true).bind fun v16 => p_spec_l26Props_l0 r_0 (i_0 + 1) v16)
def p_spec_l26Props_j0 (x2 : GPrefab) (out_4 : List GProp) : Option (List GProp) := (if x2.Props.length ≤ 9223372036854775807 then ((p_spec_l26Props_l0 x2.Props 0 out_4).bind fun q_0 => match q_0 with | out_11 => some out_11) else none)
theorem p_spec_l26Props_pv {F C A : Prop} (hF : F) (hC : C) (h : F → C → A := by intro hF hC; first | exact cl_by hF | (refine st_by hF ?_; (repeat' (first | exact trivial | apply And.intro)); all_goals (clear hF; first | rfl | (simp only [hC, List.length_append, List.length_cons, List.length_nil, List.append_nil, List.nil_append, List.cons_append, List.length_set, List.append_assoc, Nat.zero_add, List.length_replicate, esPrefab_app, esPrefab_cons, esPrefab_nil, ePrefab_eq, esPrefabo_app, esPrefabo_cons, esPrefabo_nil, ePrefabo_eq, esProp_app, esProp_cons, esProp_nil, eProp_eq]; done) | (simp [hC, List.length_append, List.length_cons, List.length_nil, List.append_nil, List.nil_append, List.cons_append, List.length_set, List.append_assoc, Nat.zero_add, List.length_replicate, esPrefab_app, esPrefab_cons, esPrefab_nil, ePrefab_eq, esPrefabo_app, esPrefabo_cons, esPrefabo_nil, ePrefabo_eq, esProp_app, esProp_cons, esProp_nil, eProp_eq]; done) | omega))) : A := h hF hC
theorem p_spec_l26Props_sa {F C A : Prop} (hF : F) (hC : C) (h : F → C → A := by intro hF hC; first | exact ca_by hF | (refine sa_by hF ?_; (repeat' (first | exact trivial | apply And.intro)); all_goals (clear hF; first | rfl | (simp only [hC, List.length_append, List.length_cons, List.length_nil, List.append_nil, List.nil_append, List.cons_append, List.length_set, List.append_assoc, Nat.zero_add, List.length_replicate, esPrefab_app, esPrefab_cons, esPrefab_nil, ePrefab_eq, esPrefabo_app, esPrefabo_cons, esPrefabo_nil, ePrefabo_eq, esProp_app, esProp_cons, esProp_nil, eProp_eq]; done) | (simp [hC, List.length_append, List.length_cons, List.length_nil, List.append_nil, List.nil_append, List.cons_append, List.length_set, List.append_assoc, Nat.zero_add, List.length_replicate, esPrefab_app, esPrefab_cons, esPrefab_nil, ePrefab_eq, esPrefabo_app, esPrefabo_cons, esPrefabo_nil, ePrefabo_eq, esProp_app, esProp_cons, esProp_nil, eProp_eq]; done) | omega))) : A := h hF hC
theorem p_spec_l26Props_rt {F C A : Prop} (hF : F) (hC : C) (h : F → C → A := by intro hF hC; first | (refine sr_by hF ?_; (repeat' (first | exact trivial | apply And.intro)); all_goals (clear hF; first | rfl | (simp only [hC, List.length_append, List.length_cons, List.length_nil, List.append_nil, List.nil_append, List.cons_append, List.length_set, List.append_assoc, Nat.zero_add, List.length_replicate, esPrefab_app, esPrefab_cons, esPrefab_nil, ePrefab_eq, esPrefabo_app, esPrefabo_cons, esPrefabo_nil, ePrefabo_eq, esProp_app, esProp_cons, esProp_nil, eProp_eq]; done) | (simp [hC, List.length_append, List.length_cons, List.length_nil, List.append_nil, List.nil_append, List.cons_append, List.length_set, List.append_assoc, Nat.zero_add, List.length_replicate, esPrefab_app, esPrefab_cons, esPrefab_nil, ePrefab_eq, esPrefabo_app, esPrefabo_cons, esPrefabo_nil, ePrefabo_eq, esProp_app, esProp_cons, esProp_nil, eProp_eq]; done) | omega)) | (first | rfl | (simp only [hC, List.length_append, List.length_cons, List.length_nil, List.append_nil, List.nil_append, List.cons_append, List.length_set, List.append_assoc, Nat.zero_add, List.length_replicate, esPrefab_app, esPrefab_cons, esPrefab_nil, ePrefab_eq, esPrefabo_app, esPrefabo_cons, esPrefabo_nil, ePrefabo_eq, esProp_app, esProp_cons, esProp_nil, eProp_eq]; done) | (simp [hC, List.length_append, List.length_cons, List.length_nil, List.append_nil, List.nil_append, List.cons_append, List.length_set, List.append_assoc, Nat.zero_add, List.length_replicate, esPrefab_app, esPrefab_cons, esPrefab_nil, ePrefab_eq, esPrefabo_app, esPrefabo_cons, esPrefabo_nil, ePrefabo_eq, esProp_app, esProp_cons, esProp_nil, eProp_eq]; done) | omega)) : A := h hF hC
def p_spec_l26Props_tf := PLift.up (ai @ePrefab_eq (ai @esPrefab_len (ai @esPrefab_nil (ai @esPrefab_leaf (ai @esPrefab_fit (ai @ePrefabo_eq (ai @esPrefabo_len (ai @esPrefabo_nil (ai @eProp_eq (ai @esProp_len (ai @esProp_nil (ai @esProp_leaf (ai @esProp_fit (ai @esPrefabo_share (ai @esPrefabo_pure (ai @esProp_share (ai @esProp_pure (ai @str_beq (ai @Ty.sl27 (ai @Ty.slz27 (ai @Ty.sl24 (ai @Ty.slz24 (ai @Ty.nz54 (ai @Ty.ldA54 (ai @Ty.sz54 (ai @Ty.szn54 (ai @Ty.nz9 (ai @Ty.ldA9 (ai @Ty.ldS9 (ai @Ty.sz9 (ai @Ty.szn9 (ai @Ty.nz24 (ai @Ty.ldA24 (ai @Ty.ldS24 (ai @Ty.sz24 (ai @Ty.szn24 (ai @Ty.nz59 (ai @Ty.ldA59 (ai @Ty.sz59 (ai @Ty.szn59 (ai @Ty.fo54_1 (ai @Ty.fk54_1 (ai @Ty.fs54_1 (ai @Ty.fn54_1 (ai @Ty.fo54_2 (ai @Ty.fk54_2 (ai @Ty.fs54_2 (ai @Ty.fn54_2 (ai @Ty.fo59_0 (ai @Ty.fk59_0 (ai @Ty.fs59_0 (ai @Ty.fn59_0 (ai @Ty.fo59_1 (ai @Ty.fk59_1 (ai @Ty.fs59_1 (ai @Ty.fn59_1 (ai @Ty.zv54 (ai @Ty.zv59 @trivial))))))))))))))))))))))))))))))))))))))))))))))))))))))))))
def p_spec_l26Props (N : Nat) (l_a0 : List GPrefab) (name_a1 : ByteArray) : Option (List GProp) := match N with
  | 0 => none
  | N + 1 => ((p_spec_l26Prefab l_a0 name_a1).bind fun v1 => ((idx l_a0 v1).bind fun x2 => (if x2.From = (⟨#[]⟩ : ByteArray) then p_spec_l26Props_j0 x2 ([] : List GProp) else ((p_spec_l26Props N l_a0 x2.From).bind fun v18 => p_spec_l26Props_j0 x2 v18))))
theorem p_spec_l26Props_does : ∀ (N : Nat) (l_a0 : List GPrefab) (name_a1 : ByteArray) (r : List GProp) (h : p_spec_l26Props N l_a0 name_a1 = some r), Does Tryd.prog 27 [.row false 3 l_a0.length (esPrefab l_a0), S name_a1] (.row true 2 r.length (esProp r)) := by
  intro N
  induction N with
  | zero => intro l_a0 name_a1 r h; rw [p_spec_l26Props] at h; cases h
  | succ N ih =>
    intro l_a0 name_a1 r h
    rw [p_spec_l26Props] at h
    refine Does.bnd (fun hb => ?_)
    have hb2 : l_a0.length ≤ 9223372036854775807 := by simpa [AV.fitNs, AV.fitN] using hb
    have hl0 := hb2
    refine Does.walk (nt := 37) Tryd.func27 rfl rfl (by simp) (by decide) rfl (fun G0 X w0 pv => ?_)
    obtain ⟨v1, ev1, h⟩ := Option.bind_eq_some_iff.1 h
    try dsimp only at h
    have ff := p_spec_l26Props_tf.down
    try refine st_by ff ?_
    repeat' (first | exact trivial | refine And.intro sd ?_)
    first
    | (refine cq_call (p_spec_l26Prefab_does l_a0 name_a1 v1 ev1) (hf_by ff) kr ⟨p_spec_l26Props_sa ff trivial, ?_⟩; clear ff)
    obtain ⟨x2, ex2, h⟩ := Option.bind_eq_some_iff.1 h
    try dsimp only at h
    have f3a := idx_lo ex2
    have f3b := idx_hi ex2
    have f3c : (esPrefab l_a0).drop (v1.toNat * 3) = ePrefab x2 ++ esPrefab (l_a0.drop (v1.toNat + 1)) := drop_enc (fun _ => rfl) (idx_get ex2)
    have ff := ai @f3c p_spec_l26Props_tf.down
    try refine st_by ff ?_
    repeat' (first | exact trivial | refine And.intro sd ?_)
    try clear ff
    generalize hk_0 : thenK _ _ = kk_0
    have key_0 : ∀ σ, (∃ out_4 : List GProp, (p_spec_l26Props_j0 x2 out_4 = some r) ∧ σ.t 5 = .ptr 5 [] 0 ∧ σ.t 6 = .sl 6 [] 0 out_4.length ∧ σ.m 5 = some (.box true [S x2.Name, S x2.From, .row false 2 x2.Props.length (esProp x2.Props)]) ∧ σ.m 6 = some (.row true 2 out_4.length (esProp out_4))) → kk_0 .nm σ := by
      rintro σ ⟨out_4, h, g0_j0, g1_j0, g2_j0, g3_j0⟩
      rw [← hk_0]
      rw [p_spec_l26Props_j0] at h
      by_cases c5 : x2.Props.length ≤ 9223372036854775807
      case neg => rw [if_neg c5] at h; cases h
      rw [if_pos c5] at h
      have hL_0 : x2.Props.length ≤ 9223372036854775807 := by first | assumption | omega
      obtain ⟨q_0, eq_0, h⟩ := Option.bind_eq_some_iff.1 h
      have ff := ai @f3c (ai @g0_j0 (ai @g1_j0 (ai @g2_j0 (ai @g3_j0 p_spec_l26Props_tf.down))))
      try refine st_by ff ?_
      repeat' (first | exact trivial | refine And.intro sd ?_)
      obtain ⟨I_0, hI_0⟩ : ∃ I_ : (Nat × (List GProp)) → ASt → Prop, I_ = (fun (a : Nat × (List GProp)) σ => match a with | (i_0, out_11) => (i_0 ≤ x2.Props.length ∧ p_spec_l26Props_l0 (x2.Props.drop i_0) i_0 out_11 = some q_0) ∧ σ.t 6 = .sl 6 [] 0 out_11.length ∧ σ.t 23 = .row false 2 x2.Props.length (esProp x2.Props) ∧ σ.t 24 = I (x2.Props.length : Int) ∧ σ.t 25 = I (i_0 : Int) ∧ σ.m 6 = some (.row true 2 out_11.length (esProp out_11))) := ⟨_, rfl⟩
      obtain ⟨M_0, hM_0⟩ : ∃ M_ : (Nat × (List GProp)) → Nat, M_ = (fun (a : Nat × (List GProp)) => match a with | (i_0, out_11) => x2.Props.length - i_0) := ⟨_, rfl⟩
      obtain ⟨J_0, hJ_0⟩ : ∃ J_ : ASt → Prop, J_ = (fun σ => ∃ out_11 : List GProp, (some out_11 = some q_0) ∧ σ.t 6 = .sl 6 [] 0 out_11.length ∧ σ.m 6 = some (.row true 2 out_11.length (esProp out_11))) := ⟨_, rfl⟩
      refine aw_loopC (id := 0) I_0 M_0 J_0 (0, out_4) ?_ ?_ ?_
      · rw [hI_0]
        refine ⟨⟨Nat.zero_le _, eq_0⟩, ?_⟩
        exact p_spec_l26Props_pv ff trivial
      · try clear ff
        rintro ⟨i_0, out_11⟩ σ hg_0
        rw [hI_0] at hg_0
        obtain ⟨⟨hi_0, h_0⟩, g0_0, g1_0, g2_0, g3_0, g4_0⟩ := hg_0
        cases hr_0 : x2.Props.drop i_0 with
        | nil =>
          rw [hr_0] at h_0
          rw [p_spec_l26Props_l0] at h_0
          have hn_0 := drop_nil hr_0
          have dr_0 : decide ((i_0 : Int) < (x2.Props.length : Int)) = false := decide_eq_false (by omega)
          have ff := ai @f3c (ai @dr_0 (ai @g0_0 (ai @g1_0 (ai @g2_0 (ai @g3_0 (ai @g4_0 p_spec_l26Props_tf.down))))))
          try refine st_by ff ?_
          repeat' (first | exact trivial | refine And.intro sd ?_)
          refine JW.intro ?_
          rw [hJ_0]
          refine ⟨out_11, h_0, ?_⟩
          exact p_spec_l26Props_pv ff trivial
        | cons x_0 r_0 =>
          rw [hr_0] at h_0
          rw [p_spec_l26Props_l0] at h_0
          obtain ⟨ht_0, hg_0, hd_0⟩ := drop_cons hr_0
          have dr_0 : decide ((i_0 : Int) < (x2.Props.length : Int)) = true := decide_eq_true (by omega)
          have w_0 : IntKind.i64.wrap ((i_0 : Int) + 1) = ((i_0 + 1 : Nat) : Int) := wI _ (by omega) (by omega)
          have kk0c : (esProp x2.Props).drop (i_0 * 2) = eProp x_0 ++ esProp (x2.Props.drop (i_0 + 1)) := drop_enc (fun _ => rfl) (hg_0)
          obtain ⟨v16, ev16, h_0⟩ := Option.bind_eq_some_iff.1 h_0
          try dsimp only at h_0
          have ff := ai @f3c (ai @dr_0 (ai @w_0 (ai @g0_0 (ai @g1_0 (ai @g2_0 (ai @g3_0 (ai @g4_0 (ai @kk0c p_spec_l26Props_tf.down))))))))
          try refine st_by ff ?_
          repeat' (first | exact trivial | refine And.intro sd ?_)
          first
          | (refine cq_lendOwn (p_spec_l26Lay_does out_11 x_0.Path x_0.Value true v16 ev16) (hf_by ff) kr ⟨p_spec_l26Props_sa ff trivial, ?_⟩; clear ff)
          have ff := ai @f3c (ai @dr_0 (ai @w_0 (ai @g0_0 (ai @g1_0 (ai @g2_0 (ai @g3_0 (ai @g4_0 (ai @kk0c p_spec_l26Props_tf.down))))))))
          try refine st_by ff ?_
          repeat' (first | exact trivial | refine And.intro sd ?_)
          refine Back.intro (i_0 + 1, v16) ?_ ?_
          · clear ff; rw [hM_0]; show x2.Props.length - (i_0 + 1) < x2.Props.length - i_0; omega
          rw [hI_0]
          refine ⟨⟨by clear ff; show i_0 + 1 ≤ x2.Props.length; omega, by show p_spec_l26Props_l0 (x2.Props.drop (i_0 + 1)) (i_0 + 1) v16 = some q_0; rw [hd_0]; exact h_0⟩, ?_⟩
          exact p_spec_l26Props_pv ff trivial
      · try clear ff
        rintro σ hg_0
        rw [hJ_0] at hg_0
        obtain ⟨out_11, hj_0, g0_0a, g1_0a⟩ := hg_0
        have hjj_0 := Option.some.inj hj_0
        subst hjj_0
        try dsimp only at h
        have ff := ai @f3c (ai @g0_0a (ai @g1_0a p_spec_l26Props_tf.down))
        try refine st_by ff ?_
        repeat' (first | exact trivial | refine And.intro sd ?_)
        cases h
        exact ret_q1 rfl (p_spec_l26Props_rt ff trivial)
    have hrt_0 := fun σ : ASt => congrFun (congrFun hk_0.symm AX.rt) σ
    have hex_0 := fun (i : Nat) (σ : ASt) => congrFun (congrFun hk_0.symm (AX.ex i)) σ
    by_cases c17 : x2.From = (⟨#[]⟩ : ByteArray)
    · rw [if_pos c17] at h
      have dc17 := decide_eq_true c17
      have ff := ai @f3c (ai @hrt_0 (ai @hex_0 (ai @dc17 p_spec_l26Props_tf.down)))
      try refine st_by ff ?_
      repeat' (first | exact trivial | refine And.intro sd ?_)
      refine key_0 _ ?_
      refine ⟨([] : List GProp), h, ?_⟩
      exact p_spec_l26Props_pv ff trivial
    rw [if_neg c17] at h
    have dc17 := decide_eq_false c17
    obtain ⟨v18, ev18, h⟩ := Option.bind_eq_some_iff.1 h
    try dsimp only at h
    have ff := ai @f3c (ai @hrt_0 (ai @hex_0 (ai @dc17 p_spec_l26Props_tf.down)))
    try refine st_by ff ?_
    repeat' (first | exact trivial | refine And.intro sd ?_)
    first
    | (refine cq_own (ih l_a0 x2.From v18 ev18) (hf_by ff) kr ⟨p_spec_l26Props_sa ff trivial, ?_⟩; clear ff)
    have ff := ai @f3c (ai @hrt_0 (ai @hex_0 (ai @dc17 p_spec_l26Props_tf.down)))
    try refine st_by ff ?_
    repeat' (first | exact trivial | refine And.intro sd ?_)
    refine key_0 _ ?_
    refine ⟨v18, h, ?_⟩
    exact p_spec_l26Props_pv ff trivial
/-! spec.PropsOf -/
def p_spec_PropsOf_j0 (N : Nat) (l_a0 : List GPrefab) (name_a1 : ByteArray) (b_2 : Bool) : Option (List GProp × Bool) := (if b_2 = true then some (([] : List GProp), false) else ((p_spec_l26Props N l_a0 name_a1).bind fun v4 => (if (v4.length : Int) > 40 then some (([] : List GProp), false) else some (v4, true))))
def p_spec_PropsOf_tf := PLift.up (ai @ePrefab_eq (ai @esPrefab_len (ai @esPrefab_nil (ai @esPrefab_leaf (ai @esPrefab_fit (ai @ePrefabo_eq (ai @esPrefabo_len (ai @esPrefabo_nil (ai @eProp_eq (ai @esProp_len (ai @esProp_nil (ai @esProp_leaf (ai @esProp_fit (ai @esPrefabo_share (ai @esPrefabo_pure (ai @esProp_share (ai @esProp_pure (ai @str_beq (ai @Ty.sl24 (ai @Ty.slz24 @trivial))))))))))))))))))))
def p_spec_PropsOf (N : Nat) (l_a0 : List GPrefab) (name_a1 : ByteArray) : Option (List GProp × Bool) := ((p_spec_GoodPrefabs N l_a0).bind fun v1 => (if v1 = true then ((p_spec_l26Prefab l_a0 name_a1).bind fun v7 => p_spec_PropsOf_j0 N l_a0 name_a1 (decide (v7 < 0))) else p_spec_PropsOf_j0 N l_a0 name_a1 true))
theorem p_spec_PropsOf_does (N : Nat) (l_a0 : List GPrefab) (name_a1 : ByteArray) (r : List GProp × Bool) (h : p_spec_PropsOf N l_a0 name_a1 = some r) : Does Tryd.prog 7 [.row false 3 l_a0.length (esPrefab l_a0), S name_a1] (.tup [.row true 2 r.1.length (esProp r.1), B r.2]) := by
  rw [p_spec_PropsOf] at h
  refine Does.bnd (fun hb => ?_)
  have hb2 : l_a0.length ≤ 9223372036854775807 := by simpa [AV.fitNs, AV.fitN] using hb
  have hl0 := hb2
  refine Does.walk (nt := 23) Tryd.func7 rfl rfl (by simp) (by decide) rfl (fun G0 X w0 pv => ?_)
  obtain ⟨v1, ev1, h⟩ := Option.bind_eq_some_iff.1 h
  try dsimp only at h
  have ff := p_spec_PropsOf_tf.down
  try refine st_by ff ?_
  repeat' (first | exact trivial | refine And.intro sd ?_)
  first
  | (refine cq_call (p_spec_GoodPrefabs_does N l_a0 v1 ev1) (hf_by ff) kr ⟨p_spec_l26Props_sa ff trivial, ?_⟩; clear ff)
  have ff := p_spec_PropsOf_tf.down
  try refine st_by ff ?_
  repeat' (first | exact trivial | refine And.intro sd ?_)
  try clear ff
  generalize hk_0 : thenK _ _ = kk_0
  have key_0 : ∀ σ, (∃ b_2 : Bool, (p_spec_PropsOf_j0 N l_a0 name_a1 b_2 = some r) ∧ σ.t 0 = .row false 3 l_a0.length (esPrefab l_a0) ∧ σ.t 1 = S name_a1 ∧ σ.t 15 = B b_2) → kk_0 .nm σ := by
    rintro σ ⟨b_2, h, g0_j0, g1_j0, g2_j0⟩
    rw [← hk_0]
    rw [p_spec_PropsOf_j0] at h
    by_cases c3 : b_2 = true
    · rw [if_pos c3] at h
      have dc3 := c3
      have ff := ai @g0_j0 (ai @g1_j0 (ai @g2_j0 (ai @dc3 p_spec_PropsOf_tf.down)))
      try refine st_by ff ?_
      repeat' (first | exact trivial | refine And.intro sd ?_)
      cases h
      exact ret_q2 rfl (p_spec_l26Props_rt ff trivial)
    rw [if_neg c3] at h
    have dc3 := eq_false_of_ne_true c3
    obtain ⟨v4, ev4, h⟩ := Option.bind_eq_some_iff.1 h
    try dsimp only at h
    have ff := ai @g0_j0 (ai @g1_j0 (ai @g2_j0 (ai @dc3 p_spec_PropsOf_tf.down)))
    try refine st_by ff ?_
    repeat' (first | exact trivial | refine And.intro sd ?_)
    first
    | (refine cq_own (p_spec_l26Props_does N l_a0 name_a1 v4 ev4) (hf_by ff) kr ⟨p_spec_l26Props_sa ff trivial, ?_⟩; clear ff)
    by_cases c5 : (v4.length : Int) > 40
    case neg =>
     rw [if_neg c5] at h
     have dc5 := decide_eq_false c5
     have ff := ai @g0_j0 (ai @g1_j0 (ai @g2_j0 (ai @dc3 (ai @dc5 p_spec_PropsOf_tf.down))))
     try refine st_by ff ?_
     repeat' (first | exact trivial | refine And.intro sd ?_)
     cases h
     exact ret_q2 rfl (p_spec_l26Props_rt ff trivial)
    rw [if_pos c5] at h
    have dc5 := decide_eq_true c5
    have ff := ai @g0_j0 (ai @g1_j0 (ai @g2_j0 (ai @dc3 (ai @dc5 p_spec_PropsOf_tf.down))))
    try refine st_by ff ?_
    repeat' (first | exact trivial | refine And.intro sd ?_)
    cases h
    exact ret_q2 rfl (p_spec_l26Props_rt ff trivial)
  have hrt_0 := fun σ : ASt => congrFun (congrFun hk_0.symm AX.rt) σ
  have hex_0 := fun (i : Nat) (σ : ASt) => congrFun (congrFun hk_0.symm (AX.ex i)) σ
  by_cases c6 : v1 = true
  case neg =>
   rw [if_neg c6] at h
   have dc6 := eq_false_of_ne_true c6
   have ff := ai @hrt_0 (ai @hex_0 (ai @dc6 p_spec_PropsOf_tf.down))
   try refine st_by ff ?_
   repeat' (first | exact trivial | refine And.intro sd ?_)
   refine key_0 _ ?_
   refine ⟨true, h, ?_⟩
   exact p_spec_l26Props_pv ff trivial
  rw [if_pos c6] at h
  have dc6 := c6
  obtain ⟨v7, ev7, h⟩ := Option.bind_eq_some_iff.1 h
  try dsimp only at h
  have ff := ai @hrt_0 (ai @hex_0 (ai @dc6 p_spec_PropsOf_tf.down))
  try refine st_by ff ?_
  repeat' (first | exact trivial | refine And.intro sd ?_)
  first
  | (refine cq_call (p_spec_l26Prefab_does l_a0 name_a1 v7 ev7) (hf_by ff) kr ⟨p_spec_l26Props_sa ff trivial, ?_⟩; clear ff)
  have ff := ai @hrt_0 (ai @hex_0 (ai @dc6 p_spec_PropsOf_tf.down))
  try refine st_by ff ?_
  repeat' (first | exact trivial | refine And.intro sd ?_)
  refine key_0 _ ?_
  refine ⟨decide (v7 < 0), h, ?_⟩
  exact p_spec_l26Props_pv ff trivial
/-! slices.Clone[[]impl.Prop,impl.Prop] -/
def p_slices_Clone_impl_Prop_impl_Prop_tf := PLift.up (ai @eProp_eq (ai @esProp_len (ai @esProp_nil (ai @esProp_leaf (ai @esProp_fit (ai @esProp_share (ai @esProp_pure (ai @Ty.nze24 (ai @Ty.sl24 (ai @Ty.slz24 (ai @Ty.zok24 (ai @Ty.by24 (ai @Ty.zs24 @trivial)))))))))))))
def p_slices_Clone_impl_Prop_impl_Prop (l : List GProp) : Option (List GProp) := if l.length < 4294967296 then some l else none
theorem p_slices_Clone_impl_Prop_impl_Prop_does (l : List GProp) (r : List GProp) (h : p_slices_Clone_impl_Prop_impl_Prop l = some r) : Does Tryd.prog 54 [.row false 2 l.length (esProp l)] (.row true 2 r.length (esProp r)) := by
  rw [p_slices_Clone_impl_Prop_impl_Prop] at h
  by_cases c : l.length < 4294967296
  case neg => rw [if_neg c] at h; cases h
  rw [if_pos c] at h
  cases h
  refine Does.walk (nt := 8) Tryd.func54 rfl rfl (by simp) (by decide) rfl (fun G0 X w0 pv => ?_)
  refine st_by p_slices_Clone_impl_Prop_impl_Prop_tf.down ?_
  refine fun b hb => ?_
  cases b
  · have ff := p_slices_Clone_impl_Prop_impl_Prop_tf.down
    try refine st_by ff ?_
    repeat' (first | exact trivial | refine And.intro sd ?_)
    clear ff
    exact ret_q1 rfl (p_spec_l26Lay_rt p_slices_Clone_impl_Prop_impl_Prop_tf.down trivial)
  · have h0 : l = [] := List.eq_nil_of_length_eq_zero (by rcases Nat.eq_zero_or_pos l.length with h | h; exact h; exact absurd (hb h) (by decide))
    subst h0
    have ff := p_slices_Clone_impl_Prop_impl_Prop_tf.down
    try refine st_by ff ?_
    repeat' (first | exact trivial | refine And.intro sd ?_)
    clear ff
    exact ret_q1 rfl (p_spec_l26Lay_rt p_slices_Clone_impl_Prop_impl_Prop_tf.down trivial)
/-! slices.BinarySearchFunc[[]impl.Prop,impl.Prop,string] -/
def p_slices_BinarySearchFunc_impl_Prop_impl_Prop_string_l0 (x_a0 : List GProp) (target_a1 : ByteArray) (cmp_a2 : GProp → ByteArray → Option Int) : Nat → Int → Int → Option (Int × Int)
  | 0, _, _ => none
  | n_0 + 1, i_6, j_7 => (if i_6 < j_7 then ((idx x_a0 (IntKind.i64.wrap (Int.fdiv (IntKind.u64.wrap (IntKind.i64.wrap (i_6 + j_7))) (2 ^ (min (1 : Int).toNat IntKind.u64.bits))))).bind fun x14 => ((cmp_a2 x14 target_a1).bind fun v16 => (if v16 < 0 then p_slices_BinarySearchFunc_impl_Prop_impl_Prop_string_l0 x_a0 target_a1 cmp_a2 n_0 (IntKind.i64.wrap ((IntKind.i64.wrap (Int.fdiv (IntKind.u64.wrap (IntKind.i64.wrap (i_6 + j_7))) (2 ^ (min (1 : Int).toNat IntKind.u64.bits)))) + 1)) j_7 else p_slices_BinarySearchFunc_impl_Prop_impl_Prop_string_l0 x_a0 target_a1 cmp_a2 n_0 i_6 (IntKind.i64.wrap (Int.fdiv (IntKind.u64.wrap (IntKind.i64.wrap (i_6 + j_7))) (2 ^ (min (1 : Int).toNat IntKind.u64.bits))))))) else some (i_6, j_7))
theorem p_slices_BinarySearchFunc_impl_Prop_impl_Prop_string_sa {F C A : Prop} (hF : F) (hC : C) (h : F → C → A := by intro hF hC; first | exact ca_by hF | (refine sa_by hF ?_; (repeat' (first | exact trivial | apply And.intro)); all_goals (clear hF; first | rfl | (simp only [hC, List.length_append, List.length_cons, List.length_nil, List.append_nil, List.nil_append, List.cons_append, List.length_set, List.append_assoc, Nat.zero_add, List.length_replicate, esProp_app, esProp_cons, esProp_nil, eProp_eq]; done) | (simp [hC, List.length_append, List.length_cons, List.length_nil, List.append_nil, List.nil_append, List.cons_append, List.length_set, List.append_assoc, Nat.zero_add, List.length_replicate, esProp_app, esProp_cons, esProp_nil, eProp_eq]; done) | omega))) : A := h hF hC
def p_slices_BinarySearchFunc_impl_Prop_impl_Prop_string_tf := PLift.up (ai @eProp_eq (ai @esProp_len (ai @esProp_nil (ai @esProp_leaf (ai @esProp_fit (ai @esProp_share (ai @esProp_pure (ai @str_beq (ai @Ty.sl24 (ai @Ty.slz24 (ai @Ty.nz59 (ai @Ty.ldA59 (ai @Ty.sz59 (ai @Ty.szn59 (ai @Ty.int3 (ai @Ty.int90 @trivial))))))))))))))))
def p_slices_BinarySearchFunc_impl_Prop_impl_Prop_string (N : Nat) (x_a0 : List GProp) (target_a1 : ByteArray) (cmp_a2 : GProp → ByteArray → Option Int) : Option (Int × Bool) := ((p_slices_BinarySearchFunc_impl_Prop_impl_Prop_string_l0 x_a0 target_a1 cmp_a2 N 0 (x_a0.length : Int)).bind fun q_0 => match q_0 with | (i_6, j_7) => (if i_6 < (x_a0.length : Int) then ((idx x_a0 i_6).bind fun x19 => ((cmp_a2 x19 target_a1).bind fun v21 => some (i_6, (v21 == 0)))) else some (i_6, false)))
theorem p_slices_BinarySearchFunc_impl_Prop_impl_Prop_string_does (N : Nat) (x_a0 : List GProp) (target_a1 : ByteArray) (f2 : FuncId) (caps2 : List AV) (hc2 : AV.noRefs caps2 = true) (he2 : entB Tryd.prog f2 = true) (cmp_a2 : GProp → ByteArray → Option Int) (hp2 : ∀ (x0_ : GProp) (x1_ : ByteArray) (y_ : Int), cmp_a2 x0_ x1_ = some y_ → Does Tryd.prog f2 ([.agg (eProp x0_), S x1_] ++ caps2) (I y_)) (r : Int × Bool) (h : p_slices_BinarySearchFunc_impl_Prop_impl_Prop_string N x_a0 target_a1 cmp_a2 = some r) : Does Tryd.prog 76 [.row false 2 x_a0.length (esProp x_a0), S target_a1, .fn f2 caps2] (.tup [I r.1, B r.2]) := by
  rw [p_slices_BinarySearchFunc_impl_Prop_impl_Prop_string] at h
  refine Does.bnd (fun hb => ?_)
  have hb2 : x_a0.length ≤ 9223372036854775807 := by simpa [AV.fitNs, AV.fitN] using hb
  have hl0 := hb2
  refine Does.walk (nt := 49) Tryd.func76 rfl rfl (by simp) (by decide) (by simp [AV.noRefs, AV.noRef, hc2]) (fun G0 X w0 pv => ?_)
  obtain ⟨q_0, eq_0, h⟩ := Option.bind_eq_some_iff.1 h
  have ff := ai @hc2 p_slices_BinarySearchFunc_impl_Prop_impl_Prop_string_tf.down
  try refine st_by ff ?_
  repeat' (first | exact trivial | refine And.intro sd ?_)
  obtain ⟨I_0, hI_0⟩ : ∃ I_ : (Nat × Int × Int) → ASt → Prop, I_ = (fun (a : Nat × Int × Int) σ => match a with | (n_0, i_6, j_7) => (p_slices_BinarySearchFunc_impl_Prop_impl_Prop_string_l0 x_a0 target_a1 cmp_a2 n_0 i_6 j_7 = some q_0) ∧ σ.t 0 = .row false 2 x_a0.length (esProp x_a0) ∧ σ.t 1 = S target_a1 ∧ σ.t 2 = .fn f2 caps2 ∧ σ.t 8 = I (x_a0.length : Int) ∧ σ.t 9 = I i_6 ∧ σ.t 10 = I j_7) := ⟨_, rfl⟩
  obtain ⟨M_0, hM_0⟩ : ∃ M_ : (Nat × Int × Int) → Nat, M_ = (fun (a : Nat × Int × Int) => match a with | (n_0, i_6, j_7) => n_0) := ⟨_, rfl⟩
  obtain ⟨J_0, hJ_0⟩ : ∃ J_ : ASt → Prop, J_ = (fun σ => ∃ i_6 : Int, ∃ j_7 : Int, (some (i_6, j_7) = some q_0) ∧ σ.t 0 = .row false 2 x_a0.length (esProp x_a0) ∧ σ.t 1 = S target_a1 ∧ σ.t 2 = .fn f2 caps2 ∧ σ.t 8 = I (x_a0.length : Int) ∧ σ.t 9 = I i_6) := ⟨_, rfl⟩
  refine aw_loopC (id := 0) I_0 M_0 J_0 (N, 0, (x_a0.length : Int)) ?_ ?_ ?_
  · rw [hI_0]
    refine ⟨eq_0, ?_⟩
    exact p_spec_l26Lay_pv ff trivial
  · try clear ff
    rintro ⟨n_0, i_6, j_7⟩ σ hg_0
    rw [hI_0] at hg_0
    obtain ⟨h_0, g0_0, g1_0, g2_0, g3_0, g4_0, g5_0⟩ := hg_0
    cases n_0 with
    | zero => rw [p_slices_BinarySearchFunc_impl_Prop_impl_Prop_string_l0] at h_0; cases h_0
    | succ n_0 =>
      rw [p_slices_BinarySearchFunc_impl_Prop_impl_Prop_string_l0] at h_0
      by_cases c13 : i_6 < j_7
      case neg =>
       rw [if_neg c13] at h_0
       have dc13 := decide_eq_false c13
       have ff := ai @hc2 (ai @g0_0 (ai @g1_0 (ai @g2_0 (ai @g3_0 (ai @g4_0 (ai @g5_0 (ai @dc13 p_slices_BinarySearchFunc_impl_Prop_impl_Prop_string_tf.down)))))))
       try refine st_by ff ?_
       repeat' (first | exact trivial | refine And.intro sd ?_)
       refine JW.intro ?_
       rw [hJ_0]
       refine ⟨i_6, j_7, h_0, ?_⟩
       exact p_spec_l26Lay_pv ff trivial
      rw [if_pos c13] at h_0
      have dc13 := decide_eq_true c13
      obtain ⟨x14, ex14, h_0⟩ := Option.bind_eq_some_iff.1 h_0
      try dsimp only at h_0
      have f15a := idx_lo ex14
      have f15b := idx_hi ex14
      have f15c : (esProp x_a0).drop (((IntKind.i64.wrap (Int.fdiv (IntKind.u64.wrap (IntKind.i64.wrap (i_6 + j_7))) (2 ^ (min (1 : Int).toNat IntKind.u64.bits)))).toNat) * 2) = eProp x14 ++ esProp (x_a0.drop ((IntKind.i64.wrap (Int.fdiv (IntKind.u64.wrap (IntKind.i64.wrap (i_6 + j_7))) (2 ^ (min (1 : Int).toNat IntKind.u64.bits)))).toNat + 1)) := drop_enc (fun _ => rfl) (idx_get ex14)
      obtain ⟨v16, ev16, h_0⟩ := Option.bind_eq_some_iff.1 h_0
      try dsimp only at h_0
      have ff := ai @hc2 (ai @g0_0 (ai @g1_0 (ai @g2_0 (ai @g3_0 (ai @g4_0 (ai @g5_0 (ai @dc13 (ai @f15c p_slices_BinarySearchFunc_impl_Prop_impl_Prop_string_tf.down))))))))
      try refine st_by ff ?_
      repeat' (first | exact trivial | refine And.intro sd ?_)
      first
      | (refine cq_call (hp2 x14 target_a1 v16 ev16) (hf_by ff) he2 ⟨p_slices_BinarySearchFunc_impl_Prop_impl_Prop_string_sa ff trivial, ?_⟩; clear ff)
      by_cases c17 : v16 < 0
      case neg =>
       rw [if_neg c17] at h_0
       have dc17 := decide_eq_false c17
       have ff := ai @hc2 (ai @g0_0 (ai @g1_0 (ai @g2_0 (ai @g3_0 (ai @g4_0 (ai @g5_0 (ai @dc13 (ai @f15c (ai @dc17 p_slices_BinarySearchFunc_impl_Prop_impl_Prop_string_tf.down)))))))))
       try refine st_by ff ?_
       repeat' (first | exact trivial | refine And.intro sd ?_)
       refine Back.intro (n_0, i_6, (IntKind.i64.wrap (Int.fdiv (IntKind.u64.wrap (IntKind.i64.wrap (i_6 + j_7))) (2 ^ (min (1 : Int).toNat IntKind.u64.bits))))) ?_ ?_
       · rw [hM_0]; exact Nat.lt_succ_self _
       rw [hI_0]
       refine ⟨h_0, ?_⟩
       exact p_spec_l26Lay_pv ff trivial
      rw [if_pos c17] at h_0
      have dc17 := decide_eq_true c17
      have ff := ai @hc2 (ai @g0_0 (ai @g1_0 (ai @g2_0 (ai @g3_0 (ai @g4_0 (ai @g5_0 (ai @dc13 (ai @f15c (ai @dc17 p_slices_BinarySearchFunc_impl_Prop_impl_Prop_string_tf.down)))))))))
      try refine st_by ff ?_
      repeat' (first | exact trivial | refine And.intro sd ?_)
      refine Back.intro (n_0, (IntKind.i64.wrap ((IntKind.i64.wrap (Int.fdiv (IntKind.u64.wrap (IntKind.i64.wrap (i_6 + j_7))) (2 ^ (min (1 : Int).toNat IntKind.u64.bits)))) + 1)), j_7) ?_ ?_
      · rw [hM_0]; exact Nat.lt_succ_self _
      rw [hI_0]
      refine ⟨h_0, ?_⟩
      exact p_spec_l26Lay_pv ff trivial
  · try clear ff
    rintro σ hg_0
    rw [hJ_0] at hg_0
    obtain ⟨i_6, j_7, hj_0, g0_0a, g1_0a, g2_0a, g3_0a, g4_0a⟩ := hg_0
    cases hj_0
    try dsimp only at h
    by_cases c18 : i_6 < (x_a0.length : Int)
    case neg =>
     rw [if_neg c18] at h
     have dc18 := decide_eq_false c18
     have ff := ai @hc2 (ai @g0_0a (ai @g1_0a (ai @g2_0a (ai @g3_0a (ai @g4_0a (ai @dc18 p_slices_BinarySearchFunc_impl_Prop_impl_Prop_string_tf.down))))))
     try refine st_by ff ?_
     repeat' (first | exact trivial | refine And.intro sd ?_)
     cases h
     exact ret_q2 rfl (p_spec_l26Lay_rt ff trivial)
    rw [if_pos c18] at h
    have dc18 := decide_eq_true c18
    obtain ⟨x19, ex19, h⟩ := Option.bind_eq_some_iff.1 h
    try dsimp only at h
    have f20a := idx_lo ex19
    have f20b := idx_hi ex19
    have f20c : (esProp x_a0).drop (i_6.toNat * 2) = eProp x19 ++ esProp (x_a0.drop (i_6.toNat + 1)) := drop_enc (fun _ => rfl) (idx_get ex19)
    obtain ⟨v21, ev21, h⟩ := Option.bind_eq_some_iff.1 h
    try dsimp only at h
    have ff := ai @hc2 (ai @g0_0a (ai @g1_0a (ai @g2_0a (ai @g3_0a (ai @g4_0a (ai @dc18 (ai @f20c p_slices_BinarySearchFunc_impl_Prop_impl_Prop_string_tf.down)))))))
    try refine st_by ff ?_
    repeat' (first | exact trivial | refine And.intro sd ?_)
    first
    | (refine cq_call (hp2 x19 target_a1 v21 ev21) (hf_by ff) he2 ⟨p_slices_BinarySearchFunc_impl_Prop_impl_Prop_string_sa ff trivial, ?_⟩; clear ff)
    have ff := ai @hc2 (ai @g0_0a (ai @g1_0a (ai @g2_0a (ai @g3_0a (ai @g4_0a (ai @dc18 (ai @f20c p_slices_BinarySearchFunc_impl_Prop_impl_Prop_string_tf.down)))))))
    try refine st_by ff ?_
    repeat' (first | exact trivial | refine And.intro sd ?_)
    cases h
    exact ret_q2 rfl (p_spec_l26Lay_rt ff trivial)
/-! internal/bytealg.CompareString -/
theorem p_internal_bytealg_CompareString_sa {F C A : Prop} (hF : F) (hC : C) (h : F → C → A := by intro hF hC; first | exact ca_by hF | (refine sa_by hF ?_; (repeat' (first | exact trivial | apply And.intro)); all_goals (clear hF; first | rfl | (simp only [hC, List.length_append, List.length_cons, List.length_nil, List.append_nil, List.nil_append, List.cons_append, List.length_set, List.append_assoc, Nat.zero_add, List.length_replicate]; done) | (simp [hC, List.length_append, List.length_cons, List.length_nil, List.append_nil, List.nil_append, List.cons_append, List.length_set, List.append_assoc, Nat.zero_add, List.length_replicate]; done) | omega))) : A := h hF hC
theorem p_internal_bytealg_CompareString_rt {F C A : Prop} (hF : F) (hC : C) (h : F → C → A := by intro hF hC; first | (refine sr_by hF ?_; (repeat' (first | exact trivial | apply And.intro)); all_goals (clear hF; first | rfl | (simp only [hC, List.length_append, List.length_cons, List.length_nil, List.append_nil, List.nil_append, List.cons_append, List.length_set, List.append_assoc, Nat.zero_add, List.length_replicate]; done) | (simp [hC, List.length_append, List.length_cons, List.length_nil, List.append_nil, List.nil_append, List.cons_append, List.length_set, List.append_assoc, Nat.zero_add, List.length_replicate]; done) | omega)) | (first | rfl | (simp only [hC, List.length_append, List.length_cons, List.length_nil, List.append_nil, List.nil_append, List.cons_append, List.length_set, List.append_assoc, Nat.zero_add, List.length_replicate]; done) | (simp [hC, List.length_append, List.length_cons, List.length_nil, List.append_nil, List.nil_append, List.cons_append, List.length_set, List.append_assoc, Nat.zero_add, List.length_replicate]; done) | omega)) : A := h hF hC
def p_internal_bytealg_CompareString_tf := PLift.up (ai @str_beq @trivial)
def p_internal_bytealg_CompareString (a_a0 : ByteArray) (b_a1 : ByteArray) : Option (Int) := some (cmpB a_a0 b_a1)
theorem p_internal_bytealg_CompareString_does (a_a0 : ByteArray) (b_a1 : ByteArray) (r : Int) (h : p_internal_bytealg_CompareString a_a0 b_a1 = some r) : Does Tryd.prog 94 [S a_a0, S b_a1] (I r) := by
  rw [p_internal_bytealg_CompareString] at h
  refine Does.walk (nt := 8) Tryd.func94 rfl rfl (by simp) (by decide) rfl (fun G0 X w0 pv => ?_)
  have ff := p_internal_bytealg_CompareString_tf.down
  try refine st_by ff ?_
  repeat' (first | exact trivial | refine And.intro sd ?_)
  (refine cq_ext (ext_cmp Tryd.func105 (by kernel_rfl) (by kernel_rfl) (by kernel_rfl) (by kernel_rfl) a_a0 b_a1) ⟨p_internal_bytealg_CompareString_sa ff trivial, ?_⟩; clear ff)
  have ff := p_internal_bytealg_CompareString_tf.down
  try refine st_by ff ?_
  repeat' (first | exact trivial | refine And.intro sd ?_)
  cases h
  exact ret_q1 rfl (p_internal_bytealg_CompareString_rt ff trivial)
/-! strings.Compare -/
def p_strings_Compare_tf := PLift.up (ai @str_beq @trivial)
def p_strings_Compare (a_a0 : ByteArray) (b_a1 : ByteArray) : Option (Int) := ((p_internal_bytealg_CompareString a_a0 b_a1).bind fun v1 => some v1)
theorem p_strings_Compare_does (a_a0 : ByteArray) (b_a1 : ByteArray) (r : Int) (h : p_strings_Compare a_a0 b_a1 = some r) : Does Tryd.prog 78 [S a_a0, S b_a1] (I r) := by
  rw [p_strings_Compare] at h
  refine Does.walk (nt := 8) Tryd.func78 rfl rfl (by simp) (by decide) rfl (fun G0 X w0 pv => ?_)
  obtain ⟨v1, ev1, h⟩ := Option.bind_eq_some_iff.1 h
  try dsimp only at h
  have ff := p_strings_Compare_tf.down
  try refine st_by ff ?_
  repeat' (first | exact trivial | refine And.intro sd ?_)
  first
  | (refine cq_call (p_internal_bytealg_CompareString_does a_a0 b_a1 v1 ev1) (hf_by ff) kr ⟨p_internal_bytealg_CompareString_sa ff trivial, ?_⟩; clear ff)
  have ff := p_strings_Compare_tf.down
  try refine st_by ff ?_
  repeat' (first | exact trivial | refine And.intro sd ?_)
  cases h
  exact ret_q1 rfl (p_internal_bytealg_CompareString_rt ff trivial)
/-! impl.propPlace$1 -/
def p_impl_propPlace_1_tf := PLift.up (ai @eProp_eq (ai @esProp_len (ai @esProp_nil (ai @esProp_leaf (ai @esProp_fit (ai @esProp_share (ai @esProp_pure (ai @str_beq (ai @Ty.nz9 (ai @Ty.ldA9 (ai @Ty.ldS9 (ai @Ty.sz9 (ai @Ty.szn9 (ai @Ty.fo59_0 (ai @Ty.fk59_0 (ai @Ty.fs59_0 (ai @Ty.fn59_0 @trivial)))))))))))))))))
def p_impl_propPlace_1 (p_a0 : GProp) (path_a1 : ByteArray) : Option (Int) := ((p_strings_Compare p_a0.Path path_a1).bind fun v1 => some v1)
theorem p_impl_propPlace_1_does (p_a0 : GProp) (path_a1 : ByteArray) (r : Int) (h : p_impl_propPlace_1 p_a0 path_a1 = some r) : Does Tryd.prog 77 [.agg (eProp p_a0), S path_a1] (I r) := by
  rw [p_impl_propPlace_1] at h
  refine Does.walk (nt := 9) Tryd.func77 rfl rfl (by simp) (by decide) rfl (fun G0 X w0 pv => ?_)
  obtain ⟨v1, ev1, h⟩ := Option.bind_eq_some_iff.1 h
  try dsimp only at h
  have ff := p_impl_propPlace_1_tf.down
  try refine st_by ff ?_
  repeat' (first | exact trivial | refine And.intro sd ?_)
  first
  | (refine cq_call (p_strings_Compare_does p_a0.Path path_a1 v1 ev1) (hf_by ff) kr ⟨p_slices_BinarySearchFunc_impl_Prop_impl_Prop_string_sa ff trivial, ?_⟩; clear ff)
  have ff := p_impl_propPlace_1_tf.down
  try refine st_by ff ?_
  repeat' (first | exact trivial | refine And.intro sd ?_)
  cases h
  exact ret_q1 rfl (p_spec_l26Lay_rt ff trivial)
/-! impl.propPlace -/
def p_impl_propPlace_tf := PLift.up (ai @eProp_eq (ai @esProp_len (ai @esProp_nil (ai @esProp_leaf (ai @esProp_fit (ai @esProp_share (ai @esProp_pure (ai @str_beq @trivial))))))))
def p_impl_propPlace (N : Nat) (l_a0 : List GProp) (path_a1 : ByteArray) : Option (Int × Bool) := ((p_slices_BinarySearchFunc_impl_Prop_impl_Prop_string N l_a0 path_a1 (fun x0_ x1_ => p_impl_propPlace_1 x0_ x1_)).bind fun v1 => some (v1.1, v1.2))
theorem p_impl_propPlace_does (N : Nat) (l_a0 : List GProp) (path_a1 : ByteArray) (r : Int × Bool) (h : p_impl_propPlace N l_a0 path_a1 = some r) : Does Tryd.prog 60 [.row false 2 l_a0.length (esProp l_a0), S path_a1] (.tup [I r.1, B r.2]) := by
  rw [p_impl_propPlace] at h
  refine Does.bnd (fun hb => ?_)
  have hb2 : l_a0.length ≤ 9223372036854775807 := by simpa [AV.fitNs, AV.fitN] using hb
  have hl0 := hb2
  refine Does.walk (nt := 11) Tryd.func60 rfl rfl (by simp) (by decide) rfl (fun G0 X w0 pv => ?_)
  obtain ⟨v1, ev1, h⟩ := Option.bind_eq_some_iff.1 h
  try dsimp only at h
  have ff := p_impl_propPlace_tf.down
  try refine st_by ff ?_
  repeat' (first | exact trivial | refine And.intro sd ?_)
  first
  | (refine cq_call (p_slices_BinarySearchFunc_impl_Prop_impl_Prop_string_does N l_a0 path_a1 77 [] (by simp [AV.noRefs, AV.noRef]) kr (fun x0_ x1_ => p_impl_propPlace_1 x0_ x1_) (fun x0_ x1_ y_ h_ => p_impl_propPlace_1_does x0_ x1_ y_ h_) v1 ev1) (hf_by ff) kr ⟨p_slices_BinarySearchFunc_impl_Prop_impl_Prop_string_sa ff trivial, ?_⟩; clear ff)
  have ff := p_impl_propPlace_tf.down
  try refine st_by ff ?_
  repeat' (first | exact trivial | refine And.intro sd ?_)
  cases h
  exact ret_q2 rfl (p_spec_l26Lay_rt ff trivial)
/-! impl.laid -/
def p_impl_laid_j0 (path_a1 : ByteArray) (value_a2 : ByteArray) (has_a3 : Bool) (v1 : List GProp) (v2 : Int × Bool) (b_3 : Bool) : Option (List GProp) := (if b_3 = true then ((idx v1 v2.1).bind fun x5 => some (v1.set v2.1.toNat (⟨x5.Path, value_a2⟩ : GProp))) else (if v2.2 = true then ((delL v1 v2.1 (IntKind.i64.wrap (v2.1 + 1))).bind fun v9 => some v9) else (if has_a3 = true then ((insL v1 v2.1 ([(⟨path_a1, value_a2⟩ : GProp)] : List GProp)).bind fun v11 => some v11) else some v1)))
def p_impl_laid_tf := PLift.up (ai @eProp_eq (ai @esProp_len (ai @esProp_nil (ai @esProp_leaf (ai @esProp_fit (ai @esProp_share (ai @esProp_pure (ai @str_beq (ai @Ty.sl24 (ai @Ty.slz24 (ai @Ty.nz9 (ai @Ty.ldA9 (ai @Ty.ldS9 (ai @Ty.sz9 (ai @Ty.szn9 (ai @Ty.fo59_1 (ai @Ty.fk59_1 (ai @Ty.fs59_1 (ai @Ty.fn59_1 (ai @Ty.nze24 (ai @Ty.zok24 (ai @Ty.by24 (ai @Ty.zs24 (ai @Ty.bd59 (ai @Ty.zv59 (ai @Ty.pl59_0 (ai @Ty.pl59_1 @trivial)))))))))))))))))))))))))))
def p_impl_laid (N : Nat) (l_a0 : List GProp) (path_a1 : ByteArray) (value_a2 : ByteArray) (has_a3 : Bool) : Option (List GProp) := ((p_slices_Clone_impl_Prop_impl_Prop l_a0).bind fun v1 => ((p_impl_propPlace N l_a0 path_a1).bind fun v2 => (if v2.2 = true then p_impl_laid_j0 path_a1 value_a2 has_a3 v1 v2 has_a3 else p_impl_laid_j0 path_a1 value_a2 has_a3 v1 v2 false)))
theorem p_impl_laid_does (N : Nat) (l_a0 : List GProp) (path_a1 : ByteArray) (value_a2 : ByteArray) (has_a3 : Bool) (r : List GProp) (h : p_impl_laid N l_a0 path_a1 value_a2 has_a3 = some r) : Does Tryd.prog 55 [.row false 2 l_a0.length (esProp l_a0), S path_a1, S value_a2, B has_a3] (.row true 2 r.length (esProp r)) := by
  rw [p_impl_laid] at h
  refine Does.bnd (fun hb => ?_)
  have hb2 : l_a0.length ≤ 9223372036854775807 := by simpa [AV.fitNs, AV.fitN] using hb
  have hl0 := hb2
  refine Does.walk (nt := 47) Tryd.func55 rfl rfl (by simp) (by decide) rfl (fun G0 X w0 pv => ?_)
  obtain ⟨v1, ev1, h⟩ := Option.bind_eq_some_iff.1 h
  try dsimp only at h
  have ff := p_impl_laid_tf.down
  try refine st_by ff ?_
  repeat' (first | exact trivial | refine And.intro sd ?_)
  first
  | (refine cq_own (p_slices_Clone_impl_Prop_impl_Prop_does l_a0 v1 ev1) (hf_by ff) kr ⟨p_slices_BinarySearchFunc_impl_Prop_impl_Prop_string_sa ff trivial, ?_⟩; clear ff)
  obtain ⟨v2, ev2, h⟩ := Option.bind_eq_some_iff.1 h
  try dsimp only at h
  have ff := p_impl_laid_tf.down
  try refine st_by ff ?_
  repeat' (first | exact trivial | refine And.intro sd ?_)
  first
  | (refine cq_call (p_impl_propPlace_does N l_a0 path_a1 v2 ev2) (hf_by ff) kr ⟨p_slices_BinarySearchFunc_impl_Prop_impl_Prop_string_sa ff trivial, ?_⟩; clear ff)
  have ff := p_impl_laid_tf.down
  try refine st_by ff ?_
  repeat' (first | exact trivial | refine And.intro sd ?_)
  try clear ff
  generalize hk_0 : thenK _ _ = kk_0
  have key_0 : ∀ σ, (∃ b_3 : Bool, (p_impl_laid_j0 path_a1 value_a2 has_a3 v1 v2 b_3 = some r) ∧ σ.t 1 = S path_a1 ∧ σ.t 2 = S value_a2 ∧ σ.t 3 = B has_a3 ∧ σ.t 9 = .sl 9 [] 0 v1.length ∧ σ.t 10 = I v2.1 ∧ σ.t 11 = B v2.2 ∧ σ.t 20 = B b_3 ∧ σ.m 9 = some (.row true 2 v1.length (esProp v1))) → kk_0 .nm σ := by
    rintro σ ⟨b_3, h, g0_j0, g1_j0, g2_j0, g3_j0, g4_j0, g5_j0, g6_j0, g7_j0⟩
    rw [← hk_0]
    rw [p_impl_laid_j0] at h
    by_cases c4 : b_3 = true
    · rw [if_pos c4] at h
      have dc4 := c4
      obtain ⟨x5, ex5, h⟩ := Option.bind_eq_some_iff.1 h
      try dsimp only at h
      have f6a := idx_lo ex5
      have f6b := idx_hi ex5
      have f6c : (esProp v1).drop (v2.1.toNat * 2) = eProp x5 ++ esProp (v1.drop (v2.1.toNat + 1)) := drop_enc (fun _ => rfl) (idx_get ex5)
      have f6g0 : (esProp v1).getD (v2.1.toNat * 2) .junk = (eProp x5).getD 0 .junk := getD_enc0 (enc := eProp) (sz := 2) (fun _ => rfl) (idx_get ex5) (by decide)
      have f6g1 : (esProp v1).getD (v2.1.toNat * 2 + 1) .junk = (eProp x5).getD 1 .junk := getD_enc (enc := eProp) (sz := 2) (fun _ => rfl) (idx_get ex5) (by decide)
      have w7l : v2.1.toNat < v1.length := (List.getElem?_eq_some_iff.1 (idx_get ex5)).1
      have w7a : (esProp v1).set (v2.1.toNat * 2 + 1) (S value_a2) = esProp (v1.set v2.1.toNat (⟨x5.Path, value_a2⟩ : GProp)) := set_enc (enc := eProp) (sz := 2) (fun _ => rfl) (idx_get ex5) (by decide) rfl
      have w7b : (v1.set v2.1.toNat (⟨x5.Path, value_a2⟩ : GProp)).length = v1.length := List.length_set
      have ff := ai @g0_j0 (ai @g1_j0 (ai @g2_j0 (ai @g3_j0 (ai @g4_j0 (ai @g5_j0 (ai @g6_j0 (ai @g7_j0 (ai @dc4 (ai @f6c (ai @f6g0 (ai @f6g1 (ai @w7a p_impl_laid_tf.down))))))))))))
      try refine st_by ff ?_
      repeat' (first | exact trivial | refine And.intro sd ?_)
      cases h
      exact ret_q1 rfl (p_spec_l26Lay_rt ff trivial)
    rw [if_neg c4] at h
    have dc4 := eq_false_of_ne_true c4
    by_cases c8 : v2.2 = true
    · rw [if_pos c8] at h
      have dc8 := c8
      obtain ⟨v9, ev9, h⟩ := Option.bind_eq_some_iff.1 h
      try dsimp only at h
      have ff := ai @g0_j0 (ai @g1_j0 (ai @g2_j0 (ai @g3_j0 (ai @g4_j0 (ai @g5_j0 (ai @g6_j0 (ai @g7_j0 (ai @dc4 (ai @dc8 p_impl_laid_tf.down)))))))))
      try refine st_by ff ?_
      repeat' (first | exact trivial | refine And.intro sd ?_)
      (refine cq_X [(9, [])] (delProp_does v1 v2.1 (IntKind.i64.wrap (v2.1 + 1)) v9 ev9) (hf_by ff) kr (by first | decide | simp) ⟨p_slices_BinarySearchFunc_impl_Prop_impl_Prop_string_sa ff trivial, ?_⟩; clear ff)
      have ff := ai @g0_j0 (ai @g1_j0 (ai @g2_j0 (ai @g3_j0 (ai @g4_j0 (ai @g5_j0 (ai @g6_j0 (ai @g7_j0 (ai @dc4 (ai @dc8 (ai @isPre0 (ai @isPre1 (ai @isPre2 p_impl_laid_tf.down))))))))))))
      try refine st_by ff ?_
      repeat' (first | exact trivial | refine And.intro sd ?_)
      cases h
      exact ret_q1 rfl (p_spec_l26Lay_rt ff trivial)
    rw [if_neg c8] at h
    have dc8 := eq_false_of_ne_true c8
    by_cases c10 : has_a3 = true
    case neg =>
     rw [if_neg c10] at h
     have dc10 := eq_false_of_ne_true c10
     have ff := ai @g0_j0 (ai @g1_j0 (ai @g2_j0 (ai @g3_j0 (ai @g4_j0 (ai @g5_j0 (ai @g6_j0 (ai @g7_j0 (ai @dc4 (ai @dc8 (ai @dc10 p_impl_laid_tf.down))))))))))
     try refine st_by ff ?_
     repeat' (first | exact trivial | refine And.intro sd ?_)
     cases h
     exact ret_q1 rfl (p_spec_l26Lay_rt ff trivial)
    rw [if_pos c10] at h
    have dc10 := c10
    obtain ⟨v11, ev11, h⟩ := Option.bind_eq_some_iff.1 h
    try dsimp only at h
    have ff := ai @g0_j0 (ai @g1_j0 (ai @g2_j0 (ai @g3_j0 (ai @g4_j0 (ai @g5_j0 (ai @g6_j0 (ai @g7_j0 (ai @dc4 (ai @dc8 (ai @dc10 p_impl_laid_tf.down))))))))))
    try refine st_by ff ?_
    repeat' (first | exact trivial | refine And.intro sd ?_)
    (refine cq_X [(9, []), (44, [])] (insProp_does v1 v2.1 ([(⟨path_a1, value_a2⟩ : GProp)] : List GProp) v11 ev11) (hf_by ff) kr (by first | decide | simp) ⟨p_slices_BinarySearchFunc_impl_Prop_impl_Prop_string_sa ff trivial, ?_⟩; clear ff)
    have ff := ai @g0_j0 (ai @g1_j0 (ai @g2_j0 (ai @g3_j0 (ai @g4_j0 (ai @g5_j0 (ai @g6_j0 (ai @g7_j0 (ai @dc4 (ai @dc8 (ai @dc10 (ai @isPre0 (ai @isPre1 (ai @isPre2 p_impl_laid_tf.down)))))))))))))
    try refine st_by ff ?_
    repeat' (first | exact trivial | refine And.intro sd ?_)
    cases h
    exact ret_q1 rfl (p_spec_l26Lay_rt ff trivial)
  have hrt_0 := fun σ : ASt => congrFun (congrFun hk_0.symm AX.rt) σ
  have hex_0 := fun (i : Nat) (σ : ASt) => congrFun (congrFun hk_0.symm (AX.ex i)) σ
  by_cases c12 : v2.2 = true
  case neg =>
   rw [if_neg c12] at h
   have dc12 := eq_false_of_ne_true c12
   have ff := ai @hrt_0 (ai @hex_0 (ai @dc12 p_impl_laid_tf.down))
   try refine st_by ff ?_
   repeat' (first | exact trivial | refine And.intro sd ?_)
   refine key_0 _ ?_
   refine ⟨false, h, ?_⟩
   exact p_spec_l26Lay_pv ff trivial
  rw [if_pos c12] at h
  have dc12 := c12
  have ff := ai @hrt_0 (ai @hex_0 (ai @dc12 p_impl_laid_tf.down))
  try refine st_by ff ?_
  repeat' (first | exact trivial | refine And.intro sd ?_)
  refine key_0 _ ?_
  refine ⟨has_a3, h, ?_⟩
  exact p_spec_l26Lay_pv ff trivial
/-! impl.propsOf -/
def p_impl_propsOf_l0 (N : Nat)  : List GProp → Nat → (List GProp) → Option ((List GProp))
  | [], i_0, out_13 => some out_13
  | x_0 :: r_0, i_0, out_13 => ((p_impl_laid N out_13 x_0.Path x_0.Value true).bind fun v18 => p_impl_propsOf_l0 N r_0 (i_0 + 1) v18)
def p_impl_propsOf_tf := PLift.up (ai @ePrefab_eq (ai @esPrefab_len (ai @esPrefab_nil (ai @esPrefab_leaf (ai @esPrefab_fit (ai @ePrefabo_eq (ai @esPrefabo_len (ai @esPrefabo_nil (ai @eProp_eq (ai @esProp_len (ai @esProp_nil (ai @esProp_leaf (ai @esProp_fit (ai @esPrefabo_share (ai @esPrefabo_pure (ai @esProp_share (ai @esProp_pure (ai @str_beq (ai @Ty.sl27 (ai @Ty.slz27 (ai @Ty.sl24 (ai @Ty.slz24 (ai @Ty.nz9 (ai @Ty.ldA9 (ai @Ty.ldS9 (ai @Ty.sz9 (ai @Ty.szn9 (ai @Ty.nz24 (ai @Ty.ldA24 (ai @Ty.ldS24 (ai @Ty.sz24 (ai @Ty.szn24 (ai @Ty.nz59 (ai @Ty.ldA59 (ai @Ty.sz59 (ai @Ty.szn59 (ai @Ty.fo54_1 (ai @Ty.fk54_1 (ai @Ty.fs54_1 (ai @Ty.fn54_1 (ai @Ty.fo54_2 (ai @Ty.fk54_2 (ai @Ty.fs54_2 (ai @Ty.fn54_2 (ai @Ty.fo59_0 (ai @Ty.fk59_0 (ai @Ty.fs59_0 (ai @Ty.fn59_0 (ai @Ty.fo59_1 (ai @Ty.fk59_1 (ai @Ty.fs59_1 (ai @Ty.fn59_1 (ai @Ty.zv59 @trivial)))))))))))))))))))))))))))))))))))))))))))))))))))))
def p_impl_propsOf (N : Nat) (l_a0 : List GPrefab) (i_a1 : Int) : Option (List GProp × Bool) := match N with
  | 0 => none
  | N + 1 => ((idx l_a0 i_a1).bind fun x1 => (if x1.From = (⟨#[]⟩ : ByteArray) then ((p_slices_Clone_impl_Prop_impl_Prop x1.Props).bind fun v4 => some (v4, true)) else ((p_impl_prefabAt l_a0 x1.From).bind fun v5 => ((p_impl_propsOf N l_a0 v5).bind fun v6 => (if x1.Props.length ≤ 9223372036854775807 then ((p_impl_propsOf_l0 N x1.Props 0 v6.1).bind fun q_0 => match q_0 with | out_13 => (if v6.2 = true then some (out_13, decide ((out_13.length : Int) ≤ 40)) else some (out_13, false))) else none)))))
theorem p_impl_propsOf_does : ∀ (N : Nat) (l_a0 : List GPrefab) (i_a1 : Int) (r : List GProp × Bool) (h : p_impl_propsOf N l_a0 i_a1 = some r), Does Tryd.prog 31 [.row false 3 l_a0.length (esPrefab l_a0), I i_a1] (.tup [.row true 2 r.1.length (esProp r.1), B r.2]) := by
  intro N
  induction N with
  | zero => intro l_a0 i_a1 r h; rw [p_impl_propsOf] at h; cases h
  | succ N ih =>
    intro l_a0 i_a1 r h
    rw [p_impl_propsOf] at h
    refine Does.bnd (fun hb => ?_)
    have hb2 : l_a0.length ≤ 9223372036854775807 := by simpa [AV.fitNs, AV.fitN] using hb
    have hl0 := hb2
    refine Does.walk (nt := 58) Tryd.func31 rfl rfl (by simp) (by decide) rfl (fun G0 X w0 pv => ?_)
    obtain ⟨x1, ex1, h⟩ := Option.bind_eq_some_iff.1 h
    try dsimp only at h
    have f2a := idx_lo ex1
    have f2b := idx_hi ex1
    have f2c : (esPrefab l_a0).drop (i_a1.toNat * 3) = ePrefab x1 ++ esPrefab (l_a0.drop (i_a1.toNat + 1)) := drop_enc (fun _ => rfl) (idx_get ex1)
    by_cases c3 : x1.From = (⟨#[]⟩ : ByteArray)
    · rw [if_pos c3] at h
      have dc3 := decide_eq_true c3
      obtain ⟨v4, ev4, h⟩ := Option.bind_eq_some_iff.1 h
      try dsimp only at h
      have ff := ai @f2c (ai @dc3 p_impl_propsOf_tf.down)
      try refine st_by ff ?_
      repeat' (first | exact trivial | refine And.intro sd ?_)
      first
      | (refine cq_own (p_slices_Clone_impl_Prop_impl_Prop_does x1.Props v4 ev4) (hf_by ff) kr ⟨p_spec_l26Props_sa ff trivial, ?_⟩; clear ff)
      have ff := ai @f2c (ai @dc3 p_impl_propsOf_tf.down)
      try refine st_by ff ?_
      repeat' (first | exact trivial | refine And.intro sd ?_)
      cases h
      exact ret_q2 rfl (p_spec_l26Props_rt ff trivial)
    rw [if_neg c3] at h
    have dc3 := decide_eq_false c3
    obtain ⟨v5, ev5, h⟩ := Option.bind_eq_some_iff.1 h
    try dsimp only at h
    have ff := ai @f2c (ai @dc3 p_impl_propsOf_tf.down)
    try refine st_by ff ?_
    repeat' (first | exact trivial | refine And.intro sd ?_)
    first
    | (refine cq_call (p_impl_prefabAt_does l_a0 x1.From v5 ev5) (hf_by ff) kr ⟨p_spec_l26Props_sa ff trivial, ?_⟩; clear ff)
    obtain ⟨v6, ev6, h⟩ := Option.bind_eq_some_iff.1 h
    try dsimp only at h
    have ff := ai @f2c (ai @dc3 p_impl_propsOf_tf.down)
    try refine st_by ff ?_
    repeat' (first | exact trivial | refine And.intro sd ?_)
    first
    | (refine cq_own (ih l_a0 v5 v6 ev6) (hf_by ff) kr ⟨p_spec_l26Props_sa ff trivial, ?_⟩; clear ff)
    by_cases c7 : x1.Props.length ≤ 9223372036854775807
    case neg => rw [if_neg c7] at h; cases h
    rw [if_pos c7] at h
    have hL_0 : x1.Props.length ≤ 9223372036854775807 := by first | assumption | omega
    obtain ⟨q_0, eq_0, h⟩ := Option.bind_eq_some_iff.1 h
    have ff := ai @f2c (ai @dc3 (ai @spl_t (ai @spl_m (ai @splF_cons (ai @splF_nil (ai @bindA p_impl_propsOf_tf.down))))))
    try refine st_by ff ?_
    repeat' (first | exact trivial | refine And.intro sd ?_)
    obtain ⟨I_0, hI_0⟩ : ∃ I_ : (Nat × (List GProp)) → ASt → Prop, I_ = (fun (a : Nat × (List GProp)) σ => match a with | (i_0, out_13) => (i_0 ≤ x1.Props.length ∧ p_impl_propsOf_l0 N (x1.Props.drop i_0) i_0 out_13 = some q_0) ∧ σ.t 6 = .sl 6 [] 0 out_13.length ∧ σ.t 7 = B v6.2 ∧ σ.t 38 = .row false 2 x1.Props.length (esProp x1.Props) ∧ σ.t 39 = I (x1.Props.length : Int) ∧ σ.t 40 = I (i_0 : Int) ∧ σ.m 6 = some (.row true 2 out_13.length (esProp out_13))) := ⟨_, rfl⟩
    obtain ⟨M_0, hM_0⟩ : ∃ M_ : (Nat × (List GProp)) → Nat, M_ = (fun (a : Nat × (List GProp)) => match a with | (i_0, out_13) => x1.Props.length - i_0) := ⟨_, rfl⟩
    obtain ⟨J_0, hJ_0⟩ : ∃ J_ : ASt → Prop, J_ = (fun σ => ∃ out_13 : List GProp, (some out_13 = some q_0) ∧ σ.t 6 = .sl 6 [] 0 out_13.length ∧ σ.t 7 = B v6.2 ∧ σ.m 6 = some (.row true 2 out_13.length (esProp out_13))) := ⟨_, rfl⟩
    refine aw_loopCW (Weak.split (r := 31) (i := 0) (d := 6) (A := .tup [.row true 2 v6.1.length (esProp v6.1), B v6.2]) (by decide) (by decide) (by decide) (p_spec_l26Props_pv ff trivial) rfl) (id := 0) I_0 M_0 J_0 (0, v6.1) ?_ ?_ ?_
    · rw [hI_0]
      refine ⟨⟨Nat.zero_le _, eq_0⟩, ?_⟩
      exact p_spec_l26Props_pv ff trivial
    · try clear ff
      rintro ⟨i_0, out_13⟩ σ hg_0
      rw [hI_0] at hg_0
      obtain ⟨⟨hi_0, h_0⟩, g0_0, g1_0, g2_0, g3_0, g4_0, g5_0⟩ := hg_0
      cases hr_0 : x1.Props.drop i_0 with
      | nil =>
        rw [hr_0] at h_0
        rw [p_impl_propsOf_l0] at h_0
        have hn_0 := drop_nil hr_0
        have dr_0 : decide ((i_0 : Int) < (x1.Props.length : Int)) = false := decide_eq_false (by omega)
        have ff := ai @f2c (ai @dc3 (ai @dr_0 (ai @g0_0 (ai @g1_0 (ai @g2_0 (ai @g3_0 (ai @g4_0 (ai @g5_0 p_impl_propsOf_tf.down))))))))
        try refine st_by ff ?_
        repeat' (first | exact trivial | refine And.intro sd ?_)
        refine JW.intro ?_
        rw [hJ_0]
        refine ⟨out_13, h_0, ?_⟩
        exact p_spec_l26Props_pv ff trivial
      | cons x_0 r_0 =>
        rw [hr_0] at h_0
        rw [p_impl_propsOf_l0] at h_0
        obtain ⟨ht_0, hg_0, hd_0⟩ := drop_cons hr_0
        have dr_0 : decide ((i_0 : Int) < (x1.Props.length : Int)) = true := decide_eq_true (by omega)
        have w_0 : IntKind.i64.wrap ((i_0 : Int) + 1) = ((i_0 + 1 : Nat) : Int) := wI _ (by omega) (by omega)
        have kk0c : (esProp x1.Props).drop (i_0 * 2) = eProp x_0 ++ esProp (x1.Props.drop (i_0 + 1)) := drop_enc (fun _ => rfl) (hg_0)
        obtain ⟨v18, ev18, h_0⟩ := Option.bind_eq_some_iff.1 h_0
        try dsimp only at h_0
        have ff := ai @f2c (ai @dc3 (ai @dr_0 (ai @w_0 (ai @g0_0 (ai @g1_0 (ai @g2_0 (ai @g3_0 (ai @g4_0 (ai @g5_0 (ai @kk0c p_impl_propsOf_tf.down))))))))))
        try refine st_by ff ?_
        repeat' (first | exact trivial | refine And.intro sd ?_)
        first
        | (refine cq_lendOwn (p_impl_laid_does N out_13 x_0.Path x_0.Value true v18 ev18) (hf_by ff) kr ⟨p_spec_l26Props_sa ff trivial, ?_⟩; clear ff)
        have ff := ai @f2c (ai @dc3 (ai @dr_0 (ai @w_0 (ai @g0_0 (ai @g1_0 (ai @g2_0 (ai @g3_0 (ai @g4_0 (ai @g5_0 (ai @kk0c p_impl_propsOf_tf.down))))))))))
        try refine st_by ff ?_
        repeat' (first | exact trivial | refine And.intro sd ?_)
        refine Back.intro (i_0 + 1, v18) ?_ ?_
        · clear ff; rw [hM_0]; show x1.Props.length - (i_0 + 1) < x1.Props.length - i_0; omega
        rw [hI_0]
        refine ⟨⟨by clear ff; show i_0 + 1 ≤ x1.Props.length; omega, by show p_impl_propsOf_l0 N (x1.Props.drop (i_0 + 1)) (i_0 + 1) v18 = some q_0; rw [hd_0]; exact h_0⟩, ?_⟩
        exact p_spec_l26Props_pv ff trivial
    · try clear ff
      rintro σ hg_0
      rw [hJ_0] at hg_0
      obtain ⟨out_13, hj_0, g0_0a, g1_0a, g2_0a⟩ := hg_0
      have hjj_0 := Option.some.inj hj_0
      subst hjj_0
      try dsimp only at h
      by_cases c19 : v6.2 = true
      case neg =>
       rw [if_neg c19] at h
       have dc19 := eq_false_of_ne_true c19
       have ff := ai @f2c (ai @dc3 (ai @g0_0a (ai @g1_0a (ai @g2_0a (ai @dc19 p_impl_propsOf_tf.down)))))
       try refine st_by ff ?_
       repeat' (first | exact trivial | refine And.intro sd ?_)
       cases h
       exact ret_q2 rfl (p_spec_l26Props_rt ff trivial)
      rw [if_pos c19] at h
      have dc19 := c19
      have ff := ai @f2c (ai @dc3 (ai @g0_0a (ai @g1_0a (ai @g2_0a (ai @dc19 p_impl_propsOf_tf.down)))))
      try refine st_by ff ?_
      repeat' (first | exact trivial | refine And.intro sd ?_)
      cases h
      exact ret_q2 rfl (p_spec_l26Props_rt ff trivial)
/-! impl.PropsOf -/
def p_impl_PropsOf_j0 (N : Nat) (l_a0 : List GPrefab) (v1 : Int) (b_3 : Bool) : Option (List GProp × Bool) := (if b_3 = true then some (([] : List GProp), false) else ((p_impl_propsOf N l_a0 v1).bind fun v5 => (if v5.2 = true then some (v5.1, true) else some (([] : List GProp), false))))
def p_impl_PropsOf_tf := PLift.up (ai @ePrefab_eq (ai @esPrefab_len (ai @esPrefab_nil (ai @esPrefab_leaf (ai @esPrefab_fit (ai @ePrefabo_eq (ai @esPrefabo_len (ai @esPrefabo_nil (ai @eProp_eq (ai @esProp_len (ai @esProp_nil (ai @esProp_leaf (ai @esProp_fit (ai @esPrefabo_share (ai @esPrefabo_pure (ai @esProp_share (ai @esProp_pure (ai @str_beq (ai @Ty.sl24 (ai @Ty.slz24 @trivial))))))))))))))))))))
def p_impl_PropsOf (N : Nat) (l_a0 : List GPrefab) (name_a1 : ByteArray) : Option (List GProp × Bool) := ((p_impl_prefabAt l_a0 name_a1).bind fun v1 => ((p_impl_GoodPrefabs l_a0).bind fun v2 => (if v2 = true then p_impl_PropsOf_j0 N l_a0 v1 (decide (v1 < 0)) else p_impl_PropsOf_j0 N l_a0 v1 true)))
theorem p_impl_PropsOf_does (N : Nat) (l_a0 : List GPrefab) (name_a1 : ByteArray) (r : List GProp × Bool) (h : p_impl_PropsOf N l_a0 name_a1 = some r) : Does Tryd.prog 9 [.row false 3 l_a0.length (esPrefab l_a0), S name_a1] (.tup [.row true 2 r.1.length (esProp r.1), B r.2]) := by
  rw [p_impl_PropsOf] at h
  refine Does.bnd (fun hb => ?_)
  have hb2 : l_a0.length ≤ 9223372036854775807 := by simpa [AV.fitNs, AV.fitN] using hb
  have hl0 := hb2
  refine Does.walk (nt := 28) Tryd.func9 rfl rfl (by simp) (by decide) rfl (fun G0 X w0 pv => ?_)
  obtain ⟨v1, ev1, h⟩ := Option.bind_eq_some_iff.1 h
  try dsimp only at h
  have ff := p_impl_PropsOf_tf.down
  try refine st_by ff ?_
  repeat' (first | exact trivial | refine And.intro sd ?_)
  first
  | (refine cq_call (p_impl_prefabAt_does l_a0 name_a1 v1 ev1) (hf_by ff) kr ⟨p_spec_l26Props_sa ff trivial, ?_⟩; clear ff)
  obtain ⟨v2, ev2, h⟩ := Option.bind_eq_some_iff.1 h
  try dsimp only at h
  have ff := p_impl_PropsOf_tf.down
  try refine st_by ff ?_
  repeat' (first | exact trivial | refine And.intro sd ?_)
  first
  | (refine cq_call (p_impl_GoodPrefabs_does l_a0 v2 ev2) (hf_by ff) kr ⟨p_spec_l26Props_sa ff trivial, ?_⟩; clear ff)
  have ff := p_impl_PropsOf_tf.down
  try refine st_by ff ?_
  repeat' (first | exact trivial | refine And.intro sd ?_)
  try clear ff
  generalize hk_0 : thenK _ _ = kk_0
  have key_0 : ∀ σ, (∃ b_3 : Bool, (p_impl_PropsOf_j0 N l_a0 v1 b_3 = some r) ∧ σ.t 0 = .row false 3 l_a0.length (esPrefab l_a0) ∧ σ.t 6 = I v1 ∧ σ.t 18 = B b_3) → kk_0 .nm σ := by
    rintro σ ⟨b_3, h, g0_j0, g1_j0, g2_j0⟩
    rw [← hk_0]
    rw [p_impl_PropsOf_j0] at h
    by_cases c4 : b_3 = true
    · rw [if_pos c4] at h
      have dc4 := c4
      have ff := ai @g0_j0 (ai @g1_j0 (ai @g2_j0 (ai @dc4 p_impl_PropsOf_tf.down)))
      try refine st_by ff ?_
      repeat' (first | exact trivial | refine And.intro sd ?_)
      cases h
      exact ret_q2 rfl (p_spec_l26Props_rt ff trivial)
    rw [if_neg c4] at h
    have dc4 := eq_false_of_ne_true c4
    obtain ⟨v5, ev5, h⟩ := Option.bind_eq_some_iff.1 h
    try dsimp only at h
    have ff := ai @g0_j0 (ai @g1_j0 (ai @g2_j0 (ai @dc4 p_impl_PropsOf_tf.down)))
    try refine st_by ff ?_
    repeat' (first | exact trivial | refine And.intro sd ?_)
    first
    | (refine cq_own (p_impl_propsOf_does N l_a0 v1 v5 ev5) (hf_by ff) kr ⟨p_spec_l26Props_sa ff trivial, ?_⟩; clear ff)
    by_cases c6 : v5.2 = true
    case neg =>
     rw [if_neg c6] at h
     have dc6 := eq_false_of_ne_true c6
     have ff := ai @g0_j0 (ai @g1_j0 (ai @g2_j0 (ai @dc4 (ai @dc6 p_impl_PropsOf_tf.down))))
     try refine st_by ff ?_
     repeat' (first | exact trivial | refine And.intro sd ?_)
     cases h
     exact ret_q2 rfl (p_spec_l26Props_rt ff trivial)
    rw [if_pos c6] at h
    have dc6 := c6
    have ff := ai @g0_j0 (ai @g1_j0 (ai @g2_j0 (ai @dc4 (ai @dc6 p_impl_PropsOf_tf.down))))
    try refine st_by ff ?_
    repeat' (first | exact trivial | refine And.intro sd ?_)
    cases h
    exact ret_q2 rfl (p_spec_l26Props_rt ff trivial)
  have hrt_0 := fun σ : ASt => congrFun (congrFun hk_0.symm AX.rt) σ
  have hex_0 := fun (i : Nat) (σ : ASt) => congrFun (congrFun hk_0.symm (AX.ex i)) σ
  by_cases c7 : v2 = true
  case neg =>
   rw [if_neg c7] at h
   have dc7 := eq_false_of_ne_true c7
   have ff := ai @hrt_0 (ai @hex_0 (ai @dc7 p_impl_PropsOf_tf.down))
   try refine st_by ff ?_
   repeat' (first | exact trivial | refine And.intro sd ?_)
   refine key_0 _ ?_
   refine ⟨true, h, ?_⟩
   exact p_spec_l26Props_pv ff trivial
  rw [if_pos c7] at h
  have dc7 := c7
  have ff := ai @hrt_0 (ai @hex_0 (ai @dc7 p_impl_PropsOf_tf.down))
  try refine st_by ff ?_
  repeat' (first | exact trivial | refine And.intro sd ?_)
  refine key_0 _ ?_
  refine ⟨decide (v1 < 0), h, ?_⟩
  exact p_spec_l26Props_pv ff trivial
end Go.Av
end
section
set_option linter.unusedSimpArgs false
set_option linter.unusedVariables false
set_option maxRecDepth 100000
set_option maxHeartbeats 1000000
namespace Go.Av
open Go.Proofs
/-! spec.l26Find -/
def p_spec_l26Find_l0 (path_a1 : ByteArray) : List GProp → Nat → Option (LR (ByteArray × Bool) (Unit))
  | [], i_0 => some (.out ())
  | x_0 :: r_0, i_0 => (if x_0.Path = path_a1 then some (.ret (x_0.Value, true)) else p_spec_l26Find_l0 path_a1 r_0 (i_0 + 1))
theorem p_spec_l26Find_pv {F C A : Prop} (hF : F) (hC : C) (h : F → C → A := by intro hF hC; first | exact cl_by hF | (refine st_by hF ?_; (repeat' (first | exact trivial | apply And.intro)); all_goals (clear hF; first | rfl | (simp only [hC, List.length_append, List.length_cons, List.length_nil, List.append_nil, List.nil_append, List.cons_append, List.length_set, List.append_assoc, Nat.zero_add, List.length_replicate, esProp_app, esProp_cons, esProp_nil, eProp_eq]; done) | (simp [hC, List.length_append, List.length_cons, List.length_nil, List.append_nil, List.nil_append, List.cons_append, List.length_set, List.append_assoc, Nat.zero_add, List.length_replicate, esProp_app, esProp_cons, esProp_nil, eProp_eq]; done) | omega))) : A := h hF hC
theorem p_spec_l26Find_rt {F C A : Prop} (hF : F) (hC : C) (h : F → C → A := by intro hF hC; first | (refine sr_by hF ?_; (repeat' (first | exact trivial | apply And.intro)); all_goals (clear hF; first | rfl | (simp only [hC, List.length_append, List.length_cons, List.length_nil, List.append_nil, List.nil_append, List.cons_append, List.length_set, List.append_assoc, Nat.zero_add, List.length_replicate, esProp_app, esProp_cons, esProp_nil, eProp_eq]; done) | (simp [hC, List.length_append, List.length_cons, List.length_nil, List.append_nil, List.nil_append, List.cons_append, List.length_set, List.append_assoc, Nat.zero_add, List.length_replicate, esProp_app, esProp_cons, esProp_nil, eProp_eq]; done) | omega)) | (first | rfl | (simp only [hC, List.length_append, List.length_cons, List.length_nil, List.append_nil, List.nil_append, List.cons_append, List.length_set, List.append_assoc, Nat.zero_add, List.length_replicate, esProp_app, esProp_cons, esProp_nil, eProp_eq]; done) | (simp [hC, List.length_append, List.length_cons, List.length_nil, List.append_nil, List.nil_append, List.cons_append, List.length_set, List.append_assoc, Nat.zero_add, List.length_replicate, esProp_app, esProp_cons, esProp_nil, eProp_eq]; done) | omega)) : A := h hF hC
def p_spec_l26Find_tf := PLift.up (ai @eProp_eq (ai @esProp_len (ai @esProp_nil (ai @esProp_leaf (ai @esProp_fit (ai @esProp_share (ai @esProp_pure (ai @str_beq (ai @Ty.sl24 (ai @Ty.slz24 (ai @Ty.nz59 (ai @Ty.ldA59 (ai @Ty.sz59 (ai @Ty.szn59 (ai @Ty.nz9 (ai @Ty.ldA9 (ai @Ty.ldS9 (ai @Ty.sz9 (ai @Ty.szn9 (ai @Ty.fo59_0 (ai @Ty.fk59_0 (ai @Ty.fs59_0 (ai @Ty.fn59_0 (ai @Ty.fo59_1 (ai @Ty.fk59_1 (ai @Ty.fs59_1 (ai @Ty.fn59_1 (ai @Ty.zv59 @trivial))))))))))))))))))))))))))))
def p_spec_l26Find (l_a0 : List GProp) (path_a1 : ByteArray) : Option (ByteArray × Bool) := ((p_spec_l26Find_l0 path_a1 l_a0 0).bind fun q_0 => match q_0 with | .ret r_ => some r_ | .out _ => some ((⟨#[]⟩ : ByteArray), false))
theorem p_spec_l26Find_does (l_a0 : List GProp) (path_a1 : ByteArray) (r : ByteArray × Bool) (h : p_spec_l26Find l_a0 path_a1 = some r) : Does Tryd.prog 37 [.row false 2 l_a0.length (esProp l_a0), S path_a1] (.tup [S r.1, B r.2]) := by
  rw [p_spec_l26Find] at h
  refine Does.bnd (fun hb => ?_)
  have hb2 : l_a0.length ≤ 9223372036854775807 := by simpa [AV.fitNs, AV.fitN] using hb
  have hl0 := hb2
  refine Does.walk (nt := 21) Tryd.func37 rfl rfl (by simp) (by decide) rfl (fun G0 X w0 pv => ?_)
  have hL_0 : l_a0.length ≤ 9223372036854775807 := by first | assumption | omega
  obtain ⟨q_0, eq_0, h⟩ := Option.bind_eq_some_iff.1 h
  have ff := p_spec_l26Find_tf.down
  try refine st_by ff ?_
  repeat' (first | exact trivial | refine And.intro sd ?_)
  obtain ⟨I_0, hI_0⟩ : ∃ I_ : (Nat) → ASt → Prop, I_ = (fun (i_0 : Nat) σ => (i_0 ≤ l_a0.length ∧ p_spec_l26Find_l0 path_a1 (l_a0.drop i_0) i_0 = some q_0) ∧ σ.t 1 = S path_a1 ∧ σ.t 8 = .row false 2 l_a0.length (esProp l_a0) ∧ σ.t 9 = I (l_a0.length : Int) ∧ σ.t 10 = I (i_0 : Int)) := ⟨_, rfl⟩
  obtain ⟨M_0, hM_0⟩ : ∃ M_ : (Nat) → Nat, M_ = (fun (i_0 : Nat) => l_a0.length - i_0) := ⟨_, rfl⟩
  obtain ⟨J_0, hJ_0⟩ : ∃ J_ : ASt → Prop, J_ = (fun σ => (some (.out ()) = some q_0) ∧ True) := ⟨_, rfl⟩
  refine aw_loopC (id := 0) I_0 M_0 J_0 (0) ?_ ?_ ?_
  · rw [hI_0]
    refine ⟨⟨Nat.zero_le _, eq_0⟩, ?_⟩
    exact p_spec_l26Find_pv ff trivial
  · try clear ff
    rintro i_0 σ hg_0
    rw [hI_0] at hg_0
    obtain ⟨⟨hi_0, h_0⟩, g0_0, g1_0, g2_0, g3_0⟩ := hg_0
    cases hr_0 : l_a0.drop i_0 with
    | nil =>
      rw [hr_0] at h_0
      rw [p_spec_l26Find_l0] at h_0
      have hn_0 := drop_nil hr_0
      have dr_0 : decide ((i_0 : Int) < (l_a0.length : Int)) = false := decide_eq_false (by omega)
      have ff := ai @dr_0 (ai @g0_0 (ai @g1_0 (ai @g2_0 (ai @g3_0 p_spec_l26Find_tf.down))))
      try refine st_by ff ?_
      repeat' (first | exact trivial | refine And.intro sd ?_)
      refine JW.intro ?_
      rw [hJ_0]
      refine ⟨h_0, ?_⟩
      exact p_spec_l26Find_pv ff trivial
    | cons x_0 r_0 =>
      rw [hr_0] at h_0
      rw [p_spec_l26Find_l0] at h_0
      obtain ⟨ht_0, hg_0, hd_0⟩ := drop_cons hr_0
      have dr_0 : decide ((i_0 : Int) < (l_a0.length : Int)) = true := decide_eq_true (by omega)
      have w_0 : IntKind.i64.wrap ((i_0 : Int) + 1) = ((i_0 + 1 : Nat) : Int) := wI _ (by omega) (by omega)
      have kk0c : (esProp l_a0).drop (i_0 * 2) = eProp x_0 ++ esProp (l_a0.drop (i_0 + 1)) := drop_enc (fun _ => rfl) (hg_0)
      by_cases c10 : x_0.Path = path_a1
      · rw [if_pos c10] at h_0
        have dc10 := decide_eq_true c10
        cases h_0
        try dsimp only at h
        have ff := ai @dr_0 (ai @w_0 (ai @g0_0 (ai @g1_0 (ai @g2_0 (ai @g3_0 (ai @kk0c (ai @dc10 p_spec_l26Find_tf.down)))))))
        try refine st_by ff ?_
        repeat' (first | exact trivial | refine And.intro sd ?_)
        cases h
        exact ret_q2 rfl (p_spec_l26Find_rt ff trivial)
      rw [if_neg c10] at h_0
      have dc10 := decide_eq_false c10
      have ff := ai @dr_0 (ai @w_0 (ai @g0_0 (ai @g1_0 (ai @g2_0 (ai @g3_0 (ai @kk0c (ai @dc10 p_spec_l26Find_tf.down)))))))
      try refine st_by ff ?_
      repeat' (first | exact trivial | refine And.intro sd ?_)
      refine Back.intro (i_0 + 1) ?_ ?_
      · clear ff; rw [hM_0]; show l_a0.length - (i_0 + 1) < l_a0.length - i_0; omega
      rw [hI_0]
      refine ⟨⟨by clear ff; show i_0 + 1 ≤ l_a0.length; omega, by show p_spec_l26Find_l0 path_a1 (l_a0.drop (i_0 + 1)) (i_0 + 1) = some q_0; rw [hd_0]; exact h_0⟩, ?_⟩
      exact p_spec_l26Find_pv ff trivial
  · try clear ff
    rintro σ hg_0
    rw [hJ_0] at hg_0
    obtain ⟨hj_0, _⟩ := hg_0
    cases hj_0
    try dsimp only at h
    have ff := p_spec_l26Find_tf.down
    try refine st_by ff ?_
    repeat' (first | exact trivial | refine And.intro sd ?_)
    cases h
    exact ret_q2 rfl (p_spec_l26Find_rt ff trivial)
/-! spec.OverridesOf -/
def p_spec_OverridesOf_l0 (want_a2 : List GProp) : List GProp → Nat → Option (LR (List GProp × Bool) (Unit))
  | [], i_0 => some (.out ())
  | x_0 :: r_0, i_0 => ((p_spec_l26Find want_a2 x_0.Path).bind fun v15 => (if v15.2 = true then p_spec_OverridesOf_l0 want_a2 r_0 (i_0 + 1) else some (.ret (([] : List GProp), false))))
def p_spec_OverridesOf_l1 (v1 : List GProp × Bool) : List GProp → Nat → (List GProp) → Option ((List GProp))
  | [], i_1, out_24 => some out_24
  | x_1 :: r_1, i_1, out_24 => ((p_spec_l26Find v1.1 x_1.Path).bind fun v35 => (if v35.2 = true then (if v35.1 = x_1.Value then p_spec_OverridesOf_l1 v1 r_1 (i_1 + 1) out_24 else (if out_24.length < 4294967296 then p_spec_OverridesOf_l1 v1 r_1 (i_1 + 1) (out_24 ++ [x_1]) else none)) else (if out_24.length < 4294967296 then p_spec_OverridesOf_l1 v1 r_1 (i_1 + 1) (out_24 ++ [x_1]) else none)))
def p_spec_OverridesOf_j0 (want_a2 : List GProp) (v1 : List GProp × Bool) (b_2 : Bool) : Option (List GProp × Bool) := (if b_2 = true then some (([] : List GProp), false) else ((p_spec_OverridesOf_l0 want_a2 v1.1 0).bind fun q_0 => match q_0 with | .ret r_ => some r_ | .out _ => ((p_spec_OverridesOf_l1 v1 want_a2 0 ([] : List GProp)).bind fun q_1 => match q_1 with | out_24 => some (out_24, true))))
theorem p_spec_OverridesOf_pv {F C A : Prop} (hF : F) (hC : C) (h : F → C → A := by intro hF hC; first | exact cl_by hF | (refine st_by hF ?_; (repeat' (first | exact trivial | apply And.intro)); all_goals (clear hF; first | rfl | (simp only [hC, List.length_append, List.length_cons, List.length_nil, List.append_nil, List.nil_append, List.cons_append, List.length_set, List.append_assoc, Nat.zero_add, List.length_replicate, esPrefab_app, esPrefab_cons, esPrefab_nil, ePrefab_eq, esPrefabo_app, esPrefabo_cons, esPrefabo_nil, ePrefabo_eq, esProp_app, esProp_cons, esProp_nil, eProp_eq]; done) | (simp [hC, List.length_append, List.length_cons, List.length_nil, List.append_nil, List.nil_append, List.cons_append, List.length_set, List.append_assoc, Nat.zero_add, List.length_replicate, esPrefab_app, esPrefab_cons, esPrefab_nil, ePrefab_eq, esPrefabo_app, esPrefabo_cons, esPrefabo_nil, ePrefabo_eq, esProp_app, esProp_cons, esProp_nil, eProp_eq]; done) | omega))) : A := h hF hC
theorem p_spec_OverridesOf_sa {F C A : Prop} (hF : F) (hC : C) (h : F → C → A := by intro hF hC; first | exact ca_by hF | (refine sa_by hF ?_; (repeat' (first | exact trivial | apply And.intro)); all_goals (clear hF; first | rfl | (simp only [hC, List.length_append, List.length_cons, List.length_nil, List.append_nil, List.nil_append, List.cons_append, List.length_set, List.append_assoc, Nat.zero_add, List.length_replicate, esPrefab_app, esPrefab_cons, esPrefab_nil, ePrefab_eq, esPrefabo_app, esPrefabo_cons, esPrefabo_nil, ePrefabo_eq, esProp_app, esProp_cons, esProp_nil, eProp_eq]; done) | (simp [hC, List.length_append, List.length_cons, List.length_nil, List.append_nil, List.nil_append, List.cons_append, List.length_set, List.append_assoc, Nat.zero_add, List.length_replicate, esPrefab_app, esPrefab_cons, esPrefab_nil, ePrefab_eq, esPrefabo_app, esPrefabo_cons, esPrefabo_nil, ePrefabo_eq, esProp_app, esProp_cons, esProp_nil, eProp_eq]; done) | omega))) : A := h hF hC
theorem p_spec_OverridesOf_rt {F C A : Prop} (hF : F) (hC : C) (h : F → C → A := by intro hF hC; first | (refine sr_by hF ?_; (repeat' (first | exact trivial | apply And.intro)); all_goals (clear hF; first | rfl | (simp only [hC, List.length_append, List.length_cons, List.length_nil, List.append_nil, List.nil_append, List.cons_append, List.length_set, List.append_assoc, Nat.zero_add, List.length_replicate, esPrefab_app, esPrefab_cons, esPrefab_nil, ePrefab_eq, esPrefabo_app, esPrefabo_cons, esPrefabo_nil, ePrefabo_eq, esProp_app, esProp_cons, esProp_nil, eProp_eq]; done) | (simp [hC, List.length_append, List.length_cons, List.length_nil, List.append_nil, List.nil_append, List.cons_append, List.length_set, List.append_assoc, Nat.zero_add, List.length_replicate, esPrefab_app, esPrefab_cons, esPrefab_nil, ePrefab_eq, esPrefabo_app, esPrefabo_cons, esPrefabo_nil, ePrefabo_eq, esProp_app, esProp_cons, esProp_nil, eProp_eq]; done) | omega)) | (first | rfl | (simp only [hC, List.length_append, List.length_cons, List.length_nil, List.append_nil, List.nil_append, List.cons_append, List.length_set, List.append_assoc, Nat.zero_add, List.length_replicate, esPrefab_app, esPrefab_cons, esPrefab_nil, ePrefab_eq, esPrefabo_app, esPrefabo_cons, esPrefabo_nil, ePrefabo_eq, esProp_app, esProp_cons, esProp_nil, eProp_eq]; done) | (simp [hC, List.length_append, List.length_cons, List.length_nil, List.append_nil, List.nil_append, List.cons_append, List.length_set, List.append_assoc, Nat.zero_add, List.length_replicate, esPrefab_app, esPrefab_cons, esPrefab_nil, ePrefab_eq, esPrefabo_app, esPrefabo_cons, esPrefabo_nil, ePrefabo_eq, esProp_app, esProp_cons, esProp_nil, eProp_eq]; done) | omega)) : A := h hF hC
def p_spec_OverridesOf_tf := PLift.up (ai @ePrefab_eq (ai @esPrefab_len (ai @esPrefab_nil (ai @esPrefab_leaf (ai @esPrefab_fit (ai @ePrefabo_eq (ai @esPrefabo_len (ai @esPrefabo_nil (ai @eProp_eq (ai @esProp_len (ai @esProp_nil (ai @esProp_leaf (ai @esProp_fit (ai @esPrefabo_share (ai @esPrefabo_pure (ai @esProp_share (ai @esProp_pure (ai @str_beq (ai @Ty.sl24 (ai @Ty.slz24 (ai @Ty.nz59 (ai @Ty.ldA59 (ai @Ty.sz59 (ai @Ty.szn59 (ai @Ty.nz9 (ai @Ty.ldA9 (ai @Ty.ldS9 (ai @Ty.sz9 (ai @Ty.szn9 (ai @Ty.fo59_0 (ai @Ty.fk59_0 (ai @Ty.fs59_0 (ai @Ty.fn59_0 (ai @Ty.fo59_1 (ai @Ty.fk59_1 (ai @Ty.fs59_1 (ai @Ty.fn59_1 (ai @Ty.nze24 (ai @Ty.zok24 (ai @Ty.by24 (ai @Ty.zs24 (ai @Ty.zv59 @trivial))))))))))))))))))))))))))))))))))))))))))
def p_spec_OverridesOf (N : Nat) (l_a0 : List GPrefab) (name_a1 : ByteArray) (want_a2 : List GProp) : Option (List GProp × Bool) := ((p_spec_PropsOf N l_a0 name_a1).bind fun v1 => (if v1.2 = true then ((p_spec_GoodProps N want_a2).bind fun v43 => p_spec_OverridesOf_j0 want_a2 v1 (!v43)) else p_spec_OverridesOf_j0 want_a2 v1 true))
theorem p_spec_OverridesOf_does (N : Nat) (l_a0 : List GPrefab) (name_a1 : ByteArray) (want_a2 : List GProp) (r : List GProp × Bool) (h : p_spec_OverridesOf N l_a0 name_a1 want_a2 = some r) : Does Tryd.prog 16 [.row false 3 l_a0.length (esPrefab l_a0), S name_a1, .row false 2 want_a2.length (esProp want_a2)] (.tup [.row true 2 r.1.length (esProp r.1), B r.2]) := by
  rw [p_spec_OverridesOf] at h
  refine Does.bnd (fun hb => ?_)
  have hb2 : l_a0.length ≤ 9223372036854775807 ∧ want_a2.length ≤ 9223372036854775807 := by simpa [AV.fitNs, AV.fitN] using hb
  obtain ⟨hl0, hl1⟩ := hb2
  refine Does.walk (nt := 75) Tryd.func16 rfl rfl (by simp) (by decide) rfl (fun G0 X w0 pv => ?_)
  obtain ⟨v1, ev1, h⟩ := Option.bind_eq_some_iff.1 h
  try dsimp only at h
  have ff := p_spec_OverridesOf_tf.down
  try refine st_by ff ?_
  repeat' (first | exact trivial | refine And.intro sd ?_)
  first
  | (refine cq_own (p_spec_PropsOf_does N l_a0 name_a1 v1 ev1) (hf_by ff) kr ⟨p_spec_OverridesOf_sa ff trivial, ?_⟩; clear ff)
  have ff := p_spec_OverridesOf_tf.down
  try refine st_by ff ?_
  repeat' (first | exact trivial | refine And.intro sd ?_)
  try clear ff
  generalize hk_0 : thenK _ _ = kk_0
  have key_0 : ∀ σ, (∃ b_2 : Bool, (p_spec_OverridesOf_j0 want_a2 v1 b_2 = some r) ∧ σ.t 2 = .row false 2 want_a2.length (esProp want_a2) ∧ σ.t 8 = .sl 22 [0] 0 v1.1.length ∧ σ.t 31 = B b_2 ∧ σ.m 22 = some (.tup [.row true 2 v1.1.length (esProp v1.1), B v1.2])) → kk_0 .nm σ := by
    rintro σ ⟨b_2, h, g0_j0, g1_j0, g2_j0, g3_j0⟩
    rw [← hk_0]
    rw [p_spec_OverridesOf_j0] at h
    by_cases c3 : b_2 = true
    · rw [if_pos c3] at h
      have dc3 := c3
      have ff := ai @g0_j0 (ai @g1_j0 (ai @g2_j0 (ai @g3_j0 (ai @dc3 p_spec_OverridesOf_tf.down))))
      try refine st_by ff ?_
      repeat' (first | exact trivial | refine And.intro sd ?_)
      cases h
      exact ret_q2 rfl (p_spec_OverridesOf_rt ff trivial)
    rw [if_neg c3] at h
    have dc3 := eq_false_of_ne_true c3
    obtain ⟨q_0, eq_0, h⟩ := Option.bind_eq_some_iff.1 h
    have ff := ai @g0_j0 (ai @g1_j0 (ai @g2_j0 (ai @g3_j0 (ai @dc3 p_spec_OverridesOf_tf.down))))
    try refine st_by ff ?_
    repeat' (first | exact trivial | refine And.intro sd ?_)
    refine aw_bnd (r := 22) (p := [0]) (sz := 2) (n := v1.1.length) (cs := esProp v1.1) (p_spec_OverridesOf_pv ff trivial) (fun hL_0 => ?_)
    obtain ⟨I_0, hI_0⟩ : ∃ I_ : (Nat) → ASt → Prop, I_ = (fun (i_0 : Nat) σ => (i_0 ≤ v1.1.length ∧ p_spec_OverridesOf_l0 want_a2 (v1.1.drop i_0) i_0 = some q_0) ∧ σ.t 2 = .row false 2 want_a2.length (esProp want_a2) ∧ σ.t 8 = .sl 22 [0] 0 v1.1.length ∧ σ.t 32 = .sl 22 [0] 0 v1.1.length ∧ σ.t 33 = I (v1.1.length : Int) ∧ σ.t 34 = I (i_0 : Int) ∧ σ.m 22 = some (.tup [.row true 2 v1.1.length (esProp v1.1), B v1.2])) := ⟨_, rfl⟩
    obtain ⟨M_0, hM_0⟩ : ∃ M_ : (Nat) → Nat, M_ = (fun (i_0 : Nat) => v1.1.length - i_0) := ⟨_, rfl⟩
    obtain ⟨J_0, hJ_0⟩ : ∃ J_ : ASt → Prop, J_ = (fun σ => (some (.out ()) = some q_0) ∧ σ.t 2 = .row false 2 want_a2.length (esProp want_a2) ∧ σ.t 8 = .sl 22 [0] 0 v1.1.length ∧ σ.m 22 = some (.tup [.row true 2 v1.1.length (esProp v1.1), B v1.2])) := ⟨_, rfl⟩
    refine aw_loopC (id := 0) I_0 M_0 J_0 (0) ?_ ?_ ?_
    · rw [hI_0]
      refine ⟨⟨Nat.zero_le _, eq_0⟩, ?_⟩
      exact p_spec_OverridesOf_pv ff trivial
    · try clear ff
      rintro i_0 σ hg_0
      rw [hI_0] at hg_0
      obtain ⟨⟨hi_0, h_0⟩, g0_0, g1_0, g2_0, g3_0, g4_0, g5_0⟩ := hg_0
      cases hr_0 : v1.1.drop i_0 with
      | nil =>
        rw [hr_0] at h_0
        rw [p_spec_OverridesOf_l0] at h_0
        have hn_0 := drop_nil hr_0
        have dr_0 : decide ((i_0 : Int) < (v1.1.length : Int)) = false := decide_eq_false (by omega)
        have ff := ai @dc3 (ai @dr_0 (ai @g0_0 (ai @g1_0 (ai @g2_0 (ai @g3_0 (ai @g4_0 (ai @g5_0 p_spec_OverridesOf_tf.down)))))))
        try refine st_by ff ?_
        repeat' (first | exact trivial | refine And.intro sd ?_)
        refine JW.intro ?_
        rw [hJ_0]
        refine ⟨h_0, ?_⟩
        exact p_spec_OverridesOf_pv ff trivial
      | cons x_0 r_0 =>
        rw [hr_0] at h_0
        rw [p_spec_OverridesOf_l0] at h_0
        obtain ⟨ht_0, hg_0, hd_0⟩ := drop_cons hr_0
        have dr_0 : decide ((i_0 : Int) < (v1.1.length : Int)) = true := decide_eq_true (by omega)
        have w_0 : IntKind.i64.wrap ((i_0 : Int) + 1) = ((i_0 + 1 : Nat) : Int) := wI _ (by omega) (by omega)
        have kk0c : (esProp v1.1).drop (i_0 * 2) = eProp x_0 ++ esProp (v1.1.drop (i_0 + 1)) := drop_enc (fun _ => rfl) (hg_0)
        have kk0g0 : (esProp v1.1).getD (i_0 * 2) .junk = (eProp x_0).getD 0 .junk := getD_enc0 (enc := eProp) (sz := 2) (fun _ => rfl) (hg_0) (by decide)
        have kk0g1 : (esProp v1.1).getD (i_0 * 2 + 1) .junk = (eProp x_0).getD 1 .junk := getD_enc (enc := eProp) (sz := 2) (fun _ => rfl) (hg_0) (by decide)
        obtain ⟨v15, ev15, h_0⟩ := Option.bind_eq_some_iff.1 h_0
        try dsimp only at h_0
        have ff := ai @dc3 (ai @dr_0 (ai @w_0 (ai @g0_0 (ai @g1_0 (ai @g2_0 (ai @g3_0 (ai @g4_0 (ai @g5_0 (ai @kk0c (ai @kk0g0 (ai @kk0g1 p_spec_OverridesOf_tf.down)))))))))))
        try refine st_by ff ?_
        repeat' (first | exact trivial | refine And.intro sd ?_)
        first
        | (refine cq_call (p_spec_l26Find_does want_a2 x_0.Path v15 ev15) (hf_by ff) kr ⟨p_spec_OverridesOf_sa ff trivial, ?_⟩; clear ff)
        by_cases c16 : v15.2 = true
        case neg =>
         rw [if_neg c16] at h_0
         have dc16 := eq_false_of_ne_true c16
         cases h_0
         try dsimp only at h
         have ff := ai @dc3 (ai @dr_0 (ai @w_0 (ai @g0_0 (ai @g1_0 (ai @g2_0 (ai @g3_0 (ai @g4_0 (ai @g5_0 (ai @kk0c (ai @kk0g0 (ai @kk0g1 (ai @dc16 p_spec_OverridesOf_tf.down))))))))))))
         try refine st_by ff ?_
         repeat' (first | exact trivial | refine And.intro sd ?_)
         cases h
         exact ret_q2 rfl (p_spec_OverridesOf_rt ff trivial)
        rw [if_pos c16] at h_0
        have dc16 := c16
        have ff := ai @dc3 (ai @dr_0 (ai @w_0 (ai @g0_0 (ai @g1_0 (ai @g2_0 (ai @g3_0 (ai @g4_0 (ai @g5_0 (ai @kk0c (ai @kk0g0 (ai @kk0g1 (ai @dc16 p_spec_OverridesOf_tf.down))))))))))))
        try refine st_by ff ?_
        repeat' (first | exact trivial | refine And.intro sd ?_)
        refine Back.intro (i_0 + 1) ?_ ?_
        · clear ff; rw [hM_0]; show v1.1.length - (i_0 + 1) < v1.1.length - i_0; omega
        rw [hI_0]
        refine ⟨⟨by clear ff; show i_0 + 1 ≤ v1.1.length; omega, by show p_spec_OverridesOf_l0 want_a2 (v1.1.drop (i_0 + 1)) (i_0 + 1) = some q_0; rw [hd_0]; exact h_0⟩, ?_⟩
        exact p_spec_OverridesOf_pv ff trivial
    · try clear ff
      rintro σ hg_0
      rw [hJ_0] at hg_0
      obtain ⟨hj_0, g0_0a, g1_0a, g2_0a⟩ := hg_0
      cases hj_0
      try dsimp only at h
      have hL_1 : want_a2.length ≤ 9223372036854775807 := by first | assumption | omega
      obtain ⟨q_1, eq_1, h⟩ := Option.bind_eq_some_iff.1 h
      have ff := ai @dc3 (ai @g0_0a (ai @g1_0a (ai @g2_0a p_spec_OverridesOf_tf.down)))
      try refine st_by ff ?_
      repeat' (first | exact trivial | refine And.intro sd ?_)
      obtain ⟨I_1, hI_1⟩ : ∃ I_ : (Nat × (List GProp)) → ASt → Prop, I_ = (fun (a : Nat × (List GProp)) σ => match a with | (i_1, out_24) => (i_1 ≤ want_a2.length ∧ p_spec_OverridesOf_l1 v1 (want_a2.drop i_1) i_1 out_24 = some q_1) ∧ σ.t 8 = .sl 22 [0] 0 v1.1.length ∧ σ.t 14 = .sl 14 [] 0 out_24.length ∧ σ.t 48 = .row false 2 want_a2.length (esProp want_a2) ∧ σ.t 49 = I (want_a2.length : Int) ∧ σ.t 50 = I (i_1 : Int) ∧ σ.m 22 = some (.tup [.row true 2 v1.1.length (esProp v1.1), B v1.2]) ∧ σ.m 14 = some (.row true 2 out_24.length (esProp out_24))) := ⟨_, rfl⟩
      obtain ⟨M_1, hM_1⟩ : ∃ M_ : (Nat × (List GProp)) → Nat, M_ = (fun (a : Nat × (List GProp)) => match a with | (i_1, out_24) => want_a2.length - i_1) := ⟨_, rfl⟩
      obtain ⟨J_1, hJ_1⟩ : ∃ J_ : ASt → Prop, J_ = (fun σ => ∃ out_24 : List GProp, (some out_24 = some q_1) ∧ σ.t 14 = .sl 14 [] 0 out_24.length ∧ σ.m 14 = some (.row true 2 out_24.length (esProp out_24))) := ⟨_, rfl⟩
      refine aw_loopC (id := 2) I_1 M_1 J_1 (0, ([] : List GProp)) ?_ ?_ ?_
      · rw [hI_1]
        refine ⟨⟨Nat.zero_le _, eq_1⟩, ?_⟩
        exact p_spec_OverridesOf_pv ff trivial
      · try clear ff
        rintro ⟨i_1, out_24⟩ σ hg_1
        rw [hI_1] at hg_1
        obtain ⟨⟨hi_1, h_1⟩, g0_1, g1_1, g2_1, g3_1, g4_1, g5_1, g6_1⟩ := hg_1
        cases hr_1 : want_a2.drop i_1 with
        | nil =>
          rw [hr_1] at h_1
          rw [p_spec_OverridesOf_l1] at h_1
          have hn_1 := drop_nil hr_1
          have dr_1 : decide ((i_1 : Int) < (want_a2.length : Int)) = false := decide_eq_false (by omega)
          have ff := ai @dc3 (ai @dr_1 (ai @g0_1 (ai @g1_1 (ai @g2_1 (ai @g3_1 (ai @g4_1 (ai @g5_1 (ai @g6_1 p_spec_OverridesOf_tf.down))))))))
          try refine st_by ff ?_
          repeat' (first | exact trivial | refine And.intro sd ?_)
          refine JW.intro ?_
          rw [hJ_1]
          refine ⟨out_24, h_1, ?_⟩
          exact p_spec_OverridesOf_pv ff trivial
        | cons x_1 r_1 =>
          rw [hr_1] at h_1
          rw [p_spec_OverridesOf_l1] at h_1
          obtain ⟨ht_1, hg_1, hd_1⟩ := drop_cons hr_1
          have dr_1 : decide ((i_1 : Int) < (want_a2.length : Int)) = true := decide_eq_true (by omega)
          have w_1 : IntKind.i64.wrap ((i_1 : Int) + 1) = ((i_1 + 1 : Nat) : Int) := wI _ (by omega) (by omega)
          have kk1c : (esProp want_a2).drop (i_1 * 2) = eProp x_1 ++ esProp (want_a2.drop (i_1 + 1)) := drop_enc (fun _ => rfl) (hg_1)
          obtain ⟨v35, ev35, h_1⟩ := Option.bind_eq_some_iff.1 h_1
          try dsimp only at h_1
          have ff := ai @dc3 (ai @dr_1 (ai @w_1 (ai @g0_1 (ai @g1_1 (ai @g2_1 (ai @g3_1 (ai @g4_1 (ai @g5_1 (ai @g6_1 (ai @kk1c p_spec_OverridesOf_tf.down))))))))))
          try refine st_by ff ?_
          repeat' (first | exact trivial | refine And.intro sd ?_)
          first
          | (refine cq_lend (p_spec_l26Find_does v1.1 x_1.Path v35 ev35) (hf_by ff) kr ⟨p_spec_OverridesOf_sa ff trivial, ?_⟩; clear ff)
          by_cases c36 : v35.2 = true
          case neg =>
           rw [if_neg c36] at h_1
           have dc36 := eq_false_of_ne_true c36
           by_cases c40 : out_24.length < 4294967296
           case neg => rw [if_neg c40] at h_1; cases h_1
           rw [if_pos c40] at h_1
           have a41a : esProp out_24 ++ [S x_1.Path, S x_1.Value] = esProp (out_24 ++ [x_1]) := by simp [esProp_app, esProp_cons, esProp_nil, eProp_eq, esPrefab_nil, esProp_nil]
           have a41b : out_24.length + 1 = (out_24 ++ [x_1]).length := by simp
           have ff := ai @dc3 (ai @dr_1 (ai @w_1 (ai @g0_1 (ai @g1_1 (ai @g2_1 (ai @g3_1 (ai @g4_1 (ai @g5_1 (ai @g6_1 (ai @kk1c (ai @dc36 (ai @a41a (ai @a41b p_spec_OverridesOf_tf.down)))))))))))))
           try refine st_by ff ?_
           repeat' (first | exact trivial | refine And.intro sd ?_)
           refine Back.intro (i_1 + 1, (out_24 ++ [x_1])) ?_ ?_
           · clear ff; rw [hM_1]; show want_a2.length - (i_1 + 1) < want_a2.length - i_1; omega
           rw [hI_1]
           refine ⟨⟨by clear ff; show i_1 + 1 ≤ want_a2.length; omega, by show p_spec_OverridesOf_l1 v1 (want_a2.drop (i_1 + 1)) (i_1 + 1) (out_24 ++ [x_1]) = some q_1; rw [hd_1]; exact h_1⟩, ?_⟩
           exact p_spec_OverridesOf_pv ff trivial
          rw [if_pos c36] at h_1
          have dc36 := c36
          by_cases c37 : v35.1 = x_1.Value
          · rw [if_pos c37] at h_1
            have dc37 := decide_eq_true c37
            have ff := ai @dc3 (ai @dr_1 (ai @w_1 (ai @g0_1 (ai @g1_1 (ai @g2_1 (ai @g3_1 (ai @g4_1 (ai @g5_1 (ai @g6_1 (ai @kk1c (ai @dc36 (ai @dc37 p_spec_OverridesOf_tf.down))))))))))))
            try refine st_by ff ?_
            repeat' (first | exact trivial | refine And.intro sd ?_)
            refine Back.intro (i_1 + 1, out_24) ?_ ?_
            · clear ff; rw [hM_1]; show want_a2.length - (i_1 + 1) < want_a2.length - i_1; omega
            rw [hI_1]
            refine ⟨⟨by clear ff; show i_1 + 1 ≤ want_a2.length; omega, by show p_spec_OverridesOf_l1 v1 (want_a2.drop (i_1 + 1)) (i_1 + 1) out_24 = some q_1; rw [hd_1]; exact h_1⟩, ?_⟩
            exact p_spec_OverridesOf_pv ff trivial
          rw [if_neg c37] at h_1
          have dc37 := decide_eq_false c37
          by_cases c38 : out_24.length < 4294967296
          case neg => rw [if_neg c38] at h_1; cases h_1
          rw [if_pos c38] at h_1
          have a39a : esProp out_24 ++ [S x_1.Path, S x_1.Value] = esProp (out_24 ++ [x_1]) := by simp [esProp_app, esProp_cons, esProp_nil, eProp_eq, esPrefab_nil, esProp_nil]
          have a39b : out_24.length + 1 = (out_24 ++ [x_1]).length := by simp
          have ff := ai @dc3 (ai @dr_1 (ai @w_1 (ai @g0_1 (ai @g1_1 (ai @g2_1 (ai @g3_1 (ai @g4_1 (ai @g5_1 (ai @g6_1 (ai @kk1c (ai @dc36 (ai @dc37 (ai @a39a (ai @a39b p_spec_OverridesOf_tf.down))))))))))))))
          try refine st_by ff ?_
          repeat' (first | exact trivial | refine And.intro sd ?_)
          refine Back.intro (i_1 + 1, (out_24 ++ [x_1])) ?_ ?_
          · clear ff; rw [hM_1]; show want_a2.length - (i_1 + 1) < want_a2.length - i_1; omega
          rw [hI_1]
          refine ⟨⟨by clear ff; show i_1 + 1 ≤ want_a2.length; omega, by show p_spec_OverridesOf_l1 v1 (want_a2.drop (i_1 + 1)) (i_1 + 1) (out_24 ++ [x_1]) = some q_1; rw [hd_1]; exact h_1⟩, ?_⟩
          exact p_spec_OverridesOf_pv ff trivial
      · try clear ff
        rintro σ hg_1
        rw [hJ_1] at hg_1
        obtain ⟨out_24, hj_1, g0_1a, g1_1a⟩ := hg_1
        have hjj_1 := Option.some.inj hj_1
        subst hjj_1
        try dsimp only at h
        have ff := ai @dc3 (ai @g0_1a (ai @g1_1a p_spec_OverridesOf_tf.down))
        try refine st_by ff ?_
        repeat' (first | exact trivial | refine And.intro sd ?_)
        cases h
        exact ret_q2 rfl (p_spec_OverridesOf_rt ff trivial)
  have hrt_0 := fun σ : ASt => congrFun (congrFun hk_0.symm AX.rt) σ
  have hex_0 := fun (i : Nat) (σ : ASt) => congrFun (congrFun hk_0.symm (AX.ex i)) σ
  by_cases c42 : v1.2 = true
  case neg =>
   rw [if_neg c42] at h
   have dc42 := eq_false_of_ne_true c42
   have ff := ai @hrt_0 (ai @hex_0 (ai @dc42 p_spec_OverridesOf_tf.down))
   try refine st_by ff ?_
   repeat' (first | exact trivial | refine And.intro sd ?_)
   refine key_0 _ ?_
   refine ⟨true, h, ?_⟩
   exact p_spec_OverridesOf_pv ff trivial
  rw [if_pos c42] at h
  have dc42 := c42
  obtain ⟨v43, ev43, h⟩ := Option.bind_eq_some_iff.1 h
  try dsimp only at h
  have ff := ai @hrt_0 (ai @hex_0 (ai @dc42 p_spec_OverridesOf_tf.down))
  try refine st_by ff ?_
  repeat' (first | exact trivial | refine And.intro sd ?_)
  first
  | (refine cq_call (p_spec_GoodProps_does N want_a2 v43 ev43) (hf_by ff) kr ⟨p_spec_OverridesOf_sa ff trivial, ?_⟩; clear ff)
  have ff := ai @hrt_0 (ai @hex_0 (ai @dc42 p_spec_OverridesOf_tf.down))
  try refine st_by ff ?_
  repeat' (first | exact trivial | refine And.intro sd ?_)
  refine key_0 _ ?_
  refine ⟨!v43, h, ?_⟩
  exact p_spec_OverridesOf_pv ff trivial
/-! impl.propAt -/
theorem p_impl_propAt_sa {F C A : Prop} (hF : F) (hC : C) (h : F → C → A := by intro hF hC; first | exact ca_by hF | (refine sa_by hF ?_; (repeat' (first | exact trivial | apply And.intro)); all_goals (clear hF; first | rfl | (simp only [hC, List.length_append, List.length_cons, List.length_nil, List.append_nil, List.nil_append, List.cons_append, List.length_set, List.append_assoc, Nat.zero_add, List.length_replicate, esProp_app, esProp_cons, esProp_nil, eProp_eq]; done) | (simp [hC, List.length_append, List.length_cons, List.length_nil, List.append_nil, List.nil_append, List.cons_append, List.length_set, List.append_assoc, Nat.zero_add, List.length_replicate, esProp_app, esProp_cons, esProp_nil, eProp_eq]; done) | omega))) : A := h hF hC
def p_impl_propAt_tf := PLift.up (ai @eProp_eq (ai @esProp_len (ai @esProp_nil (ai @esProp_leaf (ai @esProp_fit (ai @esProp_share (ai @esProp_pure (ai @str_beq (ai @Ty.sl24 (ai @Ty.slz24 (ai @Ty.nz9 (ai @Ty.ldA9 (ai @Ty.ldS9 (ai @Ty.sz9 (ai @Ty.szn9 (ai @Ty.fo59_1 (ai @Ty.fk59_1 (ai @Ty.fs59_1 (ai @Ty.fn59_1 @trivial)))))))))))))))))))
def p_impl_propAt (N : Nat) (l_a0 : List GProp) (path_a1 : ByteArray) : Option (ByteArray × Bool) := ((p_impl_propPlace N l_a0 path_a1).bind fun v1 => (if v1.2 = true then ((idx l_a0 v1.1).bind fun x3 => some (x3.Value, true)) else some ((⟨#[]⟩ : ByteArray), false)))
theorem p_impl_propAt_does (N : Nat) (l_a0 : List GProp) (path_a1 : ByteArray) (r : ByteArray × Bool) (h : p_impl_propAt N l_a0 path_a1 = some r) : Does Tryd.prog 40 [.row false 2 l_a0.length (esProp l_a0), S path_a1] (.tup [S r.1, B r.2]) := by
  rw [p_impl_propAt] at h
  refine Does.bnd (fun hb => ?_)
  have hb2 : l_a0.length ≤ 9223372036854775807 := by simpa [AV.fitNs, AV.fitN] using hb
  have hl0 := hb2
  refine Does.walk (nt := 21) Tryd.func40 rfl rfl (by simp) (by decide) rfl (fun G0 X w0 pv => ?_)
  obtain ⟨v1, ev1, h⟩ := Option.bind_eq_some_iff.1 h
  try dsimp only at h
  have ff := p_impl_propAt_tf.down
  try refine st_by ff ?_
  repeat' (first | exact trivial | refine And.intro sd ?_)
  first
  | (refine cq_call (p_impl_propPlace_does N l_a0 path_a1 v1 ev1) (hf_by ff) kr ⟨p_impl_propAt_sa ff trivial, ?_⟩; clear ff)
  by_cases c2 : v1.2 = true
  case neg =>
   rw [if_neg c2] at h
   have dc2 := eq_false_of_ne_true c2
   have ff := ai @dc2 p_impl_propAt_tf.down
   try refine st_by ff ?_
   repeat' (first | exact trivial | refine And.intro sd ?_)
   cases h
   exact ret_q2 rfl (p_spec_l26Find_rt ff trivial)
  rw [if_pos c2] at h
  have dc2 := c2
  obtain ⟨x3, ex3, h⟩ := Option.bind_eq_some_iff.1 h
  try dsimp only at h
  have f4a := idx_lo ex3
  have f4b := idx_hi ex3
  have f4c : (esProp l_a0).drop (v1.1.toNat * 2) = eProp x3 ++ esProp (l_a0.drop (v1.1.toNat + 1)) := drop_enc (fun _ => rfl) (idx_get ex3)
  have ff := ai @dc2 (ai @f4c p_impl_propAt_tf.down)
  try refine st_by ff ?_
  repeat' (first | exact trivial | refine And.intro sd ?_)
  cases h
  exact ret_q2 rfl (p_spec_l26Find_rt ff trivial)
/-! impl.OverridesOf -/
def p_impl_OverridesOf_l0 (N : Nat) (want_a2 : List GProp) : List GProp → Nat → Option (LR (List GProp × Bool) (Unit))
  | [], i_0 => some (.out ())
  | x_0 :: r_0, i_0 => ((p_impl_propAt N want_a2 x_0.Path).bind fun v15 => (if v15.2 = true then p_impl_OverridesOf_l0 N want_a2 r_0 (i_0 + 1) else some (.ret (([] : List GProp), false))))
def p_impl_OverridesOf_l1 (N : Nat) (v1 : List GProp × Bool) : List GProp → Nat → (List GProp) → Option ((List GProp))
  | [], i_1, out_24 => some out_24
  | x_1 :: r_1, i_1, out_24 => ((p_impl_propAt N v1.1 x_1.Path).bind fun v35 => (if v35.2 = true then (if v35.1 = x_1.Value then p_impl_OverridesOf_l1 N v1 r_1 (i_1 + 1) out_24 else (if out_24.length < 4294967296 then p_impl_OverridesOf_l1 N v1 r_1 (i_1 + 1) (out_24 ++ [x_1]) else none)) else (if out_24.length < 4294967296 then p_impl_OverridesOf_l1 N v1 r_1 (i_1 + 1) (out_24 ++ [x_1]) else none)))
def p_impl_OverridesOf_j0 (N : Nat) (want_a2 : List GProp) (v1 : List GProp × Bool) (b_2 : Bool) : Option (List GProp × Bool) := (if b_2 = true then some (([] : List GProp), false) else ((p_impl_OverridesOf_l0 N want_a2 v1.1 0).bind fun q_0 => match q_0 with | .ret r_ => some r_ | .out _ => ((p_impl_OverridesOf_l1 N v1 want_a2 0 ([] : List GProp)).bind fun q_1 => match q_1 with | out_24 => some (out_24, true))))
def p_impl_OverridesOf_tf := PLift.up (ai @ePrefab_eq (ai @esPrefab_len (ai @esPrefab_nil (ai @esPrefab_leaf (ai @esPrefab_fit (ai @ePrefabo_eq (ai @esPrefabo_len (ai @esPrefabo_nil (ai @eProp_eq (ai @esProp_len (ai @esProp_nil (ai @esProp_leaf (ai @esProp_fit (ai @esPrefabo_share (ai @esPrefabo_pure (ai @esProp_share (ai @esProp_pure (ai @str_beq (ai @Ty.sl24 (ai @Ty.slz24 (ai @Ty.nz59 (ai @Ty.ldA59 (ai @Ty.sz59 (ai @Ty.szn59 (ai @Ty.nz9 (ai @Ty.ldA9 (ai @Ty.ldS9 (ai @Ty.sz9 (ai @Ty.szn9 (ai @Ty.fo59_0 (ai @Ty.fk59_0 (ai @Ty.fs59_0 (ai @Ty.fn59_0 (ai @Ty.fo59_1 (ai @Ty.fk59_1 (ai @Ty.fs59_1 (ai @Ty.fn59_1 (ai @Ty.nze24 (ai @Ty.zok24 (ai @Ty.by24 (ai @Ty.zs24 (ai @Ty.zv59 @trivial))))))))))))))))))))))))))))))))))))))))))
def p_impl_OverridesOf (N : Nat) (l_a0 : List GPrefab) (name_a1 : ByteArray) (want_a2 : List GProp) : Option (List GProp × Bool) := ((p_impl_PropsOf N l_a0 name_a1).bind fun v1 => (if v1.2 = true then ((p_impl_GoodProps want_a2).bind fun v43 => p_impl_OverridesOf_j0 N want_a2 v1 (!v43)) else p_impl_OverridesOf_j0 N want_a2 v1 true))
theorem p_impl_OverridesOf_does (N : Nat) (l_a0 : List GPrefab) (name_a1 : ByteArray) (want_a2 : List GProp) (r : List GProp × Bool) (h : p_impl_OverridesOf N l_a0 name_a1 want_a2 = some r) : Does Tryd.prog 18 [.row false 3 l_a0.length (esPrefab l_a0), S name_a1, .row false 2 want_a2.length (esProp want_a2)] (.tup [.row true 2 r.1.length (esProp r.1), B r.2]) := by
  rw [p_impl_OverridesOf] at h
  refine Does.bnd (fun hb => ?_)
  have hb2 : l_a0.length ≤ 9223372036854775807 ∧ want_a2.length ≤ 9223372036854775807 := by simpa [AV.fitNs, AV.fitN] using hb
  obtain ⟨hl0, hl1⟩ := hb2
  refine Does.walk (nt := 76) Tryd.func18 rfl rfl (by simp) (by decide) rfl (fun G0 X w0 pv => ?_)
  obtain ⟨v1, ev1, h⟩ := Option.bind_eq_some_iff.1 h
  try dsimp only at h
  have ff := p_impl_OverridesOf_tf.down
  try refine st_by ff ?_
  repeat' (first | exact trivial | refine And.intro sd ?_)
  first
  | (refine cq_own (p_impl_PropsOf_does N l_a0 name_a1 v1 ev1) (hf_by ff) kr ⟨p_spec_OverridesOf_sa ff trivial, ?_⟩; clear ff)
  have ff := p_impl_OverridesOf_tf.down
  try refine st_by ff ?_
  repeat' (first | exact trivial | refine And.intro sd ?_)
  try clear ff
  generalize hk_0 : thenK _ _ = kk_0
  have key_0 : ∀ σ, (∃ b_2 : Bool, (p_impl_OverridesOf_j0 N want_a2 v1 b_2 = some r) ∧ σ.t 2 = .row false 2 want_a2.length (esProp want_a2) ∧ σ.t 8 = .sl 22 [0] 0 v1.1.length ∧ σ.t 31 = B b_2 ∧ σ.m 22 = some (.tup [.row true 2 v1.1.length (esProp v1.1), B v1.2])) → kk_0 .nm σ := by
    rintro σ ⟨b_2, h, g0_j0, g1_j0, g2_j0, g3_j0⟩
    rw [← hk_0]
    rw [p_impl_OverridesOf_j0] at h
    by_cases c3 : b_2 = true
    · rw [if_pos c3] at h
      have dc3 := c3
      have ff := ai @g0_j0 (ai @g1_j0 (ai @g2_j0 (ai @g3_j0 (ai @dc3 p_impl_OverridesOf_tf.down))))
      try refine st_by ff ?_
      repeat' (first | exact trivial | refine And.intro sd ?_)
      cases h
      exact ret_q2 rfl (p_spec_OverridesOf_rt ff trivial)
    rw [if_neg c3] at h
    have dc3 := eq_false_of_ne_true c3
    obtain ⟨q_0, eq_0, h⟩ := Option.bind_eq_some_iff.1 h
    have ff := ai @g0_j0 (ai @g1_j0 (ai @g2_j0 (ai @g3_j0 (ai @dc3 p_impl_OverridesOf_tf.down))))
    try refine st_by ff ?_
    repeat' (first | exact trivial | refine And.intro sd ?_)
    refine aw_bnd (r := 22) (p := [0]) (sz := 2) (n := v1.1.length) (cs := esProp v1.1) (p_spec_OverridesOf_pv ff trivial) (fun hL_0 => ?_)
    obtain ⟨I_0, hI_0⟩ : ∃ I_ : (Nat) → ASt → Prop, I_ = (fun (i_0 : Nat) σ => (i_0 ≤ v1.1.length ∧ p_impl_OverridesOf_l0 N want_a2 (v1.1.drop i_0) i_0 = some q_0) ∧ σ.t 2 = .row false 2 want_a2.length (esProp want_a2) ∧ σ.t 8 = .sl 22 [0] 0 v1.1.length ∧ σ.t 32 = .sl 22 [0] 0 v1.1.length ∧ σ.t 33 = I (v1.1.length : Int) ∧ σ.t 34 = I (i_0 : Int) ∧ σ.m 22 = some (.tup [.row true 2 v1.1.length (esProp v1.1), B v1.2])) := ⟨_, rfl⟩
    obtain ⟨M_0, hM_0⟩ : ∃ M_ : (Nat) → Nat, M_ = (fun (i_0 : Nat) => v1.1.length - i_0) := ⟨_, rfl⟩
    obtain ⟨J_0, hJ_0⟩ : ∃ J_ : ASt → Prop, J_ = (fun σ => (some (.out ()) = some q_0) ∧ σ.t 2 = .row false 2 want_a2.length (esProp want_a2) ∧ σ.t 8 = .sl 22 [0] 0 v1.1.length ∧ σ.m 22 = some (.tup [.row true 2 v1.1.length (esProp v1.1), B v1.2])) := ⟨_, rfl⟩
    refine aw_loopC (id := 0) I_0 M_0 J_0 (0) ?_ ?_ ?_
    · rw [hI_0]
      refine ⟨⟨Nat.zero_le _, eq_0⟩, ?_⟩
      exact p_spec_OverridesOf_pv ff trivial
    · try clear ff
      rintro i_0 σ hg_0
      rw [hI_0] at hg_0
      obtain ⟨⟨hi_0, h_0⟩, g0_0, g1_0, g2_0, g3_0, g4_0, g5_0⟩ := hg_0
      cases hr_0 : v1.1.drop i_0 with
      | nil =>
        rw [hr_0] at h_0
        rw [p_impl_OverridesOf_l0] at h_0
        have hn_0 := drop_nil hr_0
        have dr_0 : decide ((i_0 : Int) < (v1.1.length : Int)) = false := decide_eq_false (by omega)
        have ff := ai @dc3 (ai @dr_0 (ai @g0_0 (ai @g1_0 (ai @g2_0 (ai @g3_0 (ai @g4_0 (ai @g5_0 p_impl_OverridesOf_tf.down)))))))
        try refine st_by ff ?_
        repeat' (first | exact trivial | refine And.intro sd ?_)
        refine JW.intro ?_
        rw [hJ_0]
        refine ⟨h_0, ?_⟩
        exact p_spec_OverridesOf_pv ff trivial
      | cons x_0 r_0 =>
        rw [hr_0] at h_0
        rw [p_impl_OverridesOf_l0] at h_0
        obtain ⟨ht_0, hg_0, hd_0⟩ := drop_cons hr_0
        have dr_0 : decide ((i_0 : Int) < (v1.1.length : Int)) = true := decide_eq_true (by omega)
        have w_0 : IntKind.i64.wrap ((i_0 : Int) + 1) = ((i_0 + 1 : Nat) : Int) := wI _ (by omega) (by omega)
        have kk0c : (esProp v1.1).drop (i_0 * 2) = eProp x_0 ++ esProp (v1.1.drop (i_0 + 1)) := drop_enc (fun _ => rfl) (hg_0)
        have kk0g0 : (esProp v1.1).getD (i_0 * 2) .junk = (eProp x_0).getD 0 .junk := getD_enc0 (enc := eProp) (sz := 2) (fun _ => rfl) (hg_0) (by decide)
        have kk0g1 : (esProp v1.1).getD (i_0 * 2 + 1) .junk = (eProp x_0).getD 1 .junk := getD_enc (enc := eProp) (sz := 2) (fun _ => rfl) (hg_0) (by decide)
        obtain ⟨v15, ev15, h_0⟩ := Option.bind_eq_some_iff.1 h_0
        try dsimp only at h_0
        have ff := ai @dc3 (ai @dr_0 (ai @w_0 (ai @g0_0 (ai @g1_0 (ai @g2_0 (ai @g3_0 (ai @g4_0 (ai @g5_0 (ai @kk0c (ai @kk0g0 (ai @kk0g1 p_impl_OverridesOf_tf.down)))))))))))
        try refine st_by ff ?_
        repeat' (first | exact trivial | refine And.intro sd ?_)
        first
        | (refine cq_call (p_impl_propAt_does N want_a2 x_0.Path v15 ev15) (hf_by ff) kr ⟨p_spec_OverridesOf_sa ff trivial, ?_⟩; clear ff)
        by_cases c16 : v15.2 = true
        case neg =>
         rw [if_neg c16] at h_0
         have dc16 := eq_false_of_ne_true c16
         cases h_0
         try dsimp only at h
         have ff := ai @dc3 (ai @dr_0 (ai @w_0 (ai @g0_0 (ai @g1_0 (ai @g2_0 (ai @g3_0 (ai @g4_0 (ai @g5_0 (ai @kk0c (ai @kk0g0 (ai @kk0g1 (ai @dc16 p_impl_OverridesOf_tf.down))))))))))))
         try refine st_by ff ?_
         repeat' (first | exact trivial | refine And.intro sd ?_)
         cases h
         exact ret_q2 rfl (p_spec_OverridesOf_rt ff trivial)
        rw [if_pos c16] at h_0
        have dc16 := c16
        have ff := ai @dc3 (ai @dr_0 (ai @w_0 (ai @g0_0 (ai @g1_0 (ai @g2_0 (ai @g3_0 (ai @g4_0 (ai @g5_0 (ai @kk0c (ai @kk0g0 (ai @kk0g1 (ai @dc16 p_impl_OverridesOf_tf.down))))))))))))
        try refine st_by ff ?_
        repeat' (first | exact trivial | refine And.intro sd ?_)
        refine Back.intro (i_0 + 1) ?_ ?_
        · clear ff; rw [hM_0]; show v1.1.length - (i_0 + 1) < v1.1.length - i_0; omega
        rw [hI_0]
        refine ⟨⟨by clear ff; show i_0 + 1 ≤ v1.1.length; omega, by show p_impl_OverridesOf_l0 N want_a2 (v1.1.drop (i_0 + 1)) (i_0 + 1) = some q_0; rw [hd_0]; exact h_0⟩, ?_⟩
        exact p_spec_OverridesOf_pv ff trivial
    · try clear ff
      rintro σ hg_0
      rw [hJ_0] at hg_0
      obtain ⟨hj_0, g0_0a, g1_0a, g2_0a⟩ := hg_0
      cases hj_0
      try dsimp only at h
      have hL_1 : want_a2.length ≤ 9223372036854775807 := by first | assumption | omega
      obtain ⟨q_1, eq_1, h⟩ := Option.bind_eq_some_iff.1 h
      have ff := ai @dc3 (ai @g0_0a (ai @g1_0a (ai @g2_0a p_impl_OverridesOf_tf.down)))
      try refine st_by ff ?_
      repeat' (first | exact trivial | refine And.intro sd ?_)
      obtain ⟨I_1, hI_1⟩ : ∃ I_ : (Nat × (List GProp)) → ASt → Prop, I_ = (fun (a : Nat × (List GProp)) σ => match a with | (i_1, out_24) => (i_1 ≤ want_a2.length ∧ p_impl_OverridesOf_l1 N v1 (want_a2.drop i_1) i_1 out_24 = some q_1) ∧ σ.t 8 = .sl 22 [0] 0 v1.1.length ∧ σ.t 14 = .sl 14 [] 0 out_24.length ∧ σ.t 49 = .row false 2 want_a2.length (esProp want_a2) ∧ σ.t 50 = I (want_a2.length : Int) ∧ σ.t 51 = I (i_1 : Int) ∧ σ.m 22 = some (.tup [.row true 2 v1.1.length (esProp v1.1), B v1.2]) ∧ σ.m 14 = some (.row true 2 out_24.length (esProp out_24))) := ⟨_, rfl⟩
      obtain ⟨M_1, hM_1⟩ : ∃ M_ : (Nat × (List GProp)) → Nat, M_ = (fun (a : Nat × (List GProp)) => match a with | (i_1, out_24) => want_a2.length - i_1) := ⟨_, rfl⟩
      obtain ⟨J_1, hJ_1⟩ : ∃ J_ : ASt → Prop, J_ = (fun σ => ∃ out_24 : List GProp, (some out_24 = some q_1) ∧ σ.t 14 = .sl 14 [] 0 out_24.length ∧ σ.m 14 = some (.row true 2 out_24.length (esProp out_24))) := ⟨_, rfl⟩
      refine aw_loopC (id := 2) I_1 M_1 J_1 (0, ([] : List GProp)) ?_ ?_ ?_
      · rw [hI_1]
        refine ⟨⟨Nat.zero_le _, eq_1⟩, ?_⟩
        exact p_spec_OverridesOf_pv ff trivial
      · try clear ff
        rintro ⟨i_1, out_24⟩ σ hg_1
        rw [hI_1] at hg_1
        obtain ⟨⟨hi_1, h_1⟩, g0_1, g1_1, g2_1, g3_1, g4_1, g5_1, g6_1⟩ := hg_1
        cases hr_1 : want_a2.drop i_1 with
        | nil =>
          rw [hr_1] at h_1
          rw [p_impl_OverridesOf_l1] at h_1
          have hn_1 := drop_nil hr_1
          have dr_1 : decide ((i_1 : Int) < (want_a2.length : Int)) = false := decide_eq_false (by omega)
          have ff := ai @dc3 (ai @dr_1 (ai @g0_1 (ai @g1_1 (ai @g2_1 (ai @g3_1 (ai @g4_1 (ai @g5_1 (ai @g6_1 p_impl_OverridesOf_tf.down))))))))
          try refine st_by ff ?_
          repeat' (first | exact trivial | refine And.intro sd ?_)
          refine JW.intro ?_
          rw [hJ_1]
          refine ⟨out_24, h_1, ?_⟩
          exact p_spec_OverridesOf_pv ff trivial
        | cons x_1 r_1 =>
          rw [hr_1] at h_1
          rw [p_impl_OverridesOf_l1] at h_1
          obtain ⟨ht_1, hg_1, hd_1⟩ := drop_cons hr_1
          have dr_1 : decide ((i_1 : Int) < (want_a2.length : Int)) = true := decide_eq_true (by omega)
          have w_1 : IntKind.i64.wrap ((i_1 : Int) + 1) = ((i_1 + 1 : Nat) : Int) := wI _ (by omega) (by omega)
          have kk1c : (esProp want_a2).drop (i_1 * 2) = eProp x_1 ++ esProp (want_a2.drop (i_1 + 1)) := drop_enc (fun _ => rfl) (hg_1)
          obtain ⟨v35, ev35, h_1⟩ := Option.bind_eq_some_iff.1 h_1
          try dsimp only at h_1
          have ff := ai @dc3 (ai @dr_1 (ai @w_1 (ai @g0_1 (ai @g1_1 (ai @g2_1 (ai @g3_1 (ai @g4_1 (ai @g5_1 (ai @g6_1 (ai @kk1c p_impl_OverridesOf_tf.down))))))))))
          try refine st_by ff ?_
          repeat' (first | exact trivial | refine And.intro sd ?_)
          first
          | (refine cq_lend (p_impl_propAt_does N v1.1 x_1.Path v35 ev35) (hf_by ff) kr ⟨p_spec_OverridesOf_sa ff trivial, ?_⟩; clear ff)
          by_cases c36 : v35.2 = true
          case neg =>
           rw [if_neg c36] at h_1
           have dc36 := eq_false_of_ne_true c36
           by_cases c40 : out_24.length < 4294967296
           case neg => rw [if_neg c40] at h_1; cases h_1
           rw [if_pos c40] at h_1
           have a41a : esProp out_24 ++ [S x_1.Path, S x_1.Value] = esProp (out_24 ++ [x_1]) := by simp [esProp_app, esProp_cons, esProp_nil, eProp_eq, esPrefab_nil, esProp_nil]
           have a41b : out_24.length + 1 = (out_24 ++ [x_1]).length := by simp
           have ff := ai @dc3 (ai @dr_1 (ai @w_1 (ai @g0_1 (ai @g1_1 (ai @g2_1 (ai @g3_1 (ai @g4_1 (ai @g5_1 (ai @g6_1 (ai @kk1c (ai @dc36 (ai @a41a (ai @a41b p_impl_OverridesOf_tf.down)))))))))))))
           try refine st_by ff ?_
           repeat' (first | exact trivial | refine And.intro sd ?_)
           refine Back.intro (i_1 + 1, (out_24 ++ [x_1])) ?_ ?_
           · clear ff; rw [hM_1]; show want_a2.length - (i_1 + 1) < want_a2.length - i_1; omega
           rw [hI_1]
           refine ⟨⟨by clear ff; show i_1 + 1 ≤ want_a2.length; omega, by show p_impl_OverridesOf_l1 N v1 (want_a2.drop (i_1 + 1)) (i_1 + 1) (out_24 ++ [x_1]) = some q_1; rw [hd_1]; exact h_1⟩, ?_⟩
           exact p_spec_OverridesOf_pv ff trivial
          rw [if_pos c36] at h_1
          have dc36 := c36
          by_cases c37 : v35.1 = x_1.Value
          · rw [if_pos c37] at h_1
            have dc37 := decide_eq_true c37
            have ff := ai @dc3 (ai @dr_1 (ai @w_1 (ai @g0_1 (ai @g1_1 (ai @g2_1 (ai @g3_1 (ai @g4_1 (ai @g5_1 (ai @g6_1 (ai @kk1c (ai @dc36 (ai @dc37 p_impl_OverridesOf_tf.down))))))))))))
            try refine st_by ff ?_
            repeat' (first | exact trivial | refine And.intro sd ?_)
            refine Back.intro (i_1 + 1, out_24) ?_ ?_
            · clear ff; rw [hM_1]; show want_a2.length - (i_1 + 1) < want_a2.length - i_1; omega
            rw [hI_1]
            refine ⟨⟨by clear ff; show i_1 + 1 ≤ want_a2.length; omega, by show p_impl_OverridesOf_l1 N v1 (want_a2.drop (i_1 + 1)) (i_1 + 1) out_24 = some q_1; rw [hd_1]; exact h_1⟩, ?_⟩
            exact p_spec_OverridesOf_pv ff trivial
          rw [if_neg c37] at h_1
          have dc37 := decide_eq_false c37
          by_cases c38 : out_24.length < 4294967296
          case neg => rw [if_neg c38] at h_1; cases h_1
          rw [if_pos c38] at h_1
          have a39a : esProp out_24 ++ [S x_1.Path, S x_1.Value] = esProp (out_24 ++ [x_1]) := by simp [esProp_app, esProp_cons, esProp_nil, eProp_eq, esPrefab_nil, esProp_nil]
          have a39b : out_24.length + 1 = (out_24 ++ [x_1]).length := by simp
          have ff := ai @dc3 (ai @dr_1 (ai @w_1 (ai @g0_1 (ai @g1_1 (ai @g2_1 (ai @g3_1 (ai @g4_1 (ai @g5_1 (ai @g6_1 (ai @kk1c (ai @dc36 (ai @dc37 (ai @a39a (ai @a39b p_impl_OverridesOf_tf.down))))))))))))))
          try refine st_by ff ?_
          repeat' (first | exact trivial | refine And.intro sd ?_)
          refine Back.intro (i_1 + 1, (out_24 ++ [x_1])) ?_ ?_
          · clear ff; rw [hM_1]; show want_a2.length - (i_1 + 1) < want_a2.length - i_1; omega
          rw [hI_1]
          refine ⟨⟨by clear ff; show i_1 + 1 ≤ want_a2.length; omega, by show p_impl_OverridesOf_l1 N v1 (want_a2.drop (i_1 + 1)) (i_1 + 1) (out_24 ++ [x_1]) = some q_1; rw [hd_1]; exact h_1⟩, ?_⟩
          exact p_spec_OverridesOf_pv ff trivial
      · try clear ff
        rintro σ hg_1
        rw [hJ_1] at hg_1
        obtain ⟨out_24, hj_1, g0_1a, g1_1a⟩ := hg_1
        have hjj_1 := Option.some.inj hj_1
        subst hjj_1
        try dsimp only at h
        have ff := ai @dc3 (ai @g0_1a (ai @g1_1a p_impl_OverridesOf_tf.down))
        try refine st_by ff ?_
        repeat' (first | exact trivial | refine And.intro sd ?_)
        cases h
        exact ret_q2 rfl (p_spec_OverridesOf_rt ff trivial)
  have hrt_0 := fun σ : ASt => congrFun (congrFun hk_0.symm AX.rt) σ
  have hex_0 := fun (i : Nat) (σ : ASt) => congrFun (congrFun hk_0.symm (AX.ex i)) σ
  by_cases c42 : v1.2 = true
  case neg =>
   rw [if_neg c42] at h
   have dc42 := eq_false_of_ne_true c42
   have ff := ai @hrt_0 (ai @hex_0 (ai @dc42 p_impl_OverridesOf_tf.down))
   try refine st_by ff ?_
   repeat' (first | exact trivial | refine And.intro sd ?_)
   refine key_0 _ ?_
   refine ⟨true, h, ?_⟩
   exact p_spec_OverridesOf_pv ff trivial
  rw [if_pos c42] at h
  have dc42 := c42
  obtain ⟨v43, ev43, h⟩ := Option.bind_eq_some_iff.1 h
  try dsimp only at h
  have ff := ai @hrt_0 (ai @hex_0 (ai @dc42 p_impl_OverridesOf_tf.down))
  try refine st_by ff ?_
  repeat' (first | exact trivial | refine And.intro sd ?_)
  first
  | (refine cq_call (p_impl_GoodProps_does want_a2 v43 ev43) (hf_by ff) kr ⟨p_spec_OverridesOf_sa ff trivial, ?_⟩; clear ff)
  have ff := ai @hrt_0 (ai @hex_0 (ai @dc42 p_impl_OverridesOf_tf.down))
  try refine st_by ff ?_
  repeat' (first | exact trivial | refine And.intro sd ?_)
  refine key_0 _ ?_
  refine ⟨!v43, h, ?_⟩
  exact p_spec_OverridesOf_pv ff trivial
end Go.Av
end
section
set_option linter.unusedSimpArgs false
set_option linter.unusedVariables false
set_option maxRecDepth 100000
namespace Go.Av
/-! Paths and props: the program and the reference alike. -/
/-- A text in pieces: the piece so far, and what is left. -/
def pcsL (b : UInt8) : List UInt8 → List UInt8 → List (List UInt8)
  | cur, [] => [cur]
  | cur, x :: l => if x = b then cur :: pcsL b [] l else pcsL b (cur ++ [x]) l
theorem pcsL_nil (b : UInt8) (cur : List UInt8) : pcsL b cur [] = [cur] := by rw [pcsL]
theorem pcsL_cons (b : UInt8) (cur : List UInt8) (x : UInt8) (l : List UInt8) : pcsL b cur (x :: l) = if x = b then cur :: pcsL b [] l else pcsL b (cur ++ [x]) l := by rw [pcsL]
def bOf (l : List UInt8) : ByteArray := ⟨l.toArray⟩
theorem bOf_data (s : ByteArray) : bOf s.data.toList = s := by
  unfold bOf; cases s; simp
theorem ixB_miss (b : UInt8) : ∀ (l cur : List UInt8), Lib.indexByte l b = -1 → pcsL b cur l = [cur ++ l]
  | [], cur, _ => by simp [pcsL_nil]
  | x :: l, cur, h => by
    unfold Lib.indexByte at h
    by_cases e : x = b
    · simp [e] at h
    · have e' : (x == b) = false := by simpa using e
      have hge := Lib.indexByte_ge l b
      rw [e'] at h
      simp only [Bool.false_eq_true, if_false] at h
      by_cases h1 : Lib.indexByte l b = -1
      · rw [pcsL_cons, if_neg e, ixB_miss b l _ h1]; simp
      · rw [if_neg (by simpa using h1)] at h; omega
theorem ixB_hit (b : UInt8) : ∀ (l cur : List UInt8) (i : Nat), Lib.indexByte l b = (i : Int) → i < l.length ∧ pcsL b cur l = (cur ++ l.take i) :: pcsL b [] (l.drop (i + 1))
  | [], cur, i, h => by simp [Lib.indexByte] at h
  | x :: l, cur, i, h => by
    unfold Lib.indexByte at h
    by_cases e : x = b
    · rw [if_pos (by simpa using e)] at h
      have : i = 0 := by omega
      subst this
      rw [pcsL_cons, if_pos e]; simp
    · have e' : (x == b) = false := by simpa using e
      have hge := Lib.indexByte_ge l b
      rw [e'] at h
      simp only [Bool.false_eq_true, if_false] at h
      by_cases h1 : Lib.indexByte l b = -1
      · rw [if_pos (by simpa using h1)] at h; omega
      · rw [if_neg (by simpa using h1)] at h
        obtain ⟨j, hj⟩ : ∃ j : Nat, Lib.indexByte l b = j := ⟨(Lib.indexByte l b).toNat, by omega⟩
        obtain ⟨g1, g2⟩ := ixB_hit b l (cur ++ [x]) j hj
        have : i = j + 1 := by omega
        subst this
        refine ⟨by simp; omega, ?_⟩
        rw [pcsL_cons, if_neg e, g2]; simp
theorem indexB_one (s : ByteArray) (b : UInt8) : Lib.indexB s ⟨#[b]⟩ = Lib.indexByte s.data.toList b := by
  show Lib.index s.data.toList [b] = _
  rw [Lib.index_one]
theorem pieces_eq (b : UInt8) : ∀ (k : Nat) (s : ByteArray), Lib.countB s ⟨#[b]⟩ = k → Lib.splitB ⟨#[b]⟩ 0 k s = (pcsL b [] s.data.toList).map bOf := fun k => by
  induction k with
  | zero =>
    intro s hk
    rcases Lib.indexB_cases s ⟨#[b]⟩ with h | ⟨i, h, hle⟩
    · rw [Lib.splitB_miss _ _ _ _ h, ixB_miss b _ _ (by rw [← indexB_one]; exact h)]
      simp [bOf_data]
    · have hc := Lib.countB_hit s ⟨#[b]⟩ i (Nat.le_refl _) h
      omega
  | succ k ih =>
    intro s hk
    rcases Lib.indexB_cases s ⟨#[b]⟩ with h | ⟨i, h, hle⟩
    · rw [Lib.countB_miss _ _ h] at hk; cases hk
    · have hc := Lib.countB_hit s ⟨#[b]⟩ i (Nat.le_refl _) h
      obtain ⟨g1, g2⟩ := ixB_hit b s.data.toList [] i (by rw [← indexB_one]; exact h)
      have e1 : (⟨#[b]⟩ : ByteArray).size = 1 := rfl
      rw [e1] at hc
      have ih := ih (s.extract (i + 1) s.size) (by omega)
      have d1 : (s.extract 0 i).data.toList = s.data.toList.take i := by simp
      have d2 : (s.extract (i + 1) s.size).data.toList = s.data.toList.drop (i + 1) := by
        have : s.size = s.data.size := rfl
        rw [ByteArray.data_extract, Array.toList_extract, List.extract_eq_take_drop]
        exact List.take_of_length_le (by rw [List.length_drop, this, Array.length_toList]; omega)
      rw [Lib.splitB_hit _ _ _ _ i h, g2, e1, Nat.add_zero, ih, d2, List.map_cons, List.nil_append, ← d1, bOf_data]
theorem toList_len (s : ByteArray) : s.data.toList.length = s.size := by rw [Array.length_toList]; rfl
theorem extr (s : ByteArray) (a i : Nat) (h : a ≤ i) (hi : i ≤ s.size) : s.extract a i = bOf ((s.data.toList.drop a).take (i - a)) := by
  rw [← bOf_data (s.extract a i)]; congr 1
  rw [ByteArray.data_extract, Array.toList_extract, List.extract_eq_take_drop]
theorem split_l0 (s : ByteArray) (hl : s.size ≤ 1048576) : ∀ (n a i : Nat) (out : List ByteArray), a ≤ i → i ≤ s.size → s.size - i + 1 < n → out.length ≤ i →
    ∃ a' i', p_spec_l1Split_l0 s 47 n (a : Int) (i : Int) out = some (a', i', out ++ (pcsL 47 ((s.data.toList.drop a).take (i - a)) (s.data.toList.drop i)).map bOf)
  | 0, a, i, out, _, _, h, _ => by omega
  | n + 1, a, i, out, h1, h2, h3, h4 => by
    have hw : IntKind.i64.wrap ((i : Int) + 1) = ((i + 1 : Nat) : Int) := by rw [wI _ (by omega) (by omega)]; omega
    have hb : bslc s (a : Int) (i : Int) = some (bOf ((s.data.toList.drop a).take (i - a))) := by
      unfold bslc; rw [if_pos (by omega), Int.toNat_natCast, Int.toNat_natCast, extr s a i h1 h2]
    have hlen := toList_len s
    unfold p_spec_l1Split_l0
    rw [if_pos (by omega)]
    by_cases c : i = s.size
    · subst c
      rw [if_pos rfl]
      unfold p_spec_l1Split_j0
      rw [if_pos rfl, hb, Option.bind_some, if_pos (by omega), hw]
      match n, h3 with
      | n + 1, _ =>
        unfold p_spec_l1Split_l0
        rw [if_neg (by omega), List.drop_of_length_le (show s.data.toList.length ≤ s.size by omega), pcsL_nil]
        exact ⟨_, _, rfl⟩
    · have hi : i < s.size := by omega
      have hlt : i < s.data.toList.length := by omega
      have hd : s.data.toList.drop i = s.data.toList[i] :: s.data.toList.drop (i + 1) := List.drop_eq_getElem_cons hlt
      have hbi : bidx s (i : Int) = some ((s.data.toList[i].toNat : Nat) : Int) := by
        unfold bidx; rw [if_pos (by omega)]
        unfold byteAt
        rw [dif_pos (by simpa using hi)]
        simp only [Int.toNat_natCast]
        rfl
      rw [if_neg (by omega), hbi, Option.bind_some]
      unfold p_spec_l1Split_j0
      rw [hd, pcsL_cons]
      by_cases e : s.data.toList[i] = 47
      · rw [if_pos (by rw [e]; rfl), hb, Option.bind_some, if_pos (by omega), hw, if_pos e]
        obtain ⟨a', i', r⟩ := split_l0 s hl n (i + 1) (i + 1) (out ++ [bOf ((s.data.toList.drop a).take (i - a))]) (Nat.le_refl _) (by omega) (by omega) (by simp; omega)
        rw [Nat.sub_self, List.take_zero] at r
        exact ⟨a', i', by rw [r]; simp⟩
      · have e' : ¬ (((s.data.toList[i].toNat : Nat) : Int) == 47) = true := fun h => e (by
          have h : ((s.data.toList[i].toNat : Nat) : Int) = 47 := by simpa using h
          exact UInt8.toNat.inj (by show s.data.toList[i].toNat = 47; omega))
        rw [if_neg e', hw, if_neg e]
        obtain ⟨a', i', r⟩ := split_l0 s hl n a (i + 1) out (by omega) (by omega) (by omega) (by omega)
        refine ⟨a', i', ?_⟩
        rw [r]
        have : (s.data.toList.drop a).take (i + 1 - a) = (s.data.toList.drop a).take (i - a) ++ [s.data.toList[i]] := by
          rw [show i + 1 - a = (i - a) + 1 by omega, List.take_add_one, List.getElem?_drop, show a + (i - a) = i by omega, List.getElem?_eq_getElem hlt]; rfl
        rw [this]
theorem specSplit (N : Nat) (s : ByteArray) (hl : s.size ≤ 1048576) (hN : s.size + 1 < N) : p_spec_l1Split N s 47 = some (piecesB 47 s) := by
  unfold p_spec_l1Split
  obtain ⟨a', i', r⟩ := split_l0 s hl N 0 0 [] (Nat.le_refl _) (Nat.zero_le _) (by omega) (Nat.le_refl _)
  rw [show ((0 : Nat) : Int) = 0 from rfl] at r
  rw [r, Option.bind_some]
  unfold piecesB
  rw [pieces_eq 47 _ s rfl]
  simp
theorem pieces_size (b : UInt8) : ∀ (l cur : List UInt8), ∀ p ∈ pcsL b cur l, p.length ≤ cur.length + l.length
  | [], cur, p, h => by rw [pcsL_nil] at h; simp at h; subst h; simp
  | x :: l, cur, p, h => by
    rw [pcsL_cons] at h
    split at h
    · rcases List.mem_cons.1 h with rfl | h
      · simp
      · have := pieces_size b l [] p h; simp at this ⊢; omega
    · have := pieces_size b l _ p h; simp at this ⊢; omega
theorem piece_size {b : UInt8} {s p : ByteArray} (h : p ∈ piecesB b s) : p.size ≤ s.size := by
  unfold piecesB at h
  rw [pieces_eq b _ s rfl] at h
  obtain ⟨q, h1, rfl⟩ := List.mem_map.1 h
  have := pieces_size b _ _ q h1
  rw [toList_len] at this
  show q.toArray.size ≤ _
  simpa using this
/-- What a path is. -/
def pathB (s : ByteArray) : Bool := decide ((piecesB 47 s).length ≤ 5) && (piecesB 47 s).all goodName
theorem spec_path_l0 : ∀ (l : List ByteArray) (i : Nat), (∀ p ∈ l, p.size ≤ 9223372036854775807) → p_spec_l26Path_l0 l i = some (if l.all goodName = true then .out () else .ret false)
  | [], i, _ => by simp [p_spec_l26Path_l0]
  | x :: r, i, h => by
    rw [p_spec_l26Path_l0, if_pos (h x (by simp)), spec_path_l0 r (i + 1) (fun p hp => h p (by simp [hp]))]
    cases hx : goodName x <;> simp [hx]
theorem specPath (N : Nat) (s : ByteArray) (hl : s.size ≤ 1048576) (hN : s.size + 1 < N) : p_spec_l26Path N s = some (pathB s) := by
  unfold p_spec_l26Path pathB
  rw [specSplit N s hl hN, Option.bind_some, spec_path_l0 _ _ (fun p hp => by have := piece_size hp; omega), Option.bind_some]
  cases h : (piecesB 47 s).all goodName with
  | false => simp
  | true => simp; omega
theorem ixS (f : ByteArray → Bool) : ∀ (l : List ByteArray) (i : Nat) (g : ByteArray → Option Bool), (∀ x ∈ l, g x = some (f x)) → ∃ k : Nat, p_slices_IndexFunc_string_string_l0 g l i = some (if l.any f = true then .ret (k : Int) else .out ())
  | [], i, g, _ => ⟨0, by simp [p_slices_IndexFunc_string_string_l0]⟩
  | y :: r, i, g, h => by
    obtain ⟨k, ih⟩ := ixS f r (i + 1) g (fun x hx => h x (by simp [hx]))
    rw [p_slices_IndexFunc_string_string_l0, h y (by simp), Option.bind_some]
    cases hy : f y with
    | true => exact ⟨i, by simp [hy]⟩
    | false => exact ⟨k, by rw [if_neg (by simp), ih]; simp [hy]⟩
theorem implPath (s : ByteArray) (hl : s.size ≤ 1048576) : p_impl_isPath s = some (pathB s) := by
  unfold p_impl_isPath pathB splitP
  rw [if_pos ⟨rfl, by omega⟩, Option.bind_some]
  by_cases c : (piecesB 47 s).length ≤ 5
  · rw [if_pos (by omega)]
    unfold p_slices_ContainsFunc_string_string p_slices_IndexFunc_string_string
    obtain ⟨k, e⟩ := ixS (fun x => !goodName x) (piecesB 47 s) 0 (fun x0_ => p_impl_isPath_1 x0_) (fun x hx => by
      unfold p_impl_isPath_1; rw [if_pos (by have := piece_size hx; omega)])
    rw [e, Option.bind_some]
    have : (piecesB 47 s).all goodName = !((piecesB 47 s).any fun x => !goodName x) := by
      rw [List.not_any_eq_all_not]; simp
    rw [this]
    cases (piecesB 47 s).any fun x => !goodName x <;> simp [c]
  · rw [if_neg (by omega)]; simp [c]
/-- Good props. -/
def okP (l : List GProp) (i : Nat) (x : GProp) : Bool := pathB x.Path && rng (x.Value.size : Int) 1 40 && (if i = 0 then true else (l[i - 1]?).elim false fun p => blt p.Path x.Path)
def okPs (l : List GProp) : Nat → List GProp → Bool
  | _, [] => true
  | i, x :: r => okP l i x && okPs l (i + 1) r
def goodP (l : List GProp) : Bool := decide (l.length ≤ 40) && okPs l 0 l
theorem idxP2 {α : Type} {l : List α} {i : Nat} (h0 : 0 < i) (h : i < l.length) (hl : l.length ≤ 9223372036854775807) : idx l (IntKind.i64.wrap ((i : Int) - 1)) = some (l[i - 1]'(by omega)) := by
  rw [wI _ (by omega) (by omega), show (i : Int) - 1 = ((i - 1 : Nat) : Int) by omega]
  exact idx_of (by omega)
theorem specP_l0 (N : Nat) (l : List GProp) (hl : l.length ≤ 1048576) (hs : ∀ x ∈ l, x.Path.size ≤ 1048576) (hN : ∀ x ∈ l, x.Path.size + 1 < N) : ∀ (r : List GProp) (i : Nat), l.drop i = r → p_spec_GoodProps_l0 N l r i = some (if okPs l i r = true then .out () else .ret false)
  | [], i, _ => by simp [p_spec_GoodProps_l0, okPs]
  | x :: r, i, h => by
    obtain ⟨h1, h2, h3⟩ := drop_cons h
    have hx : x ∈ l := List.mem_of_getElem? h2
    rw [p_spec_GoodProps_l0, specPath N x.Path (hs x hx) (hN x hx), Option.bind_some, specP_l0 N l hl hs hN r (i + 1) h3]
    unfold p_spec_l26Value
    rw [Option.bind_some]
    by_cases c : (i : Int) > 0
    · have e : okPs l i (x :: r) = (pathB x.Path && rng (x.Value.size : Int) 1 40 && Op.bytesLess (l[i - 1]'(by omega)).Path.toList x.Path.toList && okPs l (i + 1) r) := by
        simp only [okPs, okP]
        rw [if_neg (show ¬ i = 0 by omega), List.getElem?_eq_getElem (show i - 1 < l.length by omega)]; rfl
      rw [if_pos c, idxP2 (by omega) h1 (by omega), Option.bind_some, e]
      cases pathB x.Path <;> cases rng (x.Value.size : Int) 1 40 <;> cases Op.bytesLess (l[i - 1]'(by omega)).Path.toList x.Path.toList <;> simp
    · have e : okPs l i (x :: r) = (pathB x.Path && rng (x.Value.size : Int) 1 40 && okPs l (i + 1) r) := by
        simp only [okPs, okP]
        rw [if_pos (show i = 0 by omega), Bool.and_true]
      rw [if_neg c, e]
      cases pathB x.Path <;> cases rng (x.Value.size : Int) 1 40 <;> simp
theorem implP_l0 (l : List GProp) (hl : l.length ≤ 1048576) (hs : ∀ x ∈ l, x.Path.size ≤ 1048576) : ∀ (r : List GProp) (i : Nat), l.drop i = r → p_impl_GoodProps_l0 l r i = some (if okPs l i r = true then .out () else .ret false)
  | [], i, _ => by simp [p_impl_GoodProps_l0, okPs]
  | x :: r, i, h => by
    obtain ⟨h1, h2, h3⟩ := drop_cons h
    have hx : x ∈ l := List.mem_of_getElem? h2
    rw [p_impl_GoodProps_l0, implPath x.Path (hs x hx), Option.bind_some, implP_l0 l hl hs r (i + 1) h3]
    unfold p_impl_isPropValue
    rw [Option.bind_some]
    by_cases c : (i : Int) > 0
    · have e : okPs l i (x :: r) = (pathB x.Path && rng (x.Value.size : Int) 1 40 && Op.bytesLess (l[i - 1]'(by omega)).Path.toList x.Path.toList && okPs l (i + 1) r) := by
        simp only [okPs, okP]
        rw [if_neg (show ¬ i = 0 by omega), List.getElem?_eq_getElem (show i - 1 < l.length by omega)]; rfl
      rw [if_pos c, idxP2 (by omega) h1 (by omega), Option.bind_some, e]
      cases pathB x.Path <;> cases rng (x.Value.size : Int) 1 40 <;> cases Op.bytesLess (l[i - 1]'(by omega)).Path.toList x.Path.toList <;> simp
    · have e : okPs l i (x :: r) = (pathB x.Path && rng (x.Value.size : Int) 1 40 && okPs l (i + 1) r) := by
        simp only [okPs, okP]
        rw [if_pos (show i = 0 by omega), Bool.and_true]
      rw [if_neg c, e]
      cases pathB x.Path <;> cases rng (x.Value.size : Int) 1 40 <;> simp
theorem specProps (N : Nat) (l : List GProp) (hl : l.length ≤ 1048576) (hs : ∀ x ∈ l, x.Path.size ≤ 1048576) (hN : ∀ x ∈ l, x.Path.size + 1 < N) : p_spec_GoodProps N l = some (goodP l) := by
  unfold p_spec_GoodProps goodP
  by_cases c : (l.length : Int) > 40
  · rw [if_pos c, show decide (l.length ≤ 40) = false by simp; omega]; rfl
  · rw [if_neg c, specP_l0 N l hl hs hN l 0 rfl, Option.bind_some, show decide (l.length ≤ 40) = true by simp; omega]
    cases okPs l 0 l <;> simp
theorem implProps (l : List GProp) (hl : l.length ≤ 1048576) (hs : ∀ x ∈ l, x.Path.size ≤ 1048576) : p_impl_GoodProps l = some (goodP l) := by
  unfold p_impl_GoodProps goodP
  rw [implP_l0 l hl hs l 0 rfl, Option.bind_some]
  cases okPs l 0 l with
  | false => simp
  | true => simp; omega
end Go.Av
end
section
set_option linter.unusedSimpArgs false
set_option linter.unusedVariables false
set_option maxRecDepth 100000
namespace Go.Av
/-! GoodPrefabs: the program and the reference alike. -/
/-- Where a prefab of a name stands first, or -1. -/
def ixN (t : ByteArray) (l : List GPrefab) : Int := if (l.any fun x => decide (x.Name = t)) = true then ((l.findIdx fun x => decide (x.Name = t) : Nat) : Int) else -1
theorem ixN_impl0 (t : ByteArray) : ∀ (l : List GPrefab) (i : Nat), p_slices_IndexFunc_impl_Prefab_impl_Prefab_l0 (fun x0_ => p_impl_prefabAt_1 x0_ t) l i = some (if (l.any fun x => decide (x.Name = t)) = true then .ret ((i + (l.findIdx fun x => decide (x.Name = t)) : Nat) : Int) else .out ())
  | [], i => by simp [p_slices_IndexFunc_impl_Prefab_impl_Prefab_l0]
  | y :: r, i => by
    have ih := ixN_impl0 t r (i + 1)
    rw [p_slices_IndexFunc_impl_Prefab_impl_Prefab_l0, p_impl_prefabAt_1, Option.bind_some]
    by_cases hy : y.Name = t
    · simp [hy, List.findIdx_cons]
    · rw [if_neg (by simpa using hy), ih]
      simp only [List.any_cons, hy, decide_false, Bool.false_or, List.findIdx_cons, cond_false]
      congr 1
      split
      · congr 1; omega
      · rfl
theorem ixN_impl (t : ByteArray) (l : List GPrefab) : p_impl_prefabAt l t = some (ixN t l) := by
  unfold p_impl_prefabAt p_slices_IndexFunc_impl_Prefab_impl_Prefab ixN
  rw [ixN_impl0, Option.bind_some]
  cases (l.any fun x => decide (x.Name = t)) <;> simp
theorem ixN_spec0 (t : ByteArray) : ∀ (l : List GPrefab) (i : Nat), p_spec_l26Prefab_l0 t l i = some (if (l.any fun x => decide (x.Name = t)) = true then .ret ((i + (l.findIdx fun x => decide (x.Name = t)) : Nat) : Int) else .out ())
  | [], i => by simp [p_spec_l26Prefab_l0]
  | y :: r, i => by
    have ih := ixN_spec0 t r (i + 1)
    rw [p_spec_l26Prefab_l0]
    by_cases hy : y.Name = t
    · rw [if_pos hy]; simp [hy, List.findIdx_cons]
    · rw [if_neg hy, ih]
      simp only [List.any_cons, hy, decide_false, Bool.false_or, List.findIdx_cons, cond_false]
      congr 1
      split
      · congr 1; omega
      · rfl
theorem ixN_spec (t : ByteArray) (l : List GPrefab) : p_spec_l26Prefab l t = some (ixN t l) := by
  unfold p_spec_l26Prefab ixN
  rw [ixN_spec0, Option.bind_some]
  cases (l.any fun x => decide (x.Name = t)) <;> simp
theorem ixN_cases (t : ByteArray) (l : List GPrefab) : ixN t l = -1 ∧ (∀ x ∈ l, x.Name ≠ t) ∨ ∃ k : Nat, ixN t l = (k : Int) ∧ k < l.length ∧ ∃ x, l[k]? = some x ∧ x.Name = t := by
  unfold ixN
  cases h : (l.any fun x => decide (x.Name = t)) with
  | false =>
    refine .inl ⟨by simp, fun x hx e => ?_⟩
    rw [List.any_eq_false] at h
    exact h x hx (by simpa using e)
  | true =>
    have hlt : (l.findIdx fun x => decide (x.Name = t)) < l.length := List.findIdx_lt_length.2 (by
      obtain ⟨x, hx, hx2⟩ := List.any_eq_true.1 h; exact ⟨x, hx, hx2⟩)
    have hg := List.findIdx_getElem (w := hlt)
    exact .inr ⟨_, by simp, hlt, _, List.getElem?_eq_getElem hlt, by simpa using hg⟩
theorem ixN_at {l : List GPrefab} {i : Nat} {x : GPrefab} (h : l[i]? = some x) : (ixN x.Name l = (i : Int)) ↔ ixN x.Name (l.take i) = -1 := by
  obtain ⟨hi, hx⟩ := List.getElem?_eq_some_iff.1 h
  have e : l = l.take i ++ (x :: l.drop (i + 1)) := by rw [← hx, ← List.drop_eq_getElem_cons hi, List.take_append_drop]
  have hany : (l.any fun y => decide (y.Name = x.Name)) = true := List.any_eq_true.2 ⟨x, List.mem_of_getElem? h, by simp⟩
  have hlt : (l.take i).length = i := by rw [List.length_take]; omega
  have h1 : ixN x.Name l = ((l.findIdx fun y => decide (y.Name = x.Name) : Nat) : Int) := by unfold ixN; rw [hany]; rfl
  have h2 : (l.findIdx fun y => decide (y.Name = x.Name)) = if ((l.take i).findIdx fun y => decide (y.Name = x.Name)) < (l.take i).length then (l.take i).findIdx fun y => decide (y.Name = x.Name) else (x :: l.drop (i + 1)).findIdx (fun y => decide (y.Name = x.Name)) + (l.take i).length := by
    conv => lhs; rw [e]
    exact List.findIdx_append
  rw [h1, h2]
  cases ha : ((l.take i).any fun y => decide (y.Name = x.Name)) with
  | true =>
    have hl : ((l.take i).findIdx fun y => decide (y.Name = x.Name)) < (l.take i).length := List.findIdx_lt_length.2 (by
      obtain ⟨z, hz, hz2⟩ := List.any_eq_true.1 ha; exact ⟨z, hz, hz2⟩)
    rw [if_pos hl]
    have : ixN x.Name (l.take i) = (((l.take i).findIdx fun y => decide (y.Name = x.Name) : Nat) : Int) := by unfold ixN; rw [ha]; rfl
    rw [this]
    constructor <;> intro hh <;> omega
  | false =>
    have hl : ¬ ((l.take i).findIdx fun y => decide (y.Name = x.Name)) < (l.take i).length := fun hh => by
      obtain ⟨z, hz, hz2⟩ := List.findIdx_lt_length.1 hh
      rw [List.any_eq_false] at ha
      exact ha z hz hz2
    rw [if_neg hl, List.findIdx_cons]
    have : ixN x.Name (l.take i) = -1 := by unfold ixN; rw [ha]; rfl
    rw [this]
    simp [hlt]
def dep (l : List GPrefab) (i : Nat) (nest : List Int) (x : GPrefab) : Option Int := if x.From = (⟨#[]⟩ : ByteArray) then some 1 else (if ixN x.From (l.take i) < 0 then none else some (nest.getD (ixN x.From (l.take i)).toNat 0 + 1))
def gpL (l : List GPrefab) : List GPrefab → Nat → List Int → Bool
  | [], _, _ => true
  | x :: r, i, nest => (dep l i nest x).elim false fun d => goodName x.Name && decide (ixN x.Name (l.take i) = -1) && decide (d ≤ 5) && goodP x.Props && gpL l r (i + 1) (nest ++ [d])
def okN (nest : List Int) : Prop := ∀ d ∈ nest, 1 ≤ d ∧ d ≤ 5
theorem okN_app {nest : List Int} {d : Int} (h : okN nest) (hd : 1 ≤ d ∧ d ≤ 5) : okN (nest ++ [d]) := fun y hy => by
  rcases List.mem_append.1 hy with hy | hy
  · exact h y hy
  · rw [List.mem_singleton.1 hy]; exact hd
theorem okN_get {nest : List Int} {k : Nat} (h : okN nest) (hk : k < nest.length) : 1 ≤ nest.getD k 0 ∧ nest.getD k 0 ≤ 5 := by
  rw [List.getD_eq_getElem?_getD, List.getElem?_eq_getElem hk]; exact h _ (List.getElem_mem hk)
def okPf (x : GPrefab) : Prop := x.Name.size ≤ 1048576 ∧ x.Props.length ≤ 1048576 ∧ ∀ y ∈ x.Props, y.Path.size ≤ 1048576
theorem gp_impl (l : List GPrefab) (hl : l.length ≤ 1048576) (hp : ∀ x ∈ l, okPf x) : ∀ (r : List GPrefab) (i : Nat) (nest : List Int), l.drop i = r → nest.length = i → okN nest → ∃ q, p_impl_GoodPrefabs_l0 l r i nest = some (if gpL l r i nest = true then .out q else .ret false)
  | [], i, nest, _, _, _ => ⟨nest, by simp [p_impl_GoodPrefabs_l0, gpL]⟩
  | x :: r, i, nest, h, hn, ho => by
    obtain ⟨h1, h2, h3⟩ := drop_cons h
    have hx := hp x (List.mem_of_getElem? h2)
    have j0 : ∀ d : Int, 1 ≤ d → ∃ q, p_impl_GoodPrefabs_j0 l nest x i (p_impl_GoodPrefabs_l0 l r) d = some (if (goodName x.Name && decide (ixN x.Name (l.take i) = -1) && decide (d ≤ 5) && goodP x.Props && gpL l r (i + 1) (nest ++ [d])) = true then .out q else .ret false) := fun d hd => by
      unfold p_impl_GoodPrefabs_j0
      rw [if_pos (by omega), if_pos (by have := hx.1; omega), ixN_impl, implProps x.Props hx.2.1 hx.2.2, Option.bind_some, Option.bind_some]
      cases hg : goodName x.Name with
      | false => exact ⟨[], by simp⟩
      | true =>
        by_cases c : ixN x.Name (l.take i) = -1
        · rw [if_pos rfl, if_pos ((ixN_at h2).2 c)]
          by_cases c2 : d > 5
          · rw [if_pos c2]; exact ⟨[], by simp; omega⟩
          · rw [if_neg c2]
            obtain ⟨q, ih⟩ := gp_impl l hl hp r (i + 1) (nest ++ [d]) h3 (by simp; omega) (okN_app ho ⟨hd, by omega⟩)
            rw [ih]
            refine ⟨q, ?_⟩
            have c3 : decide (d ≤ 5) = true := by simp; omega
            rw [c3]
            cases goodP x.Props <;> simp [c]
        · rw [if_pos rfl, if_neg (fun e => c ((ixN_at h2).1 e))]; exact ⟨[], by simp [c]⟩
    have eg : ∀ d, dep l i nest x = some d → gpL l (x :: r) i nest = (goodName x.Name && decide (ixN x.Name (l.take i) = -1) && decide (d ≤ 5) && goodP x.Props && gpL l r (i + 1) (nest ++ [d])) := fun d hd => by
      rw [gpL, hd]; rfl
    have en : dep l i nest x = none → gpL l (x :: r) i nest = false := fun hd => by rw [gpL, hd]; rfl
    rw [p_impl_GoodPrefabs_l0]
    by_cases c : x.From = (⟨#[]⟩ : ByteArray)
    · obtain ⟨q, e⟩ := j0 1 (by omega)
      rw [if_pos c, e, eg 1 (by unfold dep; rw [if_pos c])]; exact ⟨q, rfl⟩
    · rw [if_neg c, show slc l 0 (i : Int) = some (l.take i) from by unfold slc; rw [if_pos (by omega)]; simp, Option.bind_some, ixN_impl, Option.bind_some]
      rcases ixN_cases x.From (l.take i) with ⟨k1, _⟩ | ⟨k, k1, k2, _⟩
      · rw [if_pos (by omega), en (by unfold dep; rw [if_neg c, if_pos (by omega)])]; exact ⟨[], by simp⟩
      · have k3 : k < nest.length := by rw [List.length_take] at k2; omega
        have hgd := okN_get ho k3
        rw [if_neg (by omega), k1]
        have : idx nest (k : Int) = some (nest.getD k 0) := by unfold idx; rw [if_pos (by omega), Int.toNat_natCast, List.getD_eq_getElem?_getD, List.getElem?_eq_getElem k3]; rfl
        rw [this, Option.bind_some, wI _ (by omega) (by omega)]
        obtain ⟨q, e⟩ := j0 (nest.getD k 0 + 1) (by omega)
        rw [e, eg (nest.getD k 0 + 1) (by unfold dep; rw [if_neg c, if_neg (by omega), k1, Int.toNat_natCast])]; exact ⟨q, rfl⟩
theorem gp_spec (N : Nat) (l : List GPrefab) (hl : l.length ≤ 1048576) (hp : ∀ x ∈ l, okPf x) (hN : 1048577 < N) : ∀ (r : List GPrefab) (i : Nat) (nest deep : List Int), l.drop i = r → nest.length = i → deep.take i = nest → deep.length = l.length → okN nest → ∃ q, p_spec_GoodPrefabs_l0 N l r i deep = some (if gpL l r i nest = true then .out q else .ret false)
  | [], i, nest, deep, _, _, _, _, _ => ⟨deep, by simp [p_spec_GoodPrefabs_l0, gpL]⟩
  | x :: r, i, nest, deep, h, hn, ht, hdl, ho => by
    obtain ⟨h1, h2, h3⟩ := drop_cons h
    have hx := hp x (List.mem_of_getElem? h2)
    have e0 : slc l 0 (i : Int) = some (l.take i) := by unfold slc; rw [if_pos (by omega)]; simp
    have j0 : ∀ (d : Int) (dp : List Int), 1 ≤ d → dp.length = l.length → dp.take i = nest → dp[i]? = some d → ∃ q, p_spec_GoodPrefabs_j0 N l x i (p_spec_GoodPrefabs_l0 N l r) dp = some (if (goodName x.Name && decide (ixN x.Name (l.take i) = -1) && decide (d ≤ 5) && goodP x.Props && gpL l r (i + 1) (nest ++ [d])) = true then .out q else .ret false) := fun d dp hd hdp1 hdp2 hdp3 => by
      unfold p_spec_GoodPrefabs_j0
      have ei : idx dp (i : Int) = some d := by unfold idx; rw [if_pos (by omega), Int.toNat_natCast, hdp3]
      rw [if_pos (by have := hx.1; omega), e0, Option.bind_some, ixN_spec, ei, Option.bind_some, Option.bind_some, specProps N x.Props hx.2.1 hx.2.2 (fun y hy => by have := hx.2.2 y hy; omega), Option.bind_some]
      cases hg : goodName x.Name with
      | false => exact ⟨[], by simp⟩
      | true =>
        rw [if_pos rfl]
        rcases ixN_cases x.Name (l.take i) with ⟨k1, _⟩ | ⟨k, k1, k2, _⟩
        · rw [if_neg (by omega)]
          by_cases c2 : d > 5
          · rw [if_pos c2]; exact ⟨[], by simp; omega⟩
          · rw [if_neg c2]
            obtain ⟨q, ih⟩ := gp_spec N l hl hp hN r (i + 1) (nest ++ [d]) dp h3 (by simp; omega) (by rw [List.take_add_one, hdp2, hdp3]; rfl) hdp1 (okN_app ho ⟨hd, by omega⟩)
            rw [ih]
            refine ⟨q, ?_⟩
            have c3 : decide (d ≤ 5) = true := by simp; omega
            rw [c3]
            cases goodP x.Props <;> simp [k1]
        · rw [if_pos (by omega)]; exact ⟨[], by simp; omega⟩
    have eg : ∀ d, dep l i nest x = some d → gpL l (x :: r) i nest = (goodName x.Name && decide (ixN x.Name (l.take i) = -1) && decide (d ≤ 5) && goodP x.Props && gpL l r (i + 1) (nest ++ [d])) := fun d hd => by
      rw [gpL, hd]; rfl
    have en : dep l i nest x = none → gpL l (x :: r) i nest = false := fun hd => by rw [gpL, hd]; rfl
    have hid : i < deep.length := by omega
    rw [p_spec_GoodPrefabs_l0, show idx deep (i : Int) = some deep[i] from idx_of hid, Option.bind_some]
    by_cases c : x.From = (⟨#[]⟩ : ByteArray)
    · obtain ⟨q, e⟩ := j0 1 (deep.set i 1) (by omega) (by rw [List.length_set, hdl]) (by rw [List.take_set_of_le (Nat.le_refl _), ht]) (List.getElem?_set_self hid)
      rw [if_pos c, e, eg 1 (by unfold dep; rw [if_pos c])]; exact ⟨q, rfl⟩
    · rw [if_neg c, e0, Option.bind_some, ixN_spec, Option.bind_some]
      rcases ixN_cases x.From (l.take i) with ⟨k1, _⟩ | ⟨k, k1, k2, _⟩
      · rw [if_pos (by omega), en (by unfold dep; rw [if_neg c, if_pos (by omega)])]; exact ⟨[], by simp⟩
      · have k4 : k < i := by rw [List.length_take] at k2; omega
        have k3 : k < nest.length := by omega
        have hgd := okN_get ho k3
        have hk : deep[k]? = some (nest.getD k 0) := by
          rw [List.getD_eq_getElem?_getD, ← ht, List.getElem?_take_of_lt k4, List.getElem?_eq_getElem (by omega)]; rfl
        rw [if_neg (by omega), k1]
        have : idx (deep.set i 1) (k : Int) = some (nest.getD k 0) := by
          unfold idx; rw [if_pos (by omega), Int.toNat_natCast, List.getElem?_set_ne (by omega), hk]
        rw [this, Option.bind_some, wI _ (by omega) (by omega)]
        obtain ⟨q, e⟩ := j0 (nest.getD k 0 + 1) ((deep.set i 1).set i (nest.getD k 0 + 1)) (by omega) (by rw [List.length_set, List.length_set, hdl]) (by rw [List.take_set_of_le (Nat.le_refl _), List.take_set_of_le (Nat.le_refl _), ht]) (List.getElem?_set_self (by rw [List.length_set]; exact hid))
        rw [e, eg (nest.getD k 0 + 1) (by unfold dep; rw [if_neg c, if_neg (by omega), k1, Int.toNat_natCast])]; exact ⟨q, rfl⟩
def goodPf (l : List GPrefab) : Bool := decide (l.length ≤ 40) && gpL l l 0 []
theorem implPrefabs (l : List GPrefab) (hl : l.length ≤ 1048576) (hp : ∀ x ∈ l, okPf x) : p_impl_GoodPrefabs l = some (goodPf l) := by
  unfold p_impl_GoodPrefabs goodPf
  obtain ⟨q, e⟩ := gp_impl l hl hp l 0 [] rfl rfl (fun d hd => by simp at hd)
  rw [e, Option.bind_some]
  cases gpL l l 0 [] with
  | false => simp
  | true => simp; omega
theorem specPrefabs (N : Nat) (l : List GPrefab) (hl : l.length ≤ 1048576) (hp : ∀ x ∈ l, okPf x) (hN : 1048577 < N) : p_spec_GoodPrefabs N l = some (goodPf l) := by
  unfold p_spec_GoodPrefabs goodPf
  by_cases c : (l.length : Int) > 40
  · rw [if_pos c, show decide (l.length ≤ 40) = false by simp; omega]; rfl
  · rw [if_neg c, show mkl (l.length : Int) (0 : Int) = some (List.replicate l.length 0) from by unfold mkl; rw [if_pos (by omega)]; simp, Option.bind_some]
    obtain ⟨q, e⟩ := gp_spec N l hl hp hN l 0 [] (List.replicate l.length 0) rfl rfl rfl (by simp) (fun d hd => by simp at hd)
    rw [e, Option.bind_some, show decide (l.length ≤ 40) = true by simp; omega]
    cases gpL l l 0 [] <;> simp
end Go.Av
end
section
set_option linter.unusedSimpArgs false
set_option linter.unusedVariables false
set_option maxRecDepth 100000
namespace Go.Av
/-! Good props as a list that rises; a prop laid into a list. Plain. -/
theorem okPs_iff (l : List GProp) : ∀ (r : List GProp) (i : Nat), okPs l i r = true ↔ ∀ (j : Nat) (x : GProp), r[j]? = some x → okP l (i + j) x = true
  | [], i => by simp [okPs]
  | y :: r, i => by
    simp only [okPs, Bool.and_eq_true, okPs_iff l r (i + 1)]
    constructor
    · rintro ⟨h1, h2⟩ j x hx
      cases j with
      | zero => simp at hx; subst hx; exact h1
      | succ j => have := h2 j x (by simpa using hx); rwa [show i + (j + 1) = i + 1 + j by omega]
    · intro h
      refine ⟨h 0 y rfl, fun j x hx => ?_⟩
      have := h (j + 1) x (by simpa using hx); rwa [show i + 1 + j = i + (j + 1) by omega]
def gdP (l : List GProp) : Prop := Rise GProp.Path l ∧ ∀ x ∈ l, pathB x.Path = true ∧ rng (x.Value.size : Int) 1 40 = true
theorem goodP_iff (l : List GProp) : goodP l = true ↔ l.length ≤ 40 ∧ gdP l := by
  unfold goodP
  rw [Bool.and_eq_true, decide_eq_true_eq, okPs_iff]
  refine and_congr Iff.rfl ?_
  constructor
  · intro h
    refine ⟨rise_of (fun i x y hx hy => ?_), fun x hx => ?_⟩
    · have := h (i + 1) y hy
      simp only [okP, Bool.and_eq_true] at this
      have := this.2
      rw [if_neg (by omega), show 0 + (i + 1) - 1 = i by omega, hx] at this
      exact this
    · obtain ⟨j, hj⟩ := List.getElem?_of_mem hx
      have := h j x hj
      simp only [okP, Bool.and_eq_true] at this
      exact this.1
  · rintro ⟨hr, hg⟩ j x hx
    have hm := hg x (List.mem_of_getElem? hx)
    simp only [okP, Bool.and_eq_true]
    refine ⟨hm, ?_⟩
    by_cases c : j = 0
    · rw [if_pos (by omega)]
    · obtain ⟨hj, _⟩ := List.getElem?_eq_some_iff.1 hx
      rw [if_neg (by omega), show 0 + j - 1 = j - 1 by omega, List.getElem?_eq_getElem (show j - 1 < l.length by omega)]
      exact rise_at hr (show j - 1 < j by omega) (List.getElem?_eq_getElem (show j - 1 < l.length by omega)) hx
/-- A prop laid into a list that rises, or taken out of it. -/
def layR (t v : ByteArray) (has : Bool) : List GProp → List GProp
  | [] => if has = true then [⟨t, v⟩] else []
  | x :: l => if blt x.Path t = true then x :: layR t v has l else if x.Path = t then (if has = true then ⟨t, v⟩ :: l else l) else (if has = true then ⟨t, v⟩ :: x :: l else x :: l)
def atP (l : List GProp) (t : ByteArray) : Bool := (l[spot GProp.Path l t]?).elim false fun a => decide (a.Path = t)
theorem atP_cons {x : GProp} {l : List GProp} {t : ByteArray} (c : blt x.Path t = true) : atP (x :: l) t = atP l t := by
  unfold atP; rw [spot_cons, if_pos c, List.getElem?_cons_succ]
theorem layR_at (t v : ByteArray) (has : Bool) : ∀ l : List GProp, layR t v has l = l.take (spot GProp.Path l t) ++ ((if has = true then [(⟨t, v⟩ : GProp)] else []) ++ l.drop (if atP l t = true then spot GProp.Path l t + 1 else spot GProp.Path l t))
  | [] => by simp [layR, spot_nil]
  | x :: l => by
    rw [layR]
    by_cases c : blt x.Path t = true
    · rw [if_pos c, atP_cons c, spot_cons, if_pos c, layR_at t v has l]
      cases atP l t <;> simp
    · have ha : atP (x :: l) t = decide (x.Path = t) := by unfold atP; rw [spot_cons, if_neg c]; rfl
      rw [if_neg c, ha, spot_cons, if_neg c]
      by_cases e : x.Path = t
      · cases has <;> simp [e]
      · cases has <;> simp [e]
theorem layR_mem {t v : ByteArray} {has : Bool} : ∀ {l : List GProp} {y : GProp}, y ∈ layR t v has l → (has = true ∧ y = ⟨t, v⟩) ∨ y ∈ l
  | [], y, h => by cases has <;> simp_all [layR]
  | x :: l, y, h => by
    rw [layR] at h
    by_cases c : blt x.Path t = true
    · rw [if_pos c] at h
      rcases List.mem_cons.1 h with rfl | h
      · exact .inr (by simp)
      · rcases layR_mem h with h | h
        · exact .inl h
        · exact .inr (by simp [h])
    · rw [if_neg c] at h
      by_cases e : x.Path = t
      · rw [if_pos e] at h
        cases has <;> simp_all
        rcases h with h | h
        · exact .inl h
        · exact .inr (.inr h)
      · rw [if_neg e] at h
        cases has <;> simp_all
theorem layR_rise {t v : ByteArray} {has : Bool} : ∀ {l : List GProp}, Rise GProp.Path l → Rise GProp.Path (layR t v has l)
  | [], _ => by cases has <;> simp [layR, Rise]
  | x :: l, h => by
    rw [layR]
    by_cases c : blt x.Path t = true
    · rw [if_pos c]
      refine ⟨fun y hy => ?_, layR_rise h.2⟩
      rcases layR_mem hy with ⟨_, rfl⟩ | hy
      · exact c
      · exact h.1 y hy
    · rw [if_neg c]
      by_cases e : x.Path = t
      · rw [if_pos e]
        cases has
        · exact h.2
        · exact ⟨fun y hy => by subst e; exact h.1 y hy, h.2⟩
      · rw [if_neg e]
        have hlt : blt t x.Path = true := by
          rcases blt_not (Bool.eq_false_iff.2 c) with h1 | h1
          · exact absurd h1 e
          · exact h1
        cases has
        · exact h
        · refine ⟨fun y hy => ?_, h⟩
          rcases List.mem_cons.1 hy with rfl | hy
          · exact hlt
          · exact blt_trans hlt (h.1 y hy)
theorem layR_len (t v : ByteArray) (has : Bool) : ∀ l : List GProp, (layR t v has l).length ≤ l.length + 1 ∧ (has = true → l.length ≤ (layR t v has l).length)
  | [] => by cases has <;> simp [layR]
  | x :: l => by
    have ih := layR_len t v has l
    rw [layR]
    by_cases c : blt x.Path t = true
    · rw [if_pos c]; simp only [List.length_cons]; exact ⟨by omega, fun h => by have := ih.2 h; omega⟩
    · rw [if_neg c]
      by_cases e : x.Path = t
      · rw [if_pos e]; cases has <;> simp <;> omega
      · rw [if_neg e]; cases has <;> simp <;> omega
theorem layR_gd {t v : ByteArray} {has : Bool} {l : List GProp} (h : gdP l) (ht : has = true → pathB t = true ∧ rng (v.size : Int) 1 40 = true) : gdP (layR t v has l) := by
  refine ⟨layR_rise h.1, fun y hy => ?_⟩
  rcases layR_mem hy with ⟨h1, rfl⟩ | hy
  · exact ht h1
  · exact h.2 y hy
/-- Laid behind all that is there. -/
theorem layR_last {t v : ByteArray} : ∀ {l : List GProp}, (∀ x ∈ l, blt x.Path t = true) → layR t v true l = l ++ [⟨t, v⟩]
  | [], _ => by simp [layR]
  | x :: l, h => by
    rw [layR, if_pos (h x (by simp)), layR_last (fun y hy => h y (by simp [hy]))]; rfl
/-- Props laid one after the other. -/
def layAll (l r : List GProp) : List GProp := r.foldl (fun o p => layR p.Path p.Value true o) l
theorem layAll_app : ∀ (r l : List GProp), Rise GProp.Path (l ++ r) → layAll l r = l ++ r
  | [], l, _ => by simp [layAll]
  | x :: r, l, h => by
    have hx : ∀ y ∈ l, blt y.Path x.Path = true := by
      intro y hy
      obtain ⟨i, hi⟩ := List.getElem?_of_mem hy
      have hil := (List.getElem?_eq_some_iff.1 hi).1
      exact rise_at (i := i) (j := l.length) h (by omega) (by rw [List.getElem?_append_left hil]; exact hi) (by simp)
    unfold layAll
    rw [List.foldl_cons, layR_last hx]
    have := layAll_app r (l ++ [x]) (by simpa using h)
    unfold layAll at this
    rw [this]; simp
theorem layAll_gd : ∀ (r l : List GProp), gdP l → (∀ x ∈ r, pathB x.Path = true ∧ rng (x.Value.size : Int) 1 40 = true) → gdP (layAll l r) ∧ (layAll l r).length ≤ l.length + r.length ∧ l.length ≤ (layAll l r).length
  | [], l, h, _ => ⟨h, by simp [layAll], by simp [layAll]⟩
  | x :: r, l, h, hr => by
    have := layAll_gd r (layR x.Path x.Value true l) (layR_gd h (fun _ => hr x (by simp))) (fun y hy => hr y (by simp [hy]))
    have h2 := layR_len x.Path x.Value true l
    unfold layAll at *
    rw [List.foldl_cons]
    refine ⟨this.1, ?_, ?_⟩
    · simp only [List.length_cons]; omega
    · have := h2.2 rfl; omega
end Go.Av
end
section
set_option linter.unusedSimpArgs false
set_option linter.unusedVariables false
set_option maxRecDepth 100000
namespace Go.Av
/-! PropsOf: the program and the reference alike. -/
theorem bsP_eq (x : List GProp) (t : ByteArray) (f : GProp → ByteArray → Option Int) : ∀ (n : Nat) (i j : Int), p_slices_BinarySearchFunc_impl_Prop_impl_Prop_string_l0 x t f n i j = bsG x t f n i j
  | 0, i, j => rfl
  | n + 1, i, j => by
    unfold p_slices_BinarySearchFunc_impl_Prop_impl_Prop_string_l0 bsG
    simp only [bsP_eq x t f n]; rfl
theorem placeP_eq (N : Nat) (l : List GProp) (t : ByteArray) (hN : l.length < N) (hr : Rise GProp.Path l) (hl : l.length ≤ 1048576) :
    p_impl_propPlace N l t = some (((spot GProp.Path l t : Nat) : Int), atP l t) := by
  unfold p_impl_propPlace
  have hf : ∀ a : GProp, (fun x0_ x1_ => p_impl_propPlace_1 x0_ x1_) a t = some (cmpB a.Path t) := fun a => by
    simp [p_impl_propPlace_1, p_strings_Compare, p_internal_bytealg_CompareString]
  have := bsW_spec (N := N) (key := GProp.Path) hN hf hr (by omega)
  unfold p_slices_BinarySearchFunc_impl_Prop_impl_Prop_string
  simp only [bsP_eq]
  unfold bsW at this
  rw [this, Option.bind_some]; rfl
theorem atP_true {l : List GProp} {t : ByteArray} (h : atP l t = true) : ∃ x, l[spot GProp.Path l t]? = some x ∧ x.Path = t ∧ spot GProp.Path l t < l.length := by
  unfold atP at h
  cases hg : l[spot GProp.Path l t]? with
  | none => rw [hg] at h; cases h
  | some x => rw [hg] at h; exact ⟨x, rfl, by simpa using h, (List.getElem?_eq_some_iff.1 hg).1⟩
theorem idxNP {α : Type} {l : List α} {k : Nat} {x : α} (h : l[k]? = some x) : idx l (k : Int) = some x := by
  unfold idx; rw [if_pos (by omega), Int.toNat_natCast]; exact h
theorem laid_eq (N : Nat) (l : List GProp) (t v : ByteArray) (has : Bool) (hN : l.length < N) (hr : Rise GProp.Path l) (hl : l.length ≤ 1048576) :
    p_impl_laid N l t v has = some (layR t v has l) := by
  have hle := spot_le (key := GProp.Path) l t
  unfold p_impl_laid p_slices_Clone_impl_Prop_impl_Prop
  rw [if_pos (by omega), Option.bind_some, placeP_eq N l t hN hr hl, Option.bind_some, layR_at]
  cases ha : atP l t with
  | true =>
    obtain ⟨x, hx, hp, hlt⟩ := atP_true ha
    dsimp only
    rw [if_pos rfl, if_pos rfl]
    unfold p_impl_laid_j0
    cases has with
    | true =>
      rw [if_pos rfl]
      dsimp only
      rw [idxNP hx, Option.bind_some, hp, Int.toNat_natCast, List.set_eq_take_append_cons_drop, if_pos hlt]; rfl
    | false =>
      rw [if_neg (by decide)]
      dsimp only
      rw [if_pos rfl, wI _ (by omega) (by omega), show ((spot GProp.Path l t : Nat) : Int) + 1 = ((spot GProp.Path l t + 1 : Nat) : Int) by omega]
      unfold delL
      rw [if_pos (by omega), Option.bind_some]; rfl
  | false =>
    unfold p_impl_laid_j0
    cases has with
    | true =>
      simp only [Bool.false_eq_true, if_false, if_true]
      have : insL l ((spot GProp.Path l t : Nat) : Int) [(⟨t, v⟩ : GProp)] = some (l.take (spot GProp.Path l t) ++ ([(⟨t, v⟩ : GProp)] ++ l.drop (spot GProp.Path l t))) := by
        unfold insL; rw [if_pos ⟨⟨by omega, by omega⟩, by omega, rfl⟩, Int.toNat_natCast]
      rw [this, Option.bind_some]
    | false => simp only [Bool.false_eq_true, if_false, List.nil_append, List.take_append_drop]
/-! ### the reference's laying -/
theorem lay_put (t v : ByteArray) : ∀ (r : List GProp) (i : Nat) (acc : List GProp), acc.length + r.length < 4294967296 → p_spec_l26Lay_l0 t v r i true acc = some (true, acc ++ r.filter fun x => !decide (x.Path = t))
  | [], i, acc, _ => by simp [p_spec_l26Lay_l0]
  | x :: r, i, acc, h => by
    simp only [List.length_cons] at h
    rw [p_spec_l26Lay_l0, if_pos rfl]
    unfold p_spec_l26Lay_j0 p_spec_l26Lay_j1
    rw [if_neg (by decide)]
    by_cases c : x.Path = t
    · rw [if_pos c, lay_put t v r (i + 1) acc (by omega)]; simp [c]
    · rw [if_neg c, if_pos (by omega), lay_put t v r (i + 1) _ (by rw [List.length_append, List.length_singleton]; omega)]; simp [c]
theorem above_filter {t : ByteArray} {r : List GProp} (h : ∀ y ∈ r, blt t y.Path = true) : r.filter (fun x => !decide (x.Path = t)) = r :=
  List.filter_eq_self.2 (fun x hx => by have := blt_ne (h x hx); simpa using fun e => this e.symm)
theorem layR_filter (t v : ByteArray) : ∀ {l : List GProp}, Rise GProp.Path l → layR t v false l = l.filter fun x => !decide (x.Path = t)
  | [], _ => by simp [layR]
  | x :: l, h => by
    rw [layR]
    by_cases c : blt x.Path t = true
    · rw [if_pos c, layR_filter t v h.2]
      have := blt_ne c
      simp [this]
    · rw [if_neg c]
      by_cases e : x.Path = t
      · rw [if_pos e, if_neg (by decide)]
        have := above_filter (t := t) (r := l) (fun y hy => by rw [← e]; exact h.1 y hy)
        simp [e, this]
      · rw [if_neg e, if_neg (by decide)]
        have hlt : blt t x.Path = true := by
          rcases blt_not (Bool.eq_false_iff.2 c) with h1 | h1
          · exact absurd h1 e
          · exact h1
        exact (above_filter (fun y hy => by
          rcases List.mem_cons.1 hy with rfl | hy
          · exact hlt
          · exact blt_trans hlt (h.1 y hy))).symm
theorem lay_l0 (t v : ByteArray) : ∀ (r : List GProp) (i : Nat) (acc : List GProp), Rise GProp.Path r → acc.length + r.length + 1 < 4294967296 →
    ∃ b o, p_spec_l26Lay_l0 t v r i false acc = some (b, o) ∧ (if b = true then o else o ++ [(⟨t, v⟩ : GProp)]) = acc ++ layR t v true r ∧ o.length ≤ acc.length + r.length + 1
  | [], i, acc, _, h => ⟨false, acc, by simp [p_spec_l26Lay_l0], by simp [layR], by simp⟩
  | x :: r, i, acc, hr, h => by
    simp only [List.length_cons] at h
    rw [p_spec_l26Lay_l0, if_neg (by decide), layR]
    unfold p_spec_l26Lay_j0 p_spec_l26Lay_j1
    by_cases c : blt x.Path t = true
    · have c' : Op.bytesLess x.Path.toList t.toList = true := c
      rw [c', if_neg (by decide), if_neg (blt_ne c), if_pos (by omega), if_pos c]
      obtain ⟨b, o, e1, e2, e3⟩ := lay_l0 t v r (i + 1) (acc ++ [x]) hr.2 (by rw [List.length_append, List.length_singleton]; omega)
      refine ⟨b, o, e1, by rw [e2]; simp, ?_⟩
      rw [List.length_append, List.length_singleton] at e3
      simp only [List.length_cons]; omega
    · have c' : Op.bytesLess x.Path.toList t.toList = false := Bool.eq_false_iff.2 c
      rw [c', if_pos (by decide), if_pos (by omega), if_neg c]
      have hle : x.Path = t ∨ blt t x.Path = true := blt_not (Bool.eq_false_iff.2 c)
      have hab : ∀ y ∈ r, blt t y.Path = true := fun y hy => by
        rcases hle with e | e
        · rw [← e]; exact hr.1 y hy
        · exact blt_trans e (hr.1 y hy)
      by_cases e : x.Path = t
      · rw [if_pos e, if_pos e, lay_put t v r (i + 1) _ (by rw [List.length_append, List.length_singleton]; omega), above_filter hab]
        exact ⟨true, _, rfl, by simp, by simp <;> omega⟩
      · rw [if_neg e, if_neg e, if_pos (by rw [List.length_append, List.length_singleton]; omega), lay_put t v r (i + 1) _ (by simp only [List.length_append, List.length_singleton]; omega), above_filter hab]
        exact ⟨true, _, rfl, by simp, by simp <;> omega⟩
theorem lay_eq (l : List GProp) (t v : ByteArray) (has : Bool) (hr : Rise GProp.Path l) (hl : l.length ≤ 1048576) : p_spec_l26Lay l t v has = some (layR t v has l) := by
  unfold p_spec_l26Lay
  cases has with
  | false =>
    rw [show (!false) = true from rfl, lay_put t v l 0 [] (by simp; omega), Option.bind_some, layR_filter t v hr]
    simp
  | true =>
    obtain ⟨b, o, e1, e2, e3⟩ := lay_l0 t v l 0 [] hr (by simp; omega)
    rw [show (!true) = false from rfl, e1, Option.bind_some]
    simp only [List.nil_append, List.length_nil, Nat.zero_add] at e2 e3
    cases b with
    | true => simpa using e2
    | false =>
      show (if false = true then some o else (if o.length < 4294967296 then some (o ++ [(⟨t, v⟩ : GProp)]) else none)) = _
      rw [if_neg (by decide), if_pos (by omega)]; simpa using e2
/-! ### many props laid -/
theorem layAll_cons (x : GProp) (r l : List GProp) : layAll l (x :: r) = layAll (layR x.Path x.Value true l) r := rfl
theorem layAll_mem : ∀ (r l : List GProp) (y : GProp), y ∈ layAll l r → y ∈ l ∨ y ∈ r
  | [], l, y, h => .inl h
  | x :: r, l, y, h => by
    rw [layAll_cons] at h
    rcases layAll_mem r _ y h with h | h
    · rcases layR_mem h with ⟨_, h⟩ | h
      · exact .inr (by rw [h]; simp)
      · exact .inl h
    · exact .inr (by simp [h])
theorem spec_layAll : ∀ (r : List GProp) (i : Nat) (o : List GProp), Rise GProp.Path o → o.length + r.length ≤ 1048576 → p_spec_l26Props_l0 r i o = some (layAll o r)
  | [], i, o, _, _ => by simp [p_spec_l26Props_l0, layAll]
  | x :: r, i, o, hr, hl => by
    simp only [List.length_cons] at hl
    have := layR_len x.Path x.Value true o
    rw [p_spec_l26Props_l0, lay_eq o _ _ true hr (by omega), Option.bind_some, spec_layAll r (i + 1) _ (layR_rise hr) (by omega), layAll_cons]
theorem impl_layAll (N : Nat) : ∀ (r : List GProp) (i : Nat) (o : List GProp), Rise GProp.Path o → o.length + r.length ≤ 1048576 → o.length + r.length < N → p_impl_propsOf_l0 N r i o = some (layAll o r)
  | [], i, o, _, _, _ => by simp [p_impl_propsOf_l0, layAll]
  | x :: r, i, o, hr, hl, hN => by
    simp only [List.length_cons] at hl hN
    have := layR_len x.Path x.Value true o
    rw [p_impl_propsOf_l0, laid_eq N o _ _ true (by omega) hr (by omega), Option.bind_some, impl_layAll N r (i + 1) _ (layR_rise hr) (by omega) (by omega), layAll_cons]
/-! ### good prefabs -/
theorem gpL_at (l : List GPrefab) : ∀ (r : List GPrefab) (i : Nat) (nest : List Int), gpL l r i nest = true → ∀ (j : Nat) (x : GPrefab), r[j]? = some x →
    (x.From = (⟨#[]⟩ : ByteArray) ∨ 0 ≤ ixN x.From (l.take (i + j))) ∧ ixN x.Name (l.take (i + j)) = -1 ∧ goodP x.Props = true
  | [], i, nest, _, j, x, hx => by simp at hx
  | y :: r, i, nest, h, j, x, hx => by
    rw [gpL] at h
    cases hd : dep l i nest y with
    | none => rw [hd] at h; cases h
    | some d =>
      rw [hd] at h
      simp only [Option.elim_some, Bool.and_eq_true, decide_eq_true_eq] at h
      cases j with
      | zero =>
        simp at hx; subst hx
        refine ⟨?_, h.1.1.1.2, h.1.2⟩
        unfold dep at hd
        split at hd
        · rename_i e; exact .inl e
        · split at hd
          · cases hd
          · right; rw [Nat.add_zero]; omega
      | succ j =>
        have := gpL_at l r (i + 1) _ h.2 j x (by simpa using hx)
        rwa [show i + 1 + j = i + (j + 1) by omega] at this
theorem ixN_take {t : ByteArray} {l : List GPrefab} {i : Nat} (h : 0 ≤ ixN t (l.take i)) : ixN t l = ixN t (l.take i) := by
  have hany : ((l.take i).any fun x => decide (x.Name = t)) = true := by
    cases ha : (l.take i).any fun x => decide (x.Name = t) with
    | true => rfl
    | false => unfold ixN at h; rw [ha] at h; simp at h
  have e : l = l.take i ++ l.drop i := (List.take_append_drop i l).symm
  have hlt : ((l.take i).findIdx fun x => decide (x.Name = t)) < (l.take i).length := List.findIdx_lt_length.2 (by
    obtain ⟨x, hx, hx2⟩ := List.any_eq_true.1 hany; exact ⟨x, hx, hx2⟩)
  have h2 : (l.any fun x => decide (x.Name = t)) = true := by rw [e, List.any_append, hany]; rfl
  have h3 : (l.findIdx fun x => decide (x.Name = t)) = (l.take i).findIdx fun x => decide (x.Name = t) := by
    conv => lhs; rw [e]
    rw [List.findIdx_append, if_pos hlt]
  unfold ixN
  rw [hany, h2, h3]
/-- What the props of prefab i come to: the program and the reference. -/
def PfR (N : Nat) (l : List GPrefab) (i : Nat) (x : GPrefab) : Prop :=
  ∃ out, p_spec_l26Props N l x.Name = some out ∧ p_impl_propsOf N l (i : Int) = some (out, decide (out.length ≤ 40)) ∧ gdP out ∧ out.length ≤ 40 * (i + 1) ∧ ∀ y ∈ out, ∃ p ∈ l, y ∈ p.Props
theorem pf_both (l : List GPrefab) (h40 : l.length ≤ 40) (hg : gpL l l 0 [] = true) : ∀ (i : Nat) (x : GPrefab) (N : Nat), l[i]? = some x → 1700 + i < N → PfR N l i x := fun i => by
  induction i using Nat.strongRecOn with
  | ind i ih =>
    intro x N hx hN
    have hi : i < l.length := (List.getElem?_eq_some_iff.1 hx).1
    obtain ⟨g1, g2, g3⟩ := gpL_at l l 0 [] hg i x hx
    rw [Nat.zero_add] at g1 g2
    obtain ⟨p1, p2⟩ := (goodP_iff x.Props).1 g3
    have hix : ixN x.Name l = (i : Int) := (ixN_at hx).2 g2
    have hmem : x ∈ l := List.mem_of_getElem? hx
    obtain ⟨M, rfl⟩ : ∃ M, N = M + 1 := ⟨N - 1, by omega⟩
    unfold PfR
    rw [p_spec_l26Props, p_impl_propsOf, ixN_spec, Option.bind_some, hix, idxNP hx, Option.bind_some, Option.bind_some]
    by_cases c : x.From = (⟨#[]⟩ : ByteArray)
    · refine ⟨x.Props, ?_, ?_, p2, by omega, fun y hy => ⟨x, hmem, hy⟩⟩
      · rw [if_pos c]
        unfold p_spec_l26Props_j0
        rw [if_pos (by omega), spec_layAll _ 0 [] (by trivial) (by simp; omega), Option.bind_some, layAll_app _ [] (by simpa using p2.1)]; simp
      · rw [if_pos c]
        unfold p_slices_Clone_impl_Prop_impl_Prop
        rw [if_pos (by omega), Option.bind_some, show decide (x.Props.length ≤ 40) = true by simpa using p1]
    · have g1 := g1.resolve_left c
      have hk := ixN_take g1
      rcases ixN_cases x.From (l.take i) with ⟨k1, _⟩ | ⟨k, k1, k2, z, k3, k4⟩
      · omega
      · have k5 : k < i := by rw [List.length_take] at k2; omega
        have hz : l[k]? = some z := by rw [List.getElem?_take_of_lt k5] at k3; exact k3
        obtain ⟨out, e1, e2, e3, e4, e5⟩ := ih k k5 z M hz (by omega)
        have hgd := layAll_gd x.Props out e3 p2.2
        refine ⟨layAll out x.Props, ?_, ?_, hgd.1, by omega, fun y hy => ?_⟩
        · rw [if_neg c, ← k4, e1, Option.bind_some]
          unfold p_spec_l26Props_j0
          rw [if_pos (by omega), spec_layAll _ 0 _ e3.1 (by omega), Option.bind_some]
        · rw [if_neg c, ixN_impl, Option.bind_some, hk, k1, e2, Option.bind_some, if_pos (by omega)]
          dsimp only
          rw [impl_layAll M _ 0 _ e3.1 (by omega) (by omega), Option.bind_some]
          by_cases c2 : out.length ≤ 40
          · rw [decide_eq_true c2, if_pos rfl]
            congr 2
            exact decide_eq_decide.2 (by omega)
          · rw [decide_eq_false c2, if_neg (by decide), decide_eq_false (by omega)]
        · rcases layAll_mem _ _ _ hy with h | h
          · exact e5 y h
          · exact ⟨x, hmem, h⟩
def PropsR (N : Nat) (l : List GPrefab) (t : ByteArray) : Prop :=
  ∃ r, p_spec_PropsOf N l t = some r ∧ p_impl_PropsOf N l t = some r ∧ gdP r.1 ∧ r.1.length ≤ 40 ∧ (∀ y ∈ r.1, ∃ p ∈ l, y ∈ p.Props)
theorem props_both (N : Nat) (l : List GPrefab) (t : ByteArray) (hl : l.length ≤ 1048576) (hp : ∀ x ∈ l, okPf x) (hN : 1048577 < N) : PropsR N l t := by
  have bad : gdP ([] : List GProp) := ⟨trivial, by simp⟩
  unfold PropsR p_spec_PropsOf p_impl_PropsOf
  rw [specPrefabs N l hl hp hN, implPrefabs l hl hp, ixN_impl, ixN_spec, Option.bind_some, Option.bind_some, Option.bind_some, Option.bind_some]
  unfold p_spec_PropsOf_j0 p_impl_PropsOf_j0
  cases hg : goodPf l with
  | false => exact ⟨([], false), by simp, by simp, bad, by simp, by simp⟩
  | true =>
    unfold goodPf at hg
    simp only [Bool.and_eq_true, decide_eq_true_eq] at hg
    rcases ixN_cases t l with ⟨k1, _⟩ | ⟨k, k1, k2, z, k3, k4⟩
    · rw [if_pos rfl, if_pos rfl, k1]
      exact ⟨([], false), by simp, by simp, bad, by simp, by simp⟩
    · obtain ⟨out, e1, e2, e3, e4, e5⟩ := pf_both l hg.1 hg.2 k z N k3 (by omega)
      rw [k4] at e1
      rw [if_pos rfl, if_pos rfl, k1, decide_eq_false (show ¬ ((k : Int) < 0) by omega), if_neg (by decide), if_neg (by decide), e1, e2, Option.bind_some, Option.bind_some]
      by_cases c : out.length ≤ 40
      · rw [if_neg (by omega), decide_eq_true c, if_pos rfl]
        exact ⟨_, rfl, rfl, e3, c, e5⟩
      · rw [if_pos (by omega), decide_eq_false c, if_neg (by simp)]
        exact ⟨_, rfl, rfl, bad, by simp, by simp⟩
end Go.Av
end
section
set_option linter.unusedSimpArgs false
set_option linter.unusedVariables false
set_option maxRecDepth 100000
namespace Go.Av
/-! OverridesOf: the program and the reference alike. -/
/-- The value of a path, and whether it is there. -/
def findR (t : ByteArray) : List GProp → ByteArray × Bool
  | [] => ((⟨#[]⟩ : ByteArray), false)
  | x :: l => if x.Path = t then (x.Value, true) else findR t l
theorem find_l0 (t : ByteArray) : ∀ (l : List GProp) (i : Nat), p_spec_l26Find_l0 t l i = some (if (findR t l).2 = true then .ret (findR t l) else .out ())
  | [], i => by simp [p_spec_l26Find_l0, findR]
  | x :: l, i => by
    rw [p_spec_l26Find_l0, findR]
    by_cases c : x.Path = t
    · rw [if_pos c, if_pos c]; simp
    · rw [if_neg c, if_neg c, find_l0 t l (i + 1)]
theorem findR_false {t : ByteArray} : ∀ {l : List GProp}, (findR t l).2 = false → findR t l = ((⟨#[]⟩ : ByteArray), false)
  | [], _ => rfl
  | x :: l, h => by
    rw [findR] at h ⊢
    by_cases c : x.Path = t
    · rw [if_pos c] at h; cases h
    · rw [if_neg c] at h ⊢; exact findR_false h
theorem find_eq (l : List GProp) (t : ByteArray) : p_spec_l26Find l t = some (findR t l) := by
  unfold p_spec_l26Find
  rw [find_l0, Option.bind_some]
  cases h : (findR t l).2 with
  | true => simp
  | false => rw [findR_false h]; simp
theorem findR_none {t : ByteArray} : ∀ {l : List GProp}, (∀ x ∈ l, x.Path ≠ t) → findR t l = ((⟨#[]⟩ : ByteArray), false)
  | [], _ => rfl
  | x :: l, h => by rw [findR, if_neg (h x (by simp)), findR_none (fun y hy => h y (by simp [hy]))]
theorem findR_at {t : ByteArray} : ∀ {l : List GProp} {i : Nat} {x : GProp}, Rise GProp.Path l → l[i]? = some x → x.Path = t → findR t l = (x.Value, true)
  | [], i, x, _, h, _ => by simp at h
  | y :: l, 0, x, hr, h, e => by simp at h; subst h; rw [findR, if_pos e]
  | y :: l, i + 1, x, hr, h, e => by
    have h : l[i]? = some x := by simpa using h
    have := blt_ne (hr.1 x (List.mem_of_getElem? h))
    rw [findR, if_neg (by rw [← e]; exact this), findR_at hr.2 h e]
theorem propAt_eq (N : Nat) (l : List GProp) (t : ByteArray) (hN : l.length < N) (hr : Rise GProp.Path l) (hl : l.length ≤ 1048576) : p_impl_propAt N l t = some (findR t l) := by
  unfold p_impl_propAt
  rw [placeP_eq N l t hN hr hl, Option.bind_some]
  cases ha : atP l t with
  | true =>
    obtain ⟨x, hx, hp, hlt⟩ := atP_true ha
    simp only [if_true]
    rw [idxNP hx, Option.bind_some, findR_at hr hx hp]
  | false =>
    simp only [Bool.false_eq_true, if_false]
    rw [findR_none (fun x hx e => ?_)]
    obtain ⟨i, hi⟩ := List.getElem?_of_mem hx
    have hs := spot_at hr hi
    rw [e] at hs
    unfold atP at ha
    rw [hs, hi] at ha
    simp [e] at ha
theorem ov_l0s (w : List GProp) : ∀ (r : List GProp) (i : Nat), p_spec_OverridesOf_l0 w r i = some (if (r.all fun x => (findR x.Path w).2) = true then .out () else .ret ([], false))
  | [], i => by simp [p_spec_OverridesOf_l0]
  | x :: r, i => by
    rw [p_spec_OverridesOf_l0, find_eq, Option.bind_some, ov_l0s w r (i + 1)]
    cases h : (findR x.Path w).2 <;> simp [h]
theorem ov_l0i (N : Nat) (w : List GProp) (hN : w.length < N) (hr : Rise GProp.Path w) (hl : w.length ≤ 1048576) : ∀ (r : List GProp) (i : Nat), p_impl_OverridesOf_l0 N w r i = some (if (r.all fun x => (findR x.Path w).2) = true then .out () else .ret ([], false))
  | [], i => by simp [p_impl_OverridesOf_l0]
  | x :: r, i => by
    rw [p_impl_OverridesOf_l0, propAt_eq N w _ hN hr hl, Option.bind_some, ov_l0i N w hN hr hl r (i + 1)]
    cases h : (findR x.Path w).2 <;> simp [h]
def ovK (a : List GProp) (x : GProp) : Bool := !((findR x.Path a).2 && decide ((findR x.Path a).1 = x.Value))
theorem ov_l1s (v : List GProp × Bool) : ∀ (r : List GProp) (i : Nat) (o : List GProp), o.length + r.length < 4294967296 → p_spec_OverridesOf_l1 v r i o = some (o ++ r.filter (ovK v.1))
  | [], i, o, _ => by simp [p_spec_OverridesOf_l1]
  | x :: r, i, o, h => by
    simp only [List.length_cons] at h
    rw [p_spec_OverridesOf_l1, find_eq, Option.bind_some, ov_l1s v r (i + 1) o (by omega), ov_l1s v r (i + 1) (o ++ [x]) (by rw [List.length_append, List.length_singleton]; omega), List.filter_cons]
    have h0 : o.length < 4294967296 := by omega
    generalize hF : r.filter (ovK v.1) = F
    unfold ovK
    cases h2 : (findR x.Path v.1).2 with
    | true => by_cases c : (findR x.Path v.1).1 = x.Value <;> simp [c, h0]
    | false => simp [h0]
theorem ov_l1i (N : Nat) (v : List GProp × Bool) (hN : v.1.length < N) (hr : Rise GProp.Path v.1) (hl : v.1.length ≤ 1048576) : ∀ (r : List GProp) (i : Nat) (o : List GProp), o.length + r.length < 4294967296 → p_impl_OverridesOf_l1 N v r i o = some (o ++ r.filter (ovK v.1))
  | [], i, o, _ => by simp [p_impl_OverridesOf_l1]
  | x :: r, i, o, h => by
    simp only [List.length_cons] at h
    rw [p_impl_OverridesOf_l1, propAt_eq N v.1 _ hN hr hl, Option.bind_some, ov_l1i N v hN hr hl r (i + 1) o (by omega), ov_l1i N v hN hr hl r (i + 1) (o ++ [x]) (by rw [List.length_append, List.length_singleton]; omega), List.filter_cons]
    have h0 : o.length < 4294967296 := by omega
    generalize hF : r.filter (ovK v.1) = F
    unfold ovK
    cases h2 : (findR x.Path v.1).2 with
    | true => by_cases c : (findR x.Path v.1).1 = x.Value <;> simp [c, h0]
    | false => simp [h0]
def OverR (N : Nat) (l : List GPrefab) (t : ByteArray) (w : List GProp) : Prop :=
  ∃ r, p_spec_OverridesOf N l t w = some r ∧ p_impl_OverridesOf N l t w = some r ∧ r.1.length ≤ w.length ∧ ∀ y ∈ r.1, y ∈ w
theorem over_both (N : Nat) (l : List GPrefab) (t : ByteArray) (w : List GProp) (hl : l.length ≤ 1048576) (hp : ∀ x ∈ l, okPf x) (hw : w.length ≤ 1048576) (hs : ∀ x ∈ w, x.Path.size ≤ 1048576) (hN : 1048577 < N) : OverR N l t w := by
  obtain ⟨v, e1, e2, e3, e4, e5⟩ := props_both N l t hl hp hN
  unfold OverR p_spec_OverridesOf p_impl_OverridesOf
  rw [e1, e2, Option.bind_some, Option.bind_some, specProps N w hw hs (fun x hx => by have := hs x hx; omega), implProps w hw hs, Option.bind_some, Option.bind_some]
  unfold p_spec_OverridesOf_j0 p_impl_OverridesOf_j0
  have bad : ∃ r, (if true = true then some (([] : List GProp), false) else none) = some r ∧ (if true = true then some (([] : List GProp), false) else none) = some r ∧ r.1.length ≤ w.length ∧ ∀ y ∈ r.1, y ∈ w := ⟨([], false), rfl, rfl, by simp, by simp⟩
  cases hv : v.2 with
  | false => exact ⟨([], false), by simp, by simp, by simp, by simp⟩
  | true =>
    cases hg : goodP w with
    | false => exact ⟨([], false), by simp, by simp, by simp, by simp⟩
    | true =>
      obtain ⟨g1, g2⟩ := (goodP_iff w).1 hg
      simp only [if_true, Bool.not_true, Bool.false_eq_true, if_false]
      rw [ov_l0s, ov_l0i N w (by omega) g2.1 hw, Option.bind_some, Option.bind_some]
      cases ha : v.1.all fun x => (findR x.Path w).2 with
      | false => exact ⟨([], false), by simp, by simp, by simp, by simp⟩
      | true =>
        simp only [if_true]
        rw [ov_l1s v w 0 [] (by simp; omega), ov_l1i N v (by omega) e3.1 (by omega) w 0 [] (by simp; omega), Option.bind_some]
        exact ⟨(w.filter (ovK v.1), true), by simp, by simp, List.length_filter_le _ _, fun y hy => (List.mem_filter.1 hy).1⟩
end Go.Av
end
section
set_option linter.unusedSimpArgs false
set_option linter.unusedVariables false
set_option maxRecDepth 100000
namespace Go.Av
open Go.Proofs

/-- The digits that a mark is written with. -/
def mdig (k : Int) (out : ByteArray) : ByteArray := if h : 0 < k then mdig (k.tdiv 10) (strOf [IntKind.u8.wrap (IntKind.i64.wrap (48 + k.tmod 10))] ++ out) else out
termination_by k.toNat
decreasing_by
  have := Int.tdiv_eq_ediv_of_nonneg (a := k) (b := 10) (by omega)
  omega
def mtext (k : Int) : ByteArray := if k ≤ 0 then ⟨#[109, 48]⟩ else ⟨#[109]⟩ ++ mdig k ⟨#[]⟩
def mStr (x : ByteArray) (k : Int) : ByteArray := mtext k
theorem mdig_pos {k : Int} (h : 0 < k) (out : ByteArray) : mdig k out = mdig (k.tdiv 10) (strOf [IntKind.u8.wrap (IntKind.i64.wrap (48 + k.tmod 10))] ++ out) := by
  conv => lhs; rw [mdig]
  simp [h]
theorem mdig_neg {k : Int} (h : ¬ 0 < k) (out : ByteArray) : mdig k out = out := by rw [mdig]; simp [h]
theorem strOf_size (l : List Int) : (strOf l).size = l.length := by simp [strOf, ByteArray.size]

theorem markText_does (k : Int) (hk : k ≤ 4611686018427387904) : Does Tryd.prog 34 [I k] (S (mtext k)) := by
  refine Does.walk (nt := 20) Tryd.func34 rfl rfl (by simp) (by decide) rfl (fun G0 X w0 pv => ?_)
  have ff := And.intro @Ty.nze84 (And.intro @Ty.sl84 (And.intro @Ty.slz84 (And.intro @Ty.zok84 (And.intro @Ty.by84 (And.intro @Ty.zs84 (And.intro @Ty.int3 (And.intro @Ty.int5 (And.intro @Ty.str9 @Ty.u884))))))))
  try refine st_by ff ?_
  repeat' (first
    | exact trivial
    | (refine And.intro ?_ ?_; · (try clear ff; first | omega))
    | (refine ret_q1 rfl ?_; (try refine sr_by ff ?_); all_goals (try clear ff); all_goals (try exact trivial); all_goals (simp_all [mtext]))
    | (with_reducible refine CBC_eq (fun hp hd => ?_) (fun hp hd => ?_) <;> refine st_by (And.intro hd ff) ?_)
    | (with_reducible refine CBC_ne (fun hp hd => ?_) (fun hp hd => ?_) <;> refine st_by (And.intro hd ff) ?_)
    | (with_reducible refine CBC_decT ?_ (fun hd => ?_); (· try clear ff; first | assumption | omega); refine st_by (And.intro hd ff) ?_)
    | (with_reducible refine CBC_decF ?_ (fun hd => ?_); (· try clear ff; first | assumption | omega); refine st_by (And.intro hd ff) ?_)
    | (with_reducible refine CBC_dec (fun hp hd => ?_) (fun hp hd => ?_) <;> refine st_by (And.intro hd ff) ?_)
    | (refine CBC_bool (fun hd => ?_) (fun hd => ?_) <;> refine st_by (And.intro hd ff) ?_)
    | (with_reducible refine GQ_eq (fun hp hd => ?_) (fun hp hd => ?_) <;> refine st_by (And.intro hd ff) ?_)
    | (with_reducible refine GQ_ne (fun hp hd => ?_) (fun hp hd => ?_) <;> refine st_by (And.intro hd ff) ?_)
    | (with_reducible refine GQ_decT ?_ (fun hd => ?_); (· try clear ff; first | assumption | omega); refine st_by (And.intro hd ff) ?_)
    | (with_reducible refine GQ_decF ?_ (fun hd => ?_); (· try clear ff; first | assumption | omega); refine st_by (And.intro hd ff) ?_)
    | (with_reducible refine GQ_dec (fun hp hd => ?_) (fun hp hd => ?_) <;> refine st_by (And.intro hd ff) ?_)
    | (with_reducible refine GQ_ndT ?_ (fun hd => ?_); (· try clear ff; first | assumption | omega); refine st_by (And.intro hd ff) ?_)
    | (with_reducible refine GQ_ndF ?_ (fun hd => ?_); (· try clear ff; first | assumption | omega); refine st_by (And.intro hd ff) ?_)
    | (with_reducible refine GQ_nd (fun hp hd => ?_) (fun hp hd => ?_) <;> refine st_by (And.intro hd ff) ?_)
    | (refine GQ_nb (fun hd => ?_) (fun hd => ?_) <;> refine st_by (And.intro hd ff) ?_)
    | (refine GQ_bool (fun hd => ?_) (fun hd => ?_) <;> refine st_by (And.intro hd ff) ?_))
  all_goals try clear ff
  refine aw_loop (ι := Int × ByteArray) (fun z σ => (0 ≤ z.1 ∧ z.1 ≤ 4611686018427387904 ∧ (z.2.size : Int) + z.1 ≤ 4611686018427387904 ∧ mdig z.1 z.2 = mdig k ⟨#[]⟩) ∧ σ.t 0 = I z.1 ∧ σ.t 3 = S z.2) (fun z => z.1.toNat) (k, ⟨#[]⟩) ?_ ?_
  · (first | exact cl_by trivial | refine st_by trivial ?_)
    simp [ByteArray.size]
    omega
  · rintro ⟨n, out⟩ σ ⟨⟨h1, h2, h3, h4⟩, g0, g3⟩
    simp only at h1 h2 h3 h4 g0 g3
    have e1 : n.tdiv 10 = n / 10 := Int.tdiv_eq_ediv_of_nonneg (by omega)
    have e2 : n.tmod 10 = n % 10 := Int.tmod_eq_emod_of_nonneg (by omega)
    have w1 : IntKind.i64.wrap (n.tdiv 10) = n.tdiv 10 := wI _ (by omega) (by omega)
    have hs := strOf_size [IntKind.u8.wrap (IntKind.i64.wrap (48 + n.tmod 10))]
    have hs2 : ∀ x y : ByteArray, (x ++ y).size = x.size + y.size := fun x y => ByteArray.size_append ..
    simp only [List.length_cons, List.length_nil] at hs
    have ff := And.intro @g0 (And.intro @g3 (And.intro @w1 (And.intro @Ty.nze84 (And.intro @Ty.sl84 (And.intro @Ty.slz84 (And.intro @Ty.zok84 (And.intro @Ty.by84 (And.intro @Ty.zs84 (And.intro @Ty.int3 (And.intro @Ty.int5 (And.intro @Ty.str9 @Ty.u884)))))))))))
    try refine st_by ff ?_
    repeat' (first
      | exact trivial
      | (refine And.intro ?_ ?_; · (try clear ff; first | omega | (rw [hs]; omega) | (have hz : (ByteArray.mk #[109]).size = 1 := rfl; omega) | decide))
      | (refine ret_q1 rfl ?_; (try refine sr_by ff ?_); all_goals (try clear ff); all_goals (try exact trivial); all_goals ((have hk0 : ¬ k ≤ 0 := by omega); simp only [mtext, hk0, if_false]; rw [← h4, mdig_neg (by omega)]))
      | (with_reducible refine CBC_eq (fun hp hd => ?_) (fun hp hd => ?_) <;> refine st_by (And.intro hd ff) ?_)
      | (with_reducible refine CBC_ne (fun hp hd => ?_) (fun hp hd => ?_) <;> refine st_by (And.intro hd ff) ?_)
      | (with_reducible refine CBC_decT ?_ (fun hd => ?_); (· try clear ff; first | assumption | omega); refine st_by (And.intro hd ff) ?_)
      | (with_reducible refine CBC_decF ?_ (fun hd => ?_); (· try clear ff; first | assumption | omega); refine st_by (And.intro hd ff) ?_)
      | (with_reducible refine CBC_dec (fun hp hd => ?_) (fun hp hd => ?_) <;> refine st_by (And.intro hd ff) ?_)
      | (refine CBC_bool (fun hd => ?_) (fun hd => ?_) <;> refine st_by (And.intro hd ff) ?_)
      | (with_reducible refine GQ_eq (fun hp hd => ?_) (fun hp hd => ?_) <;> refine st_by (And.intro hd ff) ?_)
      | (with_reducible refine GQ_ne (fun hp hd => ?_) (fun hp hd => ?_) <;> refine st_by (And.intro hd ff) ?_)
      | (with_reducible refine GQ_decT ?_ (fun hd => ?_); (· try clear ff; first | assumption | omega); refine st_by (And.intro hd ff) ?_)
      | (with_reducible refine GQ_decF ?_ (fun hd => ?_); (· try clear ff; first | assumption | omega); refine st_by (And.intro hd ff) ?_)
      | (with_reducible refine GQ_dec (fun hp hd => ?_) (fun hp hd => ?_) <;> refine st_by (And.intro hd ff) ?_)
      | (with_reducible refine GQ_ndT ?_ (fun hd => ?_); (· try clear ff; first | assumption | omega); refine st_by (And.intro hd ff) ?_)
      | (with_reducible refine GQ_ndF ?_ (fun hd => ?_); (· try clear ff; first | assumption | omega); refine st_by (And.intro hd ff) ?_)
      | (with_reducible refine GQ_nd (fun hp hd => ?_) (fun hp hd => ?_) <;> refine st_by (And.intro hd ff) ?_)
      | (refine GQ_nb (fun hd => ?_) (fun hd => ?_) <;> refine st_by (And.intro hd ff) ?_)
      | (refine GQ_bool (fun hd => ?_) (fun hd => ?_) <;> refine st_by (And.intro hd ff) ?_)
      | ((try clear ff); refine ⟨(n.tdiv 10, _), ⟨⟨?_, ?_, ?_, ?_⟩, rfl, rfl⟩, ?_⟩; (· simp only; omega); (· simp only; omega); (· simp only [hs2, hs]; omega); (· simp only; rw [← h4]; exact (mdig_pos (by assumption) out).symm); (· simp only; omega)))
    all_goals try clear ff
end Go.Av
end
