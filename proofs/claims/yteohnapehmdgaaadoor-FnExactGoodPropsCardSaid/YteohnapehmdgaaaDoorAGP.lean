/- spec.l1Split -/
import Derived.Test.YteohnapehmdgaaaDoorASP
import Derived.Test.YteohnapehmdgaaaDoorAG3
set_option linter.unusedSimpArgs false
set_option linter.unusedVariables false
set_option maxRecDepth 100000
set_option maxHeartbeats 1000000
namespace Go.Av
open Go.Proofs
/-! spec.l1Split -/
def p_spec_l1Split_j0 (s_a0 : ByteArray) (at_9 : Int) (i_10 : Int) (out_11 : List ByteArray) (rec_0 : Int → Int → (List ByteArray) → Option (Int × Int × (List ByteArray))) (b_23 : Bool) : Option (Int × Int × (List ByteArray)) := (if b_23 = true then ((bslc s_a0 at_9 i_10).bind fun m25 => (if out_11.length < 4294967296 then rec_0 (IntKind.i64.wrap (i_10 + 1)) (IntKind.i64.wrap (i_10 + 1)) (out_11 ++ [m25]) else none)) else rec_0 at_9 (IntKind.i64.wrap (i_10 + 1)) out_11)
def p_spec_l1Split_l0 (s_a0 : ByteArray) (b_a1 : Int) : Nat → Int → Int → (List ByteArray) → Option (Int × Int × (List ByteArray))
  | 0, _, _, _ => none
  | n_0 + 1, at_9, i_10, out_11 => (if i_10 ≤ (s_a0.size : Int) then (if i_10 = (s_a0.size : Int) then p_spec_l1Split_j0 s_a0 at_9 i_10 out_11 (p_spec_l1Split_l0 s_a0 b_a1 n_0) true else ((bidx s_a0 i_10).bind fun y30 => p_spec_l1Split_j0 s_a0 at_9 i_10 out_11 (p_spec_l1Split_l0 s_a0 b_a1 n_0) (y30 == b_a1))) else some (at_9, i_10, out_11))
theorem p_spec_l1Split_pv {F C A : Prop} (hF : F) (hC : C) (h : F → C → A := by intro hF hC; first | exact cl_by hF | (refine st_by hF ?_; (repeat' (first | exact trivial | apply And.intro)); all_goals (clear hF; first | rfl | (simp only [hC, List.length_append, List.length_cons, List.length_nil, List.append_nil, List.nil_append, List.cons_append, List.length_set, List.append_assoc, Nat.zero_add, List.length_replicate, esStr_app, esStr_cons, esStr_nil, eStr_eq]; done) | (simp [hC, List.length_append, List.length_cons, List.length_nil, List.append_nil, List.nil_append, List.cons_append, List.length_set, List.append_assoc, Nat.zero_add, List.length_replicate, esStr_app, esStr_cons, esStr_nil, eStr_eq]; done) | omega))) : A := h hF hC
theorem p_spec_l1Split_rt {F C A : Prop} (hF : F) (hC : C) (h : F → C → A := by intro hF hC; first | (refine sr_by hF ?_; (repeat' (first | exact trivial | apply And.intro)); all_goals (clear hF; first | rfl | (simp only [hC, List.length_append, List.length_cons, List.length_nil, List.append_nil, List.nil_append, List.cons_append, List.length_set, List.append_assoc, Nat.zero_add, List.length_replicate, esStr_app, esStr_cons, esStr_nil, eStr_eq]; done) | (simp [hC, List.length_append, List.length_cons, List.length_nil, List.append_nil, List.nil_append, List.cons_append, List.length_set, List.append_assoc, Nat.zero_add, List.length_replicate, esStr_app, esStr_cons, esStr_nil, eStr_eq]; done) | omega)) | (first | rfl | (simp only [hC, List.length_append, List.length_cons, List.length_nil, List.append_nil, List.nil_append, List.cons_append, List.length_set, List.append_assoc, Nat.zero_add, List.length_replicate, esStr_app, esStr_cons, esStr_nil, eStr_eq]; done) | (simp [hC, List.length_append, List.length_cons, List.length_nil, List.append_nil, List.nil_append, List.cons_append, List.length_set, List.append_assoc, Nat.zero_add, List.length_replicate, esStr_app, esStr_cons, esStr_nil, eStr_eq]; done) | omega)) : A := h hF hC
def p_spec_l1Split_tf := PLift.up (And.intro @eStr_eq (And.intro @esStr_len (And.intro @esStr_nil (And.intro @esStr_leaf (And.intro @esStr_fit (And.intro @esStr_share (And.intro @esStr_pure (And.intro @str_beq (And.intro @Ty.str9 (And.intro @Ty.nze52 (And.intro @Ty.sl52 (And.intro @Ty.slz52 (And.intro @Ty.zok52 (And.intro @Ty.by52 (And.intro @Ty.zs52 @trivial)))))))))))))))
def p_spec_l1Split (N : Nat) (s_a0 : ByteArray) (b_a1 : Int) : Option (List ByteArray) := ((p_spec_l1Split_l0 s_a0 b_a1 N 0 0 ([] : List ByteArray)).bind fun q_0 => match q_0 with | (at_9, i_10, out_11) => some out_11)
theorem p_spec_l1Split_does (N : Nat) (s_a0 : ByteArray) (b_a1 : Int) (r : List ByteArray) (h : p_spec_l1Split N s_a0 b_a1 = some r) : Does Tryd.prog 29 [S s_a0, .lit (.int .u8 b_a1)] (.row true 1 r.length (esStr r)) := by
  rw [p_spec_l1Split] at h
  refine Does.walk (nt := 35) Tryd.func29 rfl rfl (by simp) (by decide) rfl (fun G0 X w0 pv => ?_)
  obtain ⟨q_0, eq_0, h⟩ := Option.bind_eq_some_iff.1 h
  have ff := p_spec_l1Split_tf.down
  try refine st_by ff ?_
  repeat' (first | exact trivial | refine And.intro sd ?_)
  obtain ⟨I_0, hI_0⟩ : ∃ I_ : (Nat × Int × Int × (List ByteArray)) → ASt → Prop, I_ = (fun (a : Nat × Int × Int × (List ByteArray)) σ => match a with | (n_0, at_9, i_10, out_11) => (p_spec_l1Split_l0 s_a0 b_a1 n_0 at_9 i_10 out_11 = some q_0) ∧ σ.t 0 = S s_a0 ∧ σ.t 1 = .lit (.int .u8 b_a1) ∧ σ.t 5 = .sl 5 [] 0 out_11.length ∧ σ.t 6 = I at_9 ∧ σ.t 7 = I i_10 ∧ σ.m 5 = some (.row true 1 out_11.length (esStr out_11))) := ⟨_, rfl⟩
  obtain ⟨M_0, hM_0⟩ : ∃ M_ : (Nat × Int × Int × (List ByteArray)) → Nat, M_ = (fun (a : Nat × Int × Int × (List ByteArray)) => match a with | (n_0, at_9, i_10, out_11) => n_0) := ⟨_, rfl⟩
  obtain ⟨J_0, hJ_0⟩ : ∃ J_ : ASt → Prop, J_ = (fun σ => ∃ at_9 : Int, ∃ i_10 : Int, ∃ out_11 : List ByteArray, (some (at_9, i_10, out_11) = some q_0) ∧ σ.t 5 = .sl 5 [] 0 out_11.length ∧ σ.m 5 = some (.row true 1 out_11.length (esStr out_11))) := ⟨_, rfl⟩
  refine aw_loopC (id := 0) I_0 M_0 J_0 (N, 0, 0, ([] : List ByteArray)) ?_ ?_ ?_
  · rw [hI_0]
    refine ⟨eq_0, ?_⟩
    exact p_spec_l1Split_pv ff trivial
  · try clear ff
    rintro ⟨n_0, at_9, i_10, out_11⟩ σ hg_0
    rw [hI_0] at hg_0
    obtain ⟨h_0, g0_0, g1_0, g2_0, g3_0, g4_0, g5_0⟩ := hg_0
    cases n_0 with
    | zero => rw [p_spec_l1Split_l0] at h_0; cases h_0
    | succ n_0 =>
      rw [p_spec_l1Split_l0] at h_0
      by_cases c22 : i_10 ≤ (s_a0.size : Int)
      case neg =>
       rw [if_neg c22] at h_0
       have dc22 := decide_eq_false c22
       have ff := And.intro @g0_0 (And.intro @g1_0 (And.intro @g2_0 (And.intro @g3_0 (And.intro @g4_0 (And.intro @g5_0 (And.intro @dc22 p_spec_l1Split_tf.down))))))
       try refine st_by ff ?_
       repeat' (first | exact trivial | refine And.intro sd ?_)
       refine JW.intro ?_
       rw [hJ_0]
       refine ⟨at_9, i_10, out_11, h_0, ?_⟩
       exact p_spec_l1Split_pv ff trivial
      rw [if_pos c22] at h_0
      have dc22 := decide_eq_true c22
      have ff := And.intro @g0_0 (And.intro @g1_0 (And.intro @g2_0 (And.intro @g3_0 (And.intro @g4_0 (And.intro @g5_0 (And.intro @dc22 p_spec_l1Split_tf.down))))))
      try refine st_by ff ?_
      repeat' (first | exact trivial | refine And.intro sd ?_)
      try clear ff
      generalize hk_0 : thenK _ _ = kk_0
      have key_0 : ∀ σ, (∃ b_23 : Bool, (p_spec_l1Split_j0 s_a0 at_9 i_10 out_11 (p_spec_l1Split_l0 s_a0 b_a1 n_0) b_23 = some q_0) ∧ σ.t 0 = S s_a0 ∧ σ.t 1 = .lit (.int .u8 b_a1) ∧ σ.t 5 = .sl 5 [] 0 out_11.length ∧ σ.t 6 = I at_9 ∧ σ.t 7 = I i_10 ∧ σ.t 24 = B b_23 ∧ σ.m 5 = some (.row true 1 out_11.length (esStr out_11))) → kk_0 .nm σ := by
        rintro σ ⟨b_23, h_0, g0_j0, g1_j0, g2_j0, g3_j0, g4_j0, g5_j0, g6_j0⟩
        rw [← hk_0]
        rw [p_spec_l1Split_j0] at h_0
        by_cases c24 : b_23 = true
        case neg =>
         rw [if_neg c24] at h_0
         have dc24 := eq_false_of_ne_true c24
         have ff := And.intro @dc22 (And.intro @g0_j0 (And.intro @g1_j0 (And.intro @g2_j0 (And.intro @g3_j0 (And.intro @g4_j0 (And.intro @g5_j0 (And.intro @g6_j0 (And.intro @dc24 p_spec_l1Split_tf.down))))))))
         try refine st_by ff ?_
         repeat' (first | exact trivial | refine And.intro sd ?_)
         refine Back.intro (n_0, at_9, (IntKind.i64.wrap (i_10 + 1)), out_11) ?_ ?_
         · rw [hM_0]; exact Nat.lt_succ_self _
         rw [hI_0]
         refine ⟨h_0, ?_⟩
         exact p_spec_l1Split_pv ff trivial
        rw [if_pos c24] at h_0
        have dc24 := c24
        obtain ⟨m25, em25, h_0⟩ := Option.bind_eq_some_iff.1 h_0
        try dsimp only at h_0
        obtain ⟨f26a, f26b⟩ := bslc_ok em25
        have f26c : s_a0.extract at_9.toNat i_10.toNat = m25 := f26b
        by_cases c27 : out_11.length < 4294967296
        case neg => rw [if_neg c27] at h_0; cases h_0
        rw [if_pos c27] at h_0
        have a28a : esStr out_11 ++ [S m25] = esStr (out_11 ++ [m25]) := by simp [esStr_app, esStr_cons, esStr_nil, eStr_eq, esStr_nil]
        have a28b : out_11.length + 1 = (out_11 ++ [m25]).length := by simp
        have ff := And.intro @dc22 (And.intro @g0_j0 (And.intro @g1_j0 (And.intro @g2_j0 (And.intro @g3_j0 (And.intro @g4_j0 (And.intro @g5_j0 (And.intro @g6_j0 (And.intro @dc24 (And.intro @f26c (And.intro @a28a (And.intro @a28b p_spec_l1Split_tf.down)))))))))))
        try refine st_by ff ?_
        repeat' (first | exact trivial | refine And.intro sd ?_)
        refine Back.intro (n_0, (IntKind.i64.wrap (i_10 + 1)), (IntKind.i64.wrap (i_10 + 1)), (out_11 ++ [m25])) ?_ ?_
        · rw [hM_0]; exact Nat.lt_succ_self _
        rw [hI_0]
        refine ⟨h_0, ?_⟩
        exact p_spec_l1Split_pv ff trivial
      have hrt_0 := fun σ : ASt => congrFun (congrFun hk_0.symm AX.rt) σ
      have hex_0 := fun (i : Nat) (σ : ASt) => congrFun (congrFun hk_0.symm (AX.ex i)) σ
      by_cases c29 : i_10 = (s_a0.size : Int)
      · rw [if_pos c29] at h_0
        have dc29 := beq_yes c29
        have ff := And.intro @g0_0 (And.intro @g1_0 (And.intro @g2_0 (And.intro @g3_0 (And.intro @g4_0 (And.intro @g5_0 (And.intro @dc22 (And.intro @hrt_0 (And.intro @hex_0 (And.intro @dc29 p_spec_l1Split_tf.down)))))))))
        try refine st_by ff ?_
        repeat' (first | exact trivial | refine And.intro sd ?_)
        refine key_0 _ ?_
        refine ⟨true, h_0, ?_⟩
        exact p_spec_l1Split_pv ff trivial
      rw [if_neg c29] at h_0
      have dc29 := beq_no c29
      obtain ⟨y30, ey30, h_0⟩ := Option.bind_eq_some_iff.1 h_0
      try dsimp only at h_0
      have f31a := (bidx_ok ey30).1
      have f31b := (bidx_ok ey30).2
      have ff := And.intro @g0_0 (And.intro @g1_0 (And.intro @g2_0 (And.intro @g3_0 (And.intro @g4_0 (And.intro @g5_0 (And.intro @dc22 (And.intro @hrt_0 (And.intro @hex_0 (And.intro @dc29 (And.intro @f31a (And.intro @f31b p_spec_l1Split_tf.down)))))))))))
      try refine st_by ff ?_
      repeat' (first | exact trivial | refine And.intro sd ?_)
      refine key_0 _ ?_
      refine ⟨(y30 == b_a1), h_0, ?_⟩
      exact p_spec_l1Split_pv ff trivial
  · try clear ff
    rintro σ hg_0
    rw [hJ_0] at hg_0
    obtain ⟨at_9, i_10, out_11, hj_0, g0_0a, g1_0a⟩ := hg_0
    cases hj_0
    try dsimp only at h
    have ff := And.intro @g0_0a (And.intro @g1_0a p_spec_l1Split_tf.down)
    try refine st_by ff ?_
    repeat' (first | exact trivial | refine And.intro sd ?_)
    cases h
    exact ret_q1 rfl (p_spec_l1Split_rt ff trivial)
/-! spec.l26Path -/
def p_spec_l26Path_l0 : List ByteArray → Nat → Option (LR (Bool) (Unit))
  | [], i_0 => some (.out ())
  | x_0 :: r_0, i_0 => (if x_0.size ≤ 9223372036854775807 then (if (goodName x_0) = true then p_spec_l26Path_l0 r_0 (i_0 + 1) else some (.ret false)) else none)
theorem p_spec_l26Path_sa {F C A : Prop} (hF : F) (hC : C) (h : F → C → A := by intro hF hC; first | exact ca_by hF | (refine sa_by hF ?_; (repeat' (first | exact trivial | apply And.intro)); all_goals (clear hF; first | rfl | (simp only [hC, List.length_append, List.length_cons, List.length_nil, List.append_nil, List.nil_append, List.cons_append, List.length_set, List.append_assoc, Nat.zero_add, List.length_replicate, esStr_app, esStr_cons, esStr_nil, eStr_eq]; done) | (simp [hC, List.length_append, List.length_cons, List.length_nil, List.append_nil, List.nil_append, List.cons_append, List.length_set, List.append_assoc, Nat.zero_add, List.length_replicate, esStr_app, esStr_cons, esStr_nil, eStr_eq]; done) | omega))) : A := h hF hC
def p_spec_l26Path_tf := PLift.up (And.intro @eStr_eq (And.intro @esStr_len (And.intro @esStr_nil (And.intro @esStr_leaf (And.intro @esStr_fit (And.intro @esStr_share (And.intro @esStr_pure (And.intro @str_beq (And.intro @Ty.sl52 (And.intro @Ty.slz52 (And.intro @Ty.nz9 (And.intro @Ty.ldA9 (And.intro @Ty.ldS9 (And.intro @Ty.sz9 (And.intro @Ty.szn9 @trivial)))))))))))))))
def p_spec_l26Path (N : Nat) (s_a0 : ByteArray) : Option (Bool) := ((p_spec_l1Split N s_a0 47).bind fun v1 => ((p_spec_l26Path_l0 v1 0).bind fun q_0 => match q_0 with | .ret r_ => some r_ | .out _ => some (decide ((v1.length : Int) ≤ 5))))
theorem p_spec_l26Path_does (N : Nat) (s_a0 : ByteArray) (r : Bool) (h : p_spec_l26Path N s_a0 = some r) : Does Tryd.prog 16 [S s_a0] (B r) := by
  rw [p_spec_l26Path] at h
  refine Does.walk (nt := 21) Tryd.func16 rfl rfl (by simp) (by decide) rfl (fun G0 X w0 pv => ?_)
  obtain ⟨v1, ev1, h⟩ := Option.bind_eq_some_iff.1 h
  try dsimp only at h
  have ff := p_spec_l26Path_tf.down
  try refine st_by ff ?_
  repeat' (first | exact trivial | refine And.intro sd ?_)
  first
  | (refine cq_own (p_spec_l1Split_does N s_a0 47 v1 ev1) (hf_by ff) kr ⟨p_spec_l26Path_sa ff trivial, ?_⟩; clear ff)
  obtain ⟨q_0, eq_0, h⟩ := Option.bind_eq_some_iff.1 h
  have ff := p_spec_l26Path_tf.down
  try refine st_by ff ?_
  repeat' (first | exact trivial | refine And.intro sd ?_)
  refine aw_bnd (r := 3) (p := []) (sz := 1) (n := v1.length) (cs := esStr v1) (p_spec_l1Split_pv ff trivial) (fun hL_0 => ?_)
  obtain ⟨I_0, hI_0⟩ : ∃ I_ : (Nat) → ASt → Prop, I_ = (fun (i_0 : Nat) σ => (i_0 ≤ v1.length ∧ p_spec_l26Path_l0 (v1.drop i_0) i_0 = some q_0) ∧ σ.t 3 = .sl 3 [] 0 v1.length ∧ σ.t 8 = .sl 3 [] 0 v1.length ∧ σ.t 9 = I (v1.length : Int) ∧ σ.t 10 = I (i_0 : Int) ∧ σ.m 3 = some (.row true 1 v1.length (esStr v1))) := ⟨_, rfl⟩
  obtain ⟨M_0, hM_0⟩ : ∃ M_ : (Nat) → Nat, M_ = (fun (i_0 : Nat) => v1.length - i_0) := ⟨_, rfl⟩
  obtain ⟨J_0, hJ_0⟩ : ∃ J_ : ASt → Prop, J_ = (fun σ => (some (.out ()) = some q_0) ∧ σ.t 3 = .sl 3 [] 0 v1.length ∧ σ.m 3 = some (.row true 1 v1.length (esStr v1))) := ⟨_, rfl⟩
  refine aw_loopC (id := 0) I_0 M_0 J_0 (0) ?_ ?_ ?_
  · rw [hI_0]
    refine ⟨⟨Nat.zero_le _, eq_0⟩, ?_⟩
    exact p_spec_l1Split_pv ff trivial
  · try clear ff
    rintro i_0 σ hg_0
    rw [hI_0] at hg_0
    obtain ⟨⟨hi_0, h_0⟩, g0_0, g1_0, g2_0, g3_0, g4_0⟩ := hg_0
    cases hr_0 : v1.drop i_0 with
    | nil =>
      rw [hr_0] at h_0
      rw [p_spec_l26Path_l0] at h_0
      have hn_0 := drop_nil hr_0
      have dr_0 : decide ((i_0 : Int) < (v1.length : Int)) = false := decide_eq_false (by omega)
      have ff := And.intro @dr_0 (And.intro @g0_0 (And.intro @g1_0 (And.intro @g2_0 (And.intro @g3_0 (And.intro @g4_0 p_spec_l26Path_tf.down)))))
      try refine st_by ff ?_
      repeat' (first | exact trivial | refine And.intro sd ?_)
      refine JW.intro ?_
      rw [hJ_0]
      refine ⟨h_0, ?_⟩
      exact p_spec_l1Split_pv ff trivial
    | cons x_0 r_0 =>
      rw [hr_0] at h_0
      rw [p_spec_l26Path_l0] at h_0
      obtain ⟨ht_0, hg_0, hd_0⟩ := drop_cons hr_0
      have dr_0 : decide ((i_0 : Int) < (v1.length : Int)) = true := decide_eq_true (by omega)
      have w_0 : IntKind.i64.wrap ((i_0 : Int) + 1) = ((i_0 + 1 : Nat) : Int) := wI _ (by omega) (by omega)
      have kk0c : (esStr v1).drop (i_0 * 1) = eStr x_0 ++ esStr (v1.drop (i_0 + 1)) := drop_enc (fun _ => rfl) (hg_0)
      have kk0d := kk0c
      rw [Nat.mul_one] at kk0d
      have kk0g0 : (esStr v1).getD (i_0 * 1) .junk = (eStr x_0).getD 0 .junk := getD_enc0 (enc := eStr) (sz := 1) (fun _ => rfl) (hg_0) (by decide)
      rw [Nat.mul_one] at kk0g0
      by_cases c13 : x_0.size ≤ 9223372036854775807
      case neg => rw [if_neg c13] at h_0; cases h_0
      rw [if_pos c13] at h_0
      have ff := And.intro @dr_0 (And.intro @w_0 (And.intro @g0_0 (And.intro @g1_0 (And.intro @g2_0 (And.intro @g3_0 (And.intro @g4_0 (And.intro @kk0c (And.intro @kk0d (And.intro @kk0g0 p_spec_l26Path_tf.down)))))))))
      try refine st_by ff ?_
      repeat' (first | exact trivial | refine And.intro sd ?_)
      first
      | (refine cq_call (specGoodName_does x_0 (by first | assumption | omega)) (hf_by ff) kr ⟨p_spec_l26Path_sa ff trivial, ?_⟩; clear ff)
      by_cases c14 : (goodName x_0) = true
      case neg =>
       rw [if_neg c14] at h_0
       have dc14 := eq_false_of_ne_true c14
       cases h_0
       try dsimp only at h
       have ff := And.intro @dr_0 (And.intro @w_0 (And.intro @g0_0 (And.intro @g1_0 (And.intro @g2_0 (And.intro @g3_0 (And.intro @g4_0 (And.intro @kk0c (And.intro @kk0d (And.intro @kk0g0 (And.intro @dc14 p_spec_l26Path_tf.down))))))))))
       try refine st_by ff ?_
       repeat' (first | exact trivial | refine And.intro sd ?_)
       cases h
       exact ret_q1 rfl (p_spec_l1Split_rt ff trivial)
      rw [if_pos c14] at h_0
      have dc14 := c14
      have ff := And.intro @dr_0 (And.intro @w_0 (And.intro @g0_0 (And.intro @g1_0 (And.intro @g2_0 (And.intro @g3_0 (And.intro @g4_0 (And.intro @kk0c (And.intro @kk0d (And.intro @kk0g0 (And.intro @dc14 p_spec_l26Path_tf.down))))))))))
      try refine st_by ff ?_
      repeat' (first | exact trivial | refine And.intro sd ?_)
      refine Back.intro (i_0 + 1) ?_ ?_
      · clear ff; rw [hM_0]; show v1.length - (i_0 + 1) < v1.length - i_0; omega
      rw [hI_0]
      refine ⟨⟨by clear ff; show i_0 + 1 ≤ v1.length; omega, by show p_spec_l26Path_l0 (v1.drop (i_0 + 1)) (i_0 + 1) = some q_0; rw [hd_0]; exact h_0⟩, ?_⟩
      exact p_spec_l1Split_pv ff trivial
  · try clear ff
    rintro σ hg_0
    rw [hJ_0] at hg_0
    obtain ⟨hj_0, g0_0a, g1_0a⟩ := hg_0
    cases hj_0
    try dsimp only at h
    have ff := And.intro @g0_0a (And.intro @g1_0a p_spec_l26Path_tf.down)
    try refine st_by ff ?_
    repeat' (first | exact trivial | refine And.intro sd ?_)
    cases h
    exact ret_q1 rfl (p_spec_l1Split_rt ff trivial)
/-! spec.l26Value -/
theorem p_spec_l26Value_sa {F C A : Prop} (hF : F) (hC : C) (h : F → C → A := by intro hF hC; first | exact ca_by hF | (refine sa_by hF ?_; (repeat' (first | exact trivial | apply And.intro)); all_goals (clear hF; first | rfl | (simp only [hC, List.length_append, List.length_cons, List.length_nil, List.append_nil, List.nil_append, List.cons_append, List.length_set, List.append_assoc, Nat.zero_add, List.length_replicate]; done) | (simp [hC, List.length_append, List.length_cons, List.length_nil, List.append_nil, List.nil_append, List.cons_append, List.length_set, List.append_assoc, Nat.zero_add, List.length_replicate]; done) | omega))) : A := h hF hC
theorem p_spec_l26Value_rt {F C A : Prop} (hF : F) (hC : C) (h : F → C → A := by intro hF hC; first | (refine sr_by hF ?_; (repeat' (first | exact trivial | apply And.intro)); all_goals (clear hF; first | rfl | (simp only [hC, List.length_append, List.length_cons, List.length_nil, List.append_nil, List.nil_append, List.cons_append, List.length_set, List.append_assoc, Nat.zero_add, List.length_replicate]; done) | (simp [hC, List.length_append, List.length_cons, List.length_nil, List.append_nil, List.nil_append, List.cons_append, List.length_set, List.append_assoc, Nat.zero_add, List.length_replicate]; done) | omega)) | (first | rfl | (simp only [hC, List.length_append, List.length_cons, List.length_nil, List.append_nil, List.nil_append, List.cons_append, List.length_set, List.append_assoc, Nat.zero_add, List.length_replicate]; done) | (simp [hC, List.length_append, List.length_cons, List.length_nil, List.append_nil, List.nil_append, List.cons_append, List.length_set, List.append_assoc, Nat.zero_add, List.length_replicate]; done) | omega)) : A := h hF hC
def p_spec_l26Value_tf := PLift.up (And.intro @str_beq (And.intro @Ty.str9 @trivial))
def p_spec_l26Value (s_a0 : ByteArray) : Option (Bool) := some (rng (s_a0.size : Int) 1 40)
theorem p_spec_l26Value_does (s_a0 : ByteArray) (r : Bool) (h : p_spec_l26Value s_a0 = some r) : Does Tryd.prog 17 [S s_a0] (B r) := by
  rw [p_spec_l26Value] at h
  refine Does.walk (nt := 6) Tryd.func17 rfl rfl (by simp) (by decide) rfl (fun G0 X w0 pv => ?_)
  have ff := p_spec_l26Value_tf.down
  try refine st_by ff ?_
  repeat' (first | exact trivial | refine And.intro sd ?_)
  first
  | (refine cq_call (l1In_does (s_a0.size : Int) 1 40) (hf_by ff) kr ⟨p_spec_l26Value_sa ff trivial, ?_⟩; clear ff)
  have ff := p_spec_l26Value_tf.down
  try refine st_by ff ?_
  repeat' (first | exact trivial | refine And.intro sd ?_)
  cases h
  exact ret_q1 rfl (p_spec_l26Value_rt ff trivial)
/-! spec.GoodProps -/
def p_spec_GoodProps_l0 (N : Nat) (l_a0 : List GProp) : List GProp → Nat → Option (LR (Bool) (Unit))
  | [], i_0 => some (.out ())
  | x_0 :: r_0, i_0 => ((p_spec_l26Path N x_0.Path).bind fun v25 => (if v25 = true then ((p_spec_l26Value x_0.Value).bind fun v27 => (if v27 = true then (if (i_0 : Int) > 0 then ((idx l_a0 (IntKind.i64.wrap ((i_0 : Int) - 1))).bind fun x30 => (if (Op.bytesLess x30.Path.toList x_0.Path.toList) = true then p_spec_GoodProps_l0 N l_a0 r_0 (i_0 + 1) else some (.ret false))) else p_spec_GoodProps_l0 N l_a0 r_0 (i_0 + 1)) else some (.ret false))) else some (.ret false)))
theorem p_spec_GoodProps_pv {F C A : Prop} (hF : F) (hC : C) (h : F → C → A := by intro hF hC; first | exact cl_by hF | (refine st_by hF ?_; (repeat' (first | exact trivial | apply And.intro)); all_goals (clear hF; first | rfl | (simp only [hC, List.length_append, List.length_cons, List.length_nil, List.append_nil, List.nil_append, List.cons_append, List.length_set, List.append_assoc, Nat.zero_add, List.length_replicate, esProp_app, esProp_cons, esProp_nil, eProp_eq]; done) | (simp [hC, List.length_append, List.length_cons, List.length_nil, List.append_nil, List.nil_append, List.cons_append, List.length_set, List.append_assoc, Nat.zero_add, List.length_replicate, esProp_app, esProp_cons, esProp_nil, eProp_eq]; done) | omega))) : A := h hF hC
theorem p_spec_GoodProps_sa {F C A : Prop} (hF : F) (hC : C) (h : F → C → A := by intro hF hC; first | exact ca_by hF | (refine sa_by hF ?_; (repeat' (first | exact trivial | apply And.intro)); all_goals (clear hF; first | rfl | (simp only [hC, List.length_append, List.length_cons, List.length_nil, List.append_nil, List.nil_append, List.cons_append, List.length_set, List.append_assoc, Nat.zero_add, List.length_replicate, esProp_app, esProp_cons, esProp_nil, eProp_eq]; done) | (simp [hC, List.length_append, List.length_cons, List.length_nil, List.append_nil, List.nil_append, List.cons_append, List.length_set, List.append_assoc, Nat.zero_add, List.length_replicate, esProp_app, esProp_cons, esProp_nil, eProp_eq]; done) | omega))) : A := h hF hC
theorem p_spec_GoodProps_rt {F C A : Prop} (hF : F) (hC : C) (h : F → C → A := by intro hF hC; first | (refine sr_by hF ?_; (repeat' (first | exact trivial | apply And.intro)); all_goals (clear hF; first | rfl | (simp only [hC, List.length_append, List.length_cons, List.length_nil, List.append_nil, List.nil_append, List.cons_append, List.length_set, List.append_assoc, Nat.zero_add, List.length_replicate, esProp_app, esProp_cons, esProp_nil, eProp_eq]; done) | (simp [hC, List.length_append, List.length_cons, List.length_nil, List.append_nil, List.nil_append, List.cons_append, List.length_set, List.append_assoc, Nat.zero_add, List.length_replicate, esProp_app, esProp_cons, esProp_nil, eProp_eq]; done) | omega)) | (first | rfl | (simp only [hC, List.length_append, List.length_cons, List.length_nil, List.append_nil, List.nil_append, List.cons_append, List.length_set, List.append_assoc, Nat.zero_add, List.length_replicate, esProp_app, esProp_cons, esProp_nil, eProp_eq]; done) | (simp [hC, List.length_append, List.length_cons, List.length_nil, List.append_nil, List.nil_append, List.cons_append, List.length_set, List.append_assoc, Nat.zero_add, List.length_replicate, esProp_app, esProp_cons, esProp_nil, eProp_eq]; done) | omega)) : A := h hF hC
def p_spec_GoodProps_tf := PLift.up (And.intro @eProp_eq (And.intro @esProp_len (And.intro @esProp_nil (And.intro @esProp_leaf (And.intro @esProp_fit (And.intro @esProp_share (And.intro @esProp_pure (And.intro @str_beq (And.intro @Ty.sl25 (And.intro @Ty.slz25 (And.intro @Ty.nz39 (And.intro @Ty.ldA39 (And.intro @Ty.sz39 (And.intro @Ty.szn39 (And.intro @Ty.nz9 (And.intro @Ty.ldA9 (And.intro @Ty.ldS9 (And.intro @Ty.sz9 (And.intro @Ty.szn9 (And.intro @Ty.fo39_0 (And.intro @Ty.fk39_0 (And.intro @Ty.fs39_0 (And.intro @Ty.fn39_0 (And.intro @Ty.fo39_1 (And.intro @Ty.fk39_1 (And.intro @Ty.fs39_1 (And.intro @Ty.fn39_1 (And.intro @Ty.zv39 @trivial))))))))))))))))))))))))))))
def p_spec_GoodProps (N : Nat) (l_a0 : List GProp) : Option (Bool) := (if (l_a0.length : Int) > 40 then some false else ((p_spec_GoodProps_l0 N l_a0 l_a0 0).bind fun q_0 => match q_0 with | .ret r_ => some r_ | .out _ => some true))
theorem p_spec_GoodProps_does (N : Nat) (l_a0 : List GProp) (r : Bool) (h : p_spec_GoodProps N l_a0 = some r) : Does Tryd.prog 6 [.row false 2 l_a0.length (esProp l_a0)] (B r) := by
  rw [p_spec_GoodProps] at h
  refine Does.bnd (fun hb => ?_)
  have hb2 : l_a0.length ≤ 9223372036854775807 := by simpa [AV.fitNs, AV.fitN] using hb
  have hl0 := hb2
  refine Does.walk (nt := 41) Tryd.func6 rfl rfl (by simp) (by decide) rfl (fun G0 X w0 pv => ?_)
  by_cases c1 : (l_a0.length : Int) > 40
  · rw [if_pos c1] at h
    have dc1 := decide_eq_true c1
    have ff := And.intro @dc1 p_spec_GoodProps_tf.down
    try refine st_by ff ?_
    repeat' (first | exact trivial | refine And.intro sd ?_)
    cases h
    exact ret_q1 rfl (p_spec_GoodProps_rt ff trivial)
  rw [if_neg c1] at h
  have dc1 := decide_eq_false c1
  have hL_0 : l_a0.length ≤ 9223372036854775807 := by first | assumption | omega
  obtain ⟨q_0, eq_0, h⟩ := Option.bind_eq_some_iff.1 h
  have ff := And.intro @dc1 p_spec_GoodProps_tf.down
  try refine st_by ff ?_
  repeat' (first | exact trivial | refine And.intro sd ?_)
  obtain ⟨I_0, hI_0⟩ : ∃ I_ : (Nat) → ASt → Prop, I_ = (fun (i_0 : Nat) σ => (i_0 ≤ l_a0.length ∧ p_spec_GoodProps_l0 N l_a0 (l_a0.drop i_0) i_0 = some q_0) ∧ σ.t 0 = .row false 2 l_a0.length (esProp l_a0) ∧ σ.t 8 = .row false 2 l_a0.length (esProp l_a0) ∧ σ.t 9 = I (l_a0.length : Int) ∧ σ.t 10 = I (i_0 : Int)) := ⟨_, rfl⟩
  obtain ⟨M_0, hM_0⟩ : ∃ M_ : (Nat) → Nat, M_ = (fun (i_0 : Nat) => l_a0.length - i_0) := ⟨_, rfl⟩
  obtain ⟨J_0, hJ_0⟩ : ∃ J_ : ASt → Prop, J_ = (fun σ => (some (.out ()) = some q_0) ∧ True) := ⟨_, rfl⟩
  refine aw_loopC (id := 0) I_0 M_0 J_0 (0) ?_ ?_ ?_
  · rw [hI_0]
    refine ⟨⟨Nat.zero_le _, eq_0⟩, ?_⟩
    exact p_spec_GoodProps_pv ff trivial
  · try clear ff
    rintro i_0 σ hg_0
    rw [hI_0] at hg_0
    obtain ⟨⟨hi_0, h_0⟩, g0_0, g1_0, g2_0, g3_0⟩ := hg_0
    cases hr_0 : l_a0.drop i_0 with
    | nil =>
      rw [hr_0] at h_0
      rw [p_spec_GoodProps_l0] at h_0
      have hn_0 := drop_nil hr_0
      have dr_0 : decide ((i_0 : Int) < (l_a0.length : Int)) = false := decide_eq_false (by omega)
      have ff := And.intro @dc1 (And.intro @dr_0 (And.intro @g0_0 (And.intro @g1_0 (And.intro @g2_0 (And.intro @g3_0 p_spec_GoodProps_tf.down)))))
      try refine st_by ff ?_
      repeat' (first | exact trivial | refine And.intro sd ?_)
      refine JW.intro ?_
      rw [hJ_0]
      refine ⟨h_0, ?_⟩
      exact p_spec_GoodProps_pv ff trivial
    | cons x_0 r_0 =>
      rw [hr_0] at h_0
      rw [p_spec_GoodProps_l0] at h_0
      obtain ⟨ht_0, hg_0, hd_0⟩ := drop_cons hr_0
      have dr_0 : decide ((i_0 : Int) < (l_a0.length : Int)) = true := decide_eq_true (by omega)
      have w_0 : IntKind.i64.wrap ((i_0 : Int) + 1) = ((i_0 + 1 : Nat) : Int) := wI _ (by omega) (by omega)
      have kk0c : (esProp l_a0).drop (i_0 * 2) = eProp x_0 ++ esProp (l_a0.drop (i_0 + 1)) := drop_enc (fun _ => rfl) (hg_0)
      obtain ⟨v25, ev25, h_0⟩ := Option.bind_eq_some_iff.1 h_0
      try dsimp only at h_0
      have ff := And.intro @dc1 (And.intro @dr_0 (And.intro @w_0 (And.intro @g0_0 (And.intro @g1_0 (And.intro @g2_0 (And.intro @g3_0 (And.intro @kk0c p_spec_GoodProps_tf.down)))))))
      try refine st_by ff ?_
      repeat' (first | exact trivial | refine And.intro sd ?_ | (refine aw_drawn (id := 6) ?_ [[], [0], [0, 1], [0, 1, 2], [0, 1, 2, 3], [0, 1, 2, 3, 4], [0, 1, 2, 3, 4, 5], [0, 1, 2, 3, 4, 5, 6], [0, 1, 2, 3, 4, 5, 6, 7], [0, 1, 2, 3, 4, 5, 6, 7, 8], [0, 1, 2, 3, 4, 5, 6, 7, 8, 9], [0, 1, 2, 3, 4, 5, 6, 7, 8, 9, 10], [0, 1, 2, 3, 4, 5, 6, 7, 8, 9, 10, 11], [0, 1, 2, 3, 4, 5, 6, 7, 8, 9, 10, 11, 12], [0, 1, 2, 3, 4, 5, 6, 7, 8, 9, 10, 11, 12, 13], [0, 1, 2, 3, 4, 5, 6, 7, 8, 9, 10, 11, 12, 13], [0, 1, 2, 3, 4, 5, 6, 7, 8, 9, 10, 11, 12, 13, 15], [0, 1, 2, 3, 4, 5, 6, 7, 8, 9, 10, 11, 12, 13, 14, 15, 16], [0, 1, 2, 3, 4, 5, 6, 7, 8, 9, 10, 11, 12, 13, 14, 15, 16, 17], [0, 1, 2, 3, 4, 5, 6, 7, 8, 9, 10, 11, 12, 13, 14, 15, 16, 17, 18], [0, 1, 2, 3, 4, 5, 6, 7, 8, 9, 10, 11, 12, 13], [0, 1, 2, 3, 4, 5, 6, 7, 8, 9, 10, 11, 12, 13, 20], [0, 1, 2, 3, 4, 5, 6, 7, 8, 9, 10, 11, 12, 13, 14, 15, 16, 17, 18, 19, 20, 21], [0, 1, 2, 3, 4, 5, 6, 7, 8, 9, 10, 11, 12, 13, 14, 15, 16, 17, 18, 19, 20, 21, 22], [0, 1, 2, 3, 4, 5, 6, 7, 8, 9, 10, 11, 12, 13, 14, 15, 16, 17, 18, 19, 20, 21, 22, 23]] 22 ?_ ?_; (· kernel_rfl); (· kernel_rfl); refine st_by ff ?_))
      first
      | (refine cq_call (p_spec_l26Path_does N x_0.Path v25 ev25) (hf_by ff) kr ⟨p_spec_GoodProps_sa ff trivial, ?_⟩; clear ff)
      | (refine cq_dcall (p_spec_l26Path_does N x_0.Path v25 ev25) (hf_by ff) kr ⟨p_spec_GoodProps_sa ff trivial, ?_⟩; clear ff)
      by_cases c26 : v25 = true
      case neg =>
       rw [if_neg c26] at h_0
       have dc26 := eq_false_of_ne_true c26
       cases h_0
       try dsimp only at h
       have ff := And.intro @dc1 (And.intro @dr_0 (And.intro @w_0 (And.intro @g0_0 (And.intro @g1_0 (And.intro @g2_0 (And.intro @g3_0 (And.intro @kk0c (And.intro @dc26 p_spec_GoodProps_tf.down))))))))
       try refine st_by ff ?_
       repeat' (first | exact trivial | refine And.intro sd ?_)
       cases h
       exact ret_q1 rfl (p_spec_GoodProps_rt ff trivial)
      rw [if_pos c26] at h_0
      have dc26 := c26
      obtain ⟨v27, ev27, h_0⟩ := Option.bind_eq_some_iff.1 h_0
      try dsimp only at h_0
      have ff := And.intro @dc1 (And.intro @dr_0 (And.intro @w_0 (And.intro @g0_0 (And.intro @g1_0 (And.intro @g2_0 (And.intro @g3_0 (And.intro @kk0c (And.intro @dc26 p_spec_GoodProps_tf.down))))))))
      try refine st_by ff ?_
      repeat' (first | exact trivial | refine And.intro sd ?_)
      first
      | (refine cq_call (p_spec_l26Value_does x_0.Value v27 ev27) (hf_by ff) kr ⟨p_spec_GoodProps_sa ff trivial, ?_⟩; clear ff)
      | (refine cq_dcall (p_spec_l26Value_does x_0.Value v27 ev27) (hf_by ff) kr ⟨p_spec_GoodProps_sa ff trivial, ?_⟩; clear ff)
      by_cases c28 : v27 = true
      case neg =>
       rw [if_neg c28] at h_0
       have dc28 := eq_false_of_ne_true c28
       cases h_0
       try dsimp only at h
       have ff := And.intro @dc1 (And.intro @dr_0 (And.intro @w_0 (And.intro @g0_0 (And.intro @g1_0 (And.intro @g2_0 (And.intro @g3_0 (And.intro @kk0c (And.intro @dc26 (And.intro @dc28 p_spec_GoodProps_tf.down)))))))))
       try refine st_by ff ?_
       repeat' (first | exact trivial | refine And.intro sd ?_)
       cases h
       exact ret_q1 rfl (p_spec_GoodProps_rt ff trivial)
      rw [if_pos c28] at h_0
      have dc28 := c28
      by_cases c29 : (i_0 : Int) > 0
      case neg =>
       rw [if_neg c29] at h_0
       have dc29 := decide_eq_false c29
       have ff := And.intro @dc1 (And.intro @dr_0 (And.intro @w_0 (And.intro @g0_0 (And.intro @g1_0 (And.intro @g2_0 (And.intro @g3_0 (And.intro @kk0c (And.intro @dc26 (And.intro @dc28 (And.intro @dc29 p_spec_GoodProps_tf.down))))))))))
       try refine st_by ff ?_
       repeat' (first | exact trivial | refine And.intro sd ?_)
       refine Back.intro (i_0 + 1) ?_ ?_
       · clear ff; rw [hM_0]; show l_a0.length - (i_0 + 1) < l_a0.length - i_0; omega
       rw [hI_0]
       refine ⟨⟨by clear ff; show i_0 + 1 ≤ l_a0.length; omega, by show p_spec_GoodProps_l0 N l_a0 (l_a0.drop (i_0 + 1)) (i_0 + 1) = some q_0; rw [hd_0]; exact h_0⟩, ?_⟩
       exact p_spec_GoodProps_pv ff trivial
      rw [if_pos c29] at h_0
      have dc29 := decide_eq_true c29
      obtain ⟨x30, ex30, h_0⟩ := Option.bind_eq_some_iff.1 h_0
      try dsimp only at h_0
      have f31a := idx_lo ex30
      have f31b := idx_hi ex30
      have f31c : (esProp l_a0).drop (((IntKind.i64.wrap ((i_0 : Int) - 1)).toNat) * 2) = eProp x30 ++ esProp (l_a0.drop ((IntKind.i64.wrap ((i_0 : Int) - 1)).toNat + 1)) := drop_enc (fun _ => rfl) (idx_get ex30)
      by_cases c32 : (Op.bytesLess x30.Path.toList x_0.Path.toList) = true
      case neg =>
       rw [if_neg c32] at h_0
       have dc32 := eq_false_of_ne_true c32
       cases h_0
       try dsimp only at h
       have ff := And.intro @dc1 (And.intro @dr_0 (And.intro @w_0 (And.intro @g0_0 (And.intro @g1_0 (And.intro @g2_0 (And.intro @g3_0 (And.intro @kk0c (And.intro @dc26 (And.intro @dc28 (And.intro @dc29 (And.intro @f31c (And.intro @dc32 p_spec_GoodProps_tf.down))))))))))))
       try refine st_by ff ?_
       repeat' (first | exact trivial | refine And.intro sd ?_)
       cases h
       exact ret_q1 rfl (p_spec_GoodProps_rt ff trivial)
      rw [if_pos c32] at h_0
      have dc32 := c32
      have ff := And.intro @dc1 (And.intro @dr_0 (And.intro @w_0 (And.intro @g0_0 (And.intro @g1_0 (And.intro @g2_0 (And.intro @g3_0 (And.intro @kk0c (And.intro @dc26 (And.intro @dc28 (And.intro @dc29 (And.intro @f31c (And.intro @dc32 p_spec_GoodProps_tf.down))))))))))))
      try refine st_by ff ?_
      repeat' (first | exact trivial | refine And.intro sd ?_)
      refine Back.intro (i_0 + 1) ?_ ?_
      · clear ff; rw [hM_0]; show l_a0.length - (i_0 + 1) < l_a0.length - i_0; omega
      rw [hI_0]
      refine ⟨⟨by clear ff; show i_0 + 1 ≤ l_a0.length; omega, by show p_spec_GoodProps_l0 N l_a0 (l_a0.drop (i_0 + 1)) (i_0 + 1) = some q_0; rw [hd_0]; exact h_0⟩, ?_⟩
      exact p_spec_GoodProps_pv ff trivial
  · try clear ff
    rintro σ hg_0
    rw [hJ_0] at hg_0
    obtain ⟨hj_0, _⟩ := hg_0
    cases hj_0
    try dsimp only at h
    have ff := And.intro @dc1 p_spec_GoodProps_tf.down
    try refine st_by ff ?_
    repeat' (first | exact trivial | refine And.intro sd ?_)
    cases h
    exact ret_q1 rfl (p_spec_GoodProps_rt ff trivial)
/-! slices.IndexFunc[[]string,string] -/
def p_slices_IndexFunc_string_string_l0 (f_a1 : ByteArray → Option Bool) : List ByteArray → Nat → Option (LR (Int) (Unit))
  | [], i_0 => some (.out ())
  | x_0 :: r_0, i_0 => ((f_a1 x_0).bind fun v12 => (if v12 = true then some (.ret (i_0 : Int)) else p_slices_IndexFunc_string_string_l0 f_a1 r_0 (i_0 + 1)))
def p_slices_IndexFunc_string_string_tf := PLift.up (And.intro @eStr_eq (And.intro @esStr_len (And.intro @esStr_nil (And.intro @esStr_leaf (And.intro @esStr_fit (And.intro @esStr_share (And.intro @esStr_pure (And.intro @str_beq (And.intro @Ty.sl52 (And.intro @Ty.slz52 (And.intro @Ty.nz9 (And.intro @Ty.ldA9 (And.intro @Ty.ldS9 (And.intro @Ty.sz9 (And.intro @Ty.szn9 @trivial)))))))))))))))
def p_slices_IndexFunc_string_string (s_a0 : List ByteArray) (f_a1 : ByteArray → Option Bool) : Option (Int) := ((p_slices_IndexFunc_string_string_l0 f_a1 s_a0 0).bind fun q_0 => match q_0 with | .ret r_ => some r_ | .out _ => some (-1))
theorem p_slices_IndexFunc_string_string_does (s_a0 : List ByteArray) (f1 : FuncId) (caps1 : List AV) (hc1 : AV.noRefs caps1 = true) (he1 : entB Tryd.prog f1 = true) (f_a1 : ByteArray → Option Bool) (hp1 : ∀ (x0_ : ByteArray) (y_ : Bool), f_a1 x0_ = some y_ → Does Tryd.prog f1 ([S x0_] ++ caps1) (B y_)) (r : Int) (h : p_slices_IndexFunc_string_string s_a0 f_a1 = some r) : Does Tryd.prog 42 [.row false 1 s_a0.length (esStr s_a0), .fn f1 caps1] (I r) := by
  rw [p_slices_IndexFunc_string_string] at h
  refine Does.bnd (fun hb => ?_)
  have hb2 : s_a0.length ≤ 9223372036854775807 := by simpa [AV.fitNs, AV.fitN] using hb
  have hl0 := hb2
  refine Does.walk (nt := 19) Tryd.func42 rfl rfl (by simp) (by decide) (by simp [AV.noRefs, AV.noRef, hc1]) (fun G0 X w0 pv => ?_)
  have hL_0 : s_a0.length ≤ 9223372036854775807 := by first | assumption | omega
  obtain ⟨q_0, eq_0, h⟩ := Option.bind_eq_some_iff.1 h
  have ff := And.intro @hc1 p_slices_IndexFunc_string_string_tf.down
  try refine st_by ff ?_
  repeat' (first | exact trivial | refine And.intro sd ?_)
  obtain ⟨I_0, hI_0⟩ : ∃ I_ : (Nat) → ASt → Prop, I_ = (fun (i_0 : Nat) σ => (i_0 ≤ s_a0.length ∧ p_slices_IndexFunc_string_string_l0 f_a1 (s_a0.drop i_0) i_0 = some q_0) ∧ σ.t 0 = .row false 1 s_a0.length (esStr s_a0) ∧ σ.t 1 = .fn f1 caps1 ∧ σ.t 7 = I (s_a0.length : Int) ∧ σ.t 8 = I (i_0 : Int)) := ⟨_, rfl⟩
  obtain ⟨M_0, hM_0⟩ : ∃ M_ : (Nat) → Nat, M_ = (fun (i_0 : Nat) => s_a0.length - i_0) := ⟨_, rfl⟩
  obtain ⟨J_0, hJ_0⟩ : ∃ J_ : ASt → Prop, J_ = (fun σ => (some (.out ()) = some q_0) ∧ True) := ⟨_, rfl⟩
  refine aw_loopC (id := 0) I_0 M_0 J_0 (0) ?_ ?_ ?_
  · rw [hI_0]
    refine ⟨⟨Nat.zero_le _, eq_0⟩, ?_⟩
    exact p_spec_l1Split_pv ff trivial
  · try clear ff
    rintro i_0 σ hg_0
    rw [hI_0] at hg_0
    obtain ⟨⟨hi_0, h_0⟩, g0_0, g1_0, g2_0, g3_0⟩ := hg_0
    cases hr_0 : s_a0.drop i_0 with
    | nil =>
      rw [hr_0] at h_0
      rw [p_slices_IndexFunc_string_string_l0] at h_0
      have hn_0 := drop_nil hr_0
      have dr_0 : decide ((i_0 : Int) < (s_a0.length : Int)) = false := decide_eq_false (by omega)
      have ff := And.intro @hc1 (And.intro @dr_0 (And.intro @g0_0 (And.intro @g1_0 (And.intro @g2_0 (And.intro @g3_0 p_slices_IndexFunc_string_string_tf.down)))))
      try refine st_by ff ?_
      repeat' (first | exact trivial | refine And.intro sd ?_)
      refine JW.intro ?_
      rw [hJ_0]
      refine ⟨h_0, ?_⟩
      exact p_spec_l1Split_pv ff trivial
    | cons x_0 r_0 =>
      rw [hr_0] at h_0
      rw [p_slices_IndexFunc_string_string_l0] at h_0
      obtain ⟨ht_0, hg_0, hd_0⟩ := drop_cons hr_0
      have dr_0 : decide ((i_0 : Int) < (s_a0.length : Int)) = true := decide_eq_true (by omega)
      have w_0 : IntKind.i64.wrap ((i_0 : Int) + 1) = ((i_0 + 1 : Nat) : Int) := wI _ (by omega) (by omega)
      have kk0c : (esStr s_a0).drop (i_0 * 1) = eStr x_0 ++ esStr (s_a0.drop (i_0 + 1)) := drop_enc (fun _ => rfl) (hg_0)
      have kk0d := kk0c
      rw [Nat.mul_one] at kk0d
      obtain ⟨v12, ev12, h_0⟩ := Option.bind_eq_some_iff.1 h_0
      try dsimp only at h_0
      have ff := And.intro @hc1 (And.intro @dr_0 (And.intro @w_0 (And.intro @g0_0 (And.intro @g1_0 (And.intro @g2_0 (And.intro @g3_0 (And.intro @kk0c (And.intro @kk0d p_slices_IndexFunc_string_string_tf.down))))))))
      try refine st_by ff ?_
      repeat' (first | exact trivial | refine And.intro sd ?_)
      first
      | (refine cq_call (hp1 x_0 v12 ev12) (hf_by ff) he1 ⟨p_spec_l26Path_sa ff trivial, ?_⟩; clear ff)
      by_cases c13 : v12 = true
      · rw [if_pos c13] at h_0
        have dc13 := c13
        cases h_0
        try dsimp only at h
        have ff := And.intro @hc1 (And.intro @dr_0 (And.intro @w_0 (And.intro @g0_0 (And.intro @g1_0 (And.intro @g2_0 (And.intro @g3_0 (And.intro @kk0c (And.intro @kk0d (And.intro @dc13 p_slices_IndexFunc_string_string_tf.down)))))))))
        try refine st_by ff ?_
        repeat' (first | exact trivial | refine And.intro sd ?_)
        cases h
        exact ret_q1 rfl (p_spec_l1Split_rt ff trivial)
      rw [if_neg c13] at h_0
      have dc13 := eq_false_of_ne_true c13
      have ff := And.intro @hc1 (And.intro @dr_0 (And.intro @w_0 (And.intro @g0_0 (And.intro @g1_0 (And.intro @g2_0 (And.intro @g3_0 (And.intro @kk0c (And.intro @kk0d (And.intro @dc13 p_slices_IndexFunc_string_string_tf.down)))))))))
      try refine st_by ff ?_
      repeat' (first | exact trivial | refine And.intro sd ?_)
      refine Back.intro (i_0 + 1) ?_ ?_
      · clear ff; rw [hM_0]; show s_a0.length - (i_0 + 1) < s_a0.length - i_0; omega
      rw [hI_0]
      refine ⟨⟨by clear ff; show i_0 + 1 ≤ s_a0.length; omega, by show p_slices_IndexFunc_string_string_l0 f_a1 (s_a0.drop (i_0 + 1)) (i_0 + 1) = some q_0; rw [hd_0]; exact h_0⟩, ?_⟩
      exact p_spec_l1Split_pv ff trivial
  · try clear ff
    rintro σ hg_0
    rw [hJ_0] at hg_0
    obtain ⟨hj_0, _⟩ := hg_0
    cases hj_0
    try dsimp only at h
    have ff := And.intro @hc1 p_slices_IndexFunc_string_string_tf.down
    try refine st_by ff ?_
    repeat' (first | exact trivial | refine And.intro sd ?_)
    cases h
    exact ret_q1 rfl (p_spec_l1Split_rt ff trivial)
/-! slices.ContainsFunc[[]string,string] -/
def p_slices_ContainsFunc_string_string_tf := PLift.up (And.intro @eStr_eq (And.intro @esStr_len (And.intro @esStr_nil (And.intro @esStr_leaf (And.intro @esStr_fit (And.intro @esStr_share (And.intro @esStr_pure (And.intro @str_beq @trivial))))))))
def p_slices_ContainsFunc_string_string (s_a0 : List ByteArray) (f_a1 : ByteArray → Option Bool) : Option (Bool) := ((p_slices_IndexFunc_string_string s_a0 f_a1).bind fun v1 => some (decide (v1 ≥ 0)))
theorem p_slices_ContainsFunc_string_string_does (s_a0 : List ByteArray) (f1 : FuncId) (caps1 : List AV) (hc1 : AV.noRefs caps1 = true) (he1 : entB Tryd.prog f1 = true) (f_a1 : ByteArray → Option Bool) (hp1 : ∀ (x0_ : ByteArray) (y_ : Bool), f_a1 x0_ = some y_ → Does Tryd.prog f1 ([S x0_] ++ caps1) (B y_)) (r : Bool) (h : p_slices_ContainsFunc_string_string s_a0 f_a1 = some r) : Does Tryd.prog 32 [.row false 1 s_a0.length (esStr s_a0), .fn f1 caps1] (B r) := by
  rw [p_slices_ContainsFunc_string_string] at h
  refine Does.bnd (fun hb => ?_)
  have hb2 : s_a0.length ≤ 9223372036854775807 := by simpa [AV.fitNs, AV.fitN] using hb
  have hl0 := hb2
  refine Does.walk (nt := 9) Tryd.func32 rfl rfl (by simp) (by decide) (by simp [AV.noRefs, AV.noRef, hc1]) (fun G0 X w0 pv => ?_)
  obtain ⟨v1, ev1, h⟩ := Option.bind_eq_some_iff.1 h
  try dsimp only at h
  have ff := And.intro @hc1 p_slices_ContainsFunc_string_string_tf.down
  try refine st_by ff ?_
  repeat' (first | exact trivial | refine And.intro sd ?_)
  first
  | (refine cq_call (p_slices_IndexFunc_string_string_does s_a0 f1 caps1 hc1 he1 f_a1 hp1 v1 ev1) (hf_by ff) kr ⟨p_spec_l26Path_sa ff trivial, ?_⟩; clear ff)
  have ff := And.intro @hc1 p_slices_ContainsFunc_string_string_tf.down
  try refine st_by ff ?_
  repeat' (first | exact trivial | refine And.intro sd ?_)
  cases h
  exact ret_q1 rfl (p_spec_l1Split_rt ff trivial)
/-! impl.isPath$1 -/
def p_impl_isPath_1_tf := PLift.up (And.intro @str_beq @trivial)
def p_impl_isPath_1 (name_a0 : ByteArray) : Option (Bool) := (if name_a0.size ≤ 9223372036854775807 then some (!(goodName name_a0)) else none)
theorem p_impl_isPath_1_does (name_a0 : ByteArray) (r : Bool) (h : p_impl_isPath_1 name_a0 = some r) : Does Tryd.prog 33 [S name_a0] (B r) := by
  rw [p_impl_isPath_1] at h
  refine Does.walk (nt := 6) Tryd.func33 rfl rfl (by simp) (by decide) rfl (fun G0 X w0 pv => ?_)
  by_cases c1 : name_a0.size ≤ 9223372036854775807
  case neg => rw [if_neg c1] at h; cases h
  rw [if_pos c1] at h
  have ff := p_impl_isPath_1_tf.down
  try refine st_by ff ?_
  repeat' (first | exact trivial | refine And.intro sd ?_)
  first
  | (refine cq_call (implGoodName_does name_a0 (by first | assumption | omega)) (hf_by ff) kr ⟨p_spec_l26Value_sa ff trivial, ?_⟩; clear ff)
  have ff := p_impl_isPath_1_tf.down
  try refine st_by ff ?_
  repeat' (first | exact trivial | refine And.intro sd ?_)
  cases h
  exact ret_q1 rfl (p_spec_l26Value_rt ff trivial)
/-! impl.isPath -/
def p_impl_isPath_tf := PLift.up (And.intro @eStr_eq (And.intro @esStr_len (And.intro @esStr_nil (And.intro @esStr_leaf (And.intro @esStr_fit (And.intro @esStr_share (And.intro @esStr_pure (And.intro @str_beq (And.intro @Ty.sl52 (And.intro @Ty.slz52 @trivial))))))))))
def p_impl_isPath (s_a0 : ByteArray) : Option (Bool) := ((splitP s_a0 (⟨#[47]⟩ : ByteArray)).bind fun v1 => (if (v1.length : Int) ≤ 5 then ((p_slices_ContainsFunc_string_string v1 (fun x0_ => p_impl_isPath_1 x0_)).bind fun v3 => some (!v3)) else some false))
theorem p_impl_isPath_does (s_a0 : ByteArray) (r : Bool) (h : p_impl_isPath s_a0 = some r) : Does Tryd.prog 19 [S s_a0] (B r) := by
  rw [p_impl_isPath] at h
  refine Does.walk (nt := 14) Tryd.func19 rfl rfl (by simp) (by decide) rfl (fun G0 X w0 pv => ?_)
  obtain ⟨v1, ev1, h⟩ := Option.bind_eq_some_iff.1 h
  try dsimp only at h
  have ff := p_impl_isPath_tf.down
  try refine st_by ff ?_
  repeat' (first | exact trivial | refine And.intro sd ?_)
  first
  | (refine cq_own (split_does s_a0 (⟨#[47]⟩ : ByteArray) v1 ev1) (hf_by ff) kr ⟨p_spec_l26Path_sa ff trivial, ?_⟩; clear ff)
  by_cases c2 : (v1.length : Int) ≤ 5
  case neg =>
   rw [if_neg c2] at h
   have dc2 := decide_eq_false c2
   have ff := And.intro @dc2 p_impl_isPath_tf.down
   try refine st_by ff ?_
   repeat' (first | exact trivial | refine And.intro sd ?_)
   cases h
   exact ret_q1 rfl (p_spec_l1Split_rt ff trivial)
  rw [if_pos c2] at h
  have dc2 := decide_eq_true c2
  obtain ⟨v3, ev3, h⟩ := Option.bind_eq_some_iff.1 h
  try dsimp only at h
  have ff := And.intro @dc2 p_impl_isPath_tf.down
  try refine st_by ff ?_
  repeat' (first | exact trivial | refine And.intro sd ?_)
  first
  | (refine cq_lend (p_slices_ContainsFunc_string_string_does v1 33 [] (by simp [AV.noRefs, AV.noRef]) kr (fun x0_ => p_impl_isPath_1 x0_) (fun x0_ y_ h_ => p_impl_isPath_1_does x0_ y_ h_) v3 ev3) (hf_by ff) kr ⟨p_spec_l26Path_sa ff trivial, ?_⟩; clear ff)
  have ff := And.intro @dc2 p_impl_isPath_tf.down
  try refine st_by ff ?_
  repeat' (first | exact trivial | refine And.intro sd ?_)
  cases h
  exact ret_q1 rfl (p_spec_l1Split_rt ff trivial)
/-! impl.isPropValue -/
def p_impl_isPropValue_tf := PLift.up (And.intro @str_beq (And.intro @Ty.str9 @trivial))
def p_impl_isPropValue (s_a0 : ByteArray) : Option (Bool) := some (rng (s_a0.size : Int) 1 40)
theorem p_impl_isPropValue_does (s_a0 : ByteArray) (r : Bool) (h : p_impl_isPropValue s_a0 = some r) : Does Tryd.prog 20 [S s_a0] (B r) := by
  rw [p_impl_isPropValue] at h
  refine Does.walk (nt := 6) Tryd.func20 rfl rfl (by simp) (by decide) rfl (fun G0 X w0 pv => ?_)
  have ff := p_impl_isPropValue_tf.down
  try refine st_by ff ?_
  repeat' (first | exact trivial | refine And.intro sd ?_)
  first
  | (refine cq_call (inRange_does (s_a0.size : Int) 1 40) (hf_by ff) kr ⟨p_spec_l26Value_sa ff trivial, ?_⟩; clear ff)
  have ff := p_impl_isPropValue_tf.down
  try refine st_by ff ?_
  repeat' (first | exact trivial | refine And.intro sd ?_)
  cases h
  exact ret_q1 rfl (p_spec_l26Value_rt ff trivial)
/-! impl.GoodProps -/
def p_impl_GoodProps_l0 (l_a0 : List GProp) : List GProp → Nat → Option (LR (Bool) (Unit))
  | [], i_0 => some (.out ())
  | x_0 :: r_0, i_0 => ((p_impl_isPath x_0.Path).bind fun v24 => (if v24 = true then ((p_impl_isPropValue x_0.Value).bind fun v26 => (if v26 = true then (if (i_0 : Int) > 0 then ((idx l_a0 (IntKind.i64.wrap ((i_0 : Int) - 1))).bind fun x29 => (if (Op.bytesLess x29.Path.toList x_0.Path.toList) = true then p_impl_GoodProps_l0 l_a0 r_0 (i_0 + 1) else some (.ret false))) else p_impl_GoodProps_l0 l_a0 r_0 (i_0 + 1)) else some (.ret false))) else some (.ret false)))
def p_impl_GoodProps_tf := PLift.up (And.intro @eProp_eq (And.intro @esProp_len (And.intro @esProp_nil (And.intro @esProp_leaf (And.intro @esProp_fit (And.intro @esProp_share (And.intro @esProp_pure (And.intro @str_beq (And.intro @Ty.sl25 (And.intro @Ty.slz25 (And.intro @Ty.nz39 (And.intro @Ty.ldA39 (And.intro @Ty.sz39 (And.intro @Ty.szn39 (And.intro @Ty.nz9 (And.intro @Ty.ldA9 (And.intro @Ty.ldS9 (And.intro @Ty.sz9 (And.intro @Ty.szn9 (And.intro @Ty.fo39_0 (And.intro @Ty.fk39_0 (And.intro @Ty.fs39_0 (And.intro @Ty.fn39_0 (And.intro @Ty.fo39_1 (And.intro @Ty.fk39_1 (And.intro @Ty.fs39_1 (And.intro @Ty.fn39_1 (And.intro @Ty.zv39 @trivial))))))))))))))))))))))))))))
def p_impl_GoodProps (l_a0 : List GProp) : Option (Bool) := ((p_impl_GoodProps_l0 l_a0 l_a0 0).bind fun q_0 => match q_0 with | .ret r_ => some r_ | .out _ => some (decide ((l_a0.length : Int) ≤ 40)))
theorem p_impl_GoodProps_does (l_a0 : List GProp) (r : Bool) (h : p_impl_GoodProps l_a0 = some r) : Does Tryd.prog 8 [.row false 2 l_a0.length (esProp l_a0)] (B r) := by
  rw [p_impl_GoodProps] at h
  refine Does.bnd (fun hb => ?_)
  have hb2 : l_a0.length ≤ 9223372036854775807 := by simpa [AV.fitNs, AV.fitN] using hb
  have hl0 := hb2
  refine Does.walk (nt := 41) Tryd.func8 rfl rfl (by simp) (by decide) rfl (fun G0 X w0 pv => ?_)
  have hL_0 : l_a0.length ≤ 9223372036854775807 := by first | assumption | omega
  obtain ⟨q_0, eq_0, h⟩ := Option.bind_eq_some_iff.1 h
  have ff := p_impl_GoodProps_tf.down
  try refine st_by ff ?_
  repeat' (first | exact trivial | refine And.intro sd ?_)
  obtain ⟨I_0, hI_0⟩ : ∃ I_ : (Nat) → ASt → Prop, I_ = (fun (i_0 : Nat) σ => (i_0 ≤ l_a0.length ∧ p_impl_GoodProps_l0 l_a0 (l_a0.drop i_0) i_0 = some q_0) ∧ σ.t 0 = .row false 2 l_a0.length (esProp l_a0) ∧ σ.t 5 = .row false 2 l_a0.length (esProp l_a0) ∧ σ.t 6 = I (l_a0.length : Int) ∧ σ.t 7 = I (i_0 : Int)) := ⟨_, rfl⟩
  obtain ⟨M_0, hM_0⟩ : ∃ M_ : (Nat) → Nat, M_ = (fun (i_0 : Nat) => l_a0.length - i_0) := ⟨_, rfl⟩
  obtain ⟨J_0, hJ_0⟩ : ∃ J_ : ASt → Prop, J_ = (fun σ => (some (.out ()) = some q_0) ∧ σ.t 0 = .row false 2 l_a0.length (esProp l_a0)) := ⟨_, rfl⟩
  refine aw_loopC (id := 0) I_0 M_0 J_0 (0) ?_ ?_ ?_
  · rw [hI_0]
    refine ⟨⟨Nat.zero_le _, eq_0⟩, ?_⟩
    exact p_spec_GoodProps_pv ff trivial
  · try clear ff
    rintro i_0 σ hg_0
    rw [hI_0] at hg_0
    obtain ⟨⟨hi_0, h_0⟩, g0_0, g1_0, g2_0, g3_0⟩ := hg_0
    cases hr_0 : l_a0.drop i_0 with
    | nil =>
      rw [hr_0] at h_0
      rw [p_impl_GoodProps_l0] at h_0
      have hn_0 := drop_nil hr_0
      have dr_0 : decide ((i_0 : Int) < (l_a0.length : Int)) = false := decide_eq_false (by omega)
      have ff := And.intro @dr_0 (And.intro @g0_0 (And.intro @g1_0 (And.intro @g2_0 (And.intro @g3_0 p_impl_GoodProps_tf.down))))
      try refine st_by ff ?_
      repeat' (first | exact trivial | refine And.intro sd ?_)
      refine JW.intro ?_
      rw [hJ_0]
      refine ⟨h_0, ?_⟩
      exact p_spec_GoodProps_pv ff trivial
    | cons x_0 r_0 =>
      rw [hr_0] at h_0
      rw [p_impl_GoodProps_l0] at h_0
      obtain ⟨ht_0, hg_0, hd_0⟩ := drop_cons hr_0
      have dr_0 : decide ((i_0 : Int) < (l_a0.length : Int)) = true := decide_eq_true (by omega)
      have w_0 : IntKind.i64.wrap ((i_0 : Int) + 1) = ((i_0 + 1 : Nat) : Int) := wI _ (by omega) (by omega)
      have kk0c : (esProp l_a0).drop (i_0 * 2) = eProp x_0 ++ esProp (l_a0.drop (i_0 + 1)) := drop_enc (fun _ => rfl) (hg_0)
      obtain ⟨v24, ev24, h_0⟩ := Option.bind_eq_some_iff.1 h_0
      try dsimp only at h_0
      have ff := And.intro @dr_0 (And.intro @w_0 (And.intro @g0_0 (And.intro @g1_0 (And.intro @g2_0 (And.intro @g3_0 (And.intro @kk0c p_impl_GoodProps_tf.down))))))
      try refine st_by ff ?_
      repeat' (first | exact trivial | refine And.intro sd ?_ | (refine aw_drawn (id := 4) ?_ [[], [0], [0, 1], [0, 1, 2], [0, 1, 2, 3], [0, 1, 2, 3, 4], [0, 1, 2, 3, 4, 5], [0, 1, 2, 3, 4, 5, 6], [0, 1, 2, 3, 4, 5, 6, 7], [0, 1, 2, 3, 4, 5, 6, 7, 8], [0, 1, 2, 3, 4, 5, 6, 7, 8, 9], [0, 1, 2, 3, 4, 5, 6, 7, 8, 9, 10], [0, 1, 2, 3, 4, 5, 6, 7, 8, 9, 10, 11], [0, 1, 2, 3, 4, 5, 6, 7, 8, 9, 10, 11, 12], [0, 1, 2, 3, 4, 5, 6, 7, 8, 9, 10, 11, 12, 13], [0, 1, 2, 3, 4, 5, 6, 7, 8, 9, 10, 11, 12, 13], [0, 1, 2, 3, 4, 5, 6, 7, 8, 9, 10, 11, 12, 13, 15], [0, 1, 2, 3, 4, 5, 6, 7, 8, 9, 10, 11, 12, 13, 14, 15, 16], [0, 1, 2, 3, 4, 5, 6, 7, 8, 9, 10, 11, 12, 13, 14, 15, 16, 17], [0, 1, 2, 3, 4, 5, 6, 7, 8, 9, 10, 11, 12, 13, 14, 15, 16, 17, 18], [0, 1, 2, 3, 4, 5, 6, 7, 8, 9, 10, 11, 12, 13], [0, 1, 2, 3, 4, 5, 6, 7, 8, 9, 10, 11, 12, 13, 20], [0, 1, 2, 3, 4, 5, 6, 7, 8, 9, 10, 11, 12, 13, 14, 15, 16, 17, 18, 19, 20, 21], [0, 1, 2, 3, 4, 5, 6, 7, 8, 9, 10, 11, 12, 13, 14, 15, 16, 17, 18, 19, 20, 21, 22], [0, 1, 2, 3, 4, 5, 6, 7, 8, 9, 10, 11, 12, 13, 14, 15, 16, 17, 18, 19, 20, 21, 22, 23]] 22 ?_ ?_; (· kernel_rfl); (· kernel_rfl); refine st_by ff ?_))
      first
      | (refine cq_call (p_impl_isPath_does x_0.Path v24 ev24) (hf_by ff) kr ⟨p_spec_GoodProps_sa ff trivial, ?_⟩; clear ff)
      | (refine cq_dcall (p_impl_isPath_does x_0.Path v24 ev24) (hf_by ff) kr ⟨p_spec_GoodProps_sa ff trivial, ?_⟩; clear ff)
      by_cases c25 : v24 = true
      case neg =>
       rw [if_neg c25] at h_0
       have dc25 := eq_false_of_ne_true c25
       cases h_0
       try dsimp only at h
       have ff := And.intro @dr_0 (And.intro @w_0 (And.intro @g0_0 (And.intro @g1_0 (And.intro @g2_0 (And.intro @g3_0 (And.intro @kk0c (And.intro @dc25 p_impl_GoodProps_tf.down)))))))
       try refine st_by ff ?_
       repeat' (first | exact trivial | refine And.intro sd ?_)
       cases h
       exact ret_q1 rfl (p_spec_GoodProps_rt ff trivial)
      rw [if_pos c25] at h_0
      have dc25 := c25
      obtain ⟨v26, ev26, h_0⟩ := Option.bind_eq_some_iff.1 h_0
      try dsimp only at h_0
      have ff := And.intro @dr_0 (And.intro @w_0 (And.intro @g0_0 (And.intro @g1_0 (And.intro @g2_0 (And.intro @g3_0 (And.intro @kk0c (And.intro @dc25 p_impl_GoodProps_tf.down)))))))
      try refine st_by ff ?_
      repeat' (first | exact trivial | refine And.intro sd ?_)
      first
      | (refine cq_call (p_impl_isPropValue_does x_0.Value v26 ev26) (hf_by ff) kr ⟨p_spec_GoodProps_sa ff trivial, ?_⟩; clear ff)
      | (refine cq_dcall (p_impl_isPropValue_does x_0.Value v26 ev26) (hf_by ff) kr ⟨p_spec_GoodProps_sa ff trivial, ?_⟩; clear ff)
      by_cases c27 : v26 = true
      case neg =>
       rw [if_neg c27] at h_0
       have dc27 := eq_false_of_ne_true c27
       cases h_0
       try dsimp only at h
       have ff := And.intro @dr_0 (And.intro @w_0 (And.intro @g0_0 (And.intro @g1_0 (And.intro @g2_0 (And.intro @g3_0 (And.intro @kk0c (And.intro @dc25 (And.intro @dc27 p_impl_GoodProps_tf.down))))))))
       try refine st_by ff ?_
       repeat' (first | exact trivial | refine And.intro sd ?_)
       cases h
       exact ret_q1 rfl (p_spec_GoodProps_rt ff trivial)
      rw [if_pos c27] at h_0
      have dc27 := c27
      by_cases c28 : (i_0 : Int) > 0
      case neg =>
       rw [if_neg c28] at h_0
       have dc28 := decide_eq_false c28
       have ff := And.intro @dr_0 (And.intro @w_0 (And.intro @g0_0 (And.intro @g1_0 (And.intro @g2_0 (And.intro @g3_0 (And.intro @kk0c (And.intro @dc25 (And.intro @dc27 (And.intro @dc28 p_impl_GoodProps_tf.down)))))))))
       try refine st_by ff ?_
       repeat' (first | exact trivial | refine And.intro sd ?_)
       refine Back.intro (i_0 + 1) ?_ ?_
       · clear ff; rw [hM_0]; show l_a0.length - (i_0 + 1) < l_a0.length - i_0; omega
       rw [hI_0]
       refine ⟨⟨by clear ff; show i_0 + 1 ≤ l_a0.length; omega, by show p_impl_GoodProps_l0 l_a0 (l_a0.drop (i_0 + 1)) (i_0 + 1) = some q_0; rw [hd_0]; exact h_0⟩, ?_⟩
       exact p_spec_GoodProps_pv ff trivial
      rw [if_pos c28] at h_0
      have dc28 := decide_eq_true c28
      obtain ⟨x29, ex29, h_0⟩ := Option.bind_eq_some_iff.1 h_0
      try dsimp only at h_0
      have f30a := idx_lo ex29
      have f30b := idx_hi ex29
      have f30c : (esProp l_a0).drop (((IntKind.i64.wrap ((i_0 : Int) - 1)).toNat) * 2) = eProp x29 ++ esProp (l_a0.drop ((IntKind.i64.wrap ((i_0 : Int) - 1)).toNat + 1)) := drop_enc (fun _ => rfl) (idx_get ex29)
      by_cases c31 : (Op.bytesLess x29.Path.toList x_0.Path.toList) = true
      case neg =>
       rw [if_neg c31] at h_0
       have dc31 := eq_false_of_ne_true c31
       cases h_0
       try dsimp only at h
       have ff := And.intro @dr_0 (And.intro @w_0 (And.intro @g0_0 (And.intro @g1_0 (And.intro @g2_0 (And.intro @g3_0 (And.intro @kk0c (And.intro @dc25 (And.intro @dc27 (And.intro @dc28 (And.intro @f30c (And.intro @dc31 p_impl_GoodProps_tf.down)))))))))))
       try refine st_by ff ?_
       repeat' (first | exact trivial | refine And.intro sd ?_)
       cases h
       exact ret_q1 rfl (p_spec_GoodProps_rt ff trivial)
      rw [if_pos c31] at h_0
      have dc31 := c31
      have ff := And.intro @dr_0 (And.intro @w_0 (And.intro @g0_0 (And.intro @g1_0 (And.intro @g2_0 (And.intro @g3_0 (And.intro @kk0c (And.intro @dc25 (And.intro @dc27 (And.intro @dc28 (And.intro @f30c (And.intro @dc31 p_impl_GoodProps_tf.down)))))))))))
      try refine st_by ff ?_
      repeat' (first | exact trivial | refine And.intro sd ?_)
      refine Back.intro (i_0 + 1) ?_ ?_
      · clear ff; rw [hM_0]; show l_a0.length - (i_0 + 1) < l_a0.length - i_0; omega
      rw [hI_0]
      refine ⟨⟨by clear ff; show i_0 + 1 ≤ l_a0.length; omega, by show p_impl_GoodProps_l0 l_a0 (l_a0.drop (i_0 + 1)) (i_0 + 1) = some q_0; rw [hd_0]; exact h_0⟩, ?_⟩
      exact p_spec_GoodProps_pv ff trivial
  · try clear ff
    rintro σ hg_0
    rw [hJ_0] at hg_0
    obtain ⟨hj_0, g0_0a⟩ := hg_0
    cases hj_0
    try dsimp only at h
    have ff := And.intro @g0_0a p_impl_GoodProps_tf.down
    try refine st_by ff ?_
    repeat' (first | exact trivial | refine And.intro sd ?_)
    cases h
    exact ret_q1 rfl (p_spec_GoodProps_rt ff trivial)
end Go.Av
