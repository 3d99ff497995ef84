/- spec.l20Color -/
import Derived.Test.YtheheedekbhonaaAL0
import Derived.Test.YtheheedekbhonaaAG3
set_option linter.unusedSimpArgs false
set_option linter.unusedVariables false
set_option maxRecDepth 100000
set_option maxHeartbeats 1000000
namespace Go.Av
open Go.Proofs
/-! spec.l20Color -/
theorem p_spec_l20Color_pv {F C A : Prop} (hF : F) (hC : C) (h : F → C → A := by intro hF hC; first | exact cl_by hF | (refine st_by hF ?_; (repeat' (first | exact trivial | apply And.intro)); all_goals (clear hF; first | rfl | (simp only [hC, List.length_append, List.length_cons, List.length_nil, List.append_nil, List.nil_append, List.cons_append, List.length_set, List.append_assoc, Nat.zero_add, List.length_replicate]; done) | (simp [hC, List.length_append, List.length_cons, List.length_nil, List.append_nil, List.nil_append, List.cons_append, List.length_set, List.append_assoc, Nat.zero_add, List.length_replicate]; done) | omega))) : A := h hF hC
theorem p_spec_l20Color_sa {F C A : Prop} (hF : F) (hC : C) (h : F → C → A := by intro hF hC; first | exact ca_by hF | (refine sa_by hF ?_; (repeat' (first | exact trivial | apply And.intro)); all_goals (clear hF; first | rfl | (simp only [hC, List.length_append, List.length_cons, List.length_nil, List.append_nil, List.nil_append, List.cons_append, List.length_set, List.append_assoc, Nat.zero_add, List.length_replicate]; done) | (simp [hC, List.length_append, List.length_cons, List.length_nil, List.append_nil, List.nil_append, List.cons_append, List.length_set, List.append_assoc, Nat.zero_add, List.length_replicate]; done) | omega))) : A := h hF hC
theorem p_spec_l20Color_rt {F C A : Prop} (hF : F) (hC : C) (h : F → C → A := by intro hF hC; first | (refine sr_by hF ?_; (repeat' (first | exact trivial | apply And.intro)); all_goals (clear hF; first | rfl | (simp only [hC, List.length_append, List.length_cons, List.length_nil, List.append_nil, List.nil_append, List.cons_append, List.length_set, List.append_assoc, Nat.zero_add, List.length_replicate]; done) | (simp [hC, List.length_append, List.length_cons, List.length_nil, List.append_nil, List.nil_append, List.cons_append, List.length_set, List.append_assoc, Nat.zero_add, List.length_replicate]; done) | omega)) | (first | rfl | (simp only [hC, List.length_append, List.length_cons, List.length_nil, List.append_nil, List.nil_append, List.cons_append, List.length_set, List.append_assoc, Nat.zero_add, List.length_replicate]; done) | (simp [hC, List.length_append, List.length_cons, List.length_nil, List.append_nil, List.nil_append, List.cons_append, List.length_set, List.append_assoc, Nat.zero_add, List.length_replicate]; done) | omega)) : A := h hF hC
def p_spec_l20Color_tf := PLift.up (And.intro @str_beq @trivial)
def p_spec_l20Color (n_a0 : Int) : Option (Bool) := some (rng n_a0 0 16777215)
theorem p_spec_l20Color_does (n_a0 : Int) (r : Bool) (h : p_spec_l20Color n_a0 = some r) : Does Try.prog 18 [I n_a0] (B r) := by
  rw [p_spec_l20Color] at h
  refine Does.walk (nt := 5) Try.func18 rfl rfl (by simp) (by decide) rfl (fun G0 X w0 pv => ?_)
  have ff := p_spec_l20Color_tf.down
  try refine st_by ff ?_
  repeat' (first | exact trivial | refine And.intro sd ?_)
  first
  | (refine cq_call (l1In_does n_a0 0 16777215) (hf_by ff) kr ⟨p_spec_l20Color_sa ff trivial, ?_⟩; clear ff)
  have ff := p_spec_l20Color_tf.down
  try refine st_by ff ?_
  repeat' (first | exact trivial | refine And.intro sd ?_)
  cases h
  exact ret_q1 rfl (p_spec_l20Color_rt ff trivial)
/-! spec.GoodSheet -/
def p_spec_GoodSheet_l0 : List Int → Nat → Option (LR (Bool) (Unit))
  | [], i_0 => some (.out ())
  | x_0 :: r_0, i_0 => ((p_spec_l20Color x_0).bind fun v14 => (if v14 = true then p_spec_GoodSheet_l0 r_0 (i_0 + 1) else some (.ret false)))
def p_spec_GoodSheet_j0 (s_a0 : GSheet) (b_1 : Bool) : Option (Bool) := (if b_1 = true then some false else ((p_spec_GoodSheet_l0 s_a0.Pixels 0).bind fun q_0 => match q_0 with | .ret r_ => some r_ | .out _ => some true))
theorem p_spec_GoodSheet_pv {F C A : Prop} (hF : F) (hC : C) (h : F → C → A := by intro hF hC; first | exact cl_by hF | (refine st_by hF ?_; (repeat' (first | exact trivial | apply And.intro)); all_goals (clear hF; first | rfl | (simp only [hC, List.length_append, List.length_cons, List.length_nil, List.append_nil, List.nil_append, List.cons_append, List.length_set, List.append_assoc, Nat.zero_add, List.length_replicate, esInt_app, esInt_cons, esInt_nil, eInt_eq, esSheet_app, esSheet_cons, esSheet_nil, eSheet_eq, esSheeto_app, esSheeto_cons, esSheeto_nil, eSheeto_eq]; done) | (simp [hC, List.length_append, List.length_cons, List.length_nil, List.append_nil, List.nil_append, List.cons_append, List.length_set, List.append_assoc, Nat.zero_add, List.length_replicate, esInt_app, esInt_cons, esInt_nil, eInt_eq, esSheet_app, esSheet_cons, esSheet_nil, eSheet_eq, esSheeto_app, esSheeto_cons, esSheeto_nil, eSheeto_eq]; done) | omega))) : A := h hF hC
theorem p_spec_GoodSheet_sa {F C A : Prop} (hF : F) (hC : C) (h : F → C → A := by intro hF hC; first | exact ca_by hF | (refine sa_by hF ?_; (repeat' (first | exact trivial | apply And.intro)); all_goals (clear hF; first | rfl | (simp only [hC, List.length_append, List.length_cons, List.length_nil, List.append_nil, List.nil_append, List.cons_append, List.length_set, List.append_assoc, Nat.zero_add, List.length_replicate, esInt_app, esInt_cons, esInt_nil, eInt_eq, esSheet_app, esSheet_cons, esSheet_nil, eSheet_eq, esSheeto_app, esSheeto_cons, esSheeto_nil, eSheeto_eq]; done) | (simp [hC, List.length_append, List.length_cons, List.length_nil, List.append_nil, List.nil_append, List.cons_append, List.length_set, List.append_assoc, Nat.zero_add, List.length_replicate, esInt_app, esInt_cons, esInt_nil, eInt_eq, esSheet_app, esSheet_cons, esSheet_nil, eSheet_eq, esSheeto_app, esSheeto_cons, esSheeto_nil, eSheeto_eq]; done) | omega))) : A := h hF hC
theorem p_spec_GoodSheet_rt {F C A : Prop} (hF : F) (hC : C) (h : F → C → A := by intro hF hC; first | (refine sr_by hF ?_; (repeat' (first | exact trivial | apply And.intro)); all_goals (clear hF; first | rfl | (simp only [hC, List.length_append, List.length_cons, List.length_nil, List.append_nil, List.nil_append, List.cons_append, List.length_set, List.append_assoc, Nat.zero_add, List.length_replicate, esInt_app, esInt_cons, esInt_nil, eInt_eq, esSheet_app, esSheet_cons, esSheet_nil, eSheet_eq, esSheeto_app, esSheeto_cons, esSheeto_nil, eSheeto_eq]; done) | (simp [hC, List.length_append, List.length_cons, List.length_nil, List.append_nil, List.nil_append, List.cons_append, List.length_set, List.append_assoc, Nat.zero_add, List.length_replicate, esInt_app, esInt_cons, esInt_nil, eInt_eq, esSheet_app, esSheet_cons, esSheet_nil, eSheet_eq, esSheeto_app, esSheeto_cons, esSheeto_nil, eSheeto_eq]; done) | omega)) | (first | rfl | (simp only [hC, List.length_append, List.length_cons, List.length_nil, List.append_nil, List.nil_append, List.cons_append, List.length_set, List.append_assoc, Nat.zero_add, List.length_replicate, esInt_app, esInt_cons, esInt_nil, eInt_eq, esSheet_app, esSheet_cons, esSheet_nil, eSheet_eq, esSheeto_app, esSheeto_cons, esSheeto_nil, eSheeto_eq]; done) | (simp [hC, List.length_append, List.length_cons, List.length_nil, List.append_nil, List.nil_append, List.cons_append, List.length_set, List.append_assoc, Nat.zero_add, List.length_replicate, esInt_app, esInt_cons, esInt_nil, eInt_eq, esSheet_app, esSheet_cons, esSheet_nil, eSheet_eq, esSheeto_app, esSheeto_cons, esSheeto_nil, eSheeto_eq]; done) | omega)) : A := h hF hC
def p_spec_GoodSheet_tf := PLift.up (And.intro @eInt_eq (And.intro @esInt_len (And.intro @esInt_nil (And.intro @esInt_leaf (And.intro @esInt_fit (And.intro @eSheet_eq (And.intro @esSheet_len (And.intro @esSheet_nil (And.intro @esSheet_leaf (And.intro @esSheet_fit (And.intro @eSheeto_eq (And.intro @esSheeto_len (And.intro @esSheeto_nil (And.intro @esInt_share (And.intro @esInt_pure (And.intro @esSheeto_share (And.intro @esSheeto_pure (And.intro @str_beq (And.intro @Ty.sl22 (And.intro @Ty.slz22 (And.intro @Ty.nz3 (And.intro @Ty.ldA3 (And.intro @Ty.ldS3 (And.intro @Ty.sz3 (And.intro @Ty.szn3 (And.intro @Ty.nz22 (And.intro @Ty.ldA22 (And.intro @Ty.ldS22 (And.intro @Ty.sz22 (And.intro @Ty.szn22 (And.intro @Ty.fo28_0 (And.intro @Ty.fk28_0 (And.intro @Ty.fs28_0 (And.intro @Ty.fn28_0 (And.intro @Ty.fo28_1 (And.intro @Ty.fk28_1 (And.intro @Ty.fs28_1 (And.intro @Ty.fn28_1 (And.intro @Ty.fo28_2 (And.intro @Ty.fk28_2 (And.intro @Ty.fs28_2 (And.intro @Ty.fn28_2 @trivial))))))))))))))))))))))))))))))))))))))))))
def p_spec_GoodSheet (s_a0 : GSheet) : Option (Bool) := (if (rng s_a0.Wide 1 24) = true then (if (rng s_a0.High 1 24) = true then p_spec_GoodSheet_j0 s_a0 (!((s_a0.Pixels.length : Int) == (IntKind.i64.wrap (s_a0.Wide * s_a0.High)))) else p_spec_GoodSheet_j0 s_a0 true) else p_spec_GoodSheet_j0 s_a0 true)
theorem p_spec_GoodSheet_does (s_a0 : GSheet) (r : Bool) (h : p_spec_GoodSheet s_a0 = some r) : Does Try.prog 16 [.agg (eSheet s_a0)] (B r) := by
  rw [p_spec_GoodSheet] at h
  refine Does.bnd (fun hb => ?_)
  have hb2 : s_a0.Pixels.length ≤ 9223372036854775807 := by simpa [AV.fitNs, AV.fitN, eSheet] using hb
  have hl0 := hb2
  refine Does.walk (nt := 37) Try.func16 rfl rfl (by simp) (by decide) rfl (fun G0 X w0 pv => ?_)
  have ff := p_spec_GoodSheet_tf.down
  try refine st_by ff ?_
  repeat' (first | exact trivial | refine And.intro sd ?_)
  first
  | (refine cq_call (l1In_does s_a0.Wide 1 24) (hf_by ff) kr ⟨p_spec_GoodSheet_sa ff trivial, ?_⟩; clear ff)
  have ff := p_spec_GoodSheet_tf.down
  try refine st_by ff ?_
  repeat' (first | exact trivial | refine And.intro sd ?_)
  try clear ff
  generalize hk_0 : thenK _ _ = kk_0
  have key_0 : ∀ σ, (∃ b_1 : Bool, (p_spec_GoodSheet_j0 s_a0 b_1 = some r) ∧ σ.t 1 = .ptr 1 [] 0 ∧ σ.t 25 = B b_1 ∧ σ.m 1 = some (.box true [I s_a0.Wide, I s_a0.High, .row false 1 s_a0.Pixels.length (esInt s_a0.Pixels)])) → kk_0 .nm σ := by
    rintro σ ⟨b_1, h, g0_j0, g1_j0, g2_j0⟩
    rw [← hk_0]
    rw [p_spec_GoodSheet_j0] at h
    by_cases c2 : b_1 = true
    · rw [if_pos c2] at h
      have dc2 := c2
      have ff := And.intro @g0_j0 (And.intro @g1_j0 (And.intro @g2_j0 (And.intro @dc2 p_spec_GoodSheet_tf.down)))
      try refine st_by ff ?_
      repeat' (first | exact trivial | refine And.intro sd ?_)
      cases h
      exact ret_q1 rfl (p_spec_GoodSheet_rt ff trivial)
    rw [if_neg c2] at h
    have dc2 := eq_false_of_ne_true c2
    have hL_0 : s_a0.Pixels.length ≤ 9223372036854775807 := by first | assumption | omega
    obtain ⟨q_0, eq_0, h⟩ := Option.bind_eq_some_iff.1 h
    have ff := And.intro @g0_j0 (And.intro @g1_j0 (And.intro @g2_j0 (And.intro @dc2 p_spec_GoodSheet_tf.down)))
    try refine st_by ff ?_
    repeat' (first | exact trivial | refine And.intro sd ?_)
    obtain ⟨I_0, hI_0⟩ : ∃ I_ : (Nat) → ASt → Prop, I_ = (fun (i_0 : Nat) σ => (i_0 ≤ s_a0.Pixels.length ∧ p_spec_GoodSheet_l0 (s_a0.Pixels.drop i_0) i_0 = some q_0) ∧ σ.t 27 = .row false 1 s_a0.Pixels.length (esInt s_a0.Pixels) ∧ σ.t 28 = I (s_a0.Pixels.length : Int) ∧ σ.t 29 = I (i_0 : Int)) := ⟨_, rfl⟩
    obtain ⟨M_0, hM_0⟩ : ∃ M_ : (Nat) → Nat, M_ = (fun (i_0 : Nat) => s_a0.Pixels.length - i_0) := ⟨_, rfl⟩
    obtain ⟨J_0, hJ_0⟩ : ∃ J_ : ASt → Prop, J_ = (fun σ => (some (.out ()) = some q_0) ∧ True) := ⟨_, rfl⟩
    refine aw_loopC (id := 0) I_0 M_0 J_0 (0) ?_ ?_ ?_
    · rw [hI_0]
      refine ⟨⟨Nat.zero_le _, eq_0⟩, ?_⟩
      exact p_spec_GoodSheet_pv ff trivial
    · try clear ff
      rintro i_0 σ hg_0
      rw [hI_0] at hg_0
      obtain ⟨⟨hi_0, h_0⟩, g0_0, g1_0, g2_0⟩ := hg_0
      cases hr_0 : s_a0.Pixels.drop i_0 with
      | nil =>
        rw [hr_0] at h_0
        rw [p_spec_GoodSheet_l0] at h_0
        have hn_0 := drop_nil hr_0
        have dr_0 : decide ((i_0 : Int) < (s_a0.Pixels.length : Int)) = false := decide_eq_false (by omega)
        have ff := And.intro @dc2 (And.intro @dr_0 (And.intro @g0_0 (And.intro @g1_0 (And.intro @g2_0 p_spec_GoodSheet_tf.down))))
        try refine st_by ff ?_
        repeat' (first | exact trivial | refine And.intro sd ?_)
        refine JW.intro ?_
        rw [hJ_0]
        refine ⟨h_0, ?_⟩
        exact p_spec_GoodSheet_pv ff trivial
      | cons x_0 r_0 =>
        rw [hr_0] at h_0
        rw [p_spec_GoodSheet_l0] at h_0
        obtain ⟨ht_0, hg_0, hd_0⟩ := drop_cons hr_0
        have dr_0 : decide ((i_0 : Int) < (s_a0.Pixels.length : Int)) = true := decide_eq_true (by omega)
        have w_0 : IntKind.i64.wrap ((i_0 : Int) + 1) = ((i_0 + 1 : Nat) : Int) := wI _ (by omega) (by omega)
        have kk0c : (esInt s_a0.Pixels).drop (i_0 * 1) = eInt x_0 ++ esInt (s_a0.Pixels.drop (i_0 + 1)) := drop_enc (fun _ => rfl) (hg_0)
        have kk0d := kk0c
        rw [Nat.mul_one] at kk0d
        obtain ⟨v14, ev14, h_0⟩ := Option.bind_eq_some_iff.1 h_0
        try dsimp only at h_0
        have ff := And.intro @dc2 (And.intro @dr_0 (And.intro @w_0 (And.intro @g0_0 (And.intro @g1_0 (And.intro @g2_0 (And.intro @kk0c (And.intro @kk0d p_spec_GoodSheet_tf.down)))))))
        try refine st_by ff ?_
        repeat' (first | exact trivial | refine And.intro sd ?_)
        first
        | (refine cq_call (p_spec_l20Color_does x_0 v14 ev14) (hf_by ff) kr ⟨p_spec_GoodSheet_sa ff trivial, ?_⟩; clear ff)
        by_cases c15 : v14 = true
        case neg =>
         rw [if_neg c15] at h_0
         have dc15 := eq_false_of_ne_true c15
         cases h_0
         try dsimp only at h
         have ff := And.intro @dc2 (And.intro @dr_0 (And.intro @w_0 (And.intro @g0_0 (And.intro @g1_0 (And.intro @g2_0 (And.intro @kk0c (And.intro @kk0d (And.intro @dc15 p_spec_GoodSheet_tf.down))))))))
         try refine st_by ff ?_
         repeat' (first | exact trivial | refine And.intro sd ?_)
         cases h
         exact ret_q1 rfl (p_spec_GoodSheet_rt ff trivial)
        rw [if_pos c15] at h_0
        have dc15 := c15
        have ff := And.intro @dc2 (And.intro @dr_0 (And.intro @w_0 (And.intro @g0_0 (And.intro @g1_0 (And.intro @g2_0 (And.intro @kk0c (And.intro @kk0d (And.intro @dc15 p_spec_GoodSheet_tf.down))))))))
        try refine st_by ff ?_
        repeat' (first | exact trivial | refine And.intro sd ?_)
        refine Back.intro (i_0 + 1) ?_ ?_
        · clear ff; rw [hM_0]; show s_a0.Pixels.length - (i_0 + 1) < s_a0.Pixels.length - i_0; omega
        rw [hI_0]
        refine ⟨⟨by clear ff; show i_0 + 1 ≤ s_a0.Pixels.length; omega, by show p_spec_GoodSheet_l0 (s_a0.Pixels.drop (i_0 + 1)) (i_0 + 1) = some q_0; rw [hd_0]; exact h_0⟩, ?_⟩
        exact p_spec_GoodSheet_pv ff trivial
    · try clear ff
      rintro σ hg_0
      rw [hJ_0] at hg_0
      obtain ⟨hj_0, _⟩ := hg_0
      cases hj_0
      try dsimp only at h
      have ff := And.intro @dc2 p_spec_GoodSheet_tf.down
      try refine st_by ff ?_
      repeat' (first | exact trivial | refine And.intro sd ?_)
      cases h
      exact ret_q1 rfl (p_spec_GoodSheet_rt ff trivial)
  have hrt_0 := fun σ : ASt => congrFun (congrFun hk_0.symm AX.rt) σ
  have hex_0 := fun (i : Nat) (σ : ASt) => congrFun (congrFun hk_0.symm (AX.ex i)) σ
  by_cases c16 : (rng s_a0.Wide 1 24) = true
  case neg =>
   rw [if_neg c16] at h
   have dc16 := eq_false_of_ne_true c16
   have ff := And.intro @hrt_0 (And.intro @hex_0 (And.intro @dc16 p_spec_GoodSheet_tf.down))
   try refine st_by ff ?_
   repeat' (first | exact trivial | refine And.intro sd ?_)
   refine key_0 _ ?_
   refine ⟨true, h, ?_⟩
   exact p_spec_GoodSheet_pv ff trivial
  rw [if_pos c16] at h
  have dc16 := c16
  have ff := And.intro @hrt_0 (And.intro @hex_0 (And.intro @dc16 p_spec_GoodSheet_tf.down))
  try refine st_by ff ?_
  repeat' (first | exact trivial | refine And.intro sd ?_)
  first
  | (refine cq_call (l1In_does s_a0.High 1 24) (hf_by ff) kr ⟨p_spec_GoodSheet_sa ff trivial, ?_⟩; clear ff)
  by_cases c17 : (rng s_a0.High 1 24) = true
  case neg =>
   rw [if_neg c17] at h
   have dc17 := eq_false_of_ne_true c17
   have ff := And.intro @hrt_0 (And.intro @hex_0 (And.intro @dc16 (And.intro @dc17 p_spec_GoodSheet_tf.down)))
   try refine st_by ff ?_
   repeat' (first | exact trivial | refine And.intro sd ?_)
   refine key_0 _ ?_
   refine ⟨true, h, ?_⟩
   exact p_spec_GoodSheet_pv ff trivial
  rw [if_pos c17] at h
  have dc17 := c17
  have ff := And.intro @hrt_0 (And.intro @hex_0 (And.intro @dc16 (And.intro @dc17 p_spec_GoodSheet_tf.down)))
  try refine st_by ff ?_
  repeat' (first | exact trivial | refine And.intro sd ?_)
  refine key_0 _ ?_
  refine ⟨!((s_a0.Pixels.length : Int) == (IntKind.i64.wrap (s_a0.Wide * s_a0.High))), h, ?_⟩
  exact p_spec_GoodSheet_pv ff trivial
/-! spec.l20Box -/
theorem p_spec_l20Box_pv {F C A : Prop} (hF : F) (hC : C) (h : F → C → A := by intro hF hC; first | exact cl_by hF | (refine st_by hF ?_; (repeat' (first | exact trivial | apply And.intro)); all_goals (clear hF; first | rfl | (simp only [hC, List.length_append, List.length_cons, List.length_nil, List.append_nil, List.nil_append, List.cons_append, List.length_set, List.append_assoc, Nat.zero_add, List.length_replicate, esPlaced_app, esPlaced_cons, esPlaced_nil, ePlaced_eq]; done) | (simp [hC, List.length_append, List.length_cons, List.length_nil, List.append_nil, List.nil_append, List.cons_append, List.length_set, List.append_assoc, Nat.zero_add, List.length_replicate, esPlaced_app, esPlaced_cons, esPlaced_nil, ePlaced_eq]; done) | omega))) : A := h hF hC
theorem p_spec_l20Box_sa {F C A : Prop} (hF : F) (hC : C) (h : F → C → A := by intro hF hC; first | exact ca_by hF | (refine sa_by hF ?_; (repeat' (first | exact trivial | apply And.intro)); all_goals (clear hF; first | rfl | (simp only [hC, List.length_append, List.length_cons, List.length_nil, List.append_nil, List.nil_append, List.cons_append, List.length_set, List.append_assoc, Nat.zero_add, List.length_replicate, esPlaced_app, esPlaced_cons, esPlaced_nil, ePlaced_eq]; done) | (simp [hC, List.length_append, List.length_cons, List.length_nil, List.append_nil, List.nil_append, List.cons_append, List.length_set, List.append_assoc, Nat.zero_add, List.length_replicate, esPlaced_app, esPlaced_cons, esPlaced_nil, ePlaced_eq]; done) | omega))) : A := h hF hC
theorem p_spec_l20Box_rt {F C A : Prop} (hF : F) (hC : C) (h : F → C → A := by intro hF hC; first | (refine sr_by hF ?_; (repeat' (first | exact trivial | apply And.intro)); all_goals (clear hF; first | rfl | (simp only [hC, List.length_append, List.length_cons, List.length_nil, List.append_nil, List.nil_append, List.cons_append, List.length_set, List.append_assoc, Nat.zero_add, List.length_replicate, esPlaced_app, esPlaced_cons, esPlaced_nil, ePlaced_eq]; done) | (simp [hC, List.length_append, List.length_cons, List.length_nil, List.append_nil, List.nil_append, List.cons_append, List.length_set, List.append_assoc, Nat.zero_add, List.length_replicate, esPlaced_app, esPlaced_cons, esPlaced_nil, ePlaced_eq]; done) | omega)) | (first | rfl | (simp only [hC, List.length_append, List.length_cons, List.length_nil, List.append_nil, List.nil_append, List.cons_append, List.length_set, List.append_assoc, Nat.zero_add, List.length_replicate, esPlaced_app, esPlaced_cons, esPlaced_nil, ePlaced_eq]; done) | (simp [hC, List.length_append, List.length_cons, List.length_nil, List.append_nil, List.nil_append, List.cons_append, List.length_set, List.append_assoc, Nat.zero_add, List.length_replicate, esPlaced_app, esPlaced_cons, esPlaced_nil, ePlaced_eq]; done) | omega)) : A := h hF hC
def p_spec_l20Box_tf := PLift.up (And.intro @ePlaced_eq (And.intro @esPlaced_len (And.intro @esPlaced_nil (And.intro @esPlaced_leaf (And.intro @esPlaced_fit (And.intro @esPlaced_share (And.intro @esPlaced_pure (And.intro @str_beq (And.intro @Ty.nz3 (And.intro @Ty.ldA3 (And.intro @Ty.ldS3 (And.intro @Ty.sz3 (And.intro @Ty.szn3 (And.intro @Ty.fo32_0 (And.intro @Ty.fk32_0 (And.intro @Ty.fs32_0 (And.intro @Ty.fn32_0 (And.intro @Ty.fo32_1 (And.intro @Ty.fk32_1 (And.intro @Ty.fs32_1 (And.intro @Ty.fn32_1 (And.intro @Ty.fo32_2 (And.intro @Ty.fk32_2 (And.intro @Ty.fs32_2 (And.intro @Ty.fn32_2 (And.intro @Ty.fo32_3 (And.intro @Ty.fk32_3 (And.intro @Ty.fs32_3 (And.intro @Ty.fn32_3 @trivial)))))))))))))))))))))))))))))
def p_spec_l20Box (b_a0 : GPlaced) : Option (Bool) := (if (rng b_a0.X (-10000) 10000) = true then (if (rng b_a0.Y (-10000) 10000) = true then (if (rng b_a0.W 0 10000) = true then some (rng b_a0.H 0 10000) else some false) else some false) else some false)
theorem p_spec_l20Box_does (b_a0 : GPlaced) (r : Bool) (h : p_spec_l20Box b_a0 = some r) : Does Try.prog 17 [.agg (ePlaced b_a0)] (B r) := by
  rw [p_spec_l20Box] at h
  refine Does.walk (nt := 21) Try.func17 rfl rfl (by simp) (by decide) rfl (fun G0 X w0 pv => ?_)
  have ff := p_spec_l20Box_tf.down
  try refine st_by ff ?_
  repeat' (first | exact trivial | refine And.intro sd ?_)
  first
  | (refine cq_call (l1In_does b_a0.X (-10000) 10000) (hf_by ff) kr ⟨p_spec_l20Box_sa ff trivial, ?_⟩; clear ff)
  by_cases c1 : (rng b_a0.X (-10000) 10000) = true
  case neg =>
   rw [if_neg c1] at h
   have dc1 := eq_false_of_ne_true c1
   have ff := And.intro @dc1 p_spec_l20Box_tf.down
   try refine st_by ff ?_
   repeat' (first | exact trivial | refine And.intro sd ?_)
   cases h
   exact ret_q1 rfl (p_spec_l20Box_rt ff trivial)
  rw [if_pos c1] at h
  have dc1 := c1
  have ff := And.intro @dc1 p_spec_l20Box_tf.down
  try refine st_by ff ?_
  repeat' (first | exact trivial | refine And.intro sd ?_)
  first
  | (refine cq_call (l1In_does b_a0.Y (-10000) 10000) (hf_by ff) kr ⟨p_spec_l20Box_sa ff trivial, ?_⟩; clear ff)
  by_cases c2 : (rng b_a0.Y (-10000) 10000) = true
  case neg =>
   rw [if_neg c2] at h
   have dc2 := eq_false_of_ne_true c2
   have ff := And.intro @dc1 (And.intro @dc2 p_spec_l20Box_tf.down)
   try refine st_by ff ?_
   repeat' (first | exact trivial | refine And.intro sd ?_)
   cases h
   exact ret_q1 rfl (p_spec_l20Box_rt ff trivial)
  rw [if_pos c2] at h
  have dc2 := c2
  have ff := And.intro @dc1 (And.intro @dc2 p_spec_l20Box_tf.down)
  try refine st_by ff ?_
  repeat' (first | exact trivial | refine And.intro sd ?_)
  first
  | (refine cq_call (l1In_does b_a0.W 0 10000) (hf_by ff) kr ⟨p_spec_l20Box_sa ff trivial, ?_⟩; clear ff)
  by_cases c3 : (rng b_a0.W 0 10000) = true
  case neg =>
   rw [if_neg c3] at h
   have dc3 := eq_false_of_ne_true c3
   have ff := And.intro @dc1 (And.intro @dc2 (And.intro @dc3 p_spec_l20Box_tf.down))
   try refine st_by ff ?_
   repeat' (first | exact trivial | refine And.intro sd ?_)
   cases h
   exact ret_q1 rfl (p_spec_l20Box_rt ff trivial)
  rw [if_pos c3] at h
  have dc3 := c3
  have ff := And.intro @dc1 (And.intro @dc2 (And.intro @dc3 p_spec_l20Box_tf.down))
  try refine st_by ff ?_
  repeat' (first | exact trivial | refine And.intro sd ?_)
  first
  | (refine cq_call (l1In_does b_a0.H 0 10000) (hf_by ff) kr ⟨p_spec_l20Box_sa ff trivial, ?_⟩; clear ff)
  have ff := And.intro @dc1 (And.intro @dc2 (And.intro @dc3 p_spec_l20Box_tf.down))
  try refine st_by ff ?_
  repeat' (first | exact trivial | refine And.intro sd ?_)
  cases h
  exact ret_q1 rfl (p_spec_l20Box_rt ff trivial)
/-! spec.l20Put -/
def p_spec_l20Put_j0 (s_a0 : GSheet) (x_a1 : Int) (y_a2 : Int) (color_a3 : Int) (b_1 : Bool) : Option (List Int) := (if b_1 = true then ((idx s_a0.Pixels (IntKind.i64.wrap ((IntKind.i64.wrap (y_a2 * s_a0.Wide)) + x_a1))).bind fun x3 => some (s_a0.Pixels.set ((IntKind.i64.wrap ((IntKind.i64.wrap (y_a2 * s_a0.Wide)) + x_a1)).toNat) color_a3)) else some s_a0.Pixels)
theorem p_spec_l20Put_pv {F C A : Prop} (hF : F) (hC : C) (h : F → C → A := by intro hF hC; first | exact cl_by hF | (refine st_by hF ?_; (repeat' (first | exact trivial | apply And.intro)); all_goals (clear hF; first | rfl | (simp only [hC, List.length_append, List.length_cons, List.length_nil, List.append_nil, List.nil_append, List.cons_append, List.length_set, List.append_assoc, Nat.zero_add, List.length_replicate, esInt_app, esInt_cons, esInt_nil, eInt_eq, esSheet_app, esSheet_cons, esSheet_nil, eSheet_eq, esSheeto_app, esSheeto_cons, esSheeto_nil, eSheeto_eq]; done) | (simp [hC, List.length_append, List.length_cons, List.length_nil, List.append_nil, List.nil_append, List.cons_append, List.length_set, List.append_assoc, Nat.zero_add, List.length_replicate, esInt_app, esInt_cons, esInt_nil, eInt_eq, esSheet_app, esSheet_cons, esSheet_nil, eSheet_eq, esSheeto_app, esSheeto_cons, esSheeto_nil, eSheeto_eq]; done) | omega))) : A := h hF hC
theorem p_spec_l20Put_sa {F C A : Prop} (hF : F) (hC : C) (h : F → C → A := by intro hF hC; first | exact ca_by hF | (refine sa_by hF ?_; (repeat' (first | exact trivial | apply And.intro)); all_goals (clear hF; first | rfl | (simp only [hC, List.length_append, List.length_cons, List.length_nil, List.append_nil, List.nil_append, List.cons_append, List.length_set, List.append_assoc, Nat.zero_add, List.length_replicate, esInt_app, esInt_cons, esInt_nil, eInt_eq, esSheet_app, esSheet_cons, esSheet_nil, eSheet_eq, esSheeto_app, esSheeto_cons, esSheeto_nil, eSheeto_eq]; done) | (simp [hC, List.length_append, List.length_cons, List.length_nil, List.append_nil, List.nil_append, List.cons_append, List.length_set, List.append_assoc, Nat.zero_add, List.length_replicate, esInt_app, esInt_cons, esInt_nil, eInt_eq, esSheet_app, esSheet_cons, esSheet_nil, eSheet_eq, esSheeto_app, esSheeto_cons, esSheeto_nil, eSheeto_eq]; done) | omega))) : A := h hF hC
theorem p_spec_l20Put_rt {F C A : Prop} (hF : F) (hC : C) (h : F → C → A := by intro hF hC; first | (refine sr_by hF ?_; (repeat' (first | exact trivial | apply And.intro)); all_goals (clear hF; first | rfl | (simp only [hC, List.length_append, List.length_cons, List.length_nil, List.append_nil, List.nil_append, List.cons_append, List.length_set, List.append_assoc, Nat.zero_add, List.length_replicate, esInt_app, esInt_cons, esInt_nil, eInt_eq, esSheet_app, esSheet_cons, esSheet_nil, eSheet_eq, esSheeto_app, esSheeto_cons, esSheeto_nil, eSheeto_eq]; done) | (simp [hC, List.length_append, List.length_cons, List.length_nil, List.append_nil, List.nil_append, List.cons_append, List.length_set, List.append_assoc, Nat.zero_add, List.length_replicate, esInt_app, esInt_cons, esInt_nil, eInt_eq, esSheet_app, esSheet_cons, esSheet_nil, eSheet_eq, esSheeto_app, esSheeto_cons, esSheeto_nil, eSheeto_eq]; done) | omega)) | (first | rfl | (simp only [hC, List.length_append, List.length_cons, List.length_nil, List.append_nil, List.nil_append, List.cons_append, List.length_set, List.append_assoc, Nat.zero_add, List.length_replicate, esInt_app, esInt_cons, esInt_nil, eInt_eq, esSheet_app, esSheet_cons, esSheet_nil, eSheet_eq, esSheeto_app, esSheeto_cons, esSheeto_nil, eSheeto_eq]; done) | (simp [hC, List.length_append, List.length_cons, List.length_nil, List.append_nil, List.nil_append, List.cons_append, List.length_set, List.append_assoc, Nat.zero_add, List.length_replicate, esInt_app, esInt_cons, esInt_nil, eInt_eq, esSheet_app, esSheet_cons, esSheet_nil, eSheet_eq, esSheeto_app, esSheeto_cons, esSheeto_nil, eSheeto_eq]; done) | omega)) : A := h hF hC
def p_spec_l20Put_tf := PLift.up (And.intro @eInt_eq (And.intro @esInt_len (And.intro @esInt_nil (And.intro @esInt_leaf (And.intro @esInt_fit (And.intro @eSheet_eq (And.intro @esSheet_len (And.intro @esSheet_nil (And.intro @esSheet_leaf (And.intro @esSheet_fit (And.intro @eSheeto_eq (And.intro @esSheeto_len (And.intro @esSheeto_nil (And.intro @esInt_share (And.intro @esInt_pure (And.intro @esSheeto_share (And.intro @esSheeto_pure (And.intro @str_beq (And.intro @Ty.sl22 (And.intro @Ty.slz22 (And.intro @Ty.nz3 (And.intro @Ty.ldA3 (And.intro @Ty.ldS3 (And.intro @Ty.sz3 (And.intro @Ty.szn3 (And.intro @Ty.nz22 (And.intro @Ty.ldA22 (And.intro @Ty.ldS22 (And.intro @Ty.sz22 (And.intro @Ty.szn22 (And.intro @Ty.fo28_0 (And.intro @Ty.fk28_0 (And.intro @Ty.fs28_0 (And.intro @Ty.fn28_0 (And.intro @Ty.fo28_1 (And.intro @Ty.fk28_1 (And.intro @Ty.fs28_1 (And.intro @Ty.fn28_1 (And.intro @Ty.fo28_2 (And.intro @Ty.fk28_2 (And.intro @Ty.fs28_2 (And.intro @Ty.fn28_2 @trivial))))))))))))))))))))))))))))))))))))))))))
def p_spec_l20Put_raw (s_a0 : GSheet) (x_a1 : Int) (y_a2 : Int) (color_a3 : Int) : Option (List Int) := (if (rng x_a1 0 (IntKind.i64.wrap (s_a0.Wide - 1))) = true then p_spec_l20Put_j0 s_a0 x_a1 y_a2 color_a3 (rng y_a2 0 (IntKind.i64.wrap (s_a0.High - 1))) else p_spec_l20Put_j0 s_a0 x_a1 y_a2 color_a3 false)
def p_spec_l20Put (s_a0 : GSheet) (x_a1 : Int) (y_a2 : Int) (color_a3 : Int) : Option (List Int) := (p_spec_l20Put_raw s_a0 x_a1 y_a2 color_a3).bind fun r => if r.length = s_a0.Pixels.length then some r else none
theorem p_spec_l20Put_raw_does (s_a0 : GSheet) (x_a1 : Int) (y_a2 : Int) (color_a3 : Int) (r : List Int) (h : p_spec_l20Put_raw s_a0 x_a1 y_a2 color_a3 = some r) : DoesX Try.prog 20 [.agg [I s_a0.Wide, I s_a0.High, .sl 1000 [] 0 s_a0.Pixels.length], I x_a1, I y_a2, I color_a3] [.row true 1 s_a0.Pixels.length (esInt s_a0.Pixels)] (.tup []) [.row true 1 s_a0.Pixels.length (esInt r)] := by
  rw [p_spec_l20Put_raw] at h
  refine DoesX.walkL (nt := 30) Try.func20 rfl rfl (by simp) (by decide) rfl (by simp [fullArg, fullA, fullAs, regs]) rfl (fun G0 X w0 vals hvals hone => ?_)
  obtain ⟨v_0, rfl⟩ := len1 hvals
  have hv_0 := hone v_0 (by simp)
  simp only [List.map_cons, List.map_nil, litArg, litAs, litA, regs, Nat.le_refl, Nat.sub_self, Nat.reduceLeDiff, Nat.reduceSub, if_true, List.getElem?_cons_zero, List.getElem?_cons_succ]
  have ff := And.intro @hv_0 p_spec_l20Put_tf.down
  try refine st_by ff ?_
  repeat' (first | exact trivial | refine And.intro sd ?_)
  first
  | (refine cq_call (l1In_does x_a1 0 (IntKind.i64.wrap (s_a0.Wide - 1))) (hf_by ff) kr ⟨p_spec_l20Put_sa ff trivial, ?_⟩; clear ff)
  have ff := And.intro @hv_0 p_spec_l20Put_tf.down
  try refine st_by ff ?_
  repeat' (first | exact trivial | refine And.intro sd ?_)
  try clear ff
  generalize hk_0 : thenK _ _ = kk_0
  have key_0 : ∀ σ, (∃ b_1 : Bool, (p_spec_l20Put_j0 s_a0 x_a1 y_a2 color_a3 b_1 = some r) ∧ σ.t 1 = I x_a1 ∧ σ.t 2 = I y_a2 ∧ σ.t 3 = I color_a3 ∧ σ.t 4 = .ptr 4 [] 0 ∧ σ.t 19 = B b_1 ∧ σ.m 4 = some (.box true [I s_a0.Wide, I s_a0.High, .lit v_0]) ∧ σ.m 1000 = some (.row true 1 s_a0.Pixels.length (esInt s_a0.Pixels))) → kk_0 .nm σ := by
    rintro σ ⟨b_1, h, g0_j0, g1_j0, g2_j0, g3_j0, g4_j0, g5_j0, g6_j0⟩
    rw [← hk_0]
    rw [p_spec_l20Put_j0] at h
    by_cases c2 : b_1 = true
    case neg =>
     rw [if_neg c2] at h
     have dc2 := eq_false_of_ne_true c2
     have ff := And.intro @hv_0 (And.intro @g0_j0 (And.intro @g1_j0 (And.intro @g2_j0 (And.intro @g3_j0 (And.intro @g4_j0 (And.intro @g5_j0 (And.intro @g6_j0 (And.intro @dc2 p_spec_l20Put_tf.down))))))))
     try refine st_by ff ?_
     repeat' (first | exact trivial | refine And.intro sd ?_)
     cases h
     exact retX_pn [] rfl (by decide) (p_spec_l20Put_rt ff trivial)
    rw [if_pos c2] at h
    have dc2 := c2
    have ff := And.intro @hv_0 (And.intro @g0_j0 (And.intro @g1_j0 (And.intro @g2_j0 (And.intro @g3_j0 (And.intro @g4_j0 (And.intro @g5_j0 (And.intro @g6_j0 (And.intro @dc2 p_spec_l20Put_tf.down))))))))
    try refine st_by ff ?_
    repeat' (first | exact trivial | refine And.intro sd ?_)
    (refine opq_relit (i := 21) (r := 1000) (c := v_0) (sz := 1) (n := s_a0.Pixels.length) (cs := esInt s_a0.Pixels) ?_ ?_ ?_ ?_; (· first | rfl | exact cl_by ff); (· rfl); (· exact p_spec_l20Put_pv ff trivial); refine of_st1 ?_); clear ff
    obtain ⟨x3, ex3, h⟩ := Option.bind_eq_some_iff.1 h
    try dsimp only at h
    have f4a := idx_lo ex3
    have f4b := idx_hi ex3
    have f4c : (esInt s_a0.Pixels).drop (((IntKind.i64.wrap ((IntKind.i64.wrap (y_a2 * s_a0.Wide)) + x_a1)).toNat) * 1) = eInt x3 ++ esInt (s_a0.Pixels.drop ((IntKind.i64.wrap ((IntKind.i64.wrap (y_a2 * s_a0.Wide)) + x_a1)).toNat + 1)) := drop_enc (fun _ => rfl) (idx_get ex3)
    have f4d := f4c
    rw [Nat.mul_one] at f4d
    have f4g0 : (esInt s_a0.Pixels).getD (((IntKind.i64.wrap ((IntKind.i64.wrap (y_a2 * s_a0.Wide)) + x_a1)).toNat) * 1) .junk = (eInt x3).getD 0 .junk := getD_enc0 (enc := eInt) (sz := 1) (fun _ => rfl) (idx_get ex3) (by decide)
    rw [Nat.mul_one] at f4g0
    have w5l : (IntKind.i64.wrap ((IntKind.i64.wrap (y_a2 * s_a0.Wide)) + x_a1)).toNat < s_a0.Pixels.length := (List.getElem?_eq_some_iff.1 (idx_get ex3)).1
    have w5a : (esInt s_a0.Pixels).set (((IntKind.i64.wrap ((IntKind.i64.wrap (y_a2 * s_a0.Wide)) + x_a1)).toNat) * 1) (I color_a3) = esInt (s_a0.Pixels.set ((IntKind.i64.wrap ((IntKind.i64.wrap (y_a2 * s_a0.Wide)) + x_a1)).toNat) color_a3) := set_enc0 (enc := eInt) (sz := 1) (fun _ => rfl) (idx_get ex3) (by decide) rfl
    rw [Nat.mul_one] at w5a
    have w5b : (s_a0.Pixels.set ((IntKind.i64.wrap ((IntKind.i64.wrap (y_a2 * s_a0.Wide)) + x_a1)).toNat) color_a3).length = s_a0.Pixels.length := List.length_set
    have ff := And.intro @hv_0 (And.intro @g0_j0 (And.intro @g1_j0 (And.intro @g2_j0 (And.intro @g3_j0 (And.intro @g4_j0 (And.intro @g5_j0 (And.intro @g6_j0 (And.intro @dc2 (And.intro @f4c (And.intro @f4d (And.intro @f4g0 (And.intro @w5a p_spec_l20Put_tf.down))))))))))))
    try refine st_by ff ?_
    repeat' (first | exact trivial | refine And.intro sd ?_)
    cases h
    exact retX_pn [] rfl (by decide) (p_spec_l20Put_rt ff trivial)
  have hrt_0 := fun σ : ASt => congrFun (congrFun hk_0.symm AX.rt) σ
  have hex_0 := fun (i : Nat) (σ : ASt) => congrFun (congrFun hk_0.symm (AX.ex i)) σ
  by_cases c6 : (rng x_a1 0 (IntKind.i64.wrap (s_a0.Wide - 1))) = true
  case neg =>
   rw [if_neg c6] at h
   have dc6 := eq_false_of_ne_true c6
   have ff := And.intro @hv_0 (And.intro @hrt_0 (And.intro @hex_0 (And.intro @dc6 p_spec_l20Put_tf.down)))
   try refine st_by ff ?_
   repeat' (first | exact trivial | refine And.intro sd ?_)
   refine key_0 _ ?_
   refine ⟨false, h, ?_⟩
   exact p_spec_l20Put_pv ff trivial
  rw [if_pos c6] at h
  have dc6 := c6
  have ff := And.intro @hv_0 (And.intro @hrt_0 (And.intro @hex_0 (And.intro @dc6 p_spec_l20Put_tf.down)))
  try refine st_by ff ?_
  repeat' (first | exact trivial | refine And.intro sd ?_)
  first
  | (refine cq_call (l1In_does y_a2 0 (IntKind.i64.wrap (s_a0.High - 1))) (hf_by ff) kr ⟨p_spec_l20Put_sa ff trivial, ?_⟩; clear ff)
  have ff := And.intro @hv_0 (And.intro @hrt_0 (And.intro @hex_0 (And.intro @dc6 p_spec_l20Put_tf.down)))
  try refine st_by ff ?_
  repeat' (first | exact trivial | refine And.intro sd ?_)
  refine key_0 _ ?_
  refine ⟨(rng y_a2 0 (IntKind.i64.wrap (s_a0.High - 1))), h, ?_⟩
  exact p_spec_l20Put_pv ff trivial
theorem p_spec_l20Put_does (s_a0 : GSheet) (x_a1 : Int) (y_a2 : Int) (color_a3 : Int) (r : List Int) (h : p_spec_l20Put s_a0 x_a1 y_a2 color_a3 = some r) : DoesX Try.prog 20 [.agg [I s_a0.Wide, I s_a0.High, .sl 1000 [] 0 s_a0.Pixels.length], I x_a1, I y_a2, I color_a3] [.row true 1 s_a0.Pixels.length (esInt s_a0.Pixels)] (.tup []) [.row true 1 s_a0.Pixels.length (esInt r)] := by
  unfold p_spec_l20Put at h
  obtain ⟨r0, h0, h1⟩ := Option.bind_eq_some_iff.1 h
  split at h1
  · cases h1; exact p_spec_l20Put_raw_does s_a0 x_a1 y_a2 color_a3 _ h0
  · cases h1
theorem p_spec_l20Put_len (s_a0 : GSheet) (x_a1 : Int) (y_a2 : Int) (color_a3 : Int) (r : List Int) (h : p_spec_l20Put s_a0 x_a1 y_a2 color_a3 = some r) : r.length = s_a0.Pixels.length := by
  unfold p_spec_l20Put at h
  obtain ⟨r0, h0, h1⟩ := Option.bind_eq_some_iff.1 h
  split at h1
  · rename_i c; cases h1; exact c
  · cases h1
/-! spec.PaintBox -/
def p_spec_PaintBox_j1 (s_a0 : GSheet) (color_a2 : Int) (y_27 : Int) (x_57 : Int) (s_58 : List Int) (rec_1 : Int → (List Int) → Option (Int × (List Int))) (b_66 : Bool) : Option (Int × (List Int)) := (if b_66 = true then ((p_spec_l20Put (⟨s_a0.Wide, s_a0.High, s_58⟩ : GSheet) x_57 y_27 color_a2).bind fun v68 => rec_1 (IntKind.i64.wrap (x_57 + 1)) v68) else rec_1 (IntKind.i64.wrap (x_57 + 1)) s_58)
def p_spec_PaintBox_l1 (s_a0 : GSheet) (b_a1 : GPlaced) (color_a2 : Int) (y_27 : Int) : Nat → Int → (List Int) → Option (Int × (List Int))
  | 0, _, _ => none
  | n_1 + 1, x_57, s_58 => (if x_57 < s_a0.Wide then (if (rng x_57 b_a1.X (IntKind.i64.wrap ((IntKind.i64.wrap (b_a1.X + b_a1.W)) - 1))) = true then p_spec_PaintBox_j1 s_a0 color_a2 y_27 x_57 s_58 (p_spec_PaintBox_l1 s_a0 b_a1 color_a2 y_27 n_1) (rng y_27 b_a1.Y (IntKind.i64.wrap ((IntKind.i64.wrap (b_a1.Y + b_a1.H)) - 1))) else p_spec_PaintBox_j1 s_a0 color_a2 y_27 x_57 s_58 (p_spec_PaintBox_l1 s_a0 b_a1 color_a2 y_27 n_1) false) else some (x_57, s_58))
def p_spec_PaintBox_l0 (N : Nat) (s_a0 : GSheet) (b_a1 : GPlaced) (color_a2 : Int) : Nat → Int → (List Int) → Option (Int × (List Int))
  | 0, _, _ => none
  | n_0 + 1, y_27, s_28 => (if y_27 < s_a0.High then ((p_spec_PaintBox_l1 s_a0 b_a1 color_a2 y_27 N 0 s_28).bind fun q_1 => match q_1 with | (x_57, s_58) => p_spec_PaintBox_l0 N s_a0 b_a1 color_a2 n_0 (IntKind.i64.wrap (y_27 + 1)) s_58) else some (y_27, s_28))
def p_spec_PaintBox_j0 (N : Nat) (s_a0 : GSheet) (b_a1 : GPlaced) (color_a2 : Int) (b_2 : Bool) : Option (GSheet × Bool) := (if b_2 = true then some ((⟨0, 0, ([] : List Int)⟩ : GSheet), false) else (if s_a0.Pixels.length < 4294967296 then ((p_spec_PaintBox_l0 N s_a0 b_a1 color_a2 N 0 s_a0.Pixels).bind fun q_0 => match q_0 with | (y_27, s_28) => some ((⟨s_a0.Wide, s_a0.High, s_28⟩ : GSheet), true)) else none))
theorem p_spec_PaintBox_pv {F C A : Prop} (hF : F) (hC : C) (h : F → C → A := by intro hF hC; first | exact cl_by hF | (refine st_by hF ?_; (repeat' (first | exact trivial | apply And.intro)); all_goals (clear hF; first | rfl | (simp only [hC, List.length_append, List.length_cons, List.length_nil, List.append_nil, List.nil_append, List.cons_append, List.length_set, List.append_assoc, Nat.zero_add, List.length_replicate, esInt_app, esInt_cons, esInt_nil, eInt_eq, esSheet_app, esSheet_cons, esSheet_nil, eSheet_eq, esSheeto_app, esSheeto_cons, esSheeto_nil, eSheeto_eq, esPlaced_app, esPlaced_cons, esPlaced_nil, ePlaced_eq]; done) | (simp [hC, List.length_append, List.length_cons, List.length_nil, List.append_nil, List.nil_append, List.cons_append, List.length_set, List.append_assoc, Nat.zero_add, List.length_replicate, esInt_app, esInt_cons, esInt_nil, eInt_eq, esSheet_app, esSheet_cons, esSheet_nil, eSheet_eq, esSheeto_app, esSheeto_cons, esSheeto_nil, eSheeto_eq, esPlaced_app, esPlaced_cons, esPlaced_nil, ePlaced_eq]; done) | omega))) : A := h hF hC
theorem p_spec_PaintBox_sa {F C A : Prop} (hF : F) (hC : C) (h : F → C → A := by intro hF hC; first | exact ca_by hF | (refine sa_by hF ?_; (repeat' (first | exact trivial | apply And.intro)); all_goals (clear hF; first | rfl | (simp only [hC, List.length_append, List.length_cons, List.length_nil, List.append_nil, List.nil_append, List.cons_append, List.length_set, List.append_assoc, Nat.zero_add, List.length_replicate, esInt_app, esInt_cons, esInt_nil, eInt_eq, esSheet_app, esSheet_cons, esSheet_nil, eSheet_eq, esSheeto_app, esSheeto_cons, esSheeto_nil, eSheeto_eq, esPlaced_app, esPlaced_cons, esPlaced_nil, ePlaced_eq]; done) | (simp [hC, List.length_append, List.length_cons, List.length_nil, List.append_nil, List.nil_append, List.cons_append, List.length_set, List.append_assoc, Nat.zero_add, List.length_replicate, esInt_app, esInt_cons, esInt_nil, eInt_eq, esSheet_app, esSheet_cons, esSheet_nil, eSheet_eq, esSheeto_app, esSheeto_cons, esSheeto_nil, eSheeto_eq, esPlaced_app, esPlaced_cons, esPlaced_nil, ePlaced_eq]; done) | omega))) : A := h hF hC
theorem p_spec_PaintBox_rt {F C A : Prop} (hF : F) (hC : C) (h : F → C → A := by intro hF hC; first | (refine sr_by hF ?_; (repeat' (first | exact trivial | apply And.intro)); all_goals (clear hF; first | rfl | (simp only [hC, List.length_append, List.length_cons, List.length_nil, List.append_nil, List.nil_append, List.cons_append, List.length_set, List.append_assoc, Nat.zero_add, List.length_replicate, esInt_app, esInt_cons, esInt_nil, eInt_eq, esSheet_app, esSheet_cons, esSheet_nil, eSheet_eq, esSheeto_app, esSheeto_cons, esSheeto_nil, eSheeto_eq, esPlaced_app, esPlaced_cons, esPlaced_nil, ePlaced_eq]; done) | (simp [hC, List.length_append, List.length_cons, List.length_nil, List.append_nil, List.nil_append, List.cons_append, List.length_set, List.append_assoc, Nat.zero_add, List.length_replicate, esInt_app, esInt_cons, esInt_nil, eInt_eq, esSheet_app, esSheet_cons, esSheet_nil, eSheet_eq, esSheeto_app, esSheeto_cons, esSheeto_nil, eSheeto_eq, esPlaced_app, esPlaced_cons, esPlaced_nil, ePlaced_eq]; done) | omega)) | (first | rfl | (simp only [hC, List.length_append, List.length_cons, List.length_nil, List.append_nil, List.nil_append, List.cons_append, List.length_set, List.append_assoc, Nat.zero_add, List.length_replicate, esInt_app, esInt_cons, esInt_nil, eInt_eq, esSheet_app, esSheet_cons, esSheet_nil, eSheet_eq, esSheeto_app, esSheeto_cons, esSheeto_nil, eSheeto_eq, esPlaced_app, esPlaced_cons, esPlaced_nil, ePlaced_eq]; done) | (simp [hC, List.length_append, List.length_cons, List.length_nil, List.append_nil, List.nil_append, List.cons_append, List.length_set, List.append_assoc, Nat.zero_add, List.length_replicate, esInt_app, esInt_cons, esInt_nil, eInt_eq, esSheet_app, esSheet_cons, esSheet_nil, eSheet_eq, esSheeto_app, esSheeto_cons, esSheeto_nil, eSheeto_eq, esPlaced_app, esPlaced_cons, esPlaced_nil, ePlaced_eq]; done) | omega)) : A := h hF hC
def p_spec_PaintBox_tf := PLift.up (And.intro @eInt_eq (And.intro @esInt_len (And.intro @esInt_nil (And.intro @esInt_leaf (And.intro @esInt_fit (And.intro @eSheet_eq (And.intro @esSheet_len (And.intro @esSheet_nil (And.intro @esSheet_leaf (And.intro @esSheet_fit (And.intro @eSheeto_eq (And.intro @esSheeto_len (And.intro @esSheeto_nil (And.intro @ePlaced_eq (And.intro @esPlaced_len (And.intro @esPlaced_nil (And.intro @esPlaced_leaf (And.intro @esPlaced_fit (And.intro @esInt_share (And.intro @esInt_pure (And.intro @esSheeto_share (And.intro @esSheeto_pure (And.intro @esPlaced_share (And.intro @esPlaced_pure (And.intro @str_beq (And.intro @Ty.nz28 (And.intro @Ty.ldA28 (And.intro @Ty.sz28 (And.intro @Ty.szn28 (And.intro @Ty.nz32 (And.intro @Ty.ldA32 (And.intro @Ty.sz32 (And.intro @Ty.szn32 (And.intro @Ty.nz22 (And.intro @Ty.ldA22 (And.intro @Ty.ldS22 (And.intro @Ty.sz22 (And.intro @Ty.szn22 (And.intro @Ty.nz3 (And.intro @Ty.ldA3 (And.intro @Ty.ldS3 (And.intro @Ty.sz3 (And.intro @Ty.szn3 (And.intro @Ty.fo28_2 (And.intro @Ty.fk28_2 (And.intro @Ty.fs28_2 (And.intro @Ty.fn28_2 (And.intro @Ty.fo28_1 (And.intro @Ty.fk28_1 (And.intro @Ty.fs28_1 (And.intro @Ty.fn28_1 (And.intro @Ty.fo28_0 (And.intro @Ty.fk28_0 (And.intro @Ty.fs28_0 (And.intro @Ty.fn28_0 (And.intro @Ty.fo32_0 (And.intro @Ty.fk32_0 (And.intro @Ty.fs32_0 (And.intro @Ty.fn32_0 (And.intro @Ty.fo32_2 (And.intro @Ty.fk32_2 (And.intro @Ty.fs32_2 (And.intro @Ty.fn32_2 (And.intro @Ty.fo32_1 (And.intro @Ty.fk32_1 (And.intro @Ty.fs32_1 (And.intro @Ty.fn32_1 (And.intro @Ty.fo32_3 (And.intro @Ty.fk32_3 (And.intro @Ty.fs32_3 (And.intro @Ty.fn32_3 (And.intro @Ty.nze22 (And.intro @Ty.sl22 (And.intro @Ty.slz22 (And.intro @Ty.zok22 (And.intro @Ty.by22 (And.intro @Ty.zs22 (And.intro @Ty.zv28 (And.intro @Ty.bd28 (And.intro @Ty.ag28 @trivial))))))))))))))))))))))))))))))))))))))))))))))))))))))))))))))))))))))))))))))))
def p_spec_PaintBox (N : Nat) (s_a0 : GSheet) (b_a1 : GPlaced) (color_a2 : Int) : Option (GSheet × Bool) := ((p_spec_GoodSheet s_a0).bind fun v1 => (if v1 = true then ((p_spec_l20Box b_a1).bind fun v72 => (if v72 = true then ((p_spec_l20Color color_a2).bind fun v74 => p_spec_PaintBox_j0 N s_a0 b_a1 color_a2 (!v74)) else p_spec_PaintBox_j0 N s_a0 b_a1 color_a2 true)) else p_spec_PaintBox_j0 N s_a0 b_a1 color_a2 true))
theorem p_spec_PaintBox_does (N : Nat) (s_a0 : GSheet) (b_a1 : GPlaced) (color_a2 : Int) (r : GSheet × Bool) (h : p_spec_PaintBox N s_a0 b_a1 color_a2 = some r) : Does Try.prog 6 [.agg (eSheet s_a0), .agg (ePlaced b_a1), I color_a2] (.tup [.agg (eSheeto r.1), B r.2]) := by
  rw [p_spec_PaintBox] at h
  refine Does.bnd (fun hb => ?_)
  have hb2 : s_a0.Pixels.length ≤ 9223372036854775807 := by simpa [AV.fitNs, AV.fitN, eSheet, ePlaced] using hb
  have hl0 := hb2
  refine Does.walk (nt := 69) Try.func6 rfl rfl (by simp) (by decide) rfl (fun G0 X w0 pv => ?_)
  obtain ⟨v1, ev1, h⟩ := Option.bind_eq_some_iff.1 h
  try dsimp only at h
  have ff := p_spec_PaintBox_tf.down
  try refine st_by ff ?_
  repeat' (first | exact trivial | refine And.intro sd ?_)
  first
  | (refine cq_call (p_spec_GoodSheet_does s_a0 v1 ev1) (hf_by ff) kr ⟨p_spec_PaintBox_sa ff trivial, ?_⟩; clear ff)
  have ff := p_spec_PaintBox_tf.down
  try refine st_by ff ?_
  repeat' (first | exact trivial | refine And.intro sd ?_)
  try clear ff
  generalize hk_0 : thenK _ _ = kk_0
  have key_0 : ∀ σ, (∃ b_2 : Bool, (p_spec_PaintBox_j0 N s_a0 b_a1 color_a2 b_2 = some r) ∧ σ.t 2 = I color_a2 ∧ σ.t 3 = .ptr 3 [] 0 ∧ σ.t 4 = .ptr 4 [] 0 ∧ σ.t 6 = .ptr 6 [] 0 ∧ σ.t 22 = B b_2 ∧ σ.m 3 = some (.box true [I s_a0.Wide, I s_a0.High, .row false 1 s_a0.Pixels.length (esInt s_a0.Pixels)]) ∧ σ.m 4 = some (.box true [I b_a1.X, I b_a1.Y, I b_a1.W, I b_a1.H]) ∧ σ.m 6 = some (.box true [I 0, I 0, .row true 1 0 []])) → kk_0 .nm σ := by
    rintro σ ⟨b_2, h, g0_j0, g1_j0, g2_j0, g3_j0, g4_j0, g5_j0, g6_j0, g7_j0⟩
    rw [← hk_0]
    rw [p_spec_PaintBox_j0] at h
    by_cases c3 : b_2 = true
    · rw [if_pos c3] at h
      have dc3 := c3
      have ff := And.intro @g0_j0 (And.intro @g1_j0 (And.intro @g2_j0 (And.intro @g3_j0 (And.intro @g4_j0 (And.intro @g5_j0 (And.intro @g6_j0 (And.intro @g7_j0 (And.intro @dc3 p_spec_PaintBox_tf.down))))))))
      try refine st_by ff ?_
      repeat' (first | exact trivial | refine And.intro sd ?_)
      cases h
      exact ret_q2 rfl (p_spec_PaintBox_rt ff trivial)
    rw [if_neg c3] at h
    have dc3 := eq_false_of_ne_true c3
    by_cases c4 : s_a0.Pixels.length < 4294967296
    case neg => rw [if_neg c4] at h; cases h
    rw [if_pos c4] at h
    obtain ⟨q_0, eq_0, h⟩ := Option.bind_eq_some_iff.1 h
    have ff := And.intro @g0_j0 (And.intro @g1_j0 (And.intro @g2_j0 (And.intro @g3_j0 (And.intro @g4_j0 (And.intro @g5_j0 (And.intro @g6_j0 (And.intro @g7_j0 (And.intro @dc3 p_spec_PaintBox_tf.down))))))))
    try refine st_by ff ?_
    repeat' (first | exact trivial | refine And.intro sd ?_)
    obtain ⟨I_0, hI_0⟩ : ∃ I_ : (Nat × Int × (List Int)) → ASt → Prop, I_ = (fun (a : Nat × Int × (List Int)) σ => match a with | (n_0, y_27, s_28) => (p_spec_PaintBox_l0 N s_a0 b_a1 color_a2 n_0 y_27 s_28 = some q_0) ∧ σ.t 2 = I color_a2 ∧ σ.t 3 = .ptr 3 [] 0 ∧ σ.t 4 = .ptr 4 [] 0 ∧ σ.t 6 = .ptr 6 [] 0 ∧ σ.t 8 = I y_27 ∧ σ.m 3 = some (.box true [I s_a0.Wide, I s_a0.High, .row true 1 s_28.length (esInt s_28)]) ∧ σ.m 4 = some (.box true [I b_a1.X, I b_a1.Y, I b_a1.W, I b_a1.H]) ∧ σ.m 6 = some (.box true [I 0, I 0, .row true 1 0 []])) := ⟨_, rfl⟩
    obtain ⟨M_0, hM_0⟩ : ∃ M_ : (Nat × Int × (List Int)) → Nat, M_ = (fun (a : Nat × Int × (List Int)) => match a with | (n_0, y_27, s_28) => n_0) := ⟨_, rfl⟩
    obtain ⟨J_0, hJ_0⟩ : ∃ J_ : ASt → Prop, J_ = (fun σ => ∃ y_27 : Int, ∃ s_28 : List Int, (some (y_27, s_28) = some q_0) ∧ σ.t 3 = .ptr 3 [] 0 ∧ σ.t 6 = .ptr 6 [] 0 ∧ σ.m 3 = some (.box true [I s_a0.Wide, I s_a0.High, .row true 1 s_28.length (esInt s_28)]) ∧ σ.m 6 = some (.box true [I 0, I 0, .row true 1 0 []])) := ⟨_, rfl⟩
    refine aw_loopC (id := 0) I_0 M_0 J_0 (N, 0, s_a0.Pixels) ?_ ?_ ?_
    · rw [hI_0]
      refine ⟨eq_0, ?_⟩
      exact p_spec_PaintBox_pv ff trivial
    · try clear ff
      rintro ⟨n_0, y_27, s_28⟩ σ hg_0
      rw [hI_0] at hg_0
      obtain ⟨h_0, g0_0, g1_0, g2_0, g3_0, g4_0, g5_0, g6_0, g7_0⟩ := hg_0
      cases n_0 with
      | zero => rw [p_spec_PaintBox_l0] at h_0; cases h_0
      | succ n_0 =>
        rw [p_spec_PaintBox_l0] at h_0
        by_cases c50 : y_27 < s_a0.High
        case neg =>
         rw [if_neg c50] at h_0
         have dc50 := decide_eq_false c50
         have ff := And.intro @dc3 (And.intro @g0_0 (And.intro @g1_0 (And.intro @g2_0 (And.intro @g3_0 (And.intro @g4_0 (And.intro @g5_0 (And.intro @g6_0 (And.intro @g7_0 (And.intro @dc50 p_spec_PaintBox_tf.down)))))))))
         try refine st_by ff ?_
         repeat' (first | exact trivial | refine And.intro sd ?_)
         refine JW.intro ?_
         rw [hJ_0]
         refine ⟨y_27, s_28, h_0, ?_⟩
         exact p_spec_PaintBox_pv ff trivial
        rw [if_pos c50] at h_0
        have dc50 := decide_eq_true c50
        obtain ⟨q_1, eq_1, h_0⟩ := Option.bind_eq_some_iff.1 h_0
        have ff := And.intro @dc3 (And.intro @g0_0 (And.intro @g1_0 (And.intro @g2_0 (And.intro @g3_0 (And.intro @g4_0 (And.intro @g5_0 (And.intro @g6_0 (And.intro @g7_0 (And.intro @dc50 p_spec_PaintBox_tf.down)))))))))
        try refine st_by ff ?_
        repeat' (first | exact trivial | refine And.intro sd ?_)
        obtain ⟨I_1, hI_1⟩ : ∃ I_ : (Nat × Int × (List Int)) → ASt → Prop, I_ = (fun (a : Nat × Int × (List Int)) σ => match a with | (n_1, x_57, s_58) => (p_spec_PaintBox_l1 s_a0 b_a1 color_a2 y_27 n_1 x_57 s_58 = some q_1) ∧ σ.t 2 = I color_a2 ∧ σ.t 3 = .ptr 3 [] 0 ∧ σ.t 4 = .ptr 4 [] 0 ∧ σ.t 6 = .ptr 6 [] 0 ∧ σ.t 8 = I y_27 ∧ σ.t 9 = I x_57 ∧ σ.m 3 = some (.box true [I s_a0.Wide, I s_a0.High, .row true 1 s_58.length (esInt s_58)]) ∧ σ.m 4 = some (.box true [I b_a1.X, I b_a1.Y, I b_a1.W, I b_a1.H]) ∧ σ.m 6 = some (.box true [I 0, I 0, .row true 1 0 []])) := ⟨_, rfl⟩
        obtain ⟨M_1, hM_1⟩ : ∃ M_ : (Nat × Int × (List Int)) → Nat, M_ = (fun (a : Nat × Int × (List Int)) => match a with | (n_1, x_57, s_58) => n_1) := ⟨_, rfl⟩
        obtain ⟨J_1, hJ_1⟩ : ∃ J_ : ASt → Prop, J_ = (fun σ => ∃ x_57 : Int, ∃ s_58 : List Int, (some (x_57, s_58) = some q_1) ∧ σ.t 2 = I color_a2 ∧ σ.t 3 = .ptr 3 [] 0 ∧ σ.t 4 = .ptr 4 [] 0 ∧ σ.t 6 = .ptr 6 [] 0 ∧ σ.t 8 = I y_27 ∧ σ.m 3 = some (.box true [I s_a0.Wide, I s_a0.High, .row true 1 s_58.length (esInt s_58)]) ∧ σ.m 4 = some (.box true [I b_a1.X, I b_a1.Y, I b_a1.W, I b_a1.H]) ∧ σ.m 6 = some (.box true [I 0, I 0, .row true 1 0 []])) := ⟨_, rfl⟩
        refine aw_loopC (id := 2) I_1 M_1 J_1 (N, 0, s_28) ?_ ?_ ?_
        · rw [hI_1]
          refine ⟨eq_1, ?_⟩
          exact p_spec_PaintBox_pv ff trivial
        · try clear ff
          rintro ⟨n_1, x_57, s_58⟩ σ hg_1
          rw [hI_1] at hg_1
          obtain ⟨h_1, g0_1, g1_1, g2_1, g3_1, g4_1, g5_1, g6_1, g7_1, g8_1⟩ := hg_1
          cases n_1 with
          | zero => rw [p_spec_PaintBox_l1] at h_1; cases h_1
          | succ n_1 =>
            rw [p_spec_PaintBox_l1] at h_1
            by_cases c65 : x_57 < s_a0.Wide
            case neg =>
             rw [if_neg c65] at h_1
             have dc65 := decide_eq_false c65
             have ff := And.intro @dc3 (And.intro @dc50 (And.intro @g0_1 (And.intro @g1_1 (And.intro @g2_1 (And.intro @g3_1 (And.intro @g4_1 (And.intro @g5_1 (And.intro @g6_1 (And.intro @g7_1 (And.intro @g8_1 (And.intro @dc65 p_spec_PaintBox_tf.down)))))))))))
             try refine st_by ff ?_
             repeat' (first | exact trivial | refine And.intro sd ?_)
             refine JW.intro ?_
             rw [hJ_1]
             refine ⟨x_57, s_58, h_1, ?_⟩
             exact p_spec_PaintBox_pv ff trivial
            rw [if_pos c65] at h_1
            have dc65 := decide_eq_true c65
            have ff := And.intro @dc3 (And.intro @dc50 (And.intro @g0_1 (And.intro @g1_1 (And.intro @g2_1 (And.intro @g3_1 (And.intro @g4_1 (And.intro @g5_1 (And.intro @g6_1 (And.intro @g7_1 (And.intro @g8_1 (And.intro @dc65 p_spec_PaintBox_tf.down)))))))))))
            try refine st_by ff ?_
            repeat' (first | exact trivial | refine And.intro sd ?_)
            first
            | (refine cq_call (l1In_does x_57 b_a1.X (IntKind.i64.wrap ((IntKind.i64.wrap (b_a1.X + b_a1.W)) - 1))) (hf_by ff) kr ⟨p_spec_PaintBox_sa ff trivial, ?_⟩; clear ff)
            have ff := And.intro @dc3 (And.intro @dc50 (And.intro @g0_1 (And.intro @g1_1 (And.intro @g2_1 (And.intro @g3_1 (And.intro @g4_1 (And.intro @g5_1 (And.intro @g6_1 (And.intro @g7_1 (And.intro @g8_1 (And.intro @dc65 p_spec_PaintBox_tf.down)))))))))))
            try refine st_by ff ?_
            repeat' (first | exact trivial | refine And.intro sd ?_)
            try clear ff
            generalize hk_1 : thenK _ _ = kk_1
            have key_1 : ∀ σ, (∃ b_66 : Bool, (p_spec_PaintBox_j1 s_a0 color_a2 y_27 x_57 s_58 (p_spec_PaintBox_l1 s_a0 b_a1 color_a2 y_27 n_1) b_66 = some q_1) ∧ σ.t 2 = I color_a2 ∧ σ.t 3 = .ptr 3 [] 0 ∧ σ.t 4 = .ptr 4 [] 0 ∧ σ.t 6 = .ptr 6 [] 0 ∧ σ.t 8 = I y_27 ∧ σ.t 9 = I x_57 ∧ σ.t 62 = B b_66 ∧ σ.m 3 = some (.box true [I s_a0.Wide, I s_a0.High, .row true 1 s_58.length (esInt s_58)]) ∧ σ.m 4 = some (.box true [I b_a1.X, I b_a1.Y, I b_a1.W, I b_a1.H]) ∧ σ.m 6 = some (.box true [I 0, I 0, .row true 1 0 []])) → kk_1 .nm σ := by
              rintro σ ⟨b_66, h_1, g0_j1, g1_j1, g2_j1, g3_j1, g4_j1, g5_j1, g6_j1, g7_j1, g8_j1, g9_j1⟩
              rw [← hk_1]
              rw [p_spec_PaintBox_j1] at h_1
              by_cases c67 : b_66 = true
              case neg =>
               rw [if_neg c67] at h_1
               have dc67 := eq_false_of_ne_true c67
               have ff := And.intro @dc3 (And.intro @dc50 (And.intro @dc65 (And.intro @g0_j1 (And.intro @g1_j1 (And.intro @g2_j1 (And.intro @g3_j1 (And.intro @g4_j1 (And.intro @g5_j1 (And.intro @g6_j1 (And.intro @g7_j1 (And.intro @g8_j1 (And.intro @g9_j1 (And.intro @dc67 p_spec_PaintBox_tf.down)))))))))))))
               try refine st_by ff ?_
               repeat' (first | exact trivial | refine And.intro sd ?_)
               refine Back.intro (n_1, (IntKind.i64.wrap (x_57 + 1)), s_58) ?_ ?_
               · rw [hM_1]; exact Nat.lt_succ_self _
               rw [hI_1]
               refine ⟨h_1, ?_⟩
               exact p_spec_PaintBox_pv ff trivial
              rw [if_pos c67] at h_1
              have dc67 := c67
              obtain ⟨v68, ev68, h_1⟩ := Option.bind_eq_some_iff.1 h_1
              try dsimp only at h_1
              have ff := And.intro @dc3 (And.intro @dc50 (And.intro @dc65 (And.intro @g0_j1 (And.intro @g1_j1 (And.intro @g2_j1 (And.intro @g3_j1 (And.intro @g4_j1 (And.intro @g5_j1 (And.intro @g6_j1 (And.intro @g7_j1 (And.intro @g8_j1 (And.intro @g9_j1 (And.intro @dc67 p_spec_PaintBox_tf.down)))))))))))))
              try refine st_by ff ?_
              repeat' (first | exact trivial | refine And.intro sd ?_)
              (refine cq_Xs [(3, [2])] (p_spec_l20Put_does (⟨s_a0.Wide, s_a0.High, s_58⟩ : GSheet) x_57 y_27 color_a2 v68 ev68) (hf_by ff) kr (by decide) ⟨p_spec_PaintBox_sa ff trivial, ?_⟩; clear ff)
              have f69 := p_spec_l20Put_len (⟨s_a0.Wide, s_a0.High, s_58⟩ : GSheet) x_57 y_27 color_a2 v68 ev68
              have ff := And.intro @dc3 (And.intro @dc50 (And.intro @dc65 (And.intro @g0_j1 (And.intro @g1_j1 (And.intro @g2_j1 (And.intro @g3_j1 (And.intro @g4_j1 (And.intro @g5_j1 (And.intro @g6_j1 (And.intro @g7_j1 (And.intro @g8_j1 (And.intro @g9_j1 (And.intro @dc67 (And.intro @f69 p_spec_PaintBox_tf.down))))))))))))))
              try refine st_by ff ?_
              repeat' (first | exact trivial | refine And.intro sd ?_)
              refine Back.intro (n_1, (IntKind.i64.wrap (x_57 + 1)), v68) ?_ ?_
              · rw [hM_1]; exact Nat.lt_succ_self _
              rw [hI_1]
              refine ⟨h_1, ?_⟩
              exact p_spec_PaintBox_pv ff trivial
            have hrt_1 := fun σ : ASt => congrFun (congrFun hk_1.symm AX.rt) σ
            have hex_1 := fun (i : Nat) (σ : ASt) => congrFun (congrFun hk_1.symm (AX.ex i)) σ
            by_cases c70 : (rng x_57 b_a1.X (IntKind.i64.wrap ((IntKind.i64.wrap (b_a1.X + b_a1.W)) - 1))) = true
            case neg =>
             rw [if_neg c70] at h_1
             have dc70 := eq_false_of_ne_true c70
             have ff := And.intro @dc3 (And.intro @dc50 (And.intro @g0_1 (And.intro @g1_1 (And.intro @g2_1 (And.intro @g3_1 (And.intro @g4_1 (And.intro @g5_1 (And.intro @g6_1 (And.intro @g7_1 (And.intro @g8_1 (And.intro @dc65 (And.intro @hrt_1 (And.intro @hex_1 (And.intro @dc70 p_spec_PaintBox_tf.down))))))))))))))
             try refine st_by ff ?_
             repeat' (first | exact trivial | refine And.intro sd ?_)
             refine key_1 _ ?_
             refine ⟨false, h_1, ?_⟩
             exact p_spec_PaintBox_pv ff trivial
            rw [if_pos c70] at h_1
            have dc70 := c70
            have ff := And.intro @dc3 (And.intro @dc50 (And.intro @g0_1 (And.intro @g1_1 (And.intro @g2_1 (And.intro @g3_1 (And.intro @g4_1 (And.intro @g5_1 (And.intro @g6_1 (And.intro @g7_1 (And.intro @g8_1 (And.intro @dc65 (And.intro @hrt_1 (And.intro @hex_1 (And.intro @dc70 p_spec_PaintBox_tf.down))))))))))))))
            try refine st_by ff ?_
            repeat' (first | exact trivial | refine And.intro sd ?_)
            first
            | (refine cq_call (l1In_does y_27 b_a1.Y (IntKind.i64.wrap ((IntKind.i64.wrap (b_a1.Y + b_a1.H)) - 1))) (hf_by ff) kr ⟨p_spec_PaintBox_sa ff trivial, ?_⟩; clear ff)
            have ff := And.intro @dc3 (And.intro @dc50 (And.intro @g0_1 (And.intro @g1_1 (And.intro @g2_1 (And.intro @g3_1 (And.intro @g4_1 (And.intro @g5_1 (And.intro @g6_1 (And.intro @g7_1 (And.intro @g8_1 (And.intro @dc65 (And.intro @hrt_1 (And.intro @hex_1 (And.intro @dc70 p_spec_PaintBox_tf.down))))))))))))))
            try refine st_by ff ?_
            repeat' (first | exact trivial | refine And.intro sd ?_)
            refine key_1 _ ?_
            refine ⟨(rng y_27 b_a1.Y (IntKind.i64.wrap ((IntKind.i64.wrap (b_a1.Y + b_a1.H)) - 1))), h_1, ?_⟩
            exact p_spec_PaintBox_pv ff trivial
        · try clear ff
          rintro σ hg_1
          rw [hJ_1] at hg_1
          obtain ⟨x_57, s_58, hj_1, g0_1a, g1_1a, g2_1a, g3_1a, g4_1a, g5_1a, g6_1a, g7_1a⟩ := hg_1
          cases hj_1
          try dsimp only at h_0
          have ff := And.intro @dc3 (And.intro @dc50 (And.intro @g0_1a (And.intro @g1_1a (And.intro @g2_1a (And.intro @g3_1a (And.intro @g4_1a (And.intro @g5_1a (And.intro @g6_1a (And.intro @g7_1a p_spec_PaintBox_tf.down)))))))))
          try refine st_by ff ?_
          repeat' (first | exact trivial | refine And.intro sd ?_)
          refine Back.intro (n_0, (IntKind.i64.wrap (y_27 + 1)), s_58) ?_ ?_
          · rw [hM_0]; exact Nat.lt_succ_self _
          rw [hI_0]
          refine ⟨h_0, ?_⟩
          exact p_spec_PaintBox_pv ff trivial
    · try clear ff
      rintro σ hg_0
      rw [hJ_0] at hg_0
      obtain ⟨y_27, s_28, hj_0, g0_0a, g1_0a, g2_0a, g3_0a⟩ := hg_0
      cases hj_0
      try dsimp only at h
      have ff := And.intro @dc3 (And.intro @g0_0a (And.intro @g1_0a (And.intro @g2_0a (And.intro @g3_0a p_spec_PaintBox_tf.down))))
      try refine st_by ff ?_
      repeat' (first | exact trivial | refine And.intro sd ?_)
      cases h
      exact ret_q2 rfl (p_spec_PaintBox_rt ff trivial)
  have hrt_0 := fun σ : ASt => congrFun (congrFun hk_0.symm AX.rt) σ
  have hex_0 := fun (i : Nat) (σ : ASt) => congrFun (congrFun hk_0.symm (AX.ex i)) σ
  by_cases c71 : v1 = true
  case neg =>
   rw [if_neg c71] at h
   have dc71 := eq_false_of_ne_true c71
   have ff := And.intro @hrt_0 (And.intro @hex_0 (And.intro @dc71 p_spec_PaintBox_tf.down))
   try refine st_by ff ?_
   repeat' (first | exact trivial | refine And.intro sd ?_)
   refine key_0 _ ?_
   refine ⟨true, h, ?_⟩
   exact p_spec_PaintBox_pv ff trivial
  rw [if_pos c71] at h
  have dc71 := c71
  obtain ⟨v72, ev72, h⟩ := Option.bind_eq_some_iff.1 h
  try dsimp only at h
  have ff := And.intro @hrt_0 (And.intro @hex_0 (And.intro @dc71 p_spec_PaintBox_tf.down))
  try refine st_by ff ?_
  repeat' (first | exact trivial | refine And.intro sd ?_)
  first
  | (refine cq_call (p_spec_l20Box_does b_a1 v72 ev72) (hf_by ff) kr ⟨p_spec_PaintBox_sa ff trivial, ?_⟩; clear ff)
  by_cases c73 : v72 = true
  case neg =>
   rw [if_neg c73] at h
   have dc73 := eq_false_of_ne_true c73
   have ff := And.intro @hrt_0 (And.intro @hex_0 (And.intro @dc71 (And.intro @dc73 p_spec_PaintBox_tf.down)))
   try refine st_by ff ?_
   repeat' (first | exact trivial | refine And.intro sd ?_)
   refine key_0 _ ?_
   refine ⟨true, h, ?_⟩
   exact p_spec_PaintBox_pv ff trivial
  rw [if_pos c73] at h
  have dc73 := c73
  obtain ⟨v74, ev74, h⟩ := Option.bind_eq_some_iff.1 h
  try dsimp only at h
  have ff := And.intro @hrt_0 (And.intro @hex_0 (And.intro @dc71 (And.intro @dc73 p_spec_PaintBox_tf.down)))
  try refine st_by ff ?_
  repeat' (first | exact trivial | refine And.intro sd ?_)
  first
  | (refine cq_call (p_spec_l20Color_does color_a2 v74 ev74) (hf_by ff) kr ⟨p_spec_PaintBox_sa ff trivial, ?_⟩; clear ff)
  have ff := And.intro @hrt_0 (And.intro @hex_0 (And.intro @dc71 (And.intro @dc73 p_spec_PaintBox_tf.down)))
  try refine st_by ff ?_
  repeat' (first | exact trivial | refine And.intro sd ?_)
  refine key_0 _ ?_
  refine ⟨!v74, h, ?_⟩
  exact p_spec_PaintBox_pv ff trivial
/-! slices.IndexFunc[[]int,int] -/
def p_slices_IndexFunc_int_int_l0 (f_a1 : Int → Option Bool) : List Int → Nat → Option (LR (Int) (Unit))
  | [], i_0 => some (.out ())
  | x_0 :: r_0, i_0 => ((f_a1 x_0).bind fun v12 => (if v12 = true then some (.ret (i_0 : Int)) else p_slices_IndexFunc_int_int_l0 f_a1 r_0 (i_0 + 1)))
theorem p_slices_IndexFunc_int_int_pv {F C A : Prop} (hF : F) (hC : C) (h : F → C → A := by intro hF hC; first | exact cl_by hF | (refine st_by hF ?_; (repeat' (first | exact trivial | apply And.intro)); all_goals (clear hF; first | rfl | (simp only [hC, List.length_append, List.length_cons, List.length_nil, List.append_nil, List.nil_append, List.cons_append, List.length_set, List.append_assoc, Nat.zero_add, List.length_replicate, esInt_app, esInt_cons, esInt_nil, eInt_eq]; done) | (simp [hC, List.length_append, List.length_cons, List.length_nil, List.append_nil, List.nil_append, List.cons_append, List.length_set, List.append_assoc, Nat.zero_add, List.length_replicate, esInt_app, esInt_cons, esInt_nil, eInt_eq]; done) | omega))) : A := h hF hC
theorem p_slices_IndexFunc_int_int_sa {F C A : Prop} (hF : F) (hC : C) (h : F → C → A := by intro hF hC; first | exact ca_by hF | (refine sa_by hF ?_; (repeat' (first | exact trivial | apply And.intro)); all_goals (clear hF; first | rfl | (simp only [hC, List.length_append, List.length_cons, List.length_nil, List.append_nil, List.nil_append, List.cons_append, List.length_set, List.append_assoc, Nat.zero_add, List.length_replicate, esInt_app, esInt_cons, esInt_nil, eInt_eq]; done) | (simp [hC, List.length_append, List.length_cons, List.length_nil, List.append_nil, List.nil_append, List.cons_append, List.length_set, List.append_assoc, Nat.zero_add, List.length_replicate, esInt_app, esInt_cons, esInt_nil, eInt_eq]; done) | omega))) : A := h hF hC
theorem p_slices_IndexFunc_int_int_rt {F C A : Prop} (hF : F) (hC : C) (h : F → C → A := by intro hF hC; first | (refine sr_by hF ?_; (repeat' (first | exact trivial | apply And.intro)); all_goals (clear hF; first | rfl | (simp only [hC, List.length_append, List.length_cons, List.length_nil, List.append_nil, List.nil_append, List.cons_append, List.length_set, List.append_assoc, Nat.zero_add, List.length_replicate, esInt_app, esInt_cons, esInt_nil, eInt_eq]; done) | (simp [hC, List.length_append, List.length_cons, List.length_nil, List.append_nil, List.nil_append, List.cons_append, List.length_set, List.append_assoc, Nat.zero_add, List.length_replicate, esInt_app, esInt_cons, esInt_nil, eInt_eq]; done) | omega)) | (first | rfl | (simp only [hC, List.length_append, List.length_cons, List.length_nil, List.append_nil, List.nil_append, List.cons_append, List.length_set, List.append_assoc, Nat.zero_add, List.length_replicate, esInt_app, esInt_cons, esInt_nil, eInt_eq]; done) | (simp [hC, List.length_append, List.length_cons, List.length_nil, List.append_nil, List.nil_append, List.cons_append, List.length_set, List.append_assoc, Nat.zero_add, List.length_replicate, esInt_app, esInt_cons, esInt_nil, eInt_eq]; done) | omega)) : A := h hF hC
def p_slices_IndexFunc_int_int_tf := PLift.up (And.intro @eInt_eq (And.intro @esInt_len (And.intro @esInt_nil (And.intro @esInt_leaf (And.intro @esInt_fit (And.intro @esInt_share (And.intro @esInt_pure (And.intro @str_beq (And.intro @Ty.sl22 (And.intro @Ty.slz22 (And.intro @Ty.nz3 (And.intro @Ty.ldA3 (And.intro @Ty.ldS3 (And.intro @Ty.sz3 (And.intro @Ty.szn3 @trivial)))))))))))))))
def p_slices_IndexFunc_int_int (s_a0 : List Int) (f_a1 : Int → Option Bool) : Option (Int) := ((p_slices_IndexFunc_int_int_l0 f_a1 s_a0 0).bind fun q_0 => match q_0 with | .ret r_ => some r_ | .out _ => some (-1))
theorem p_slices_IndexFunc_int_int_does (s_a0 : List Int) (f1 : FuncId) (caps1 : List AV) (hc1 : AV.noRefs caps1 = true) (he1 : entB Try.prog f1 = true) (f_a1 : Int → Option Bool) (hp1 : ∀ (x0_ : Int) (y_ : Bool), f_a1 x0_ = some y_ → Does Try.prog f1 ([I x0_] ++ caps1) (B y_)) (r : Int) (h : p_slices_IndexFunc_int_int s_a0 f_a1 = some r) : Does Try.prog 39 [.row false 1 s_a0.length (esInt s_a0), .fn f1 caps1] (I r) := by
  rw [p_slices_IndexFunc_int_int] at h
  refine Does.bnd (fun hb => ?_)
  have hb2 : s_a0.length ≤ 9223372036854775807 := by simpa [AV.fitNs, AV.fitN] using hb
  have hl0 := hb2
  refine Does.walk (nt := 19) Try.func39 rfl rfl (by simp) (by decide) (by simp [AV.noRefs, AV.noRef, hc1]) (fun G0 X w0 pv => ?_)
  have hL_0 : s_a0.length ≤ 9223372036854775807 := by first | assumption | omega
  obtain ⟨q_0, eq_0, h⟩ := Option.bind_eq_some_iff.1 h
  have ff := And.intro @hc1 p_slices_IndexFunc_int_int_tf.down
  try refine st_by ff ?_
  repeat' (first | exact trivial | refine And.intro sd ?_)
  obtain ⟨I_0, hI_0⟩ : ∃ I_ : (Nat) → ASt → Prop, I_ = (fun (i_0 : Nat) σ => (i_0 ≤ s_a0.length ∧ p_slices_IndexFunc_int_int_l0 f_a1 (s_a0.drop i_0) i_0 = some q_0) ∧ σ.t 0 = .row false 1 s_a0.length (esInt s_a0) ∧ σ.t 1 = .fn f1 caps1 ∧ σ.t 7 = I (s_a0.length : Int) ∧ σ.t 8 = I (i_0 : Int)) := ⟨_, rfl⟩
  obtain ⟨M_0, hM_0⟩ : ∃ M_ : (Nat) → Nat, M_ = (fun (i_0 : Nat) => s_a0.length - i_0) := ⟨_, rfl⟩
  obtain ⟨J_0, hJ_0⟩ : ∃ J_ : ASt → Prop, J_ = (fun σ => (some (.out ()) = some q_0) ∧ True) := ⟨_, rfl⟩
  refine aw_loopC (id := 0) I_0 M_0 J_0 (0) ?_ ?_ ?_
  · rw [hI_0]
    refine ⟨⟨Nat.zero_le _, eq_0⟩, ?_⟩
    exact p_slices_IndexFunc_int_int_pv ff trivial
  · try clear ff
    rintro i_0 σ hg_0
    rw [hI_0] at hg_0
    obtain ⟨⟨hi_0, h_0⟩, g0_0, g1_0, g2_0, g3_0⟩ := hg_0
    cases hr_0 : s_a0.drop i_0 with
    | nil =>
      rw [hr_0] at h_0
      rw [p_slices_IndexFunc_int_int_l0] at h_0
      have hn_0 := drop_nil hr_0
      have dr_0 : decide ((i_0 : Int) < (s_a0.length : Int)) = false := decide_eq_false (by omega)
      have ff := And.intro @hc1 (And.intro @dr_0 (And.intro @g0_0 (And.intro @g1_0 (And.intro @g2_0 (And.intro @g3_0 p_slices_IndexFunc_int_int_tf.down)))))
      try refine st_by ff ?_
      repeat' (first | exact trivial | refine And.intro sd ?_)
      refine JW.intro ?_
      rw [hJ_0]
      refine ⟨h_0, ?_⟩
      exact p_slices_IndexFunc_int_int_pv ff trivial
    | cons x_0 r_0 =>
      rw [hr_0] at h_0
      rw [p_slices_IndexFunc_int_int_l0] at h_0
      obtain ⟨ht_0, hg_0, hd_0⟩ := drop_cons hr_0
      have dr_0 : decide ((i_0 : Int) < (s_a0.length : Int)) = true := decide_eq_true (by omega)
      have w_0 : IntKind.i64.wrap ((i_0 : Int) + 1) = ((i_0 + 1 : Nat) : Int) := wI _ (by omega) (by omega)
      have kk0c : (esInt s_a0).drop (i_0 * 1) = eInt x_0 ++ esInt (s_a0.drop (i_0 + 1)) := drop_enc (fun _ => rfl) (hg_0)
      have kk0d := kk0c
      rw [Nat.mul_one] at kk0d
      obtain ⟨v12, ev12, h_0⟩ := Option.bind_eq_some_iff.1 h_0
      try dsimp only at h_0
      have ff := And.intro @hc1 (And.intro @dr_0 (And.intro @w_0 (And.intro @g0_0 (And.intro @g1_0 (And.intro @g2_0 (And.intro @g3_0 (And.intro @kk0c (And.intro @kk0d p_slices_IndexFunc_int_int_tf.down))))))))
      try refine st_by ff ?_
      repeat' (first | exact trivial | refine And.intro sd ?_)
      first
      | (refine cq_call (hp1 x_0 v12 ev12) (hf_by ff) he1 ⟨p_slices_IndexFunc_int_int_sa ff trivial, ?_⟩; clear ff)
      by_cases c13 : v12 = true
      · rw [if_pos c13] at h_0
        have dc13 := c13
        cases h_0
        try dsimp only at h
        have ff := And.intro @hc1 (And.intro @dr_0 (And.intro @w_0 (And.intro @g0_0 (And.intro @g1_0 (And.intro @g2_0 (And.intro @g3_0 (And.intro @kk0c (And.intro @kk0d (And.intro @dc13 p_slices_IndexFunc_int_int_tf.down)))))))))
        try refine st_by ff ?_
        repeat' (first | exact trivial | refine And.intro sd ?_)
        cases h
        exact ret_q1 rfl (p_slices_IndexFunc_int_int_rt ff trivial)
      rw [if_neg c13] at h_0
      have dc13 := eq_false_of_ne_true c13
      have ff := And.intro @hc1 (And.intro @dr_0 (And.intro @w_0 (And.intro @g0_0 (And.intro @g1_0 (And.intro @g2_0 (And.intro @g3_0 (And.intro @kk0c (And.intro @kk0d (And.intro @dc13 p_slices_IndexFunc_int_int_tf.down)))))))))
      try refine st_by ff ?_
      repeat' (first | exact trivial | refine And.intro sd ?_)
      refine Back.intro (i_0 + 1) ?_ ?_
      · clear ff; rw [hM_0]; show s_a0.length - (i_0 + 1) < s_a0.length - i_0; omega
      rw [hI_0]
      refine ⟨⟨by clear ff; show i_0 + 1 ≤ s_a0.length; omega, by show p_slices_IndexFunc_int_int_l0 f_a1 (s_a0.drop (i_0 + 1)) (i_0 + 1) = some q_0; rw [hd_0]; exact h_0⟩, ?_⟩
      exact p_slices_IndexFunc_int_int_pv ff trivial
  · try clear ff
    rintro σ hg_0
    rw [hJ_0] at hg_0
    obtain ⟨hj_0, _⟩ := hg_0
    cases hj_0
    try dsimp only at h
    have ff := And.intro @hc1 p_slices_IndexFunc_int_int_tf.down
    try refine st_by ff ?_
    repeat' (first | exact trivial | refine And.intro sd ?_)
    cases h
    exact ret_q1 rfl (p_slices_IndexFunc_int_int_rt ff trivial)
/-! slices.ContainsFunc[[]int,int] -/
theorem p_slices_ContainsFunc_int_int_pv {F C A : Prop} (hF : F) (hC : C) (h : F → C → A := by intro hF hC; first | exact cl_by hF | (refine st_by hF ?_; (repeat' (first | exact trivial | apply And.intro)); all_goals (clear hF; first | rfl | (simp only [hC, List.length_append, List.length_cons, List.length_nil, List.append_nil, List.nil_append, List.cons_append, List.length_set, List.append_assoc, Nat.zero_add, List.length_replicate, esInt_app, esInt_cons, esInt_nil, eInt_eq]; done) | (simp [hC, List.length_append, List.length_cons, List.length_nil, List.append_nil, List.nil_append, List.cons_append, List.length_set, List.append_assoc, Nat.zero_add, List.length_replicate, esInt_app, esInt_cons, esInt_nil, eInt_eq]; done) | omega))) : A := h hF hC
theorem p_slices_ContainsFunc_int_int_sa {F C A : Prop} (hF : F) (hC : C) (h : F → C → A := by intro hF hC; first | exact ca_by hF | (refine sa_by hF ?_; (repeat' (first | exact trivial | apply And.intro)); all_goals (clear hF; first | rfl | (simp only [hC, List.length_append, List.length_cons, List.length_nil, List.append_nil, List.nil_append, List.cons_append, List.length_set, List.append_assoc, Nat.zero_add, List.length_replicate, esInt_app, esInt_cons, esInt_nil, eInt_eq]; done) | (simp [hC, List.length_append, List.length_cons, List.length_nil, List.append_nil, List.nil_append, List.cons_append, List.length_set, List.append_assoc, Nat.zero_add, List.length_replicate, esInt_app, esInt_cons, esInt_nil, eInt_eq]; done) | omega))) : A := h hF hC
theorem p_slices_ContainsFunc_int_int_rt {F C A : Prop} (hF : F) (hC : C) (h : F → C → A := by intro hF hC; first | (refine sr_by hF ?_; (repeat' (first | exact trivial | apply And.intro)); all_goals (clear hF; first | rfl | (simp only [hC, List.length_append, List.length_cons, List.length_nil, List.append_nil, List.nil_append, List.cons_append, List.length_set, List.append_assoc, Nat.zero_add, List.length_replicate, esInt_app, esInt_cons, esInt_nil, eInt_eq]; done) | (simp [hC, List.length_append, List.length_cons, List.length_nil, List.append_nil, List.nil_append, List.cons_append, List.length_set, List.append_assoc, Nat.zero_add, List.length_replicate, esInt_app, esInt_cons, esInt_nil, eInt_eq]; done) | omega)) | (first | rfl | (simp only [hC, List.length_append, List.length_cons, List.length_nil, List.append_nil, List.nil_append, List.cons_append, List.length_set, List.append_assoc, Nat.zero_add, List.length_replicate, esInt_app, esInt_cons, esInt_nil, eInt_eq]; done) | (simp [hC, List.length_append, List.length_cons, List.length_nil, List.append_nil, List.nil_append, List.cons_append, List.length_set, List.append_assoc, Nat.zero_add, List.length_replicate, esInt_app, esInt_cons, esInt_nil, eInt_eq]; done) | omega)) : A := h hF hC
def p_slices_ContainsFunc_int_int_tf := PLift.up (And.intro @eInt_eq (And.intro @esInt_len (And.intro @esInt_nil (And.intro @esInt_leaf (And.intro @esInt_fit (And.intro @esInt_share (And.intro @esInt_pure (And.intro @str_beq @trivial))))))))
def p_slices_ContainsFunc_int_int (s_a0 : List Int) (f_a1 : Int → Option Bool) : Option (Bool) := ((p_slices_IndexFunc_int_int s_a0 f_a1).bind fun v1 => some (decide (v1 ≥ 0)))
theorem p_slices_ContainsFunc_int_int_does (s_a0 : List Int) (f1 : FuncId) (caps1 : List AV) (hc1 : AV.noRefs caps1 = true) (he1 : entB Try.prog f1 = true) (f_a1 : Int → Option Bool) (hp1 : ∀ (x0_ : Int) (y_ : Bool), f_a1 x0_ = some y_ → Does Try.prog f1 ([I x0_] ++ caps1) (B y_)) (r : Bool) (h : p_slices_ContainsFunc_int_int s_a0 f_a1 = some r) : Does Try.prog 36 [.row false 1 s_a0.length (esInt s_a0), .fn f1 caps1] (B r) := by
  rw [p_slices_ContainsFunc_int_int] at h
  refine Does.bnd (fun hb => ?_)
  have hb2 : s_a0.length ≤ 9223372036854775807 := by simpa [AV.fitNs, AV.fitN] using hb
  have hl0 := hb2
  refine Does.walk (nt := 9) Try.func36 rfl rfl (by simp) (by decide) (by simp [AV.noRefs, AV.noRef, hc1]) (fun G0 X w0 pv => ?_)
  obtain ⟨v1, ev1, h⟩ := Option.bind_eq_some_iff.1 h
  try dsimp only at h
  have ff := And.intro @hc1 p_slices_ContainsFunc_int_int_tf.down
  try refine st_by ff ?_
  repeat' (first | exact trivial | refine And.intro sd ?_)
  first
  | (refine cq_call (p_slices_IndexFunc_int_int_does s_a0 f1 caps1 hc1 he1 f_a1 hp1 v1 ev1) (hf_by ff) kr ⟨p_slices_ContainsFunc_int_int_sa ff trivial, ?_⟩; clear ff)
  have ff := And.intro @hc1 p_slices_ContainsFunc_int_int_tf.down
  try refine st_by ff ?_
  repeat' (first | exact trivial | refine And.intro sd ?_)
  cases h
  exact ret_q1 rfl (p_slices_ContainsFunc_int_int_rt ff trivial)
/-! impl.isColor -/
theorem p_impl_isColor_pv {F C A : Prop} (hF : F) (hC : C) (h : F → C → A := by intro hF hC; first | exact cl_by hF | (refine st_by hF ?_; (repeat' (first | exact trivial | apply And.intro)); all_goals (clear hF; first | rfl | (simp only [hC, List.length_append, List.length_cons, List.length_nil, List.append_nil, List.nil_append, List.cons_append, List.length_set, List.append_assoc, Nat.zero_add, List.length_replicate]; done) | (simp [hC, List.length_append, List.length_cons, List.length_nil, List.append_nil, List.nil_append, List.cons_append, List.length_set, List.append_assoc, Nat.zero_add, List.length_replicate]; done) | omega))) : A := h hF hC
theorem p_impl_isColor_sa {F C A : Prop} (hF : F) (hC : C) (h : F → C → A := by intro hF hC; first | exact ca_by hF | (refine sa_by hF ?_; (repeat' (first | exact trivial | apply And.intro)); all_goals (clear hF; first | rfl | (simp only [hC, List.length_append, List.length_cons, List.length_nil, List.append_nil, List.nil_append, List.cons_append, List.length_set, List.append_assoc, Nat.zero_add, List.length_replicate]; done) | (simp [hC, List.length_append, List.length_cons, List.length_nil, List.append_nil, List.nil_append, List.cons_append, List.length_set, List.append_assoc, Nat.zero_add, List.length_replicate]; done) | omega))) : A := h hF hC
theorem p_impl_isColor_rt {F C A : Prop} (hF : F) (hC : C) (h : F → C → A := by intro hF hC; first | (refine sr_by hF ?_; (repeat' (first | exact trivial | apply And.intro)); all_goals (clear hF; first | rfl | (simp only [hC, List.length_append, List.length_cons, List.length_nil, List.append_nil, List.nil_append, List.cons_append, List.length_set, List.append_assoc, Nat.zero_add, List.length_replicate]; done) | (simp [hC, List.length_append, List.length_cons, List.length_nil, List.append_nil, List.nil_append, List.cons_append, List.length_set, List.append_assoc, Nat.zero_add, List.length_replicate]; done) | omega)) | (first | rfl | (simp only [hC, List.length_append, List.length_cons, List.length_nil, List.append_nil, List.nil_append, List.cons_append, List.length_set, List.append_assoc, Nat.zero_add, List.length_replicate]; done) | (simp [hC, List.length_append, List.length_cons, List.length_nil, List.append_nil, List.nil_append, List.cons_append, List.length_set, List.append_assoc, Nat.zero_add, List.length_replicate]; done) | omega)) : A := h hF hC
def p_impl_isColor_tf := PLift.up (And.intro @str_beq @trivial)
def p_impl_isColor (n_a0 : Int) : Option (Bool) := some (rng n_a0 0 16777215)
theorem p_impl_isColor_does (n_a0 : Int) (r : Bool) (h : p_impl_isColor n_a0 = some r) : Does Try.prog 24 [I n_a0] (B r) := by
  rw [p_impl_isColor] at h
  refine Does.walk (nt := 5) Try.func24 rfl rfl (by simp) (by decide) rfl (fun G0 X w0 pv => ?_)
  have ff := p_impl_isColor_tf.down
  try refine st_by ff ?_
  repeat' (first | exact trivial | refine And.intro sd ?_)
  first
  | (refine cq_call (inRange_does n_a0 0 16777215) (hf_by ff) kr ⟨p_impl_isColor_sa ff trivial, ?_⟩; clear ff)
  have ff := p_impl_isColor_tf.down
  try refine st_by ff ?_
  repeat' (first | exact trivial | refine And.intro sd ?_)
  cases h
  exact ret_q1 rfl (p_impl_isColor_rt ff trivial)
/-! impl.GoodSheet$1 -/
theorem p_impl_GoodSheet_1_pv {F C A : Prop} (hF : F) (hC : C) (h : F → C → A := by intro hF hC; first | exact cl_by hF | (refine st_by hF ?_; (repeat' (first | exact trivial | apply And.intro)); all_goals (clear hF; first | rfl | (simp only [hC, List.length_append, List.length_cons, List.length_nil, List.append_nil, List.nil_append, List.cons_append, List.length_set, List.append_assoc, Nat.zero_add, List.length_replicate]; done) | (simp [hC, List.length_append, List.length_cons, List.length_nil, List.append_nil, List.nil_append, List.cons_append, List.length_set, List.append_assoc, Nat.zero_add, List.length_replicate]; done) | omega))) : A := h hF hC
theorem p_impl_GoodSheet_1_sa {F C A : Prop} (hF : F) (hC : C) (h : F → C → A := by intro hF hC; first | exact ca_by hF | (refine sa_by hF ?_; (repeat' (first | exact trivial | apply And.intro)); all_goals (clear hF; first | rfl | (simp only [hC, List.length_append, List.length_cons, List.length_nil, List.append_nil, List.nil_append, List.cons_append, List.length_set, List.append_assoc, Nat.zero_add, List.length_replicate]; done) | (simp [hC, List.length_append, List.length_cons, List.length_nil, List.append_nil, List.nil_append, List.cons_append, List.length_set, List.append_assoc, Nat.zero_add, List.length_replicate]; done) | omega))) : A := h hF hC
theorem p_impl_GoodSheet_1_rt {F C A : Prop} (hF : F) (hC : C) (h : F → C → A := by intro hF hC; first | (refine sr_by hF ?_; (repeat' (first | exact trivial | apply And.intro)); all_goals (clear hF; first | rfl | (simp only [hC, List.length_append, List.length_cons, List.length_nil, List.append_nil, List.nil_append, List.cons_append, List.length_set, List.append_assoc, Nat.zero_add, List.length_replicate]; done) | (simp [hC, List.length_append, List.length_cons, List.length_nil, List.append_nil, List.nil_append, List.cons_append, List.length_set, List.append_assoc, Nat.zero_add, List.length_replicate]; done) | omega)) | (first | rfl | (simp only [hC, List.length_append, List.length_cons, List.length_nil, List.append_nil, List.nil_append, List.cons_append, List.length_set, List.append_assoc, Nat.zero_add, List.length_replicate]; done) | (simp [hC, List.length_append, List.length_cons, List.length_nil, List.append_nil, List.nil_append, List.cons_append, List.length_set, List.append_assoc, Nat.zero_add, List.length_replicate]; done) | omega)) : A := h hF hC
def p_impl_GoodSheet_1_tf := PLift.up (And.intro @str_beq @trivial)
def p_impl_GoodSheet_1 (n_a0 : Int) : Option (Bool) := ((p_impl_isColor n_a0).bind fun v1 => some (!v1))
theorem p_impl_GoodSheet_1_does (n_a0 : Int) (r : Bool) (h : p_impl_GoodSheet_1 n_a0 = some r) : Does Try.prog 37 [I n_a0] (B r) := by
  rw [p_impl_GoodSheet_1] at h
  refine Does.walk (nt := 6) Try.func37 rfl rfl (by simp) (by decide) rfl (fun G0 X w0 pv => ?_)
  obtain ⟨v1, ev1, h⟩ := Option.bind_eq_some_iff.1 h
  try dsimp only at h
  have ff := p_impl_GoodSheet_1_tf.down
  try refine st_by ff ?_
  repeat' (first | exact trivial | refine And.intro sd ?_)
  first
  | (refine cq_call (p_impl_isColor_does n_a0 v1 ev1) (hf_by ff) kr ⟨p_impl_GoodSheet_1_sa ff trivial, ?_⟩; clear ff)
  have ff := p_impl_GoodSheet_1_tf.down
  try refine st_by ff ?_
  repeat' (first | exact trivial | refine And.intro sd ?_)
  cases h
  exact ret_q1 rfl (p_impl_GoodSheet_1_rt ff trivial)
/-! impl.GoodSheet -/
theorem p_impl_GoodSheet_pv {F C A : Prop} (hF : F) (hC : C) (h : F → C → A := by intro hF hC; first | exact cl_by hF | (refine st_by hF ?_; (repeat' (first | exact trivial | apply And.intro)); all_goals (clear hF; first | rfl | (simp only [hC, List.length_append, List.length_cons, List.length_nil, List.append_nil, List.nil_append, List.cons_append, List.length_set, List.append_assoc, Nat.zero_add, List.length_replicate, esInt_app, esInt_cons, esInt_nil, eInt_eq, esSheet_app, esSheet_cons, esSheet_nil, eSheet_eq, esSheeto_app, esSheeto_cons, esSheeto_nil, eSheeto_eq]; done) | (simp [hC, List.length_append, List.length_cons, List.length_nil, List.append_nil, List.nil_append, List.cons_append, List.length_set, List.append_assoc, Nat.zero_add, List.length_replicate, esInt_app, esInt_cons, esInt_nil, eInt_eq, esSheet_app, esSheet_cons, esSheet_nil, eSheet_eq, esSheeto_app, esSheeto_cons, esSheeto_nil, eSheeto_eq]; done) | omega))) : A := h hF hC
theorem p_impl_GoodSheet_sa {F C A : Prop} (hF : F) (hC : C) (h : F → C → A := by intro hF hC; first | exact ca_by hF | (refine sa_by hF ?_; (repeat' (first | exact trivial | apply And.intro)); all_goals (clear hF; first | rfl | (simp only [hC, List.length_append, List.length_cons, List.length_nil, List.append_nil, List.nil_append, List.cons_append, List.length_set, List.append_assoc, Nat.zero_add, List.length_replicate, esInt_app, esInt_cons, esInt_nil, eInt_eq, esSheet_app, esSheet_cons, esSheet_nil, eSheet_eq, esSheeto_app, esSheeto_cons, esSheeto_nil, eSheeto_eq]; done) | (simp [hC, List.length_append, List.length_cons, List.length_nil, List.append_nil, List.nil_append, List.cons_append, List.length_set, List.append_assoc, Nat.zero_add, List.length_replicate, esInt_app, esInt_cons, esInt_nil, eInt_eq, esSheet_app, esSheet_cons, esSheet_nil, eSheet_eq, esSheeto_app, esSheeto_cons, esSheeto_nil, eSheeto_eq]; done) | omega))) : A := h hF hC
theorem p_impl_GoodSheet_rt {F C A : Prop} (hF : F) (hC : C) (h : F → C → A := by intro hF hC; first | (refine sr_by hF ?_; (repeat' (first | exact trivial | apply And.intro)); all_goals (clear hF; first | rfl | (simp only [hC, List.length_append, List.length_cons, List.length_nil, List.append_nil, List.nil_append, List.cons_append, List.length_set, List.append_assoc, Nat.zero_add, List.length_replicate, esInt_app, esInt_cons, esInt_nil, eInt_eq, esSheet_app, esSheet_cons, esSheet_nil, eSheet_eq, esSheeto_app, esSheeto_cons, esSheeto_nil, eSheeto_eq]; done) | (simp [hC, List.length_append, List.length_cons, List.length_nil, List.append_nil, List.nil_append, List.cons_append, List.length_set, List.append_assoc, Nat.zero_add, List.length_replicate, esInt_app, esInt_cons, esInt_nil, eInt_eq, esSheet_app, esSheet_cons, esSheet_nil, eSheet_eq, esSheeto_app, esSheeto_cons, esSheeto_nil, eSheeto_eq]; done) | omega)) | (first | rfl | (simp only [hC, List.length_append, List.length_cons, List.length_nil, List.append_nil, List.nil_append, List.cons_append, List.length_set, List.append_assoc, Nat.zero_add, List.length_replicate, esInt_app, esInt_cons, esInt_nil, eInt_eq, esSheet_app, esSheet_cons, esSheet_nil, eSheet_eq, esSheeto_app, esSheeto_cons, esSheeto_nil, eSheeto_eq]; done) | (simp [hC, List.length_append, List.length_cons, List.length_nil, List.append_nil, List.nil_append, List.cons_append, List.length_set, List.append_assoc, Nat.zero_add, List.length_replicate, esInt_app, esInt_cons, esInt_nil, eInt_eq, esSheet_app, esSheet_cons, esSheet_nil, eSheet_eq, esSheeto_app, esSheeto_cons, esSheeto_nil, eSheeto_eq]; done) | omega)) : A := h hF hC
def p_impl_GoodSheet_tf := PLift.up (And.intro @eInt_eq (And.intro @esInt_len (And.intro @esInt_nil (And.intro @esInt_leaf (And.intro @esInt_fit (And.intro @eSheet_eq (And.intro @esSheet_len (And.intro @esSheet_nil (And.intro @esSheet_leaf (And.intro @esSheet_fit (And.intro @eSheeto_eq (And.intro @esSheeto_len (And.intro @esSheeto_nil (And.intro @esInt_share (And.intro @esInt_pure (And.intro @esSheeto_share (And.intro @esSheeto_pure (And.intro @str_beq (And.intro @Ty.nz3 (And.intro @Ty.ldA3 (And.intro @Ty.ldS3 (And.intro @Ty.sz3 (And.intro @Ty.szn3 (And.intro @Ty.nz22 (And.intro @Ty.ldA22 (And.intro @Ty.ldS22 (And.intro @Ty.sz22 (And.intro @Ty.szn22 (And.intro @Ty.fo28_0 (And.intro @Ty.fk28_0 (And.intro @Ty.fs28_0 (And.intro @Ty.fn28_0 (And.intro @Ty.fo28_1 (And.intro @Ty.fk28_1 (And.intro @Ty.fs28_1 (And.intro @Ty.fn28_1 (And.intro @Ty.fo28_2 (And.intro @Ty.fk28_2 (And.intro @Ty.fs28_2 (And.intro @Ty.fn28_2 (And.intro @Ty.sl22 @trivial)))))))))))))))))))))))))))))))))))))))))
def p_impl_GoodSheet (s_a0 : GSheet) : Option (Bool) := (if (rng s_a0.Wide 1 24) = true then (if (rng s_a0.High 1 24) = true then (if (s_a0.Pixels.length : Int) = (IntKind.i64.wrap (s_a0.Wide * s_a0.High)) then ((p_slices_ContainsFunc_int_int s_a0.Pixels (fun x0_ => p_impl_GoodSheet_1 x0_)).bind fun v4 => some (!v4)) else some false) else some false) else some false)
theorem p_impl_GoodSheet_does (s_a0 : GSheet) (r : Bool) (h : p_impl_GoodSheet s_a0 = some r) : Does Try.prog 22 [.agg (eSheet s_a0)] (B r) := by
  rw [p_impl_GoodSheet] at h
  refine Does.bnd (fun hb => ?_)
  have hb2 : s_a0.Pixels.length ≤ 9223372036854775807 := by simpa [AV.fitNs, AV.fitN, eSheet] using hb
  have hl0 := hb2
  refine Does.walk (nt := 28) Try.func22 rfl rfl (by simp) (by decide) rfl (fun G0 X w0 pv => ?_)
  have ff := p_impl_GoodSheet_tf.down
  try refine st_by ff ?_
  repeat' (first | exact trivial | refine And.intro sd ?_)
  first
  | (refine cq_call (inRange_does s_a0.Wide 1 24) (hf_by ff) kr ⟨p_impl_GoodSheet_sa ff trivial, ?_⟩; clear ff)
  by_cases c1 : (rng s_a0.Wide 1 24) = true
  case neg =>
   rw [if_neg c1] at h
   have dc1 := eq_false_of_ne_true c1
   have ff := And.intro @dc1 p_impl_GoodSheet_tf.down
   try refine st_by ff ?_
   repeat' (first | exact trivial | refine And.intro sd ?_)
   cases h
   exact ret_q1 rfl (p_impl_GoodSheet_rt ff trivial)
  rw [if_pos c1] at h
  have dc1 := c1
  have ff := And.intro @dc1 p_impl_GoodSheet_tf.down
  try refine st_by ff ?_
  repeat' (first | exact trivial | refine And.intro sd ?_)
  first
  | (refine cq_call (inRange_does s_a0.High 1 24) (hf_by ff) kr ⟨p_impl_GoodSheet_sa ff trivial, ?_⟩; clear ff)
  by_cases c2 : (rng s_a0.High 1 24) = true
  case neg =>
   rw [if_neg c2] at h
   have dc2 := eq_false_of_ne_true c2
   have ff := And.intro @dc1 (And.intro @dc2 p_impl_GoodSheet_tf.down)
   try refine st_by ff ?_
   repeat' (first | exact trivial | refine And.intro sd ?_)
   cases h
   exact ret_q1 rfl (p_impl_GoodSheet_rt ff trivial)
  rw [if_pos c2] at h
  have dc2 := c2
  by_cases c3 : (s_a0.Pixels.length : Int) = (IntKind.i64.wrap (s_a0.Wide * s_a0.High))
  case neg =>
   rw [if_neg c3] at h
   have dc3 := beq_no c3
   have ff := And.intro @dc1 (And.intro @dc2 (And.intro @dc3 p_impl_GoodSheet_tf.down))
   try refine st_by ff ?_
   repeat' (first | exact trivial | refine And.intro sd ?_)
   cases h
   exact ret_q1 rfl (p_impl_GoodSheet_rt ff trivial)
  rw [if_pos c3] at h
  have dc3 := beq_yes c3
  obtain ⟨v4, ev4, h⟩ := Option.bind_eq_some_iff.1 h
  try dsimp only at h
  have ff := And.intro @dc1 (And.intro @dc2 (And.intro @dc3 p_impl_GoodSheet_tf.down))
  try refine st_by ff ?_
  repeat' (first | exact trivial | refine And.intro sd ?_)
  first
  | (refine cq_call (p_slices_ContainsFunc_int_int_does s_a0.Pixels 37 [] (by simp [AV.noRefs, AV.noRef]) kr (fun x0_ => p_impl_GoodSheet_1 x0_) (fun x0_ y_ h_ => p_impl_GoodSheet_1_does x0_ y_ h_) v4 ev4) (hf_by ff) kr ⟨p_impl_GoodSheet_sa ff trivial, ?_⟩; clear ff)
  have ff := And.intro @dc1 (And.intro @dc2 (And.intro @dc3 p_impl_GoodSheet_tf.down))
  try refine st_by ff ?_
  repeat' (first | exact trivial | refine And.intro sd ?_)
  cases h
  exact ret_q1 rfl (p_impl_GoodSheet_rt ff trivial)
/-! impl.isRoom -/
theorem p_impl_isRoom_pv {F C A : Prop} (hF : F) (hC : C) (h : F → C → A := by intro hF hC; first | exact cl_by hF | (refine st_by hF ?_; (repeat' (first | exact trivial | apply And.intro)); all_goals (clear hF; first | rfl | (simp only [hC, List.length_append, List.length_cons, List.length_nil, List.append_nil, List.nil_append, List.cons_append, List.length_set, List.append_assoc, Nat.zero_add, List.length_replicate]; done) | (simp [hC, List.length_append, List.length_cons, List.length_nil, List.append_nil, List.nil_append, List.cons_append, List.length_set, List.append_assoc, Nat.zero_add, List.length_replicate]; done) | omega))) : A := h hF hC
theorem p_impl_isRoom_sa {F C A : Prop} (hF : F) (hC : C) (h : F → C → A := by intro hF hC; first | exact ca_by hF | (refine sa_by hF ?_; (repeat' (first | exact trivial | apply And.intro)); all_goals (clear hF; first | rfl | (simp only [hC, List.length_append, List.length_cons, List.length_nil, List.append_nil, List.nil_append, List.cons_append, List.length_set, List.append_assoc, Nat.zero_add, List.length_replicate]; done) | (simp [hC, List.length_append, List.length_cons, List.length_nil, List.append_nil, List.nil_append, List.cons_append, List.length_set, List.append_assoc, Nat.zero_add, List.length_replicate]; done) | omega))) : A := h hF hC
theorem p_impl_isRoom_rt {F C A : Prop} (hF : F) (hC : C) (h : F → C → A := by intro hF hC; first | (refine sr_by hF ?_; (repeat' (first | exact trivial | apply And.intro)); all_goals (clear hF; first | rfl | (simp only [hC, List.length_append, List.length_cons, List.length_nil, List.append_nil, List.nil_append, List.cons_append, List.length_set, List.append_assoc, Nat.zero_add, List.length_replicate]; done) | (simp [hC, List.length_append, List.length_cons, List.length_nil, List.append_nil, List.nil_append, List.cons_append, List.length_set, List.append_assoc, Nat.zero_add, List.length_replicate]; done) | omega)) | (first | rfl | (simp only [hC, List.length_append, List.length_cons, List.length_nil, List.append_nil, List.nil_append, List.cons_append, List.length_set, List.append_assoc, Nat.zero_add, List.length_replicate]; done) | (simp [hC, List.length_append, List.length_cons, List.length_nil, List.append_nil, List.nil_append, List.cons_append, List.length_set, List.append_assoc, Nat.zero_add, List.length_replicate]; done) | omega)) : A := h hF hC
def p_impl_isRoom_tf := PLift.up (And.intro @str_beq @trivial)
def p_impl_isRoom (n_a0 : Int) : Option (Bool) := some (rng n_a0 (-10000) 10000)
theorem p_impl_isRoom_does (n_a0 : Int) (r : Bool) (h : p_impl_isRoom n_a0 = some r) : Does Try.prog 32 [I n_a0] (B r) := by
  rw [p_impl_isRoom] at h
  refine Does.walk (nt := 5) Try.func32 rfl rfl (by simp) (by decide) rfl (fun G0 X w0 pv => ?_)
  have ff := p_impl_isRoom_tf.down
  try refine st_by ff ?_
  repeat' (first | exact trivial | refine And.intro sd ?_)
  first
  | (refine cq_call (inRange_does n_a0 (-10000) 10000) (hf_by ff) kr ⟨p_impl_isRoom_sa ff trivial, ?_⟩; clear ff)
  have ff := p_impl_isRoom_tf.down
  try refine st_by ff ?_
  repeat' (first | exact trivial | refine And.intro sd ?_)
  cases h
  exact ret_q1 rfl (p_impl_isRoom_rt ff trivial)
/-! impl.isBox -/
theorem p_impl_isBox_pv {F C A : Prop} (hF : F) (hC : C) (h : F → C → A := by intro hF hC; first | exact cl_by hF | (refine st_by hF ?_; (repeat' (first | exact trivial | apply And.intro)); all_goals (clear hF; first | rfl | (simp only [hC, List.length_append, List.length_cons, List.length_nil, List.append_nil, List.nil_append, List.cons_append, List.length_set, List.append_assoc, Nat.zero_add, List.length_replicate, esPlaced_app, esPlaced_cons, esPlaced_nil, ePlaced_eq]; done) | (simp [hC, List.length_append, List.length_cons, List.length_nil, List.append_nil, List.nil_append, List.cons_append, List.length_set, List.append_assoc, Nat.zero_add, List.length_replicate, esPlaced_app, esPlaced_cons, esPlaced_nil, ePlaced_eq]; done) | omega))) : A := h hF hC
theorem p_impl_isBox_sa {F C A : Prop} (hF : F) (hC : C) (h : F → C → A := by intro hF hC; first | exact ca_by hF | (refine sa_by hF ?_; (repeat' (first | exact trivial | apply And.intro)); all_goals (clear hF; first | rfl | (simp only [hC, List.length_append, List.length_cons, List.length_nil, List.append_nil, List.nil_append, List.cons_append, List.length_set, List.append_assoc, Nat.zero_add, List.length_replicate, esPlaced_app, esPlaced_cons, esPlaced_nil, ePlaced_eq]; done) | (simp [hC, List.length_append, List.length_cons, List.length_nil, List.append_nil, List.nil_append, List.cons_append, List.length_set, List.append_assoc, Nat.zero_add, List.length_replicate, esPlaced_app, esPlaced_cons, esPlaced_nil, ePlaced_eq]; done) | omega))) : A := h hF hC
theorem p_impl_isBox_rt {F C A : Prop} (hF : F) (hC : C) (h : F → C → A := by intro hF hC; first | (refine sr_by hF ?_; (repeat' (first | exact trivial | apply And.intro)); all_goals (clear hF; first | rfl | (simp only [hC, List.length_append, List.length_cons, List.length_nil, List.append_nil, List.nil_append, List.cons_append, List.length_set, List.append_assoc, Nat.zero_add, List.length_replicate, esPlaced_app, esPlaced_cons, esPlaced_nil, ePlaced_eq]; done) | (simp [hC, List.length_append, List.length_cons, List.length_nil, List.append_nil, List.nil_append, List.cons_append, List.length_set, List.append_assoc, Nat.zero_add, List.length_replicate, esPlaced_app, esPlaced_cons, esPlaced_nil, ePlaced_eq]; done) | omega)) | (first | rfl | (simp only [hC, List.length_append, List.length_cons, List.length_nil, List.append_nil, List.nil_append, List.cons_append, List.length_set, List.append_assoc, Nat.zero_add, List.length_replicate, esPlaced_app, esPlaced_cons, esPlaced_nil, ePlaced_eq]; done) | (simp [hC, List.length_append, List.length_cons, List.length_nil, List.append_nil, List.nil_append, List.cons_append, List.length_set, List.append_assoc, Nat.zero_add, List.length_replicate, esPlaced_app, esPlaced_cons, esPlaced_nil, ePlaced_eq]; done) | omega)) : A := h hF hC
def p_impl_isBox_tf := PLift.up (And.intro @ePlaced_eq (And.intro @esPlaced_len (And.intro @esPlaced_nil (And.intro @esPlaced_leaf (And.intro @esPlaced_fit (And.intro @esPlaced_share (And.intro @esPlaced_pure (And.intro @str_beq (And.intro @Ty.nz3 (And.intro @Ty.ldA3 (And.intro @Ty.ldS3 (And.intro @Ty.sz3 (And.intro @Ty.szn3 (And.intro @Ty.fo32_0 (And.intro @Ty.fk32_0 (And.intro @Ty.fs32_0 (And.intro @Ty.fn32_0 (And.intro @Ty.fo32_1 (And.intro @Ty.fk32_1 (And.intro @Ty.fs32_1 (And.intro @Ty.fn32_1 (And.intro @Ty.fo32_2 (And.intro @Ty.fk32_2 (And.intro @Ty.fs32_2 (And.intro @Ty.fn32_2 (And.intro @Ty.fo32_3 (And.intro @Ty.fk32_3 (And.intro @Ty.fs32_3 (And.intro @Ty.fn32_3 @trivial)))))))))))))))))))))))))))))
def p_impl_isBox (b_a0 : GPlaced) : Option (Bool) := ((p_impl_isRoom b_a0.X).bind fun v1 => (if v1 = true then ((p_impl_isRoom b_a0.Y).bind fun v3 => (if v3 = true then (if (rng b_a0.W 0 10000) = true then some (rng b_a0.H 0 10000) else some false) else some false)) else some false))
theorem p_impl_isBox_does (b_a0 : GPlaced) (r : Bool) (h : p_impl_isBox b_a0 = some r) : Does Try.prog 23 [.agg (ePlaced b_a0)] (B r) := by
  rw [p_impl_isBox] at h
  refine Does.walk (nt := 21) Try.func23 rfl rfl (by simp) (by decide) rfl (fun G0 X w0 pv => ?_)
  obtain ⟨v1, ev1, h⟩ := Option.bind_eq_some_iff.1 h
  try dsimp only at h
  have ff := p_impl_isBox_tf.down
  try refine st_by ff ?_
  repeat' (first | exact trivial | refine And.intro sd ?_)
  first
  | (refine cq_call (p_impl_isRoom_does b_a0.X v1 ev1) (hf_by ff) kr ⟨p_impl_isBox_sa ff trivial, ?_⟩; clear ff)
  by_cases c2 : v1 = true
  case neg =>
   rw [if_neg c2] at h
   have dc2 := eq_false_of_ne_true c2
   have ff := And.intro @dc2 p_impl_isBox_tf.down
   try refine st_by ff ?_
   repeat' (first | exact trivial | refine And.intro sd ?_)
   cases h
   exact ret_q1 rfl (p_impl_isBox_rt ff trivial)
  rw [if_pos c2] at h
  have dc2 := c2
  obtain ⟨v3, ev3, h⟩ := Option.bind_eq_some_iff.1 h
  try dsimp only at h
  have ff := And.intro @dc2 p_impl_isBox_tf.down
  try refine st_by ff ?_
  repeat' (first | exact trivial | refine And.intro sd ?_)
  first
  | (refine cq_call (p_impl_isRoom_does b_a0.Y v3 ev3) (hf_by ff) kr ⟨p_impl_isBox_sa ff trivial, ?_⟩; clear ff)
  by_cases c4 : v3 = true
  case neg =>
   rw [if_neg c4] at h
   have dc4 := eq_false_of_ne_true c4
   have ff := And.intro @dc2 (And.intro @dc4 p_impl_isBox_tf.down)
   try refine st_by ff ?_
   repeat' (first | exact trivial | refine And.intro sd ?_)
   cases h
   exact ret_q1 rfl (p_impl_isBox_rt ff trivial)
  rw [if_pos c4] at h
  have dc4 := c4
  have ff := And.intro @dc2 (And.intro @dc4 p_impl_isBox_tf.down)
  try refine st_by ff ?_
  repeat' (first | exact trivial | refine And.intro sd ?_)
  first
  | (refine cq_call (inRange_does b_a0.W 0 10000) (hf_by ff) kr ⟨p_impl_isBox_sa ff trivial, ?_⟩; clear ff)
  by_cases c5 : (rng b_a0.W 0 10000) = true
  case neg =>
   rw [if_neg c5] at h
   have dc5 := eq_false_of_ne_true c5
   have ff := And.intro @dc2 (And.intro @dc4 (And.intro @dc5 p_impl_isBox_tf.down))
   try refine st_by ff ?_
   repeat' (first | exact trivial | refine And.intro sd ?_)
   cases h
   exact ret_q1 rfl (p_impl_isBox_rt ff trivial)
  rw [if_pos c5] at h
  have dc5 := c5
  have ff := And.intro @dc2 (And.intro @dc4 (And.intro @dc5 p_impl_isBox_tf.down))
  try refine st_by ff ?_
  repeat' (first | exact trivial | refine And.intro sd ?_)
  first
  | (refine cq_call (inRange_does b_a0.H 0 10000) (hf_by ff) kr ⟨p_impl_isBox_sa ff trivial, ?_⟩; clear ff)
  have ff := And.intro @dc2 (And.intro @dc4 (And.intro @dc5 p_impl_isBox_tf.down))
  try refine st_by ff ?_
  repeat' (first | exact trivial | refine And.intro sd ?_)
  cases h
  exact ret_q1 rfl (p_impl_isBox_rt ff trivial)
/-! slices.Clone[[]int,int] -/
theorem p_slices_Clone_int_int_rt {F C A : Prop} (hF : F) (hC : C) (h : F → C → A := by intro hF hC; first | (refine sr_by hF ?_; (repeat' (first | exact trivial | apply And.intro)); all_goals (clear hF; first | rfl | (simp only [hC, List.length_append, List.length_cons, List.length_nil, List.append_nil, List.nil_append, List.cons_append, List.length_set, List.append_assoc, Nat.zero_add, List.length_replicate, esInt_app, esInt_cons, esInt_nil, eInt_eq]; done) | (simp [hC, List.length_append, List.length_cons, List.length_nil, List.append_nil, List.nil_append, List.cons_append, List.length_set, List.append_assoc, Nat.zero_add, List.length_replicate, esInt_app, esInt_cons, esInt_nil, eInt_eq]; done) | omega)) | (first | rfl | (simp only [hC, List.length_append, List.length_cons, List.length_nil, List.append_nil, List.nil_append, List.cons_append, List.length_set, List.append_assoc, Nat.zero_add, List.length_replicate, esInt_app, esInt_cons, esInt_nil, eInt_eq]; done) | (simp [hC, List.length_append, List.length_cons, List.length_nil, List.append_nil, List.nil_append, List.cons_append, List.length_set, List.append_assoc, Nat.zero_add, List.length_replicate, esInt_app, esInt_cons, esInt_nil, eInt_eq]; done) | omega)) : A := h hF hC
def p_slices_Clone_int_int_tf := PLift.up (And.intro @eInt_eq (And.intro @esInt_len (And.intro @esInt_nil (And.intro @esInt_leaf (And.intro @esInt_fit (And.intro @esInt_share (And.intro @esInt_pure (And.intro @Ty.nze22 (And.intro @Ty.sl22 (And.intro @Ty.slz22 (And.intro @Ty.zok22 (And.intro @Ty.by22 (And.intro @Ty.zs22 @trivial)))))))))))))
def p_slices_Clone_int_int (l : List Int) : Option (List Int) := if l.length < 4294967296 then some l else none
theorem p_slices_Clone_int_int_does (l : List Int) (r : List Int) (h : p_slices_Clone_int_int l = some r) : Does Try.prog 38 [.row false 1 l.length (esInt l)] (.row true 1 r.length (esInt r)) := by
  rw [p_slices_Clone_int_int] at h
  by_cases c : l.length < 4294967296
  case neg => rw [if_neg c] at h; cases h
  rw [if_pos c] at h
  cases h
  refine Does.walk (nt := 8) Try.func38 rfl rfl (by simp) (by decide) rfl (fun G0 X w0 pv => ?_)
  refine st_by p_slices_Clone_int_int_tf.down ?_
  refine fun b hb => ?_
  cases b
  · have ff := p_slices_Clone_int_int_tf.down
    try refine st_by ff ?_
    repeat' (first | exact trivial | refine And.intro sd ?_)
    clear ff
    exact ret_q1 rfl (p_slices_Clone_int_int_rt p_slices_Clone_int_int_tf.down trivial)
  · have h0 : l = [] := List.eq_nil_of_length_eq_zero (by rcases Nat.eq_zero_or_pos l.length with h | h; exact h; exact absurd (hb h) (by decide))
    subst h0
    have ff := p_slices_Clone_int_int_tf.down
    try refine st_by ff ?_
    repeat' (first | exact trivial | refine And.intro sd ?_)
    clear ff
    exact ret_q1 rfl (p_slices_Clone_int_int_rt p_slices_Clone_int_int_tf.down trivial)
/-! (impl.Sheet).clone -/
theorem p_impl_Sheet_clone_pv {F C A : Prop} (hF : F) (hC : C) (h : F → C → A := by intro hF hC; first | exact cl_by hF | (refine st_by hF ?_; (repeat' (first | exact trivial | apply And.intro)); all_goals (clear hF; first | rfl | (simp only [hC, List.length_append, List.length_cons, List.length_nil, List.append_nil, List.nil_append, List.cons_append, List.length_set, List.append_assoc, Nat.zero_add, List.length_replicate, esInt_app, esInt_cons, esInt_nil, eInt_eq, esSheet_app, esSheet_cons, esSheet_nil, eSheet_eq, esSheeto_app, esSheeto_cons, esSheeto_nil, eSheeto_eq]; done) | (simp [hC, List.length_append, List.length_cons, List.length_nil, List.append_nil, List.nil_append, List.cons_append, List.length_set, List.append_assoc, Nat.zero_add, List.length_replicate, esInt_app, esInt_cons, esInt_nil, eInt_eq, esSheet_app, esSheet_cons, esSheet_nil, eSheet_eq, esSheeto_app, esSheeto_cons, esSheeto_nil, eSheeto_eq]; done) | omega))) : A := h hF hC
theorem p_impl_Sheet_clone_sa {F C A : Prop} (hF : F) (hC : C) (h : F → C → A := by intro hF hC; first | exact ca_by hF | (refine sa_by hF ?_; (repeat' (first | exact trivial | apply And.intro)); all_goals (clear hF; first | rfl | (simp only [hC, List.length_append, List.length_cons, List.length_nil, List.append_nil, List.nil_append, List.cons_append, List.length_set, List.append_assoc, Nat.zero_add, List.length_replicate, esInt_app, esInt_cons, esInt_nil, eInt_eq, esSheet_app, esSheet_cons, esSheet_nil, eSheet_eq, esSheeto_app, esSheeto_cons, esSheeto_nil, eSheeto_eq]; done) | (simp [hC, List.length_append, List.length_cons, List.length_nil, List.append_nil, List.nil_append, List.cons_append, List.length_set, List.append_assoc, Nat.zero_add, List.length_replicate, esInt_app, esInt_cons, esInt_nil, eInt_eq, esSheet_app, esSheet_cons, esSheet_nil, eSheet_eq, esSheeto_app, esSheeto_cons, esSheeto_nil, eSheeto_eq]; done) | omega))) : A := h hF hC
theorem p_impl_Sheet_clone_rt {F C A : Prop} (hF : F) (hC : C) (h : F → C → A := by intro hF hC; first | (refine sr_by hF ?_; (repeat' (first | exact trivial | apply And.intro)); all_goals (clear hF; first | rfl | (simp only [hC, List.length_append, List.length_cons, List.length_nil, List.append_nil, List.nil_append, List.cons_append, List.length_set, List.append_assoc, Nat.zero_add, List.length_replicate, esInt_app, esInt_cons, esInt_nil, eInt_eq, esSheet_app, esSheet_cons, esSheet_nil, eSheet_eq, esSheeto_app, esSheeto_cons, esSheeto_nil, eSheeto_eq]; done) | (simp [hC, List.length_append, List.length_cons, List.length_nil, List.append_nil, List.nil_append, List.cons_append, List.length_set, List.append_assoc, Nat.zero_add, List.length_replicate, esInt_app, esInt_cons, esInt_nil, eInt_eq, esSheet_app, esSheet_cons, esSheet_nil, eSheet_eq, esSheeto_app, esSheeto_cons, esSheeto_nil, eSheeto_eq]; done) | omega)) | (first | rfl | (simp only [hC, List.length_append, List.length_cons, List.length_nil, List.append_nil, List.nil_append, List.cons_append, List.length_set, List.append_assoc, Nat.zero_add, List.length_replicate, esInt_app, esInt_cons, esInt_nil, eInt_eq, esSheet_app, esSheet_cons, esSheet_nil, eSheet_eq, esSheeto_app, esSheeto_cons, esSheeto_nil, eSheeto_eq]; done) | (simp [hC, List.length_append, List.length_cons, List.length_nil, List.append_nil, List.nil_append, List.cons_append, List.length_set, List.append_assoc, Nat.zero_add, List.length_replicate, esInt_app, esInt_cons, esInt_nil, eInt_eq, esSheet_app, esSheet_cons, esSheet_nil, eSheet_eq, esSheeto_app, esSheeto_cons, esSheeto_nil, eSheeto_eq]; done) | omega)) : A := h hF hC
def p_impl_Sheet_clone_tf := PLift.up (And.intro @eInt_eq (And.intro @esInt_len (And.intro @esInt_nil (And.intro @esInt_leaf (And.intro @esInt_fit (And.intro @eSheet_eq (And.intro @esSheet_len (And.intro @esSheet_nil (And.intro @esSheet_leaf (And.intro @esSheet_fit (And.intro @eSheeto_eq (And.intro @esSheeto_len (And.intro @esSheeto_nil (And.intro @esInt_share (And.intro @esInt_pure (And.intro @esSheeto_share (And.intro @esSheeto_pure (And.intro @str_beq (And.intro @Ty.nz3 (And.intro @Ty.ldA3 (And.intro @Ty.ldS3 (And.intro @Ty.sz3 (And.intro @Ty.szn3 (And.intro @Ty.nz22 (And.intro @Ty.ldA22 (And.intro @Ty.ldS22 (And.intro @Ty.sz22 (And.intro @Ty.szn22 (And.intro @Ty.nz28 (And.intro @Ty.ldA28 (And.intro @Ty.sz28 (And.intro @Ty.szn28 (And.intro @Ty.fo28_0 (And.intro @Ty.fk28_0 (And.intro @Ty.fs28_0 (And.intro @Ty.fn28_0 (And.intro @Ty.fo28_1 (And.intro @Ty.fk28_1 (And.intro @Ty.fs28_1 (And.intro @Ty.fn28_1 (And.intro @Ty.fo28_2 (And.intro @Ty.fk28_2 (And.intro @Ty.fs28_2 (And.intro @Ty.fn28_2 (And.intro @Ty.zv28 (And.intro @Ty.bd28 (And.intro @Ty.pl28_0 (And.intro @Ty.pl28_1 (And.intro @Ty.pl28_2 (And.intro @Ty.ag28 @trivial))))))))))))))))))))))))))))))))))))))))))))))))))
def p_impl_Sheet_clone (s_a0 : GSheet) : Option (GSheet) := ((p_slices_Clone_int_int s_a0.Pixels).bind fun v1 => some (⟨s_a0.Wide, s_a0.High, v1⟩ : GSheet))
theorem p_impl_Sheet_clone_does (s_a0 : GSheet) (r : GSheet) (h : p_impl_Sheet_clone s_a0 = some r) : Does Try.prog 25 [.agg (eSheet s_a0)] (.agg (eSheeto r)) := by
  rw [p_impl_Sheet_clone] at h
  refine Does.bnd (fun hb => ?_)
  have hb2 : s_a0.Pixels.length ≤ 9223372036854775807 := by simpa [AV.fitNs, AV.fitN, eSheet] using hb
  have hl0 := hb2
  refine Does.walk (nt := 11) Try.func25 rfl rfl (by simp) (by decide) rfl (fun G0 X w0 pv => ?_)
  obtain ⟨v1, ev1, h⟩ := Option.bind_eq_some_iff.1 h
  try dsimp only at h
  have ff := p_impl_Sheet_clone_tf.down
  try refine st_by ff ?_
  repeat' (first | exact trivial | refine And.intro sd ?_ | (refine aw_drawn (id := 1) ?_ [[], [0], [], [2], [], [4], [4, 5], [0, 1, 2, 3, 4, 5, 6], [0, 1, 2, 3, 4, 5, 6, 7]] 7 ?_ ?_; (· kernel_rfl); (· kernel_rfl); refine st_by ff ?_))
  first
  | (refine cq_own (p_slices_Clone_int_int_does s_a0.Pixels v1 ev1) (hf_by ff) kr ⟨p_impl_Sheet_clone_sa ff trivial, ?_⟩; clear ff)
  | (refine cq_down (p_slices_Clone_int_int_does s_a0.Pixels v1 ev1) (hf_by ff) kr ⟨p_impl_Sheet_clone_sa ff trivial, ?_⟩; clear ff)
  have ff := p_impl_Sheet_clone_tf.down
  try refine st_by ff ?_
  repeat' (first | exact trivial | refine And.intro sd ?_)
  cases h
  exact ret_q1 rfl (p_impl_Sheet_clone_rt ff trivial)
/-! (impl.Sheet).paint -/
def p_impl_Sheet_paint_j0 (s_a0 : GSheet) (x_a1 : Int) (y_a2 : Int) (color_a3 : Int) (b_1 : Bool) : Option (List Int) := (if b_1 = true then ((idx s_a0.Pixels (IntKind.i64.wrap ((IntKind.i64.wrap (y_a2 * s_a0.Wide)) + x_a1))).bind fun x3 => some (s_a0.Pixels.set ((IntKind.i64.wrap ((IntKind.i64.wrap (y_a2 * s_a0.Wide)) + x_a1)).toNat) color_a3)) else some s_a0.Pixels)
theorem p_impl_Sheet_paint_pv {F C A : Prop} (hF : F) (hC : C) (h : F → C → A := by intro hF hC; first | exact cl_by hF | (refine st_by hF ?_; (repeat' (first | exact trivial | apply And.intro)); all_goals (clear hF; first | rfl | (simp only [hC, List.length_append, List.length_cons, List.length_nil, List.append_nil, List.nil_append, List.cons_append, List.length_set, List.append_assoc, Nat.zero_add, List.length_replicate, esInt_app, esInt_cons, esInt_nil, eInt_eq, esSheet_app, esSheet_cons, esSheet_nil, eSheet_eq, esSheeto_app, esSheeto_cons, esSheeto_nil, eSheeto_eq]; done) | (simp [hC, List.length_append, List.length_cons, List.length_nil, List.append_nil, List.nil_append, List.cons_append, List.length_set, List.append_assoc, Nat.zero_add, List.length_replicate, esInt_app, esInt_cons, esInt_nil, eInt_eq, esSheet_app, esSheet_cons, esSheet_nil, eSheet_eq, esSheeto_app, esSheeto_cons, esSheeto_nil, eSheeto_eq]; done) | omega))) : A := h hF hC
theorem p_impl_Sheet_paint_sa {F C A : Prop} (hF : F) (hC : C) (h : F → C → A := by intro hF hC; first | exact ca_by hF | (refine sa_by hF ?_; (repeat' (first | exact trivial | apply And.intro)); all_goals (clear hF; first | rfl | (simp only [hC, List.length_append, List.length_cons, List.length_nil, List.append_nil, List.nil_append, List.cons_append, List.length_set, List.append_assoc, Nat.zero_add, List.length_replicate, esInt_app, esInt_cons, esInt_nil, eInt_eq, esSheet_app, esSheet_cons, esSheet_nil, eSheet_eq, esSheeto_app, esSheeto_cons, esSheeto_nil, eSheeto_eq]; done) | (simp [hC, List.length_append, List.length_cons, List.length_nil, List.append_nil, List.nil_append, List.cons_append, List.length_set, List.append_assoc, Nat.zero_add, List.length_replicate, esInt_app, esInt_cons, esInt_nil, eInt_eq, esSheet_app, esSheet_cons, esSheet_nil, eSheet_eq, esSheeto_app, esSheeto_cons, esSheeto_nil, eSheeto_eq]; done) | omega))) : A := h hF hC
theorem p_impl_Sheet_paint_rt {F C A : Prop} (hF : F) (hC : C) (h : F → C → A := by intro hF hC; first | (refine sr_by hF ?_; (repeat' (first | exact trivial | apply And.intro)); all_goals (clear hF; first | rfl | (simp only [hC, List.length_append, List.length_cons, List.length_nil, List.append_nil, List.nil_append, List.cons_append, List.length_set, List.append_assoc, Nat.zero_add, List.length_replicate, esInt_app, esInt_cons, esInt_nil, eInt_eq, esSheet_app, esSheet_cons, esSheet_nil, eSheet_eq, esSheeto_app, esSheeto_cons, esSheeto_nil, eSheeto_eq]; done) | (simp [hC, List.length_append, List.length_cons, List.length_nil, List.append_nil, List.nil_append, List.cons_append, List.length_set, List.append_assoc, Nat.zero_add, List.length_replicate, esInt_app, esInt_cons, esInt_nil, eInt_eq, esSheet_app, esSheet_cons, esSheet_nil, eSheet_eq, esSheeto_app, esSheeto_cons, esSheeto_nil, eSheeto_eq]; done) | omega)) | (first | rfl | (simp only [hC, List.length_append, List.length_cons, List.length_nil, List.append_nil, List.nil_append, List.cons_append, List.length_set, List.append_assoc, Nat.zero_add, List.length_replicate, esInt_app, esInt_cons, esInt_nil, eInt_eq, esSheet_app, esSheet_cons, esSheet_nil, eSheet_eq, esSheeto_app, esSheeto_cons, esSheeto_nil, eSheeto_eq]; done) | (simp [hC, List.length_append, List.length_cons, List.length_nil, List.append_nil, List.nil_append, List.cons_append, List.length_set, List.append_assoc, Nat.zero_add, List.length_replicate, esInt_app, esInt_cons, esInt_nil, eInt_eq, esSheet_app, esSheet_cons, esSheet_nil, eSheet_eq, esSheeto_app, esSheeto_cons, esSheeto_nil, eSheeto_eq]; done) | omega)) : A := h hF hC
def p_impl_Sheet_paint_tf := PLift.up (And.intro @eInt_eq (And.intro @esInt_len (And.intro @esInt_nil (And.intro @esInt_leaf (And.intro @esInt_fit (And.intro @eSheet_eq (And.intro @esSheet_len (And.intro @esSheet_nil (And.intro @esSheet_leaf (And.intro @esSheet_fit (And.intro @eSheeto_eq (And.intro @esSheeto_len (And.intro @esSheeto_nil (And.intro @esInt_share (And.intro @esInt_pure (And.intro @esSheeto_share (And.intro @esSheeto_pure (And.intro @str_beq (And.intro @Ty.sl22 (And.intro @Ty.slz22 (And.intro @Ty.nz3 (And.intro @Ty.ldA3 (And.intro @Ty.ldS3 (And.intro @Ty.sz3 (And.intro @Ty.szn3 (And.intro @Ty.nz22 (And.intro @Ty.ldA22 (And.intro @Ty.ldS22 (And.intro @Ty.sz22 (And.intro @Ty.szn22 (And.intro @Ty.fo28_0 (And.intro @Ty.fk28_0 (And.intro @Ty.fs28_0 (And.intro @Ty.fn28_0 (And.intro @Ty.fo28_1 (And.intro @Ty.fk28_1 (And.intro @Ty.fs28_1 (And.intro @Ty.fn28_1 (And.intro @Ty.fo28_2 (And.intro @Ty.fk28_2 (And.intro @Ty.fs28_2 (And.intro @Ty.fn28_2 @trivial))))))))))))))))))))))))))))))))))))))))))
def p_impl_Sheet_paint_raw (s_a0 : GSheet) (x_a1 : Int) (y_a2 : Int) (color_a3 : Int) : Option (List Int) := (if (rng x_a1 0 (IntKind.i64.wrap (s_a0.Wide - 1))) = true then p_impl_Sheet_paint_j0 s_a0 x_a1 y_a2 color_a3 (rng y_a2 0 (IntKind.i64.wrap (s_a0.High - 1))) else p_impl_Sheet_paint_j0 s_a0 x_a1 y_a2 color_a3 false)
def p_impl_Sheet_paint (s_a0 : GSheet) (x_a1 : Int) (y_a2 : Int) (color_a3 : Int) : Option (List Int) := (p_impl_Sheet_paint_raw s_a0 x_a1 y_a2 color_a3).bind fun r => if r.length = s_a0.Pixels.length then some r else none
theorem p_impl_Sheet_paint_raw_does (s_a0 : GSheet) (x_a1 : Int) (y_a2 : Int) (color_a3 : Int) (r : List Int) (h : p_impl_Sheet_paint_raw s_a0 x_a1 y_a2 color_a3 = some r) : DoesX Try.prog 26 [.agg [I s_a0.Wide, I s_a0.High, .sl 1000 [] 0 s_a0.Pixels.length], I x_a1, I y_a2, I color_a3] [.row true 1 s_a0.Pixels.length (esInt s_a0.Pixels)] (.tup []) [.row true 1 s_a0.Pixels.length (esInt r)] := by
  rw [p_impl_Sheet_paint_raw] at h
  refine DoesX.walkL (nt := 30) Try.func26 rfl rfl (by simp) (by decide) rfl (by simp [fullArg, fullA, fullAs, regs]) rfl (fun G0 X w0 vals hvals hone => ?_)
  obtain ⟨v_0, rfl⟩ := len1 hvals
  have hv_0 := hone v_0 (by simp)
  simp only [List.map_cons, List.map_nil, litArg, litAs, litA, regs, Nat.le_refl, Nat.sub_self, Nat.reduceLeDiff, Nat.reduceSub, if_true, List.getElem?_cons_zero, List.getElem?_cons_succ]
  have ff := And.intro @hv_0 p_impl_Sheet_paint_tf.down
  try refine st_by ff ?_
  repeat' (first | exact trivial | refine And.intro sd ?_)
  first
  | (refine cq_call (inRange_does x_a1 0 (IntKind.i64.wrap (s_a0.Wide - 1))) (hf_by ff) kr ⟨p_impl_Sheet_paint_sa ff trivial, ?_⟩; clear ff)
  have ff := And.intro @hv_0 p_impl_Sheet_paint_tf.down
  try refine st_by ff ?_
  repeat' (first | exact trivial | refine And.intro sd ?_)
  try clear ff
  generalize hk_0 : thenK _ _ = kk_0
  have key_0 : ∀ σ, (∃ b_1 : Bool, (p_impl_Sheet_paint_j0 s_a0 x_a1 y_a2 color_a3 b_1 = some r) ∧ σ.t 1 = I x_a1 ∧ σ.t 2 = I y_a2 ∧ σ.t 3 = I color_a3 ∧ σ.t 4 = .ptr 4 [] 0 ∧ σ.t 19 = B b_1 ∧ σ.m 4 = some (.box true [I s_a0.Wide, I s_a0.High, .lit v_0]) ∧ σ.m 1000 = some (.row true 1 s_a0.Pixels.length (esInt s_a0.Pixels))) → kk_0 .nm σ := by
    rintro σ ⟨b_1, h, g0_j0, g1_j0, g2_j0, g3_j0, g4_j0, g5_j0, g6_j0⟩
    rw [← hk_0]
    rw [p_impl_Sheet_paint_j0] at h
    by_cases c2 : b_1 = true
    case neg =>
     rw [if_neg c2] at h
     have dc2 := eq_false_of_ne_true c2
     have ff := And.intro @hv_0 (And.intro @g0_j0 (And.intro @g1_j0 (And.intro @g2_j0 (And.intro @g3_j0 (And.intro @g4_j0 (And.intro @g5_j0 (And.intro @g6_j0 (And.intro @dc2 p_impl_Sheet_paint_tf.down))))))))
     try refine st_by ff ?_
     repeat' (first | exact trivial | refine And.intro sd ?_)
     cases h
     exact retX_pn [] rfl (by decide) (p_impl_Sheet_paint_rt ff trivial)
    rw [if_pos c2] at h
    have dc2 := c2
    have ff := And.intro @hv_0 (And.intro @g0_j0 (And.intro @g1_j0 (And.intro @g2_j0 (And.intro @g3_j0 (And.intro @g4_j0 (And.intro @g5_j0 (And.intro @g6_j0 (And.intro @dc2 p_impl_Sheet_paint_tf.down))))))))
    try refine st_by ff ?_
    repeat' (first | exact trivial | refine And.intro sd ?_)
    (refine opq_relit (i := 21) (r := 1000) (c := v_0) (sz := 1) (n := s_a0.Pixels.length) (cs := esInt s_a0.Pixels) ?_ ?_ ?_ ?_; (· first | rfl | exact cl_by ff); (· rfl); (· exact p_impl_Sheet_paint_pv ff trivial); refine of_st1 ?_); clear ff
    obtain ⟨x3, ex3, h⟩ := Option.bind_eq_some_iff.1 h
    try dsimp only at h
    have f4a := idx_lo ex3
    have f4b := idx_hi ex3
    have f4c : (esInt s_a0.Pixels).drop (((IntKind.i64.wrap ((IntKind.i64.wrap (y_a2 * s_a0.Wide)) + x_a1)).toNat) * 1) = eInt x3 ++ esInt (s_a0.Pixels.drop ((IntKind.i64.wrap ((IntKind.i64.wrap (y_a2 * s_a0.Wide)) + x_a1)).toNat + 1)) := drop_enc (fun _ => rfl) (idx_get ex3)
    have f4d := f4c
    rw [Nat.mul_one] at f4d
    have f4g0 : (esInt s_a0.Pixels).getD (((IntKind.i64.wrap ((IntKind.i64.wrap (y_a2 * s_a0.Wide)) + x_a1)).toNat) * 1) .junk = (eInt x3).getD 0 .junk := getD_enc0 (enc := eInt) (sz := 1) (fun _ => rfl) (idx_get ex3) (by decide)
    rw [Nat.mul_one] at f4g0
    have w5l : (IntKind.i64.wrap ((IntKind.i64.wrap (y_a2 * s_a0.Wide)) + x_a1)).toNat < s_a0.Pixels.length := (List.getElem?_eq_some_iff.1 (idx_get ex3)).1
    have w5a : (esInt s_a0.Pixels).set (((IntKind.i64.wrap ((IntKind.i64.wrap (y_a2 * s_a0.Wide)) + x_a1)).toNat) * 1) (I color_a3) = esInt (s_a0.Pixels.set ((IntKind.i64.wrap ((IntKind.i64.wrap (y_a2 * s_a0.Wide)) + x_a1)).toNat) color_a3) := set_enc0 (enc := eInt) (sz := 1) (fun _ => rfl) (idx_get ex3) (by decide) rfl
    rw [Nat.mul_one] at w5a
    have w5b : (s_a0.Pixels.set ((IntKind.i64.wrap ((IntKind.i64.wrap (y_a2 * s_a0.Wide)) + x_a1)).toNat) color_a3).length = s_a0.Pixels.length := List.length_set
    have ff := And.intro @hv_0 (And.intro @g0_j0 (And.intro @g1_j0 (And.intro @g2_j0 (And.intro @g3_j0 (And.intro @g4_j0 (And.intro @g5_j0 (And.intro @g6_j0 (And.intro @dc2 (And.intro @f4c (And.intro @f4d (And.intro @f4g0 (And.intro @w5a p_impl_Sheet_paint_tf.down))))))))))))
    try refine st_by ff ?_
    repeat' (first | exact trivial | refine And.intro sd ?_)
    cases h
    exact retX_pn [] rfl (by decide) (p_impl_Sheet_paint_rt ff trivial)
  have hrt_0 := fun σ : ASt => congrFun (congrFun hk_0.symm AX.rt) σ
  have hex_0 := fun (i : Nat) (σ : ASt) => congrFun (congrFun hk_0.symm (AX.ex i)) σ
  by_cases c6 : (rng x_a1 0 (IntKind.i64.wrap (s_a0.Wide - 1))) = true
  case neg =>
   rw [if_neg c6] at h
   have dc6 := eq_false_of_ne_true c6
   have ff := And.intro @hv_0 (And.intro @hrt_0 (And.intro @hex_0 (And.intro @dc6 p_impl_Sheet_paint_tf.down)))
   try refine st_by ff ?_
   repeat' (first | exact trivial | refine And.intro sd ?_)
   refine key_0 _ ?_
   refine ⟨false, h, ?_⟩
   exact p_impl_Sheet_paint_pv ff trivial
  rw [if_pos c6] at h
  have dc6 := c6
  have ff := And.intro @hv_0 (And.intro @hrt_0 (And.intro @hex_0 (And.intro @dc6 p_impl_Sheet_paint_tf.down)))
  try refine st_by ff ?_
  repeat' (first | exact trivial | refine And.intro sd ?_)
  first
  | (refine cq_call (inRange_does y_a2 0 (IntKind.i64.wrap (s_a0.High - 1))) (hf_by ff) kr ⟨p_impl_Sheet_paint_sa ff trivial, ?_⟩; clear ff)
  have ff := And.intro @hv_0 (And.intro @hrt_0 (And.intro @hex_0 (And.intro @dc6 p_impl_Sheet_paint_tf.down)))
  try refine st_by ff ?_
  repeat' (first | exact trivial | refine And.intro sd ?_)
  refine key_0 _ ?_
  refine ⟨(rng y_a2 0 (IntKind.i64.wrap (s_a0.High - 1))), h, ?_⟩
  exact p_impl_Sheet_paint_pv ff trivial
theorem p_impl_Sheet_paint_does (s_a0 : GSheet) (x_a1 : Int) (y_a2 : Int) (color_a3 : Int) (r : List Int) (h : p_impl_Sheet_paint s_a0 x_a1 y_a2 color_a3 = some r) : DoesX Try.prog 26 [.agg [I s_a0.Wide, I s_a0.High, .sl 1000 [] 0 s_a0.Pixels.length], I x_a1, I y_a2, I color_a3] [.row true 1 s_a0.Pixels.length (esInt s_a0.Pixels)] (.tup []) [.row true 1 s_a0.Pixels.length (esInt r)] := by
  unfold p_impl_Sheet_paint at h
  obtain ⟨r0, h0, h1⟩ := Option.bind_eq_some_iff.1 h
  split at h1
  · cases h1; exact p_impl_Sheet_paint_raw_does s_a0 x_a1 y_a2 color_a3 _ h0
  · cases h1
theorem p_impl_Sheet_paint_len (s_a0 : GSheet) (x_a1 : Int) (y_a2 : Int) (color_a3 : Int) (r : List Int) (h : p_impl_Sheet_paint s_a0 x_a1 y_a2 color_a3 = some r) : r.length = s_a0.Pixels.length := by
  unfold p_impl_Sheet_paint at h
  obtain ⟨r0, h0, h1⟩ := Option.bind_eq_some_iff.1 h
  split at h1
  · rename_i c; cases h1; exact c
  · cases h1
/-! impl.PaintBox -/
def p_impl_PaintBox_l1 (s_a0 : GSheet) (b_a1 : GPlaced) (color_a2 : Int) (v4 : GSheet) (y_17 : Int) : Nat → Int → (List Int) → Option (Int × (List Int))
  | 0, _, _ => none
  | n_1 + 1, x_35, out_36 => (if x_35 < (if s_a0.Wide < (IntKind.i64.wrap (b_a1.X + b_a1.W)) then s_a0.Wide else (IntKind.i64.wrap (b_a1.X + b_a1.W))) then ((p_impl_Sheet_paint (⟨v4.Wide, v4.High, out_36⟩ : GSheet) x_35 y_17 color_a2).bind fun v41 => p_impl_PaintBox_l1 s_a0 b_a1 color_a2 v4 y_17 n_1 (IntKind.i64.wrap (x_35 + 1)) v41) else some (x_35, out_36))
def p_impl_PaintBox_l0 (N : Nat) (s_a0 : GSheet) (b_a1 : GPlaced) (color_a2 : Int) (v4 : GSheet) : Nat → Int → (List Int) → Option (Int × (List Int))
  | 0, _, _ => none
  | n_0 + 1, y_17, out_18 => (if y_17 < (if s_a0.High < (IntKind.i64.wrap (b_a1.Y + b_a1.H)) then s_a0.High else (IntKind.i64.wrap (b_a1.Y + b_a1.H))) then ((p_impl_PaintBox_l1 s_a0 b_a1 color_a2 v4 y_17 N (if (0 : Int) > b_a1.X then 0 else b_a1.X) out_18).bind fun q_1 => match q_1 with | (x_35, out_36) => p_impl_PaintBox_l0 N s_a0 b_a1 color_a2 v4 n_0 (IntKind.i64.wrap (y_17 + 1)) out_36) else some (y_17, out_18))
def p_impl_PaintBox_j0 (N : Nat) (s_a0 : GSheet) (b_a1 : GPlaced) (color_a2 : Int) (b_2 : Bool) : Option (GSheet × Bool) := (if b_2 = true then some ((⟨0, 0, ([] : List Int)⟩ : GSheet), false) else ((p_impl_Sheet_clone s_a0).bind fun v4 => ((p_impl_PaintBox_l0 N s_a0 b_a1 color_a2 v4 N (if (0 : Int) > b_a1.Y then 0 else b_a1.Y) v4.Pixels).bind fun q_0 => match q_0 with | (y_17, out_18) => some ((⟨v4.Wide, v4.High, out_18⟩ : GSheet), true))))
theorem p_impl_PaintBox_pv {F C A : Prop} (hF : F) (hC : C) (h : F → C → A := by intro hF hC; first | exact cl_by hF | (refine st_by hF ?_; (repeat' (first | exact trivial | apply And.intro)); all_goals (clear hF; first | rfl | (simp only [hC, List.length_append, List.length_cons, List.length_nil, List.append_nil, List.nil_append, List.cons_append, List.length_set, List.append_assoc, Nat.zero_add, List.length_replicate, esInt_app, esInt_cons, esInt_nil, eInt_eq, esSheet_app, esSheet_cons, esSheet_nil, eSheet_eq, esSheeto_app, esSheeto_cons, esSheeto_nil, eSheeto_eq, esPlaced_app, esPlaced_cons, esPlaced_nil, ePlaced_eq]; done) | (simp [hC, List.length_append, List.length_cons, List.length_nil, List.append_nil, List.nil_append, List.cons_append, List.length_set, List.append_assoc, Nat.zero_add, List.length_replicate, esInt_app, esInt_cons, esInt_nil, eInt_eq, esSheet_app, esSheet_cons, esSheet_nil, eSheet_eq, esSheeto_app, esSheeto_cons, esSheeto_nil, eSheeto_eq, esPlaced_app, esPlaced_cons, esPlaced_nil, ePlaced_eq]; done) | omega))) : A := h hF hC
theorem p_impl_PaintBox_sa {F C A : Prop} (hF : F) (hC : C) (h : F → C → A := by intro hF hC; first | exact ca_by hF | (refine sa_by hF ?_; (repeat' (first | exact trivial | apply And.intro)); all_goals (clear hF; first | rfl | (simp only [hC, List.length_append, List.length_cons, List.length_nil, List.append_nil, List.nil_append, List.cons_append, List.length_set, List.append_assoc, Nat.zero_add, List.length_replicate, esInt_app, esInt_cons, esInt_nil, eInt_eq, esSheet_app, esSheet_cons, esSheet_nil, eSheet_eq, esSheeto_app, esSheeto_cons, esSheeto_nil, eSheeto_eq, esPlaced_app, esPlaced_cons, esPlaced_nil, ePlaced_eq]; done) | (simp [hC, List.length_append, List.length_cons, List.length_nil, List.append_nil, List.nil_append, List.cons_append, List.length_set, List.append_assoc, Nat.zero_add, List.length_replicate, esInt_app, esInt_cons, esInt_nil, eInt_eq, esSheet_app, esSheet_cons, esSheet_nil, eSheet_eq, esSheeto_app, esSheeto_cons, esSheeto_nil, eSheeto_eq, esPlaced_app, esPlaced_cons, esPlaced_nil, ePlaced_eq]; done) | omega))) : A := h hF hC
theorem p_impl_PaintBox_rt {F C A : Prop} (hF : F) (hC : C) (h : F → C → A := by intro hF hC; first | (refine sr_by hF ?_; (repeat' (first | exact trivial | apply And.intro)); all_goals (clear hF; first | rfl | (simp only [hC, List.length_append, List.length_cons, List.length_nil, List.append_nil, List.nil_append, List.cons_append, List.length_set, List.append_assoc, Nat.zero_add, List.length_replicate, esInt_app, esInt_cons, esInt_nil, eInt_eq, esSheet_app, esSheet_cons, esSheet_nil, eSheet_eq, esSheeto_app, esSheeto_cons, esSheeto_nil, eSheeto_eq, esPlaced_app, esPlaced_cons, esPlaced_nil, ePlaced_eq]; done) | (simp [hC, List.length_append, List.length_cons, List.length_nil, List.append_nil, List.nil_append, List.cons_append, List.length_set, List.append_assoc, Nat.zero_add, List.length_replicate, esInt_app, esInt_cons, esInt_nil, eInt_eq, esSheet_app, esSheet_cons, esSheet_nil, eSheet_eq, esSheeto_app, esSheeto_cons, esSheeto_nil, eSheeto_eq, esPlaced_app, esPlaced_cons, esPlaced_nil, ePlaced_eq]; done) | omega)) | (first | rfl | (simp only [hC, List.length_append, List.length_cons, List.length_nil, List.append_nil, List.nil_append, List.cons_append, List.length_set, List.append_assoc, Nat.zero_add, List.length_replicate, esInt_app, esInt_cons, esInt_nil, eInt_eq, esSheet_app, esSheet_cons, esSheet_nil, eSheet_eq, esSheeto_app, esSheeto_cons, esSheeto_nil, eSheeto_eq, esPlaced_app, esPlaced_cons, esPlaced_nil, ePlaced_eq]; done) | (simp [hC, List.length_append, List.length_cons, List.length_nil, List.append_nil, List.nil_append, List.cons_append, List.length_set, List.append_assoc, Nat.zero_add, List.length_replicate, esInt_app, esInt_cons, esInt_nil, eInt_eq, esSheet_app, esSheet_cons, esSheet_nil, eSheet_eq, esSheeto_app, esSheeto_cons, esSheeto_nil, eSheeto_eq, esPlaced_app, esPlaced_cons, esPlaced_nil, ePlaced_eq]; done) | omega)) : A := h hF hC
def p_impl_PaintBox_tf := PLift.up (And.intro @eInt_eq (And.intro @esInt_len (And.intro @esInt_nil (And.intro @esInt_leaf (And.intro @esInt_fit (And.intro @eSheet_eq (And.intro @esSheet_len (And.intro @esSheet_nil (And.intro @esSheet_leaf (And.intro @esSheet_fit (And.intro @eSheeto_eq (And.intro @esSheeto_len (And.intro @esSheeto_nil (And.intro @ePlaced_eq (And.intro @esPlaced_len (And.intro @esPlaced_nil (And.intro @esPlaced_leaf (And.intro @esPlaced_fit (And.intro @esInt_share (And.intro @esInt_pure (And.intro @esSheeto_share (And.intro @esSheeto_pure (And.intro @esPlaced_share (And.intro @esPlaced_pure (And.intro @str_beq (And.intro @Ty.nz28 (And.intro @Ty.ldA28 (And.intro @Ty.sz28 (And.intro @Ty.szn28 (And.intro @Ty.nz32 (And.intro @Ty.ldA32 (And.intro @Ty.sz32 (And.intro @Ty.szn32 (And.intro @Ty.nz3 (And.intro @Ty.ldA3 (And.intro @Ty.ldS3 (And.intro @Ty.sz3 (And.intro @Ty.szn3 (And.intro @Ty.fo32_1 (And.intro @Ty.fk32_1 (And.intro @Ty.fs32_1 (And.intro @Ty.fn32_1 (And.intro @Ty.fo32_3 (And.intro @Ty.fk32_3 (And.intro @Ty.fs32_3 (And.intro @Ty.fn32_3 (And.intro @Ty.fo28_1 (And.intro @Ty.fk28_1 (And.intro @Ty.fs28_1 (And.intro @Ty.fn28_1 (And.intro @Ty.fo32_0 (And.intro @Ty.fk32_0 (And.intro @Ty.fs32_0 (And.intro @Ty.fn32_0 (And.intro @Ty.fo32_2 (And.intro @Ty.fk32_2 (And.intro @Ty.fs32_2 (And.intro @Ty.fn32_2 (And.intro @Ty.fo28_0 (And.intro @Ty.fk28_0 (And.intro @Ty.fs28_0 (And.intro @Ty.fn28_0 (And.intro @Ty.zv28 (And.intro @Ty.bd28 (And.intro @Ty.ag28 @trivial)))))))))))))))))))))))))))))))))))))))))))))))))))))))))))))))))
def p_impl_PaintBox (N : Nat) (s_a0 : GSheet) (b_a1 : GPlaced) (color_a2 : Int) : Option (GSheet × Bool) := ((p_impl_GoodSheet s_a0).bind fun v1 => (if v1 = true then ((p_impl_isBox b_a1).bind fun v44 => (if v44 = true then ((p_impl_isColor color_a2).bind fun v46 => p_impl_PaintBox_j0 N s_a0 b_a1 color_a2 (!v46)) else p_impl_PaintBox_j0 N s_a0 b_a1 color_a2 true)) else p_impl_PaintBox_j0 N s_a0 b_a1 color_a2 true))
theorem p_impl_PaintBox_does (N : Nat) (s_a0 : GSheet) (b_a1 : GPlaced) (color_a2 : Int) (r : GSheet × Bool) (h : p_impl_PaintBox N s_a0 b_a1 color_a2 = some r) : Does Try.prog 9 [.agg (eSheet s_a0), .agg (ePlaced b_a1), I color_a2] (.tup [.agg (eSheeto r.1), B r.2]) := by
  rw [p_impl_PaintBox] at h
  refine Does.bnd (fun hb => ?_)
  have hb2 : s_a0.Pixels.length ≤ 9223372036854775807 := by simpa [AV.fitNs, AV.fitN, eSheet, ePlaced] using hb
  have hl0 := hb2
  refine Does.walk (nt := 63) Try.func9 rfl rfl (by simp) (by decide) rfl (fun G0 X w0 pv => ?_)
  obtain ⟨v1, ev1, h⟩ := Option.bind_eq_some_iff.1 h
  try dsimp only at h
  have ff := p_impl_PaintBox_tf.down
  try refine st_by ff ?_
  repeat' (first | exact trivial | refine And.intro sd ?_)
  first
  | (refine cq_call (p_impl_GoodSheet_does s_a0 v1 ev1) (hf_by ff) kr ⟨p_impl_PaintBox_sa ff trivial, ?_⟩; clear ff)
  have ff := p_impl_PaintBox_tf.down
  try refine st_by ff ?_
  repeat' (first | exact trivial | refine And.intro sd ?_)
  try clear ff
  generalize hk_0 : thenK _ _ = kk_0
  have key_0 : ∀ σ, (∃ b_2 : Bool, (p_impl_PaintBox_j0 N s_a0 b_a1 color_a2 b_2 = some r) ∧ σ.t 2 = I color_a2 ∧ σ.t 3 = .ptr 3 [] 0 ∧ σ.t 4 = .ptr 4 [] 0 ∧ σ.t 6 = .ptr 6 [] 0 ∧ σ.t 23 = B b_2 ∧ σ.m 3 = some (.box true [I s_a0.Wide, I s_a0.High, .row false 1 s_a0.Pixels.length (esInt s_a0.Pixels)]) ∧ σ.m 4 = some (.box true [I b_a1.X, I b_a1.Y, I b_a1.W, I b_a1.H]) ∧ σ.m 6 = some (.box true [I 0, I 0, .row true 1 0 []])) → kk_0 .nm σ := by
    rintro σ ⟨b_2, h, g0_j0, g1_j0, g2_j0, g3_j0, g4_j0, g5_j0, g6_j0, g7_j0⟩
    rw [← hk_0]
    rw [p_impl_PaintBox_j0] at h
    by_cases c3 : b_2 = true
    · rw [if_pos c3] at h
      have dc3 := c3
      have ff := And.intro @g0_j0 (And.intro @g1_j0 (And.intro @g2_j0 (And.intro @g3_j0 (And.intro @g4_j0 (And.intro @g5_j0 (And.intro @g6_j0 (And.intro @g7_j0 (And.intro @dc3 p_impl_PaintBox_tf.down))))))))
      try refine st_by ff ?_
      repeat' (first | exact trivial | refine And.intro sd ?_)
      cases h
      exact ret_q2 rfl (p_impl_PaintBox_rt ff trivial)
    rw [if_neg c3] at h
    have dc3 := eq_false_of_ne_true c3
    obtain ⟨v4, ev4, h⟩ := Option.bind_eq_some_iff.1 h
    try dsimp only at h
    have ff := And.intro @g0_j0 (And.intro @g1_j0 (And.intro @g2_j0 (And.intro @g3_j0 (And.intro @g4_j0 (And.intro @g5_j0 (And.intro @g6_j0 (And.intro @g7_j0 (And.intro @dc3 p_impl_PaintBox_tf.down))))))))
    try refine st_by ff ?_
    repeat' (first | exact trivial | refine And.intro sd ?_)
    first
    | (refine cq_own (p_impl_Sheet_clone_does s_a0 v4 ev4) (hf_by ff) kr ⟨p_impl_PaintBox_sa ff trivial, ?_⟩; clear ff)
    obtain ⟨q_0, eq_0, h⟩ := Option.bind_eq_some_iff.1 h
    have ff := And.intro @g0_j0 (And.intro @g1_j0 (And.intro @g2_j0 (And.intro @g3_j0 (And.intro @g4_j0 (And.intro @g5_j0 (And.intro @g6_j0 (And.intro @g7_j0 (And.intro @dc3 p_impl_PaintBox_tf.down))))))))
    try refine st_by ff ?_
    repeat' (first | exact trivial | refine And.intro sd ?_)
    obtain ⟨I_0, hI_0⟩ : ∃ I_ : (Nat × Int × (List Int)) → ASt → Prop, I_ = (fun (a : Nat × Int × (List Int)) σ => match a with | (n_0, y_17, out_18) => (p_impl_PaintBox_l0 N s_a0 b_a1 color_a2 v4 n_0 y_17 out_18 = some q_0) ∧ σ.t 2 = I color_a2 ∧ σ.t 3 = .ptr 3 [] 0 ∧ σ.t 4 = .ptr 4 [] 0 ∧ σ.t 6 = .ptr 6 [] 0 ∧ σ.t 8 = .ptr 8 [] 0 ∧ σ.t 9 = I y_17 ∧ σ.m 3 = some (.box true [I s_a0.Wide, I s_a0.High, .row false 1 s_a0.Pixels.length (esInt s_a0.Pixels)]) ∧ σ.m 4 = some (.box true [I b_a1.X, I b_a1.Y, I b_a1.W, I b_a1.H]) ∧ σ.m 6 = some (.box true [I 0, I 0, .row true 1 0 []]) ∧ σ.m 8 = some (.box true [I v4.Wide, I v4.High, .row true 1 out_18.length (esInt out_18)])) := ⟨_, rfl⟩
    obtain ⟨M_0, hM_0⟩ : ∃ M_ : (Nat × Int × (List Int)) → Nat, M_ = (fun (a : Nat × Int × (List Int)) => match a with | (n_0, y_17, out_18) => n_0) := ⟨_, rfl⟩
    obtain ⟨J_0, hJ_0⟩ : ∃ J_ : ASt → Prop, J_ = (fun σ => ∃ y_17 : Int, ∃ out_18 : List Int, (some (y_17, out_18) = some q_0) ∧ σ.t 6 = .ptr 6 [] 0 ∧ σ.t 8 = .ptr 8 [] 0 ∧ σ.m 6 = some (.box true [I 0, I 0, .row true 1 0 []]) ∧ σ.m 8 = some (.box true [I v4.Wide, I v4.High, .row true 1 out_18.length (esInt out_18)])) := ⟨_, rfl⟩
    refine aw_loopC (id := 0) I_0 M_0 J_0 (N, (if (0 : Int) > b_a1.Y then 0 else b_a1.Y), v4.Pixels) ?_ ?_ ?_
    · rw [hI_0]
      refine ⟨eq_0, ?_⟩
      exact p_impl_PaintBox_pv ff trivial
    · try clear ff
      rintro ⟨n_0, y_17, out_18⟩ σ hg_0
      rw [hI_0] at hg_0
      obtain ⟨h_0, g0_0, g1_0, g2_0, g3_0, g4_0, g5_0, g6_0, g7_0, g8_0, g9_0⟩ := hg_0
      cases n_0 with
      | zero => rw [p_impl_PaintBox_l0] at h_0; cases h_0
      | succ n_0 =>
        rw [p_impl_PaintBox_l0] at h_0
        by_cases c31 : y_17 < (if s_a0.High < (IntKind.i64.wrap (b_a1.Y + b_a1.H)) then s_a0.High else (IntKind.i64.wrap (b_a1.Y + b_a1.H)))
        case neg =>
         rw [if_neg c31] at h_0
         have dc31 := decide_eq_false c31
         have ff := And.intro @dc3 (And.intro @g0_0 (And.intro @g1_0 (And.intro @g2_0 (And.intro @g3_0 (And.intro @g4_0 (And.intro @g5_0 (And.intro @g6_0 (And.intro @g7_0 (And.intro @g8_0 (And.intro @g9_0 (And.intro @dc31 p_impl_PaintBox_tf.down)))))))))))
         try refine st_by ff ?_
         repeat' (first | exact trivial | refine And.intro sd ?_)
         refine JW.intro ?_
         rw [hJ_0]
         refine ⟨y_17, out_18, h_0, ?_⟩
         exact p_impl_PaintBox_pv ff trivial
        rw [if_pos c31] at h_0
        have dc31 := decide_eq_true c31
        obtain ⟨q_1, eq_1, h_0⟩ := Option.bind_eq_some_iff.1 h_0
        have ff := And.intro @dc3 (And.intro @g0_0 (And.intro @g1_0 (And.intro @g2_0 (And.intro @g3_0 (And.intro @g4_0 (And.intro @g5_0 (And.intro @g6_0 (And.intro @g7_0 (And.intro @g8_0 (And.intro @g9_0 (And.intro @dc31 p_impl_PaintBox_tf.down)))))))))))
        try refine st_by ff ?_
        repeat' (first | exact trivial | refine And.intro sd ?_)
        obtain ⟨I_1, hI_1⟩ : ∃ I_ : (Nat × Int × (List Int)) → ASt → Prop, I_ = (fun (a : Nat × Int × (List Int)) σ => match a with | (n_1, x_35, out_36) => (p_impl_PaintBox_l1 s_a0 b_a1 color_a2 v4 y_17 n_1 x_35 out_36 = some q_1) ∧ σ.t 2 = I color_a2 ∧ σ.t 3 = .ptr 3 [] 0 ∧ σ.t 4 = .ptr 4 [] 0 ∧ σ.t 6 = .ptr 6 [] 0 ∧ σ.t 8 = .ptr 8 [] 0 ∧ σ.t 9 = I y_17 ∧ σ.t 10 = I x_35 ∧ σ.m 3 = some (.box true [I s_a0.Wide, I s_a0.High, .row false 1 s_a0.Pixels.length (esInt s_a0.Pixels)]) ∧ σ.m 4 = some (.box true [I b_a1.X, I b_a1.Y, I b_a1.W, I b_a1.H]) ∧ σ.m 6 = some (.box true [I 0, I 0, .row true 1 0 []]) ∧ σ.m 8 = some (.box true [I v4.Wide, I v4.High, .row true 1 out_36.length (esInt out_36)])) := ⟨_, rfl⟩
        obtain ⟨M_1, hM_1⟩ : ∃ M_ : (Nat × Int × (List Int)) → Nat, M_ = (fun (a : Nat × Int × (List Int)) => match a with | (n_1, x_35, out_36) => n_1) := ⟨_, rfl⟩
        obtain ⟨J_1, hJ_1⟩ : ∃ J_ : ASt → Prop, J_ = (fun σ => ∃ x_35 : Int, ∃ out_36 : List Int, (some (x_35, out_36) = some q_1) ∧ σ.t 2 = I color_a2 ∧ σ.t 3 = .ptr 3 [] 0 ∧ σ.t 4 = .ptr 4 [] 0 ∧ σ.t 6 = .ptr 6 [] 0 ∧ σ.t 8 = .ptr 8 [] 0 ∧ σ.t 9 = I y_17 ∧ σ.m 3 = some (.box true [I s_a0.Wide, I s_a0.High, .row false 1 s_a0.Pixels.length (esInt s_a0.Pixels)]) ∧ σ.m 4 = some (.box true [I b_a1.X, I b_a1.Y, I b_a1.W, I b_a1.H]) ∧ σ.m 6 = some (.box true [I 0, I 0, .row true 1 0 []]) ∧ σ.m 8 = some (.box true [I v4.Wide, I v4.High, .row true 1 out_36.length (esInt out_36)])) := ⟨_, rfl⟩
        refine aw_loopC (id := 2) I_1 M_1 J_1 (N, (if (0 : Int) > b_a1.X then 0 else b_a1.X), out_18) ?_ ?_ ?_
        · rw [hI_1]
          refine ⟨eq_1, ?_⟩
          exact p_impl_PaintBox_pv ff trivial
        · try clear ff
          rintro ⟨n_1, x_35, out_36⟩ σ hg_1
          rw [hI_1] at hg_1
          obtain ⟨h_1, g0_1, g1_1, g2_1, g3_1, g4_1, g5_1, g6_1, g7_1, g8_1, g9_1, g10_1⟩ := hg_1
          cases n_1 with
          | zero => rw [p_impl_PaintBox_l1] at h_1; cases h_1
          | succ n_1 =>
            rw [p_impl_PaintBox_l1] at h_1
            by_cases c40 : x_35 < (if s_a0.Wide < (IntKind.i64.wrap (b_a1.X + b_a1.W)) then s_a0.Wide else (IntKind.i64.wrap (b_a1.X + b_a1.W)))
            case neg =>
             rw [if_neg c40] at h_1
             have dc40 := decide_eq_false c40
             have ff := And.intro @dc3 (And.intro @dc31 (And.intro @g0_1 (And.intro @g1_1 (And.intro @g2_1 (And.intro @g3_1 (And.intro @g4_1 (And.intro @g5_1 (And.intro @g6_1 (And.intro @g7_1 (And.intro @g8_1 (And.intro @g9_1 (And.intro @g10_1 (And.intro @dc40 p_impl_PaintBox_tf.down)))))))))))))
             try refine st_by ff ?_
             repeat' (first | exact trivial | refine And.intro sd ?_)
             refine JW.intro ?_
             rw [hJ_1]
             refine ⟨x_35, out_36, h_1, ?_⟩
             exact p_impl_PaintBox_pv ff trivial
            rw [if_pos c40] at h_1
            have dc40 := decide_eq_true c40
            obtain ⟨v41, ev41, h_1⟩ := Option.bind_eq_some_iff.1 h_1
            try dsimp only at h_1
            have ff := And.intro @dc3 (And.intro @dc31 (And.intro @g0_1 (And.intro @g1_1 (And.intro @g2_1 (And.intro @g3_1 (And.intro @g4_1 (And.intro @g5_1 (And.intro @g6_1 (And.intro @g7_1 (And.intro @g8_1 (And.intro @g9_1 (And.intro @g10_1 (And.intro @dc40 p_impl_PaintBox_tf.down)))))))))))))
            try refine st_by ff ?_
            repeat' (first | exact trivial | refine And.intro sd ?_)
            (refine cq_Xs [(8, [2])] (p_impl_Sheet_paint_does (⟨v4.Wide, v4.High, out_36⟩ : GSheet) x_35 y_17 color_a2 v41 ev41) (hf_by ff) kr (by decide) ⟨p_impl_PaintBox_sa ff trivial, ?_⟩; clear ff)
            have f42 := p_impl_Sheet_paint_len (⟨v4.Wide, v4.High, out_36⟩ : GSheet) x_35 y_17 color_a2 v41 ev41
            have ff := And.intro @dc3 (And.intro @dc31 (And.intro @g0_1 (And.intro @g1_1 (And.intro @g2_1 (And.intro @g3_1 (And.intro @g4_1 (And.intro @g5_1 (And.intro @g6_1 (And.intro @g7_1 (And.intro @g8_1 (And.intro @g9_1 (And.intro @g10_1 (And.intro @dc40 (And.intro @f42 p_impl_PaintBox_tf.down))))))))))))))
            try refine st_by ff ?_
            repeat' (first | exact trivial | refine And.intro sd ?_)
            refine Back.intro (n_1, (IntKind.i64.wrap (x_35 + 1)), v41) ?_ ?_
            · rw [hM_1]; exact Nat.lt_succ_self _
            rw [hI_1]
            refine ⟨h_1, ?_⟩
            exact p_impl_PaintBox_pv ff trivial
        · try clear ff
          rintro σ hg_1
          rw [hJ_1] at hg_1
          obtain ⟨x_35, out_36, hj_1, g0_1a, g1_1a, g2_1a, g3_1a, g4_1a, g5_1a, g6_1a, g7_1a, g8_1a, g9_1a⟩ := hg_1
          cases hj_1
          try dsimp only at h_0
          have ff := And.intro @dc3 (And.intro @dc31 (And.intro @g0_1a (And.intro @g1_1a (And.intro @g2_1a (And.intro @g3_1a (And.intro @g4_1a (And.intro @g5_1a (And.intro @g6_1a (And.intro @g7_1a (And.intro @g8_1a (And.intro @g9_1a p_impl_PaintBox_tf.down)))))))))))
          try refine st_by ff ?_
          repeat' (first | exact trivial | refine And.intro sd ?_)
          refine Back.intro (n_0, (IntKind.i64.wrap (y_17 + 1)), out_36) ?_ ?_
          · rw [hM_0]; exact Nat.lt_succ_self _
          rw [hI_0]
          refine ⟨h_0, ?_⟩
          exact p_impl_PaintBox_pv ff trivial
    · try clear ff
      rintro σ hg_0
      rw [hJ_0] at hg_0
      obtain ⟨y_17, out_18, hj_0, g0_0a, g1_0a, g2_0a, g3_0a⟩ := hg_0
      cases hj_0
      try dsimp only at h
      have ff := And.intro @dc3 (And.intro @g0_0a (And.intro @g1_0a (And.intro @g2_0a (And.intro @g3_0a p_impl_PaintBox_tf.down))))
      try refine st_by ff ?_
      repeat' (first | exact trivial | refine And.intro sd ?_)
      cases h
      exact ret_q2 rfl (p_impl_PaintBox_rt ff trivial)
  have hrt_0 := fun σ : ASt => congrFun (congrFun hk_0.symm AX.rt) σ
  have hex_0 := fun (i : Nat) (σ : ASt) => congrFun (congrFun hk_0.symm (AX.ex i)) σ
  by_cases c43 : v1 = true
  case neg =>
   rw [if_neg c43] at h
   have dc43 := eq_false_of_ne_true c43
   have ff := And.intro @hrt_0 (And.intro @hex_0 (And.intro @dc43 p_impl_PaintBox_tf.down))
   try refine st_by ff ?_
   repeat' (first | exact trivial | refine And.intro sd ?_)
   refine key_0 _ ?_
   refine ⟨true, h, ?_⟩
   exact p_impl_PaintBox_pv ff trivial
  rw [if_pos c43] at h
  have dc43 := c43
  obtain ⟨v44, ev44, h⟩ := Option.bind_eq_some_iff.1 h
  try dsimp only at h
  have ff := And.intro @hrt_0 (And.intro @hex_0 (And.intro @dc43 p_impl_PaintBox_tf.down))
  try refine st_by ff ?_
  repeat' (first | exact trivial | refine And.intro sd ?_)
  first
  | (refine cq_call (p_impl_isBox_does b_a1 v44 ev44) (hf_by ff) kr ⟨p_impl_PaintBox_sa ff trivial, ?_⟩; clear ff)
  by_cases c45 : v44 = true
  case neg =>
   rw [if_neg c45] at h
   have dc45 := eq_false_of_ne_true c45
   have ff := And.intro @hrt_0 (And.intro @hex_0 (And.intro @dc43 (And.intro @dc45 p_impl_PaintBox_tf.down)))
   try refine st_by ff ?_
   repeat' (first | exact trivial | refine And.intro sd ?_)
   refine key_0 _ ?_
   refine ⟨true, h, ?_⟩
   exact p_impl_PaintBox_pv ff trivial
  rw [if_pos c45] at h
  have dc45 := c45
  obtain ⟨v46, ev46, h⟩ := Option.bind_eq_some_iff.1 h
  try dsimp only at h
  have ff := And.intro @hrt_0 (And.intro @hex_0 (And.intro @dc43 (And.intro @dc45 p_impl_PaintBox_tf.down)))
  try refine st_by ff ?_
  repeat' (first | exact trivial | refine And.intro sd ?_)
  first
  | (refine cq_call (p_impl_isColor_does color_a2 v46 ev46) (hf_by ff) kr ⟨p_impl_PaintBox_sa ff trivial, ?_⟩; clear ff)
  have ff := And.intro @hrt_0 (And.intro @hex_0 (And.intro @dc43 (And.intro @dc45 p_impl_PaintBox_tf.down)))
  try refine st_by ff ?_
  repeat' (first | exact trivial | refine And.intro sd ?_)
  refine key_0 _ ?_
  refine ⟨!v46, h, ?_⟩
  exact p_impl_PaintBox_pv ff trivial
/-! spec.l1Abs -/
theorem p_spec_l1Abs_pv {F C A : Prop} (hF : F) (hC : C) (h : F → C → A := by intro hF hC; first | exact cl_by hF | (refine st_by hF ?_; (repeat' (first | exact trivial | apply And.intro)); all_goals (clear hF; first | rfl | (simp only [hC, List.length_append, List.length_cons, List.length_nil, List.append_nil, List.nil_append, List.cons_append, List.length_set, List.append_assoc, Nat.zero_add, List.length_replicate]; done) | (simp [hC, List.length_append, List.length_cons, List.length_nil, List.append_nil, List.nil_append, List.cons_append, List.length_set, List.append_assoc, Nat.zero_add, List.length_replicate]; done) | omega))) : A := h hF hC
theorem p_spec_l1Abs_sa {F C A : Prop} (hF : F) (hC : C) (h : F → C → A := by intro hF hC; first | exact ca_by hF | (refine sa_by hF ?_; (repeat' (first | exact trivial | apply And.intro)); all_goals (clear hF; first | rfl | (simp only [hC, List.length_append, List.length_cons, List.length_nil, List.append_nil, List.nil_append, List.cons_append, List.length_set, List.append_assoc, Nat.zero_add, List.length_replicate]; done) | (simp [hC, List.length_append, List.length_cons, List.length_nil, List.append_nil, List.nil_append, List.cons_append, List.length_set, List.append_assoc, Nat.zero_add, List.length_replicate]; done) | omega))) : A := h hF hC
theorem p_spec_l1Abs_rt {F C A : Prop} (hF : F) (hC : C) (h : F → C → A := by intro hF hC; first | (refine sr_by hF ?_; (repeat' (first | exact trivial | apply And.intro)); all_goals (clear hF; first | rfl | (simp only [hC, List.length_append, List.length_cons, List.length_nil, List.append_nil, List.nil_append, List.cons_append, List.length_set, List.append_assoc, Nat.zero_add, List.length_replicate]; done) | (simp [hC, List.length_append, List.length_cons, List.length_nil, List.append_nil, List.nil_append, List.cons_append, List.length_set, List.append_assoc, Nat.zero_add, List.length_replicate]; done) | omega)) | (first | rfl | (simp only [hC, List.length_append, List.length_cons, List.length_nil, List.append_nil, List.nil_append, List.cons_append, List.length_set, List.append_assoc, Nat.zero_add, List.length_replicate]; done) | (simp [hC, List.length_append, List.length_cons, List.length_nil, List.append_nil, List.nil_append, List.cons_append, List.length_set, List.append_assoc, Nat.zero_add, List.length_replicate]; done) | omega)) : A := h hF hC
def p_spec_l1Abs_tf := PLift.up (And.intro @str_beq @trivial)
def p_spec_l1Abs (n_a0 : Int) : Option (Int) := (if n_a0 < 0 then some (IntKind.i64.wrap (0 - n_a0)) else some n_a0)
theorem p_spec_l1Abs_does (n_a0 : Int) (r : Int) (h : p_spec_l1Abs n_a0 = some r) : Does Try.prog 30 [I n_a0] (I r) := by
  rw [p_spec_l1Abs] at h
  refine Does.walk (nt := 8) Try.func30 rfl rfl (by simp) (by decide) rfl (fun G0 X w0 pv => ?_)
  by_cases c1 : n_a0 < 0
  case neg =>
   rw [if_neg c1] at h
   have dc1 := decide_eq_false c1
   have ff := And.intro @dc1 p_spec_l1Abs_tf.down
   try refine st_by ff ?_
   repeat' (first | exact trivial | refine And.intro sd ?_)
   cases h
   exact ret_q1 rfl (p_spec_l1Abs_rt ff trivial)
  rw [if_pos c1] at h
  have dc1 := decide_eq_true c1
  have ff := And.intro @dc1 p_spec_l1Abs_tf.down
  try refine st_by ff ?_
  repeat' (first | exact trivial | refine And.intro sd ?_)
  cases h
  exact ret_q1 rfl (p_spec_l1Abs_rt ff trivial)
/-! spec.l1Down -/
theorem p_spec_l1Down_pv {F C A : Prop} (hF : F) (hC : C) (h : F → C → A := by intro hF hC; first | exact cl_by hF | (refine st_by hF ?_; (repeat' (first | exact trivial | apply And.intro)); all_goals (clear hF; first | rfl | (simp only [hC, List.length_append, List.length_cons, List.length_nil, List.append_nil, List.nil_append, List.cons_append, List.length_set, List.append_assoc, Nat.zero_add, List.length_replicate]; done) | (simp [hC, List.length_append, List.length_cons, List.length_nil, List.append_nil, List.nil_append, List.cons_append, List.length_set, List.append_assoc, Nat.zero_add, List.length_replicate]; done) | omega))) : A := h hF hC
theorem p_spec_l1Down_sa {F C A : Prop} (hF : F) (hC : C) (h : F → C → A := by intro hF hC; first | exact ca_by hF | (refine sa_by hF ?_; (repeat' (first | exact trivial | apply And.intro)); all_goals (clear hF; first | rfl | (simp only [hC, List.length_append, List.length_cons, List.length_nil, List.append_nil, List.nil_append, List.cons_append, List.length_set, List.append_assoc, Nat.zero_add, List.length_replicate]; done) | (simp [hC, List.length_append, List.length_cons, List.length_nil, List.append_nil, List.nil_append, List.cons_append, List.length_set, List.append_assoc, Nat.zero_add, List.length_replicate]; done) | omega))) : A := h hF hC
theorem p_spec_l1Down_rt {F C A : Prop} (hF : F) (hC : C) (h : F → C → A := by intro hF hC; first | (refine sr_by hF ?_; (repeat' (first | exact trivial | apply And.intro)); all_goals (clear hF; first | rfl | (simp only [hC, List.length_append, List.length_cons, List.length_nil, List.append_nil, List.nil_append, List.cons_append, List.length_set, List.append_assoc, Nat.zero_add, List.length_replicate]; done) | (simp [hC, List.length_append, List.length_cons, List.length_nil, List.append_nil, List.nil_append, List.cons_append, List.length_set, List.append_assoc, Nat.zero_add, List.length_replicate]; done) | omega)) | (first | rfl | (simp only [hC, List.length_append, List.length_cons, List.length_nil, List.append_nil, List.nil_append, List.cons_append, List.length_set, List.append_assoc, Nat.zero_add, List.length_replicate]; done) | (simp [hC, List.length_append, List.length_cons, List.length_nil, List.append_nil, List.nil_append, List.cons_append, List.length_set, List.append_assoc, Nat.zero_add, List.length_replicate]; done) | omega)) : A := h hF hC
def p_spec_l1Down_tf := PLift.up (And.intro @str_beq (And.intro @Ty.bl4 @trivial))
def p_spec_l1Down (a_a0 : Int) (b_a1 : Int) : Option (Int) := (if b_a1 ≠ 0 then (if (Int.tmod a_a0 b_a1) = 0 then some (IntKind.i64.wrap (Int.tdiv a_a0 b_a1)) else (if ((decide (a_a0 < 0)) == (decide (b_a1 < 0))) = true then some (IntKind.i64.wrap (Int.tdiv a_a0 b_a1)) else some (IntKind.i64.wrap ((IntKind.i64.wrap (Int.tdiv a_a0 b_a1)) - 1)))) else none)
theorem p_spec_l1Down_does (a_a0 : Int) (b_a1 : Int) (r : Int) (h : p_spec_l1Down a_a0 b_a1 = some r) : Does Try.prog 31 [I a_a0, I b_a1] (I r) := by
  rw [p_spec_l1Down] at h
  refine Does.walk (nt := 23) Try.func31 rfl rfl (by simp) (by decide) rfl (fun G0 X w0 pv => ?_)
  by_cases c1 : b_a1 ≠ 0
  case neg => rw [if_neg c1] at h; cases h
  rw [if_pos c1] at h
  by_cases c2 : (Int.tmod a_a0 b_a1) = 0
  · rw [if_pos c2] at h
    have dc2 := beq_yes c2
    have ff := And.intro @dc2 p_spec_l1Down_tf.down
    try refine st_by ff ?_
    repeat' (first | exact trivial | refine And.intro sd ?_)
    cases h
    exact ret_q1 rfl (p_spec_l1Down_rt ff trivial)
  rw [if_neg c2] at h
  have dc2 := beq_no c2
  by_cases c3 : ((decide (a_a0 < 0)) == (decide (b_a1 < 0))) = true
  case neg =>
   rw [if_neg c3] at h
   have dc3 := eq_false_of_ne_true c3
   have ff := And.intro @dc2 (And.intro @dc3 p_spec_l1Down_tf.down)
   try refine st_by ff ?_
   repeat' (first | exact trivial | refine And.intro sd ?_)
   cases h
   exact ret_q1 rfl (p_spec_l1Down_rt ff trivial)
  rw [if_pos c3] at h
  have dc3 := c3
  have ff := And.intro @dc2 (And.intro @dc3 p_spec_l1Down_tf.down)
  try refine st_by ff ?_
  repeat' (first | exact trivial | refine And.intro sd ?_)
  cases h
  exact ret_q1 rfl (p_spec_l1Down_rt ff trivial)
/-! spec.PaintLine -/
def p_spec_PaintLine_l0 : List Int → Nat → Option (LR (GSheet × Bool) (Unit))
  | [], i_0 => some (.out ())
  | x_0 :: r_0, i_0 => (if (rng x_0 (-10000) 10000) = true then p_spec_PaintLine_l0 r_0 (i_0 + 1) else some (.ret ((⟨0, 0, ([] : List Int)⟩ : GSheet), false)))
def p_spec_PaintLine_j3 (s_a0 : GSheet) (x0_a1 : Int) (y0_a2 : Int) (x1_a3 : Int) (y1_a4 : Int) (color_a5 : Int) (n_18 : Int) (k_27 : Int) (s_28 : List Int) (rec_0 : Int → (List Int) → Option (Int × (List Int))) (b_36 : Bool) : Option (Int × (List Int)) := (if b_36 = true then ((p_spec_l1Down (IntKind.i64.wrap ((IntKind.i64.wrap ((IntKind.i64.wrap (2 * k_27)) * (IntKind.i64.wrap (x1_a3 - x0_a1)))) + n_18)) (IntKind.i64.wrap (2 * n_18))).bind fun v38 => ((p_spec_l1Down (IntKind.i64.wrap ((IntKind.i64.wrap ((IntKind.i64.wrap (2 * k_27)) * (IntKind.i64.wrap (y1_a4 - y0_a2)))) + n_18)) (IntKind.i64.wrap (2 * n_18))).bind fun v39 => ((p_spec_l20Put (⟨s_a0.Wide, s_a0.High, s_28⟩ : GSheet) (IntKind.i64.wrap (x0_a1 + v38)) (IntKind.i64.wrap (y0_a2 + v39)) color_a5).bind fun v40 => rec_0 (IntKind.i64.wrap (k_27 + 1)) v40))) else some (k_27, s_28))
def p_spec_PaintLine_l1 (s_a0 : GSheet) (x0_a1 : Int) (y0_a2 : Int) (x1_a3 : Int) (y1_a4 : Int) (color_a5 : Int) (n_18 : Int) : Nat → Int → (List Int) → Option (Int × (List Int))
  | 0, _, _ => none
  | n_1 + 1, k_27, s_28 => (if k_27 ≤ n_18 then p_spec_PaintLine_j3 s_a0 x0_a1 y0_a2 x1_a3 y1_a4 color_a5 n_18 k_27 s_28 (p_spec_PaintLine_l1 s_a0 x0_a1 y0_a2 x1_a3 y1_a4 color_a5 n_18 n_1) (decide (n_18 > 0)) else p_spec_PaintLine_j3 s_a0 x0_a1 y0_a2 x1_a3 y1_a4 color_a5 n_18 k_27 s_28 (p_spec_PaintLine_l1 s_a0 x0_a1 y0_a2 x1_a3 y1_a4 color_a5 n_18 n_1) false)
def p_spec_PaintLine_j2 (N : Nat) (s_a0 : GSheet) (x0_a1 : Int) (y0_a2 : Int) (x1_a3 : Int) (y1_a4 : Int) (color_a5 : Int) (n_18 : Int) (s_19 : List Int) : Option (GSheet × Bool) := ((p_spec_PaintLine_l1 s_a0 x0_a1 y0_a2 x1_a3 y1_a4 color_a5 n_18 N 0 s_19).bind fun q_1 => match q_1 with | (k_27, s_28) => some ((⟨s_a0.Wide, s_a0.High, s_28⟩ : GSheet), true))
def p_spec_PaintLine_j1 (N : Nat) (s_a0 : GSheet) (x0_a1 : Int) (y0_a2 : Int) (x1_a3 : Int) (y1_a4 : Int) (color_a5 : Int) (n_18 : Int) : Option (GSheet × Bool) := (if n_18 = 0 then ((p_spec_l20Put s_a0 x0_a1 y0_a2 color_a5).bind fun v44 => p_spec_PaintLine_j2 N s_a0 x0_a1 y0_a2 x1_a3 y1_a4 color_a5 n_18 v44) else p_spec_PaintLine_j2 N s_a0 x0_a1 y0_a2 x1_a3 y1_a4 color_a5 n_18 s_a0.Pixels)
def p_spec_PaintLine_j0 (N : Nat) (s_a0 : GSheet) (x0_a1 : Int) (y0_a2 : Int) (x1_a3 : Int) (y1_a4 : Int) (color_a5 : Int) (b_2 : Bool) : Option (GSheet × Bool) := (if b_2 = true then some ((⟨0, 0, ([] : List Int)⟩ : GSheet), false) else ((p_spec_PaintLine_l0 ([x0_a1, y0_a2, x1_a3, y1_a4] : List Int) 0).bind fun q_0 => match q_0 with | .ret r_ => some r_ | .out _ => (if s_a0.Pixels.length < 4294967296 then ((p_spec_l1Abs (IntKind.i64.wrap (x1_a3 - x0_a1))).bind fun v16 => ((p_spec_l1Abs (IntKind.i64.wrap (y1_a4 - y0_a2))).bind fun v17 => (if v17 > v16 then p_spec_PaintLine_j1 N s_a0 x0_a1 y0_a2 x1_a3 y1_a4 color_a5 v17 else p_spec_PaintLine_j1 N s_a0 x0_a1 y0_a2 x1_a3 y1_a4 color_a5 v16))) else none)))
theorem p_spec_PaintLine_pv {F C A : Prop} (hF : F) (hC : C) (h : F → C → A := by intro hF hC; first | exact cl_by hF | (refine st_by hF ?_; (repeat' (first | exact trivial | apply And.intro)); all_goals (clear hF; first | rfl | (simp only [hC, List.length_append, List.length_cons, List.length_nil, List.append_nil, List.nil_append, List.cons_append, List.length_set, List.append_assoc, Nat.zero_add, List.length_replicate, esInt_app, esInt_cons, esInt_nil, eInt_eq, esSheet_app, esSheet_cons, esSheet_nil, eSheet_eq, esSheeto_app, esSheeto_cons, esSheeto_nil, eSheeto_eq]; done) | (simp [hC, List.length_append, List.length_cons, List.length_nil, List.append_nil, List.nil_append, List.cons_append, List.length_set, List.append_assoc, Nat.zero_add, List.length_replicate, esInt_app, esInt_cons, esInt_nil, eInt_eq, esSheet_app, esSheet_cons, esSheet_nil, eSheet_eq, esSheeto_app, esSheeto_cons, esSheeto_nil, eSheeto_eq]; done) | omega))) : A := h hF hC
theorem p_spec_PaintLine_sa {F C A : Prop} (hF : F) (hC : C) (h : F → C → A := by intro hF hC; first | exact ca_by hF | (refine sa_by hF ?_; (repeat' (first | exact trivial | apply And.intro)); all_goals (clear hF; first | rfl | (simp only [hC, List.length_append, List.length_cons, List.length_nil, List.append_nil, List.nil_append, List.cons_append, List.length_set, List.append_assoc, Nat.zero_add, List.length_replicate, esInt_app, esInt_cons, esInt_nil, eInt_eq, esSheet_app, esSheet_cons, esSheet_nil, eSheet_eq, esSheeto_app, esSheeto_cons, esSheeto_nil, eSheeto_eq]; done) | (simp [hC, List.length_append, List.length_cons, List.length_nil, List.append_nil, List.nil_append, List.cons_append, List.length_set, List.append_assoc, Nat.zero_add, List.length_replicate, esInt_app, esInt_cons, esInt_nil, eInt_eq, esSheet_app, esSheet_cons, esSheet_nil, eSheet_eq, esSheeto_app, esSheeto_cons, esSheeto_nil, eSheeto_eq]; done) | omega))) : A := h hF hC
theorem p_spec_PaintLine_rt {F C A : Prop} (hF : F) (hC : C) (h : F → C → A := by intro hF hC; first | (refine sr_by hF ?_; (repeat' (first | exact trivial | apply And.intro)); all_goals (clear hF; first | rfl | (simp only [hC, List.length_append, List.length_cons, List.length_nil, List.append_nil, List.nil_append, List.cons_append, List.length_set, List.append_assoc, Nat.zero_add, List.length_replicate, esInt_app, esInt_cons, esInt_nil, eInt_eq, esSheet_app, esSheet_cons, esSheet_nil, eSheet_eq, esSheeto_app, esSheeto_cons, esSheeto_nil, eSheeto_eq]; done) | (simp [hC, List.length_append, List.length_cons, List.length_nil, List.append_nil, List.nil_append, List.cons_append, List.length_set, List.append_assoc, Nat.zero_add, List.length_replicate, esInt_app, esInt_cons, esInt_nil, eInt_eq, esSheet_app, esSheet_cons, esSheet_nil, eSheet_eq, esSheeto_app, esSheeto_cons, esSheeto_nil, eSheeto_eq]; done) | omega)) | (first | rfl | (simp only [hC, List.length_append, List.length_cons, List.length_nil, List.append_nil, List.nil_append, List.cons_append, List.length_set, List.append_assoc, Nat.zero_add, List.length_replicate, esInt_app, esInt_cons, esInt_nil, eInt_eq, esSheet_app, esSheet_cons, esSheet_nil, eSheet_eq, esSheeto_app, esSheeto_cons, esSheeto_nil, eSheeto_eq]; done) | (simp [hC, List.length_append, List.length_cons, List.length_nil, List.append_nil, List.nil_append, List.cons_append, List.length_set, List.append_assoc, Nat.zero_add, List.length_replicate, esInt_app, esInt_cons, esInt_nil, eInt_eq, esSheet_app, esSheet_cons, esSheet_nil, eSheet_eq, esSheeto_app, esSheeto_cons, esSheeto_nil, eSheeto_eq]; done) | omega)) : A := h hF hC
def p_spec_PaintLine_tf := PLift.up (And.intro @eInt_eq (And.intro @esInt_len (And.intro @esInt_nil (And.intro @esInt_leaf (And.intro @esInt_fit (And.intro @eSheet_eq (And.intro @esSheet_len (And.intro @esSheet_nil (And.intro @esSheet_leaf (And.intro @esSheet_fit (And.intro @eSheeto_eq (And.intro @esSheeto_len (And.intro @esSheeto_nil (And.intro @esInt_share (And.intro @esInt_pure (And.intro @esSheeto_share (And.intro @esSheeto_pure (And.intro @str_beq (And.intro @Ty.sl22 (And.intro @Ty.slz22 (And.intro @Ty.nz28 (And.intro @Ty.ldA28 (And.intro @Ty.sz28 (And.intro @Ty.szn28 (And.intro @Ty.nz3 (And.intro @Ty.ldA3 (And.intro @Ty.ldS3 (And.intro @Ty.sz3 (And.intro @Ty.szn3 (And.intro @Ty.nz22 (And.intro @Ty.ldA22 (And.intro @Ty.ldS22 (And.intro @Ty.sz22 (And.intro @Ty.szn22 (And.intro @Ty.fo28_2 (And.intro @Ty.fk28_2 (And.intro @Ty.fs28_2 (And.intro @Ty.fn28_2 (And.intro @Ty.nze22 (And.intro @Ty.zok22 (And.intro @Ty.by22 (And.intro @Ty.zs22 (And.intro @Ty.zv28 (And.intro @Ty.bd28 (And.intro @Ty.ag28 @trivial)))))))))))))))))))))))))))))))))))))))))))))
def p_spec_PaintLine (N : Nat) (s_a0 : GSheet) (x0_a1 : Int) (y0_a2 : Int) (x1_a3 : Int) (y1_a4 : Int) (color_a5 : Int) : Option (GSheet × Bool) := ((p_spec_GoodSheet s_a0).bind fun v1 => (if v1 = true then ((p_spec_l20Color color_a5).bind fun v48 => p_spec_PaintLine_j0 N s_a0 x0_a1 y0_a2 x1_a3 y1_a4 color_a5 (!v48)) else p_spec_PaintLine_j0 N s_a0 x0_a1 y0_a2 x1_a3 y1_a4 color_a5 true))
theorem p_spec_PaintLine_does (N : Nat) (s_a0 : GSheet) (x0_a1 : Int) (y0_a2 : Int) (x1_a3 : Int) (y1_a4 : Int) (color_a5 : Int) (r : GSheet × Bool) (h : p_spec_PaintLine N s_a0 x0_a1 y0_a2 x1_a3 y1_a4 color_a5 = some r) : Does Try.prog 13 [.agg (eSheet s_a0), I x0_a1, I y0_a2, I x1_a3, I y1_a4, I color_a5] (.tup [.agg (eSheeto r.1), B r.2]) := by
  rw [p_spec_PaintLine] at h
  refine Does.bnd (fun hb => ?_)
  have hb2 : s_a0.Pixels.length ≤ 9223372036854775807 := by simpa [AV.fitNs, AV.fitN, eSheet] using hb
  have hl0 := hb2
  refine Does.walk (nt := 106) Try.func13 rfl rfl (by simp) (by decide) rfl (fun G0 X w0 pv => ?_)
  obtain ⟨v1, ev1, h⟩ := Option.bind_eq_some_iff.1 h
  try dsimp only at h
  have ff := p_spec_PaintLine_tf.down
  try refine st_by ff ?_
  repeat' (first | exact trivial | refine And.intro sd ?_)
  first
  | (refine cq_call (p_spec_GoodSheet_does s_a0 v1 ev1) (hf_by ff) kr ⟨p_spec_PaintLine_sa ff trivial, ?_⟩; clear ff)
  | (refine cq_dcall (p_spec_GoodSheet_does s_a0 v1 ev1) (hf_by ff) kr ⟨p_spec_PaintLine_sa ff trivial, ?_⟩; clear ff)
  have ff := p_spec_PaintLine_tf.down
  try refine st_by ff ?_
  repeat' (first | exact trivial | refine And.intro sd ?_)
  try clear ff
  generalize hk_0 : thenK _ _ = kk_0
  have key_0 : ∀ σ, (∃ b_2 : Bool, (p_spec_PaintLine_j0 N s_a0 x0_a1 y0_a2 x1_a3 y1_a4 color_a5 b_2 = some r) ∧ σ.t 1 = I x0_a1 ∧ σ.t 2 = I y0_a2 ∧ σ.t 3 = I x1_a3 ∧ σ.t 4 = I y1_a4 ∧ σ.t 5 = I color_a5 ∧ σ.t 6 = .ptr 6 [] 0 ∧ σ.t 12 = .ptr 12 [] 0 ∧ σ.t 26 = B b_2 ∧ σ.m 6 = some (.box true [I s_a0.Wide, I s_a0.High, .row false 1 s_a0.Pixels.length (esInt s_a0.Pixels)]) ∧ σ.m 12 = some (.box true [I 0, I 0, .row true 1 0 []])) → kk_0 .nm σ := by
    rintro σ ⟨b_2, h, g0_j0, g1_j0, g2_j0, g3_j0, g4_j0, g5_j0, g6_j0, g7_j0, g8_j0, g9_j0⟩
    rw [← hk_0]
    rw [p_spec_PaintLine_j0] at h
    by_cases c3 : b_2 = true
    · rw [if_pos c3] at h
      have dc3 := c3
      have ff := And.intro @g0_j0 (And.intro @g1_j0 (And.intro @g2_j0 (And.intro @g3_j0 (And.intro @g4_j0 (And.intro @g5_j0 (And.intro @g6_j0 (And.intro @g7_j0 (And.intro @g8_j0 (And.intro @g9_j0 (And.intro @dc3 p_spec_PaintLine_tf.down))))))))))
      try refine st_by ff ?_
      repeat' (first | exact trivial | refine And.intro sd ?_)
      cases h
      exact ret_q2 rfl (p_spec_PaintLine_rt ff trivial)
    rw [if_neg c3] at h
    have dc3 := eq_false_of_ne_true c3
    obtain ⟨q_0, eq_0, h⟩ := Option.bind_eq_some_iff.1 h
    have ff := And.intro @g0_j0 (And.intro @g1_j0 (And.intro @g2_j0 (And.intro @g3_j0 (And.intro @g4_j0 (And.intro @g5_j0 (And.intro @g6_j0 (And.intro @g7_j0 (And.intro @g8_j0 (And.intro @g9_j0 (And.intro @dc3 p_spec_PaintLine_tf.down))))))))))
    try refine st_by ff ?_
    repeat' (first | exact trivial | refine And.intro sd ?_)
    refine aw_bnd (r := 32) (p := []) (sz := 1) (n := ([x0_a1, y0_a2, x1_a3, y1_a4] : List Int).length) (cs := esInt ([x0_a1, y0_a2, x1_a3, y1_a4] : List Int)) (p_spec_PaintLine_pv ff trivial) (fun hL_0 => ?_)
    obtain ⟨I_0, hI_0⟩ : ∃ I_ : (Nat) → ASt → Prop, I_ = (fun (i_0 : Nat) σ => (i_0 ≤ ([x0_a1, y0_a2, x1_a3, y1_a4] : List Int).length ∧ p_spec_PaintLine_l0 (([x0_a1, y0_a2, x1_a3, y1_a4] : List Int).drop i_0) i_0 = some q_0) ∧ σ.t 1 = I x0_a1 ∧ σ.t 2 = I y0_a2 ∧ σ.t 3 = I x1_a3 ∧ σ.t 4 = I y1_a4 ∧ σ.t 5 = I color_a5 ∧ σ.t 6 = .ptr 6 [] 0 ∧ σ.t 12 = .ptr 12 [] 0 ∧ σ.t 32 = .sl 32 [] 0 (([x0_a1, y0_a2, x1_a3, y1_a4] : List Int).length) ∧ σ.t 33 = I (([x0_a1, y0_a2, x1_a3, y1_a4] : List Int).length : Int) ∧ σ.t 34 = I (i_0 : Int) ∧ σ.m 6 = some (.box true [I s_a0.Wide, I s_a0.High, .row false 1 s_a0.Pixels.length (esInt s_a0.Pixels)]) ∧ σ.m 12 = some (.box true [I 0, I 0, .row true 1 0 []]) ∧ σ.m 32 = some (.row true 1 ([x0_a1, y0_a2, x1_a3, y1_a4] : List Int).length (esInt ([x0_a1, y0_a2, x1_a3, y1_a4] : List Int)))) := ⟨_, rfl⟩
    obtain ⟨M_0, hM_0⟩ : ∃ M_ : (Nat) → Nat, M_ = (fun (i_0 : Nat) => ([x0_a1, y0_a2, x1_a3, y1_a4] : List Int).length - i_0) := ⟨_, rfl⟩
    obtain ⟨J_0, hJ_0⟩ : ∃ J_ : ASt → Prop, J_ = (fun σ => (some (.out ()) = some q_0) ∧ σ.t 1 = I x0_a1 ∧ σ.t 2 = I y0_a2 ∧ σ.t 3 = I x1_a3 ∧ σ.t 4 = I y1_a4 ∧ σ.t 5 = I color_a5 ∧ σ.t 6 = .ptr 6 [] 0 ∧ σ.t 12 = .ptr 12 [] 0 ∧ σ.m 6 = some (.box true [I s_a0.Wide, I s_a0.High, .row false 1 s_a0.Pixels.length (esInt s_a0.Pixels)]) ∧ σ.m 12 = some (.box true [I 0, I 0, .row true 1 0 []])) := ⟨_, rfl⟩
    refine aw_loopC (id := 0) I_0 M_0 J_0 (0) ?_ ?_ ?_
    · rw [hI_0]
      refine ⟨⟨Nat.zero_le _, eq_0⟩, ?_⟩
      exact p_spec_PaintLine_pv ff trivial
    · try clear ff
      rintro i_0 σ hg_0
      rw [hI_0] at hg_0
      obtain ⟨⟨hi_0, h_0⟩, g0_0, g1_0, g2_0, g3_0, g4_0, g5_0, g6_0, g7_0, g8_0, g9_0, g10_0, g11_0, g12_0⟩ := hg_0
      cases hr_0 : ([x0_a1, y0_a2, x1_a3, y1_a4] : List Int).drop i_0 with
      | nil =>
        rw [hr_0] at h_0
        rw [p_spec_PaintLine_l0] at h_0
        have hn_0 := drop_nil hr_0
        have dr_0 : decide ((i_0 : Int) < ((4 : Nat) : Int)) = false := decide_eq_false (by have hlit_ : ([x0_a1, y0_a2, x1_a3, y1_a4] : List Int).length = 4 := rfl; omega)
        have ff := And.intro @dc3 (And.intro @dr_0 (And.intro @g0_0 (And.intro @g1_0 (And.intro @g2_0 (And.intro @g3_0 (And.intro @g4_0 (And.intro @g5_0 (And.intro @g6_0 (And.intro @g7_0 (And.intro @g8_0 (And.intro @g9_0 (And.intro @g10_0 (And.intro @g11_0 (And.intro @g12_0 p_spec_PaintLine_tf.down))))))))))))))
        try refine st_by ff ?_
        repeat' (first | exact trivial | refine And.intro sd ?_)
        refine JW.intro ?_
        rw [hJ_0]
        refine ⟨h_0, ?_⟩
        exact p_spec_PaintLine_pv ff trivial
      | cons x_0 r_0 =>
        rw [hr_0] at h_0
        rw [p_spec_PaintLine_l0] at h_0
        obtain ⟨ht_0, hg_0, hd_0⟩ := drop_cons hr_0
        have dr_0 : decide ((i_0 : Int) < ((4 : Nat) : Int)) = true := decide_eq_true (by have hlit_ : ([x0_a1, y0_a2, x1_a3, y1_a4] : List Int).length = 4 := rfl; omega)
        have w_0 : IntKind.i64.wrap ((i_0 : Int) + 1) = ((i_0 + 1 : Nat) : Int) := wI _ (by omega) (by omega)
        have hlt_0 : i_0 < 4 := by have hlit_ : ([x0_a1, y0_a2, x1_a3, y1_a4] : List Int).length = 4 := rfl; omega
        have kk0c : (esInt ([x0_a1, y0_a2, x1_a3, y1_a4] : List Int)).drop (i_0 * 1) = eInt x_0 ++ esInt (([x0_a1, y0_a2, x1_a3, y1_a4] : List Int).drop (i_0 + 1)) := drop_enc (fun _ => rfl) (hg_0)
        have kk0d := kk0c
        rw [Nat.mul_one] at kk0d
        have kk0g0 : (esInt ([x0_a1, y0_a2, x1_a3, y1_a4] : List Int)).getD (i_0 * 1) .junk = (eInt x_0).getD 0 .junk := getD_enc0 (enc := eInt) (sz := 1) (fun _ => rfl) (hg_0) (by decide)
        rw [Nat.mul_one] at kk0g0
        have ff := And.intro @dc3 (And.intro @dr_0 (And.intro @w_0 (And.intro @g0_0 (And.intro @g1_0 (And.intro @g2_0 (And.intro @g3_0 (And.intro @g4_0 (And.intro @g5_0 (And.intro @g6_0 (And.intro @g7_0 (And.intro @g8_0 (And.intro @g9_0 (And.intro @g10_0 (And.intro @g11_0 (And.intro @g12_0 (And.intro @kk0c (And.intro @kk0d (And.intro @kk0g0 p_spec_PaintLine_tf.down))))))))))))))))))
        try refine st_by ff ?_
        repeat' (first | exact trivial | refine And.intro sd ?_)
        first
        | (refine cq_call (l1In_does x_0 (-10000) 10000) (hf_by ff) kr ⟨p_spec_PaintLine_sa ff trivial, ?_⟩; clear ff)
        | (refine cq_dcall (l1In_does x_0 (-10000) 10000) (hf_by ff) kr ⟨p_spec_PaintLine_sa ff trivial, ?_⟩; clear ff)
        by_cases c13 : (rng x_0 (-10000) 10000) = true
        case neg =>
         rw [if_neg c13] at h_0
         have dc13 := eq_false_of_ne_true c13
         cases h_0
         try dsimp only at h
         have ff := And.intro @dc3 (And.intro @dr_0 (And.intro @w_0 (And.intro @g0_0 (And.intro @g1_0 (And.intro @g2_0 (And.intro @g3_0 (And.intro @g4_0 (And.intro @g5_0 (And.intro @g6_0 (And.intro @g7_0 (And.intro @g8_0 (And.intro @g9_0 (And.intro @g10_0 (And.intro @g11_0 (And.intro @g12_0 (And.intro @kk0c (And.intro @kk0d (And.intro @kk0g0 (And.intro @dc13 p_spec_PaintLine_tf.down)))))))))))))))))))
         try refine st_by ff ?_
         repeat' (first | exact trivial | refine And.intro sd ?_)
         cases h
         exact ret_q2 rfl (p_spec_PaintLine_rt ff trivial)
        rw [if_pos c13] at h_0
        have dc13 := c13
        have ff := And.intro @dc3 (And.intro @dr_0 (And.intro @w_0 (And.intro @g0_0 (And.intro @g1_0 (And.intro @g2_0 (And.intro @g3_0 (And.intro @g4_0 (And.intro @g5_0 (And.intro @g6_0 (And.intro @g7_0 (And.intro @g8_0 (And.intro @g9_0 (And.intro @g10_0 (And.intro @g11_0 (And.intro @g12_0 (And.intro @kk0c (And.intro @kk0d (And.intro @kk0g0 (And.intro @dc13 p_spec_PaintLine_tf.down)))))))))))))))))))
        try refine st_by ff ?_
        repeat' (first | exact trivial | refine And.intro sd ?_)
        refine Back.intro (i_0 + 1) ?_ ?_
        · clear ff; rw [hM_0]; show ([x0_a1, y0_a2, x1_a3, y1_a4] : List Int).length - (i_0 + 1) < ([x0_a1, y0_a2, x1_a3, y1_a4] : List Int).length - i_0; omega
        rw [hI_0]
        refine ⟨⟨by clear ff; show i_0 + 1 ≤ ([x0_a1, y0_a2, x1_a3, y1_a4] : List Int).length; omega, by show p_spec_PaintLine_l0 (([x0_a1, y0_a2, x1_a3, y1_a4] : List Int).drop (i_0 + 1)) (i_0 + 1) = some q_0; rw [hd_0]; exact h_0⟩, ?_⟩
        exact p_spec_PaintLine_pv ff trivial
    · try clear ff
      rintro σ hg_0
      rw [hJ_0] at hg_0
      obtain ⟨hj_0, g0_0a, g1_0a, g2_0a, g3_0a, g4_0a, g5_0a, g6_0a, g7_0a, g8_0a⟩ := hg_0
      cases hj_0
      try dsimp only at h
      by_cases c14 : s_a0.Pixels.length < 4294967296
      case neg => rw [if_neg c14] at h; cases h
      rw [if_pos c14] at h
      obtain ⟨v16, ev16, h⟩ := Option.bind_eq_some_iff.1 h
      try dsimp only at h
      have ff := And.intro @dc3 (And.intro @g0_0a (And.intro @g1_0a (And.intro @g2_0a (And.intro @g3_0a (And.intro @g4_0a (And.intro @g5_0a (And.intro @g6_0a (And.intro @g7_0a (And.intro @g8_0a p_spec_PaintLine_tf.down)))))))))
      try refine st_by ff ?_
      repeat' (first | exact trivial | refine And.intro sd ?_)
      first
      | (refine cq_call (p_spec_l1Abs_does (IntKind.i64.wrap (x1_a3 - x0_a1)) v16 ev16) (hf_by ff) kr ⟨p_spec_PaintLine_sa ff trivial, ?_⟩; clear ff)
      | (refine cq_dcall (p_spec_l1Abs_does (IntKind.i64.wrap (x1_a3 - x0_a1)) v16 ev16) (hf_by ff) kr ⟨p_spec_PaintLine_sa ff trivial, ?_⟩; clear ff)
      obtain ⟨v17, ev17, h⟩ := Option.bind_eq_some_iff.1 h
      try dsimp only at h
      have ff := And.intro @dc3 (And.intro @g0_0a (And.intro @g1_0a (And.intro @g2_0a (And.intro @g3_0a (And.intro @g4_0a (And.intro @g5_0a (And.intro @g6_0a (And.intro @g7_0a (And.intro @g8_0a p_spec_PaintLine_tf.down)))))))))
      try refine st_by ff ?_
      repeat' (first | exact trivial | refine And.intro sd ?_)
      first
      | (refine cq_call (p_spec_l1Abs_does (IntKind.i64.wrap (y1_a4 - y0_a2)) v17 ev17) (hf_by ff) kr ⟨p_spec_PaintLine_sa ff trivial, ?_⟩; clear ff)
      | (refine cq_dcall (p_spec_l1Abs_does (IntKind.i64.wrap (y1_a4 - y0_a2)) v17 ev17) (hf_by ff) kr ⟨p_spec_PaintLine_sa ff trivial, ?_⟩; clear ff)
      have ff := And.intro @dc3 (And.intro @g0_0a (And.intro @g1_0a (And.intro @g2_0a (And.intro @g3_0a (And.intro @g4_0a (And.intro @g5_0a (And.intro @g6_0a (And.intro @g7_0a (And.intro @g8_0a p_spec_PaintLine_tf.down)))))))))
      try refine st_by ff ?_
      repeat' (first | exact trivial | refine And.intro sd ?_)
      try clear ff
      generalize hk_1 : thenK _ _ = kk_1
      have key_1 : ∀ σ, (∃ n_18 : Int, (p_spec_PaintLine_j1 N s_a0 x0_a1 y0_a2 x1_a3 y1_a4 color_a5 n_18 = some r) ∧ σ.t 1 = I x0_a1 ∧ σ.t 2 = I y0_a2 ∧ σ.t 3 = I x1_a3 ∧ σ.t 4 = I y1_a4 ∧ σ.t 5 = I color_a5 ∧ σ.t 6 = .ptr 6 [] 0 ∧ σ.t 12 = .ptr 12 [] 0 ∧ σ.t 16 = I n_18 ∧ σ.m 6 = some (.box true [I s_a0.Wide, I s_a0.High, .row true 1 s_a0.Pixels.length (esInt s_a0.Pixels)]) ∧ σ.m 12 = some (.box true [I 0, I 0, .row true 1 0 []])) → kk_1 .nm σ := by
        rintro σ ⟨n_18, h, g0_j1, g1_j1, g2_j1, g3_j1, g4_j1, g5_j1, g6_j1, g7_j1, g8_j1, g9_j1⟩
        rw [← hk_1]
        rw [p_spec_PaintLine_j1] at h
        have ff := And.intro @dc3 (And.intro @g0_j1 (And.intro @g1_j1 (And.intro @g2_j1 (And.intro @g3_j1 (And.intro @g4_j1 (And.intro @g5_j1 (And.intro @g6_j1 (And.intro @g7_j1 (And.intro @g8_j1 (And.intro @g9_j1 p_spec_PaintLine_tf.down))))))))))
        try refine st_by ff ?_
        repeat' (first | exact trivial | refine And.intro sd ?_)
        try clear ff
        generalize hk_2 : thenK _ _ = kk_2
        have key_2 : ∀ σ, (∃ s_19 : List Int, (p_spec_PaintLine_j2 N s_a0 x0_a1 y0_a2 x1_a3 y1_a4 color_a5 n_18 s_19 = some r) ∧ σ.t 1 = I x0_a1 ∧ σ.t 2 = I y0_a2 ∧ σ.t 3 = I x1_a3 ∧ σ.t 4 = I y1_a4 ∧ σ.t 5 = I color_a5 ∧ σ.t 6 = .ptr 6 [] 0 ∧ σ.t 12 = .ptr 12 [] 0 ∧ σ.t 16 = I n_18 ∧ σ.m 6 = some (.box true [I s_a0.Wide, I s_a0.High, .row true 1 s_19.length (esInt s_19)]) ∧ σ.m 12 = some (.box true [I 0, I 0, .row true 1 0 []])) → kk_2 .nm σ := by
          rintro σ ⟨s_19, h, g0_j2, g1_j2, g2_j2, g3_j2, g4_j2, g5_j2, g6_j2, g7_j2, g8_j2, g9_j2⟩
          rw [← hk_2]
          rw [p_spec_PaintLine_j2] at h
          obtain ⟨q_1, eq_1, h⟩ := Option.bind_eq_some_iff.1 h
          have ff := And.intro @dc3 (And.intro @g0_j2 (And.intro @g1_j2 (And.intro @g2_j2 (And.intro @g3_j2 (And.intro @g4_j2 (And.intro @g5_j2 (And.intro @g6_j2 (And.intro @g7_j2 (And.intro @g8_j2 (And.intro @g9_j2 p_spec_PaintLine_tf.down))))))))))
          try refine st_by ff ?_
          repeat' (first | exact trivial | refine And.intro sd ?_)
          obtain ⟨I_1, hI_1⟩ : ∃ I_ : (Nat × Int × (List Int)) → ASt → Prop, I_ = (fun (a : Nat × Int × (List Int)) σ => match a with | (n_1, k_27, s_28) => (p_spec_PaintLine_l1 s_a0 x0_a1 y0_a2 x1_a3 y1_a4 color_a5 n_18 n_1 k_27 s_28 = some q_1) ∧ σ.t 1 = I x0_a1 ∧ σ.t 2 = I y0_a2 ∧ σ.t 3 = I x1_a3 ∧ σ.t 4 = I y1_a4 ∧ σ.t 5 = I color_a5 ∧ σ.t 6 = .ptr 6 [] 0 ∧ σ.t 12 = .ptr 12 [] 0 ∧ σ.t 16 = I n_18 ∧ σ.t 18 = I k_27 ∧ σ.m 6 = some (.box true [I s_a0.Wide, I s_a0.High, .row true 1 s_28.length (esInt s_28)]) ∧ σ.m 12 = some (.box true [I 0, I 0, .row true 1 0 []])) := ⟨_, rfl⟩
          obtain ⟨M_1, hM_1⟩ : ∃ M_ : (Nat × Int × (List Int)) → Nat, M_ = (fun (a : Nat × Int × (List Int)) => match a with | (n_1, k_27, s_28) => n_1) := ⟨_, rfl⟩
          obtain ⟨J_1, hJ_1⟩ : ∃ J_ : ASt → Prop, J_ = (fun σ => ∃ k_27 : Int, ∃ s_28 : List Int, (some (k_27, s_28) = some q_1) ∧ σ.t 6 = .ptr 6 [] 0 ∧ σ.t 12 = .ptr 12 [] 0 ∧ σ.m 6 = some (.box true [I s_a0.Wide, I s_a0.High, .row true 1 s_28.length (esInt s_28)]) ∧ σ.m 12 = some (.box true [I 0, I 0, .row true 1 0 []])) := ⟨_, rfl⟩
          refine aw_loopC (id := 2) I_1 M_1 J_1 (N, 0, s_19) ?_ ?_ ?_
          · rw [hI_1]
            refine ⟨eq_1, ?_⟩
            exact p_spec_PaintLine_pv ff trivial
          · try clear ff
            rintro ⟨n_1, k_27, s_28⟩ σ hg_1
            rw [hI_1] at hg_1
            obtain ⟨h_1, g0_1, g1_1, g2_1, g3_1, g4_1, g5_1, g6_1, g7_1, g8_1, g9_1, g10_1⟩ := hg_1
            cases n_1 with
            | zero => rw [p_spec_PaintLine_l1] at h_1; cases h_1
            | succ n_1 =>
              rw [p_spec_PaintLine_l1] at h_1
              have ff := And.intro @dc3 (And.intro @g0_1 (And.intro @g1_1 (And.intro @g2_1 (And.intro @g3_1 (And.intro @g4_1 (And.intro @g5_1 (And.intro @g6_1 (And.intro @g7_1 (And.intro @g8_1 (And.intro @g9_1 (And.intro @g10_1 p_spec_PaintLine_tf.down)))))))))))
              try refine st_by ff ?_
              repeat' (first | exact trivial | refine And.intro sd ?_)
              try clear ff
              generalize hk_3 : thenK _ _ = kk_3
              have key_3 : ∀ σ, (∃ b_36 : Bool, (p_spec_PaintLine_j3 s_a0 x0_a1 y0_a2 x1_a3 y1_a4 color_a5 n_18 k_27 s_28 (p_spec_PaintLine_l1 s_a0 x0_a1 y0_a2 x1_a3 y1_a4 color_a5 n_18 n_1) b_36 = some q_1) ∧ σ.t 1 = I x0_a1 ∧ σ.t 2 = I y0_a2 ∧ σ.t 3 = I x1_a3 ∧ σ.t 4 = I y1_a4 ∧ σ.t 5 = I color_a5 ∧ σ.t 6 = .ptr 6 [] 0 ∧ σ.t 12 = .ptr 12 [] 0 ∧ σ.t 16 = I n_18 ∧ σ.t 18 = I k_27 ∧ σ.t 73 = B b_36 ∧ σ.m 6 = some (.box true [I s_a0.Wide, I s_a0.High, .row true 1 s_28.length (esInt s_28)]) ∧ σ.m 12 = some (.box true [I 0, I 0, .row true 1 0 []])) → kk_3 .nm σ := by
                rintro σ ⟨b_36, h_1, g0_j3, g1_j3, g2_j3, g3_j3, g4_j3, g5_j3, g6_j3, g7_j3, g8_j3, g9_j3, g10_j3, g11_j3⟩
                rw [← hk_3]
                rw [p_spec_PaintLine_j3] at h_1
                by_cases c37 : b_36 = true
                case neg =>
                 rw [if_neg c37] at h_1
                 have dc37 := eq_false_of_ne_true c37
                 have ff := And.intro @dc3 (And.intro @g0_j3 (And.intro @g1_j3 (And.intro @g2_j3 (And.intro @g3_j3 (And.intro @g4_j3 (And.intro @g5_j3 (And.intro @g6_j3 (And.intro @g7_j3 (And.intro @g8_j3 (And.intro @g9_j3 (And.intro @g10_j3 (And.intro @g11_j3 (And.intro @dc37 p_spec_PaintLine_tf.down)))))))))))))
                 try refine st_by ff ?_
                 repeat' (first | exact trivial | refine And.intro sd ?_)
                 refine JW.intro ?_
                 rw [hJ_1]
                 refine ⟨k_27, s_28, h_1, ?_⟩
                 exact p_spec_PaintLine_pv ff trivial
                rw [if_pos c37] at h_1
                have dc37 := c37
                obtain ⟨v38, ev38, h_1⟩ := Option.bind_eq_some_iff.1 h_1
                try dsimp only at h_1
                have ff := And.intro @dc3 (And.intro @g0_j3 (And.intro @g1_j3 (And.intro @g2_j3 (And.intro @g3_j3 (And.intro @g4_j3 (And.intro @g5_j3 (And.intro @g6_j3 (And.intro @g7_j3 (And.intro @g8_j3 (And.intro @g9_j3 (And.intro @g10_j3 (And.intro @g11_j3 (And.intro @dc37 p_spec_PaintLine_tf.down)))))))))))))
                try refine st_by ff ?_
                repeat' (first | exact trivial | refine And.intro sd ?_ | (refine aw_drawn (id := 19) ?_ [[], [], [], [2], [], [], [4, 5], [2, 3, 4, 5, 6], [], [2, 3, 4, 5, 6, 7, 8], [], [10], [2, 3, 4, 5, 6, 7, 8, 9, 10, 11], [1, 2, 3, 4, 5, 6, 7, 8, 9, 10, 11, 12], [], [], [15], [], [], [17, 18], [15, 16, 17, 18, 19], [], [15, 16, 17, 18, 19, 20, 21], [], [23], [2, 3, 4, 5, 6, 7, 8, 9, 10, 11, 12, 15, 16, 17, 18, 19, 20, 21, 22, 23, 24], [2, 3, 4, 5, 6, 7, 8, 9, 10, 11, 12, 14, 15, 16, 17, 18, 19, 20, 21, 22, 23, 24, 25], [], [0, 1, 2, 3, 4, 5, 6, 7, 8, 9, 10, 11, 12, 13, 14, 15, 16, 17, 18, 19, 20, 21, 22, 23, 24, 25, 26, 27]] 28 ?_ ?_; (· kernel_rfl); (· kernel_rfl); refine st_by ff ?_))
                first
                | (refine cq_call (p_spec_l1Down_does (IntKind.i64.wrap ((IntKind.i64.wrap ((IntKind.i64.wrap (2 * k_27)) * (IntKind.i64.wrap (x1_a3 - x0_a1)))) + n_18)) (IntKind.i64.wrap (2 * n_18)) v38 ev38) (hf_by ff) kr ⟨p_spec_PaintLine_sa ff trivial, ?_⟩; clear ff)
                | (refine cq_dcall (p_spec_l1Down_does (IntKind.i64.wrap ((IntKind.i64.wrap ((IntKind.i64.wrap (2 * k_27)) * (IntKind.i64.wrap (x1_a3 - x0_a1)))) + n_18)) (IntKind.i64.wrap (2 * n_18)) v38 ev38) (hf_by ff) kr ⟨p_spec_PaintLine_sa ff trivial, ?_⟩; clear ff)
                obtain ⟨v39, ev39, h_1⟩ := Option.bind_eq_some_iff.1 h_1
                try dsimp only at h_1
                have ff := And.intro @dc3 (And.intro @g0_j3 (And.intro @g1_j3 (And.intro @g2_j3 (And.intro @g3_j3 (And.intro @g4_j3 (And.intro @g5_j3 (And.intro @g6_j3 (And.intro @g7_j3 (And.intro @g8_j3 (And.intro @g9_j3 (And.intro @g10_j3 (And.intro @g11_j3 (And.intro @dc37 p_spec_PaintLine_tf.down)))))))))))))
                try refine st_by ff ?_
                repeat' (first | exact trivial | refine And.intro sd ?_)
                first
                | (refine cq_call (p_spec_l1Down_does (IntKind.i64.wrap ((IntKind.i64.wrap ((IntKind.i64.wrap (2 * k_27)) * (IntKind.i64.wrap (y1_a4 - y0_a2)))) + n_18)) (IntKind.i64.wrap (2 * n_18)) v39 ev39) (hf_by ff) kr ⟨p_spec_PaintLine_sa ff trivial, ?_⟩; clear ff)
                | (refine cq_dcall (p_spec_l1Down_does (IntKind.i64.wrap ((IntKind.i64.wrap ((IntKind.i64.wrap (2 * k_27)) * (IntKind.i64.wrap (y1_a4 - y0_a2)))) + n_18)) (IntKind.i64.wrap (2 * n_18)) v39 ev39) (hf_by ff) kr ⟨p_spec_PaintLine_sa ff trivial, ?_⟩; clear ff)
                obtain ⟨v40, ev40, h_1⟩ := Option.bind_eq_some_iff.1 h_1
                try dsimp only at h_1
                have ff := And.intro @dc3 (And.intro @g0_j3 (And.intro @g1_j3 (And.intro @g2_j3 (And.intro @g3_j3 (And.intro @g4_j3 (And.intro @g5_j3 (And.intro @g6_j3 (And.intro @g7_j3 (And.intro @g8_j3 (And.intro @g9_j3 (And.intro @g10_j3 (And.intro @g11_j3 (And.intro @dc37 p_spec_PaintLine_tf.down)))))))))))))
                try refine st_by ff ?_
                repeat' (first | exact trivial | refine And.intro sd ?_)
                (refine cq_Xs [(6, [2])] (p_spec_l20Put_does (⟨s_a0.Wide, s_a0.High, s_28⟩ : GSheet) (IntKind.i64.wrap (x0_a1 + v38)) (IntKind.i64.wrap (y0_a2 + v39)) color_a5 v40 ev40) (hf_by ff) kr (by decide) ⟨p_spec_PaintLine_sa ff trivial, ?_⟩; clear ff)
                have f41 := p_spec_l20Put_len (⟨s_a0.Wide, s_a0.High, s_28⟩ : GSheet) (IntKind.i64.wrap (x0_a1 + v38)) (IntKind.i64.wrap (y0_a2 + v39)) color_a5 v40 ev40
                have ff := And.intro @dc3 (And.intro @g0_j3 (And.intro @g1_j3 (And.intro @g2_j3 (And.intro @g3_j3 (And.intro @g4_j3 (And.intro @g5_j3 (And.intro @g6_j3 (And.intro @g7_j3 (And.intro @g8_j3 (And.intro @g9_j3 (And.intro @g10_j3 (And.intro @g11_j3 (And.intro @dc37 (And.intro @f41 p_spec_PaintLine_tf.down))))))))))))))
                try refine st_by ff ?_
                repeat' (first | exact trivial | refine And.intro sd ?_)
                refine Back.intro (n_1, (IntKind.i64.wrap (k_27 + 1)), v40) ?_ ?_
                · rw [hM_1]; exact Nat.lt_succ_self _
                rw [hI_1]
                refine ⟨h_1, ?_⟩
                exact p_spec_PaintLine_pv ff trivial
              have hrt_3 := fun σ : ASt => congrFun (congrFun hk_3.symm AX.rt) σ
              have hex_3 := fun (i : Nat) (σ : ASt) => congrFun (congrFun hk_3.symm (AX.ex i)) σ
              by_cases c42 : k_27 ≤ n_18
              case neg =>
               rw [if_neg c42] at h_1
               have dc42 := decide_eq_false c42
               have ff := And.intro @dc3 (And.intro @g0_1 (And.intro @g1_1 (And.intro @g2_1 (And.intro @g3_1 (And.intro @g4_1 (And.intro @g5_1 (And.intro @g6_1 (And.intro @g7_1 (And.intro @g8_1 (And.intro @g9_1 (And.intro @g10_1 (And.intro @hrt_3 (And.intro @hex_3 (And.intro @dc42 p_spec_PaintLine_tf.down))))))))))))))
               try refine st_by ff ?_
               repeat' (first | exact trivial | refine And.intro sd ?_)
               refine key_3 _ ?_
               refine ⟨false, h_1, ?_⟩
               exact p_spec_PaintLine_pv ff trivial
              rw [if_pos c42] at h_1
              have dc42 := decide_eq_true c42
              have ff := And.intro @dc3 (And.intro @g0_1 (And.intro @g1_1 (And.intro @g2_1 (And.intro @g3_1 (And.intro @g4_1 (And.intro @g5_1 (And.intro @g6_1 (And.intro @g7_1 (And.intro @g8_1 (And.intro @g9_1 (And.intro @g10_1 (And.intro @hrt_3 (And.intro @hex_3 (And.intro @dc42 p_spec_PaintLine_tf.down))))))))))))))
              try refine st_by ff ?_
              repeat' (first | exact trivial | refine And.intro sd ?_)
              refine key_3 _ ?_
              refine ⟨decide (n_18 > 0), h_1, ?_⟩
              exact p_spec_PaintLine_pv ff trivial
          · try clear ff
            rintro σ hg_1
            rw [hJ_1] at hg_1
            obtain ⟨k_27, s_28, hj_1, g0_1a, g1_1a, g2_1a, g3_1a⟩ := hg_1
            cases hj_1
            try dsimp only at h
            have ff := And.intro @dc3 (And.intro @g0_1a (And.intro @g1_1a (And.intro @g2_1a (And.intro @g3_1a p_spec_PaintLine_tf.down))))
            try refine st_by ff ?_
            repeat' (first | exact trivial | refine And.intro sd ?_)
            cases h
            exact ret_q2 rfl (p_spec_PaintLine_rt ff trivial)
        have hrt_2 := fun σ : ASt => congrFun (congrFun hk_2.symm AX.rt) σ
        have hex_2 := fun (i : Nat) (σ : ASt) => congrFun (congrFun hk_2.symm (AX.ex i)) σ
        by_cases c43 : n_18 = 0
        case neg =>
         rw [if_neg c43] at h
         have dc43 := beq_no c43
         have ff := And.intro @dc3 (And.intro @g0_j1 (And.intro @g1_j1 (And.intro @g2_j1 (And.intro @g3_j1 (And.intro @g4_j1 (And.intro @g5_j1 (And.intro @g6_j1 (And.intro @g7_j1 (And.intro @g8_j1 (And.intro @g9_j1 (And.intro @hrt_2 (And.intro @hex_2 (And.intro @dc43 p_spec_PaintLine_tf.down)))))))))))))
         try refine st_by ff ?_
         repeat' (first | exact trivial | refine And.intro sd ?_)
         refine key_2 _ ?_
         refine ⟨s_a0.Pixels, h, ?_⟩
         exact p_spec_PaintLine_pv ff trivial
        rw [if_pos c43] at h
        have dc43 := beq_yes c43
        obtain ⟨v44, ev44, h⟩ := Option.bind_eq_some_iff.1 h
        try dsimp only at h
        have ff := And.intro @dc3 (And.intro @g0_j1 (And.intro @g1_j1 (And.intro @g2_j1 (And.intro @g3_j1 (And.intro @g4_j1 (And.intro @g5_j1 (And.intro @g6_j1 (And.intro @g7_j1 (And.intro @g8_j1 (And.intro @g9_j1 (And.intro @hrt_2 (And.intro @hex_2 (And.intro @dc43 p_spec_PaintLine_tf.down)))))))))))))
        try refine st_by ff ?_
        repeat' (first | exact trivial | refine And.intro sd ?_)
        (refine cq_Xs [(6, [2])] (p_spec_l20Put_does s_a0 x0_a1 y0_a2 color_a5 v44 ev44) (hf_by ff) kr (by decide) ⟨p_spec_PaintLine_sa ff trivial, ?_⟩; clear ff)
        have f45 := p_spec_l20Put_len s_a0 x0_a1 y0_a2 color_a5 v44 ev44
        have ff := And.intro @dc3 (And.intro @g0_j1 (And.intro @g1_j1 (And.intro @g2_j1 (And.intro @g3_j1 (And.intro @g4_j1 (And.intro @g5_j1 (And.intro @g6_j1 (And.intro @g7_j1 (And.intro @g8_j1 (And.intro @g9_j1 (And.intro @hrt_2 (And.intro @hex_2 (And.intro @dc43 (And.intro @f45 p_spec_PaintLine_tf.down))))))))))))))
        try refine st_by ff ?_
        repeat' (first | exact trivial | refine And.intro sd ?_)
        refine key_2 _ ?_
        refine ⟨v44, h, ?_⟩
        exact p_spec_PaintLine_pv ff trivial
      have hrt_1 := fun σ : ASt => congrFun (congrFun hk_1.symm AX.rt) σ
      have hex_1 := fun (i : Nat) (σ : ASt) => congrFun (congrFun hk_1.symm (AX.ex i)) σ
      by_cases c46 : v17 > v16
      case neg =>
       rw [if_neg c46] at h
       have dc46 := decide_eq_false c46
       have ff := And.intro @dc3 (And.intro @g0_0a (And.intro @g1_0a (And.intro @g2_0a (And.intro @g3_0a (And.intro @g4_0a (And.intro @g5_0a (And.intro @g6_0a (And.intro @g7_0a (And.intro @g8_0a (And.intro @hrt_1 (And.intro @hex_1 (And.intro @dc46 p_spec_PaintLine_tf.down))))))))))))
       try refine st_by ff ?_
       repeat' (first | exact trivial | refine And.intro sd ?_)
       refine key_1 _ ?_
       refine ⟨v16, h, ?_⟩
       exact p_spec_PaintLine_pv ff trivial
      rw [if_pos c46] at h
      have dc46 := decide_eq_true c46
      have ff := And.intro @dc3 (And.intro @g0_0a (And.intro @g1_0a (And.intro @g2_0a (And.intro @g3_0a (And.intro @g4_0a (And.intro @g5_0a (And.intro @g6_0a (And.intro @g7_0a (And.intro @g8_0a (And.intro @hrt_1 (And.intro @hex_1 (And.intro @dc46 p_spec_PaintLine_tf.down))))))))))))
      try refine st_by ff ?_
      repeat' (first | exact trivial | refine And.intro sd ?_)
      refine key_1 _ ?_
      refine ⟨v17, h, ?_⟩
      exact p_spec_PaintLine_pv ff trivial
  have hrt_0 := fun σ : ASt => congrFun (congrFun hk_0.symm AX.rt) σ
  have hex_0 := fun (i : Nat) (σ : ASt) => congrFun (congrFun hk_0.symm (AX.ex i)) σ
  by_cases c47 : v1 = true
  case neg =>
   rw [if_neg c47] at h
   have dc47 := eq_false_of_ne_true c47
   have ff := And.intro @hrt_0 (And.intro @hex_0 (And.intro @dc47 p_spec_PaintLine_tf.down))
   try refine st_by ff ?_
   repeat' (first | exact trivial | refine And.intro sd ?_)
   refine key_0 _ ?_
   refine ⟨true, h, ?_⟩
   exact p_spec_PaintLine_pv ff trivial
  rw [if_pos c47] at h
  have dc47 := c47
  obtain ⟨v48, ev48, h⟩ := Option.bind_eq_some_iff.1 h
  try dsimp only at h
  have ff := And.intro @hrt_0 (And.intro @hex_0 (And.intro @dc47 p_spec_PaintLine_tf.down))
  try refine st_by ff ?_
  repeat' (first | exact trivial | refine And.intro sd ?_)
  first
  | (refine cq_call (p_spec_l20Color_does color_a5 v48 ev48) (hf_by ff) kr ⟨p_spec_PaintLine_sa ff trivial, ?_⟩; clear ff)
  | (refine cq_dcall (p_spec_l20Color_does color_a5 v48 ev48) (hf_by ff) kr ⟨p_spec_PaintLine_sa ff trivial, ?_⟩; clear ff)
  have ff := And.intro @hrt_0 (And.intro @hex_0 (And.intro @dc47 p_spec_PaintLine_tf.down))
  try refine st_by ff ?_
  repeat' (first | exact trivial | refine And.intro sd ?_)
  refine key_0 _ ?_
  refine ⟨!v48, h, ?_⟩
  exact p_spec_PaintLine_pv ff trivial
/-! impl.size -/
theorem p_impl_size_pv {F C A : Prop} (hF : F) (hC : C) (h : F → C → A := by intro hF hC; first | exact cl_by hF | (refine st_by hF ?_; (repeat' (first | exact trivial | apply And.intro)); all_goals (clear hF; first | rfl | (simp only [hC, List.length_append, List.length_cons, List.length_nil, List.append_nil, List.nil_append, List.cons_append, List.length_set, List.append_assoc, Nat.zero_add, List.length_replicate]; done) | (simp [hC, List.length_append, List.length_cons, List.length_nil, List.append_nil, List.nil_append, List.cons_append, List.length_set, List.append_assoc, Nat.zero_add, List.length_replicate]; done) | omega))) : A := h hF hC
theorem p_impl_size_sa {F C A : Prop} (hF : F) (hC : C) (h : F → C → A := by intro hF hC; first | exact ca_by hF | (refine sa_by hF ?_; (repeat' (first | exact trivial | apply And.intro)); all_goals (clear hF; first | rfl | (simp only [hC, List.length_append, List.length_cons, List.length_nil, List.append_nil, List.nil_append, List.cons_append, List.length_set, List.append_assoc, Nat.zero_add, List.length_replicate]; done) | (simp [hC, List.length_append, List.length_cons, List.length_nil, List.append_nil, List.nil_append, List.cons_append, List.length_set, List.append_assoc, Nat.zero_add, List.length_replicate]; done) | omega))) : A := h hF hC
theorem p_impl_size_rt {F C A : Prop} (hF : F) (hC : C) (h : F → C → A := by intro hF hC; first | (refine sr_by hF ?_; (repeat' (first | exact trivial | apply And.intro)); all_goals (clear hF; first | rfl | (simp only [hC, List.length_append, List.length_cons, List.length_nil, List.append_nil, List.nil_append, List.cons_append, List.length_set, List.append_assoc, Nat.zero_add, List.length_replicate]; done) | (simp [hC, List.length_append, List.length_cons, List.length_nil, List.append_nil, List.nil_append, List.cons_append, List.length_set, List.append_assoc, Nat.zero_add, List.length_replicate]; done) | omega)) | (first | rfl | (simp only [hC, List.length_append, List.length_cons, List.length_nil, List.append_nil, List.nil_append, List.cons_append, List.length_set, List.append_assoc, Nat.zero_add, List.length_replicate]; done) | (simp [hC, List.length_append, List.length_cons, List.length_nil, List.append_nil, List.nil_append, List.cons_append, List.length_set, List.append_assoc, Nat.zero_add, List.length_replicate]; done) | omega)) : A := h hF hC
def p_impl_size_tf := PLift.up (And.intro @str_beq @trivial)
def p_impl_size (n_a0 : Int) : Option (Int) := some (if (IntKind.i64.wrap (0 - n_a0)) > n_a0 then (IntKind.i64.wrap (0 - n_a0)) else n_a0)
theorem p_impl_size_does (n_a0 : Int) (r : Int) (h : p_impl_size n_a0 = some r) : Does Try.prog 33 [I n_a0] (I r) := by
  rw [p_impl_size] at h
  refine Does.walk (nt := 7) Try.func33 rfl rfl (by simp) (by decide) rfl (fun G0 X w0 pv => ?_)
  have ff := p_impl_size_tf.down
  try refine st_by ff ?_
  repeat' (first | exact trivial | refine And.intro sd ?_)
  cases h
  exact ret_q1 rfl (p_impl_size_rt ff trivial)
/-! impl.down -/
theorem p_impl_down_pv {F C A : Prop} (hF : F) (hC : C) (h : F → C → A := by intro hF hC; first | exact cl_by hF | (refine st_by hF ?_; (repeat' (first | exact trivial | apply And.intro)); all_goals (clear hF; first | rfl | (simp only [hC, List.length_append, List.length_cons, List.length_nil, List.append_nil, List.nil_append, List.cons_append, List.length_set, List.append_assoc, Nat.zero_add, List.length_replicate]; done) | (simp [hC, List.length_append, List.length_cons, List.length_nil, List.append_nil, List.nil_append, List.cons_append, List.length_set, List.append_assoc, Nat.zero_add, List.length_replicate]; done) | omega))) : A := h hF hC
theorem p_impl_down_sa {F C A : Prop} (hF : F) (hC : C) (h : F → C → A := by intro hF hC; first | exact ca_by hF | (refine sa_by hF ?_; (repeat' (first | exact trivial | apply And.intro)); all_goals (clear hF; first | rfl | (simp only [hC, List.length_append, List.length_cons, List.length_nil, List.append_nil, List.nil_append, List.cons_append, List.length_set, List.append_assoc, Nat.zero_add, List.length_replicate]; done) | (simp [hC, List.length_append, List.length_cons, List.length_nil, List.append_nil, List.nil_append, List.cons_append, List.length_set, List.append_assoc, Nat.zero_add, List.length_replicate]; done) | omega))) : A := h hF hC
theorem p_impl_down_rt {F C A : Prop} (hF : F) (hC : C) (h : F → C → A := by intro hF hC; first | (refine sr_by hF ?_; (repeat' (first | exact trivial | apply And.intro)); all_goals (clear hF; first | rfl | (simp only [hC, List.length_append, List.length_cons, List.length_nil, List.append_nil, List.nil_append, List.cons_append, List.length_set, List.append_assoc, Nat.zero_add, List.length_replicate]; done) | (simp [hC, List.length_append, List.length_cons, List.length_nil, List.append_nil, List.nil_append, List.cons_append, List.length_set, List.append_assoc, Nat.zero_add, List.length_replicate]; done) | omega)) | (first | rfl | (simp only [hC, List.length_append, List.length_cons, List.length_nil, List.append_nil, List.nil_append, List.cons_append, List.length_set, List.append_assoc, Nat.zero_add, List.length_replicate]; done) | (simp [hC, List.length_append, List.length_cons, List.length_nil, List.append_nil, List.nil_append, List.cons_append, List.length_set, List.append_assoc, Nat.zero_add, List.length_replicate]; done) | omega)) : A := h hF hC
def p_impl_down_tf := PLift.up (And.intro @str_beq @trivial)
def p_impl_down (a_a0 : Int) (b_a1 : Int) : Option (Int) := (if b_a1 ≠ 0 then (if (Int.tmod a_a0 b_a1) < 0 then some (IntKind.i64.wrap ((IntKind.i64.wrap (Int.tdiv a_a0 b_a1)) - 1)) else some (IntKind.i64.wrap (Int.tdiv a_a0 b_a1))) else none)
theorem p_impl_down_does (a_a0 : Int) (b_a1 : Int) (r : Int) (h : p_impl_down a_a0 b_a1 = some r) : Does Try.prog 34 [I a_a0, I b_a1] (I r) := by
  rw [p_impl_down] at h
  refine Does.walk (nt := 16) Try.func34 rfl rfl (by simp) (by decide) rfl (fun G0 X w0 pv => ?_)
  by_cases c1 : b_a1 ≠ 0
  case neg => rw [if_neg c1] at h; cases h
  rw [if_pos c1] at h
  by_cases c2 : (Int.tmod a_a0 b_a1) < 0
  case neg =>
   rw [if_neg c2] at h
   have dc2 := decide_eq_false c2
   have ff := And.intro @dc2 p_impl_down_tf.down
   try refine st_by ff ?_
   repeat' (first | exact trivial | refine And.intro sd ?_)
   cases h
   exact ret_q1 rfl (p_impl_down_rt ff trivial)
  rw [if_pos c2] at h
  have dc2 := decide_eq_true c2
  have ff := And.intro @dc2 p_impl_down_tf.down
  try refine st_by ff ?_
  repeat' (first | exact trivial | refine And.intro sd ?_)
  cases h
  exact ret_q1 rfl (p_impl_down_rt ff trivial)
/-! impl.PaintLine -/
def p_impl_PaintLine_l0 (x0_a1 : Int) (y0_a2 : Int) (x1_a3 : Int) (y1_a4 : Int) (color_a5 : Int) (v4 : GSheet) (v5 : Int) (v6 : Int) : Nat → Int → (List Int) → Option (Int × (List Int))
  | 0, _, _ => none
  | n_0 + 1, k_15, out_16 => (if k_15 ≤ (if v6 > v5 then v6 else v5) then (if (if v6 > v5 then v6 else v5) = 0 then ((p_impl_Sheet_paint (⟨v4.Wide, v4.High, out_16⟩ : GSheet) x0_a1 y0_a2 color_a5).bind fun v27 => some (k_15, v27)) else ((p_impl_down (IntKind.i64.wrap ((IntKind.i64.wrap ((IntKind.i64.wrap (2 * k_15)) * (IntKind.i64.wrap (x1_a3 - x0_a1)))) + (if v6 > v5 then v6 else v5))) (IntKind.i64.wrap (2 * (if v6 > v5 then v6 else v5)))).bind fun v29 => ((p_impl_down (IntKind.i64.wrap ((IntKind.i64.wrap ((IntKind.i64.wrap (2 * k_15)) * (IntKind.i64.wrap (y1_a4 - y0_a2)))) + (if v6 > v5 then v6 else v5))) (IntKind.i64.wrap (2 * (if v6 > v5 then v6 else v5)))).bind fun v30 => ((p_impl_Sheet_paint (⟨v4.Wide, v4.High, out_16⟩ : GSheet) (IntKind.i64.wrap (x0_a1 + v29)) (IntKind.i64.wrap (y0_a2 + v30)) color_a5).bind fun v31 => p_impl_PaintLine_l0 x0_a1 y0_a2 x1_a3 y1_a4 color_a5 v4 v5 v6 n_0 (IntKind.i64.wrap (k_15 + 1)) v31)))) else some (k_15, out_16))
def p_impl_PaintLine_j0 (N : Nat) (s_a0 : GSheet) (x0_a1 : Int) (y0_a2 : Int) (x1_a3 : Int) (y1_a4 : Int) (color_a5 : Int) (b_2 : Bool) : Option (GSheet × Bool) := (if b_2 = true then some ((⟨0, 0, ([] : List Int)⟩ : GSheet), false) else ((p_impl_Sheet_clone s_a0).bind fun v4 => ((p_impl_size (IntKind.i64.wrap (x1_a3 - x0_a1))).bind fun v5 => ((p_impl_size (IntKind.i64.wrap (y1_a4 - y0_a2))).bind fun v6 => ((p_impl_PaintLine_l0 x0_a1 y0_a2 x1_a3 y1_a4 color_a5 v4 v5 v6 N 0 v4.Pixels).bind fun q_0 => match q_0 with | (k_15, out_16) => some ((⟨v4.Wide, v4.High, out_16⟩ : GSheet), true))))))
theorem p_impl_PaintLine_pv {F C A : Prop} (hF : F) (hC : C) (h : F → C → A := by intro hF hC; first | exact cl_by hF | (refine st_by hF ?_; (repeat' (first | exact trivial | apply And.intro)); all_goals (clear hF; first | rfl | (simp only [hC, List.length_append, List.length_cons, List.length_nil, List.append_nil, List.nil_append, List.cons_append, List.length_set, List.append_assoc, Nat.zero_add, List.length_replicate, esInt_app, esInt_cons, esInt_nil, eInt_eq, esSheet_app, esSheet_cons, esSheet_nil, eSheet_eq, esSheeto_app, esSheeto_cons, esSheeto_nil, eSheeto_eq]; done) | (simp [hC, List.length_append, List.length_cons, List.length_nil, List.append_nil, List.nil_append, List.cons_append, List.length_set, List.append_assoc, Nat.zero_add, List.length_replicate, esInt_app, esInt_cons, esInt_nil, eInt_eq, esSheet_app, esSheet_cons, esSheet_nil, eSheet_eq, esSheeto_app, esSheeto_cons, esSheeto_nil, eSheeto_eq]; done) | omega))) : A := h hF hC
theorem p_impl_PaintLine_sa {F C A : Prop} (hF : F) (hC : C) (h : F → C → A := by intro hF hC; first | exact ca_by hF | (refine sa_by hF ?_; (repeat' (first | exact trivial | apply And.intro)); all_goals (clear hF; first | rfl | (simp only [hC, List.length_append, List.length_cons, List.length_nil, List.append_nil, List.nil_append, List.cons_append, List.length_set, List.append_assoc, Nat.zero_add, List.length_replicate, esInt_app, esInt_cons, esInt_nil, eInt_eq, esSheet_app, esSheet_cons, esSheet_nil, eSheet_eq, esSheeto_app, esSheeto_cons, esSheeto_nil, eSheeto_eq]; done) | (simp [hC, List.length_append, List.length_cons, List.length_nil, List.append_nil, List.nil_append, List.cons_append, List.length_set, List.append_assoc, Nat.zero_add, List.length_replicate, esInt_app, esInt_cons, esInt_nil, eInt_eq, esSheet_app, esSheet_cons, esSheet_nil, eSheet_eq, esSheeto_app, esSheeto_cons, esSheeto_nil, eSheeto_eq]; done) | omega))) : A := h hF hC
theorem p_impl_PaintLine_rt {F C A : Prop} (hF : F) (hC : C) (h : F → C → A := by intro hF hC; first | (refine sr_by hF ?_; (repeat' (first | exact trivial | apply And.intro)); all_goals (clear hF; first | rfl | (simp only [hC, List.length_append, List.length_cons, List.length_nil, List.append_nil, List.nil_append, List.cons_append, List.length_set, List.append_assoc, Nat.zero_add, List.length_replicate, esInt_app, esInt_cons, esInt_nil, eInt_eq, esSheet_app, esSheet_cons, esSheet_nil, eSheet_eq, esSheeto_app, esSheeto_cons, esSheeto_nil, eSheeto_eq]; done) | (simp [hC, List.length_append, List.length_cons, List.length_nil, List.append_nil, List.nil_append, List.cons_append, List.length_set, List.append_assoc, Nat.zero_add, List.length_replicate, esInt_app, esInt_cons, esInt_nil, eInt_eq, esSheet_app, esSheet_cons, esSheet_nil, eSheet_eq, esSheeto_app, esSheeto_cons, esSheeto_nil, eSheeto_eq]; done) | omega)) | (first | rfl | (simp only [hC, List.length_append, List.length_cons, List.length_nil, List.append_nil, List.nil_append, List.cons_append, List.length_set, List.append_assoc, Nat.zero_add, List.length_replicate, esInt_app, esInt_cons, esInt_nil, eInt_eq, esSheet_app, esSheet_cons, esSheet_nil, eSheet_eq, esSheeto_app, esSheeto_cons, esSheeto_nil, eSheeto_eq]; done) | (simp [hC, List.length_append, List.length_cons, List.length_nil, List.append_nil, List.nil_append, List.cons_append, List.length_set, List.append_assoc, Nat.zero_add, List.length_replicate, esInt_app, esInt_cons, esInt_nil, eInt_eq, esSheet_app, esSheet_cons, esSheet_nil, eSheet_eq, esSheeto_app, esSheeto_cons, esSheeto_nil, eSheeto_eq]; done) | omega)) : A := h hF hC
def p_impl_PaintLine_tf := PLift.up (And.intro @eInt_eq (And.intro @esInt_len (And.intro @esInt_nil (And.intro @esInt_leaf (And.intro @esInt_fit (And.intro @eSheet_eq (And.intro @esSheet_len (And.intro @esSheet_nil (And.intro @esSheet_leaf (And.intro @esSheet_fit (And.intro @eSheeto_eq (And.intro @esSheeto_len (And.intro @esSheeto_nil (And.intro @esInt_share (And.intro @esInt_pure (And.intro @esSheeto_share (And.intro @esSheeto_pure (And.intro @str_beq (And.intro @Ty.nz28 (And.intro @Ty.ldA28 (And.intro @Ty.sz28 (And.intro @Ty.szn28 (And.intro @Ty.zv28 (And.intro @Ty.bd28 (And.intro @Ty.ag28 @trivial)))))))))))))))))))))))))
def p_impl_PaintLine (N : Nat) (s_a0 : GSheet) (x0_a1 : Int) (y0_a2 : Int) (x1_a3 : Int) (y1_a4 : Int) (color_a5 : Int) : Option (GSheet × Bool) := ((p_impl_GoodSheet s_a0).bind fun v1 => (if v1 = true then ((p_impl_isRoom x0_a1).bind fun v34 => (if v34 = true then ((p_impl_isRoom y0_a2).bind fun v36 => (if v36 = true then ((p_impl_isRoom x1_a3).bind fun v38 => (if v38 = true then ((p_impl_isRoom y1_a4).bind fun v40 => (if v40 = true then ((p_impl_isColor color_a5).bind fun v42 => p_impl_PaintLine_j0 N s_a0 x0_a1 y0_a2 x1_a3 y1_a4 color_a5 (!v42)) else p_impl_PaintLine_j0 N s_a0 x0_a1 y0_a2 x1_a3 y1_a4 color_a5 true)) else p_impl_PaintLine_j0 N s_a0 x0_a1 y0_a2 x1_a3 y1_a4 color_a5 true)) else p_impl_PaintLine_j0 N s_a0 x0_a1 y0_a2 x1_a3 y1_a4 color_a5 true)) else p_impl_PaintLine_j0 N s_a0 x0_a1 y0_a2 x1_a3 y1_a4 color_a5 true)) else p_impl_PaintLine_j0 N s_a0 x0_a1 y0_a2 x1_a3 y1_a4 color_a5 true))
theorem p_impl_PaintLine_does (N : Nat) (s_a0 : GSheet) (x0_a1 : Int) (y0_a2 : Int) (x1_a3 : Int) (y1_a4 : Int) (color_a5 : Int) (r : GSheet × Bool) (h : p_impl_PaintLine N s_a0 x0_a1 y0_a2 x1_a3 y1_a4 color_a5 = some r) : Does Try.prog 14 [.agg (eSheet s_a0), I x0_a1, I y0_a2, I x1_a3, I y1_a4, I color_a5] (.tup [.agg (eSheeto r.1), B r.2]) := by
  rw [p_impl_PaintLine] at h
  refine Does.bnd (fun hb => ?_)
  have hb2 : s_a0.Pixels.length ≤ 9223372036854775807 := by simpa [AV.fitNs, AV.fitN, eSheet] using hb
  have hl0 := hb2
  refine Does.walk (nt := 99) Try.func14 rfl rfl (by simp) (by decide) rfl (fun G0 X w0 pv => ?_)
  obtain ⟨v1, ev1, h⟩ := Option.bind_eq_some_iff.1 h
  try dsimp only at h
  have ff := p_impl_PaintLine_tf.down
  try refine st_by ff ?_
  repeat' (first | exact trivial | refine And.intro sd ?_)
  first
  | (refine cq_call (p_impl_GoodSheet_does s_a0 v1 ev1) (hf_by ff) kr ⟨p_impl_PaintLine_sa ff trivial, ?_⟩; clear ff)
  | (refine cq_dcall (p_impl_GoodSheet_does s_a0 v1 ev1) (hf_by ff) kr ⟨p_impl_PaintLine_sa ff trivial, ?_⟩; clear ff)
  have ff := p_impl_PaintLine_tf.down
  try refine st_by ff ?_
  repeat' (first | exact trivial | refine And.intro sd ?_)
  try clear ff
  generalize hk_0 : thenK _ _ = kk_0
  have key_0 : ∀ σ, (∃ b_2 : Bool, (p_impl_PaintLine_j0 N s_a0 x0_a1 y0_a2 x1_a3 y1_a4 color_a5 b_2 = some r) ∧ σ.t 1 = I x0_a1 ∧ σ.t 2 = I y0_a2 ∧ σ.t 3 = I x1_a3 ∧ σ.t 4 = I y1_a4 ∧ σ.t 5 = I color_a5 ∧ σ.t 6 = .ptr 6 [] 0 ∧ σ.t 12 = .ptr 12 [] 0 ∧ σ.t 44 = B b_2 ∧ σ.m 6 = some (.box true [I s_a0.Wide, I s_a0.High, .row false 1 s_a0.Pixels.length (esInt s_a0.Pixels)]) ∧ σ.m 12 = some (.box true [I 0, I 0, .row true 1 0 []])) → kk_0 .nm σ := by
    rintro σ ⟨b_2, h, g0_j0, g1_j0, g2_j0, g3_j0, g4_j0, g5_j0, g6_j0, g7_j0, g8_j0, g9_j0⟩
    rw [← hk_0]
    rw [p_impl_PaintLine_j0] at h
    by_cases c3 : b_2 = true
    · rw [if_pos c3] at h
      have dc3 := c3
      have ff := And.intro @g0_j0 (And.intro @g1_j0 (And.intro @g2_j0 (And.intro @g3_j0 (And.intro @g4_j0 (And.intro @g5_j0 (And.intro @g6_j0 (And.intro @g7_j0 (And.intro @g8_j0 (And.intro @g9_j0 (And.intro @dc3 p_impl_PaintLine_tf.down))))))))))
      try refine st_by ff ?_
      repeat' (first | exact trivial | refine And.intro sd ?_)
      cases h
      exact ret_q2 rfl (p_impl_PaintLine_rt ff trivial)
    rw [if_neg c3] at h
    have dc3 := eq_false_of_ne_true c3
    obtain ⟨v4, ev4, h⟩ := Option.bind_eq_some_iff.1 h
    try dsimp only at h
    have ff := And.intro @g0_j0 (And.intro @g1_j0 (And.intro @g2_j0 (And.intro @g3_j0 (And.intro @g4_j0 (And.intro @g5_j0 (And.intro @g6_j0 (And.intro @g7_j0 (And.intro @g8_j0 (And.intro @g9_j0 (And.intro @dc3 p_impl_PaintLine_tf.down))))))))))
    try refine st_by ff ?_
    repeat' (first | exact trivial | refine And.intro sd ?_)
    first
    | (refine cq_own (p_impl_Sheet_clone_does s_a0 v4 ev4) (hf_by ff) kr ⟨p_impl_PaintLine_sa ff trivial, ?_⟩; clear ff)
    | (refine cq_down (p_impl_Sheet_clone_does s_a0 v4 ev4) (hf_by ff) kr ⟨p_impl_PaintLine_sa ff trivial, ?_⟩; clear ff)
    obtain ⟨v5, ev5, h⟩ := Option.bind_eq_some_iff.1 h
    try dsimp only at h
    have ff := And.intro @g0_j0 (And.intro @g1_j0 (And.intro @g2_j0 (And.intro @g3_j0 (And.intro @g4_j0 (And.intro @g5_j0 (And.intro @g6_j0 (And.intro @g7_j0 (And.intro @g8_j0 (And.intro @g9_j0 (And.intro @dc3 p_impl_PaintLine_tf.down))))))))))
    try refine st_by ff ?_
    repeat' (first | exact trivial | refine And.intro sd ?_)
    first
    | (refine cq_call (p_impl_size_does (IntKind.i64.wrap (x1_a3 - x0_a1)) v5 ev5) (hf_by ff) kr ⟨p_impl_PaintLine_sa ff trivial, ?_⟩; clear ff)
    | (refine cq_dcall (p_impl_size_does (IntKind.i64.wrap (x1_a3 - x0_a1)) v5 ev5) (hf_by ff) kr ⟨p_impl_PaintLine_sa ff trivial, ?_⟩; clear ff)
    obtain ⟨v6, ev6, h⟩ := Option.bind_eq_some_iff.1 h
    try dsimp only at h
    have ff := And.intro @g0_j0 (And.intro @g1_j0 (And.intro @g2_j0 (And.intro @g3_j0 (And.intro @g4_j0 (And.intro @g5_j0 (And.intro @g6_j0 (And.intro @g7_j0 (And.intro @g8_j0 (And.intro @g9_j0 (And.intro @dc3 p_impl_PaintLine_tf.down))))))))))
    try refine st_by ff ?_
    repeat' (first | exact trivial | refine And.intro sd ?_)
    first
    | (refine cq_call (p_impl_size_does (IntKind.i64.wrap (y1_a4 - y0_a2)) v6 ev6) (hf_by ff) kr ⟨p_impl_PaintLine_sa ff trivial, ?_⟩; clear ff)
    | (refine cq_dcall (p_impl_size_does (IntKind.i64.wrap (y1_a4 - y0_a2)) v6 ev6) (hf_by ff) kr ⟨p_impl_PaintLine_sa ff trivial, ?_⟩; clear ff)
    obtain ⟨q_0, eq_0, h⟩ := Option.bind_eq_some_iff.1 h
    have ff := And.intro @g0_j0 (And.intro @g1_j0 (And.intro @g2_j0 (And.intro @g3_j0 (And.intro @g4_j0 (And.intro @g5_j0 (And.intro @g6_j0 (And.intro @g7_j0 (And.intro @g8_j0 (And.intro @g9_j0 (And.intro @dc3 p_impl_PaintLine_tf.down))))))))))
    try refine st_by ff ?_
    repeat' (first | exact trivial | refine And.intro sd ?_)
    obtain ⟨I_0, hI_0⟩ : ∃ I_ : (Nat × Int × (List Int)) → ASt → Prop, I_ = (fun (a : Nat × Int × (List Int)) σ => match a with | (n_0, k_15, out_16) => (p_impl_PaintLine_l0 x0_a1 y0_a2 x1_a3 y1_a4 color_a5 v4 v5 v6 n_0 k_15 out_16 = some q_0) ∧ σ.t 1 = I x0_a1 ∧ σ.t 2 = I y0_a2 ∧ σ.t 3 = I x1_a3 ∧ σ.t 4 = I y1_a4 ∧ σ.t 5 = I color_a5 ∧ σ.t 12 = .ptr 12 [] 0 ∧ σ.t 14 = .ptr 14 [] 0 ∧ σ.t 15 = I (if v6 > v5 then v6 else v5) ∧ σ.t 16 = I k_15 ∧ σ.m 12 = some (.box true [I 0, I 0, .row true 1 0 []]) ∧ σ.m 14 = some (.box true [I v4.Wide, I v4.High, .row true 1 out_16.length (esInt out_16)])) := ⟨_, rfl⟩
    obtain ⟨M_0, hM_0⟩ : ∃ M_ : (Nat × Int × (List Int)) → Nat, M_ = (fun (a : Nat × Int × (List Int)) => match a with | (n_0, k_15, out_16) => n_0) := ⟨_, rfl⟩
    obtain ⟨J_0, hJ_0⟩ : ∃ J_ : ASt → Prop, J_ = (fun σ => ∃ k_15 : Int, ∃ out_16 : List Int, (some (k_15, out_16) = some q_0) ∧ σ.t 12 = .ptr 12 [] 0 ∧ σ.t 14 = .ptr 14 [] 0 ∧ σ.m 12 = some (.box true [I 0, I 0, .row true 1 0 []]) ∧ σ.m 14 = some (.box true [I v4.Wide, I v4.High, .row true 1 out_16.length (esInt out_16)])) := ⟨_, rfl⟩
    refine aw_loopC (id := 0) I_0 M_0 J_0 (N, 0, v4.Pixels) ?_ ?_ ?_
    · rw [hI_0]
      refine ⟨eq_0, ?_⟩
      exact p_impl_PaintLine_pv ff trivial
    · try clear ff
      rintro ⟨n_0, k_15, out_16⟩ σ hg_0
      rw [hI_0] at hg_0
      obtain ⟨h_0, g0_0, g1_0, g2_0, g3_0, g4_0, g5_0, g6_0, g7_0, g8_0, g9_0, g10_0⟩ := hg_0
      cases n_0 with
      | zero => rw [p_impl_PaintLine_l0] at h_0; cases h_0
      | succ n_0 =>
        rw [p_impl_PaintLine_l0] at h_0
        by_cases c25 : k_15 ≤ (if v6 > v5 then v6 else v5)
        case neg =>
         rw [if_neg c25] at h_0
         have dc25 := decide_eq_false c25
         have ff := And.intro @dc3 (And.intro @g0_0 (And.intro @g1_0 (And.intro @g2_0 (And.intro @g3_0 (And.intro @g4_0 (And.intro @g5_0 (And.intro @g6_0 (And.intro @g7_0 (And.intro @g8_0 (And.intro @g9_0 (And.intro @g10_0 (And.intro @dc25 p_impl_PaintLine_tf.down))))))))))))
         try refine st_by ff ?_
         repeat' (first | exact trivial | refine And.intro sd ?_)
         refine JW.intro ?_
         rw [hJ_0]
         refine ⟨k_15, out_16, h_0, ?_⟩
         exact p_impl_PaintLine_pv ff trivial
        rw [if_pos c25] at h_0
        have dc25 := decide_eq_true c25
        by_cases c26 : (if v6 > v5 then v6 else v5) = 0
        · rw [if_pos c26] at h_0
          have dc26 := beq_yes c26
          obtain ⟨v27, ev27, h_0⟩ := Option.bind_eq_some_iff.1 h_0
          try dsimp only at h_0
          have ff := And.intro @dc3 (And.intro @g0_0 (And.intro @g1_0 (And.intro @g2_0 (And.intro @g3_0 (And.intro @g4_0 (And.intro @g5_0 (And.intro @g6_0 (And.intro @g7_0 (And.intro @g8_0 (And.intro @g9_0 (And.intro @g10_0 (And.intro @dc25 (And.intro @dc26 p_impl_PaintLine_tf.down)))))))))))))
          try refine st_by ff ?_
          repeat' (first | exact trivial | refine And.intro sd ?_)
          (refine cq_Xs [(14, [2])] (p_impl_Sheet_paint_does (⟨v4.Wide, v4.High, out_16⟩ : GSheet) x0_a1 y0_a2 color_a5 v27 ev27) (hf_by ff) kr (by decide) ⟨p_impl_PaintLine_sa ff trivial, ?_⟩; clear ff)
          have f28 := p_impl_Sheet_paint_len (⟨v4.Wide, v4.High, out_16⟩ : GSheet) x0_a1 y0_a2 color_a5 v27 ev27
          have ff := And.intro @dc3 (And.intro @g0_0 (And.intro @g1_0 (And.intro @g2_0 (And.intro @g3_0 (And.intro @g4_0 (And.intro @g5_0 (And.intro @g6_0 (And.intro @g7_0 (And.intro @g8_0 (And.intro @g9_0 (And.intro @g10_0 (And.intro @dc25 (And.intro @dc26 (And.intro @f28 p_impl_PaintLine_tf.down))))))))))))))
          try refine st_by ff ?_
          repeat' (first | exact trivial | refine And.intro sd ?_)
          refine JW.intro ?_
          rw [hJ_0]
          refine ⟨k_15, v27, h_0, ?_⟩
          exact p_impl_PaintLine_pv ff trivial
        rw [if_neg c26] at h_0
        have dc26 := beq_no c26
        obtain ⟨v29, ev29, h_0⟩ := Option.bind_eq_some_iff.1 h_0
        try dsimp only at h_0
        have ff := And.intro @dc3 (And.intro @g0_0 (And.intro @g1_0 (And.intro @g2_0 (And.intro @g3_0 (And.intro @g4_0 (And.intro @g5_0 (And.intro @g6_0 (And.intro @g7_0 (And.intro @g8_0 (And.intro @g9_0 (And.intro @g10_0 (And.intro @dc25 (And.intro @dc26 p_impl_PaintLine_tf.down)))))))))))))
        try refine st_by ff ?_
        repeat' (first | exact trivial | refine And.intro sd ?_ | (refine aw_drawn (id := 9) ?_ [[], [], [], [2], [], [], [4, 5], [2, 3, 4, 5, 6], [], [2, 3, 4, 5, 6, 7, 8], [], [10], [2, 3, 4, 5, 6, 7, 8, 9, 10, 11], [1, 2, 3, 4, 5, 6, 7, 8, 9, 10, 11, 12], [], [], [15], [], [], [17, 18], [15, 16, 17, 18, 19], [], [15, 16, 17, 18, 19, 20, 21], [], [23], [2, 3, 4, 5, 6, 7, 8, 9, 10, 11, 12, 15, 16, 17, 18, 19, 20, 21, 22, 23, 24], [2, 3, 4, 5, 6, 7, 8, 9, 10, 11, 12, 14, 15, 16, 17, 18, 19, 20, 21, 22, 23, 24, 25], [], [0, 1, 2, 3, 4, 5, 6, 7, 8, 9, 10, 11, 12, 13, 14, 15, 16, 17, 18, 19, 20, 21, 22, 23, 24, 25, 26, 27]] 28 ?_ ?_; (· kernel_rfl); (· kernel_rfl); refine st_by ff ?_))
        first
        | (refine cq_call (p_impl_down_does (IntKind.i64.wrap ((IntKind.i64.wrap ((IntKind.i64.wrap (2 * k_15)) * (IntKind.i64.wrap (x1_a3 - x0_a1)))) + (if v6 > v5 then v6 else v5))) (IntKind.i64.wrap (2 * (if v6 > v5 then v6 else v5))) v29 ev29) (hf_by ff) kr ⟨p_impl_PaintLine_sa ff trivial, ?_⟩; clear ff)
        | (refine cq_dcall (p_impl_down_does (IntKind.i64.wrap ((IntKind.i64.wrap ((IntKind.i64.wrap (2 * k_15)) * (IntKind.i64.wrap (x1_a3 - x0_a1)))) + (if v6 > v5 then v6 else v5))) (IntKind.i64.wrap (2 * (if v6 > v5 then v6 else v5))) v29 ev29) (hf_by ff) kr ⟨p_impl_PaintLine_sa ff trivial, ?_⟩; clear ff)
        obtain ⟨v30, ev30, h_0⟩ := Option.bind_eq_some_iff.1 h_0
        try dsimp only at h_0
        have ff := And.intro @dc3 (And.intro @g0_0 (And.intro @g1_0 (And.intro @g2_0 (And.intro @g3_0 (And.intro @g4_0 (And.intro @g5_0 (And.intro @g6_0 (And.intro @g7_0 (And.intro @g8_0 (And.intro @g9_0 (And.intro @g10_0 (And.intro @dc25 (And.intro @dc26 p_impl_PaintLine_tf.down)))))))))))))
        try refine st_by ff ?_
        repeat' (first | exact trivial | refine And.intro sd ?_)
        first
        | (refine cq_call (p_impl_down_does (IntKind.i64.wrap ((IntKind.i64.wrap ((IntKind.i64.wrap (2 * k_15)) * (IntKind.i64.wrap (y1_a4 - y0_a2)))) + (if v6 > v5 then v6 else v5))) (IntKind.i64.wrap (2 * (if v6 > v5 then v6 else v5))) v30 ev30) (hf_by ff) kr ⟨p_impl_PaintLine_sa ff trivial, ?_⟩; clear ff)
        | (refine cq_dcall (p_impl_down_does (IntKind.i64.wrap ((IntKind.i64.wrap ((IntKind.i64.wrap (2 * k_15)) * (IntKind.i64.wrap (y1_a4 - y0_a2)))) + (if v6 > v5 then v6 else v5))) (IntKind.i64.wrap (2 * (if v6 > v5 then v6 else v5))) v30 ev30) (hf_by ff) kr ⟨p_impl_PaintLine_sa ff trivial, ?_⟩; clear ff)
        obtain ⟨v31, ev31, h_0⟩ := Option.bind_eq_some_iff.1 h_0
        try dsimp only at h_0
        have ff := And.intro @dc3 (And.intro @g0_0 (And.intro @g1_0 (And.intro @g2_0 (And.intro @g3_0 (And.intro @g4_0 (And.intro @g5_0 (And.intro @g6_0 (And.intro @g7_0 (And.intro @g8_0 (And.intro @g9_0 (And.intro @g10_0 (And.intro @dc25 (And.intro @dc26 p_impl_PaintLine_tf.down)))))))))))))
        try refine st_by ff ?_
        repeat' (first | exact trivial | refine And.intro sd ?_)
        (refine cq_Xs [(14, [2])] (p_impl_Sheet_paint_does (⟨v4.Wide, v4.High, out_16⟩ : GSheet) (IntKind.i64.wrap (x0_a1 + v29)) (IntKind.i64.wrap (y0_a2 + v30)) color_a5 v31 ev31) (hf_by ff) kr (by decide) ⟨p_impl_PaintLine_sa ff trivial, ?_⟩; clear ff)
        have f32 := p_impl_Sheet_paint_len (⟨v4.Wide, v4.High, out_16⟩ : GSheet) (IntKind.i64.wrap (x0_a1 + v29)) (IntKind.i64.wrap (y0_a2 + v30)) color_a5 v31 ev31
        have ff := And.intro @dc3 (And.intro @g0_0 (And.intro @g1_0 (And.intro @g2_0 (And.intro @g3_0 (And.intro @g4_0 (And.intro @g5_0 (And.intro @g6_0 (And.intro @g7_0 (And.intro @g8_0 (And.intro @g9_0 (And.intro @g10_0 (And.intro @dc25 (And.intro @dc26 (And.intro @f32 p_impl_PaintLine_tf.down))))))))))))))
        try refine st_by ff ?_
        repeat' (first | exact trivial | refine And.intro sd ?_)
        refine Back.intro (n_0, (IntKind.i64.wrap (k_15 + 1)), v31) ?_ ?_
        · rw [hM_0]; exact Nat.lt_succ_self _
        rw [hI_0]
        refine ⟨h_0, ?_⟩
        exact p_impl_PaintLine_pv ff trivial
    · try clear ff
      rintro σ hg_0
      rw [hJ_0] at hg_0
      obtain ⟨k_15, out_16, hj_0, g0_0a, g1_0a, g2_0a, g3_0a⟩ := hg_0
      cases hj_0
      try dsimp only at h
      have ff := And.intro @dc3 (And.intro @g0_0a (And.intro @g1_0a (And.intro @g2_0a (And.intro @g3_0a p_impl_PaintLine_tf.down))))
      try refine st_by ff ?_
      repeat' (first | exact trivial | refine And.intro sd ?_)
      cases h
      exact ret_q2 rfl (p_impl_PaintLine_rt ff trivial)
  have hrt_0 := fun σ : ASt => congrFun (congrFun hk_0.symm AX.rt) σ
  have hex_0 := fun (i : Nat) (σ : ASt) => congrFun (congrFun hk_0.symm (AX.ex i)) σ
  by_cases c33 : v1 = true
  case neg =>
   rw [if_neg c33] at h
   have dc33 := eq_false_of_ne_true c33
   have ff := And.intro @hrt_0 (And.intro @hex_0 (And.intro @dc33 p_impl_PaintLine_tf.down))
   try refine st_by ff ?_
   repeat' (first | exact trivial | refine And.intro sd ?_)
   refine key_0 _ ?_
   refine ⟨true, h, ?_⟩
   exact p_impl_PaintLine_pv ff trivial
  rw [if_pos c33] at h
  have dc33 := c33
  obtain ⟨v34, ev34, h⟩ := Option.bind_eq_some_iff.1 h
  try dsimp only at h
  have ff := And.intro @hrt_0 (And.intro @hex_0 (And.intro @dc33 p_impl_PaintLine_tf.down))
  try refine st_by ff ?_
  repeat' (first | exact trivial | refine And.intro sd ?_)
  first
  | (refine cq_call (p_impl_isRoom_does x0_a1 v34 ev34) (hf_by ff) kr ⟨p_impl_PaintLine_sa ff trivial, ?_⟩; clear ff)
  | (refine cq_dcall (p_impl_isRoom_does x0_a1 v34 ev34) (hf_by ff) kr ⟨p_impl_PaintLine_sa ff trivial, ?_⟩; clear ff)
  by_cases c35 : v34 = true
  case neg =>
   rw [if_neg c35] at h
   have dc35 := eq_false_of_ne_true c35
   have ff := And.intro @hrt_0 (And.intro @hex_0 (And.intro @dc33 (And.intro @dc35 p_impl_PaintLine_tf.down)))
   try refine st_by ff ?_
   repeat' (first | exact trivial | refine And.intro sd ?_)
   refine key_0 _ ?_
   refine ⟨true, h, ?_⟩
   exact p_impl_PaintLine_pv ff trivial
  rw [if_pos c35] at h
  have dc35 := c35
  obtain ⟨v36, ev36, h⟩ := Option.bind_eq_some_iff.1 h
  try dsimp only at h
  have ff := And.intro @hrt_0 (And.intro @hex_0 (And.intro @dc33 (And.intro @dc35 p_impl_PaintLine_tf.down)))
  try refine st_by ff ?_
  repeat' (first | exact trivial | refine And.intro sd ?_)
  first
  | (refine cq_call (p_impl_isRoom_does y0_a2 v36 ev36) (hf_by ff) kr ⟨p_impl_PaintLine_sa ff trivial, ?_⟩; clear ff)
  | (refine cq_dcall (p_impl_isRoom_does y0_a2 v36 ev36) (hf_by ff) kr ⟨p_impl_PaintLine_sa ff trivial, ?_⟩; clear ff)
  by_cases c37 : v36 = true
  case neg =>
   rw [if_neg c37] at h
   have dc37 := eq_false_of_ne_true c37
   have ff := And.intro @hrt_0 (And.intro @hex_0 (And.intro @dc33 (And.intro @dc35 (And.intro @dc37 p_impl_PaintLine_tf.down))))
   try refine st_by ff ?_
   repeat' (first | exact trivial | refine And.intro sd ?_)
   refine key_0 _ ?_
   refine ⟨true, h, ?_⟩
   exact p_impl_PaintLine_pv ff trivial
  rw [if_pos c37] at h
  have dc37 := c37
  obtain ⟨v38, ev38, h⟩ := Option.bind_eq_some_iff.1 h
  try dsimp only at h
  have ff := And.intro @hrt_0 (And.intro @hex_0 (And.intro @dc33 (And.intro @dc35 (And.intro @dc37 p_impl_PaintLine_tf.down))))
  try refine st_by ff ?_
  repeat' (first | exact trivial | refine And.intro sd ?_)
  first
  | (refine cq_call (p_impl_isRoom_does x1_a3 v38 ev38) (hf_by ff) kr ⟨p_impl_PaintLine_sa ff trivial, ?_⟩; clear ff)
  | (refine cq_dcall (p_impl_isRoom_does x1_a3 v38 ev38) (hf_by ff) kr ⟨p_impl_PaintLine_sa ff trivial, ?_⟩; clear ff)
  by_cases c39 : v38 = true
  case neg =>
   rw [if_neg c39] at h
   have dc39 := eq_false_of_ne_true c39
   have ff := And.intro @hrt_0 (And.intro @hex_0 (And.intro @dc33 (And.intro @dc35 (And.intro @dc37 (And.intro @dc39 p_impl_PaintLine_tf.down)))))
   try refine st_by ff ?_
   repeat' (first | exact trivial | refine And.intro sd ?_)
   refine key_0 _ ?_
   refine ⟨true, h, ?_⟩
   exact p_impl_PaintLine_pv ff trivial
  rw [if_pos c39] at h
  have dc39 := c39
  obtain ⟨v40, ev40, h⟩ := Option.bind_eq_some_iff.1 h
  try dsimp only at h
  have ff := And.intro @hrt_0 (And.intro @hex_0 (And.intro @dc33 (And.intro @dc35 (And.intro @dc37 (And.intro @dc39 p_impl_PaintLine_tf.down)))))
  try refine st_by ff ?_
  repeat' (first | exact trivial | refine And.intro sd ?_)
  first
  | (refine cq_call (p_impl_isRoom_does y1_a4 v40 ev40) (hf_by ff) kr ⟨p_impl_PaintLine_sa ff trivial, ?_⟩; clear ff)
  | (refine cq_dcall (p_impl_isRoom_does y1_a4 v40 ev40) (hf_by ff) kr ⟨p_impl_PaintLine_sa ff trivial, ?_⟩; clear ff)
  by_cases c41 : v40 = true
  case neg =>
   rw [if_neg c41] at h
   have dc41 := eq_false_of_ne_true c41
   have ff := And.intro @hrt_0 (And.intro @hex_0 (And.intro @dc33 (And.intro @dc35 (And.intro @dc37 (And.intro @dc39 (And.intro @dc41 p_impl_PaintLine_tf.down))))))
   try refine st_by ff ?_
   repeat' (first | exact trivial | refine And.intro sd ?_)
   refine key_0 _ ?_
   refine ⟨true, h, ?_⟩
   exact p_impl_PaintLine_pv ff trivial
  rw [if_pos c41] at h
  have dc41 := c41
  obtain ⟨v42, ev42, h⟩ := Option.bind_eq_some_iff.1 h
  try dsimp only at h
  have ff := And.intro @hrt_0 (And.intro @hex_0 (And.intro @dc33 (And.intro @dc35 (And.intro @dc37 (And.intro @dc39 (And.intro @dc41 p_impl_PaintLine_tf.down))))))
  try refine st_by ff ?_
  repeat' (first | exact trivial | refine And.intro sd ?_)
  first
  | (refine cq_call (p_impl_isColor_does color_a5 v42 ev42) (hf_by ff) kr ⟨p_impl_PaintLine_sa ff trivial, ?_⟩; clear ff)
  | (refine cq_dcall (p_impl_isColor_does color_a5 v42 ev42) (hf_by ff) kr ⟨p_impl_PaintLine_sa ff trivial, ?_⟩; clear ff)
  have ff := And.intro @hrt_0 (And.intro @hex_0 (And.intro @dc33 (And.intro @dc35 (And.intro @dc37 (And.intro @dc39 (And.intro @dc41 p_impl_PaintLine_tf.down))))))
  try refine st_by ff ?_
  repeat' (first | exact trivial | refine And.intro sd ?_)
  refine key_0 _ ?_
  refine ⟨!v42, h, ?_⟩
  exact p_impl_PaintLine_pv ff trivial
end Go.Av
