/- spec.l1Seed -/
import Derived.Test.YtbdcheiecpmbaaaALA
import Derived.Test.YtbdcheiecpmbaaaAG3
set_option linter.unusedSimpArgs false
set_option linter.unusedVariables false
set_option maxRecDepth 100000
set_option maxHeartbeats 1000000
namespace Go.Av
open Go.Proofs
/-! spec.l1Seed -/
theorem p_spec_l1Seed_pv {F C A : Prop} (hF : F) (hC : C) (h : F → C → A := by intro hF hC; first | exact cl_by hF | (refine st_by hF ?_; (repeat' (first | exact trivial | apply And.intro)); all_goals (clear hF; first | rfl | (simp only [hC, List.length_append, List.length_cons, List.length_nil, List.append_nil, List.nil_append, List.cons_append, List.length_set, List.append_assoc, Nat.zero_add, List.length_replicate]; done) | (simp [hC, List.length_append, List.length_cons, List.length_nil, List.append_nil, List.nil_append, List.cons_append, List.length_set, List.append_assoc, Nat.zero_add, List.length_replicate]; done) | omega))) : A := h hF hC
theorem p_spec_l1Seed_sa {F C A : Prop} (hF : F) (hC : C) (h : F → C → A := by intro hF hC; first | exact ca_by hF | (refine sa_by hF ?_; (repeat' (first | exact trivial | apply And.intro)); all_goals (clear hF; first | rfl | (simp only [hC, List.length_append, List.length_cons, List.length_nil, List.append_nil, List.nil_append, List.cons_append, List.length_set, List.append_assoc, Nat.zero_add, List.length_replicate]; done) | (simp [hC, List.length_append, List.length_cons, List.length_nil, List.append_nil, List.nil_append, List.cons_append, List.length_set, List.append_assoc, Nat.zero_add, List.length_replicate]; done) | omega))) : A := h hF hC
theorem p_spec_l1Seed_rt {F C A : Prop} (hF : F) (hC : C) (h : F → C → A := by intro hF hC; first | (refine sr_by hF ?_; (repeat' (first | exact trivial | apply And.intro)); all_goals (clear hF; first | rfl | (simp only [hC, List.length_append, List.length_cons, List.length_nil, List.append_nil, List.nil_append, List.cons_append, List.length_set, List.append_assoc, Nat.zero_add, List.length_replicate]; done) | (simp [hC, List.length_append, List.length_cons, List.length_nil, List.append_nil, List.nil_append, List.cons_append, List.length_set, List.append_assoc, Nat.zero_add, List.length_replicate]; done) | omega)) | (first | rfl | (simp only [hC, List.length_append, List.length_cons, List.length_nil, List.append_nil, List.nil_append, List.cons_append, List.length_set, List.append_assoc, Nat.zero_add, List.length_replicate]; done) | (simp [hC, List.length_append, List.length_cons, List.length_nil, List.append_nil, List.nil_append, List.cons_append, List.length_set, List.append_assoc, Nat.zero_add, List.length_replicate]; done) | omega)) : A := h hF hC
def p_spec_l1Seed_tf := PLift.up (And.intro @str_beq @trivial)
def p_spec_l1Seed (seed_a0 : Int) : Option (Bool) := some (rng seed_a0 0 2147483647)
theorem p_spec_l1Seed_does (seed_a0 : Int) (r : Bool) (h : p_spec_l1Seed seed_a0 = some r) : Does Try.prog 55 [I seed_a0] (B r) := by
  rw [p_spec_l1Seed] at h
  refine Does.walk (nt := 5) Try.func55 rfl rfl (by simp) (by decide) rfl (fun G0 X w0 pv => ?_)
  have ff := p_spec_l1Seed_tf.down
  try refine st_by ff ?_
  repeat' (first | exact trivial | refine And.intro sd ?_)
  first
  | (refine cq_call (l1In_does seed_a0 0 2147483647) (hf_by ff) kr ⟨p_spec_l1Seed_sa ff trivial, ?_⟩; clear ff)
  have ff := p_spec_l1Seed_tf.down
  try refine st_by ff ?_
  repeat' (first | exact trivial | refine And.intro sd ?_)
  cases h
  exact ret_q1 rfl (p_spec_l1Seed_rt ff trivial)
/-! spec.GoodGame -/
def p_spec_GoodGame_l0 : List GSeat → Nat → Option (LR (Bool) (Unit))
  | [], i_0 => some (.out ())
  | x_0 :: r_0, i_0 => (if (rng x_0.X 0 63) = true then (if (rng x_0.Y 0 63) = true then (if (rng x_0.Hp 0 9) = true then p_spec_GoodGame_l0 r_0 (i_0 + 1) else some (.ret false)) else some (.ret false)) else some (.ret false))
def p_spec_GoodGame_j0 (g_a0 : GGame) (b_1 : Bool) : Option (Bool) := (if b_1 = true then some false else ((p_spec_GoodGame_l0 g_a0.Seats 0).bind fun q_0 => match q_0 with | .ret r_ => some r_ | .out _ => some true))
theorem p_spec_GoodGame_pv {F C A : Prop} (hF : F) (hC : C) (h : F → C → A := by intro hF hC; first | exact cl_by hF | (refine st_by hF ?_; (repeat' (first | exact trivial | apply And.intro)); all_goals (clear hF; first | rfl | (simp only [hC, List.length_append, List.length_cons, List.length_nil, List.append_nil, List.nil_append, List.cons_append, List.length_set, List.append_assoc, Nat.zero_add, List.length_replicate, esGame_app, esGame_cons, esGame_nil, eGame_eq, esGameo_app, esGameo_cons, esGameo_nil, eGameo_eq, esSeat_app, esSeat_cons, esSeat_nil, eSeat_eq]; done) | (simp [hC, List.length_append, List.length_cons, List.length_nil, List.append_nil, List.nil_append, List.cons_append, List.length_set, List.append_assoc, Nat.zero_add, List.length_replicate, esGame_app, esGame_cons, esGame_nil, eGame_eq, esGameo_app, esGameo_cons, esGameo_nil, eGameo_eq, esSeat_app, esSeat_cons, esSeat_nil, eSeat_eq]; done) | omega))) : A := h hF hC
theorem p_spec_GoodGame_sa {F C A : Prop} (hF : F) (hC : C) (h : F → C → A := by intro hF hC; first | exact ca_by hF | (refine sa_by hF ?_; (repeat' (first | exact trivial | apply And.intro)); all_goals (clear hF; first | rfl | (simp only [hC, List.length_append, List.length_cons, List.length_nil, List.append_nil, List.nil_append, List.cons_append, List.length_set, List.append_assoc, Nat.zero_add, List.length_replicate, esGame_app, esGame_cons, esGame_nil, eGame_eq, esGameo_app, esGameo_cons, esGameo_nil, eGameo_eq, esSeat_app, esSeat_cons, esSeat_nil, eSeat_eq]; done) | (simp [hC, List.length_append, List.length_cons, List.length_nil, List.append_nil, List.nil_append, List.cons_append, List.length_set, List.append_assoc, Nat.zero_add, List.length_replicate, esGame_app, esGame_cons, esGame_nil, eGame_eq, esGameo_app, esGameo_cons, esGameo_nil, eGameo_eq, esSeat_app, esSeat_cons, esSeat_nil, eSeat_eq]; done) | omega))) : A := h hF hC
theorem p_spec_GoodGame_rt {F C A : Prop} (hF : F) (hC : C) (h : F → C → A := by intro hF hC; first | (refine sr_by hF ?_; (repeat' (first | exact trivial | apply And.intro)); all_goals (clear hF; first | rfl | (simp only [hC, List.length_append, List.length_cons, List.length_nil, List.append_nil, List.nil_append, List.cons_append, List.length_set, List.append_assoc, Nat.zero_add, List.length_replicate, esGame_app, esGame_cons, esGame_nil, eGame_eq, esGameo_app, esGameo_cons, esGameo_nil, eGameo_eq, esSeat_app, esSeat_cons, esSeat_nil, eSeat_eq]; done) | (simp [hC, List.length_append, List.length_cons, List.length_nil, List.append_nil, List.nil_append, List.cons_append, List.length_set, List.append_assoc, Nat.zero_add, List.length_replicate, esGame_app, esGame_cons, esGame_nil, eGame_eq, esGameo_app, esGameo_cons, esGameo_nil, eGameo_eq, esSeat_app, esSeat_cons, esSeat_nil, eSeat_eq]; done) | omega)) | (first | rfl | (simp only [hC, List.length_append, List.length_cons, List.length_nil, List.append_nil, List.nil_append, List.cons_append, List.length_set, List.append_assoc, Nat.zero_add, List.length_replicate, esGame_app, esGame_cons, esGame_nil, eGame_eq, esGameo_app, esGameo_cons, esGameo_nil, eGameo_eq, esSeat_app, esSeat_cons, esSeat_nil, eSeat_eq]; done) | (simp [hC, List.length_append, List.length_cons, List.length_nil, List.append_nil, List.nil_append, List.cons_append, List.length_set, List.append_assoc, Nat.zero_add, List.length_replicate, esGame_app, esGame_cons, esGame_nil, eGame_eq, esGameo_app, esGameo_cons, esGameo_nil, eGameo_eq, esSeat_app, esSeat_cons, esSeat_nil, eSeat_eq]; done) | omega)) : A := h hF hC
def p_spec_GoodGame_tf := PLift.up (And.intro @eGame_eq (And.intro @esGame_len (And.intro @esGame_nil (And.intro @esGame_leaf (And.intro @esGame_fit (And.intro @eGameo_eq (And.intro @esGameo_len (And.intro @esGameo_nil (And.intro @eSeat_eq (And.intro @esSeat_len (And.intro @esSeat_nil (And.intro @esSeat_leaf (And.intro @esSeat_fit (And.intro @esGameo_share (And.intro @esGameo_pure (And.intro @esSeat_share (And.intro @esSeat_pure (And.intro @str_beq (And.intro @Ty.sl71 (And.intro @Ty.slz71 (And.intro @Ty.nz3 (And.intro @Ty.ldA3 (And.intro @Ty.ldS3 (And.intro @Ty.sz3 (And.intro @Ty.szn3 (And.intro @Ty.nz71 (And.intro @Ty.ldA71 (And.intro @Ty.ldS71 (And.intro @Ty.sz71 (And.intro @Ty.szn71 (And.intro @Ty.nz84 (And.intro @Ty.ldA84 (And.intro @Ty.sz84 (And.intro @Ty.szn84 (And.intro @Ty.fo73_0 (And.intro @Ty.fk73_0 (And.intro @Ty.fs73_0 (And.intro @Ty.fn73_0 (And.intro @Ty.fo73_1 (And.intro @Ty.fk73_1 (And.intro @Ty.fs73_1 (And.intro @Ty.fn73_1 (And.intro @Ty.fo73_2 (And.intro @Ty.fk73_2 (And.intro @Ty.fs73_2 (And.intro @Ty.fn73_2 (And.intro @Ty.fo84_0 (And.intro @Ty.fk84_0 (And.intro @Ty.fs84_0 (And.intro @Ty.fn84_0 (And.intro @Ty.fo84_1 (And.intro @Ty.fk84_1 (And.intro @Ty.fs84_1 (And.intro @Ty.fn84_1 (And.intro @Ty.fo84_2 (And.intro @Ty.fk84_2 (And.intro @Ty.fs84_2 (And.intro @Ty.fn84_2 (And.intro @Ty.zv84 @trivial)))))))))))))))))))))))))))))))))))))))))))))))))))))))))))
def p_spec_GoodGame (g_a0 : GGame) : Option (Bool) := (if (rng g_a0.Frame 0 60) = true then ((p_spec_l1Seed g_a0.Coin).bind fun v20 => (if v20 = true then (if (g_a0.Seats.length : Int) < 1 then p_spec_GoodGame_j0 g_a0 true else p_spec_GoodGame_j0 g_a0 (decide ((g_a0.Seats.length : Int) > 4))) else p_spec_GoodGame_j0 g_a0 true)) else p_spec_GoodGame_j0 g_a0 true)
theorem p_spec_GoodGame_does (g_a0 : GGame) (r : Bool) (h : p_spec_GoodGame g_a0 = some r) : Does Try.prog 56 [.agg (eGame g_a0)] (B r) := by
  rw [p_spec_GoodGame] at h
  refine Does.bnd (fun hb => ?_)
  have hb2 : g_a0.Seats.length ≤ 9223372036854775807 := by simpa [AV.fitNs, AV.fitN, eGame] using hb
  have hl0 := hb2
  refine Does.walk (nt := 51) Try.func56 rfl rfl (by simp) (by decide) rfl (fun G0 X w0 pv => ?_)
  have ff := p_spec_GoodGame_tf.down
  try refine st_by ff ?_
  repeat' (first | exact trivial | refine And.intro sd ?_)
  first
  | (refine cq_call (l1In_does g_a0.Frame 0 60) (hf_by ff) kr ⟨p_spec_GoodGame_sa ff trivial, ?_⟩; clear ff)
  have ff := p_spec_GoodGame_tf.down
  try refine st_by ff ?_
  repeat' (first | exact trivial | refine And.intro sd ?_)
  try clear ff
  generalize hk_0 : thenK _ _ = kk_0
  have key_0 : ∀ σ, (∃ b_1 : Bool, (p_spec_GoodGame_j0 g_a0 b_1 = some r) ∧ σ.t 1 = .ptr 1 [] 0 ∧ σ.t 26 = B b_1 ∧ σ.m 1 = some (.box true [I g_a0.Frame, I g_a0.Coin, .row false 3 g_a0.Seats.length (esSeat g_a0.Seats)])) → kk_0 .nm σ := by
    rintro σ ⟨b_1, h, g0_j0, g1_j0, g2_j0⟩
    rw [← hk_0]
    rw [p_spec_GoodGame_j0] at h
    by_cases c2 : b_1 = true
    · rw [if_pos c2] at h
      have dc2 := c2
      have ff := And.intro @g0_j0 (And.intro @g1_j0 (And.intro @g2_j0 (And.intro @dc2 p_spec_GoodGame_tf.down)))
      try refine st_by ff ?_
      repeat' (first | exact trivial | refine And.intro sd ?_)
      cases h
      exact ret_q1 rfl (p_spec_GoodGame_rt ff trivial)
    rw [if_neg c2] at h
    have dc2 := eq_false_of_ne_true c2
    have hL_0 : g_a0.Seats.length ≤ 9223372036854775807 := by first | assumption | omega
    obtain ⟨q_0, eq_0, h⟩ := Option.bind_eq_some_iff.1 h
    have ff := And.intro @g0_j0 (And.intro @g1_j0 (And.intro @g2_j0 (And.intro @dc2 p_spec_GoodGame_tf.down)))
    try refine st_by ff ?_
    repeat' (first | exact trivial | refine And.intro sd ?_)
    obtain ⟨I_0, hI_0⟩ : ∃ I_ : (Nat) → ASt → Prop, I_ = (fun (i_0 : Nat) σ => (i_0 ≤ g_a0.Seats.length ∧ p_spec_GoodGame_l0 (g_a0.Seats.drop i_0) i_0 = some q_0) ∧ σ.t 28 = .row false 3 g_a0.Seats.length (esSeat g_a0.Seats) ∧ σ.t 29 = I (g_a0.Seats.length : Int) ∧ σ.t 30 = I (i_0 : Int)) := ⟨_, rfl⟩
    obtain ⟨M_0, hM_0⟩ : ∃ M_ : (Nat) → Nat, M_ = (fun (i_0 : Nat) => g_a0.Seats.length - i_0) := ⟨_, rfl⟩
    obtain ⟨J_0, hJ_0⟩ : ∃ J_ : ASt → Prop, J_ = (fun σ => (some (.out ()) = some q_0) ∧ True) := ⟨_, rfl⟩
    refine aw_loopC (id := 0) I_0 M_0 J_0 (0) ?_ ?_ ?_
    · rw [hI_0]
      refine ⟨⟨Nat.zero_le _, eq_0⟩, ?_⟩
      exact p_spec_GoodGame_pv ff trivial
    · try clear ff
      rintro i_0 σ hg_0
      rw [hI_0] at hg_0
      obtain ⟨⟨hi_0, h_0⟩, g0_0, g1_0, g2_0⟩ := hg_0
      cases hr_0 : g_a0.Seats.drop i_0 with
      | nil =>
        rw [hr_0] at h_0
        rw [p_spec_GoodGame_l0] at h_0
        have hn_0 := drop_nil hr_0
        have dr_0 : decide ((i_0 : Int) < (g_a0.Seats.length : Int)) = false := decide_eq_false (by omega)
        have ff := And.intro @dc2 (And.intro @dr_0 (And.intro @g0_0 (And.intro @g1_0 (And.intro @g2_0 p_spec_GoodGame_tf.down))))
        try refine st_by ff ?_
        repeat' (first | exact trivial | refine And.intro sd ?_)
        refine JW.intro ?_
        rw [hJ_0]
        refine ⟨h_0, ?_⟩
        exact p_spec_GoodGame_pv ff trivial
      | cons x_0 r_0 =>
        rw [hr_0] at h_0
        rw [p_spec_GoodGame_l0] at h_0
        obtain ⟨ht_0, hg_0, hd_0⟩ := drop_cons hr_0
        have dr_0 : decide ((i_0 : Int) < (g_a0.Seats.length : Int)) = true := decide_eq_true (by omega)
        have w_0 : IntKind.i64.wrap ((i_0 : Int) + 1) = ((i_0 + 1 : Nat) : Int) := wI _ (by omega) (by omega)
        have kk0c : (esSeat g_a0.Seats).drop (i_0 * 3) = eSeat x_0 ++ esSeat (g_a0.Seats.drop (i_0 + 1)) := drop_enc (fun _ => rfl) (hg_0)
        have ff := And.intro @dc2 (And.intro @dr_0 (And.intro @w_0 (And.intro @g0_0 (And.intro @g1_0 (And.intro @g2_0 (And.intro @kk0c p_spec_GoodGame_tf.down))))))
        try refine st_by ff ?_
        repeat' (first | exact trivial | refine And.intro sd ?_)
        first
        | (refine cq_call (l1In_does x_0.X 0 63) (hf_by ff) kr ⟨p_spec_GoodGame_sa ff trivial, ?_⟩; clear ff)
        by_cases c16 : (rng x_0.X 0 63) = true
        case neg =>
         rw [if_neg c16] at h_0
         have dc16 := eq_false_of_ne_true c16
         cases h_0
         try dsimp only at h
         have ff := And.intro @dc2 (And.intro @dr_0 (And.intro @w_0 (And.intro @g0_0 (And.intro @g1_0 (And.intro @g2_0 (And.intro @kk0c (And.intro @dc16 p_spec_GoodGame_tf.down)))))))
         try refine st_by ff ?_
         repeat' (first | exact trivial | refine And.intro sd ?_)
         cases h
         exact ret_q1 rfl (p_spec_GoodGame_rt ff trivial)
        rw [if_pos c16] at h_0
        have dc16 := c16
        have ff := And.intro @dc2 (And.intro @dr_0 (And.intro @w_0 (And.intro @g0_0 (And.intro @g1_0 (And.intro @g2_0 (And.intro @kk0c (And.intro @dc16 p_spec_GoodGame_tf.down)))))))
        try refine st_by ff ?_
        repeat' (first | exact trivial | refine And.intro sd ?_)
        first
        | (refine cq_call (l1In_does x_0.Y 0 63) (hf_by ff) kr ⟨p_spec_GoodGame_sa ff trivial, ?_⟩; clear ff)
        by_cases c17 : (rng x_0.Y 0 63) = true
        case neg =>
         rw [if_neg c17] at h_0
         have dc17 := eq_false_of_ne_true c17
         cases h_0
         try dsimp only at h
         have ff := And.intro @dc2 (And.intro @dr_0 (And.intro @w_0 (And.intro @g0_0 (And.intro @g1_0 (And.intro @g2_0 (And.intro @kk0c (And.intro @dc16 (And.intro @dc17 p_spec_GoodGame_tf.down))))))))
         try refine st_by ff ?_
         repeat' (first | exact trivial | refine And.intro sd ?_)
         cases h
         exact ret_q1 rfl (p_spec_GoodGame_rt ff trivial)
        rw [if_pos c17] at h_0
        have dc17 := c17
        have ff := And.intro @dc2 (And.intro @dr_0 (And.intro @w_0 (And.intro @g0_0 (And.intro @g1_0 (And.intro @g2_0 (And.intro @kk0c (And.intro @dc16 (And.intro @dc17 p_spec_GoodGame_tf.down))))))))
        try refine st_by ff ?_
        repeat' (first | exact trivial | refine And.intro sd ?_)
        first
        | (refine cq_call (l1In_does x_0.Hp 0 9) (hf_by ff) kr ⟨p_spec_GoodGame_sa ff trivial, ?_⟩; clear ff)
        by_cases c18 : (rng x_0.Hp 0 9) = true
        case neg =>
         rw [if_neg c18] at h_0
         have dc18 := eq_false_of_ne_true c18
         cases h_0
         try dsimp only at h
         have ff := And.intro @dc2 (And.intro @dr_0 (And.intro @w_0 (And.intro @g0_0 (And.intro @g1_0 (And.intro @g2_0 (And.intro @kk0c (And.intro @dc16 (And.intro @dc17 (And.intro @dc18 p_spec_GoodGame_tf.down)))))))))
         try refine st_by ff ?_
         repeat' (first | exact trivial | refine And.intro sd ?_)
         cases h
         exact ret_q1 rfl (p_spec_GoodGame_rt ff trivial)
        rw [if_pos c18] at h_0
        have dc18 := c18
        have ff := And.intro @dc2 (And.intro @dr_0 (And.intro @w_0 (And.intro @g0_0 (And.intro @g1_0 (And.intro @g2_0 (And.intro @kk0c (And.intro @dc16 (And.intro @dc17 (And.intro @dc18 p_spec_GoodGame_tf.down)))))))))
        try refine st_by ff ?_
        repeat' (first | exact trivial | refine And.intro sd ?_)
        refine Back.intro (i_0 + 1) ?_ ?_
        · clear ff; rw [hM_0]; show g_a0.Seats.length - (i_0 + 1) < g_a0.Seats.length - i_0; omega
        rw [hI_0]
        refine ⟨⟨by clear ff; show i_0 + 1 ≤ g_a0.Seats.length; omega, by show p_spec_GoodGame_l0 (g_a0.Seats.drop (i_0 + 1)) (i_0 + 1) = some q_0; rw [hd_0]; exact h_0⟩, ?_⟩
        exact p_spec_GoodGame_pv ff trivial
    · try clear ff
      rintro σ hg_0
      rw [hJ_0] at hg_0
      obtain ⟨hj_0, _⟩ := hg_0
      cases hj_0
      try dsimp only at h
      have ff := And.intro @dc2 p_spec_GoodGame_tf.down
      try refine st_by ff ?_
      repeat' (first | exact trivial | refine And.intro sd ?_)
      cases h
      exact ret_q1 rfl (p_spec_GoodGame_rt ff trivial)
  have hrt_0 := fun σ : ASt => congrFun (congrFun hk_0.symm AX.rt) σ
  have hex_0 := fun (i : Nat) (σ : ASt) => congrFun (congrFun hk_0.symm (AX.ex i)) σ
  by_cases c19 : (rng g_a0.Frame 0 60) = true
  case neg =>
   rw [if_neg c19] at h
   have dc19 := eq_false_of_ne_true c19
   have ff := And.intro @hrt_0 (And.intro @hex_0 (And.intro @dc19 p_spec_GoodGame_tf.down))
   try refine st_by ff ?_
   repeat' (first | exact trivial | refine And.intro sd ?_)
   refine key_0 _ ?_
   refine ⟨true, h, ?_⟩
   exact p_spec_GoodGame_pv ff trivial
  rw [if_pos c19] at h
  have dc19 := c19
  obtain ⟨v20, ev20, h⟩ := Option.bind_eq_some_iff.1 h
  try dsimp only at h
  have ff := And.intro @hrt_0 (And.intro @hex_0 (And.intro @dc19 p_spec_GoodGame_tf.down))
  try refine st_by ff ?_
  repeat' (first | exact trivial | refine And.intro sd ?_)
  first
  | (refine cq_call (p_spec_l1Seed_does g_a0.Coin v20 ev20) (hf_by ff) kr ⟨p_spec_GoodGame_sa ff trivial, ?_⟩; clear ff)
  by_cases c21 : v20 = true
  case neg =>
   rw [if_neg c21] at h
   have dc21 := eq_false_of_ne_true c21
   have ff := And.intro @hrt_0 (And.intro @hex_0 (And.intro @dc19 (And.intro @dc21 p_spec_GoodGame_tf.down)))
   try refine st_by ff ?_
   repeat' (first | exact trivial | refine And.intro sd ?_)
   refine key_0 _ ?_
   refine ⟨true, h, ?_⟩
   exact p_spec_GoodGame_pv ff trivial
  rw [if_pos c21] at h
  have dc21 := c21
  by_cases c22 : (g_a0.Seats.length : Int) < 1
  case neg =>
   rw [if_neg c22] at h
   have dc22 := decide_eq_false c22
   have ff := And.intro @hrt_0 (And.intro @hex_0 (And.intro @dc19 (And.intro @dc21 (And.intro @dc22 p_spec_GoodGame_tf.down))))
   try refine st_by ff ?_
   repeat' (first | exact trivial | refine And.intro sd ?_)
   refine key_0 _ ?_
   refine ⟨decide ((g_a0.Seats.length : Int) > 4), h, ?_⟩
   exact p_spec_GoodGame_pv ff trivial
  rw [if_pos c22] at h
  have dc22 := decide_eq_true c22
  have ff := And.intro @hrt_0 (And.intro @hex_0 (And.intro @dc19 (And.intro @dc21 (And.intro @dc22 p_spec_GoodGame_tf.down))))
  try refine st_by ff ?_
  repeat' (first | exact trivial | refine And.intro sd ?_)
  refine key_0 _ ?_
  refine ⟨true, h, ?_⟩
  exact p_spec_GoodGame_pv ff trivial
/-! spec.l24Inputs -/
def p_spec_l24Inputs_l0 : List Int → Nat → Option (LR (Bool) (Unit))
  | [], i_0 => some (.out ())
  | x_0 :: r_0, i_0 => (if (rng x_0 0 5) = true then p_spec_l24Inputs_l0 r_0 (i_0 + 1) else some (.ret false))
theorem p_spec_l24Inputs_pv {F C A : Prop} (hF : F) (hC : C) (h : F → C → A := by intro hF hC; first | exact cl_by hF | (refine st_by hF ?_; (repeat' (first | exact trivial | apply And.intro)); all_goals (clear hF; first | rfl | (simp only [hC, List.length_append, List.length_cons, List.length_nil, List.append_nil, List.nil_append, List.cons_append, List.length_set, List.append_assoc, Nat.zero_add, List.length_replicate, esInt_app, esInt_cons, esInt_nil, eInt_eq]; done) | (simp [hC, List.length_append, List.length_cons, List.length_nil, List.append_nil, List.nil_append, List.cons_append, List.length_set, List.append_assoc, Nat.zero_add, List.length_replicate, esInt_app, esInt_cons, esInt_nil, eInt_eq]; done) | omega))) : A := h hF hC
theorem p_spec_l24Inputs_sa {F C A : Prop} (hF : F) (hC : C) (h : F → C → A := by intro hF hC; first | exact ca_by hF | (refine sa_by hF ?_; (repeat' (first | exact trivial | apply And.intro)); all_goals (clear hF; first | rfl | (simp only [hC, List.length_append, List.length_cons, List.length_nil, List.append_nil, List.nil_append, List.cons_append, List.length_set, List.append_assoc, Nat.zero_add, List.length_replicate, esInt_app, esInt_cons, esInt_nil, eInt_eq]; done) | (simp [hC, List.length_append, List.length_cons, List.length_nil, List.append_nil, List.nil_append, List.cons_append, List.length_set, List.append_assoc, Nat.zero_add, List.length_replicate, esInt_app, esInt_cons, esInt_nil, eInt_eq]; done) | omega))) : A := h hF hC
theorem p_spec_l24Inputs_rt {F C A : Prop} (hF : F) (hC : C) (h : F → C → A := by intro hF hC; first | (refine sr_by hF ?_; (repeat' (first | exact trivial | apply And.intro)); all_goals (clear hF; first | rfl | (simp only [hC, List.length_append, List.length_cons, List.length_nil, List.append_nil, List.nil_append, List.cons_append, List.length_set, List.append_assoc, Nat.zero_add, List.length_replicate, esInt_app, esInt_cons, esInt_nil, eInt_eq]; done) | (simp [hC, List.length_append, List.length_cons, List.length_nil, List.append_nil, List.nil_append, List.cons_append, List.length_set, List.append_assoc, Nat.zero_add, List.length_replicate, esInt_app, esInt_cons, esInt_nil, eInt_eq]; done) | omega)) | (first | rfl | (simp only [hC, List.length_append, List.length_cons, List.length_nil, List.append_nil, List.nil_append, List.cons_append, List.length_set, List.append_assoc, Nat.zero_add, List.length_replicate, esInt_app, esInt_cons, esInt_nil, eInt_eq]; done) | (simp [hC, List.length_append, List.length_cons, List.length_nil, List.append_nil, List.nil_append, List.cons_append, List.length_set, List.append_assoc, Nat.zero_add, List.length_replicate, esInt_app, esInt_cons, esInt_nil, eInt_eq]; done) | omega)) : A := h hF hC
def p_spec_l24Inputs_tf := PLift.up (And.intro @eInt_eq (And.intro @esInt_len (And.intro @esInt_nil (And.intro @esInt_leaf (And.intro @esInt_fit (And.intro @esInt_share (And.intro @esInt_pure (And.intro @str_beq (And.intro @Ty.sl35 (And.intro @Ty.slz35 (And.intro @Ty.nz3 (And.intro @Ty.ldA3 (And.intro @Ty.ldS3 (And.intro @Ty.sz3 (And.intro @Ty.szn3 @trivial)))))))))))))))
def p_spec_l24Inputs (l_a0 : List Int) (seats_a1 : Int) : Option (Bool) := (if (l_a0.length : Int) = seats_a1 then ((p_spec_l24Inputs_l0 l_a0 0).bind fun q_0 => match q_0 with | .ret r_ => some r_ | .out _ => some true) else some false)
theorem p_spec_l24Inputs_does (l_a0 : List Int) (seats_a1 : Int) (r : Bool) (h : p_spec_l24Inputs l_a0 seats_a1 = some r) : Does Try.prog 57 [.row false 1 l_a0.length (esInt l_a0), I seats_a1] (B r) := by
  rw [p_spec_l24Inputs] at h
  refine Does.bnd (fun hb => ?_)
  have hb2 : l_a0.length ≤ 9223372036854775807 := by simpa [AV.fitNs, AV.fitN] using hb
  have hl0 := hb2
  refine Does.walk (nt := 21) Try.func57 rfl rfl (by simp) (by decide) rfl (fun G0 X w0 pv => ?_)
  by_cases c1 : (l_a0.length : Int) = seats_a1
  case neg =>
   rw [if_neg c1] at h
   have dc1 := beq_no c1
   have ff := And.intro @dc1 p_spec_l24Inputs_tf.down
   try refine st_by ff ?_
   repeat' (first | exact trivial | refine And.intro sd ?_)
   cases h
   exact ret_q1 rfl (p_spec_l24Inputs_rt ff trivial)
  rw [if_pos c1] at h
  have dc1 := beq_yes c1
  have hL_0 : l_a0.length ≤ 9223372036854775807 := by first | assumption | omega
  obtain ⟨q_0, eq_0, h⟩ := Option.bind_eq_some_iff.1 h
  have ff := And.intro @dc1 p_spec_l24Inputs_tf.down
  try refine st_by ff ?_
  repeat' (first | exact trivial | refine And.intro sd ?_)
  obtain ⟨I_0, hI_0⟩ : ∃ I_ : (Nat) → ASt → Prop, I_ = (fun (i_0 : Nat) σ => (i_0 ≤ l_a0.length ∧ p_spec_l24Inputs_l0 (l_a0.drop i_0) i_0 = some q_0) ∧ σ.t 11 = .row false 1 l_a0.length (esInt l_a0) ∧ σ.t 12 = I (l_a0.length : Int) ∧ σ.t 13 = I (i_0 : Int)) := ⟨_, rfl⟩
  obtain ⟨M_0, hM_0⟩ : ∃ M_ : (Nat) → Nat, M_ = (fun (i_0 : Nat) => l_a0.length - i_0) := ⟨_, rfl⟩
  obtain ⟨J_0, hJ_0⟩ : ∃ J_ : ASt → Prop, J_ = (fun σ => (some (.out ()) = some q_0) ∧ True) := ⟨_, rfl⟩
  refine aw_loopC (id := 0) I_0 M_0 J_0 (0) ?_ ?_ ?_
  · rw [hI_0]
    refine ⟨⟨Nat.zero_le _, eq_0⟩, ?_⟩
    exact p_spec_l24Inputs_pv ff trivial
  · try clear ff
    rintro i_0 σ hg_0
    rw [hI_0] at hg_0
    obtain ⟨⟨hi_0, h_0⟩, g0_0, g1_0, g2_0⟩ := hg_0
    cases hr_0 : l_a0.drop i_0 with
    | nil =>
      rw [hr_0] at h_0
      rw [p_spec_l24Inputs_l0] at h_0
      have hn_0 := drop_nil hr_0
      have dr_0 : decide ((i_0 : Int) < (l_a0.length : Int)) = false := decide_eq_false (by omega)
      have ff := And.intro @dc1 (And.intro @dr_0 (And.intro @g0_0 (And.intro @g1_0 (And.intro @g2_0 p_spec_l24Inputs_tf.down))))
      try refine st_by ff ?_
      repeat' (first | exact trivial | refine And.intro sd ?_)
      refine JW.intro ?_
      rw [hJ_0]
      refine ⟨h_0, ?_⟩
      exact p_spec_l24Inputs_pv ff trivial
    | cons x_0 r_0 =>
      rw [hr_0] at h_0
      rw [p_spec_l24Inputs_l0] at h_0
      obtain ⟨ht_0, hg_0, hd_0⟩ := drop_cons hr_0
      have dr_0 : decide ((i_0 : Int) < (l_a0.length : Int)) = true := decide_eq_true (by omega)
      have w_0 : IntKind.i64.wrap ((i_0 : Int) + 1) = ((i_0 + 1 : Nat) : Int) := wI _ (by omega) (by omega)
      have kk0c : (esInt l_a0).drop (i_0 * 1) = eInt x_0 ++ esInt (l_a0.drop (i_0 + 1)) := drop_enc (fun _ => rfl) (hg_0)
      have kk0d := kk0c
      rw [Nat.mul_one] at kk0d
      have ff := And.intro @dc1 (And.intro @dr_0 (And.intro @w_0 (And.intro @g0_0 (And.intro @g1_0 (And.intro @g2_0 (And.intro @kk0c (And.intro @kk0d p_spec_l24Inputs_tf.down)))))))
      try refine st_by ff ?_
      repeat' (first | exact trivial | refine And.intro sd ?_)
      first
      | (refine cq_call (l1In_does x_0 0 5) (hf_by ff) kr ⟨p_spec_l24Inputs_sa ff trivial, ?_⟩; clear ff)
      by_cases c11 : (rng x_0 0 5) = true
      case neg =>
       rw [if_neg c11] at h_0
       have dc11 := eq_false_of_ne_true c11
       cases h_0
       try dsimp only at h
       have ff := And.intro @dc1 (And.intro @dr_0 (And.intro @w_0 (And.intro @g0_0 (And.intro @g1_0 (And.intro @g2_0 (And.intro @kk0c (And.intro @kk0d (And.intro @dc11 p_spec_l24Inputs_tf.down))))))))
       try refine st_by ff ?_
       repeat' (first | exact trivial | refine And.intro sd ?_)
       cases h
       exact ret_q1 rfl (p_spec_l24Inputs_rt ff trivial)
      rw [if_pos c11] at h_0
      have dc11 := c11
      have ff := And.intro @dc1 (And.intro @dr_0 (And.intro @w_0 (And.intro @g0_0 (And.intro @g1_0 (And.intro @g2_0 (And.intro @kk0c (And.intro @kk0d (And.intro @dc11 p_spec_l24Inputs_tf.down))))))))
      try refine st_by ff ?_
      repeat' (first | exact trivial | refine And.intro sd ?_)
      refine Back.intro (i_0 + 1) ?_ ?_
      · clear ff; rw [hM_0]; show l_a0.length - (i_0 + 1) < l_a0.length - i_0; omega
      rw [hI_0]
      refine ⟨⟨by clear ff; show i_0 + 1 ≤ l_a0.length; omega, by show p_spec_l24Inputs_l0 (l_a0.drop (i_0 + 1)) (i_0 + 1) = some q_0; rw [hd_0]; exact h_0⟩, ?_⟩
      exact p_spec_l24Inputs_pv ff trivial
  · try clear ff
    rintro σ hg_0
    rw [hJ_0] at hg_0
    obtain ⟨hj_0, _⟩ := hg_0
    cases hj_0
    try dsimp only at h
    have ff := And.intro @dc1 p_spec_l24Inputs_tf.down
    try refine st_by ff ?_
    repeat' (first | exact trivial | refine And.intro sd ?_)
    cases h
    exact ret_q1 rfl (p_spec_l24Inputs_rt ff trivial)
/-! spec.l24Own -/
theorem p_spec_l24Own_pv {F C A : Prop} (hF : F) (hC : C) (h : F → C → A := by intro hF hC; first | exact cl_by hF | (refine st_by hF ?_; (repeat' (first | exact trivial | apply And.intro)); all_goals (clear hF; first | rfl | (simp only [hC, List.length_append, List.length_cons, List.length_nil, List.append_nil, List.nil_append, List.cons_append, List.length_set, List.append_assoc, Nat.zero_add, List.length_replicate, esGame_app, esGame_cons, esGame_nil, eGame_eq, esGameo_app, esGameo_cons, esGameo_nil, eGameo_eq, esSeat_app, esSeat_cons, esSeat_nil, eSeat_eq]; done) | (simp [hC, List.length_append, List.length_cons, List.length_nil, List.append_nil, List.nil_append, List.cons_append, List.length_set, List.append_assoc, Nat.zero_add, List.length_replicate, esGame_app, esGame_cons, esGame_nil, eGame_eq, esGameo_app, esGameo_cons, esGameo_nil, eGameo_eq, esSeat_app, esSeat_cons, esSeat_nil, eSeat_eq]; done) | omega))) : A := h hF hC
theorem p_spec_l24Own_sa {F C A : Prop} (hF : F) (hC : C) (h : F → C → A := by intro hF hC; first | exact ca_by hF | (refine sa_by hF ?_; (repeat' (first | exact trivial | apply And.intro)); all_goals (clear hF; first | rfl | (simp only [hC, List.length_append, List.length_cons, List.length_nil, List.append_nil, List.nil_append, List.cons_append, List.length_set, List.append_assoc, Nat.zero_add, List.length_replicate, esGame_app, esGame_cons, esGame_nil, eGame_eq, esGameo_app, esGameo_cons, esGameo_nil, eGameo_eq, esSeat_app, esSeat_cons, esSeat_nil, eSeat_eq]; done) | (simp [hC, List.length_append, List.length_cons, List.length_nil, List.append_nil, List.nil_append, List.cons_append, List.length_set, List.append_assoc, Nat.zero_add, List.length_replicate, esGame_app, esGame_cons, esGame_nil, eGame_eq, esGameo_app, esGameo_cons, esGameo_nil, eGameo_eq, esSeat_app, esSeat_cons, esSeat_nil, eSeat_eq]; done) | omega))) : A := h hF hC
theorem p_spec_l24Own_rt {F C A : Prop} (hF : F) (hC : C) (h : F → C → A := by intro hF hC; first | (refine sr_by hF ?_; (repeat' (first | exact trivial | apply And.intro)); all_goals (clear hF; first | rfl | (simp only [hC, List.length_append, List.length_cons, List.length_nil, List.append_nil, List.nil_append, List.cons_append, List.length_set, List.append_assoc, Nat.zero_add, List.length_replicate, esGame_app, esGame_cons, esGame_nil, eGame_eq, esGameo_app, esGameo_cons, esGameo_nil, eGameo_eq, esSeat_app, esSeat_cons, esSeat_nil, eSeat_eq]; done) | (simp [hC, List.length_append, List.length_cons, List.length_nil, List.append_nil, List.nil_append, List.cons_append, List.length_set, List.append_assoc, Nat.zero_add, List.length_replicate, esGame_app, esGame_cons, esGame_nil, eGame_eq, esGameo_app, esGameo_cons, esGameo_nil, eGameo_eq, esSeat_app, esSeat_cons, esSeat_nil, eSeat_eq]; done) | omega)) | (first | rfl | (simp only [hC, List.length_append, List.length_cons, List.length_nil, List.append_nil, List.nil_append, List.cons_append, List.length_set, List.append_assoc, Nat.zero_add, List.length_replicate, esGame_app, esGame_cons, esGame_nil, eGame_eq, esGameo_app, esGameo_cons, esGameo_nil, eGameo_eq, esSeat_app, esSeat_cons, esSeat_nil, eSeat_eq]; done) | (simp [hC, List.length_append, List.length_cons, List.length_nil, List.append_nil, List.nil_append, List.cons_append, List.length_set, List.append_assoc, Nat.zero_add, List.length_replicate, esGame_app, esGame_cons, esGame_nil, eGame_eq, esGameo_app, esGameo_cons, esGameo_nil, eGameo_eq, esSeat_app, esSeat_cons, esSeat_nil, eSeat_eq]; done) | omega)) : A := h hF hC
def p_spec_l24Own_tf := PLift.up (And.intro @eGame_eq (And.intro @esGame_len (And.intro @esGame_nil (And.intro @esGame_leaf (And.intro @esGame_fit (And.intro @eGameo_eq (And.intro @esGameo_len (And.intro @esGameo_nil (And.intro @eSeat_eq (And.intro @esSeat_len (And.intro @esSeat_nil (And.intro @esSeat_leaf (And.intro @esSeat_fit (And.intro @esGameo_share (And.intro @esGameo_pure (And.intro @esSeat_share (And.intro @esSeat_pure (And.intro @str_beq (And.intro @Ty.nz71 (And.intro @Ty.ldA71 (And.intro @Ty.ldS71 (And.intro @Ty.sz71 (And.intro @Ty.szn71 (And.intro @Ty.nz73 (And.intro @Ty.ldA73 (And.intro @Ty.sz73 (And.intro @Ty.szn73 (And.intro @Ty.fo73_2 (And.intro @Ty.fk73_2 (And.intro @Ty.fs73_2 (And.intro @Ty.fn73_2 (And.intro @Ty.nze71 (And.intro @Ty.sl71 (And.intro @Ty.slz71 (And.intro @Ty.zok71 (And.intro @Ty.by71 (And.intro @Ty.zs71 (And.intro @Ty.zv73 (And.intro @Ty.ag73 @trivial)))))))))))))))))))))))))))))))))))))))
def p_spec_l24Own (g_a0 : GGame) : Option (GGame) := (if g_a0.Seats.length < 4294967296 then some (⟨g_a0.Frame, g_a0.Coin, g_a0.Seats⟩ : GGame) else none)
theorem p_spec_l24Own_does (g_a0 : GGame) (r : GGame) (h : p_spec_l24Own g_a0 = some r) : Does Try.prog 66 [.agg (eGame g_a0)] (.agg (eGameo r)) := by
  rw [p_spec_l24Own] at h
  refine Does.bnd (fun hb => ?_)
  have hb2 : g_a0.Seats.length ≤ 9223372036854775807 := by simpa [AV.fitNs, AV.fitN, eGame] using hb
  have hl0 := hb2
  refine Does.walk (nt := 9) Try.func66 rfl rfl (by simp) (by decide) rfl (fun G0 X w0 pv => ?_)
  by_cases c1 : g_a0.Seats.length < 4294967296
  case neg => rw [if_neg c1] at h; cases h
  rw [if_pos c1] at h
  have ff := p_spec_l24Own_tf.down
  try refine st_by ff ?_
  repeat' (first | exact trivial | refine And.intro sd ?_)
  cases h
  exact ret_q1 rfl (p_spec_l24Own_rt ff trivial)
/-! spec.l24Edge -/
theorem p_spec_l24Edge_pv {F C A : Prop} (hF : F) (hC : C) (h : F → C → A := by intro hF hC; first | exact cl_by hF | (refine st_by hF ?_; (repeat' (first | exact trivial | apply And.intro)); all_goals (clear hF; first | rfl | (simp only [hC, List.length_append, List.length_cons, List.length_nil, List.append_nil, List.nil_append, List.cons_append, List.length_set, List.append_assoc, Nat.zero_add, List.length_replicate]; done) | (simp [hC, List.length_append, List.length_cons, List.length_nil, List.append_nil, List.nil_append, List.cons_append, List.length_set, List.append_assoc, Nat.zero_add, List.length_replicate]; done) | omega))) : A := h hF hC
theorem p_spec_l24Edge_sa {F C A : Prop} (hF : F) (hC : C) (h : F → C → A := by intro hF hC; first | exact ca_by hF | (refine sa_by hF ?_; (repeat' (first | exact trivial | apply And.intro)); all_goals (clear hF; first | rfl | (simp only [hC, List.length_append, List.length_cons, List.length_nil, List.append_nil, List.nil_append, List.cons_append, List.length_set, List.append_assoc, Nat.zero_add, List.length_replicate]; done) | (simp [hC, List.length_append, List.length_cons, List.length_nil, List.append_nil, List.nil_append, List.cons_append, List.length_set, List.append_assoc, Nat.zero_add, List.length_replicate]; done) | omega))) : A := h hF hC
theorem p_spec_l24Edge_rt {F C A : Prop} (hF : F) (hC : C) (h : F → C → A := by intro hF hC; first | (refine sr_by hF ?_; (repeat' (first | exact trivial | apply And.intro)); all_goals (clear hF; first | rfl | (simp only [hC, List.length_append, List.length_cons, List.length_nil, List.append_nil, List.nil_append, List.cons_append, List.length_set, List.append_assoc, Nat.zero_add, List.length_replicate]; done) | (simp [hC, List.length_append, List.length_cons, List.length_nil, List.append_nil, List.nil_append, List.cons_append, List.length_set, List.append_assoc, Nat.zero_add, List.length_replicate]; done) | omega)) | (first | rfl | (simp only [hC, List.length_append, List.length_cons, List.length_nil, List.append_nil, List.nil_append, List.cons_append, List.length_set, List.append_assoc, Nat.zero_add, List.length_replicate]; done) | (simp [hC, List.length_append, List.length_cons, List.length_nil, List.append_nil, List.nil_append, List.cons_append, List.length_set, List.append_assoc, Nat.zero_add, List.length_replicate]; done) | omega)) : A := h hF hC
def p_spec_l24Edge_tf := PLift.up (And.intro @str_beq @trivial)
def p_spec_l24Edge (n_a0 : Int) : Option (Int) := (if n_a0 < 0 then some 0 else (if n_a0 > 63 then some 63 else some n_a0))
theorem p_spec_l24Edge_does (n_a0 : Int) (r : Int) (h : p_spec_l24Edge n_a0 = some r) : Does Try.prog 67 [I n_a0] (I r) := by
  rw [p_spec_l24Edge] at h
  refine Does.walk (nt := 8) Try.func67 rfl rfl (by simp) (by decide) rfl (fun G0 X w0 pv => ?_)
  by_cases c1 : n_a0 < 0
  · rw [if_pos c1] at h
    have dc1 := decide_eq_true c1
    have ff := And.intro @dc1 p_spec_l24Edge_tf.down
    try refine st_by ff ?_
    repeat' (first | exact trivial | refine And.intro sd ?_)
    cases h
    exact ret_q1 rfl (p_spec_l24Edge_rt ff trivial)
  rw [if_neg c1] at h
  have dc1 := decide_eq_false c1
  by_cases c2 : n_a0 > 63
  case neg =>
   rw [if_neg c2] at h
   have dc2 := decide_eq_false c2
   have ff := And.intro @dc1 (And.intro @dc2 p_spec_l24Edge_tf.down)
   try refine st_by ff ?_
   repeat' (first | exact trivial | refine And.intro sd ?_)
   cases h
   exact ret_q1 rfl (p_spec_l24Edge_rt ff trivial)
  rw [if_pos c2] at h
  have dc2 := decide_eq_true c2
  have ff := And.intro @dc1 (And.intro @dc2 p_spec_l24Edge_tf.down)
  try refine st_by ff ?_
  repeat' (first | exact trivial | refine And.intro sd ?_)
  cases h
  exact ret_q1 rfl (p_spec_l24Edge_rt ff trivial)
/-! spec.l1Abs -/
theorem p_spec_l1Abs_pv {F C A : Prop} (hF : F) (hC : C) (h : F → C → A := by intro hF hC; first | exact cl_by hF | (refine st_by hF ?_; (repeat' (first | exact trivial | apply And.intro)); all_goals (clear hF; first | rfl | (simp only [hC, List.length_append, List.length_cons, List.length_nil, List.append_nil, List.nil_append, List.cons_append, List.length_set, List.append_assoc, Nat.zero_add, List.length_replicate]; done) | (simp [hC, List.length_append, List.length_cons, List.length_nil, List.append_nil, List.nil_append, List.cons_append, List.length_set, List.append_assoc, Nat.zero_add, List.length_replicate]; done) | omega))) : A := h hF hC
theorem p_spec_l1Abs_sa {F C A : Prop} (hF : F) (hC : C) (h : F → C → A := by intro hF hC; first | exact ca_by hF | (refine sa_by hF ?_; (repeat' (first | exact trivial | apply And.intro)); all_goals (clear hF; first | rfl | (simp only [hC, List.length_append, List.length_cons, List.length_nil, List.append_nil, List.nil_append, List.cons_append, List.length_set, List.append_assoc, Nat.zero_add, List.length_replicate]; done) | (simp [hC, List.length_append, List.length_cons, List.length_nil, List.append_nil, List.nil_append, List.cons_append, List.length_set, List.append_assoc, Nat.zero_add, List.length_replicate]; done) | omega))) : A := h hF hC
theorem p_spec_l1Abs_rt {F C A : Prop} (hF : F) (hC : C) (h : F → C → A := by intro hF hC; first | (refine sr_by hF ?_; (repeat' (first | exact trivial | apply And.intro)); all_goals (clear hF; first | rfl | (simp only [hC, List.length_append, List.length_cons, List.length_nil, List.append_nil, List.nil_append, List.cons_append, List.length_set, List.append_assoc, Nat.zero_add, List.length_replicate]; done) | (simp [hC, List.length_append, List.length_cons, List.length_nil, List.append_nil, List.nil_append, List.cons_append, List.length_set, List.append_assoc, Nat.zero_add, List.length_replicate]; done) | omega)) | (first | rfl | (simp only [hC, List.length_append, List.length_cons, List.length_nil, List.append_nil, List.nil_append, List.cons_append, List.length_set, List.append_assoc, Nat.zero_add, List.length_replicate]; done) | (simp [hC, List.length_append, List.length_cons, List.length_nil, List.append_nil, List.nil_append, List.cons_append, List.length_set, List.append_assoc, Nat.zero_add, List.length_replicate]; done) | omega)) : A := h hF hC
def p_spec_l1Abs_tf := PLift.up (And.intro @str_beq @trivial)
def p_spec_l1Abs (n_a0 : Int) : Option (Int) := (if n_a0 < 0 then some (IntKind.i64.wrap (0 - n_a0)) else some n_a0)
theorem p_spec_l1Abs_does (n_a0 : Int) (r : Int) (h : p_spec_l1Abs n_a0 = some r) : Does Try.prog 22 [I n_a0] (I r) := by
  rw [p_spec_l1Abs] at h
  refine Does.walk (nt := 8) Try.func22 rfl rfl (by simp) (by decide) rfl (fun G0 X w0 pv => ?_)
  by_cases c1 : n_a0 < 0
  case neg =>
   rw [if_neg c1] at h
   have dc1 := decide_eq_false c1
   have ff := And.intro @dc1 p_spec_l1Abs_tf.down
   try refine st_by ff ?_
   repeat' (first | exact trivial | refine And.intro sd ?_)
   cases h
   exact ret_q1 rfl (p_spec_l1Abs_rt ff trivial)
  rw [if_pos c1] at h
  have dc1 := decide_eq_true c1
  have ff := And.intro @dc1 p_spec_l1Abs_tf.down
  try refine st_by ff ?_
  repeat' (first | exact trivial | refine And.intro sd ?_)
  cases h
  exact ret_q1 rfl (p_spec_l1Abs_rt ff trivial)
/-! spec.l1Coin -/
theorem p_spec_l1Coin_pv {F C A : Prop} (hF : F) (hC : C) (h : F → C → A := by intro hF hC; first | exact cl_by hF | (refine st_by hF ?_; (repeat' (first | exact trivial | apply And.intro)); all_goals (clear hF; first | rfl | (simp only [hC, List.length_append, List.length_cons, List.length_nil, List.append_nil, List.nil_append, List.cons_append, List.length_set, List.append_assoc, Nat.zero_add, List.length_replicate]; done) | (simp [hC, List.length_append, List.length_cons, List.length_nil, List.append_nil, List.nil_append, List.cons_append, List.length_set, List.append_assoc, Nat.zero_add, List.length_replicate]; done) | omega))) : A := h hF hC
theorem p_spec_l1Coin_sa {F C A : Prop} (hF : F) (hC : C) (h : F → C → A := by intro hF hC; first | exact ca_by hF | (refine sa_by hF ?_; (repeat' (first | exact trivial | apply And.intro)); all_goals (clear hF; first | rfl | (simp only [hC, List.length_append, List.length_cons, List.length_nil, List.append_nil, List.nil_append, List.cons_append, List.length_set, List.append_assoc, Nat.zero_add, List.length_replicate]; done) | (simp [hC, List.length_append, List.length_cons, List.length_nil, List.append_nil, List.nil_append, List.cons_append, List.length_set, List.append_assoc, Nat.zero_add, List.length_replicate]; done) | omega))) : A := h hF hC
theorem p_spec_l1Coin_rt {F C A : Prop} (hF : F) (hC : C) (h : F → C → A := by intro hF hC; first | (refine sr_by hF ?_; (repeat' (first | exact trivial | apply And.intro)); all_goals (clear hF; first | rfl | (simp only [hC, List.length_append, List.length_cons, List.length_nil, List.append_nil, List.nil_append, List.cons_append, List.length_set, List.append_assoc, Nat.zero_add, List.length_replicate]; done) | (simp [hC, List.length_append, List.length_cons, List.length_nil, List.append_nil, List.nil_append, List.cons_append, List.length_set, List.append_assoc, Nat.zero_add, List.length_replicate]; done) | omega)) | (first | rfl | (simp only [hC, List.length_append, List.length_cons, List.length_nil, List.append_nil, List.nil_append, List.cons_append, List.length_set, List.append_assoc, Nat.zero_add, List.length_replicate]; done) | (simp [hC, List.length_append, List.length_cons, List.length_nil, List.append_nil, List.nil_append, List.cons_append, List.length_set, List.append_assoc, Nat.zero_add, List.length_replicate]; done) | omega)) : A := h hF hC
def p_spec_l1Coin_tf := PLift.up (And.intro @str_beq @trivial)
def p_spec_l1Coin (seed_a0 : Int) : Option (Int × Int) := some ((Int.tmod (IntKind.i64.wrap ((IntKind.i64.wrap (seed_a0 * 1103515245)) + 12345)) 2147483648), (IntKind.i64.wrap (Int.tdiv (Int.tmod (IntKind.i64.wrap ((IntKind.i64.wrap (seed_a0 * 1103515245)) + 12345)) 2147483648) 65536)))
theorem p_spec_l1Coin_does (seed_a0 : Int) (r : Int × Int) (h : p_spec_l1Coin seed_a0 = some r) : Does Try.prog 68 [I seed_a0] (.tup [I r.1, I r.2]) := by
  rw [p_spec_l1Coin] at h
  refine Does.walk (nt := 12) Try.func68 rfl rfl (by simp) (by decide) rfl (fun G0 X w0 pv => ?_)
  have ff := p_spec_l1Coin_tf.down
  try refine st_by ff ?_
  repeat' (first | exact trivial | refine And.intro sd ?_)
  cases h
  exact ret_q2 rfl (p_spec_l1Coin_rt ff trivial)
/-! spec.l24Step -/
def p_spec_l24Step_l0 (inputs_a1 : List Int) (v1 : GGame) : Nat → Int → (List GSeat) → (List Bool) → Option (Int × (List GSeat) × (List Bool))
  | 0, _, _, _ => none
  | n_0 + 1, u_31, g_32, alive_33 => (if u_31 < (v1.Seats.length : Int) then ((idx g_32 u_31).bind fun x62 => ((idx alive_33 u_31).bind fun x64 => (if decide (x62.Hp > 0) = true then ((idx inputs_a1 u_31).bind fun x70 => (if x70 = 1 then ((p_spec_l24Edge (IntKind.i64.wrap (x62.X - 1))).bind fun v73 => p_spec_l24Step_l0 inputs_a1 v1 n_0 (IntKind.i64.wrap (u_31 + 1)) (g_32.set u_31.toNat (⟨v73, x62.Y, x62.Hp⟩ : GSeat)) (alive_33.set u_31.toNat (decide (x62.Hp > 0)))) else (if x70 = 2 then ((p_spec_l24Edge (IntKind.i64.wrap (x62.X + 1))).bind fun v77 => p_spec_l24Step_l0 inputs_a1 v1 n_0 (IntKind.i64.wrap (u_31 + 1)) (g_32.set u_31.toNat (⟨v77, x62.Y, x62.Hp⟩ : GSeat)) (alive_33.set u_31.toNat (decide (x62.Hp > 0)))) else (if x70 = 3 then ((p_spec_l24Edge (IntKind.i64.wrap (x62.Y - 1))).bind fun v81 => p_spec_l24Step_l0 inputs_a1 v1 n_0 (IntKind.i64.wrap (u_31 + 1)) (g_32.set u_31.toNat (⟨x62.X, v81, x62.Hp⟩ : GSeat)) (alive_33.set u_31.toNat (decide (x62.Hp > 0)))) else (if x70 = 4 then ((p_spec_l24Edge (IntKind.i64.wrap (x62.Y + 1))).bind fun v85 => p_spec_l24Step_l0 inputs_a1 v1 n_0 (IntKind.i64.wrap (u_31 + 1)) (g_32.set u_31.toNat (⟨x62.X, v85, x62.Hp⟩ : GSeat)) (alive_33.set u_31.toNat (decide (x62.Hp > 0)))) else p_spec_l24Step_l0 inputs_a1 v1 n_0 (IntKind.i64.wrap (u_31 + 1)) g_32 (alive_33.set u_31.toNat (decide (x62.Hp > 0)))))))) else p_spec_l24Step_l0 inputs_a1 v1 n_0 (IntKind.i64.wrap (u_31 + 1)) g_32 (alive_33.set u_31.toNat (decide (x62.Hp > 0)))))) else some (u_31, g_32, alive_33))
def p_spec_l24Step_j2 (u_262 : Int) (g_264 : List GSeat) (v289 : Int × Int) (rec_1 : Int → Int → (List GSeat) → Option (Int × Int × (List GSeat))) (b_290 : Bool) : Option (Int × Int × (List GSeat)) := (if b_290 = true then ((idx g_264 u_262).bind fun x292 => rec_1 (IntKind.i64.wrap (u_262 + 1)) v289.1 (g_264.set u_262.toNat (⟨x292.X, x292.Y, (IntKind.i64.wrap (x292.Hp - 1))⟩ : GSeat))) else rec_1 (IntKind.i64.wrap (u_262 + 1)) v289.1 g_264)
def p_spec_l24Step_j1 (u_262 : Int) (g_263 : Int) (g_264 : List GSeat) (rec_1 : Int → Int → (List GSeat) → Option (Int × Int × (List GSeat))) (b_287 : Bool) : Option (Int × Int × (List GSeat)) := (if b_287 = true then rec_1 (IntKind.i64.wrap (u_262 + 1)) g_263 g_264 else ((p_spec_l1Coin g_263).bind fun v289 => (if (Int.tmod v289.2 2) = 0 then ((idx g_264 u_262).bind fun x297 => p_spec_l24Step_j2 u_262 g_264 v289 (rec_1) (decide (x297.Hp > 0))) else p_spec_l24Step_j2 u_262 g_264 v289 (rec_1) false)))
def p_spec_l24Step_l2 (u_159 : Int) (g_161 : List GSeat) : Nat → Int → Int → (List GSeat) → Option (Int × Int × (List GSeat))
  | 0, _, _, _ => none
  | n_2 + 1, u_262, g_263, g_264 => (if u_262 < (g_161.length : Int) then (if u_262 = u_159 then p_spec_l24Step_j1 u_262 g_263 g_264 (p_spec_l24Step_l2 u_159 g_161 n_2) true else ((idx g_264 u_262).bind fun x300 => ((idx g_264 u_159).bind fun x302 => ((p_spec_l1Abs (IntKind.i64.wrap (x300.X - x302.X))).bind fun v304 => (if v304 > 1 then p_spec_l24Step_j1 u_262 g_263 g_264 (p_spec_l24Step_l2 u_159 g_161 n_2) true else ((p_spec_l1Abs (IntKind.i64.wrap (x300.Y - x302.Y))).bind fun v306 => p_spec_l24Step_j1 u_262 g_263 g_264 (p_spec_l24Step_l2 u_159 g_161 n_2) (decide (v306 > 1)))))))) else some (u_262, g_263, g_264))
def p_spec_l24Step_j0 (N : Nat) (u_159 : Int) (g_160 : Int) (g_161 : List GSeat) (rec_0 : Int → Int → (List GSeat) → Option (Int × Int × (List GSeat))) (b_239 : Bool) : Option (Int × Int × (List GSeat)) := (if b_239 = true then rec_0 (IntKind.i64.wrap (u_159 + 1)) g_160 g_161 else ((p_spec_l24Step_l2 u_159 g_161 N 0 g_160 g_161).bind fun q_2 => match q_2 with | (u_262, g_263, g_264) => rec_0 (IntKind.i64.wrap (u_159 + 1)) g_263 g_264))
def p_spec_l24Step_l1 (N : Nat) (inputs_a1 : List Int) (g_32 : List GSeat) (alive_33 : List Bool) : Nat → Int → Int → (List GSeat) → Option (Int × Int × (List GSeat))
  | 0, _, _, _ => none
  | n_1 + 1, u_159, g_160, g_161 => (if u_159 < (g_32.length : Int) then ((idx alive_33 u_159).bind fun x237 => (if x237 = true then ((idx inputs_a1 u_159).bind fun x308 => p_spec_l24Step_j0 N u_159 g_160 g_161 (p_spec_l24Step_l1 N inputs_a1 g_32 alive_33 n_1) (!(x308 == 5))) else p_spec_l24Step_j0 N u_159 g_160 g_161 (p_spec_l24Step_l1 N inputs_a1 g_32 alive_33 n_1) true)) else some (u_159, g_160, g_161))
theorem p_spec_l24Step_pv {F C A : Prop} (hF : F) (hC : C) (h : F → C → A := by intro hF hC; first | exact cl_by hF | (refine st_by hF ?_; (repeat' (first | exact trivial | apply And.intro)); all_goals (clear hF; first | rfl | (simp only [hC, List.length_append, List.length_cons, List.length_nil, List.append_nil, List.nil_append, List.cons_append, List.length_set, List.append_assoc, Nat.zero_add, List.length_replicate, esInt_app, esInt_cons, esInt_nil, eInt_eq, esBool_app, esBool_cons, esBool_nil, eBool_eq, esGame_app, esGame_cons, esGame_nil, eGame_eq, esGameo_app, esGameo_cons, esGameo_nil, eGameo_eq, esSeat_app, esSeat_cons, esSeat_nil, eSeat_eq]; done) | (simp [hC, List.length_append, List.length_cons, List.length_nil, List.append_nil, List.nil_append, List.cons_append, List.length_set, List.append_assoc, Nat.zero_add, List.length_replicate, esInt_app, esInt_cons, esInt_nil, eInt_eq, esBool_app, esBool_cons, esBool_nil, eBool_eq, esGame_app, esGame_cons, esGame_nil, eGame_eq, esGameo_app, esGameo_cons, esGameo_nil, eGameo_eq, esSeat_app, esSeat_cons, esSeat_nil, eSeat_eq]; done) | omega))) : A := h hF hC
theorem p_spec_l24Step_sa {F C A : Prop} (hF : F) (hC : C) (h : F → C → A := by intro hF hC; first | exact ca_by hF | (refine sa_by hF ?_; (repeat' (first | exact trivial | apply And.intro)); all_goals (clear hF; first | rfl | (simp only [hC, List.length_append, List.length_cons, List.length_nil, List.append_nil, List.nil_append, List.cons_append, List.length_set, List.append_assoc, Nat.zero_add, List.length_replicate, esInt_app, esInt_cons, esInt_nil, eInt_eq, esBool_app, esBool_cons, esBool_nil, eBool_eq, esGame_app, esGame_cons, esGame_nil, eGame_eq, esGameo_app, esGameo_cons, esGameo_nil, eGameo_eq, esSeat_app, esSeat_cons, esSeat_nil, eSeat_eq]; done) | (simp [hC, List.length_append, List.length_cons, List.length_nil, List.append_nil, List.nil_append, List.cons_append, List.length_set, List.append_assoc, Nat.zero_add, List.length_replicate, esInt_app, esInt_cons, esInt_nil, eInt_eq, esBool_app, esBool_cons, esBool_nil, eBool_eq, esGame_app, esGame_cons, esGame_nil, eGame_eq, esGameo_app, esGameo_cons, esGameo_nil, eGameo_eq, esSeat_app, esSeat_cons, esSeat_nil, eSeat_eq]; done) | omega))) : A := h hF hC
theorem p_spec_l24Step_rt {F C A : Prop} (hF : F) (hC : C) (h : F → C → A := by intro hF hC; first | (refine sr_by hF ?_; (repeat' (first | exact trivial | apply And.intro)); all_goals (clear hF; first | rfl | (simp only [hC, List.length_append, List.length_cons, List.length_nil, List.append_nil, List.nil_append, List.cons_append, List.length_set, List.append_assoc, Nat.zero_add, List.length_replicate, esInt_app, esInt_cons, esInt_nil, eInt_eq, esBool_app, esBool_cons, esBool_nil, eBool_eq, esGame_app, esGame_cons, esGame_nil, eGame_eq, esGameo_app, esGameo_cons, esGameo_nil, eGameo_eq, esSeat_app, esSeat_cons, esSeat_nil, eSeat_eq]; done) | (simp [hC, List.length_append, List.length_cons, List.length_nil, List.append_nil, List.nil_append, List.cons_append, List.length_set, List.append_assoc, Nat.zero_add, List.length_replicate, esInt_app, esInt_cons, esInt_nil, eInt_eq, esBool_app, esBool_cons, esBool_nil, eBool_eq, esGame_app, esGame_cons, esGame_nil, eGame_eq, esGameo_app, esGameo_cons, esGameo_nil, eGameo_eq, esSeat_app, esSeat_cons, esSeat_nil, eSeat_eq]; done) | omega)) | (first | rfl | (simp only [hC, List.length_append, List.length_cons, List.length_nil, List.append_nil, List.nil_append, List.cons_append, List.length_set, List.append_assoc, Nat.zero_add, List.length_replicate, esInt_app, esInt_cons, esInt_nil, eInt_eq, esBool_app, esBool_cons, esBool_nil, eBool_eq, esGame_app, esGame_cons, esGame_nil, eGame_eq, esGameo_app, esGameo_cons, esGameo_nil, eGameo_eq, esSeat_app, esSeat_cons, esSeat_nil, eSeat_eq]; done) | (simp [hC, List.length_append, List.length_cons, List.length_nil, List.append_nil, List.nil_append, List.cons_append, List.length_set, List.append_assoc, Nat.zero_add, List.length_replicate, esInt_app, esInt_cons, esInt_nil, eInt_eq, esBool_app, esBool_cons, esBool_nil, eBool_eq, esGame_app, esGame_cons, esGame_nil, eGame_eq, esGameo_app, esGameo_cons, esGameo_nil, eGameo_eq, esSeat_app, esSeat_cons, esSeat_nil, eSeat_eq]; done) | omega)) : A := h hF hC
def p_spec_l24Step_tf := PLift.up (And.intro @eInt_eq (And.intro @esInt_len (And.intro @esInt_nil (And.intro @esInt_leaf (And.intro @esInt_fit (And.intro @eBool_eq (And.intro @esBool_len (And.intro @esBool_nil (And.intro @esBool_leaf (And.intro @esBool_fit (And.intro @eGame_eq (And.intro @esGame_len (And.intro @esGame_nil (And.intro @esGame_leaf (And.intro @esGame_fit (And.intro @eGameo_eq (And.intro @esGameo_len (And.intro @esGameo_nil (And.intro @eSeat_eq (And.intro @esSeat_len (And.intro @esSeat_nil (And.intro @esSeat_leaf (And.intro @esSeat_fit (And.intro @esInt_share (And.intro @esInt_pure (And.intro @esBool_share (And.intro @esBool_pure (And.intro @esGameo_share (And.intro @esGameo_pure (And.intro @esSeat_share (And.intro @esSeat_pure (And.intro @str_beq (And.intro @Ty.sl71 (And.intro @Ty.slz71 (And.intro @Ty.sl90 (And.intro @Ty.slz90 (And.intro @Ty.sl35 (And.intro @Ty.slz35 (And.intro @Ty.nz73 (And.intro @Ty.ldA73 (And.intro @Ty.sz73 (And.intro @Ty.szn73 (And.intro @Ty.nz71 (And.intro @Ty.ldA71 (And.intro @Ty.ldS71 (And.intro @Ty.sz71 (And.intro @Ty.szn71 (And.intro @Ty.nz3 (And.intro @Ty.ldA3 (And.intro @Ty.ldS3 (And.intro @Ty.sz3 (And.intro @Ty.szn3 (And.intro @Ty.nz4 (And.intro @Ty.ldA4 (And.intro @Ty.ldS4 (And.intro @Ty.sz4 (And.intro @Ty.szn4 (And.intro @Ty.fo73_2 (And.intro @Ty.fk73_2 (And.intro @Ty.fs73_2 (And.intro @Ty.fn73_2 (And.intro @Ty.fo84_2 (And.intro @Ty.fk84_2 (And.intro @Ty.fs84_2 (And.intro @Ty.fn84_2 (And.intro @Ty.fo84_0 (And.intro @Ty.fk84_0 (And.intro @Ty.fs84_0 (And.intro @Ty.fn84_0 (And.intro @Ty.fo84_1 (And.intro @Ty.fk84_1 (And.intro @Ty.fs84_1 (And.intro @Ty.fn84_1 (And.intro @Ty.fo73_1 (And.intro @Ty.fk73_1 (And.intro @Ty.fs73_1 (And.intro @Ty.fn73_1 (And.intro @Ty.fo73_0 (And.intro @Ty.fk73_0 (And.intro @Ty.fs73_0 (And.intro @Ty.fn73_0 (And.intro @Ty.nze90 (And.intro @Ty.zok90 (And.intro @Ty.by90 (And.intro @Ty.zs90 (And.intro @Ty.zv73 (And.intro @Ty.ag73 @trivial)))))))))))))))))))))))))))))))))))))))))))))))))))))))))))))))))))))))))))))))))))))))
def p_spec_l24Step (N : Nat) (g_a0 : GGame) (inputs_a1 : List Int) : Option (GGame) := ((p_spec_l24Own g_a0).bind fun v1 => ((mkl (v1.Seats.length : Int) (false : Bool)).bind fun m2 => ((p_spec_l24Step_l0 inputs_a1 v1 N 0 v1.Seats m2).bind fun q_0 => match q_0 with | (u_31, g_32, alive_33) => ((p_spec_l24Step_l1 N inputs_a1 g_32 alive_33 N 0 v1.Coin g_32).bind fun q_1 => match q_1 with | (u_159, g_160, g_161) => some (⟨(IntKind.i64.wrap (v1.Frame + 1)), g_160, g_161⟩ : GGame)))))
theorem p_spec_l24Step_does (N : Nat) (g_a0 : GGame) (inputs_a1 : List Int) (r : GGame) (h : p_spec_l24Step N g_a0 inputs_a1 = some r) : Does Try.prog 58 [.agg (eGame g_a0), .row false 1 inputs_a1.length (esInt inputs_a1)] (.agg (eGameo r)) := by
  rw [p_spec_l24Step] at h
  refine Does.bnd (fun hb => ?_)
  have hb2 : g_a0.Seats.length ≤ 9223372036854775807 ∧ inputs_a1.length ≤ 9223372036854775807 := by simpa [AV.fitNs, AV.fitN, eGame] using hb
  obtain ⟨hl0, hl1⟩ := hb2
  refine Does.walk (nt := 187) Try.func58 rfl rfl (by simp) (by decide) rfl (fun G0 X w0 pv => ?_)
  obtain ⟨v1, ev1, h⟩ := Option.bind_eq_some_iff.1 h
  try dsimp only at h
  have ff := p_spec_l24Step_tf.down
  try refine st_by ff ?_
  repeat' (first | exact trivial | refine And.intro sd ?_)
  first
  | (refine cq_own (p_spec_l24Own_does g_a0 v1 ev1) (hf_by ff) kr ⟨p_spec_l24Step_sa ff trivial, ?_⟩; clear ff)
  | (refine cq_down (p_spec_l24Own_does g_a0 v1 ev1) (hf_by ff) kr ⟨p_spec_l24Step_sa ff trivial, ?_⟩; clear ff)
  obtain ⟨m2, em2, h⟩ := Option.bind_eq_some_iff.1 h
  try dsimp only at h
  obtain ⟨f3b, f3c, f3d⟩ := mkl_ok em2
  have f3a : (zCells [.bool false] v1.Seats.length).map AV.lit = esBool m2 := mkl_encN (enc := eBool) (by decide) rfl em2
  rw [Int.toNat_natCast] at f3c
  obtain ⟨q_0, eq_0, h⟩ := Option.bind_eq_some_iff.1 h
  have ff := And.intro @f3a p_spec_l24Step_tf.down
  try refine st_by ff ?_
  repeat' (first | exact trivial | refine And.intro sd ?_)
  obtain ⟨I_0, hI_0⟩ : ∃ I_ : (Nat × Int × (List GSeat) × (List Bool)) → ASt → Prop, I_ = (fun (a : Nat × Int × (List GSeat) × (List Bool)) σ => match a with | (n_0, u_31, g_32, alive_33) => (p_spec_l24Step_l0 inputs_a1 v1 n_0 u_31 g_32 alive_33 = some q_0) ∧ σ.t 1 = .row false 1 inputs_a1.length (esInt inputs_a1) ∧ σ.t 2 = .ptr 2 [] 0 ∧ σ.t 4 = .ptr 4 [] 0 ∧ σ.t 5 = .sl 5 [] 0 alive_33.length ∧ σ.t 20 = I (v1.Seats.length : Int) ∧ σ.t 21 = I u_31 ∧ σ.m 2 = some (.box true [I v1.Frame, I v1.Coin, .row true 3 g_32.length (esSeat g_32)]) ∧ σ.m 4 = some (.box true [I 0, I 0, .row true 3 0 []]) ∧ σ.m 5 = some (.row true 1 alive_33.length (esBool alive_33))) := ⟨_, rfl⟩
  obtain ⟨M_0, hM_0⟩ : ∃ M_ : (Nat × Int × (List GSeat) × (List Bool)) → Nat, M_ = (fun (a : Nat × Int × (List GSeat) × (List Bool)) => match a with | (n_0, u_31, g_32, alive_33) => n_0) := ⟨_, rfl⟩
  obtain ⟨J_0, hJ_0⟩ : ∃ J_ : ASt → Prop, J_ = (fun σ => ∃ u_31 : Int, ∃ g_32 : List GSeat, ∃ alive_33 : List Bool, (some (u_31, g_32, alive_33) = some q_0) ∧ σ.t 1 = .row false 1 inputs_a1.length (esInt inputs_a1) ∧ σ.t 2 = .ptr 2 [] 0 ∧ σ.t 4 = .ptr 4 [] 0 ∧ σ.t 5 = .sl 5 [] 0 alive_33.length ∧ σ.m 2 = some (.box true [I v1.Frame, I v1.Coin, .row true 3 g_32.length (esSeat g_32)]) ∧ σ.m 4 = some (.box true [I 0, I 0, .row true 3 0 []]) ∧ σ.m 5 = some (.row true 1 alive_33.length (esBool alive_33))) := ⟨_, rfl⟩
  refine aw_loopC (id := 0) I_0 M_0 J_0 (N, 0, v1.Seats, m2) ?_ ?_ ?_
  · rw [hI_0]
    refine ⟨eq_0, ?_⟩
    exact p_spec_l24Step_pv ff @f3c
  · try clear ff
    rintro ⟨n_0, u_31, g_32, alive_33⟩ σ hg_0
    rw [hI_0] at hg_0
    obtain ⟨h_0, g0_0, g1_0, g2_0, g3_0, g4_0, g5_0, g6_0, g7_0, g8_0⟩ := hg_0
    cases n_0 with
    | zero => rw [p_spec_l24Step_l0] at h_0; cases h_0
    | succ n_0 =>
      rw [p_spec_l24Step_l0] at h_0
      by_cases c61 : u_31 < (v1.Seats.length : Int)
      case neg =>
       rw [if_neg c61] at h_0
       have dc61 := decide_eq_false c61
       have ff := And.intro @f3a (And.intro @g0_0 (And.intro @g1_0 (And.intro @g2_0 (And.intro @g3_0 (And.intro @g4_0 (And.intro @g5_0 (And.intro @g6_0 (And.intro @g7_0 (And.intro @g8_0 (And.intro @dc61 p_spec_l24Step_tf.down))))))))))
       try refine st_by ff ?_
       repeat' (first | exact trivial | refine And.intro sd ?_)
       refine JW.intro ?_
       rw [hJ_0]
       refine ⟨u_31, g_32, alive_33, h_0, ?_⟩
       exact p_spec_l24Step_pv ff @f3c
      rw [if_pos c61] at h_0
      have dc61 := decide_eq_true c61
      obtain ⟨x62, ex62, h_0⟩ := Option.bind_eq_some_iff.1 h_0
      try dsimp only at h_0
      have f63a := idx_lo ex62
      have f63b := idx_hi ex62
      have f63c : (esSeat g_32).drop (u_31.toNat * 3) = eSeat x62 ++ esSeat (g_32.drop (u_31.toNat + 1)) := drop_enc (fun _ => rfl) (idx_get ex62)
      have f63g0 : (esSeat g_32).getD (u_31.toNat * 3) .junk = (eSeat x62).getD 0 .junk := getD_enc0 (enc := eSeat) (sz := 3) (fun _ => rfl) (idx_get ex62) (by decide)
      have f63g1 : (esSeat g_32).getD (u_31.toNat * 3 + 1) .junk = (eSeat x62).getD 1 .junk := getD_enc (enc := eSeat) (sz := 3) (fun _ => rfl) (idx_get ex62) (by decide)
      have f63g2 : (esSeat g_32).getD (u_31.toNat * 3 + 2) .junk = (eSeat x62).getD 2 .junk := getD_enc (enc := eSeat) (sz := 3) (fun _ => rfl) (idx_get ex62) (by decide)
      obtain ⟨x64, ex64, h_0⟩ := Option.bind_eq_some_iff.1 h_0
      try dsimp only at h_0
      have f65a := idx_lo ex64
      have f65b := idx_hi ex64
      have f65c : (esBool alive_33).drop (u_31.toNat * 1) = eBool x64 ++ esBool (alive_33.drop (u_31.toNat + 1)) := drop_enc (fun _ => rfl) (idx_get ex64)
      have f65d := f65c
      rw [Nat.mul_one] at f65d
      have f65g0 : (esBool alive_33).getD (u_31.toNat * 1) .junk = (eBool x64).getD 0 .junk := getD_enc0 (enc := eBool) (sz := 1) (fun _ => rfl) (idx_get ex64) (by decide)
      rw [Nat.mul_one] at f65g0
      have w66l : u_31.toNat < alive_33.length := (List.getElem?_eq_some_iff.1 (idx_get ex64)).1
      have w66a : (esBool alive_33).set (u_31.toNat * 1) (B (decide (x62.Hp > 0))) = esBool (alive_33.set u_31.toNat (decide (x62.Hp > 0))) := set_enc0 (enc := eBool) (sz := 1) (fun _ => rfl) (idx_get ex64) (by decide) rfl
      rw [Nat.mul_one] at w66a
      have w66b : (alive_33.set u_31.toNat (decide (x62.Hp > 0))).length = alive_33.length := List.length_set
      have f68c : (esBool (alive_33.set u_31.toNat (decide (x62.Hp > 0)))).drop (u_31.toNat * 1) = eBool (decide (x62.Hp > 0)) ++ esBool ((alive_33.set u_31.toNat (decide (x62.Hp > 0))).drop (u_31.toNat + 1)) := drop_enc (fun _ => rfl) (List.getElem?_set_self w66l)
      have f68d := f68c
      rw [Nat.mul_one] at f68d
      have f68g0 : (esBool (alive_33.set u_31.toNat (decide (x62.Hp > 0)))).getD (u_31.toNat * 1) .junk = (eBool (decide (x62.Hp > 0))).getD 0 .junk := getD_enc0 (enc := eBool) (sz := 1) (fun _ => rfl) (List.getElem?_set_self w66l) (by decide)
      rw [Nat.mul_one] at f68g0
      by_cases c69 : decide (x62.Hp > 0) = true
      case neg =>
       rw [if_neg c69] at h_0
       have dc69 := eq_false_of_ne_true c69; try simp only [dc69] at f63c f63g0 f63g1 f63g2 f65c f65d f65g0 w66a f68c f68d f68g0
       have ff := And.intro @f3a (And.intro @g0_0 (And.intro @g1_0 (And.intro @g2_0 (And.intro @g3_0 (And.intro @g4_0 (And.intro @g5_0 (And.intro @g6_0 (And.intro @g7_0 (And.intro @g8_0 (And.intro @dc61 (And.intro @f63c (And.intro @f63g0 (And.intro @f63g1 (And.intro @f63g2 (And.intro @f65c (And.intro @f65d (And.intro @f65g0 (And.intro @w66a (And.intro @f68c (And.intro @f68d (And.intro @f68g0 (And.intro @dc69 p_spec_l24Step_tf.down))))))))))))))))))))))
       try refine st_by ff ?_
       repeat' (first | exact trivial | refine And.intro sd ?_)
       refine Back.intro (n_0, (IntKind.i64.wrap (u_31 + 1)), g_32, (alive_33.set u_31.toNat (decide (x62.Hp > 0)))) ?_ ?_
       · rw [hM_0]; exact Nat.lt_succ_self _
       rw [hI_0]
       refine ⟨h_0, ?_⟩
       exact p_spec_l24Step_pv ff @f3c
      rw [if_pos c69] at h_0
      have dc69 := c69; try simp only [dc69] at f63c f63g0 f63g1 f63g2 f65c f65d f65g0 w66a f68c f68d f68g0
      obtain ⟨x70, ex70, h_0⟩ := Option.bind_eq_some_iff.1 h_0
      try dsimp only at h_0
      have f71a := idx_lo ex70
      have f71b := idx_hi ex70
      have f71c : (esInt inputs_a1).drop (u_31.toNat * 1) = eInt x70 ++ esInt (inputs_a1.drop (u_31.toNat + 1)) := drop_enc (fun _ => rfl) (idx_get ex70)
      have f71d := f71c
      rw [Nat.mul_one] at f71d
      by_cases c72 : x70 = 1
      · rw [if_pos c72] at h_0
        have dc72 := beq_yes c72
        obtain ⟨v73, ev73, h_0⟩ := Option.bind_eq_some_iff.1 h_0
        try dsimp only at h_0
        have ff := And.intro @f3a (And.intro @g0_0 (And.intro @g1_0 (And.intro @g2_0 (And.intro @g3_0 (And.intro @g4_0 (And.intro @g5_0 (And.intro @g6_0 (And.intro @g7_0 (And.intro @g8_0 (And.intro @dc61 (And.intro @f63c (And.intro @f63g0 (And.intro @f63g1 (And.intro @f63g2 (And.intro @f65c (And.intro @f65d (And.intro @f65g0 (And.intro @w66a (And.intro @f68c (And.intro @f68d (And.intro @f68g0 (And.intro @dc69 (And.intro @f71c (And.intro @f71d (And.intro @dc72 p_spec_l24Step_tf.down)))))))))))))))))))))))))
        try refine st_by ff ?_
        repeat' (first | exact trivial | refine And.intro sd ?_)
        first
        | (refine cq_call (p_spec_l24Edge_does (IntKind.i64.wrap (x62.X - 1)) v73 ev73) (hf_by ff) kr ⟨p_spec_l24Step_sa ff @f3c, ?_⟩; clear ff)
        | (refine cq_dcall (p_spec_l24Edge_does (IntKind.i64.wrap (x62.X - 1)) v73 ev73) (hf_by ff) kr ⟨p_spec_l24Step_sa ff @f3c, ?_⟩; clear ff)
        have w74l : u_31.toNat < g_32.length := (List.getElem?_eq_some_iff.1 (idx_get ex62)).1
        have w74a : (esSeat g_32).set (u_31.toNat * 3) (I v73) = esSeat (g_32.set u_31.toNat (⟨v73, x62.Y, x62.Hp⟩ : GSeat)) := set_enc0 (enc := eSeat) (sz := 3) (fun _ => rfl) (idx_get ex62) (by decide) rfl
        have w74b : (g_32.set u_31.toNat (⟨v73, x62.Y, x62.Hp⟩ : GSeat)).length = g_32.length := List.length_set
        have ff := And.intro @f3a (And.intro @g0_0 (And.intro @g1_0 (And.intro @g2_0 (And.intro @g3_0 (And.intro @g4_0 (And.intro @g5_0 (And.intro @g6_0 (And.intro @g7_0 (And.intro @g8_0 (And.intro @dc61 (And.intro @f63c (And.intro @f63g0 (And.intro @f63g1 (And.intro @f63g2 (And.intro @f65c (And.intro @f65d (And.intro @f65g0 (And.intro @w66a (And.intro @f68c (And.intro @f68d (And.intro @f68g0 (And.intro @dc69 (And.intro @f71c (And.intro @f71d (And.intro @dc72 (And.intro @w74a p_spec_l24Step_tf.down))))))))))))))))))))))))))
        try refine st_by ff ?_
        repeat' (first | exact trivial | refine And.intro sd ?_)
        refine Back.intro (n_0, (IntKind.i64.wrap (u_31 + 1)), (g_32.set u_31.toNat (⟨v73, x62.Y, x62.Hp⟩ : GSeat)), (alive_33.set u_31.toNat (decide (x62.Hp > 0)))) ?_ ?_
        · rw [hM_0]; exact Nat.lt_succ_self _
        rw [hI_0]
        refine ⟨h_0, ?_⟩
        exact p_spec_l24Step_pv ff @f3c
      rw [if_neg c72] at h_0
      have dc72 := beq_no c72
      by_cases c76 : x70 = 2
      · rw [if_pos c76] at h_0
        have dc76 := beq_yes c76
        obtain ⟨v77, ev77, h_0⟩ := Option.bind_eq_some_iff.1 h_0
        try dsimp only at h_0
        have ff := And.intro @f3a (And.intro @g0_0 (And.intro @g1_0 (And.intro @g2_0 (And.intro @g3_0 (And.intro @g4_0 (And.intro @g5_0 (And.intro @g6_0 (And.intro @g7_0 (And.intro @g8_0 (And.intro @dc61 (And.intro @f63c (And.intro @f63g0 (And.intro @f63g1 (And.intro @f63g2 (And.intro @f65c (And.intro @f65d (And.intro @f65g0 (And.intro @w66a (And.intro @f68c (And.intro @f68d (And.intro @f68g0 (And.intro @dc69 (And.intro @f71c (And.intro @f71d (And.intro @dc72 (And.intro @dc76 p_spec_l24Step_tf.down))))))))))))))))))))))))))
        try refine st_by ff ?_
        repeat' (first | exact trivial | refine And.intro sd ?_)
        first
        | (refine cq_call (p_spec_l24Edge_does (IntKind.i64.wrap (x62.X + 1)) v77 ev77) (hf_by ff) kr ⟨p_spec_l24Step_sa ff @f3c, ?_⟩; clear ff)
        | (refine cq_dcall (p_spec_l24Edge_does (IntKind.i64.wrap (x62.X + 1)) v77 ev77) (hf_by ff) kr ⟨p_spec_l24Step_sa ff @f3c, ?_⟩; clear ff)
        have w78l : u_31.toNat < g_32.length := (List.getElem?_eq_some_iff.1 (idx_get ex62)).1
        have w78a : (esSeat g_32).set (u_31.toNat * 3) (I v77) = esSeat (g_32.set u_31.toNat (⟨v77, x62.Y, x62.Hp⟩ : GSeat)) := set_enc0 (enc := eSeat) (sz := 3) (fun _ => rfl) (idx_get ex62) (by decide) rfl
        have w78b : (g_32.set u_31.toNat (⟨v77, x62.Y, x62.Hp⟩ : GSeat)).length = g_32.length := List.length_set
        have ff := And.intro @f3a (And.intro @g0_0 (And.intro @g1_0 (And.intro @g2_0 (And.intro @g3_0 (And.intro @g4_0 (And.intro @g5_0 (And.intro @g6_0 (And.intro @g7_0 (And.intro @g8_0 (And.intro @dc61 (And.intro @f63c (And.intro @f63g0 (And.intro @f63g1 (And.intro @f63g2 (And.intro @f65c (And.intro @f65d (And.intro @f65g0 (And.intro @w66a (And.intro @f68c (And.intro @f68d (And.intro @f68g0 (And.intro @dc69 (And.intro @f71c (And.intro @f71d (And.intro @dc72 (And.intro @dc76 (And.intro @w78a p_spec_l24Step_tf.down)))))))))))))))))))))))))))
        try refine st_by ff ?_
        repeat' (first | exact trivial | refine And.intro sd ?_)
        refine Back.intro (n_0, (IntKind.i64.wrap (u_31 + 1)), (g_32.set u_31.toNat (⟨v77, x62.Y, x62.Hp⟩ : GSeat)), (alive_33.set u_31.toNat (decide (x62.Hp > 0)))) ?_ ?_
        · rw [hM_0]; exact Nat.lt_succ_self _
        rw [hI_0]
        refine ⟨h_0, ?_⟩
        exact p_spec_l24Step_pv ff @f3c
      rw [if_neg c76] at h_0
      have dc76 := beq_no c76
      by_cases c80 : x70 = 3
      · rw [if_pos c80] at h_0
        have dc80 := beq_yes c80
        obtain ⟨v81, ev81, h_0⟩ := Option.bind_eq_some_iff.1 h_0
        try dsimp only at h_0
        have ff := And.intro @f3a (And.intro @g0_0 (And.intro @g1_0 (And.intro @g2_0 (And.intro @g3_0 (And.intro @g4_0 (And.intro @g5_0 (And.intro @g6_0 (And.intro @g7_0 (And.intro @g8_0 (And.intro @dc61 (And.intro @f63c (And.intro @f63g0 (And.intro @f63g1 (And.intro @f63g2 (And.intro @f65c (And.intro @f65d (And.intro @f65g0 (And.intro @w66a (And.intro @f68c (And.intro @f68d (And.intro @f68g0 (And.intro @dc69 (And.intro @f71c (And.intro @f71d (And.intro @dc72 (And.intro @dc76 (And.intro @dc80 p_spec_l24Step_tf.down)))))))))))))))))))))))))))
        try refine st_by ff ?_
        repeat' (first | exact trivial | refine And.intro sd ?_)
        first
        | (refine cq_call (p_spec_l24Edge_does (IntKind.i64.wrap (x62.Y - 1)) v81 ev81) (hf_by ff) kr ⟨p_spec_l24Step_sa ff @f3c, ?_⟩; clear ff)
        | (refine cq_dcall (p_spec_l24Edge_does (IntKind.i64.wrap (x62.Y - 1)) v81 ev81) (hf_by ff) kr ⟨p_spec_l24Step_sa ff @f3c, ?_⟩; clear ff)
        have w82l : u_31.toNat < g_32.length := (List.getElem?_eq_some_iff.1 (idx_get ex62)).1
        have w82a : (esSeat g_32).set (u_31.toNat * 3 + 1) (I v81) = esSeat (g_32.set u_31.toNat (⟨x62.X, v81, x62.Hp⟩ : GSeat)) := set_enc (enc := eSeat) (sz := 3) (fun _ => rfl) (idx_get ex62) (by decide) rfl
        have w82b : (g_32.set u_31.toNat (⟨x62.X, v81, x62.Hp⟩ : GSeat)).length = g_32.length := List.length_set
        have ff := And.intro @f3a (And.intro @g0_0 (And.intro @g1_0 (And.intro @g2_0 (And.intro @g3_0 (And.intro @g4_0 (And.intro @g5_0 (And.intro @g6_0 (And.intro @g7_0 (And.intro @g8_0 (And.intro @dc61 (And.intro @f63c (And.intro @f63g0 (And.intro @f63g1 (And.intro @f63g2 (And.intro @f65c (And.intro @f65d (And.intro @f65g0 (And.intro @w66a (And.intro @f68c (And.intro @f68d (And.intro @f68g0 (And.intro @dc69 (And.intro @f71c (And.intro @f71d (And.intro @dc72 (And.intro @dc76 (And.intro @dc80 (And.intro @w82a p_spec_l24Step_tf.down))))))))))))))))))))))))))))
        try refine st_by ff ?_
        repeat' (first | exact trivial | refine And.intro sd ?_)
        refine Back.intro (n_0, (IntKind.i64.wrap (u_31 + 1)), (g_32.set u_31.toNat (⟨x62.X, v81, x62.Hp⟩ : GSeat)), (alive_33.set u_31.toNat (decide (x62.Hp > 0)))) ?_ ?_
        · rw [hM_0]; exact Nat.lt_succ_self _
        rw [hI_0]
        refine ⟨h_0, ?_⟩
        exact p_spec_l24Step_pv ff @f3c
      rw [if_neg c80] at h_0
      have dc80 := beq_no c80
      by_cases c84 : x70 = 4
      case neg =>
       rw [if_neg c84] at h_0
       have dc84 := beq_no c84
       have ff := And.intro @f3a (And.intro @g0_0 (And.intro @g1_0 (And.intro @g2_0 (And.intro @g3_0 (And.intro @g4_0 (And.intro @g5_0 (And.intro @g6_0 (And.intro @g7_0 (And.intro @g8_0 (And.intro @dc61 (And.intro @f63c (And.intro @f63g0 (And.intro @f63g1 (And.intro @f63g2 (And.intro @f65c (And.intro @f65d (And.intro @f65g0 (And.intro @w66a (And.intro @f68c (And.intro @f68d (And.intro @f68g0 (And.intro @dc69 (And.intro @f71c (And.intro @f71d (And.intro @dc72 (And.intro @dc76 (And.intro @dc80 (And.intro @dc84 p_spec_l24Step_tf.down))))))))))))))))))))))))))))
       try refine st_by ff ?_
       repeat' (first | exact trivial | refine And.intro sd ?_)
       refine Back.intro (n_0, (IntKind.i64.wrap (u_31 + 1)), g_32, (alive_33.set u_31.toNat (decide (x62.Hp > 0)))) ?_ ?_
       · rw [hM_0]; exact Nat.lt_succ_self _
       rw [hI_0]
       refine ⟨h_0, ?_⟩
       exact p_spec_l24Step_pv ff @f3c
      rw [if_pos c84] at h_0
      have dc84 := beq_yes c84
      obtain ⟨v85, ev85, h_0⟩ := Option.bind_eq_some_iff.1 h_0
      try dsimp only at h_0
      have ff := And.intro @f3a (And.intro @g0_0 (And.intro @g1_0 (And.intro @g2_0 (And.intro @g3_0 (And.intro @g4_0 (And.intro @g5_0 (And.intro @g6_0 (And.intro @g7_0 (And.intro @g8_0 (And.intro @dc61 (And.intro @f63c (And.intro @f63g0 (And.intro @f63g1 (And.intro @f63g2 (And.intro @f65c (And.intro @f65d (And.intro @f65g0 (And.intro @w66a (And.intro @f68c (And.intro @f68d (And.intro @f68g0 (And.intro @dc69 (And.intro @f71c (And.intro @f71d (And.intro @dc72 (And.intro @dc76 (And.intro @dc80 (And.intro @dc84 p_spec_l24Step_tf.down))))))))))))))))))))))))))))
      try refine st_by ff ?_
      repeat' (first | exact trivial | refine And.intro sd ?_)
      first
      | (refine cq_call (p_spec_l24Edge_does (IntKind.i64.wrap (x62.Y + 1)) v85 ev85) (hf_by ff) kr ⟨p_spec_l24Step_sa ff @f3c, ?_⟩; clear ff)
      | (refine cq_dcall (p_spec_l24Edge_does (IntKind.i64.wrap (x62.Y + 1)) v85 ev85) (hf_by ff) kr ⟨p_spec_l24Step_sa ff @f3c, ?_⟩; clear ff)
      have w86l : u_31.toNat < g_32.length := (List.getElem?_eq_some_iff.1 (idx_get ex62)).1
      have w86a : (esSeat g_32).set (u_31.toNat * 3 + 1) (I v85) = esSeat (g_32.set u_31.toNat (⟨x62.X, v85, x62.Hp⟩ : GSeat)) := set_enc (enc := eSeat) (sz := 3) (fun _ => rfl) (idx_get ex62) (by decide) rfl
      have w86b : (g_32.set u_31.toNat (⟨x62.X, v85, x62.Hp⟩ : GSeat)).length = g_32.length := List.length_set
      have ff := And.intro @f3a (And.intro @g0_0 (And.intro @g1_0 (And.intro @g2_0 (And.intro @g3_0 (And.intro @g4_0 (And.intro @g5_0 (And.intro @g6_0 (And.intro @g7_0 (And.intro @g8_0 (And.intro @dc61 (And.intro @f63c (And.intro @f63g0 (And.intro @f63g1 (And.intro @f63g2 (And.intro @f65c (And.intro @f65d (And.intro @f65g0 (And.intro @w66a (And.intro @f68c (And.intro @f68d (And.intro @f68g0 (And.intro @dc69 (And.intro @f71c (And.intro @f71d (And.intro @dc72 (And.intro @dc76 (And.intro @dc80 (And.intro @dc84 (And.intro @w86a p_spec_l24Step_tf.down)))))))))))))))))))))))))))))
      try refine st_by ff ?_
      repeat' (first | exact trivial | refine And.intro sd ?_)
      refine Back.intro (n_0, (IntKind.i64.wrap (u_31 + 1)), (g_32.set u_31.toNat (⟨x62.X, v85, x62.Hp⟩ : GSeat)), (alive_33.set u_31.toNat (decide (x62.Hp > 0)))) ?_ ?_
      · rw [hM_0]; exact Nat.lt_succ_self _
      rw [hI_0]
      refine ⟨h_0, ?_⟩
      exact p_spec_l24Step_pv ff @f3c
  · try clear ff
    rintro σ hg_0
    rw [hJ_0] at hg_0
    obtain ⟨u_31, g_32, alive_33, hj_0, g0_0a, g1_0a, g2_0a, g3_0a, g4_0a, g5_0a, g6_0a⟩ := hg_0
    cases hj_0
    try dsimp only at h
    obtain ⟨q_1, eq_1, h⟩ := Option.bind_eq_some_iff.1 h
    have ff := And.intro @f3a (And.intro @g0_0a (And.intro @g1_0a (And.intro @g2_0a (And.intro @g3_0a (And.intro @g4_0a (And.intro @g5_0a (And.intro @g6_0a p_spec_l24Step_tf.down)))))))
    try refine st_by ff ?_
    repeat' (first | exact trivial | refine And.intro sd ?_)
    obtain ⟨I_1, hI_1⟩ : ∃ I_ : (Nat × Int × Int × (List GSeat)) → ASt → Prop, I_ = (fun (a : Nat × Int × Int × (List GSeat)) σ => match a with | (n_1, u_159, g_160, g_161) => (p_spec_l24Step_l1 N inputs_a1 g_32 alive_33 n_1 u_159 g_160 g_161 = some q_1) ∧ σ.t 1 = .row false 1 inputs_a1.length (esInt inputs_a1) ∧ σ.t 2 = .ptr 2 [] 0 ∧ σ.t 4 = .ptr 4 [] 0 ∧ σ.t 5 = .sl 5 [] 0 alive_33.length ∧ σ.t 92 = I (g_32.length : Int) ∧ σ.t 93 = I u_159 ∧ σ.m 2 = some (.box true [I v1.Frame, I g_160, .row true 3 g_161.length (esSeat g_161)]) ∧ σ.m 4 = some (.box true [I 0, I 0, .row true 3 0 []]) ∧ σ.m 5 = some (.row true 1 alive_33.length (esBool alive_33))) := ⟨_, rfl⟩
    obtain ⟨M_1, hM_1⟩ : ∃ M_ : (Nat × Int × Int × (List GSeat)) → Nat, M_ = (fun (a : Nat × Int × Int × (List GSeat)) => match a with | (n_1, u_159, g_160, g_161) => n_1) := ⟨_, rfl⟩
    obtain ⟨J_1, hJ_1⟩ : ∃ J_ : ASt → Prop, J_ = (fun σ => ∃ u_159 : Int, ∃ g_160 : Int, ∃ g_161 : List GSeat, (some (u_159, g_160, g_161) = some q_1) ∧ σ.t 2 = .ptr 2 [] 0 ∧ σ.t 4 = .ptr 4 [] 0 ∧ σ.m 2 = some (.box true [I v1.Frame, I g_160, .row true 3 g_161.length (esSeat g_161)]) ∧ σ.m 4 = some (.box true [I 0, I 0, .row true 3 0 []])) := ⟨_, rfl⟩
    refine aw_loopC (id := 3) I_1 M_1 J_1 (N, 0, v1.Coin, g_32) ?_ ?_ ?_
    · rw [hI_1]
      refine ⟨eq_1, ?_⟩
      exact p_spec_l24Step_pv ff @f3c
    · try clear ff
      rintro ⟨n_1, u_159, g_160, g_161⟩ σ hg_1
      rw [hI_1] at hg_1
      obtain ⟨h_1, g0_1, g1_1, g2_1, g3_1, g4_1, g5_1, g6_1, g7_1, g8_1⟩ := hg_1
      cases n_1 with
      | zero => rw [p_spec_l24Step_l1] at h_1; cases h_1
      | succ n_1 =>
        rw [p_spec_l24Step_l1] at h_1
        by_cases c236 : u_159 < (g_32.length : Int)
        case neg =>
         rw [if_neg c236] at h_1
         have dc236 := decide_eq_false c236
         have ff := And.intro @f3a (And.intro @g0_1 (And.intro @g1_1 (And.intro @g2_1 (And.intro @g3_1 (And.intro @g4_1 (And.intro @g5_1 (And.intro @g6_1 (And.intro @g7_1 (And.intro @g8_1 (And.intro @dc236 p_spec_l24Step_tf.down))))))))))
         try refine st_by ff ?_
         repeat' (first | exact trivial | refine And.intro sd ?_)
         refine JW.intro ?_
         rw [hJ_1]
         refine ⟨u_159, g_160, g_161, h_1, ?_⟩
         exact p_spec_l24Step_pv ff @f3c
        rw [if_pos c236] at h_1
        have dc236 := decide_eq_true c236
        obtain ⟨x237, ex237, h_1⟩ := Option.bind_eq_some_iff.1 h_1
        try dsimp only at h_1
        have f238a := idx_lo ex237
        have f238b := idx_hi ex237
        have f238c : (esBool alive_33).drop (u_159.toNat * 1) = eBool x237 ++ esBool (alive_33.drop (u_159.toNat + 1)) := drop_enc (fun _ => rfl) (idx_get ex237)
        have f238d := f238c
        rw [Nat.mul_one] at f238d
        have f238g0 : (esBool alive_33).getD (u_159.toNat * 1) .junk = (eBool x237).getD 0 .junk := getD_enc0 (enc := eBool) (sz := 1) (fun _ => rfl) (idx_get ex237) (by decide)
        rw [Nat.mul_one] at f238g0
        have ff := And.intro @f3a (And.intro @g0_1 (And.intro @g1_1 (And.intro @g2_1 (And.intro @g3_1 (And.intro @g4_1 (And.intro @g5_1 (And.intro @g6_1 (And.intro @g7_1 (And.intro @g8_1 (And.intro @dc236 (And.intro @f238c (And.intro @f238d (And.intro @f238g0 p_spec_l24Step_tf.down)))))))))))))
        try refine st_by ff ?_
        repeat' (first | exact trivial | refine And.intro sd ?_)
        try clear ff
        generalize hk_0 : thenK _ _ = kk_0
        have key_0 : ∀ σ, (∃ b_239 : Bool, (p_spec_l24Step_j0 N u_159 g_160 g_161 (p_spec_l24Step_l1 N inputs_a1 g_32 alive_33 n_1) b_239 = some q_1) ∧ σ.t 1 = .row false 1 inputs_a1.length (esInt inputs_a1) ∧ σ.t 2 = .ptr 2 [] 0 ∧ σ.t 4 = .ptr 4 [] 0 ∧ σ.t 5 = .sl 5 [] 0 alive_33.length ∧ σ.t 8 = I u_159 ∧ σ.t 92 = I (g_32.length : Int) ∧ σ.t 93 = I u_159 ∧ σ.t 107 = B b_239 ∧ σ.m 2 = some (.box true [I v1.Frame, I g_160, .row true 3 g_161.length (esSeat g_161)]) ∧ σ.m 4 = some (.box true [I 0, I 0, .row true 3 0 []]) ∧ σ.m 5 = some (.row true 1 alive_33.length (esBool alive_33))) → kk_0 .nm σ := by
          rintro σ ⟨b_239, h_1, g0_j0, g1_j0, g2_j0, g3_j0, g4_j0, g5_j0, g6_j0, g7_j0, g8_j0, g9_j0, g10_j0⟩
          rw [← hk_0]
          rw [p_spec_l24Step_j0] at h_1
          by_cases c240 : b_239 = true
          · rw [if_pos c240] at h_1
            have dc240 := c240
            have ff := And.intro @f3a (And.intro @dc236 (And.intro @f238c (And.intro @f238d (And.intro @f238g0 (And.intro @g0_j0 (And.intro @g1_j0 (And.intro @g2_j0 (And.intro @g3_j0 (And.intro @g4_j0 (And.intro @g5_j0 (And.intro @g6_j0 (And.intro @g7_j0 (And.intro @g8_j0 (And.intro @g9_j0 (And.intro @g10_j0 (And.intro @dc240 p_spec_l24Step_tf.down))))))))))))))))
            try refine st_by ff ?_
            repeat' (first | exact trivial | refine And.intro sd ?_)
            refine Back.intro (n_1, (IntKind.i64.wrap (u_159 + 1)), g_160, g_161) ?_ ?_
            · rw [hM_1]; exact Nat.lt_succ_self _
            rw [hI_1]
            refine ⟨h_1, ?_⟩
            exact p_spec_l24Step_pv ff @f3c
          rw [if_neg c240] at h_1
          have dc240 := eq_false_of_ne_true c240
          obtain ⟨q_2, eq_2, h_1⟩ := Option.bind_eq_some_iff.1 h_1
          have ff := And.intro @f3a (And.intro @dc236 (And.intro @f238c (And.intro @f238d (And.intro @f238g0 (And.intro @g0_j0 (And.intro @g1_j0 (And.intro @g2_j0 (And.intro @g3_j0 (And.intro @g4_j0 (And.intro @g5_j0 (And.intro @g6_j0 (And.intro @g7_j0 (And.intro @g8_j0 (And.intro @g9_j0 (And.intro @g10_j0 (And.intro @dc240 p_spec_l24Step_tf.down))))))))))))))))
          try refine st_by ff ?_
          repeat' (first | exact trivial | refine And.intro sd ?_)
          obtain ⟨I_2, hI_2⟩ : ∃ I_ : (Nat × Int × Int × (List GSeat)) → ASt → Prop, I_ = (fun (a : Nat × Int × Int × (List GSeat)) σ => match a with | (n_2, u_262, g_263, g_264) => (p_spec_l24Step_l2 u_159 g_161 n_2 u_262 g_263 g_264 = some q_2) ∧ σ.t 1 = .row false 1 inputs_a1.length (esInt inputs_a1) ∧ σ.t 2 = .ptr 2 [] 0 ∧ σ.t 4 = .ptr 4 [] 0 ∧ σ.t 5 = .sl 5 [] 0 alive_33.length ∧ σ.t 8 = I u_159 ∧ σ.t 92 = I (g_32.length : Int) ∧ σ.t 93 = I u_159 ∧ σ.t 110 = I (g_161.length : Int) ∧ σ.t 111 = I u_262 ∧ σ.m 2 = some (.box true [I v1.Frame, I g_263, .row true 3 g_264.length (esSeat g_264)]) ∧ σ.m 4 = some (.box true [I 0, I 0, .row true 3 0 []]) ∧ σ.m 5 = some (.row true 1 alive_33.length (esBool alive_33))) := ⟨_, rfl⟩
          obtain ⟨M_2, hM_2⟩ : ∃ M_ : (Nat × Int × Int × (List GSeat)) → Nat, M_ = (fun (a : Nat × Int × Int × (List GSeat)) => match a with | (n_2, u_262, g_263, g_264) => n_2) := ⟨_, rfl⟩
          obtain ⟨J_2, hJ_2⟩ : ∃ J_ : ASt → Prop, J_ = (fun σ => ∃ u_262 : Int, ∃ g_263 : Int, ∃ g_264 : List GSeat, (some (u_262, g_263, g_264) = some q_2) ∧ σ.t 1 = .row false 1 inputs_a1.length (esInt inputs_a1) ∧ σ.t 2 = .ptr 2 [] 0 ∧ σ.t 4 = .ptr 4 [] 0 ∧ σ.t 5 = .sl 5 [] 0 alive_33.length ∧ σ.t 92 = I (g_32.length : Int) ∧ σ.t 93 = I u_159 ∧ σ.m 2 = some (.box true [I v1.Frame, I g_263, .row true 3 g_264.length (esSeat g_264)]) ∧ σ.m 4 = some (.box true [I 0, I 0, .row true 3 0 []]) ∧ σ.m 5 = some (.row true 1 alive_33.length (esBool alive_33))) := ⟨_, rfl⟩
          refine aw_loopC (id := 5) I_2 M_2 J_2 (N, 0, g_160, g_161) ?_ ?_ ?_
          · rw [hI_2]
            refine ⟨eq_2, ?_⟩
            exact p_spec_l24Step_pv ff @f3c
          · try clear ff
            rintro ⟨n_2, u_262, g_263, g_264⟩ σ hg_2
            rw [hI_2] at hg_2
            obtain ⟨h_2, g0_2, g1_2, g2_2, g3_2, g4_2, g5_2, g6_2, g7_2, g8_2, g9_2, g10_2, g11_2⟩ := hg_2
            cases n_2 with
            | zero => rw [p_spec_l24Step_l2] at h_2; cases h_2
            | succ n_2 =>
              rw [p_spec_l24Step_l2] at h_2
              by_cases c286 : u_262 < (g_161.length : Int)
              case neg =>
               rw [if_neg c286] at h_2
               have dc286 := decide_eq_false c286
               have ff := And.intro @f3a (And.intro @dc236 (And.intro @f238c (And.intro @f238d (And.intro @f238g0 (And.intro @dc240 (And.intro @g0_2 (And.intro @g1_2 (And.intro @g2_2 (And.intro @g3_2 (And.intro @g4_2 (And.intro @g5_2 (And.intro @g6_2 (And.intro @g7_2 (And.intro @g8_2 (And.intro @g9_2 (And.intro @g10_2 (And.intro @g11_2 (And.intro @dc286 p_spec_l24Step_tf.down))))))))))))))))))
               try refine st_by ff ?_
               repeat' (first | exact trivial | refine And.intro sd ?_)
               refine JW.intro ?_
               rw [hJ_2]
               refine ⟨u_262, g_263, g_264, h_2, ?_⟩
               exact p_spec_l24Step_pv ff @f3c
              rw [if_pos c286] at h_2
              have dc286 := decide_eq_true c286
              have ff := And.intro @f3a (And.intro @dc236 (And.intro @f238c (And.intro @f238d (And.intro @f238g0 (And.intro @dc240 (And.intro @g0_2 (And.intro @g1_2 (And.intro @g2_2 (And.intro @g3_2 (And.intro @g4_2 (And.intro @g5_2 (And.intro @g6_2 (And.intro @g7_2 (And.intro @g8_2 (And.intro @g9_2 (And.intro @g10_2 (And.intro @g11_2 (And.intro @dc286 p_spec_l24Step_tf.down))))))))))))))))))
              try refine st_by ff ?_
              repeat' (first | exact trivial | refine And.intro sd ?_ | (refine aw_drawn (id := 26) ?_ [[], [], [0, 1], [0, 1, 2], [0, 1, 2, 3], [0, 1, 2, 3, 4], [0, 1, 2, 3], [0, 1, 2, 3, 4, 5, 6], [0, 1, 2, 3, 4, 5, 6, 7], [0, 1, 2, 3, 4, 5, 6, 7, 8], [0, 1, 2, 3], [0, 1, 2, 3, 10], [0, 1, 2, 3], [0, 1, 2, 3, 10, 11, 12], [0, 1, 2, 3, 10, 11, 12, 13], [0, 1, 2, 3, 10, 11, 12, 13, 14], [0, 1, 2, 3, 4, 5, 6, 7, 8, 9, 10, 11, 12, 13, 14, 15], [0, 1, 2, 3, 4, 5, 6, 7, 8, 9, 10, 11, 12, 13, 14, 15, 16], [0, 1, 2, 3, 4, 5, 6, 7, 8, 9, 10, 11, 12, 13, 14, 15, 16, 17], [0, 1, 2, 3, 4, 5, 6, 7, 8, 9, 10, 11, 12, 13, 14, 15, 16, 17, 18], [0, 1, 2, 3, 4, 5, 6, 7, 8, 9, 10, 11, 12, 13, 14, 15, 16, 17, 18, 19], [0, 1, 2, 3, 4, 5, 6, 7, 8, 9, 10, 11, 12, 13, 14, 15, 16, 17, 18, 19, 20], [0, 1, 2, 3, 4, 5, 6, 7, 8, 9, 10, 11, 12, 13, 14, 15, 16, 17, 18, 19, 20, 21], [0, 1, 2, 3, 4, 5, 6, 7, 8, 9, 10, 11, 12, 13, 14, 15, 16, 17, 18, 19, 20], [0, 1, 2, 3, 4, 5, 6, 7, 8, 9, 10, 11, 12, 13, 14, 15, 16, 17, 18, 19, 20, 21, 22, 23], [0, 1, 2, 3, 4, 5, 6, 7, 8, 9, 10, 11, 12, 13, 14, 15, 16, 17, 18, 19, 20, 21, 22, 23, 24], [0, 1, 2, 3, 4, 5, 6, 7, 8, 9, 10, 11, 12, 13, 14, 15, 16, 17, 18, 19, 20, 21, 22, 23, 24, 25], [0, 1, 2, 3, 4, 5, 6, 7, 8, 9, 10, 11, 12, 13, 14, 15, 16, 17, 18, 19, 20], [0, 1, 2, 3, 4, 5, 6, 7, 8, 9, 10, 11, 12, 13, 14, 15, 16, 17, 18, 19, 20, 27], [0, 1, 2, 3, 4, 5, 6, 7, 8, 9, 10, 11, 12, 13, 14, 15, 16, 17, 18, 19, 20], [0, 1, 2, 3, 4, 5, 6, 7, 8, 9, 10, 11, 12, 13, 14, 15, 16, 17, 18, 19, 20, 27, 28, 29], [0, 1, 2, 3, 4, 5, 6, 7, 8, 9, 10, 11, 12, 13, 14, 15, 16, 17, 18, 19, 20, 27, 28, 29, 30], [0, 1, 2, 3, 4, 5, 6, 7, 8, 9, 10, 11, 12, 13, 14, 15, 16, 17, 18, 19, 20, 27, 28, 29, 30, 31], [0, 1, 2, 3, 4, 5, 6, 7, 8, 9, 10, 11, 12, 13, 14, 15, 16, 17, 18, 19, 20, 21, 22, 23, 24, 25, 26, 27, 28, 29, 30, 31, 32], [0, 1, 2, 3, 4, 5, 6, 7, 8, 9, 10, 11, 12, 13, 14, 15, 16, 17, 18, 19, 20, 21, 22, 23, 24, 25, 26, 27, 28, 29, 30, 31, 32, 33], [0, 1, 2, 3, 4, 5, 6, 7, 8, 9, 10, 11, 12, 13, 14, 15, 16, 17, 18, 19, 20, 21, 22, 23, 24, 25, 26, 27, 28, 29, 30, 31, 32, 33, 34], [0, 1, 2, 3, 4, 5, 6, 7, 8, 9, 10, 11, 12, 13, 14, 15, 16, 17, 18, 19, 20, 21, 22, 23, 24, 25, 26, 27, 28, 29, 30, 31, 32, 33, 34, 35]] 33 ?_ ?_; (· kernel_rfl); (· kernel_rfl); refine st_by ff ?_))
              try clear ff
              generalize hk_1 : thenK _ _ = kk_1
              have key_1 : ∀ σ, (∃ b_287 : Bool, (p_spec_l24Step_j1 u_262 g_263 g_264 (p_spec_l24Step_l2 u_159 g_161 n_2) b_287 = some q_2) ∧ σ.t 1 = .row false 1 inputs_a1.length (esInt inputs_a1) ∧ σ.t 2 = .ptr 2 [] 0 ∧ σ.t 4 = .ptr 4 [] 0 ∧ σ.t 5 = .sl 5 [] 0 alive_33.length ∧ σ.t 8 = I u_159 ∧ σ.t 9 = I u_262 ∧ σ.t 92 = I (g_32.length : Int) ∧ σ.t 93 = I u_159 ∧ σ.t 110 = I (g_161.length : Int) ∧ σ.t 111 = I u_262 ∧ σ.t 150 = B b_287 ∧ σ.m 2 = some (.box true [I v1.Frame, I g_263, .row true 3 g_264.length (esSeat g_264)]) ∧ σ.m 4 = some (.box true [I 0, I 0, .row true 3 0 []]) ∧ σ.m 5 = some (.row true 1 alive_33.length (esBool alive_33))) → kk_1 .nm σ := by
                rintro σ ⟨b_287, h_2, g0_j1, g1_j1, g2_j1, g3_j1, g4_j1, g5_j1, g6_j1, g7_j1, g8_j1, g9_j1, g10_j1, g11_j1, g12_j1, g13_j1⟩
                rw [← hk_1]
                rw [p_spec_l24Step_j1] at h_2
                by_cases c288 : b_287 = true
                · rw [if_pos c288] at h_2
                  have dc288 := c288
                  have ff := And.intro @f3a (And.intro @dc236 (And.intro @f238c (And.intro @f238d (And.intro @f238g0 (And.intro @dc240 (And.intro @dc286 (And.intro @g0_j1 (And.intro @g1_j1 (And.intro @g2_j1 (And.intro @g3_j1 (And.intro @g4_j1 (And.intro @g5_j1 (And.intro @g6_j1 (And.intro @g7_j1 (And.intro @g8_j1 (And.intro @g9_j1 (And.intro @g10_j1 (And.intro @g11_j1 (And.intro @g12_j1 (And.intro @g13_j1 (And.intro @dc288 p_spec_l24Step_tf.down)))))))))))))))))))))
                  try refine st_by ff ?_
                  repeat' (first | exact trivial | refine And.intro sd ?_ | (refine aw_drawn (id := 26) ?_ [[], [], [0, 1], [0, 1, 2], [0, 1, 2, 3], [0, 1, 2, 3, 4], [0, 1, 2, 3], [0, 1, 2, 3, 4, 5, 6], [0, 1, 2, 3, 4, 5, 6, 7], [0, 1, 2, 3, 4, 5, 6, 7, 8], [0, 1, 2, 3], [0, 1, 2, 3, 10], [0, 1, 2, 3], [0, 1, 2, 3, 10, 11, 12], [0, 1, 2, 3, 10, 11, 12, 13], [0, 1, 2, 3, 10, 11, 12, 13, 14], [0, 1, 2, 3, 4, 5, 6, 7, 8, 9, 10, 11, 12, 13, 14, 15], [0, 1, 2, 3, 4, 5, 6, 7, 8, 9, 10, 11, 12, 13, 14, 15, 16], [0, 1, 2, 3, 4, 5, 6, 7, 8, 9, 10, 11, 12, 13, 14, 15, 16, 17], [0, 1, 2, 3, 4, 5, 6, 7, 8, 9, 10, 11, 12, 13, 14, 15, 16, 17, 18], [0, 1, 2, 3, 4, 5, 6, 7, 8, 9, 10, 11, 12, 13, 14, 15, 16, 17, 18, 19], [0, 1, 2, 3, 4, 5, 6, 7, 8, 9, 10, 11, 12, 13, 14, 15, 16, 17, 18, 19, 20], [0, 1, 2, 3, 4, 5, 6, 7, 8, 9, 10, 11, 12, 13, 14, 15, 16, 17, 18, 19, 20, 21], [0, 1, 2, 3, 4, 5, 6, 7, 8, 9, 10, 11, 12, 13, 14, 15, 16, 17, 18, 19, 20], [0, 1, 2, 3, 4, 5, 6, 7, 8, 9, 10, 11, 12, 13, 14, 15, 16, 17, 18, 19, 20, 21, 22, 23], [0, 1, 2, 3, 4, 5, 6, 7, 8, 9, 10, 11, 12, 13, 14, 15, 16, 17, 18, 19, 20, 21, 22, 23, 24], [0, 1, 2, 3, 4, 5, 6, 7, 8, 9, 10, 11, 12, 13, 14, 15, 16, 17, 18, 19, 20, 21, 22, 23, 24, 25], [0, 1, 2, 3, 4, 5, 6, 7, 8, 9, 10, 11, 12, 13, 14, 15, 16, 17, 18, 19, 20], [0, 1, 2, 3, 4, 5, 6, 7, 8, 9, 10, 11, 12, 13, 14, 15, 16, 17, 18, 19, 20, 27], [0, 1, 2, 3, 4, 5, 6, 7, 8, 9, 10, 11, 12, 13, 14, 15, 16, 17, 18, 19, 20], [0, 1, 2, 3, 4, 5, 6, 7, 8, 9, 10, 11, 12, 13, 14, 15, 16, 17, 18, 19, 20, 27, 28, 29], [0, 1, 2, 3, 4, 5, 6, 7, 8, 9, 10, 11, 12, 13, 14, 15, 16, 17, 18, 19, 20, 27, 28, 29, 30], [0, 1, 2, 3, 4, 5, 6, 7, 8, 9, 10, 11, 12, 13, 14, 15, 16, 17, 18, 19, 20, 27, 28, 29, 30, 31], [0, 1, 2, 3, 4, 5, 6, 7, 8, 9, 10, 11, 12, 13, 14, 15, 16, 17, 18, 19, 20, 21, 22, 23, 24, 25, 26, 27, 28, 29, 30, 31, 32], [0, 1, 2, 3, 4, 5, 6, 7, 8, 9, 10, 11, 12, 13, 14, 15, 16, 17, 18, 19, 20, 21, 22, 23, 24, 25, 26, 27, 28, 29, 30, 31, 32, 33], [0, 1, 2, 3, 4, 5, 6, 7, 8, 9, 10, 11, 12, 13, 14, 15, 16, 17, 18, 19, 20, 21, 22, 23, 24, 25, 26, 27, 28, 29, 30, 31, 32, 33, 34], [0, 1, 2, 3, 4, 5, 6, 7, 8, 9, 10, 11, 12, 13, 14, 15, 16, 17, 18, 19, 20, 21, 22, 23, 24, 25, 26, 27, 28, 29, 30, 31, 32, 33, 34, 35]] 33 ?_ ?_; (· kernel_rfl); (· kernel_rfl); refine st_by ff ?_))
                  refine Back.intro (n_2, (IntKind.i64.wrap (u_262 + 1)), g_263, g_264) ?_ ?_
                  · rw [hM_2]; exact Nat.lt_succ_self _
                  rw [hI_2]
                  refine ⟨h_2, ?_⟩
                  exact p_spec_l24Step_pv ff @f3c
                rw [if_neg c288] at h_2
                have dc288 := eq_false_of_ne_true c288
                obtain ⟨v289, ev289, h_2⟩ := Option.bind_eq_some_iff.1 h_2
                try dsimp only at h_2
                have ff := And.intro @f3a (And.intro @dc236 (And.intro @f238c (And.intro @f238d (And.intro @f238g0 (And.intro @dc240 (And.intro @dc286 (And.intro @g0_j1 (And.intro @g1_j1 (And.intro @g2_j1 (And.intro @g3_j1 (And.intro @g4_j1 (And.intro @g5_j1 (And.intro @g6_j1 (And.intro @g7_j1 (And.intro @g8_j1 (And.intro @g9_j1 (And.intro @g10_j1 (And.intro @g11_j1 (And.intro @g12_j1 (And.intro @g13_j1 (And.intro @dc288 p_spec_l24Step_tf.down)))))))))))))))))))))
                try refine st_by ff ?_
                repeat' (first | exact trivial | refine And.intro sd ?_ | (refine aw_drawn (id := 26) ?_ [[], [], [0, 1], [0, 1, 2], [0, 1, 2, 3], [0, 1, 2, 3, 4], [0, 1, 2, 3], [0, 1, 2, 3, 4, 5, 6], [0, 1, 2, 3, 4, 5, 6, 7], [0, 1, 2, 3, 4, 5, 6, 7, 8], [0, 1, 2, 3], [0, 1, 2, 3, 10], [0, 1, 2, 3], [0, 1, 2, 3, 10, 11, 12], [0, 1, 2, 3, 10, 11, 12, 13], [0, 1, 2, 3, 10, 11, 12, 13, 14], [0, 1, 2, 3, 4, 5, 6, 7, 8, 9, 10, 11, 12, 13, 14, 15], [0, 1, 2, 3, 4, 5, 6, 7, 8, 9, 10, 11, 12, 13, 14, 15, 16], [0, 1, 2, 3, 4, 5, 6, 7, 8, 9, 10, 11, 12, 13, 14, 15, 16, 17], [0, 1, 2, 3, 4, 5, 6, 7, 8, 9, 10, 11, 12, 13, 14, 15, 16, 17, 18], [0, 1, 2, 3, 4, 5, 6, 7, 8, 9, 10, 11, 12, 13, 14, 15, 16, 17, 18, 19], [0, 1, 2, 3, 4, 5, 6, 7, 8, 9, 10, 11, 12, 13, 14, 15, 16, 17, 18, 19, 20], [0, 1, 2, 3, 4, 5, 6, 7, 8, 9, 10, 11, 12, 13, 14, 15, 16, 17, 18, 19, 20, 21], [0, 1, 2, 3, 4, 5, 6, 7, 8, 9, 10, 11, 12, 13, 14, 15, 16, 17, 18, 19, 20], [0, 1, 2, 3, 4, 5, 6, 7, 8, 9, 10, 11, 12, 13, 14, 15, 16, 17, 18, 19, 20, 21, 22, 23], [0, 1, 2, 3, 4, 5, 6, 7, 8, 9, 10, 11, 12, 13, 14, 15, 16, 17, 18, 19, 20, 21, 22, 23, 24], [0, 1, 2, 3, 4, 5, 6, 7, 8, 9, 10, 11, 12, 13, 14, 15, 16, 17, 18, 19, 20, 21, 22, 23, 24, 25], [0, 1, 2, 3, 4, 5, 6, 7, 8, 9, 10, 11, 12, 13, 14, 15, 16, 17, 18, 19, 20], [0, 1, 2, 3, 4, 5, 6, 7, 8, 9, 10, 11, 12, 13, 14, 15, 16, 17, 18, 19, 20, 27], [0, 1, 2, 3, 4, 5, 6, 7, 8, 9, 10, 11, 12, 13, 14, 15, 16, 17, 18, 19, 20], [0, 1, 2, 3, 4, 5, 6, 7, 8, 9, 10, 11, 12, 13, 14, 15, 16, 17, 18, 19, 20, 27, 28, 29], [0, 1, 2, 3, 4, 5, 6, 7, 8, 9, 10, 11, 12, 13, 14, 15, 16, 17, 18, 19, 20, 27, 28, 29, 30], [0, 1, 2, 3, 4, 5, 6, 7, 8, 9, 10, 11, 12, 13, 14, 15, 16, 17, 18, 19, 20, 27, 28, 29, 30, 31], [0, 1, 2, 3, 4, 5, 6, 7, 8, 9, 10, 11, 12, 13, 14, 15, 16, 17, 18, 19, 20, 21, 22, 23, 24, 25, 26, 27, 28, 29, 30, 31, 32], [0, 1, 2, 3, 4, 5, 6, 7, 8, 9, 10, 11, 12, 13, 14, 15, 16, 17, 18, 19, 20, 21, 22, 23, 24, 25, 26, 27, 28, 29, 30, 31, 32, 33], [0, 1, 2, 3, 4, 5, 6, 7, 8, 9, 10, 11, 12, 13, 14, 15, 16, 17, 18, 19, 20, 21, 22, 23, 24, 25, 26, 27, 28, 29, 30, 31, 32, 33, 34], [0, 1, 2, 3, 4, 5, 6, 7, 8, 9, 10, 11, 12, 13, 14, 15, 16, 17, 18, 19, 20, 21, 22, 23, 24, 25, 26, 27, 28, 29, 30, 31, 32, 33, 34, 35]] 33 ?_ ?_; (· kernel_rfl); (· kernel_rfl); refine st_by ff ?_))
                first
                | (refine cq_call (p_spec_l1Coin_does g_263 v289 ev289) (hf_by ff) kr ⟨p_spec_l24Step_sa ff @f3c, ?_⟩; clear ff)
                | (refine cq_dcall (p_spec_l1Coin_does g_263 v289 ev289) (hf_by ff) kr ⟨p_spec_l24Step_sa ff @f3c, ?_⟩; clear ff)
                have ff := And.intro @f3a (And.intro @dc236 (And.intro @f238c (And.intro @f238d (And.intro @f238g0 (And.intro @dc240 (And.intro @dc286 (And.intro @g0_j1 (And.intro @g1_j1 (And.intro @g2_j1 (And.intro @g3_j1 (And.intro @g4_j1 (And.intro @g5_j1 (And.intro @g6_j1 (And.intro @g7_j1 (And.intro @g8_j1 (And.intro @g9_j1 (And.intro @g10_j1 (And.intro @g11_j1 (And.intro @g12_j1 (And.intro @g13_j1 (And.intro @dc288 p_spec_l24Step_tf.down)))))))))))))))))))))
                try refine st_by ff ?_
                repeat' (first | exact trivial | refine And.intro sd ?_)
                try clear ff
                generalize hk_2 : thenK _ _ = kk_2
                have key_2 : ∀ σ, (∃ b_290 : Bool, (p_spec_l24Step_j2 u_262 g_264 v289 (p_spec_l24Step_l2 u_159 g_161 n_2) b_290 = some q_2) ∧ σ.t 1 = .row false 1 inputs_a1.length (esInt inputs_a1) ∧ σ.t 2 = .ptr 2 [] 0 ∧ σ.t 4 = .ptr 4 [] 0 ∧ σ.t 5 = .sl 5 [] 0 alive_33.length ∧ σ.t 8 = I u_159 ∧ σ.t 9 = I u_262 ∧ σ.t 92 = I (g_32.length : Int) ∧ σ.t 93 = I u_159 ∧ σ.t 110 = I (g_161.length : Int) ∧ σ.t 111 = I u_262 ∧ σ.t 170 = B b_290 ∧ σ.m 2 = some (.box true [I v1.Frame, I v289.1, .row true 3 g_264.length (esSeat g_264)]) ∧ σ.m 4 = some (.box true [I 0, I 0, .row true 3 0 []]) ∧ σ.m 5 = some (.row true 1 alive_33.length (esBool alive_33))) → kk_2 .nm σ := by
                  rintro σ ⟨b_290, h_2, g0_j2, g1_j2, g2_j2, g3_j2, g4_j2, g5_j2, g6_j2, g7_j2, g8_j2, g9_j2, g10_j2, g11_j2, g12_j2, g13_j2⟩
                  rw [← hk_2]
                  rw [p_spec_l24Step_j2] at h_2
                  by_cases c291 : b_290 = true
                  case neg =>
                   rw [if_neg c291] at h_2
                   have dc291 := eq_false_of_ne_true c291
                   have ff := And.intro @f3a (And.intro @dc236 (And.intro @f238c (And.intro @f238d (And.intro @f238g0 (And.intro @dc240 (And.intro @dc286 (And.intro @dc288 (And.intro @g0_j2 (And.intro @g1_j2 (And.intro @g2_j2 (And.intro @g3_j2 (And.intro @g4_j2 (And.intro @g5_j2 (And.intro @g6_j2 (And.intro @g7_j2 (And.intro @g8_j2 (And.intro @g9_j2 (And.intro @g10_j2 (And.intro @g11_j2 (And.intro @g12_j2 (And.intro @g13_j2 (And.intro @dc291 p_spec_l24Step_tf.down))))))))))))))))))))))
                   try refine st_by ff ?_
                   repeat' (first | exact trivial | refine And.intro sd ?_)
                   refine Back.intro (n_2, (IntKind.i64.wrap (u_262 + 1)), v289.1, g_264) ?_ ?_
                   · rw [hM_2]; exact Nat.lt_succ_self _
                   rw [hI_2]
                   refine ⟨h_2, ?_⟩
                   exact p_spec_l24Step_pv ff @f3c
                  rw [if_pos c291] at h_2
                  have dc291 := c291
                  obtain ⟨x292, ex292, h_2⟩ := Option.bind_eq_some_iff.1 h_2
                  try dsimp only at h_2
                  have f293a := idx_lo ex292
                  have f293b := idx_hi ex292
                  have f293c : (esSeat g_264).drop (u_262.toNat * 3) = eSeat x292 ++ esSeat (g_264.drop (u_262.toNat + 1)) := drop_enc (fun _ => rfl) (idx_get ex292)
                  have f293g0 : (esSeat g_264).getD (u_262.toNat * 3) .junk = (eSeat x292).getD 0 .junk := getD_enc0 (enc := eSeat) (sz := 3) (fun _ => rfl) (idx_get ex292) (by decide)
                  have f293g1 : (esSeat g_264).getD (u_262.toNat * 3 + 1) .junk = (eSeat x292).getD 1 .junk := getD_enc (enc := eSeat) (sz := 3) (fun _ => rfl) (idx_get ex292) (by decide)
                  have f293g2 : (esSeat g_264).getD (u_262.toNat * 3 + 2) .junk = (eSeat x292).getD 2 .junk := getD_enc (enc := eSeat) (sz := 3) (fun _ => rfl) (idx_get ex292) (by decide)
                  have w294l : u_262.toNat < g_264.length := (List.getElem?_eq_some_iff.1 (idx_get ex292)).1
                  have w294a : (esSeat g_264).set (u_262.toNat * 3 + 2) (I (IntKind.i64.wrap (x292.Hp - 1))) = esSeat (g_264.set u_262.toNat (⟨x292.X, x292.Y, (IntKind.i64.wrap (x292.Hp - 1))⟩ : GSeat)) := set_enc (enc := eSeat) (sz := 3) (fun _ => rfl) (idx_get ex292) (by decide) rfl
                  have w294b : (g_264.set u_262.toNat (⟨x292.X, x292.Y, (IntKind.i64.wrap (x292.Hp - 1))⟩ : GSeat)).length = g_264.length := List.length_set
                  have ff := And.intro @f3a (And.intro @dc236 (And.intro @f238c (And.intro @f238d (And.intro @f238g0 (And.intro @dc240 (And.intro @dc286 (And.intro @dc288 (And.intro @g0_j2 (And.intro @g1_j2 (And.intro @g2_j2 (And.intro @g3_j2 (And.intro @g4_j2 (And.intro @g5_j2 (And.intro @g6_j2 (And.intro @g7_j2 (And.intro @g8_j2 (And.intro @g9_j2 (And.intro @g10_j2 (And.intro @g11_j2 (And.intro @g12_j2 (And.intro @g13_j2 (And.intro @dc291 (And.intro @f293c (And.intro @f293g0 (And.intro @f293g1 (And.intro @f293g2 (And.intro @w294a p_spec_l24Step_tf.down)))))))))))))))))))))))))))
                  try refine st_by ff ?_
                  repeat' (first | exact trivial | refine And.intro sd ?_)
                  refine Back.intro (n_2, (IntKind.i64.wrap (u_262 + 1)), v289.1, (g_264.set u_262.toNat (⟨x292.X, x292.Y, (IntKind.i64.wrap (x292.Hp - 1))⟩ : GSeat))) ?_ ?_
                  · rw [hM_2]; exact Nat.lt_succ_self _
                  rw [hI_2]
                  refine ⟨h_2, ?_⟩
                  exact p_spec_l24Step_pv ff @f3c
                have hrt_2 := fun σ : ASt => congrFun (congrFun hk_2.symm AX.rt) σ
                have hex_2 := fun (i : Nat) (σ : ASt) => congrFun (congrFun hk_2.symm (AX.ex i)) σ
                by_cases c296 : (Int.tmod v289.2 2) = 0
                case neg =>
                 rw [if_neg c296] at h_2
                 have dc296 := beq_no c296
                 have ff := And.intro @f3a (And.intro @dc236 (And.intro @f238c (And.intro @f238d (And.intro @f238g0 (And.intro @dc240 (And.intro @dc286 (And.intro @g0_j1 (And.intro @g1_j1 (And.intro @g2_j1 (And.intro @g3_j1 (And.intro @g4_j1 (And.intro @g5_j1 (And.intro @g6_j1 (And.intro @g7_j1 (And.intro @g8_j1 (And.intro @g9_j1 (And.intro @g10_j1 (And.intro @g11_j1 (And.intro @g12_j1 (And.intro @g13_j1 (And.intro @dc288 (And.intro @hrt_2 (And.intro @hex_2 (And.intro @dc296 p_spec_l24Step_tf.down))))))))))))))))))))))))
                 try refine st_by ff ?_
                 repeat' (first | exact trivial | refine And.intro sd ?_)
                 refine key_2 _ ?_
                 refine ⟨false, h_2, ?_⟩
                 exact p_spec_l24Step_pv ff @f3c
                rw [if_pos c296] at h_2
                have dc296 := beq_yes c296
                obtain ⟨x297, ex297, h_2⟩ := Option.bind_eq_some_iff.1 h_2
                try dsimp only at h_2
                have f298a := idx_lo ex297
                have f298b := idx_hi ex297
                have f298c : (esSeat g_264).drop (u_262.toNat * 3) = eSeat x297 ++ esSeat (g_264.drop (u_262.toNat + 1)) := drop_enc (fun _ => rfl) (idx_get ex297)
                have f298g0 : (esSeat g_264).getD (u_262.toNat * 3) .junk = (eSeat x297).getD 0 .junk := getD_enc0 (enc := eSeat) (sz := 3) (fun _ => rfl) (idx_get ex297) (by decide)
                have f298g1 : (esSeat g_264).getD (u_262.toNat * 3 + 1) .junk = (eSeat x297).getD 1 .junk := getD_enc (enc := eSeat) (sz := 3) (fun _ => rfl) (idx_get ex297) (by decide)
                have f298g2 : (esSeat g_264).getD (u_262.toNat * 3 + 2) .junk = (eSeat x297).getD 2 .junk := getD_enc (enc := eSeat) (sz := 3) (fun _ => rfl) (idx_get ex297) (by decide)
                have ff := And.intro @f3a (And.intro @dc236 (And.intro @f238c (And.intro @f238d (And.intro @f238g0 (And.intro @dc240 (And.intro @dc286 (And.intro @g0_j1 (And.intro @g1_j1 (And.intro @g2_j1 (And.intro @g3_j1 (And.intro @g4_j1 (And.intro @g5_j1 (And.intro @g6_j1 (And.intro @g7_j1 (And.intro @g8_j1 (And.intro @g9_j1 (And.intro @g10_j1 (And.intro @g11_j1 (And.intro @g12_j1 (And.intro @g13_j1 (And.intro @dc288 (And.intro @hrt_2 (And.intro @hex_2 (And.intro @dc296 (And.intro @f298c (And.intro @f298g0 (And.intro @f298g1 (And.intro @f298g2 p_spec_l24Step_tf.down))))))))))))))))))))))))))))
                try refine st_by ff ?_
                repeat' (first | exact trivial | refine And.intro sd ?_)
                refine key_2 _ ?_
                refine ⟨decide (x297.Hp > 0), h_2, ?_⟩
                exact p_spec_l24Step_pv ff @f3c
              have hrt_1 := fun σ : ASt => congrFun (congrFun hk_1.symm AX.rt) σ
              have hex_1 := fun (i : Nat) (σ : ASt) => congrFun (congrFun hk_1.symm (AX.ex i)) σ
              by_cases c299 : u_262 = u_159
              · rw [if_pos c299] at h_2
                have dc299 := beq_yes c299
                have ff := And.intro @f3a (And.intro @dc236 (And.intro @f238c (And.intro @f238d (And.intro @f238g0 (And.intro @dc240 (And.intro @g0_2 (And.intro @g1_2 (And.intro @g2_2 (And.intro @g3_2 (And.intro @g4_2 (And.intro @g5_2 (And.intro @g6_2 (And.intro @g7_2 (And.intro @g8_2 (And.intro @g9_2 (And.intro @g10_2 (And.intro @g11_2 (And.intro @dc286 (And.intro @hrt_1 (And.intro @hex_1 (And.intro @dc299 p_spec_l24Step_tf.down)))))))))))))))))))))
                try refine st_by ff ?_
                repeat' (first | exact trivial | refine And.intro sd ?_ | (refine aw_drawn (id := 26) ?_ [[], [], [0, 1], [0, 1, 2], [0, 1, 2, 3], [0, 1, 2, 3, 4], [0, 1, 2, 3], [0, 1, 2, 3, 4, 5, 6], [0, 1, 2, 3, 4, 5, 6, 7], [0, 1, 2, 3, 4, 5, 6, 7, 8], [0, 1, 2, 3], [0, 1, 2, 3, 10], [0, 1, 2, 3], [0, 1, 2, 3, 10, 11, 12], [0, 1, 2, 3, 10, 11, 12, 13], [0, 1, 2, 3, 10, 11, 12, 13, 14], [0, 1, 2, 3, 4, 5, 6, 7, 8, 9, 10, 11, 12, 13, 14, 15], [0, 1, 2, 3, 4, 5, 6, 7, 8, 9, 10, 11, 12, 13, 14, 15, 16], [0, 1, 2, 3, 4, 5, 6, 7, 8, 9, 10, 11, 12, 13, 14, 15, 16, 17], [0, 1, 2, 3, 4, 5, 6, 7, 8, 9, 10, 11, 12, 13, 14, 15, 16, 17, 18], [0, 1, 2, 3, 4, 5, 6, 7, 8, 9, 10, 11, 12, 13, 14, 15, 16, 17, 18, 19], [0, 1, 2, 3, 4, 5, 6, 7, 8, 9, 10, 11, 12, 13, 14, 15, 16, 17, 18, 19, 20], [0, 1, 2, 3, 4, 5, 6, 7, 8, 9, 10, 11, 12, 13, 14, 15, 16, 17, 18, 19, 20, 21], [0, 1, 2, 3, 4, 5, 6, 7, 8, 9, 10, 11, 12, 13, 14, 15, 16, 17, 18, 19, 20], [0, 1, 2, 3, 4, 5, 6, 7, 8, 9, 10, 11, 12, 13, 14, 15, 16, 17, 18, 19, 20, 21, 22, 23], [0, 1, 2, 3, 4, 5, 6, 7, 8, 9, 10, 11, 12, 13, 14, 15, 16, 17, 18, 19, 20, 21, 22, 23, 24], [0, 1, 2, 3, 4, 5, 6, 7, 8, 9, 10, 11, 12, 13, 14, 15, 16, 17, 18, 19, 20, 21, 22, 23, 24, 25], [0, 1, 2, 3, 4, 5, 6, 7, 8, 9, 10, 11, 12, 13, 14, 15, 16, 17, 18, 19, 20], [0, 1, 2, 3, 4, 5, 6, 7, 8, 9, 10, 11, 12, 13, 14, 15, 16, 17, 18, 19, 20, 27], [0, 1, 2, 3, 4, 5, 6, 7, 8, 9, 10, 11, 12, 13, 14, 15, 16, 17, 18, 19, 20], [0, 1, 2, 3, 4, 5, 6, 7, 8, 9, 10, 11, 12, 13, 14, 15, 16, 17, 18, 19, 20, 27, 28, 29], [0, 1, 2, 3, 4, 5, 6, 7, 8, 9, 10, 11, 12, 13, 14, 15, 16, 17, 18, 19, 20, 27, 28, 29, 30], [0, 1, 2, 3, 4, 5, 6, 7, 8, 9, 10, 11, 12, 13, 14, 15, 16, 17, 18, 19, 20, 27, 28, 29, 30, 31], [0, 1, 2, 3, 4, 5, 6, 7, 8, 9, 10, 11, 12, 13, 14, 15, 16, 17, 18, 19, 20, 21, 22, 23, 24, 25, 26, 27, 28, 29, 30, 31, 32], [0, 1, 2, 3, 4, 5, 6, 7, 8, 9, 10, 11, 12, 13, 14, 15, 16, 17, 18, 19, 20, 21, 22, 23, 24, 25, 26, 27, 28, 29, 30, 31, 32, 33], [0, 1, 2, 3, 4, 5, 6, 7, 8, 9, 10, 11, 12, 13, 14, 15, 16, 17, 18, 19, 20, 21, 22, 23, 24, 25, 26, 27, 28, 29, 30, 31, 32, 33, 34], [0, 1, 2, 3, 4, 5, 6, 7, 8, 9, 10, 11, 12, 13, 14, 15, 16, 17, 18, 19, 20, 21, 22, 23, 24, 25, 26, 27, 28, 29, 30, 31, 32, 33, 34, 35]] 33 ?_ ?_; (· kernel_rfl); (· kernel_rfl); refine st_by ff ?_))
                refine key_1 _ ?_
                refine ⟨true, h_2, ?_⟩
                exact p_spec_l24Step_pv ff @f3c
              rw [if_neg c299] at h_2
              have dc299 := beq_no c299
              obtain ⟨x300, ex300, h_2⟩ := Option.bind_eq_some_iff.1 h_2
              try dsimp only at h_2
              have f301a := idx_lo ex300
              have f301b := idx_hi ex300
              have f301c : (esSeat g_264).drop (u_262.toNat * 3) = eSeat x300 ++ esSeat (g_264.drop (u_262.toNat + 1)) := drop_enc (fun _ => rfl) (idx_get ex300)
              have f301g0 : (esSeat g_264).getD (u_262.toNat * 3) .junk = (eSeat x300).getD 0 .junk := getD_enc0 (enc := eSeat) (sz := 3) (fun _ => rfl) (idx_get ex300) (by decide)
              have f301g1 : (esSeat g_264).getD (u_262.toNat * 3 + 1) .junk = (eSeat x300).getD 1 .junk := getD_enc (enc := eSeat) (sz := 3) (fun _ => rfl) (idx_get ex300) (by decide)
              have f301g2 : (esSeat g_264).getD (u_262.toNat * 3 + 2) .junk = (eSeat x300).getD 2 .junk := getD_enc (enc := eSeat) (sz := 3) (fun _ => rfl) (idx_get ex300) (by decide)
              obtain ⟨x302, ex302, h_2⟩ := Option.bind_eq_some_iff.1 h_2
              try dsimp only at h_2
              have f303a := idx_lo ex302
              have f303b := idx_hi ex302
              have f303c : (esSeat g_264).drop (u_159.toNat * 3) = eSeat x302 ++ esSeat (g_264.drop (u_159.toNat + 1)) := drop_enc (fun _ => rfl) (idx_get ex302)
              have f303g0 : (esSeat g_264).getD (u_159.toNat * 3) .junk = (eSeat x302).getD 0 .junk := getD_enc0 (enc := eSeat) (sz := 3) (fun _ => rfl) (idx_get ex302) (by decide)
              have f303g1 : (esSeat g_264).getD (u_159.toNat * 3 + 1) .junk = (eSeat x302).getD 1 .junk := getD_enc (enc := eSeat) (sz := 3) (fun _ => rfl) (idx_get ex302) (by decide)
              have f303g2 : (esSeat g_264).getD (u_159.toNat * 3 + 2) .junk = (eSeat x302).getD 2 .junk := getD_enc (enc := eSeat) (sz := 3) (fun _ => rfl) (idx_get ex302) (by decide)
              obtain ⟨v304, ev304, h_2⟩ := Option.bind_eq_some_iff.1 h_2
              try dsimp only at h_2
              have ff := And.intro @f3a (And.intro @dc236 (And.intro @f238c (And.intro @f238d (And.intro @f238g0 (And.intro @dc240 (And.intro @g0_2 (And.intro @g1_2 (And.intro @g2_2 (And.intro @g3_2 (And.intro @g4_2 (And.intro @g5_2 (And.intro @g6_2 (And.intro @g7_2 (And.intro @g8_2 (And.intro @g9_2 (And.intro @g10_2 (And.intro @g11_2 (And.intro @dc286 (And.intro @hrt_1 (And.intro @hex_1 (And.intro @dc299 (And.intro @f301c (And.intro @f301g0 (And.intro @f301g1 (And.intro @f301g2 (And.intro @f303c (And.intro @f303g0 (And.intro @f303g1 (And.intro @f303g2 p_spec_l24Step_tf.down)))))))))))))))))))))))))))))
              try refine st_by ff ?_
              repeat' (first | exact trivial | refine And.intro sd ?_ | (refine aw_drawn (id := 26) ?_ [[], [], [0, 1], [0, 1, 2], [0, 1, 2, 3], [0, 1, 2, 3, 4], [0, 1, 2, 3], [0, 1, 2, 3, 4, 5, 6], [0, 1, 2, 3, 4, 5, 6, 7], [0, 1, 2, 3, 4, 5, 6, 7, 8], [0, 1, 2, 3], [0, 1, 2, 3, 10], [0, 1, 2, 3], [0, 1, 2, 3, 10, 11, 12], [0, 1, 2, 3, 10, 11, 12, 13], [0, 1, 2, 3, 10, 11, 12, 13, 14], [0, 1, 2, 3, 4, 5, 6, 7, 8, 9, 10, 11, 12, 13, 14, 15], [0, 1, 2, 3, 4, 5, 6, 7, 8, 9, 10, 11, 12, 13, 14, 15, 16], [0, 1, 2, 3, 4, 5, 6, 7, 8, 9, 10, 11, 12, 13, 14, 15, 16, 17], [0, 1, 2, 3, 4, 5, 6, 7, 8, 9, 10, 11, 12, 13, 14, 15, 16, 17, 18], [0, 1, 2, 3, 4, 5, 6, 7, 8, 9, 10, 11, 12, 13, 14, 15, 16, 17, 18, 19], [0, 1, 2, 3, 4, 5, 6, 7, 8, 9, 10, 11, 12, 13, 14, 15, 16, 17, 18, 19, 20], [0, 1, 2, 3, 4, 5, 6, 7, 8, 9, 10, 11, 12, 13, 14, 15, 16, 17, 18, 19, 20, 21], [0, 1, 2, 3, 4, 5, 6, 7, 8, 9, 10, 11, 12, 13, 14, 15, 16, 17, 18, 19, 20], [0, 1, 2, 3, 4, 5, 6, 7, 8, 9, 10, 11, 12, 13, 14, 15, 16, 17, 18, 19, 20, 21, 22, 23], [0, 1, 2, 3, 4, 5, 6, 7, 8, 9, 10, 11, 12, 13, 14, 15, 16, 17, 18, 19, 20, 21, 22, 23, 24], [0, 1, 2, 3, 4, 5, 6, 7, 8, 9, 10, 11, 12, 13, 14, 15, 16, 17, 18, 19, 20, 21, 22, 23, 24, 25], [0, 1, 2, 3, 4, 5, 6, 7, 8, 9, 10, 11, 12, 13, 14, 15, 16, 17, 18, 19, 20], [0, 1, 2, 3, 4, 5, 6, 7, 8, 9, 10, 11, 12, 13, 14, 15, 16, 17, 18, 19, 20, 27], [0, 1, 2, 3, 4, 5, 6, 7, 8, 9, 10, 11, 12, 13, 14, 15, 16, 17, 18, 19, 20], [0, 1, 2, 3, 4, 5, 6, 7, 8, 9, 10, 11, 12, 13, 14, 15, 16, 17, 18, 19, 20, 27, 28, 29], [0, 1, 2, 3, 4, 5, 6, 7, 8, 9, 10, 11, 12, 13, 14, 15, 16, 17, 18, 19, 20, 27, 28, 29, 30], [0, 1, 2, 3, 4, 5, 6, 7, 8, 9, 10, 11, 12, 13, 14, 15, 16, 17, 18, 19, 20, 27, 28, 29, 30, 31], [0, 1, 2, 3, 4, 5, 6, 7, 8, 9, 10, 11, 12, 13, 14, 15, 16, 17, 18, 19, 20, 21, 22, 23, 24, 25, 26, 27, 28, 29, 30, 31, 32], [0, 1, 2, 3, 4, 5, 6, 7, 8, 9, 10, 11, 12, 13, 14, 15, 16, 17, 18, 19, 20, 21, 22, 23, 24, 25, 26, 27, 28, 29, 30, 31, 32, 33], [0, 1, 2, 3, 4, 5, 6, 7, 8, 9, 10, 11, 12, 13, 14, 15, 16, 17, 18, 19, 20, 21, 22, 23, 24, 25, 26, 27, 28, 29, 30, 31, 32, 33, 34], [0, 1, 2, 3, 4, 5, 6, 7, 8, 9, 10, 11, 12, 13, 14, 15, 16, 17, 18, 19, 20, 21, 22, 23, 24, 25, 26, 27, 28, 29, 30, 31, 32, 33, 34, 35]] 33 ?_ ?_; (· kernel_rfl); (· kernel_rfl); refine st_by ff ?_))
              first
              | (refine cq_call (p_spec_l1Abs_does (IntKind.i64.wrap (x300.X - x302.X)) v304 ev304) (hf_by ff) kr ⟨p_spec_l24Step_sa ff @f3c, ?_⟩; clear ff)
              | (refine cq_dcall (p_spec_l1Abs_does (IntKind.i64.wrap (x300.X - x302.X)) v304 ev304) (hf_by ff) kr ⟨p_spec_l24Step_sa ff @f3c, ?_⟩; clear ff)
              by_cases c305 : v304 > 1
              · rw [if_pos c305] at h_2
                have dc305 := decide_eq_true c305
                have ff := And.intro @f3a (And.intro @dc236 (And.intro @f238c (And.intro @f238d (And.intro @f238g0 (And.intro @dc240 (And.intro @g0_2 (And.intro @g1_2 (And.intro @g2_2 (And.intro @g3_2 (And.intro @g4_2 (And.intro @g5_2 (And.intro @g6_2 (And.intro @g7_2 (And.intro @g8_2 (And.intro @g9_2 (And.intro @g10_2 (And.intro @g11_2 (And.intro @dc286 (And.intro @hrt_1 (And.intro @hex_1 (And.intro @dc299 (And.intro @f301c (And.intro @f301g0 (And.intro @f301g1 (And.intro @f301g2 (And.intro @f303c (And.intro @f303g0 (And.intro @f303g1 (And.intro @f303g2 (And.intro @dc305 p_spec_l24Step_tf.down))))))))))))))))))))))))))))))
                try refine st_by ff ?_
                repeat' (first | exact trivial | refine And.intro sd ?_)
                refine key_1 _ ?_
                refine ⟨true, h_2, ?_⟩
                exact p_spec_l24Step_pv ff @f3c
              rw [if_neg c305] at h_2
              have dc305 := decide_eq_false c305
              obtain ⟨v306, ev306, h_2⟩ := Option.bind_eq_some_iff.1 h_2
              try dsimp only at h_2
              have ff := And.intro @f3a (And.intro @dc236 (And.intro @f238c (And.intro @f238d (And.intro @f238g0 (And.intro @dc240 (And.intro @g0_2 (And.intro @g1_2 (And.intro @g2_2 (And.intro @g3_2 (And.intro @g4_2 (And.intro @g5_2 (And.intro @g6_2 (And.intro @g7_2 (And.intro @g8_2 (And.intro @g9_2 (And.intro @g10_2 (And.intro @g11_2 (And.intro @dc286 (And.intro @hrt_1 (And.intro @hex_1 (And.intro @dc299 (And.intro @f301c (And.intro @f301g0 (And.intro @f301g1 (And.intro @f301g2 (And.intro @f303c (And.intro @f303g0 (And.intro @f303g1 (And.intro @f303g2 (And.intro @dc305 p_spec_l24Step_tf.down))))))))))))))))))))))))))))))
              try refine st_by ff ?_
              repeat' (first | exact trivial | refine And.intro sd ?_)
              first
              | (refine cq_call (p_spec_l1Abs_does (IntKind.i64.wrap (x300.Y - x302.Y)) v306 ev306) (hf_by ff) kr ⟨p_spec_l24Step_sa ff @f3c, ?_⟩; clear ff)
              | (refine cq_dcall (p_spec_l1Abs_does (IntKind.i64.wrap (x300.Y - x302.Y)) v306 ev306) (hf_by ff) kr ⟨p_spec_l24Step_sa ff @f3c, ?_⟩; clear ff)
              have ff := And.intro @f3a (And.intro @dc236 (And.intro @f238c (And.intro @f238d (And.intro @f238g0 (And.intro @dc240 (And.intro @g0_2 (And.intro @g1_2 (And.intro @g2_2 (And.intro @g3_2 (And.intro @g4_2 (And.intro @g5_2 (And.intro @g6_2 (And.intro @g7_2 (And.intro @g8_2 (And.intro @g9_2 (And.intro @g10_2 (And.intro @g11_2 (And.intro @dc286 (And.intro @hrt_1 (And.intro @hex_1 (And.intro @dc299 (And.intro @f301c (And.intro @f301g0 (And.intro @f301g1 (And.intro @f301g2 (And.intro @f303c (And.intro @f303g0 (And.intro @f303g1 (And.intro @f303g2 (And.intro @dc305 p_spec_l24Step_tf.down))))))))))))))))))))))))))))))
              try refine st_by ff ?_
              repeat' (first | exact trivial | refine And.intro sd ?_)
              refine key_1 _ ?_
              refine ⟨decide (v306 > 1), h_2, ?_⟩
              exact p_spec_l24Step_pv ff @f3c
          · try clear ff
            rintro σ hg_2
            rw [hJ_2] at hg_2
            obtain ⟨u_262, g_263, g_264, hj_2, g0_2a, g1_2a, g2_2a, g3_2a, g4_2a, g5_2a, g6_2a, g7_2a, g8_2a⟩ := hg_2
            cases hj_2
            try dsimp only at h_1
            have ff := And.intro @f3a (And.intro @dc236 (And.intro @f238c (And.intro @f238d (And.intro @f238g0 (And.intro @dc240 (And.intro @g0_2a (And.intro @g1_2a (And.intro @g2_2a (And.intro @g3_2a (And.intro @g4_2a (And.intro @g5_2a (And.intro @g6_2a (And.intro @g7_2a (And.intro @g8_2a p_spec_l24Step_tf.down))))))))))))))
            try refine st_by ff ?_
            repeat' (first | exact trivial | refine And.intro sd ?_)
            refine Back.intro (n_1, (IntKind.i64.wrap (u_159 + 1)), g_263, g_264) ?_ ?_
            · rw [hM_1]; exact Nat.lt_succ_self _
            rw [hI_1]
            refine ⟨h_1, ?_⟩
            exact p_spec_l24Step_pv ff @f3c
        have hrt_0 := fun σ : ASt => congrFun (congrFun hk_0.symm AX.rt) σ
        have hex_0 := fun (i : Nat) (σ : ASt) => congrFun (congrFun hk_0.symm (AX.ex i)) σ
        by_cases c307 : x237 = true
        case neg =>
         rw [if_neg c307] at h_1
         have dc307 := eq_false_of_ne_true c307
         have ff := And.intro @f3a (And.intro @g0_1 (And.intro @g1_1 (And.intro @g2_1 (And.intro @g3_1 (And.intro @g4_1 (And.intro @g5_1 (And.intro @g6_1 (And.intro @g7_1 (And.intro @g8_1 (And.intro @dc236 (And.intro @f238c (And.intro @f238d (And.intro @f238g0 (And.intro @hrt_0 (And.intro @hex_0 (And.intro @dc307 p_spec_l24Step_tf.down))))))))))))))))
         try refine st_by ff ?_
         repeat' (first | exact trivial | refine And.intro sd ?_)
         refine key_0 _ ?_
         refine ⟨true, h_1, ?_⟩
         exact p_spec_l24Step_pv ff @f3c
        rw [if_pos c307] at h_1
        have dc307 := c307
        obtain ⟨x308, ex308, h_1⟩ := Option.bind_eq_some_iff.1 h_1
        try dsimp only at h_1
        have f309a := idx_lo ex308
        have f309b := idx_hi ex308
        have f309c : (esInt inputs_a1).drop (u_159.toNat * 1) = eInt x308 ++ esInt (inputs_a1.drop (u_159.toNat + 1)) := drop_enc (fun _ => rfl) (idx_get ex308)
        have f309d := f309c
        rw [Nat.mul_one] at f309d
        have ff := And.intro @f3a (And.intro @g0_1 (And.intro @g1_1 (And.intro @g2_1 (And.intro @g3_1 (And.intro @g4_1 (And.intro @g5_1 (And.intro @g6_1 (And.intro @g7_1 (And.intro @g8_1 (And.intro @dc236 (And.intro @f238c (And.intro @f238d (And.intro @f238g0 (And.intro @hrt_0 (And.intro @hex_0 (And.intro @dc307 (And.intro @f309c (And.intro @f309d p_spec_l24Step_tf.down))))))))))))))))))
        try refine st_by ff ?_
        repeat' (first | exact trivial | refine And.intro sd ?_)
        refine key_0 _ ?_
        refine ⟨!(x308 == 5), h_1, ?_⟩
        exact p_spec_l24Step_pv ff @f3c
    · try clear ff
      rintro σ hg_1
      rw [hJ_1] at hg_1
      obtain ⟨u_159, g_160, g_161, hj_1, g0_1a, g1_1a, g2_1a, g3_1a⟩ := hg_1
      cases hj_1
      try dsimp only at h
      have ff := And.intro @f3a (And.intro @g0_1a (And.intro @g1_1a (And.intro @g2_1a (And.intro @g3_1a p_spec_l24Step_tf.down))))
      try refine st_by ff ?_
      repeat' (first | exact trivial | refine And.intro sd ?_)
      cases h
      exact ret_q1 rfl (p_spec_l24Step_rt ff @f3c)
/-! spec.StepGame -/
def p_spec_StepGame_j0 (N : Nat) (g_a0 : GGame) (inputs_a1 : List Int) (b_2 : Bool) : Option (GGame × Bool) := (if b_2 = true then some ((⟨0, 0, ([] : List GSeat)⟩ : GGame), false) else ((p_spec_l24Step N g_a0 inputs_a1).bind fun v4 => some ((⟨v4.Frame, v4.Coin, v4.Seats⟩ : GGame), true)))
theorem p_spec_StepGame_pv {F C A : Prop} (hF : F) (hC : C) (h : F → C → A := by intro hF hC; first | exact cl_by hF | (refine st_by hF ?_; (repeat' (first | exact trivial | apply And.intro)); all_goals (clear hF; first | rfl | (simp only [hC, List.length_append, List.length_cons, List.length_nil, List.append_nil, List.nil_append, List.cons_append, List.length_set, List.append_assoc, Nat.zero_add, List.length_replicate, esInt_app, esInt_cons, esInt_nil, eInt_eq, esGame_app, esGame_cons, esGame_nil, eGame_eq, esGameo_app, esGameo_cons, esGameo_nil, eGameo_eq, esSeat_app, esSeat_cons, esSeat_nil, eSeat_eq]; done) | (simp [hC, List.length_append, List.length_cons, List.length_nil, List.append_nil, List.nil_append, List.cons_append, List.length_set, List.append_assoc, Nat.zero_add, List.length_replicate, esInt_app, esInt_cons, esInt_nil, eInt_eq, esGame_app, esGame_cons, esGame_nil, eGame_eq, esGameo_app, esGameo_cons, esGameo_nil, eGameo_eq, esSeat_app, esSeat_cons, esSeat_nil, eSeat_eq]; done) | omega))) : A := h hF hC
theorem p_spec_StepGame_sa {F C A : Prop} (hF : F) (hC : C) (h : F → C → A := by intro hF hC; first | exact ca_by hF | (refine sa_by hF ?_; (repeat' (first | exact trivial | apply And.intro)); all_goals (clear hF; first | rfl | (simp only [hC, List.length_append, List.length_cons, List.length_nil, List.append_nil, List.nil_append, List.cons_append, List.length_set, List.append_assoc, Nat.zero_add, List.length_replicate, esInt_app, esInt_cons, esInt_nil, eInt_eq, esGame_app, esGame_cons, esGame_nil, eGame_eq, esGameo_app, esGameo_cons, esGameo_nil, eGameo_eq, esSeat_app, esSeat_cons, esSeat_nil, eSeat_eq]; done) | (simp [hC, List.length_append, List.length_cons, List.length_nil, List.append_nil, List.nil_append, List.cons_append, List.length_set, List.append_assoc, Nat.zero_add, List.length_replicate, esInt_app, esInt_cons, esInt_nil, eInt_eq, esGame_app, esGame_cons, esGame_nil, eGame_eq, esGameo_app, esGameo_cons, esGameo_nil, eGameo_eq, esSeat_app, esSeat_cons, esSeat_nil, eSeat_eq]; done) | omega))) : A := h hF hC
theorem p_spec_StepGame_rt {F C A : Prop} (hF : F) (hC : C) (h : F → C → A := by intro hF hC; first | (refine sr_by hF ?_; (repeat' (first | exact trivial | apply And.intro)); all_goals (clear hF; first | rfl | (simp only [hC, List.length_append, List.length_cons, List.length_nil, List.append_nil, List.nil_append, List.cons_append, List.length_set, List.append_assoc, Nat.zero_add, List.length_replicate, esInt_app, esInt_cons, esInt_nil, eInt_eq, esGame_app, esGame_cons, esGame_nil, eGame_eq, esGameo_app, esGameo_cons, esGameo_nil, eGameo_eq, esSeat_app, esSeat_cons, esSeat_nil, eSeat_eq]; done) | (simp [hC, List.length_append, List.length_cons, List.length_nil, List.append_nil, List.nil_append, List.cons_append, List.length_set, List.append_assoc, Nat.zero_add, List.length_replicate, esInt_app, esInt_cons, esInt_nil, eInt_eq, esGame_app, esGame_cons, esGame_nil, eGame_eq, esGameo_app, esGameo_cons, esGameo_nil, eGameo_eq, esSeat_app, esSeat_cons, esSeat_nil, eSeat_eq]; done) | omega)) | (first | rfl | (simp only [hC, List.length_append, List.length_cons, List.length_nil, List.append_nil, List.nil_append, List.cons_append, List.length_set, List.append_assoc, Nat.zero_add, List.length_replicate, esInt_app, esInt_cons, esInt_nil, eInt_eq, esGame_app, esGame_cons, esGame_nil, eGame_eq, esGameo_app, esGameo_cons, esGameo_nil, eGameo_eq, esSeat_app, esSeat_cons, esSeat_nil, eSeat_eq]; done) | (simp [hC, List.length_append, List.length_cons, List.length_nil, List.append_nil, List.nil_append, List.cons_append, List.length_set, List.append_assoc, Nat.zero_add, List.length_replicate, esInt_app, esInt_cons, esInt_nil, eInt_eq, esGame_app, esGame_cons, esGame_nil, eGame_eq, esGameo_app, esGameo_cons, esGameo_nil, eGameo_eq, esSeat_app, esSeat_cons, esSeat_nil, eSeat_eq]; done) | omega)) : A := h hF hC
def p_spec_StepGame_tf := PLift.up (And.intro @eInt_eq (And.intro @esInt_len (And.intro @esInt_nil (And.intro @esInt_leaf (And.intro @esInt_fit (And.intro @eGame_eq (And.intro @esGame_len (And.intro @esGame_nil (And.intro @esGame_leaf (And.intro @esGame_fit (And.intro @eGameo_eq (And.intro @esGameo_len (And.intro @esGameo_nil (And.intro @eSeat_eq (And.intro @esSeat_len (And.intro @esSeat_nil (And.intro @esSeat_leaf (And.intro @esSeat_fit (And.intro @esInt_share (And.intro @esInt_pure (And.intro @esGameo_share (And.intro @esGameo_pure (And.intro @esSeat_share (And.intro @esSeat_pure (And.intro @str_beq (And.intro @Ty.nz73 (And.intro @Ty.ldA73 (And.intro @Ty.sz73 (And.intro @Ty.szn73 (And.intro @Ty.nz3 (And.intro @Ty.ldA3 (And.intro @Ty.ldS3 (And.intro @Ty.sz3 (And.intro @Ty.szn3 (And.intro @Ty.nz71 (And.intro @Ty.ldA71 (And.intro @Ty.ldS71 (And.intro @Ty.sz71 (And.intro @Ty.szn71 (And.intro @Ty.fo73_0 (And.intro @Ty.fk73_0 (And.intro @Ty.fs73_0 (And.intro @Ty.fn73_0 (And.intro @Ty.fo73_2 (And.intro @Ty.fk73_2 (And.intro @Ty.fs73_2 (And.intro @Ty.fn73_2 (And.intro @Ty.sl71 (And.intro @Ty.zv73 (And.intro @Ty.bd73 (And.intro @Ty.ag73 @trivial)))))))))))))))))))))))))))))))))))))))))))))))))))
def p_spec_StepGame (N : Nat) (g_a0 : GGame) (inputs_a1 : List Int) : Option (GGame × Bool) := ((p_spec_GoodGame g_a0).bind fun v1 => (if v1 = true then (if g_a0.Frame = 60 then p_spec_StepGame_j0 N g_a0 inputs_a1 true else ((p_spec_l24Inputs inputs_a1 (g_a0.Seats.length : Int)).bind fun v7 => p_spec_StepGame_j0 N g_a0 inputs_a1 (!v7))) else p_spec_StepGame_j0 N g_a0 inputs_a1 true))
theorem p_spec_StepGame_does (N : Nat) (g_a0 : GGame) (inputs_a1 : List Int) (r : GGame × Bool) (h : p_spec_StepGame N g_a0 inputs_a1 = some r) : Does Try.prog 49 [.agg (eGame g_a0), .row false 1 inputs_a1.length (esInt inputs_a1)] (.tup [.agg (eGameo r.1), B r.2]) := by
  rw [p_spec_StepGame] at h
  refine Does.bnd (fun hb => ?_)
  have hb2 : g_a0.Seats.length ≤ 9223372036854775807 ∧ inputs_a1.length ≤ 9223372036854775807 := by simpa [AV.fitNs, AV.fitN, eGame] using hb
  obtain ⟨hl0, hl1⟩ := hb2
  refine Does.walk (nt := 26) Try.func49 rfl rfl (by simp) (by decide) rfl (fun G0 X w0 pv => ?_)
  obtain ⟨v1, ev1, h⟩ := Option.bind_eq_some_iff.1 h
  try dsimp only at h
  have ff := p_spec_StepGame_tf.down
  try refine st_by ff ?_
  repeat' (first | exact trivial | refine And.intro sd ?_)
  first
  | (refine cq_call (p_spec_GoodGame_does g_a0 v1 ev1) (hf_by ff) kr ⟨p_spec_StepGame_sa ff trivial, ?_⟩; clear ff)
  have ff := p_spec_StepGame_tf.down
  try refine st_by ff ?_
  repeat' (first | exact trivial | refine And.intro sd ?_)
  try clear ff
  generalize hk_0 : thenK _ _ = kk_0
  have key_0 : ∀ σ, (∃ b_2 : Bool, (p_spec_StepGame_j0 N g_a0 inputs_a1 b_2 = some r) ∧ σ.t 1 = .row false 1 inputs_a1.length (esInt inputs_a1) ∧ σ.t 2 = .ptr 2 [] 0 ∧ σ.t 4 = .ptr 4 [] 0 ∧ σ.t 21 = B b_2 ∧ σ.m 2 = some (.box true [I g_a0.Frame, I g_a0.Coin, .row false 3 g_a0.Seats.length (esSeat g_a0.Seats)]) ∧ σ.m 4 = some (.box true [I 0, I 0, .row true 3 0 []])) → kk_0 .nm σ := by
    rintro σ ⟨b_2, h, g0_j0, g1_j0, g2_j0, g3_j0, g4_j0, g5_j0⟩
    rw [← hk_0]
    rw [p_spec_StepGame_j0] at h
    by_cases c3 : b_2 = true
    · rw [if_pos c3] at h
      have dc3 := c3
      have ff := And.intro @g0_j0 (And.intro @g1_j0 (And.intro @g2_j0 (And.intro @g3_j0 (And.intro @g4_j0 (And.intro @g5_j0 (And.intro @dc3 p_spec_StepGame_tf.down))))))
      try refine st_by ff ?_
      repeat' (first | exact trivial | refine And.intro sd ?_)
      cases h
      exact ret_q2 rfl (p_spec_StepGame_rt ff trivial)
    rw [if_neg c3] at h
    have dc3 := eq_false_of_ne_true c3
    obtain ⟨v4, ev4, h⟩ := Option.bind_eq_some_iff.1 h
    try dsimp only at h
    have ff := And.intro @g0_j0 (And.intro @g1_j0 (And.intro @g2_j0 (And.intro @g3_j0 (And.intro @g4_j0 (And.intro @g5_j0 (And.intro @dc3 p_spec_StepGame_tf.down))))))
    try refine st_by ff ?_
    repeat' (first | exact trivial | refine And.intro sd ?_)
    first
    | (refine cq_own (p_spec_l24Step_does N g_a0 inputs_a1 v4 ev4) (hf_by ff) kr ⟨p_spec_StepGame_sa ff trivial, ?_⟩; clear ff)
    have ff := And.intro @g0_j0 (And.intro @g1_j0 (And.intro @g2_j0 (And.intro @g3_j0 (And.intro @g4_j0 (And.intro @g5_j0 (And.intro @dc3 p_spec_StepGame_tf.down))))))
    try refine st_by ff ?_
    repeat' (first | exact trivial | refine And.intro sd ?_)
    cases h
    exact ret_q2 rfl (p_spec_StepGame_rt ff trivial)
  have hrt_0 := fun σ : ASt => congrFun (congrFun hk_0.symm AX.rt) σ
  have hex_0 := fun (i : Nat) (σ : ASt) => congrFun (congrFun hk_0.symm (AX.ex i)) σ
  by_cases c5 : v1 = true
  case neg =>
   rw [if_neg c5] at h
   have dc5 := eq_false_of_ne_true c5
   have ff := And.intro @hrt_0 (And.intro @hex_0 (And.intro @dc5 p_spec_StepGame_tf.down))
   try refine st_by ff ?_
   repeat' (first | exact trivial | refine And.intro sd ?_)
   refine key_0 _ ?_
   refine ⟨true, h, ?_⟩
   exact p_spec_StepGame_pv ff trivial
  rw [if_pos c5] at h
  have dc5 := c5
  by_cases c6 : g_a0.Frame = 60
  · rw [if_pos c6] at h
    have dc6 := beq_yes c6
    have ff := And.intro @hrt_0 (And.intro @hex_0 (And.intro @dc5 (And.intro @dc6 p_spec_StepGame_tf.down)))
    try refine st_by ff ?_
    repeat' (first | exact trivial | refine And.intro sd ?_)
    refine key_0 _ ?_
    refine ⟨true, h, ?_⟩
    exact p_spec_StepGame_pv ff trivial
  rw [if_neg c6] at h
  have dc6 := beq_no c6
  obtain ⟨v7, ev7, h⟩ := Option.bind_eq_some_iff.1 h
  try dsimp only at h
  have ff := And.intro @hrt_0 (And.intro @hex_0 (And.intro @dc5 (And.intro @dc6 p_spec_StepGame_tf.down)))
  try refine st_by ff ?_
  repeat' (first | exact trivial | refine And.intro sd ?_)
  first
  | (refine cq_call (p_spec_l24Inputs_does inputs_a1 (g_a0.Seats.length : Int) v7 ev7) (hf_by ff) kr ⟨p_spec_StepGame_sa ff trivial, ?_⟩; clear ff)
  have ff := And.intro @hrt_0 (And.intro @hex_0 (And.intro @dc5 (And.intro @dc6 p_spec_StepGame_tf.down)))
  try refine st_by ff ?_
  repeat' (first | exact trivial | refine And.intro sd ?_)
  refine key_0 _ ?_
  refine ⟨!v7, h, ?_⟩
  exact p_spec_StepGame_pv ff trivial
/-! impl.isSeed -/
theorem p_impl_isSeed_pv {F C A : Prop} (hF : F) (hC : C) (h : F → C → A := by intro hF hC; first | exact cl_by hF | (refine st_by hF ?_; (repeat' (first | exact trivial | apply And.intro)); all_goals (clear hF; first | rfl | (simp only [hC, List.length_append, List.length_cons, List.length_nil, List.append_nil, List.nil_append, List.cons_append, List.length_set, List.append_assoc, Nat.zero_add, List.length_replicate]; done) | (simp [hC, List.length_append, List.length_cons, List.length_nil, List.append_nil, List.nil_append, List.cons_append, List.length_set, List.append_assoc, Nat.zero_add, List.length_replicate]; done) | omega))) : A := h hF hC
theorem p_impl_isSeed_sa {F C A : Prop} (hF : F) (hC : C) (h : F → C → A := by intro hF hC; first | exact ca_by hF | (refine sa_by hF ?_; (repeat' (first | exact trivial | apply And.intro)); all_goals (clear hF; first | rfl | (simp only [hC, List.length_append, List.length_cons, List.length_nil, List.append_nil, List.nil_append, List.cons_append, List.length_set, List.append_assoc, Nat.zero_add, List.length_replicate]; done) | (simp [hC, List.length_append, List.length_cons, List.length_nil, List.append_nil, List.nil_append, List.cons_append, List.length_set, List.append_assoc, Nat.zero_add, List.length_replicate]; done) | omega))) : A := h hF hC
theorem p_impl_isSeed_rt {F C A : Prop} (hF : F) (hC : C) (h : F → C → A := by intro hF hC; first | (refine sr_by hF ?_; (repeat' (first | exact trivial | apply And.intro)); all_goals (clear hF; first | rfl | (simp only [hC, List.length_append, List.length_cons, List.length_nil, List.append_nil, List.nil_append, List.cons_append, List.length_set, List.append_assoc, Nat.zero_add, List.length_replicate]; done) | (simp [hC, List.length_append, List.length_cons, List.length_nil, List.append_nil, List.nil_append, List.cons_append, List.length_set, List.append_assoc, Nat.zero_add, List.length_replicate]; done) | omega)) | (first | rfl | (simp only [hC, List.length_append, List.length_cons, List.length_nil, List.append_nil, List.nil_append, List.cons_append, List.length_set, List.append_assoc, Nat.zero_add, List.length_replicate]; done) | (simp [hC, List.length_append, List.length_cons, List.length_nil, List.append_nil, List.nil_append, List.cons_append, List.length_set, List.append_assoc, Nat.zero_add, List.length_replicate]; done) | omega)) : A := h hF hC
def p_impl_isSeed_tf := PLift.up (And.intro @str_beq @trivial)
def p_impl_isSeed (seed_a0 : Int) : Option (Bool) := some (rng seed_a0 0 2147483647)
theorem p_impl_isSeed_does (seed_a0 : Int) (r : Bool) (h : p_impl_isSeed seed_a0 = some r) : Does Try.prog 69 [I seed_a0] (B r) := by
  rw [p_impl_isSeed] at h
  refine Does.walk (nt := 5) Try.func69 rfl rfl (by simp) (by decide) rfl (fun G0 X w0 pv => ?_)
  have ff := p_impl_isSeed_tf.down
  try refine st_by ff ?_
  repeat' (first | exact trivial | refine And.intro sd ?_)
  first
  | (refine cq_call (inRange_does seed_a0 0 2147483647) (hf_by ff) kr ⟨p_impl_isSeed_sa ff trivial, ?_⟩; clear ff)
  have ff := p_impl_isSeed_tf.down
  try refine st_by ff ?_
  repeat' (first | exact trivial | refine And.intro sd ?_)
  cases h
  exact ret_q1 rfl (p_impl_isSeed_rt ff trivial)
/-! slices.IndexFunc[[]impl.Seat,impl.Seat] -/
def p_slices_IndexFunc_impl_Seat_impl_Seat_l0 (f_a1 : GSeat → Option Bool) : List GSeat → Nat → Option (LR (Int) (Unit))
  | [], i_0 => some (.out ())
  | x_0 :: r_0, i_0 => ((f_a1 x_0).bind fun v12 => (if v12 = true then some (.ret (i_0 : Int)) else p_slices_IndexFunc_impl_Seat_impl_Seat_l0 f_a1 r_0 (i_0 + 1)))
theorem p_slices_IndexFunc_impl_Seat_impl_Seat_pv {F C A : Prop} (hF : F) (hC : C) (h : F → C → A := by intro hF hC; first | exact cl_by hF | (refine st_by hF ?_; (repeat' (first | exact trivial | apply And.intro)); all_goals (clear hF; first | rfl | (simp only [hC, List.length_append, List.length_cons, List.length_nil, List.append_nil, List.nil_append, List.cons_append, List.length_set, List.append_assoc, Nat.zero_add, List.length_replicate, esSeat_app, esSeat_cons, esSeat_nil, eSeat_eq]; done) | (simp [hC, List.length_append, List.length_cons, List.length_nil, List.append_nil, List.nil_append, List.cons_append, List.length_set, List.append_assoc, Nat.zero_add, List.length_replicate, esSeat_app, esSeat_cons, esSeat_nil, eSeat_eq]; done) | omega))) : A := h hF hC
theorem p_slices_IndexFunc_impl_Seat_impl_Seat_sa {F C A : Prop} (hF : F) (hC : C) (h : F → C → A := by intro hF hC; first | exact ca_by hF | (refine sa_by hF ?_; (repeat' (first | exact trivial | apply And.intro)); all_goals (clear hF; first | rfl | (simp only [hC, List.length_append, List.length_cons, List.length_nil, List.append_nil, List.nil_append, List.cons_append, List.length_set, List.append_assoc, Nat.zero_add, List.length_replicate, esSeat_app, esSeat_cons, esSeat_nil, eSeat_eq]; done) | (simp [hC, List.length_append, List.length_cons, List.length_nil, List.append_nil, List.nil_append, List.cons_append, List.length_set, List.append_assoc, Nat.zero_add, List.length_replicate, esSeat_app, esSeat_cons, esSeat_nil, eSeat_eq]; done) | omega))) : A := h hF hC
theorem p_slices_IndexFunc_impl_Seat_impl_Seat_rt {F C A : Prop} (hF : F) (hC : C) (h : F → C → A := by intro hF hC; first | (refine sr_by hF ?_; (repeat' (first | exact trivial | apply And.intro)); all_goals (clear hF; first | rfl | (simp only [hC, List.length_append, List.length_cons, List.length_nil, List.append_nil, List.nil_append, List.cons_append, List.length_set, List.append_assoc, Nat.zero_add, List.length_replicate, esSeat_app, esSeat_cons, esSeat_nil, eSeat_eq]; done) | (simp [hC, List.length_append, List.length_cons, List.length_nil, List.append_nil, List.nil_append, List.cons_append, List.length_set, List.append_assoc, Nat.zero_add, List.length_replicate, esSeat_app, esSeat_cons, esSeat_nil, eSeat_eq]; done) | omega)) | (first | rfl | (simp only [hC, List.length_append, List.length_cons, List.length_nil, List.append_nil, List.nil_append, List.cons_append, List.length_set, List.append_assoc, Nat.zero_add, List.length_replicate, esSeat_app, esSeat_cons, esSeat_nil, eSeat_eq]; done) | (simp [hC, List.length_append, List.length_cons, List.length_nil, List.append_nil, List.nil_append, List.cons_append, List.length_set, List.append_assoc, Nat.zero_add, List.length_replicate, esSeat_app, esSeat_cons, esSeat_nil, eSeat_eq]; done) | omega)) : A := h hF hC
def p_slices_IndexFunc_impl_Seat_impl_Seat_tf := PLift.up (And.intro @eSeat_eq (And.intro @esSeat_len (And.intro @esSeat_nil (And.intro @esSeat_leaf (And.intro @esSeat_fit (And.intro @esSeat_share (And.intro @esSeat_pure (And.intro @str_beq (And.intro @Ty.sl71 (And.intro @Ty.slz71 (And.intro @Ty.nz84 (And.intro @Ty.ldA84 (And.intro @Ty.sz84 (And.intro @Ty.szn84 @trivial))))))))))))))
def p_slices_IndexFunc_impl_Seat_impl_Seat (s_a0 : List GSeat) (f_a1 : GSeat → Option Bool) : Option (Int) := ((p_slices_IndexFunc_impl_Seat_impl_Seat_l0 f_a1 s_a0 0).bind fun q_0 => match q_0 with | .ret r_ => some r_ | .out _ => some (-1))
theorem p_slices_IndexFunc_impl_Seat_impl_Seat_does (s_a0 : List GSeat) (f1 : FuncId) (caps1 : List AV) (hc1 : AV.noRefs caps1 = true) (he1 : entB Try.prog f1 = true) (f_a1 : GSeat → Option Bool) (hp1 : ∀ (x0_ : GSeat) (y_ : Bool), f_a1 x0_ = some y_ → Does Try.prog f1 ([.agg (eSeat x0_)] ++ caps1) (B y_)) (r : Int) (h : p_slices_IndexFunc_impl_Seat_impl_Seat s_a0 f_a1 = some r) : Does Try.prog 80 [.row false 3 s_a0.length (esSeat s_a0), .fn f1 caps1] (I r) := by
  rw [p_slices_IndexFunc_impl_Seat_impl_Seat] at h
  refine Does.bnd (fun hb => ?_)
  have hb2 : s_a0.length ≤ 9223372036854775807 := by simpa [AV.fitNs, AV.fitN] using hb
  have hl0 := hb2
  refine Does.walk (nt := 19) Try.func80 rfl rfl (by simp) (by decide) (by simp [AV.noRefs, AV.noRef, hc1]) (fun G0 X w0 pv => ?_)
  have hL_0 : s_a0.length ≤ 9223372036854775807 := by first | assumption | omega
  obtain ⟨q_0, eq_0, h⟩ := Option.bind_eq_some_iff.1 h
  have ff := And.intro @hc1 p_slices_IndexFunc_impl_Seat_impl_Seat_tf.down
  try refine st_by ff ?_
  repeat' (first | exact trivial | refine And.intro sd ?_)
  obtain ⟨I_0, hI_0⟩ : ∃ I_ : (Nat) → ASt → Prop, I_ = (fun (i_0 : Nat) σ => (i_0 ≤ s_a0.length ∧ p_slices_IndexFunc_impl_Seat_impl_Seat_l0 f_a1 (s_a0.drop i_0) i_0 = some q_0) ∧ σ.t 0 = .row false 3 s_a0.length (esSeat s_a0) ∧ σ.t 1 = .fn f1 caps1 ∧ σ.t 7 = I (s_a0.length : Int) ∧ σ.t 8 = I (i_0 : Int)) := ⟨_, rfl⟩
  obtain ⟨M_0, hM_0⟩ : ∃ M_ : (Nat) → Nat, M_ = (fun (i_0 : Nat) => s_a0.length - i_0) := ⟨_, rfl⟩
  obtain ⟨J_0, hJ_0⟩ : ∃ J_ : ASt → Prop, J_ = (fun σ => (some (.out ()) = some q_0) ∧ True) := ⟨_, rfl⟩
  refine aw_loopC (id := 0) I_0 M_0 J_0 (0) ?_ ?_ ?_
  · rw [hI_0]
    refine ⟨⟨Nat.zero_le _, eq_0⟩, ?_⟩
    exact p_slices_IndexFunc_impl_Seat_impl_Seat_pv ff trivial
  · try clear ff
    rintro i_0 σ hg_0
    rw [hI_0] at hg_0
    obtain ⟨⟨hi_0, h_0⟩, g0_0, g1_0, g2_0, g3_0⟩ := hg_0
    cases hr_0 : s_a0.drop i_0 with
    | nil =>
      rw [hr_0] at h_0
      rw [p_slices_IndexFunc_impl_Seat_impl_Seat_l0] at h_0
      have hn_0 := drop_nil hr_0
      have dr_0 : decide ((i_0 : Int) < (s_a0.length : Int)) = false := decide_eq_false (by omega)
      have ff := And.intro @hc1 (And.intro @dr_0 (And.intro @g0_0 (And.intro @g1_0 (And.intro @g2_0 (And.intro @g3_0 p_slices_IndexFunc_impl_Seat_impl_Seat_tf.down)))))
      try refine st_by ff ?_
      repeat' (first | exact trivial | refine And.intro sd ?_)
      refine JW.intro ?_
      rw [hJ_0]
      refine ⟨h_0, ?_⟩
      exact p_slices_IndexFunc_impl_Seat_impl_Seat_pv ff trivial
    | cons x_0 r_0 =>
      rw [hr_0] at h_0
      rw [p_slices_IndexFunc_impl_Seat_impl_Seat_l0] at h_0
      obtain ⟨ht_0, hg_0, hd_0⟩ := drop_cons hr_0
      have dr_0 : decide ((i_0 : Int) < (s_a0.length : Int)) = true := decide_eq_true (by omega)
      have w_0 : IntKind.i64.wrap ((i_0 : Int) + 1) = ((i_0 + 1 : Nat) : Int) := wI _ (by omega) (by omega)
      have kk0c : (esSeat s_a0).drop (i_0 * 3) = eSeat x_0 ++ esSeat (s_a0.drop (i_0 + 1)) := drop_enc (fun _ => rfl) (hg_0)
      obtain ⟨v12, ev12, h_0⟩ := Option.bind_eq_some_iff.1 h_0
      try dsimp only at h_0
      have ff := And.intro @hc1 (And.intro @dr_0 (And.intro @w_0 (And.intro @g0_0 (And.intro @g1_0 (And.intro @g2_0 (And.intro @g3_0 (And.intro @kk0c p_slices_IndexFunc_impl_Seat_impl_Seat_tf.down)))))))
      try refine st_by ff ?_
      repeat' (first | exact trivial | refine And.intro sd ?_)
      first
      | (refine cq_call (hp1 x_0 v12 ev12) (hf_by ff) he1 ⟨p_slices_IndexFunc_impl_Seat_impl_Seat_sa ff trivial, ?_⟩; clear ff)
      by_cases c13 : v12 = true
      · rw [if_pos c13] at h_0
        have dc13 := c13
        cases h_0
        try dsimp only at h
        have ff := And.intro @hc1 (And.intro @dr_0 (And.intro @w_0 (And.intro @g0_0 (And.intro @g1_0 (And.intro @g2_0 (And.intro @g3_0 (And.intro @kk0c (And.intro @dc13 p_slices_IndexFunc_impl_Seat_impl_Seat_tf.down))))))))
        try refine st_by ff ?_
        repeat' (first | exact trivial | refine And.intro sd ?_)
        cases h
        exact ret_q1 rfl (p_slices_IndexFunc_impl_Seat_impl_Seat_rt ff trivial)
      rw [if_neg c13] at h_0
      have dc13 := eq_false_of_ne_true c13
      have ff := And.intro @hc1 (And.intro @dr_0 (And.intro @w_0 (And.intro @g0_0 (And.intro @g1_0 (And.intro @g2_0 (And.intro @g3_0 (And.intro @kk0c (And.intro @dc13 p_slices_IndexFunc_impl_Seat_impl_Seat_tf.down))))))))
      try refine st_by ff ?_
      repeat' (first | exact trivial | refine And.intro sd ?_)
      refine Back.intro (i_0 + 1) ?_ ?_
      · clear ff; rw [hM_0]; show s_a0.length - (i_0 + 1) < s_a0.length - i_0; omega
      rw [hI_0]
      refine ⟨⟨by clear ff; show i_0 + 1 ≤ s_a0.length; omega, by show p_slices_IndexFunc_impl_Seat_impl_Seat_l0 f_a1 (s_a0.drop (i_0 + 1)) (i_0 + 1) = some q_0; rw [hd_0]; exact h_0⟩, ?_⟩
      exact p_slices_IndexFunc_impl_Seat_impl_Seat_pv ff trivial
  · try clear ff
    rintro σ hg_0
    rw [hJ_0] at hg_0
    obtain ⟨hj_0, _⟩ := hg_0
    cases hj_0
    try dsimp only at h
    have ff := And.intro @hc1 p_slices_IndexFunc_impl_Seat_impl_Seat_tf.down
    try refine st_by ff ?_
    repeat' (first | exact trivial | refine And.intro sd ?_)
    cases h
    exact ret_q1 rfl (p_slices_IndexFunc_impl_Seat_impl_Seat_rt ff trivial)
/-! slices.ContainsFunc[[]impl.Seat,impl.Seat] -/
theorem p_slices_ContainsFunc_impl_Seat_impl_Seat_pv {F C A : Prop} (hF : F) (hC : C) (h : F → C → A := by intro hF hC; first | exact cl_by hF | (refine st_by hF ?_; (repeat' (first | exact trivial | apply And.intro)); all_goals (clear hF; first | rfl | (simp only [hC, List.length_append, List.length_cons, List.length_nil, List.append_nil, List.nil_append, List.cons_append, List.length_set, List.append_assoc, Nat.zero_add, List.length_replicate, esSeat_app, esSeat_cons, esSeat_nil, eSeat_eq]; done) | (simp [hC, List.length_append, List.length_cons, List.length_nil, List.append_nil, List.nil_append, List.cons_append, List.length_set, List.append_assoc, Nat.zero_add, List.length_replicate, esSeat_app, esSeat_cons, esSeat_nil, eSeat_eq]; done) | omega))) : A := h hF hC
theorem p_slices_ContainsFunc_impl_Seat_impl_Seat_sa {F C A : Prop} (hF : F) (hC : C) (h : F → C → A := by intro hF hC; first | exact ca_by hF | (refine sa_by hF ?_; (repeat' (first | exact trivial | apply And.intro)); all_goals (clear hF; first | rfl | (simp only [hC, List.length_append, List.length_cons, List.length_nil, List.append_nil, List.nil_append, List.cons_append, List.length_set, List.append_assoc, Nat.zero_add, List.length_replicate, esSeat_app, esSeat_cons, esSeat_nil, eSeat_eq]; done) | (simp [hC, List.length_append, List.length_cons, List.length_nil, List.append_nil, List.nil_append, List.cons_append, List.length_set, List.append_assoc, Nat.zero_add, List.length_replicate, esSeat_app, esSeat_cons, esSeat_nil, eSeat_eq]; done) | omega))) : A := h hF hC
theorem p_slices_ContainsFunc_impl_Seat_impl_Seat_rt {F C A : Prop} (hF : F) (hC : C) (h : F → C → A := by intro hF hC; first | (refine sr_by hF ?_; (repeat' (first | exact trivial | apply And.intro)); all_goals (clear hF; first | rfl | (simp only [hC, List.length_append, List.length_cons, List.length_nil, List.append_nil, List.nil_append, List.cons_append, List.length_set, List.append_assoc, Nat.zero_add, List.length_replicate, esSeat_app, esSeat_cons, esSeat_nil, eSeat_eq]; done) | (simp [hC, List.length_append, List.length_cons, List.length_nil, List.append_nil, List.nil_append, List.cons_append, List.length_set, List.append_assoc, Nat.zero_add, List.length_replicate, esSeat_app, esSeat_cons, esSeat_nil, eSeat_eq]; done) | omega)) | (first | rfl | (simp only [hC, List.length_append, List.length_cons, List.length_nil, List.append_nil, List.nil_append, List.cons_append, List.length_set, List.append_assoc, Nat.zero_add, List.length_replicate, esSeat_app, esSeat_cons, esSeat_nil, eSeat_eq]; done) | (simp [hC, List.length_append, List.length_cons, List.length_nil, List.append_nil, List.nil_append, List.cons_append, List.length_set, List.append_assoc, Nat.zero_add, List.length_replicate, esSeat_app, esSeat_cons, esSeat_nil, eSeat_eq]; done) | omega)) : A := h hF hC
def p_slices_ContainsFunc_impl_Seat_impl_Seat_tf := PLift.up (And.intro @eSeat_eq (And.intro @esSeat_len (And.intro @esSeat_nil (And.intro @esSeat_leaf (And.intro @esSeat_fit (And.intro @esSeat_share (And.intro @esSeat_pure (And.intro @str_beq @trivial))))))))
def p_slices_ContainsFunc_impl_Seat_impl_Seat (s_a0 : List GSeat) (f_a1 : GSeat → Option Bool) : Option (Bool) := ((p_slices_IndexFunc_impl_Seat_impl_Seat s_a0 f_a1).bind fun v1 => some (decide (v1 ≥ 0)))
theorem p_slices_ContainsFunc_impl_Seat_impl_Seat_does (s_a0 : List GSeat) (f1 : FuncId) (caps1 : List AV) (hc1 : AV.noRefs caps1 = true) (he1 : entB Try.prog f1 = true) (f_a1 : GSeat → Option Bool) (hp1 : ∀ (x0_ : GSeat) (y_ : Bool), f_a1 x0_ = some y_ → Does Try.prog f1 ([.agg (eSeat x0_)] ++ caps1) (B y_)) (r : Bool) (h : p_slices_ContainsFunc_impl_Seat_impl_Seat s_a0 f_a1 = some r) : Does Try.prog 73 [.row false 3 s_a0.length (esSeat s_a0), .fn f1 caps1] (B r) := by
  rw [p_slices_ContainsFunc_impl_Seat_impl_Seat] at h
  refine Does.bnd (fun hb => ?_)
  have hb2 : s_a0.length ≤ 9223372036854775807 := by simpa [AV.fitNs, AV.fitN] using hb
  have hl0 := hb2
  refine Does.walk (nt := 9) Try.func73 rfl rfl (by simp) (by decide) (by simp [AV.noRefs, AV.noRef, hc1]) (fun G0 X w0 pv => ?_)
  obtain ⟨v1, ev1, h⟩ := Option.bind_eq_some_iff.1 h
  try dsimp only at h
  have ff := And.intro @hc1 p_slices_ContainsFunc_impl_Seat_impl_Seat_tf.down
  try refine st_by ff ?_
  repeat' (first | exact trivial | refine And.intro sd ?_)
  first
  | (refine cq_call (p_slices_IndexFunc_impl_Seat_impl_Seat_does s_a0 f1 caps1 hc1 he1 f_a1 hp1 v1 ev1) (hf_by ff) kr ⟨p_slices_ContainsFunc_impl_Seat_impl_Seat_sa ff trivial, ?_⟩; clear ff)
  have ff := And.intro @hc1 p_slices_ContainsFunc_impl_Seat_impl_Seat_tf.down
  try refine st_by ff ?_
  repeat' (first | exact trivial | refine And.intro sd ?_)
  cases h
  exact ret_q1 rfl (p_slices_ContainsFunc_impl_Seat_impl_Seat_rt ff trivial)
/-! impl.GoodGame$1 -/
theorem p_impl_GoodGame_1_pv {F C A : Prop} (hF : F) (hC : C) (h : F → C → A := by intro hF hC; first | exact cl_by hF | (refine st_by hF ?_; (repeat' (first | exact trivial | apply And.intro)); all_goals (clear hF; first | rfl | (simp only [hC, List.length_append, List.length_cons, List.length_nil, List.append_nil, List.nil_append, List.cons_append, List.length_set, List.append_assoc, Nat.zero_add, List.length_replicate, esSeat_app, esSeat_cons, esSeat_nil, eSeat_eq]; done) | (simp [hC, List.length_append, List.length_cons, List.length_nil, List.append_nil, List.nil_append, List.cons_append, List.length_set, List.append_assoc, Nat.zero_add, List.length_replicate, esSeat_app, esSeat_cons, esSeat_nil, eSeat_eq]; done) | omega))) : A := h hF hC
theorem p_impl_GoodGame_1_sa {F C A : Prop} (hF : F) (hC : C) (h : F → C → A := by intro hF hC; first | exact ca_by hF | (refine sa_by hF ?_; (repeat' (first | exact trivial | apply And.intro)); all_goals (clear hF; first | rfl | (simp only [hC, List.length_append, List.length_cons, List.length_nil, List.append_nil, List.nil_append, List.cons_append, List.length_set, List.append_assoc, Nat.zero_add, List.length_replicate, esSeat_app, esSeat_cons, esSeat_nil, eSeat_eq]; done) | (simp [hC, List.length_append, List.length_cons, List.length_nil, List.append_nil, List.nil_append, List.cons_append, List.length_set, List.append_assoc, Nat.zero_add, List.length_replicate, esSeat_app, esSeat_cons, esSeat_nil, eSeat_eq]; done) | omega))) : A := h hF hC
theorem p_impl_GoodGame_1_rt {F C A : Prop} (hF : F) (hC : C) (h : F → C → A := by intro hF hC; first | (refine sr_by hF ?_; (repeat' (first | exact trivial | apply And.intro)); all_goals (clear hF; first | rfl | (simp only [hC, List.length_append, List.length_cons, List.length_nil, List.append_nil, List.nil_append, List.cons_append, List.length_set, List.append_assoc, Nat.zero_add, List.length_replicate, esSeat_app, esSeat_cons, esSeat_nil, eSeat_eq]; done) | (simp [hC, List.length_append, List.length_cons, List.length_nil, List.append_nil, List.nil_append, List.cons_append, List.length_set, List.append_assoc, Nat.zero_add, List.length_replicate, esSeat_app, esSeat_cons, esSeat_nil, eSeat_eq]; done) | omega)) | (first | rfl | (simp only [hC, List.length_append, List.length_cons, List.length_nil, List.append_nil, List.nil_append, List.cons_append, List.length_set, List.append_assoc, Nat.zero_add, List.length_replicate, esSeat_app, esSeat_cons, esSeat_nil, eSeat_eq]; done) | (simp [hC, List.length_append, List.length_cons, List.length_nil, List.append_nil, List.nil_append, List.cons_append, List.length_set, List.append_assoc, Nat.zero_add, List.length_replicate, esSeat_app, esSeat_cons, esSeat_nil, eSeat_eq]; done) | omega)) : A := h hF hC
def p_impl_GoodGame_1_tf := PLift.up (And.intro @eSeat_eq (And.intro @esSeat_len (And.intro @esSeat_nil (And.intro @esSeat_leaf (And.intro @esSeat_fit (And.intro @esSeat_share (And.intro @esSeat_pure (And.intro @str_beq (And.intro @Ty.nz3 (And.intro @Ty.ldA3 (And.intro @Ty.ldS3 (And.intro @Ty.sz3 (And.intro @Ty.szn3 (And.intro @Ty.fo84_0 (And.intro @Ty.fk84_0 (And.intro @Ty.fs84_0 (And.intro @Ty.fn84_0 (And.intro @Ty.fo84_1 (And.intro @Ty.fk84_1 (And.intro @Ty.fs84_1 (And.intro @Ty.fn84_1 (And.intro @Ty.fo84_2 (And.intro @Ty.fk84_2 (And.intro @Ty.fs84_2 (And.intro @Ty.fn84_2 @trivial)))))))))))))))))))))))))
def p_impl_GoodGame_1 (s_a0 : GSeat) : Option (Bool) := (if (rng s_a0.X 0 63) = true then (if (rng s_a0.Y 0 63) = true then some (!(rng s_a0.Hp 0 9)) else some true) else some true)
theorem p_impl_GoodGame_1_does (s_a0 : GSeat) (r : Bool) (h : p_impl_GoodGame_1 s_a0 = some r) : Does Try.prog 74 [.agg (eSeat s_a0)] (B r) := by
  rw [p_impl_GoodGame_1] at h
  refine Does.walk (nt := 19) Try.func74 rfl rfl (by simp) (by decide) rfl (fun G0 X w0 pv => ?_)
  have ff := p_impl_GoodGame_1_tf.down
  try refine st_by ff ?_
  repeat' (first | exact trivial | refine And.intro sd ?_)
  first
  | (refine cq_call (inRange_does s_a0.X 0 63) (hf_by ff) kr ⟨p_impl_GoodGame_1_sa ff trivial, ?_⟩; clear ff)
  by_cases c1 : (rng s_a0.X 0 63) = true
  case neg =>
   rw [if_neg c1] at h
   have dc1 := eq_false_of_ne_true c1
   have ff := And.intro @dc1 p_impl_GoodGame_1_tf.down
   try refine st_by ff ?_
   repeat' (first | exact trivial | refine And.intro sd ?_)
   cases h
   exact ret_q1 rfl (p_impl_GoodGame_1_rt ff trivial)
  rw [if_pos c1] at h
  have dc1 := c1
  have ff := And.intro @dc1 p_impl_GoodGame_1_tf.down
  try refine st_by ff ?_
  repeat' (first | exact trivial | refine And.intro sd ?_)
  first
  | (refine cq_call (inRange_does s_a0.Y 0 63) (hf_by ff) kr ⟨p_impl_GoodGame_1_sa ff trivial, ?_⟩; clear ff)
  by_cases c2 : (rng s_a0.Y 0 63) = true
  case neg =>
   rw [if_neg c2] at h
   have dc2 := eq_false_of_ne_true c2
   have ff := And.intro @dc1 (And.intro @dc2 p_impl_GoodGame_1_tf.down)
   try refine st_by ff ?_
   repeat' (first | exact trivial | refine And.intro sd ?_)
   cases h
   exact ret_q1 rfl (p_impl_GoodGame_1_rt ff trivial)
  rw [if_pos c2] at h
  have dc2 := c2
  have ff := And.intro @dc1 (And.intro @dc2 p_impl_GoodGame_1_tf.down)
  try refine st_by ff ?_
  repeat' (first | exact trivial | refine And.intro sd ?_)
  first
  | (refine cq_call (inRange_does s_a0.Hp 0 9) (hf_by ff) kr ⟨p_impl_GoodGame_1_sa ff trivial, ?_⟩; clear ff)
  have ff := And.intro @dc1 (And.intro @dc2 p_impl_GoodGame_1_tf.down)
  try refine st_by ff ?_
  repeat' (first | exact trivial | refine And.intro sd ?_)
  cases h
  exact ret_q1 rfl (p_impl_GoodGame_1_rt ff trivial)
/-! impl.GoodGame -/
theorem p_impl_GoodGame_pv {F C A : Prop} (hF : F) (hC : C) (h : F → C → A := by intro hF hC; first | exact cl_by hF | (refine st_by hF ?_; (repeat' (first | exact trivial | apply And.intro)); all_goals (clear hF; first | rfl | (simp only [hC, List.length_append, List.length_cons, List.length_nil, List.append_nil, List.nil_append, List.cons_append, List.length_set, List.append_assoc, Nat.zero_add, List.length_replicate, esGame_app, esGame_cons, esGame_nil, eGame_eq, esGameo_app, esGameo_cons, esGameo_nil, eGameo_eq, esSeat_app, esSeat_cons, esSeat_nil, eSeat_eq]; done) | (simp [hC, List.length_append, List.length_cons, List.length_nil, List.append_nil, List.nil_append, List.cons_append, List.length_set, List.append_assoc, Nat.zero_add, List.length_replicate, esGame_app, esGame_cons, esGame_nil, eGame_eq, esGameo_app, esGameo_cons, esGameo_nil, eGameo_eq, esSeat_app, esSeat_cons, esSeat_nil, eSeat_eq]; done) | omega))) : A := h hF hC
theorem p_impl_GoodGame_sa {F C A : Prop} (hF : F) (hC : C) (h : F → C → A := by intro hF hC; first | exact ca_by hF | (refine sa_by hF ?_; (repeat' (first | exact trivial | apply And.intro)); all_goals (clear hF; first | rfl | (simp only [hC, List.length_append, List.length_cons, List.length_nil, List.append_nil, List.nil_append, List.cons_append, List.length_set, List.append_assoc, Nat.zero_add, List.length_replicate, esGame_app, esGame_cons, esGame_nil, eGame_eq, esGameo_app, esGameo_cons, esGameo_nil, eGameo_eq, esSeat_app, esSeat_cons, esSeat_nil, eSeat_eq]; done) | (simp [hC, List.length_append, List.length_cons, List.length_nil, List.append_nil, List.nil_append, List.cons_append, List.length_set, List.append_assoc, Nat.zero_add, List.length_replicate, esGame_app, esGame_cons, esGame_nil, eGame_eq, esGameo_app, esGameo_cons, esGameo_nil, eGameo_eq, esSeat_app, esSeat_cons, esSeat_nil, eSeat_eq]; done) | omega))) : A := h hF hC
theorem p_impl_GoodGame_rt {F C A : Prop} (hF : F) (hC : C) (h : F → C → A := by intro hF hC; first | (refine sr_by hF ?_; (repeat' (first | exact trivial | apply And.intro)); all_goals (clear hF; first | rfl | (simp only [hC, List.length_append, List.length_cons, List.length_nil, List.append_nil, List.nil_append, List.cons_append, List.length_set, List.append_assoc, Nat.zero_add, List.length_replicate, esGame_app, esGame_cons, esGame_nil, eGame_eq, esGameo_app, esGameo_cons, esGameo_nil, eGameo_eq, esSeat_app, esSeat_cons, esSeat_nil, eSeat_eq]; done) | (simp [hC, List.length_append, List.length_cons, List.length_nil, List.append_nil, List.nil_append, List.cons_append, List.length_set, List.append_assoc, Nat.zero_add, List.length_replicate, esGame_app, esGame_cons, esGame_nil, eGame_eq, esGameo_app, esGameo_cons, esGameo_nil, eGameo_eq, esSeat_app, esSeat_cons, esSeat_nil, eSeat_eq]; done) | omega)) | (first | rfl | (simp only [hC, List.length_append, List.length_cons, List.length_nil, List.append_nil, List.nil_append, List.cons_append, List.length_set, List.append_assoc, Nat.zero_add, List.length_replicate, esGame_app, esGame_cons, esGame_nil, eGame_eq, esGameo_app, esGameo_cons, esGameo_nil, eGameo_eq, esSeat_app, esSeat_cons, esSeat_nil, eSeat_eq]; done) | (simp [hC, List.length_append, List.length_cons, List.length_nil, List.append_nil, List.nil_append, List.cons_append, List.length_set, List.append_assoc, Nat.zero_add, List.length_replicate, esGame_app, esGame_cons, esGame_nil, eGame_eq, esGameo_app, esGameo_cons, esGameo_nil, eGameo_eq, esSeat_app, esSeat_cons, esSeat_nil, eSeat_eq]; done) | omega)) : A := h hF hC
def p_impl_GoodGame_tf := PLift.up (And.intro @eGame_eq (And.intro @esGame_len (And.intro @esGame_nil (And.intro @esGame_leaf (And.intro @esGame_fit (And.intro @eGameo_eq (And.intro @esGameo_len (And.intro @esGameo_nil (And.intro @eSeat_eq (And.intro @esSeat_len (And.intro @esSeat_nil (And.intro @esSeat_leaf (And.intro @esSeat_fit (And.intro @esGameo_share (And.intro @esGameo_pure (And.intro @esSeat_share (And.intro @esSeat_pure (And.intro @str_beq (And.intro @Ty.nz3 (And.intro @Ty.ldA3 (And.intro @Ty.ldS3 (And.intro @Ty.sz3 (And.intro @Ty.szn3 (And.intro @Ty.nz71 (And.intro @Ty.ldA71 (And.intro @Ty.ldS71 (And.intro @Ty.sz71 (And.intro @Ty.szn71 (And.intro @Ty.fo73_0 (And.intro @Ty.fk73_0 (And.intro @Ty.fs73_0 (And.intro @Ty.fn73_0 (And.intro @Ty.fo73_1 (And.intro @Ty.fk73_1 (And.intro @Ty.fs73_1 (And.intro @Ty.fn73_1 (And.intro @Ty.fo73_2 (And.intro @Ty.fk73_2 (And.intro @Ty.fs73_2 (And.intro @Ty.fn73_2 (And.intro @Ty.sl71 @trivial)))))))))))))))))))))))))))))))))))))))))
def p_impl_GoodGame (g_a0 : GGame) : Option (Bool) := (if (rng g_a0.Frame 0 60) = true then ((p_impl_isSeed g_a0.Coin).bind fun v2 => (if v2 = true then (if (rng (g_a0.Seats.length : Int) 1 4) = true then ((p_slices_ContainsFunc_impl_Seat_impl_Seat g_a0.Seats (fun x0_ => p_impl_GoodGame_1 x0_)).bind fun v5 => some (!v5)) else some false) else some false)) else some false)
theorem p_impl_GoodGame_does (g_a0 : GGame) (r : Bool) (h : p_impl_GoodGame g_a0 = some r) : Does Try.prog 70 [.agg (eGame g_a0)] (B r) := by
  rw [p_impl_GoodGame] at h
  refine Does.bnd (fun hb => ?_)
  have hb2 : g_a0.Seats.length ≤ 9223372036854775807 := by simpa [AV.fitNs, AV.fitN, eGame] using hb
  have hl0 := hb2
  refine Does.walk (nt := 23) Try.func70 rfl rfl (by simp) (by decide) rfl (fun G0 X w0 pv => ?_)
  have ff := p_impl_GoodGame_tf.down
  try refine st_by ff ?_
  repeat' (first | exact trivial | refine And.intro sd ?_)
  first
  | (refine cq_call (inRange_does g_a0.Frame 0 60) (hf_by ff) kr ⟨p_impl_GoodGame_sa ff trivial, ?_⟩; clear ff)
  by_cases c1 : (rng g_a0.Frame 0 60) = true
  case neg =>
   rw [if_neg c1] at h
   have dc1 := eq_false_of_ne_true c1
   have ff := And.intro @dc1 p_impl_GoodGame_tf.down
   try refine st_by ff ?_
   repeat' (first | exact trivial | refine And.intro sd ?_)
   cases h
   exact ret_q1 rfl (p_impl_GoodGame_rt ff trivial)
  rw [if_pos c1] at h
  have dc1 := c1
  obtain ⟨v2, ev2, h⟩ := Option.bind_eq_some_iff.1 h
  try dsimp only at h
  have ff := And.intro @dc1 p_impl_GoodGame_tf.down
  try refine st_by ff ?_
  repeat' (first | exact trivial | refine And.intro sd ?_)
  first
  | (refine cq_call (p_impl_isSeed_does g_a0.Coin v2 ev2) (hf_by ff) kr ⟨p_impl_GoodGame_sa ff trivial, ?_⟩; clear ff)
  by_cases c3 : v2 = true
  case neg =>
   rw [if_neg c3] at h
   have dc3 := eq_false_of_ne_true c3
   have ff := And.intro @dc1 (And.intro @dc3 p_impl_GoodGame_tf.down)
   try refine st_by ff ?_
   repeat' (first | exact trivial | refine And.intro sd ?_)
   cases h
   exact ret_q1 rfl (p_impl_GoodGame_rt ff trivial)
  rw [if_pos c3] at h
  have dc3 := c3
  have ff := And.intro @dc1 (And.intro @dc3 p_impl_GoodGame_tf.down)
  try refine st_by ff ?_
  repeat' (first | exact trivial | refine And.intro sd ?_)
  first
  | (refine cq_call (inRange_does (g_a0.Seats.length : Int) 1 4) (hf_by ff) kr ⟨p_impl_GoodGame_sa ff trivial, ?_⟩; clear ff)
  by_cases c4 : (rng (g_a0.Seats.length : Int) 1 4) = true
  case neg =>
   rw [if_neg c4] at h
   have dc4 := eq_false_of_ne_true c4
   have ff := And.intro @dc1 (And.intro @dc3 (And.intro @dc4 p_impl_GoodGame_tf.down))
   try refine st_by ff ?_
   repeat' (first | exact trivial | refine And.intro sd ?_)
   cases h
   exact ret_q1 rfl (p_impl_GoodGame_rt ff trivial)
  rw [if_pos c4] at h
  have dc4 := c4
  obtain ⟨v5, ev5, h⟩ := Option.bind_eq_some_iff.1 h
  try dsimp only at h
  have ff := And.intro @dc1 (And.intro @dc3 (And.intro @dc4 p_impl_GoodGame_tf.down))
  try refine st_by ff ?_
  repeat' (first | exact trivial | refine And.intro sd ?_)
  first
  | (refine cq_call (p_slices_ContainsFunc_impl_Seat_impl_Seat_does g_a0.Seats 74 [] (by simp [AV.noRefs, AV.noRef]) kr (fun x0_ => p_impl_GoodGame_1 x0_) (fun x0_ y_ h_ => p_impl_GoodGame_1_does x0_ y_ h_) v5 ev5) (hf_by ff) kr ⟨p_impl_GoodGame_sa ff trivial, ?_⟩; clear ff)
  have ff := And.intro @dc1 (And.intro @dc3 (And.intro @dc4 p_impl_GoodGame_tf.down))
  try refine st_by ff ?_
  repeat' (first | exact trivial | refine And.intro sd ?_)
  cases h
  exact ret_q1 rfl (p_impl_GoodGame_rt ff trivial)
/-! slices.IndexFunc[[]int,int] -/
def p_slices_IndexFunc_int_int_l0 (f_a1 : Int → Option Bool) : List Int → Nat → Option (LR (Int) (Unit))
  | [], i_0 => some (.out ())
  | x_0 :: r_0, i_0 => ((f_a1 x_0).bind fun v12 => (if v12 = true then some (.ret (i_0 : Int)) else p_slices_IndexFunc_int_int_l0 f_a1 r_0 (i_0 + 1)))
theorem p_slices_IndexFunc_int_int_pv {F C A : Prop} (hF : F) (hC : C) (h : F → C → A := by intro hF hC; first | exact cl_by hF | (refine st_by hF ?_; (repeat' (first | exact trivial | apply And.intro)); all_goals (clear hF; first | rfl | (simp only [hC, List.length_append, List.length_cons, List.length_nil, List.append_nil, List.nil_append, List.cons_append, List.length_set, List.append_assoc, Nat.zero_add, List.length_replicate, esInt_app, esInt_cons, esInt_nil, eInt_eq]; done) | (simp [hC, List.length_append, List.length_cons, List.length_nil, List.append_nil, List.nil_append, List.cons_append, List.length_set, List.append_assoc, Nat.zero_add, List.length_replicate, esInt_app, esInt_cons, esInt_nil, eInt_eq]; done) | omega))) : A := h hF hC
theorem p_slices_IndexFunc_int_int_sa {F C A : Prop} (hF : F) (hC : C) (h : F → C → A := by intro hF hC; first | exact ca_by hF | (refine sa_by hF ?_; (repeat' (first | exact trivial | apply And.intro)); all_goals (clear hF; first | rfl | (simp only [hC, List.length_append, List.length_cons, List.length_nil, List.append_nil, List.nil_append, List.cons_append, List.length_set, List.append_assoc, Nat.zero_add, List.length_replicate, esInt_app, esInt_cons, esInt_nil, eInt_eq]; done) | (simp [hC, List.length_append, List.length_cons, List.length_nil, List.append_nil, List.nil_append, List.cons_append, List.length_set, List.append_assoc, Nat.zero_add, List.length_replicate, esInt_app, esInt_cons, esInt_nil, eInt_eq]; done) | omega))) : A := h hF hC
theorem p_slices_IndexFunc_int_int_rt {F C A : Prop} (hF : F) (hC : C) (h : F → C → A := by intro hF hC; first | (refine sr_by hF ?_; (repeat' (first | exact trivial | apply And.intro)); all_goals (clear hF; first | rfl | (simp only [hC, List.length_append, List.length_cons, List.length_nil, List.append_nil, List.nil_append, List.cons_append, List.length_set, List.append_assoc, Nat.zero_add, List.length_replicate, esInt_app, esInt_cons, esInt_nil, eInt_eq]; done) | (simp [hC, List.length_append, List.length_cons, List.length_nil, List.append_nil, List.nil_append, List.cons_append, List.length_set, List.append_assoc, Nat.zero_add, List.length_replicate, esInt_app, esInt_cons, esInt_nil, eInt_eq]; done) | omega)) | (first | rfl | (simp only [hC, List.length_append, List.length_cons, List.length_nil, List.append_nil, List.nil_append, List.cons_append, List.length_set, List.append_assoc, Nat.zero_add, List.length_replicate, esInt_app, esInt_cons, esInt_nil, eInt_eq]; done) | (simp [hC, List.length_append, List.length_cons, List.length_nil, List.append_nil, List.nil_append, List.cons_append, List.length_set, List.append_assoc, Nat.zero_add, List.length_replicate, esInt_app, esInt_cons, esInt_nil, eInt_eq]; done) | omega)) : A := h hF hC
def p_slices_IndexFunc_int_int_tf := PLift.up (And.intro @eInt_eq (And.intro @esInt_len (And.intro @esInt_nil (And.intro @esInt_leaf (And.intro @esInt_fit (And.intro @esInt_share (And.intro @esInt_pure (And.intro @str_beq (And.intro @Ty.sl35 (And.intro @Ty.slz35 (And.intro @Ty.nz3 (And.intro @Ty.ldA3 (And.intro @Ty.ldS3 (And.intro @Ty.sz3 (And.intro @Ty.szn3 @trivial)))))))))))))))
def p_slices_IndexFunc_int_int (s_a0 : List Int) (f_a1 : Int → Option Bool) : Option (Int) := ((p_slices_IndexFunc_int_int_l0 f_a1 s_a0 0).bind fun q_0 => match q_0 with | .ret r_ => some r_ | .out _ => some (-1))
theorem p_slices_IndexFunc_int_int_does (s_a0 : List Int) (f1 : FuncId) (caps1 : List AV) (hc1 : AV.noRefs caps1 = true) (he1 : entB Try.prog f1 = true) (f_a1 : Int → Option Bool) (hp1 : ∀ (x0_ : Int) (y_ : Bool), f_a1 x0_ = some y_ → Does Try.prog f1 ([I x0_] ++ caps1) (B y_)) (r : Int) (h : p_slices_IndexFunc_int_int s_a0 f_a1 = some r) : Does Try.prog 81 [.row false 1 s_a0.length (esInt s_a0), .fn f1 caps1] (I r) := by
  rw [p_slices_IndexFunc_int_int] at h
  refine Does.bnd (fun hb => ?_)
  have hb2 : s_a0.length ≤ 9223372036854775807 := by simpa [AV.fitNs, AV.fitN] using hb
  have hl0 := hb2
  refine Does.walk (nt := 19) Try.func81 rfl rfl (by simp) (by decide) (by simp [AV.noRefs, AV.noRef, hc1]) (fun G0 X w0 pv => ?_)
  have hL_0 : s_a0.length ≤ 9223372036854775807 := by first | assumption | omega
  obtain ⟨q_0, eq_0, h⟩ := Option.bind_eq_some_iff.1 h
  have ff := And.intro @hc1 p_slices_IndexFunc_int_int_tf.down
  try refine st_by ff ?_
  repeat' (first | exact trivial | refine And.intro sd ?_)
  obtain ⟨I_0, hI_0⟩ : ∃ I_ : (Nat) → ASt → Prop, I_ = (fun (i_0 : Nat) σ => (i_0 ≤ s_a0.length ∧ p_slices_IndexFunc_int_int_l0 f_a1 (s_a0.drop i_0) i_0 = some q_0) ∧ σ.t 0 = .row false 1 s_a0.length (esInt s_a0) ∧ σ.t 1 = .fn f1 caps1 ∧ σ.t 7 = I (s_a0.length : Int) ∧ σ.t 8 = I (i_0 : Int)) := ⟨_, rfl⟩
  obtain ⟨M_0, hM_0⟩ : ∃ M_ : (Nat) → Nat, M_ = (fun (i_0 : Nat) => s_a0.length - i_0) := ⟨_, rfl⟩
  obtain ⟨J_0, hJ_0⟩ : ∃ J_ : ASt → Prop, J_ = (fun σ => (some (.out ()) = some q_0) ∧ True) := ⟨_, rfl⟩
  refine aw_loopC (id := 0) I_0 M_0 J_0 (0) ?_ ?_ ?_
  · rw [hI_0]
    refine ⟨⟨Nat.zero_le _, eq_0⟩, ?_⟩
    exact p_slices_IndexFunc_int_int_pv ff trivial
  · try clear ff
    rintro i_0 σ hg_0
    rw [hI_0] at hg_0
    obtain ⟨⟨hi_0, h_0⟩, g0_0, g1_0, g2_0, g3_0⟩ := hg_0
    cases hr_0 : s_a0.drop i_0 with
    | nil =>
      rw [hr_0] at h_0
      rw [p_slices_IndexFunc_int_int_l0] at h_0
      have hn_0 := drop_nil hr_0
      have dr_0 : decide ((i_0 : Int) < (s_a0.length : Int)) = false := decide_eq_false (by omega)
      have ff := And.intro @hc1 (And.intro @dr_0 (And.intro @g0_0 (And.intro @g1_0 (And.intro @g2_0 (And.intro @g3_0 p_slices_IndexFunc_int_int_tf.down)))))
      try refine st_by ff ?_
      repeat' (first | exact trivial | refine And.intro sd ?_)
      refine JW.intro ?_
      rw [hJ_0]
      refine ⟨h_0, ?_⟩
      exact p_slices_IndexFunc_int_int_pv ff trivial
    | cons x_0 r_0 =>
      rw [hr_0] at h_0
      rw [p_slices_IndexFunc_int_int_l0] at h_0
      obtain ⟨ht_0, hg_0, hd_0⟩ := drop_cons hr_0
      have dr_0 : decide ((i_0 : Int) < (s_a0.length : Int)) = true := decide_eq_true (by omega)
      have w_0 : IntKind.i64.wrap ((i_0 : Int) + 1) = ((i_0 + 1 : Nat) : Int) := wI _ (by omega) (by omega)
      have kk0c : (esInt s_a0).drop (i_0 * 1) = eInt x_0 ++ esInt (s_a0.drop (i_0 + 1)) := drop_enc (fun _ => rfl) (hg_0)
      have kk0d := kk0c
      rw [Nat.mul_one] at kk0d
      obtain ⟨v12, ev12, h_0⟩ := Option.bind_eq_some_iff.1 h_0
      try dsimp only at h_0
      have ff := And.intro @hc1 (And.intro @dr_0 (And.intro @w_0 (And.intro @g0_0 (And.intro @g1_0 (And.intro @g2_0 (And.intro @g3_0 (And.intro @kk0c (And.intro @kk0d p_slices_IndexFunc_int_int_tf.down))))))))
      try refine st_by ff ?_
      repeat' (first | exact trivial | refine And.intro sd ?_)
      first
      | (refine cq_call (hp1 x_0 v12 ev12) (hf_by ff) he1 ⟨p_slices_IndexFunc_int_int_sa ff trivial, ?_⟩; clear ff)
      by_cases c13 : v12 = true
      · rw [if_pos c13] at h_0
        have dc13 := c13
        cases h_0
        try dsimp only at h
        have ff := And.intro @hc1 (And.intro @dr_0 (And.intro @w_0 (And.intro @g0_0 (And.intro @g1_0 (And.intro @g2_0 (And.intro @g3_0 (And.intro @kk0c (And.intro @kk0d (And.intro @dc13 p_slices_IndexFunc_int_int_tf.down)))))))))
        try refine st_by ff ?_
        repeat' (first | exact trivial | refine And.intro sd ?_)
        cases h
        exact ret_q1 rfl (p_slices_IndexFunc_int_int_rt ff trivial)
      rw [if_neg c13] at h_0
      have dc13 := eq_false_of_ne_true c13
      have ff := And.intro @hc1 (And.intro @dr_0 (And.intro @w_0 (And.intro @g0_0 (And.intro @g1_0 (And.intro @g2_0 (And.intro @g3_0 (And.intro @kk0c (And.intro @kk0d (And.intro @dc13 p_slices_IndexFunc_int_int_tf.down)))))))))
      try refine st_by ff ?_
      repeat' (first | exact trivial | refine And.intro sd ?_)
      refine Back.intro (i_0 + 1) ?_ ?_
      · clear ff; rw [hM_0]; show s_a0.length - (i_0 + 1) < s_a0.length - i_0; omega
      rw [hI_0]
      refine ⟨⟨by clear ff; show i_0 + 1 ≤ s_a0.length; omega, by show p_slices_IndexFunc_int_int_l0 f_a1 (s_a0.drop (i_0 + 1)) (i_0 + 1) = some q_0; rw [hd_0]; exact h_0⟩, ?_⟩
      exact p_slices_IndexFunc_int_int_pv ff trivial
  · try clear ff
    rintro σ hg_0
    rw [hJ_0] at hg_0
    obtain ⟨hj_0, _⟩ := hg_0
    cases hj_0
    try dsimp only at h
    have ff := And.intro @hc1 p_slices_IndexFunc_int_int_tf.down
    try refine st_by ff ?_
    repeat' (first | exact trivial | refine And.intro sd ?_)
    cases h
    exact ret_q1 rfl (p_slices_IndexFunc_int_int_rt ff trivial)
/-! slices.ContainsFunc[[]int,int] -/
theorem p_slices_ContainsFunc_int_int_pv {F C A : Prop} (hF : F) (hC : C) (h : F → C → A := by intro hF hC; first | exact cl_by hF | (refine st_by hF ?_; (repeat' (first | exact trivial | apply And.intro)); all_goals (clear hF; first | rfl | (simp only [hC, List.length_append, List.length_cons, List.length_nil, List.append_nil, List.nil_append, List.cons_append, List.length_set, List.append_assoc, Nat.zero_add, List.length_replicate, esInt_app, esInt_cons, esInt_nil, eInt_eq]; done) | (simp [hC, List.length_append, List.length_cons, List.length_nil, List.append_nil, List.nil_append, List.cons_append, List.length_set, List.append_assoc, Nat.zero_add, List.length_replicate, esInt_app, esInt_cons, esInt_nil, eInt_eq]; done) | omega))) : A := h hF hC
theorem p_slices_ContainsFunc_int_int_sa {F C A : Prop} (hF : F) (hC : C) (h : F → C → A := by intro hF hC; first | exact ca_by hF | (refine sa_by hF ?_; (repeat' (first | exact trivial | apply And.intro)); all_goals (clear hF; first | rfl | (simp only [hC, List.length_append, List.length_cons, List.length_nil, List.append_nil, List.nil_append, List.cons_append, List.length_set, List.append_assoc, Nat.zero_add, List.length_replicate, esInt_app, esInt_cons, esInt_nil, eInt_eq]; done) | (simp [hC, List.length_append, List.length_cons, List.length_nil, List.append_nil, List.nil_append, List.cons_append, List.length_set, List.append_assoc, Nat.zero_add, List.length_replicate, esInt_app, esInt_cons, esInt_nil, eInt_eq]; done) | omega))) : A := h hF hC
theorem p_slices_ContainsFunc_int_int_rt {F C A : Prop} (hF : F) (hC : C) (h : F → C → A := by intro hF hC; first | (refine sr_by hF ?_; (repeat' (first | exact trivial | apply And.intro)); all_goals (clear hF; first | rfl | (simp only [hC, List.length_append, List.length_cons, List.length_nil, List.append_nil, List.nil_append, List.cons_append, List.length_set, List.append_assoc, Nat.zero_add, List.length_replicate, esInt_app, esInt_cons, esInt_nil, eInt_eq]; done) | (simp [hC, List.length_append, List.length_cons, List.length_nil, List.append_nil, List.nil_append, List.cons_append, List.length_set, List.append_assoc, Nat.zero_add, List.length_replicate, esInt_app, esInt_cons, esInt_nil, eInt_eq]; done) | omega)) | (first | rfl | (simp only [hC, List.length_append, List.length_cons, List.length_nil, List.append_nil, List.nil_append, List.cons_append, List.length_set, List.append_assoc, Nat.zero_add, List.length_replicate, esInt_app, esInt_cons, esInt_nil, eInt_eq]; done) | (simp [hC, List.length_append, List.length_cons, List.length_nil, List.append_nil, List.nil_append, List.cons_append, List.length_set, List.append_assoc, Nat.zero_add, List.length_replicate, esInt_app, esInt_cons, esInt_nil, eInt_eq]; done) | omega)) : A := h hF hC
def p_slices_ContainsFunc_int_int_tf := PLift.up (And.intro @eInt_eq (And.intro @esInt_len (And.intro @esInt_nil (And.intro @esInt_leaf (And.intro @esInt_fit (And.intro @esInt_share (And.intro @esInt_pure (And.intro @str_beq @trivial))))))))
def p_slices_ContainsFunc_int_int (s_a0 : List Int) (f_a1 : Int → Option Bool) : Option (Bool) := ((p_slices_IndexFunc_int_int s_a0 f_a1).bind fun v1 => some (decide (v1 ≥ 0)))
theorem p_slices_ContainsFunc_int_int_does (s_a0 : List Int) (f1 : FuncId) (caps1 : List AV) (hc1 : AV.noRefs caps1 = true) (he1 : entB Try.prog f1 = true) (f_a1 : Int → Option Bool) (hp1 : ∀ (x0_ : Int) (y_ : Bool), f_a1 x0_ = some y_ → Does Try.prog f1 ([I x0_] ++ caps1) (B y_)) (r : Bool) (h : p_slices_ContainsFunc_int_int s_a0 f_a1 = some r) : Does Try.prog 75 [.row false 1 s_a0.length (esInt s_a0), .fn f1 caps1] (B r) := by
  rw [p_slices_ContainsFunc_int_int] at h
  refine Does.bnd (fun hb => ?_)
  have hb2 : s_a0.length ≤ 9223372036854775807 := by simpa [AV.fitNs, AV.fitN] using hb
  have hl0 := hb2
  refine Does.walk (nt := 9) Try.func75 rfl rfl (by simp) (by decide) (by simp [AV.noRefs, AV.noRef, hc1]) (fun G0 X w0 pv => ?_)
  obtain ⟨v1, ev1, h⟩ := Option.bind_eq_some_iff.1 h
  try dsimp only at h
  have ff := And.intro @hc1 p_slices_ContainsFunc_int_int_tf.down
  try refine st_by ff ?_
  repeat' (first | exact trivial | refine And.intro sd ?_)
  first
  | (refine cq_call (p_slices_IndexFunc_int_int_does s_a0 f1 caps1 hc1 he1 f_a1 hp1 v1 ev1) (hf_by ff) kr ⟨p_slices_ContainsFunc_int_int_sa ff trivial, ?_⟩; clear ff)
  have ff := And.intro @hc1 p_slices_ContainsFunc_int_int_tf.down
  try refine st_by ff ?_
  repeat' (first | exact trivial | refine And.intro sd ?_)
  cases h
  exact ret_q1 rfl (p_slices_ContainsFunc_int_int_rt ff trivial)
/-! impl.areInputs$1 -/
theorem p_impl_areInputs_1_pv {F C A : Prop} (hF : F) (hC : C) (h : F → C → A := by intro hF hC; first | exact cl_by hF | (refine st_by hF ?_; (repeat' (first | exact trivial | apply And.intro)); all_goals (clear hF; first | rfl | (simp only [hC, List.length_append, List.length_cons, List.length_nil, List.append_nil, List.nil_append, List.cons_append, List.length_set, List.append_assoc, Nat.zero_add, List.length_replicate]; done) | (simp [hC, List.length_append, List.length_cons, List.length_nil, List.append_nil, List.nil_append, List.cons_append, List.length_set, List.append_assoc, Nat.zero_add, List.length_replicate]; done) | omega))) : A := h hF hC
theorem p_impl_areInputs_1_sa {F C A : Prop} (hF : F) (hC : C) (h : F → C → A := by intro hF hC; first | exact ca_by hF | (refine sa_by hF ?_; (repeat' (first | exact trivial | apply And.intro)); all_goals (clear hF; first | rfl | (simp only [hC, List.length_append, List.length_cons, List.length_nil, List.append_nil, List.nil_append, List.cons_append, List.length_set, List.append_assoc, Nat.zero_add, List.length_replicate]; done) | (simp [hC, List.length_append, List.length_cons, List.length_nil, List.append_nil, List.nil_append, List.cons_append, List.length_set, List.append_assoc, Nat.zero_add, List.length_replicate]; done) | omega))) : A := h hF hC
theorem p_impl_areInputs_1_rt {F C A : Prop} (hF : F) (hC : C) (h : F → C → A := by intro hF hC; first | (refine sr_by hF ?_; (repeat' (first | exact trivial | apply And.intro)); all_goals (clear hF; first | rfl | (simp only [hC, List.length_append, List.length_cons, List.length_nil, List.append_nil, List.nil_append, List.cons_append, List.length_set, List.append_assoc, Nat.zero_add, List.length_replicate]; done) | (simp [hC, List.length_append, List.length_cons, List.length_nil, List.append_nil, List.nil_append, List.cons_append, List.length_set, List.append_assoc, Nat.zero_add, List.length_replicate]; done) | omega)) | (first | rfl | (simp only [hC, List.length_append, List.length_cons, List.length_nil, List.append_nil, List.nil_append, List.cons_append, List.length_set, List.append_assoc, Nat.zero_add, List.length_replicate]; done) | (simp [hC, List.length_append, List.length_cons, List.length_nil, List.append_nil, List.nil_append, List.cons_append, List.length_set, List.append_assoc, Nat.zero_add, List.length_replicate]; done) | omega)) : A := h hF hC
def p_impl_areInputs_1_tf := PLift.up (And.intro @str_beq @trivial)
def p_impl_areInputs_1 (n_a0 : Int) : Option (Bool) := some (!(rng n_a0 0 5))
theorem p_impl_areInputs_1_does (n_a0 : Int) (r : Bool) (h : p_impl_areInputs_1 n_a0 = some r) : Does Try.prog 76 [I n_a0] (B r) := by
  rw [p_impl_areInputs_1] at h
  refine Does.walk (nt := 6) Try.func76 rfl rfl (by simp) (by decide) rfl (fun G0 X w0 pv => ?_)
  have ff := p_impl_areInputs_1_tf.down
  try refine st_by ff ?_
  repeat' (first | exact trivial | refine And.intro sd ?_)
  first
  | (refine cq_call (inRange_does n_a0 0 5) (hf_by ff) kr ⟨p_impl_areInputs_1_sa ff trivial, ?_⟩; clear ff)
  have ff := p_impl_areInputs_1_tf.down
  try refine st_by ff ?_
  repeat' (first | exact trivial | refine And.intro sd ?_)
  cases h
  exact ret_q1 rfl (p_impl_areInputs_1_rt ff trivial)
/-! impl.areInputs -/
theorem p_impl_areInputs_pv {F C A : Prop} (hF : F) (hC : C) (h : F → C → A := by intro hF hC; first | exact cl_by hF | (refine st_by hF ?_; (repeat' (first | exact trivial | apply And.intro)); all_goals (clear hF; first | rfl | (simp only [hC, List.length_append, List.length_cons, List.length_nil, List.append_nil, List.nil_append, List.cons_append, List.length_set, List.append_assoc, Nat.zero_add, List.length_replicate, esInt_app, esInt_cons, esInt_nil, eInt_eq]; done) | (simp [hC, List.length_append, List.length_cons, List.length_nil, List.append_nil, List.nil_append, List.cons_append, List.length_set, List.append_assoc, Nat.zero_add, List.length_replicate, esInt_app, esInt_cons, esInt_nil, eInt_eq]; done) | omega))) : A := h hF hC
theorem p_impl_areInputs_sa {F C A : Prop} (hF : F) (hC : C) (h : F → C → A := by intro hF hC; first | exact ca_by hF | (refine sa_by hF ?_; (repeat' (first | exact trivial | apply And.intro)); all_goals (clear hF; first | rfl | (simp only [hC, List.length_append, List.length_cons, List.length_nil, List.append_nil, List.nil_append, List.cons_append, List.length_set, List.append_assoc, Nat.zero_add, List.length_replicate, esInt_app, esInt_cons, esInt_nil, eInt_eq]; done) | (simp [hC, List.length_append, List.length_cons, List.length_nil, List.append_nil, List.nil_append, List.cons_append, List.length_set, List.append_assoc, Nat.zero_add, List.length_replicate, esInt_app, esInt_cons, esInt_nil, eInt_eq]; done) | omega))) : A := h hF hC
theorem p_impl_areInputs_rt {F C A : Prop} (hF : F) (hC : C) (h : F → C → A := by intro hF hC; first | (refine sr_by hF ?_; (repeat' (first | exact trivial | apply And.intro)); all_goals (clear hF; first | rfl | (simp only [hC, List.length_append, List.length_cons, List.length_nil, List.append_nil, List.nil_append, List.cons_append, List.length_set, List.append_assoc, Nat.zero_add, List.length_replicate, esInt_app, esInt_cons, esInt_nil, eInt_eq]; done) | (simp [hC, List.length_append, List.length_cons, List.length_nil, List.append_nil, List.nil_append, List.cons_append, List.length_set, List.append_assoc, Nat.zero_add, List.length_replicate, esInt_app, esInt_cons, esInt_nil, eInt_eq]; done) | omega)) | (first | rfl | (simp only [hC, List.length_append, List.length_cons, List.length_nil, List.append_nil, List.nil_append, List.cons_append, List.length_set, List.append_assoc, Nat.zero_add, List.length_replicate, esInt_app, esInt_cons, esInt_nil, eInt_eq]; done) | (simp [hC, List.length_append, List.length_cons, List.length_nil, List.append_nil, List.nil_append, List.cons_append, List.length_set, List.append_assoc, Nat.zero_add, List.length_replicate, esInt_app, esInt_cons, esInt_nil, eInt_eq]; done) | omega)) : A := h hF hC
def p_impl_areInputs_tf := PLift.up (And.intro @eInt_eq (And.intro @esInt_len (And.intro @esInt_nil (And.intro @esInt_leaf (And.intro @esInt_fit (And.intro @esInt_share (And.intro @esInt_pure (And.intro @str_beq (And.intro @Ty.sl35 @trivial)))))))))
def p_impl_areInputs (inputs_a0 : List Int) (seats_a1 : Int) : Option (Bool) := (if (inputs_a0.length : Int) = seats_a1 then ((p_slices_ContainsFunc_int_int inputs_a0 (fun x0_ => p_impl_areInputs_1 x0_)).bind fun v2 => some (!v2)) else some false)
theorem p_impl_areInputs_does (inputs_a0 : List Int) (seats_a1 : Int) (r : Bool) (h : p_impl_areInputs inputs_a0 seats_a1 = some r) : Does Try.prog 71 [.row false 1 inputs_a0.length (esInt inputs_a0), I seats_a1] (B r) := by
  rw [p_impl_areInputs] at h
  refine Does.bnd (fun hb => ?_)
  have hb2 : inputs_a0.length ≤ 9223372036854775807 := by simpa [AV.fitNs, AV.fitN] using hb
  have hl0 := hb2
  refine Does.walk (nt := 14) Try.func71 rfl rfl (by simp) (by decide) rfl (fun G0 X w0 pv => ?_)
  by_cases c1 : (inputs_a0.length : Int) = seats_a1
  case neg =>
   rw [if_neg c1] at h
   have dc1 := beq_no c1
   have ff := And.intro @dc1 p_impl_areInputs_tf.down
   try refine st_by ff ?_
   repeat' (first | exact trivial | refine And.intro sd ?_)
   cases h
   exact ret_q1 rfl (p_impl_areInputs_rt ff trivial)
  rw [if_pos c1] at h
  have dc1 := beq_yes c1
  obtain ⟨v2, ev2, h⟩ := Option.bind_eq_some_iff.1 h
  try dsimp only at h
  have ff := And.intro @dc1 p_impl_areInputs_tf.down
  try refine st_by ff ?_
  repeat' (first | exact trivial | refine And.intro sd ?_)
  first
  | (refine cq_call (p_slices_ContainsFunc_int_int_does inputs_a0 76 [] (by simp [AV.noRefs, AV.noRef]) kr (fun x0_ => p_impl_areInputs_1 x0_) (fun x0_ y_ h_ => p_impl_areInputs_1_does x0_ y_ h_) v2 ev2) (hf_by ff) kr ⟨p_impl_areInputs_sa ff trivial, ?_⟩; clear ff)
  have ff := And.intro @dc1 p_impl_areInputs_tf.down
  try refine st_by ff ?_
  repeat' (first | exact trivial | refine And.intro sd ?_)
  cases h
  exact ret_q1 rfl (p_impl_areInputs_rt ff trivial)
/-! slices.Clone[[]impl.Seat,impl.Seat] -/
theorem p_slices_Clone_impl_Seat_impl_Seat_rt {F C A : Prop} (hF : F) (hC : C) (h : F → C → A := by intro hF hC; first | (refine sr_by hF ?_; (repeat' (first | exact trivial | apply And.intro)); all_goals (clear hF; first | rfl | (simp only [hC, List.length_append, List.length_cons, List.length_nil, List.append_nil, List.nil_append, List.cons_append, List.length_set, List.append_assoc, Nat.zero_add, List.length_replicate, esSeat_app, esSeat_cons, esSeat_nil, eSeat_eq]; done) | (simp [hC, List.length_append, List.length_cons, List.length_nil, List.append_nil, List.nil_append, List.cons_append, List.length_set, List.append_assoc, Nat.zero_add, List.length_replicate, esSeat_app, esSeat_cons, esSeat_nil, eSeat_eq]; done) | omega)) | (first | rfl | (simp only [hC, List.length_append, List.length_cons, List.length_nil, List.append_nil, List.nil_append, List.cons_append, List.length_set, List.append_assoc, Nat.zero_add, List.length_replicate, esSeat_app, esSeat_cons, esSeat_nil, eSeat_eq]; done) | (simp [hC, List.length_append, List.length_cons, List.length_nil, List.append_nil, List.nil_append, List.cons_append, List.length_set, List.append_assoc, Nat.zero_add, List.length_replicate, esSeat_app, esSeat_cons, esSeat_nil, eSeat_eq]; done) | omega)) : A := h hF hC
def p_slices_Clone_impl_Seat_impl_Seat_tf := PLift.up (And.intro @eSeat_eq (And.intro @esSeat_len (And.intro @esSeat_nil (And.intro @esSeat_leaf (And.intro @esSeat_fit (And.intro @esSeat_share (And.intro @esSeat_pure (And.intro @Ty.nze71 (And.intro @Ty.sl71 (And.intro @Ty.slz71 (And.intro @Ty.zok71 (And.intro @Ty.by71 (And.intro @Ty.zs71 @trivial)))))))))))))
def p_slices_Clone_impl_Seat_impl_Seat (l : List GSeat) : Option (List GSeat) := if l.length < 4294967296 then some l else none
theorem p_slices_Clone_impl_Seat_impl_Seat_does (l : List GSeat) (r : List GSeat) (h : p_slices_Clone_impl_Seat_impl_Seat l = some r) : Does Try.prog 82 [.row false 3 l.length (esSeat l)] (.row true 3 r.length (esSeat r)) := by
  rw [p_slices_Clone_impl_Seat_impl_Seat] at h
  by_cases c : l.length < 4294967296
  case neg => rw [if_neg c] at h; cases h
  rw [if_pos c] at h
  cases h
  refine Does.walk (nt := 8) Try.func82 rfl rfl (by simp) (by decide) rfl (fun G0 X w0 pv => ?_)
  refine st_by p_slices_Clone_impl_Seat_impl_Seat_tf.down ?_
  refine fun b hb => ?_
  cases b
  · have ff := p_slices_Clone_impl_Seat_impl_Seat_tf.down
    try refine st_by ff ?_
    repeat' (first | exact trivial | refine And.intro sd ?_)
    clear ff
    exact ret_q1 rfl (p_slices_Clone_impl_Seat_impl_Seat_rt p_slices_Clone_impl_Seat_impl_Seat_tf.down trivial)
  · have h0 : l = [] := List.eq_nil_of_length_eq_zero (by rcases Nat.eq_zero_or_pos l.length with h | h; exact h; exact absurd (hb h) (by decide))
    subst h0
    have ff := p_slices_Clone_impl_Seat_impl_Seat_tf.down
    try refine st_by ff ?_
    repeat' (first | exact trivial | refine And.intro sd ?_)
    clear ff
    exact ret_q1 rfl (p_slices_Clone_impl_Seat_impl_Seat_rt p_slices_Clone_impl_Seat_impl_Seat_tf.down trivial)
/-! (impl.Game).clone -/
theorem p_impl_Game_clone_pv {F C A : Prop} (hF : F) (hC : C) (h : F → C → A := by intro hF hC; first | exact cl_by hF | (refine st_by hF ?_; (repeat' (first | exact trivial | apply And.intro)); all_goals (clear hF; first | rfl | (simp only [hC, List.length_append, List.length_cons, List.length_nil, List.append_nil, List.nil_append, List.cons_append, List.length_set, List.append_assoc, Nat.zero_add, List.length_replicate, esGame_app, esGame_cons, esGame_nil, eGame_eq, esGameo_app, esGameo_cons, esGameo_nil, eGameo_eq, esSeat_app, esSeat_cons, esSeat_nil, eSeat_eq]; done) | (simp [hC, List.length_append, List.length_cons, List.length_nil, List.append_nil, List.nil_append, List.cons_append, List.length_set, List.append_assoc, Nat.zero_add, List.length_replicate, esGame_app, esGame_cons, esGame_nil, eGame_eq, esGameo_app, esGameo_cons, esGameo_nil, eGameo_eq, esSeat_app, esSeat_cons, esSeat_nil, eSeat_eq]; done) | omega))) : A := h hF hC
theorem p_impl_Game_clone_sa {F C A : Prop} (hF : F) (hC : C) (h : F → C → A := by intro hF hC; first | exact ca_by hF | (refine sa_by hF ?_; (repeat' (first | exact trivial | apply And.intro)); all_goals (clear hF; first | rfl | (simp only [hC, List.length_append, List.length_cons, List.length_nil, List.append_nil, List.nil_append, List.cons_append, List.length_set, List.append_assoc, Nat.zero_add, List.length_replicate, esGame_app, esGame_cons, esGame_nil, eGame_eq, esGameo_app, esGameo_cons, esGameo_nil, eGameo_eq, esSeat_app, esSeat_cons, esSeat_nil, eSeat_eq]; done) | (simp [hC, List.length_append, List.length_cons, List.length_nil, List.append_nil, List.nil_append, List.cons_append, List.length_set, List.append_assoc, Nat.zero_add, List.length_replicate, esGame_app, esGame_cons, esGame_nil, eGame_eq, esGameo_app, esGameo_cons, esGameo_nil, eGameo_eq, esSeat_app, esSeat_cons, esSeat_nil, eSeat_eq]; done) | omega))) : A := h hF hC
theorem p_impl_Game_clone_rt {F C A : Prop} (hF : F) (hC : C) (h : F → C → A := by intro hF hC; first | (refine sr_by hF ?_; (repeat' (first | exact trivial | apply And.intro)); all_goals (clear hF; first | rfl | (simp only [hC, List.length_append, List.length_cons, List.length_nil, List.append_nil, List.nil_append, List.cons_append, List.length_set, List.append_assoc, Nat.zero_add, List.length_replicate, esGame_app, esGame_cons, esGame_nil, eGame_eq, esGameo_app, esGameo_cons, esGameo_nil, eGameo_eq, esSeat_app, esSeat_cons, esSeat_nil, eSeat_eq]; done) | (simp [hC, List.length_append, List.length_cons, List.length_nil, List.append_nil, List.nil_append, List.cons_append, List.length_set, List.append_assoc, Nat.zero_add, List.length_replicate, esGame_app, esGame_cons, esGame_nil, eGame_eq, esGameo_app, esGameo_cons, esGameo_nil, eGameo_eq, esSeat_app, esSeat_cons, esSeat_nil, eSeat_eq]; done) | omega)) | (first | rfl | (simp only [hC, List.length_append, List.length_cons, List.length_nil, List.append_nil, List.nil_append, List.cons_append, List.length_set, List.append_assoc, Nat.zero_add, List.length_replicate, esGame_app, esGame_cons, esGame_nil, eGame_eq, esGameo_app, esGameo_cons, esGameo_nil, eGameo_eq, esSeat_app, esSeat_cons, esSeat_nil, eSeat_eq]; done) | (simp [hC, List.length_append, List.length_cons, List.length_nil, List.append_nil, List.nil_append, List.cons_append, List.length_set, List.append_assoc, Nat.zero_add, List.length_replicate, esGame_app, esGame_cons, esGame_nil, eGame_eq, esGameo_app, esGameo_cons, esGameo_nil, eGameo_eq, esSeat_app, esSeat_cons, esSeat_nil, eSeat_eq]; done) | omega)) : A := h hF hC
def p_impl_Game_clone_tf := PLift.up (And.intro @eGame_eq (And.intro @esGame_len (And.intro @esGame_nil (And.intro @esGame_leaf (And.intro @esGame_fit (And.intro @eGameo_eq (And.intro @esGameo_len (And.intro @esGameo_nil (And.intro @eSeat_eq (And.intro @esSeat_len (And.intro @esSeat_nil (And.intro @esSeat_leaf (And.intro @esSeat_fit (And.intro @esGameo_share (And.intro @esGameo_pure (And.intro @esSeat_share (And.intro @esSeat_pure (And.intro @str_beq (And.intro @Ty.nz3 (And.intro @Ty.ldA3 (And.intro @Ty.ldS3 (And.intro @Ty.sz3 (And.intro @Ty.szn3 (And.intro @Ty.nz71 (And.intro @Ty.ldA71 (And.intro @Ty.ldS71 (And.intro @Ty.sz71 (And.intro @Ty.szn71 (And.intro @Ty.nz73 (And.intro @Ty.ldA73 (And.intro @Ty.sz73 (And.intro @Ty.szn73 (And.intro @Ty.fo73_0 (And.intro @Ty.fk73_0 (And.intro @Ty.fs73_0 (And.intro @Ty.fn73_0 (And.intro @Ty.fo73_1 (And.intro @Ty.fk73_1 (And.intro @Ty.fs73_1 (And.intro @Ty.fn73_1 (And.intro @Ty.fo73_2 (And.intro @Ty.fk73_2 (And.intro @Ty.fs73_2 (And.intro @Ty.fn73_2 (And.intro @Ty.zv73 (And.intro @Ty.bd73 (And.intro @Ty.pl73_0 (And.intro @Ty.pl73_1 (And.intro @Ty.pl73_2 (And.intro @Ty.ag73 @trivial))))))))))))))))))))))))))))))))))))))))))))))))))
def p_impl_Game_clone (g_a0 : GGame) : Option (GGame) := ((p_slices_Clone_impl_Seat_impl_Seat g_a0.Seats).bind fun v1 => some (⟨g_a0.Frame, g_a0.Coin, v1⟩ : GGame))
theorem p_impl_Game_clone_does (g_a0 : GGame) (r : GGame) (h : p_impl_Game_clone g_a0 = some r) : Does Try.prog 77 [.agg (eGame g_a0)] (.agg (eGameo r)) := by
  rw [p_impl_Game_clone] at h
  refine Does.bnd (fun hb => ?_)
  have hb2 : g_a0.Seats.length ≤ 9223372036854775807 := by simpa [AV.fitNs, AV.fitN, eGame] using hb
  have hl0 := hb2
  refine Does.walk (nt := 11) Try.func77 rfl rfl (by simp) (by decide) rfl (fun G0 X w0 pv => ?_)
  obtain ⟨v1, ev1, h⟩ := Option.bind_eq_some_iff.1 h
  try dsimp only at h
  have ff := p_impl_Game_clone_tf.down
  try refine st_by ff ?_
  repeat' (first | exact trivial | refine And.intro sd ?_ | (refine aw_drawn (id := 1) ?_ [[], [0], [], [2], [], [4], [4, 5], [0, 1, 2, 3, 4, 5, 6], [0, 1, 2, 3, 4, 5, 6, 7]] 7 ?_ ?_; (· kernel_rfl); (· kernel_rfl); refine st_by ff ?_))
  first
  | (refine cq_own (p_slices_Clone_impl_Seat_impl_Seat_does g_a0.Seats v1 ev1) (hf_by ff) kr ⟨p_impl_Game_clone_sa ff trivial, ?_⟩; clear ff)
  | (refine cq_down (p_slices_Clone_impl_Seat_impl_Seat_does g_a0.Seats v1 ev1) (hf_by ff) kr ⟨p_impl_Game_clone_sa ff trivial, ?_⟩; clear ff)
  have ff := p_impl_Game_clone_tf.down
  try refine st_by ff ?_
  repeat' (first | exact trivial | refine And.intro sd ?_)
  cases h
  exact ret_q1 rfl (p_impl_Game_clone_rt ff trivial)
/-! impl.clamp -/
theorem p_impl_clamp_pv {F C A : Prop} (hF : F) (hC : C) (h : F → C → A := by intro hF hC; first | exact cl_by hF | (refine st_by hF ?_; (repeat' (first | exact trivial | apply And.intro)); all_goals (clear hF; first | rfl | (simp only [hC, List.length_append, List.length_cons, List.length_nil, List.append_nil, List.nil_append, List.cons_append, List.length_set, List.append_assoc, Nat.zero_add, List.length_replicate]; done) | (simp [hC, List.length_append, List.length_cons, List.length_nil, List.append_nil, List.nil_append, List.cons_append, List.length_set, List.append_assoc, Nat.zero_add, List.length_replicate]; done) | omega))) : A := h hF hC
theorem p_impl_clamp_sa {F C A : Prop} (hF : F) (hC : C) (h : F → C → A := by intro hF hC; first | exact ca_by hF | (refine sa_by hF ?_; (repeat' (first | exact trivial | apply And.intro)); all_goals (clear hF; first | rfl | (simp only [hC, List.length_append, List.length_cons, List.length_nil, List.append_nil, List.nil_append, List.cons_append, List.length_set, List.append_assoc, Nat.zero_add, List.length_replicate]; done) | (simp [hC, List.length_append, List.length_cons, List.length_nil, List.append_nil, List.nil_append, List.cons_append, List.length_set, List.append_assoc, Nat.zero_add, List.length_replicate]; done) | omega))) : A := h hF hC
theorem p_impl_clamp_rt {F C A : Prop} (hF : F) (hC : C) (h : F → C → A := by intro hF hC; first | (refine sr_by hF ?_; (repeat' (first | exact trivial | apply And.intro)); all_goals (clear hF; first | rfl | (simp only [hC, List.length_append, List.length_cons, List.length_nil, List.append_nil, List.nil_append, List.cons_append, List.length_set, List.append_assoc, Nat.zero_add, List.length_replicate]; done) | (simp [hC, List.length_append, List.length_cons, List.length_nil, List.append_nil, List.nil_append, List.cons_append, List.length_set, List.append_assoc, Nat.zero_add, List.length_replicate]; done) | omega)) | (first | rfl | (simp only [hC, List.length_append, List.length_cons, List.length_nil, List.append_nil, List.nil_append, List.cons_append, List.length_set, List.append_assoc, Nat.zero_add, List.length_replicate]; done) | (simp [hC, List.length_append, List.length_cons, List.length_nil, List.append_nil, List.nil_append, List.cons_append, List.length_set, List.append_assoc, Nat.zero_add, List.length_replicate]; done) | omega)) : A := h hF hC
def p_impl_clamp_tf := PLift.up (And.intro @str_beq @trivial)
def p_impl_clamp (n_a0 : Int) (low_a1 : Int) (high_a2 : Int) : Option (Int) := some (if high_a2 < (if low_a1 > n_a0 then low_a1 else n_a0) then high_a2 else (if low_a1 > n_a0 then low_a1 else n_a0))
theorem p_impl_clamp_does (n_a0 : Int) (low_a1 : Int) (high_a2 : Int) (r : Int) (h : p_impl_clamp n_a0 low_a1 high_a2 = some r) : Does Try.prog 78 [I n_a0, I low_a1, I high_a2] (I r) := by
  rw [p_impl_clamp] at h
  refine Does.walk (nt := 12) Try.func78 rfl rfl (by simp) (by decide) rfl (fun G0 X w0 pv => ?_)
  have ff := p_impl_clamp_tf.down
  try refine st_by ff ?_
  repeat' (first | exact trivial | refine And.intro sd ?_)
  cases h
  exact ret_q1 rfl (p_impl_clamp_rt ff trivial)
/-! impl.size -/
theorem p_impl_size_pv {F C A : Prop} (hF : F) (hC : C) (h : F → C → A := by intro hF hC; first | exact cl_by hF | (refine st_by hF ?_; (repeat' (first | exact trivial | apply And.intro)); all_goals (clear hF; first | rfl | (simp only [hC, List.length_append, List.length_cons, List.length_nil, List.append_nil, List.nil_append, List.cons_append, List.length_set, List.append_assoc, Nat.zero_add, List.length_replicate]; done) | (simp [hC, List.length_append, List.length_cons, List.length_nil, List.append_nil, List.nil_append, List.cons_append, List.length_set, List.append_assoc, Nat.zero_add, List.length_replicate]; done) | omega))) : A := h hF hC
theorem p_impl_size_sa {F C A : Prop} (hF : F) (hC : C) (h : F → C → A := by intro hF hC; first | exact ca_by hF | (refine sa_by hF ?_; (repeat' (first | exact trivial | apply And.intro)); all_goals (clear hF; first | rfl | (simp only [hC, List.length_append, List.length_cons, List.length_nil, List.append_nil, List.nil_append, List.cons_append, List.length_set, List.append_assoc, Nat.zero_add, List.length_replicate]; done) | (simp [hC, List.length_append, List.length_cons, List.length_nil, List.append_nil, List.nil_append, List.cons_append, List.length_set, List.append_assoc, Nat.zero_add, List.length_replicate]; done) | omega))) : A := h hF hC
theorem p_impl_size_rt {F C A : Prop} (hF : F) (hC : C) (h : F → C → A := by intro hF hC; first | (refine sr_by hF ?_; (repeat' (first | exact trivial | apply And.intro)); all_goals (clear hF; first | rfl | (simp only [hC, List.length_append, List.length_cons, List.length_nil, List.append_nil, List.nil_append, List.cons_append, List.length_set, List.append_assoc, Nat.zero_add, List.length_replicate]; done) | (simp [hC, List.length_append, List.length_cons, List.length_nil, List.append_nil, List.nil_append, List.cons_append, List.length_set, List.append_assoc, Nat.zero_add, List.length_replicate]; done) | omega)) | (first | rfl | (simp only [hC, List.length_append, List.length_cons, List.length_nil, List.append_nil, List.nil_append, List.cons_append, List.length_set, List.append_assoc, Nat.zero_add, List.length_replicate]; done) | (simp [hC, List.length_append, List.length_cons, List.length_nil, List.append_nil, List.nil_append, List.cons_append, List.length_set, List.append_assoc, Nat.zero_add, List.length_replicate]; done) | omega)) : A := h hF hC
def p_impl_size_tf := PLift.up (And.intro @str_beq @trivial)
def p_impl_size (n_a0 : Int) : Option (Int) := some (if (IntKind.i64.wrap (0 - n_a0)) > n_a0 then (IntKind.i64.wrap (0 - n_a0)) else n_a0)
theorem p_impl_size_does (n_a0 : Int) (r : Int) (h : p_impl_size n_a0 = some r) : Does Try.prog 29 [I n_a0] (I r) := by
  rw [p_impl_size] at h
  refine Does.walk (nt := 7) Try.func29 rfl rfl (by simp) (by decide) rfl (fun G0 X w0 pv => ?_)
  have ff := p_impl_size_tf.down
  try refine st_by ff ?_
  repeat' (first | exact trivial | refine And.intro sd ?_)
  cases h
  exact ret_q1 rfl (p_impl_size_rt ff trivial)
/-! impl.NextCoin -/
theorem p_impl_NextCoin_pv {F C A : Prop} (hF : F) (hC : C) (h : F → C → A := by intro hF hC; first | exact cl_by hF | (refine st_by hF ?_; (repeat' (first | exact trivial | apply And.intro)); all_goals (clear hF; first | rfl | (simp only [hC, List.length_append, List.length_cons, List.length_nil, List.append_nil, List.nil_append, List.cons_append, List.length_set, List.append_assoc, Nat.zero_add, List.length_replicate]; done) | (simp [hC, List.length_append, List.length_cons, List.length_nil, List.append_nil, List.nil_append, List.cons_append, List.length_set, List.append_assoc, Nat.zero_add, List.length_replicate]; done) | omega))) : A := h hF hC
theorem p_impl_NextCoin_sa {F C A : Prop} (hF : F) (hC : C) (h : F → C → A := by intro hF hC; first | exact ca_by hF | (refine sa_by hF ?_; (repeat' (first | exact trivial | apply And.intro)); all_goals (clear hF; first | rfl | (simp only [hC, List.length_append, List.length_cons, List.length_nil, List.append_nil, List.nil_append, List.cons_append, List.length_set, List.append_assoc, Nat.zero_add, List.length_replicate]; done) | (simp [hC, List.length_append, List.length_cons, List.length_nil, List.append_nil, List.nil_append, List.cons_append, List.length_set, List.append_assoc, Nat.zero_add, List.length_replicate]; done) | omega))) : A := h hF hC
theorem p_impl_NextCoin_rt {F C A : Prop} (hF : F) (hC : C) (h : F → C → A := by intro hF hC; first | (refine sr_by hF ?_; (repeat' (first | exact trivial | apply And.intro)); all_goals (clear hF; first | rfl | (simp only [hC, List.length_append, List.length_cons, List.length_nil, List.append_nil, List.nil_append, List.cons_append, List.length_set, List.append_assoc, Nat.zero_add, List.length_replicate]; done) | (simp [hC, List.length_append, List.length_cons, List.length_nil, List.append_nil, List.nil_append, List.cons_append, List.length_set, List.append_assoc, Nat.zero_add, List.length_replicate]; done) | omega)) | (first | rfl | (simp only [hC, List.length_append, List.length_cons, List.length_nil, List.append_nil, List.nil_append, List.cons_append, List.length_set, List.append_assoc, Nat.zero_add, List.length_replicate]; done) | (simp [hC, List.length_append, List.length_cons, List.length_nil, List.append_nil, List.nil_append, List.cons_append, List.length_set, List.append_assoc, Nat.zero_add, List.length_replicate]; done) | omega)) : A := h hF hC
def p_impl_NextCoin_tf := PLift.up (And.intro @str_beq @trivial)
def p_impl_NextCoin (seed_a0 : Int) : Option (Int × Int) := ((p_impl_isSeed seed_a0).bind fun v1 => (if v1 = true then some ((Int.tmod (IntKind.i64.wrap ((IntKind.i64.wrap (seed_a0 * 1103515245)) + 12345)) 2147483648), (IntKind.i64.wrap (Int.tdiv (Int.tmod (IntKind.i64.wrap ((IntKind.i64.wrap (seed_a0 * 1103515245)) + 12345)) 2147483648) 65536))) else some (0, 0)))
theorem p_impl_NextCoin_does (seed_a0 : Int) (r : Int × Int) (h : p_impl_NextCoin seed_a0 = some r) : Does Try.prog 79 [I seed_a0] (.tup [I r.1, I r.2]) := by
  rw [p_impl_NextCoin] at h
  refine Does.walk (nt := 15) Try.func79 rfl rfl (by simp) (by decide) rfl (fun G0 X w0 pv => ?_)
  obtain ⟨v1, ev1, h⟩ := Option.bind_eq_some_iff.1 h
  try dsimp only at h
  have ff := p_impl_NextCoin_tf.down
  try refine st_by ff ?_
  repeat' (first | exact trivial | refine And.intro sd ?_)
  first
  | (refine cq_call (p_impl_isSeed_does seed_a0 v1 ev1) (hf_by ff) kr ⟨p_impl_NextCoin_sa ff trivial, ?_⟩; clear ff)
  by_cases c2 : v1 = true
  case neg =>
   rw [if_neg c2] at h
   have dc2 := eq_false_of_ne_true c2
   have ff := And.intro @dc2 p_impl_NextCoin_tf.down
   try refine st_by ff ?_
   repeat' (first | exact trivial | refine And.intro sd ?_)
   cases h
   exact ret_q2 rfl (p_impl_NextCoin_rt ff trivial)
  rw [if_pos c2] at h
  have dc2 := c2
  have ff := And.intro @dc2 p_impl_NextCoin_tf.down
  try refine st_by ff ?_
  repeat' (first | exact trivial | refine And.intro sd ?_)
  cases h
  exact ret_q2 rfl (p_impl_NextCoin_rt ff trivial)
/-! (impl.Game).step -/
def p_impl_Game_step_j1 (u_21 : Int) (out_22 : List GSeat) (strikes_23 : List Int) (x46 : GSeat) (x49 : Int) (rec_0 : Int → (List GSeat) → (List Int) → Option (Int × (List GSeat) × (List Int))) (b_56 : Bool) : Option (Int × (List GSeat) × (List Int)) := (if b_56 = true then ((p_impl_clamp (IntKind.i64.wrap ((IntKind.i64.wrap (x46.Y + (IntKind.i64.wrap (2 * x49)))) - 7)) 0 63).bind fun v58 => rec_0 (IntKind.i64.wrap (u_21 + 1)) (out_22.set u_21.toNat (⟨x46.X, v58, x46.Hp⟩ : GSeat)) strikes_23) else (if x49 = 5 then (if strikes_23.length < 4294967296 then rec_0 (IntKind.i64.wrap (u_21 + 1)) out_22 (strikes_23 ++ [u_21]) else none) else rec_0 (IntKind.i64.wrap (u_21 + 1)) out_22 strikes_23))
def p_impl_Game_step_j0 (u_21 : Int) (out_22 : List GSeat) (strikes_23 : List Int) (x46 : GSeat) (x49 : Int) (rec_0 : Int → (List GSeat) → (List Int) → Option (Int × (List GSeat) × (List Int))) (b_51 : Bool) : Option (Int × (List GSeat) × (List Int)) := (if b_51 = true then ((p_impl_clamp (IntKind.i64.wrap ((IntKind.i64.wrap (x46.X + (IntKind.i64.wrap (2 * x49)))) - 3)) 0 63).bind fun v53 => rec_0 (IntKind.i64.wrap (u_21 + 1)) (out_22.set u_21.toNat (⟨v53, x46.Y, x46.Hp⟩ : GSeat)) strikes_23) else (if x49 = 3 then p_impl_Game_step_j1 u_21 out_22 strikes_23 x46 x49 (rec_0) (x49 == 3) else p_impl_Game_step_j1 u_21 out_22 strikes_23 x46 x49 (rec_0) (x49 == 4)))
def p_impl_Game_step_l0 (inputs_a1 : List Int) (v1 : GGame) : Nat → Int → (List GSeat) → (List Int) → Option (Int × (List GSeat) × (List Int))
  | 0, _, _, _ => none
  | n_0 + 1, u_21, out_22, strikes_23 => (if u_21 < (v1.Seats.length : Int) then ((idx out_22 u_21).bind fun x46 => (if x46.Hp = 0 then p_impl_Game_step_l0 inputs_a1 v1 n_0 (IntKind.i64.wrap (u_21 + 1)) out_22 strikes_23 else ((idx inputs_a1 u_21).bind fun x49 => (if x49 = 1 then p_impl_Game_step_j0 u_21 out_22 strikes_23 x46 x49 (p_impl_Game_step_l0 inputs_a1 v1 n_0) (x49 == 1) else p_impl_Game_step_j0 u_21 out_22 strikes_23 x46 x49 (p_impl_Game_step_l0 inputs_a1 v1 n_0) (x49 == 2))))) else some (u_21, out_22, strikes_23))
def p_impl_Game_step_j2 (u_186 : Int) (out_187 : Int) (out_188 : List GSeat) (x205 : GSeat) (rec_1 : Int → Int → (List GSeat) → Option (Int × Int × (List GSeat))) (b_207 : Bool) : Option (Int × Int × (List GSeat)) := (if b_207 = true then rec_1 (IntKind.i64.wrap (u_186 + 1)) out_187 out_188 else ((p_impl_NextCoin out_187).bind fun v209 => (if (Int.tmod v209.2 2) = 0 then rec_1 (IntKind.i64.wrap (u_186 + 1)) v209.1 (out_188.set u_186.toNat (⟨x205.X, x205.Y, (if (0 : Int) > (IntKind.i64.wrap (x205.Hp - 1)) then 0 else (IntKind.i64.wrap (x205.Hp - 1)))⟩ : GSeat)) else rec_1 (IntKind.i64.wrap (u_186 + 1)) v209.1 out_188)))
def p_impl_Game_step_l2 (out_119 : List GSeat) (x_1 : Int) : Nat → Int → Int → (List GSeat) → Option (Int × Int × (List GSeat))
  | 0, _, _, _ => none
  | n_2 + 1, u_186, out_187, out_188 => (if u_186 < (out_119.length : Int) then ((idx out_188 u_186).bind fun x205 => (if u_186 = x_1 then p_impl_Game_step_j2 u_186 out_187 out_188 x205 (p_impl_Game_step_l2 out_119 x_1 n_2) true else ((idx out_188 x_1).bind fun x214 => ((p_impl_size (IntKind.i64.wrap (x205.X - x214.X))).bind fun v216 => (if v216 > 1 then p_impl_Game_step_j2 u_186 out_187 out_188 x205 (p_impl_Game_step_l2 out_119 x_1 n_2) true else ((p_impl_size (IntKind.i64.wrap (x205.Y - x214.Y))).bind fun v218 => p_impl_Game_step_j2 u_186 out_187 out_188 x205 (p_impl_Game_step_l2 out_119 x_1 n_2) (decide (v218 > 1)))))))) else some (u_186, out_187, out_188))
def p_impl_Game_step_l1 (N : Nat)  : List Int → Nat → Int → (List GSeat) → Option (Int × (List GSeat))
  | [], i_1, out_118, out_119 => some (out_118, out_119)
  | x_1 :: r_1, i_1, out_118, out_119 => ((p_impl_Game_step_l2 out_119 x_1 N 0 out_118 out_119).bind fun q_2 => match q_2 with | (u_186, out_187, out_188) => p_impl_Game_step_l1 N r_1 (i_1 + 1) out_187 out_188)
theorem p_impl_Game_step_pv {F C A : Prop} (hF : F) (hC : C) (h : F → C → A := by intro hF hC; first | exact cl_by hF | (refine st_by hF ?_; (repeat' (first | exact trivial | apply And.intro)); all_goals (clear hF; first | rfl | (simp only [hC, List.length_append, List.length_cons, List.length_nil, List.append_nil, List.nil_append, List.cons_append, List.length_set, List.append_assoc, Nat.zero_add, List.length_replicate, esInt_app, esInt_cons, esInt_nil, eInt_eq, esGame_app, esGame_cons, esGame_nil, eGame_eq, esGameo_app, esGameo_cons, esGameo_nil, eGameo_eq, esSeat_app, esSeat_cons, esSeat_nil, eSeat_eq]; done) | (simp [hC, List.length_append, List.length_cons, List.length_nil, List.append_nil, List.nil_append, List.cons_append, List.length_set, List.append_assoc, Nat.zero_add, List.length_replicate, esInt_app, esInt_cons, esInt_nil, eInt_eq, esGame_app, esGame_cons, esGame_nil, eGame_eq, esGameo_app, esGameo_cons, esGameo_nil, eGameo_eq, esSeat_app, esSeat_cons, esSeat_nil, eSeat_eq]; done) | omega))) : A := h hF hC
theorem p_impl_Game_step_sa {F C A : Prop} (hF : F) (hC : C) (h : F → C → A := by intro hF hC; first | exact ca_by hF | (refine sa_by hF ?_; (repeat' (first | exact trivial | apply And.intro)); all_goals (clear hF; first | rfl | (simp only [hC, List.length_append, List.length_cons, List.length_nil, List.append_nil, List.nil_append, List.cons_append, List.length_set, List.append_assoc, Nat.zero_add, List.length_replicate, esInt_app, esInt_cons, esInt_nil, eInt_eq, esGame_app, esGame_cons, esGame_nil, eGame_eq, esGameo_app, esGameo_cons, esGameo_nil, eGameo_eq, esSeat_app, esSeat_cons, esSeat_nil, eSeat_eq]; done) | (simp [hC, List.length_append, List.length_cons, List.length_nil, List.append_nil, List.nil_append, List.cons_append, List.length_set, List.append_assoc, Nat.zero_add, List.length_replicate, esInt_app, esInt_cons, esInt_nil, eInt_eq, esGame_app, esGame_cons, esGame_nil, eGame_eq, esGameo_app, esGameo_cons, esGameo_nil, eGameo_eq, esSeat_app, esSeat_cons, esSeat_nil, eSeat_eq]; done) | omega))) : A := h hF hC
theorem p_impl_Game_step_rt {F C A : Prop} (hF : F) (hC : C) (h : F → C → A := by intro hF hC; first | (refine sr_by hF ?_; (repeat' (first | exact trivial | apply And.intro)); all_goals (clear hF; first | rfl | (simp only [hC, List.length_append, List.length_cons, List.length_nil, List.append_nil, List.nil_append, List.cons_append, List.length_set, List.append_assoc, Nat.zero_add, List.length_replicate, esInt_app, esInt_cons, esInt_nil, eInt_eq, esGame_app, esGame_cons, esGame_nil, eGame_eq, esGameo_app, esGameo_cons, esGameo_nil, eGameo_eq, esSeat_app, esSeat_cons, esSeat_nil, eSeat_eq]; done) | (simp [hC, List.length_append, List.length_cons, List.length_nil, List.append_nil, List.nil_append, List.cons_append, List.length_set, List.append_assoc, Nat.zero_add, List.length_replicate, esInt_app, esInt_cons, esInt_nil, eInt_eq, esGame_app, esGame_cons, esGame_nil, eGame_eq, esGameo_app, esGameo_cons, esGameo_nil, eGameo_eq, esSeat_app, esSeat_cons, esSeat_nil, eSeat_eq]; done) | omega)) | (first | rfl | (simp only [hC, List.length_append, List.length_cons, List.length_nil, List.append_nil, List.nil_append, List.cons_append, List.length_set, List.append_assoc, Nat.zero_add, List.length_replicate, esInt_app, esInt_cons, esInt_nil, eInt_eq, esGame_app, esGame_cons, esGame_nil, eGame_eq, esGameo_app, esGameo_cons, esGameo_nil, eGameo_eq, esSeat_app, esSeat_cons, esSeat_nil, eSeat_eq]; done) | (simp [hC, List.length_append, List.length_cons, List.length_nil, List.append_nil, List.nil_append, List.cons_append, List.length_set, List.append_assoc, Nat.zero_add, List.length_replicate, esInt_app, esInt_cons, esInt_nil, eInt_eq, esGame_app, esGame_cons, esGame_nil, eGame_eq, esGameo_app, esGameo_cons, esGameo_nil, eGameo_eq, esSeat_app, esSeat_cons, esSeat_nil, eSeat_eq]; done) | omega)) : A := h hF hC
def p_impl_Game_step_tf := PLift.up (And.intro @eInt_eq (And.intro @esInt_len (And.intro @esInt_nil (And.intro @esInt_leaf (And.intro @esInt_fit (And.intro @eGame_eq (And.intro @esGame_len (And.intro @esGame_nil (And.intro @esGame_leaf (And.intro @esGame_fit (And.intro @eGameo_eq (And.intro @esGameo_len (And.intro @esGameo_nil (And.intro @eSeat_eq (And.intro @esSeat_len (And.intro @esSeat_nil (And.intro @esSeat_leaf (And.intro @esSeat_fit (And.intro @esInt_share (And.intro @esInt_pure (And.intro @esGameo_share (And.intro @esGameo_pure (And.intro @esSeat_share (And.intro @esSeat_pure (And.intro @str_beq (And.intro @Ty.sl71 (And.intro @Ty.slz71 (And.intro @Ty.sl35 (And.intro @Ty.slz35 (And.intro @Ty.nz73 (And.intro @Ty.ldA73 (And.intro @Ty.sz73 (And.intro @Ty.szn73 (And.intro @Ty.nz3 (And.intro @Ty.ldA3 (And.intro @Ty.ldS3 (And.intro @Ty.sz3 (And.intro @Ty.szn3 (And.intro @Ty.nz71 (And.intro @Ty.ldA71 (And.intro @Ty.ldS71 (And.intro @Ty.sz71 (And.intro @Ty.szn71 (And.intro @Ty.fo73_0 (And.intro @Ty.fk73_0 (And.intro @Ty.fs73_0 (And.intro @Ty.fn73_0 (And.intro @Ty.fo73_2 (And.intro @Ty.fk73_2 (And.intro @Ty.fs73_2 (And.intro @Ty.fn73_2 (And.intro @Ty.fo84_2 (And.intro @Ty.fk84_2 (And.intro @Ty.fs84_2 (And.intro @Ty.fn84_2 (And.intro @Ty.fo84_0 (And.intro @Ty.fk84_0 (And.intro @Ty.fs84_0 (And.intro @Ty.fn84_0 (And.intro @Ty.fo84_1 (And.intro @Ty.fk84_1 (And.intro @Ty.fs84_1 (And.intro @Ty.fn84_1 (And.intro @Ty.fo73_1 (And.intro @Ty.fk73_1 (And.intro @Ty.fs73_1 (And.intro @Ty.fn73_1 (And.intro @Ty.nze35 (And.intro @Ty.zok35 (And.intro @Ty.by35 (And.intro @Ty.zs35 (And.intro @Ty.zv73 (And.intro @Ty.ag73 @trivial)))))))))))))))))))))))))))))))))))))))))))))))))))))))))))))))))))))))))
def p_impl_Game_step (N : Nat) (g_a0 : GGame) (inputs_a1 : List Int) : Option (GGame) := ((p_impl_Game_clone g_a0).bind fun v1 => ((p_impl_Game_step_l0 inputs_a1 v1 N 0 v1.Seats ([] : List Int)).bind fun q_0 => match q_0 with | (u_21, out_22, strikes_23) => ((p_impl_Game_step_l1 N strikes_23 0 v1.Coin out_22).bind fun q_1 => match q_1 with | (out_118, out_119) => some (⟨(IntKind.i64.wrap (v1.Frame + 1)), out_118, out_119⟩ : GGame))))
theorem p_impl_Game_step_does (N : Nat) (g_a0 : GGame) (inputs_a1 : List Int) (r : GGame) (h : p_impl_Game_step N g_a0 inputs_a1 = some r) : Does Try.prog 72 [.agg (eGame g_a0), .row false 1 inputs_a1.length (esInt inputs_a1)] (.agg (eGameo r)) := by
  rw [p_impl_Game_step] at h
  refine Does.bnd (fun hb => ?_)
  have hb2 : g_a0.Seats.length ≤ 9223372036854775807 ∧ inputs_a1.length ≤ 9223372036854775807 := by simpa [AV.fitNs, AV.fitN, eGame] using hb
  obtain ⟨hl0, hl1⟩ := hb2
  refine Does.walk (nt := 156) Try.func72 rfl rfl (by simp) (by decide) rfl (fun G0 X w0 pv => ?_)
  obtain ⟨v1, ev1, h⟩ := Option.bind_eq_some_iff.1 h
  try dsimp only at h
  have ff := p_impl_Game_step_tf.down
  try refine st_by ff ?_
  repeat' (first | exact trivial | refine And.intro sd ?_)
  first
  | (refine cq_own (p_impl_Game_clone_does g_a0 v1 ev1) (hf_by ff) kr ⟨p_impl_Game_step_sa ff trivial, ?_⟩; clear ff)
  | (refine cq_down (p_impl_Game_clone_does g_a0 v1 ev1) (hf_by ff) kr ⟨p_impl_Game_step_sa ff trivial, ?_⟩; clear ff)
  obtain ⟨q_0, eq_0, h⟩ := Option.bind_eq_some_iff.1 h
  have ff := p_impl_Game_step_tf.down
  try refine st_by ff ?_
  repeat' (first | exact trivial | refine And.intro sd ?_)
  obtain ⟨I_0, hI_0⟩ : ∃ I_ : (Nat × Int × (List GSeat) × (List Int)) → ASt → Prop, I_ = (fun (a : Nat × Int × (List GSeat) × (List Int)) σ => match a with | (n_0, u_21, out_22, strikes_23) => (p_impl_Game_step_l0 inputs_a1 v1 n_0 u_21 out_22 strikes_23 = some q_0) ∧ σ.t 1 = .row false 1 inputs_a1.length (esInt inputs_a1) ∧ σ.t 4 = .ptr 4 [] 0 ∧ σ.t 5 = .ptr 5 [] 0 ∧ σ.t 6 = .sl 6 [] 0 strikes_23.length ∧ σ.t 24 = I (v1.Seats.length : Int) ∧ σ.t 25 = I u_21 ∧ σ.m 4 = some (.box true [I 0, I 0, .row true 3 0 []]) ∧ σ.m 5 = some (.box true [I (IntKind.i64.wrap (v1.Frame + 1)), I v1.Coin, .row true 3 out_22.length (esSeat out_22)]) ∧ σ.m 6 = some (.row true 1 strikes_23.length (esInt strikes_23))) := ⟨_, rfl⟩
  obtain ⟨M_0, hM_0⟩ : ∃ M_ : (Nat × Int × (List GSeat) × (List Int)) → Nat, M_ = (fun (a : Nat × Int × (List GSeat) × (List Int)) => match a with | (n_0, u_21, out_22, strikes_23) => n_0) := ⟨_, rfl⟩
  obtain ⟨J_0, hJ_0⟩ : ∃ J_ : ASt → Prop, J_ = (fun σ => ∃ u_21 : Int, ∃ out_22 : List GSeat, ∃ strikes_23 : List Int, (some (u_21, out_22, strikes_23) = some q_0) ∧ σ.t 4 = .ptr 4 [] 0 ∧ σ.t 5 = .ptr 5 [] 0 ∧ σ.t 6 = .sl 6 [] 0 strikes_23.length ∧ σ.m 4 = some (.box true [I 0, I 0, .row true 3 0 []]) ∧ σ.m 5 = some (.box true [I (IntKind.i64.wrap (v1.Frame + 1)), I v1.Coin, .row true 3 out_22.length (esSeat out_22)]) ∧ σ.m 6 = some (.row true 1 strikes_23.length (esInt strikes_23))) := ⟨_, rfl⟩
  refine aw_loopC (id := 0) I_0 M_0 J_0 (N, 0, v1.Seats, ([] : List Int)) ?_ ?_ ?_
  · rw [hI_0]
    refine ⟨eq_0, ?_⟩
    exact p_impl_Game_step_pv ff trivial
  · try clear ff
    rintro ⟨n_0, u_21, out_22, strikes_23⟩ σ hg_0
    rw [hI_0] at hg_0
    obtain ⟨h_0, g0_0, g1_0, g2_0, g3_0, g4_0, g5_0, g6_0, g7_0, g8_0⟩ := hg_0
    cases n_0 with
    | zero => rw [p_impl_Game_step_l0] at h_0; cases h_0
    | succ n_0 =>
      rw [p_impl_Game_step_l0] at h_0
      by_cases c45 : u_21 < (v1.Seats.length : Int)
      case neg =>
       rw [if_neg c45] at h_0
       have dc45 := decide_eq_false c45
       have ff := And.intro @g0_0 (And.intro @g1_0 (And.intro @g2_0 (And.intro @g3_0 (And.intro @g4_0 (And.intro @g5_0 (And.intro @g6_0 (And.intro @g7_0 (And.intro @g8_0 (And.intro @dc45 p_impl_Game_step_tf.down)))))))))
       try refine st_by ff ?_
       repeat' (first | exact trivial | refine And.intro sd ?_)
       refine JW.intro ?_
       rw [hJ_0]
       refine ⟨u_21, out_22, strikes_23, h_0, ?_⟩
       exact p_impl_Game_step_pv ff trivial
      rw [if_pos c45] at h_0
      have dc45 := decide_eq_true c45
      obtain ⟨x46, ex46, h_0⟩ := Option.bind_eq_some_iff.1 h_0
      try dsimp only at h_0
      have f47a := idx_lo ex46
      have f47b := idx_hi ex46
      have f47c : (esSeat out_22).drop (u_21.toNat * 3) = eSeat x46 ++ esSeat (out_22.drop (u_21.toNat + 1)) := drop_enc (fun _ => rfl) (idx_get ex46)
      have f47g0 : (esSeat out_22).getD (u_21.toNat * 3) .junk = (eSeat x46).getD 0 .junk := getD_enc0 (enc := eSeat) (sz := 3) (fun _ => rfl) (idx_get ex46) (by decide)
      have f47g1 : (esSeat out_22).getD (u_21.toNat * 3 + 1) .junk = (eSeat x46).getD 1 .junk := getD_enc (enc := eSeat) (sz := 3) (fun _ => rfl) (idx_get ex46) (by decide)
      have f47g2 : (esSeat out_22).getD (u_21.toNat * 3 + 2) .junk = (eSeat x46).getD 2 .junk := getD_enc (enc := eSeat) (sz := 3) (fun _ => rfl) (idx_get ex46) (by decide)
      by_cases c48 : x46.Hp = 0
      · rw [if_pos c48] at h_0
        have dc48 := beq_yes c48
        have ff := And.intro @g0_0 (And.intro @g1_0 (And.intro @g2_0 (And.intro @g3_0 (And.intro @g4_0 (And.intro @g5_0 (And.intro @g6_0 (And.intro @g7_0 (And.intro @g8_0 (And.intro @dc45 (And.intro @f47c (And.intro @f47g0 (And.intro @f47g1 (And.intro @f47g2 (And.intro @dc48 p_impl_Game_step_tf.down))))))))))))))
        try refine st_by ff ?_
        repeat' (first | exact trivial | refine And.intro sd ?_)
        refine Back.intro (n_0, (IntKind.i64.wrap (u_21 + 1)), out_22, strikes_23) ?_ ?_
        · rw [hM_0]; exact Nat.lt_succ_self _
        rw [hI_0]
        refine ⟨h_0, ?_⟩
        exact p_impl_Game_step_pv ff trivial
      rw [if_neg c48] at h_0
      have dc48 := beq_no c48
      obtain ⟨x49, ex49, h_0⟩ := Option.bind_eq_some_iff.1 h_0
      try dsimp only at h_0
      have f50a := idx_lo ex49
      have f50b := idx_hi ex49
      have f50c : (esInt inputs_a1).drop (u_21.toNat * 1) = eInt x49 ++ esInt (inputs_a1.drop (u_21.toNat + 1)) := drop_enc (fun _ => rfl) (idx_get ex49)
      have f50d := f50c
      rw [Nat.mul_one] at f50d
      have ff := And.intro @g0_0 (And.intro @g1_0 (And.intro @g2_0 (And.intro @g3_0 (And.intro @g4_0 (And.intro @g5_0 (And.intro @g6_0 (And.intro @g7_0 (And.intro @g8_0 (And.intro @dc45 (And.intro @f47c (And.intro @f47g0 (And.intro @f47g1 (And.intro @f47g2 (And.intro @dc48 (And.intro @f50c (And.intro @f50d p_impl_Game_step_tf.down))))))))))))))))
      try refine st_by ff ?_
      repeat' (first | exact trivial | refine And.intro sd ?_)
      try clear ff
      generalize hk_0 : thenK _ _ = kk_0
      have key_0 : ∀ σ, (∃ b_51 : Bool, (p_impl_Game_step_j0 u_21 out_22 strikes_23 x46 x49 (p_impl_Game_step_l0 inputs_a1 v1 n_0) b_51 = some q_0) ∧ σ.t 1 = .row false 1 inputs_a1.length (esInt inputs_a1) ∧ σ.t 4 = .ptr 4 [] 0 ∧ σ.t 5 = .ptr 5 [] 0 ∧ σ.t 6 = .sl 6 [] 0 strikes_23.length ∧ σ.t 7 = I u_21 ∧ σ.t 8 = .ptr 5 [2] (u_21.toNat * 3) ∧ σ.t 24 = I (v1.Seats.length : Int) ∧ σ.t 25 = I u_21 ∧ σ.t 40 = I x49 ∧ σ.t 41 = B b_51 ∧ σ.m 4 = some (.box true [I 0, I 0, .row true 3 0 []]) ∧ σ.m 5 = some (.box true [I (IntKind.i64.wrap (v1.Frame + 1)), I v1.Coin, .row true 3 out_22.length (esSeat out_22)]) ∧ σ.m 6 = some (.row true 1 strikes_23.length (esInt strikes_23))) → kk_0 .nm σ := by
        rintro σ ⟨b_51, h_0, g0_j0, g1_j0, g2_j0, g3_j0, g4_j0, g5_j0, g6_j0, g7_j0, g8_j0, g9_j0, g10_j0, g11_j0, g12_j0⟩
        rw [← hk_0]
        rw [p_impl_Game_step_j0] at h_0
        by_cases c52 : b_51 = true
        · rw [if_pos c52] at h_0
          have dc52 := c52
          obtain ⟨v53, ev53, h_0⟩ := Option.bind_eq_some_iff.1 h_0
          try dsimp only at h_0
          have ff := And.intro @dc45 (And.intro @f47c (And.intro @f47g0 (And.intro @f47g1 (And.intro @f47g2 (And.intro @dc48 (And.intro @f50c (And.intro @f50d (And.intro @g0_j0 (And.intro @g1_j0 (And.intro @g2_j0 (And.intro @g3_j0 (And.intro @g4_j0 (And.intro @g5_j0 (And.intro @g6_j0 (And.intro @g7_j0 (And.intro @g8_j0 (And.intro @g9_j0 (And.intro @g10_j0 (And.intro @g11_j0 (And.intro @g12_j0 (And.intro @dc52 p_impl_Game_step_tf.down)))))))))))))))))))))
          try refine st_by ff ?_
          repeat' (first | exact trivial | refine And.intro sd ?_ | (refine aw_drawn (id := 11) ?_ [[], [], [1], [1, 2], [1, 2, 3], [], [], [5, 6], [5, 6, 7], [5, 6, 7, 8], [1, 2, 3, 4, 5, 6, 7, 8, 9], [1, 2, 3, 4, 5, 6, 7, 8, 9, 10], [1, 2, 3, 4, 5, 6, 7, 8, 9, 10, 11], [0, 1, 2, 3, 4, 5, 6, 7, 8, 9, 10, 11, 12], [0, 1, 2, 3, 4, 5, 6, 7, 8, 9, 10, 11, 12, 13], [0, 1, 2, 3, 4, 5, 6, 7, 8, 9, 10, 11, 12, 13, 14]] 13 ?_ ?_; (· kernel_rfl); (· kernel_rfl); refine st_by ff ?_))
          first
          | (refine cq_call (p_impl_clamp_does (IntKind.i64.wrap ((IntKind.i64.wrap (x46.X + (IntKind.i64.wrap (2 * x49)))) - 3)) 0 63 v53 ev53) (hf_by ff) kr ⟨p_impl_Game_step_sa ff trivial, ?_⟩; clear ff)
          | (refine cq_dcall (p_impl_clamp_does (IntKind.i64.wrap ((IntKind.i64.wrap (x46.X + (IntKind.i64.wrap (2 * x49)))) - 3)) 0 63 v53 ev53) (hf_by ff) kr ⟨p_impl_Game_step_sa ff trivial, ?_⟩; clear ff)
          have w54l : u_21.toNat < out_22.length := (List.getElem?_eq_some_iff.1 (idx_get ex46)).1
          have w54a : (esSeat out_22).set (u_21.toNat * 3) (I v53) = esSeat (out_22.set u_21.toNat (⟨v53, x46.Y, x46.Hp⟩ : GSeat)) := set_enc0 (enc := eSeat) (sz := 3) (fun _ => rfl) (idx_get ex46) (by decide) rfl
          have w54b : (out_22.set u_21.toNat (⟨v53, x46.Y, x46.Hp⟩ : GSeat)).length = out_22.length := List.length_set
          have ff := And.intro @dc45 (And.intro @f47c (And.intro @f47g0 (And.intro @f47g1 (And.intro @f47g2 (And.intro @dc48 (And.intro @f50c (And.intro @f50d (And.intro @g0_j0 (And.intro @g1_j0 (And.intro @g2_j0 (And.intro @g3_j0 (And.intro @g4_j0 (And.intro @g5_j0 (And.intro @g6_j0 (And.intro @g7_j0 (And.intro @g8_j0 (And.intro @g9_j0 (And.intro @g10_j0 (And.intro @g11_j0 (And.intro @g12_j0 (And.intro @dc52 (And.intro @w54a p_impl_Game_step_tf.down))))))))))))))))))))))
          try refine st_by ff ?_
          repeat' (first | exact trivial | refine And.intro sd ?_)
          refine Back.intro (n_0, (IntKind.i64.wrap (u_21 + 1)), (out_22.set u_21.toNat (⟨v53, x46.Y, x46.Hp⟩ : GSeat)), strikes_23) ?_ ?_
          · rw [hM_0]; exact Nat.lt_succ_self _
          rw [hI_0]
          refine ⟨h_0, ?_⟩
          exact p_impl_Game_step_pv ff trivial
        rw [if_neg c52] at h_0
        have dc52 := eq_false_of_ne_true c52
        have ff := And.intro @dc45 (And.intro @f47c (And.intro @f47g0 (And.intro @f47g1 (And.intro @f47g2 (And.intro @dc48 (And.intro @f50c (And.intro @f50d (And.intro @g0_j0 (And.intro @g1_j0 (And.intro @g2_j0 (And.intro @g3_j0 (And.intro @g4_j0 (And.intro @g5_j0 (And.intro @g6_j0 (And.intro @g7_j0 (And.intro @g8_j0 (And.intro @g9_j0 (And.intro @g10_j0 (And.intro @g11_j0 (And.intro @g12_j0 (And.intro @dc52 p_impl_Game_step_tf.down)))))))))))))))))))))
        try refine st_by ff ?_
        repeat' (first | exact trivial | refine And.intro sd ?_)
        try clear ff
        generalize hk_1 : thenK _ _ = kk_1
        have key_1 : ∀ σ, (∃ b_56 : Bool, (p_impl_Game_step_j1 u_21 out_22 strikes_23 x46 x49 (p_impl_Game_step_l0 inputs_a1 v1 n_0) b_56 = some q_0) ∧ σ.t 1 = .row false 1 inputs_a1.length (esInt inputs_a1) ∧ σ.t 4 = .ptr 4 [] 0 ∧ σ.t 5 = .ptr 5 [] 0 ∧ σ.t 6 = .sl 6 [] 0 strikes_23.length ∧ σ.t 7 = I u_21 ∧ σ.t 8 = .ptr 5 [2] (u_21.toNat * 3) ∧ σ.t 24 = I (v1.Seats.length : Int) ∧ σ.t 25 = I u_21 ∧ σ.t 40 = I x49 ∧ σ.t 59 = B b_56 ∧ σ.m 4 = some (.box true [I 0, I 0, .row true 3 0 []]) ∧ σ.m 5 = some (.box true [I (IntKind.i64.wrap (v1.Frame + 1)), I v1.Coin, .row true 3 out_22.length (esSeat out_22)]) ∧ σ.m 6 = some (.row true 1 strikes_23.length (esInt strikes_23))) → kk_1 .nm σ := by
          rintro σ ⟨b_56, h_0, g0_j1, g1_j1, g2_j1, g3_j1, g4_j1, g5_j1, g6_j1, g7_j1, g8_j1, g9_j1, g10_j1, g11_j1, g12_j1⟩
          rw [← hk_1]
          rw [p_impl_Game_step_j1] at h_0
          by_cases c57 : b_56 = true
          · rw [if_pos c57] at h_0
            have dc57 := c57
            obtain ⟨v58, ev58, h_0⟩ := Option.bind_eq_some_iff.1 h_0
            try dsimp only at h_0
            have ff := And.intro @dc45 (And.intro @f47c (And.intro @f47g0 (And.intro @f47g1 (And.intro @f47g2 (And.intro @dc48 (And.intro @f50c (And.intro @f50d (And.intro @dc52 (And.intro @g0_j1 (And.intro @g1_j1 (And.intro @g2_j1 (And.intro @g3_j1 (And.intro @g4_j1 (And.intro @g5_j1 (And.intro @g6_j1 (And.intro @g7_j1 (And.intro @g8_j1 (And.intro @g9_j1 (And.intro @g10_j1 (And.intro @g11_j1 (And.intro @g12_j1 (And.intro @dc57 p_impl_Game_step_tf.down))))))))))))))))))))))
            try refine st_by ff ?_
            repeat' (first | exact trivial | refine And.intro sd ?_ | (refine aw_drawn (id := 14) ?_ [[], [], [1], [1, 2], [1, 2, 3], [], [], [5, 6], [5, 6, 7], [5, 6, 7, 8], [1, 2, 3, 4, 5, 6, 7, 8, 9], [1, 2, 3, 4, 5, 6, 7, 8, 9, 10], [1, 2, 3, 4, 5, 6, 7, 8, 9, 10, 11], [0, 1, 2, 3, 4, 5, 6, 7, 8, 9, 10, 11, 12], [0, 1, 2, 3, 4, 5, 6, 7, 8, 9, 10, 11, 12, 13], [0, 1, 2, 3, 4, 5, 6, 7, 8, 9, 10, 11, 12, 13, 14]] 13 ?_ ?_; (· kernel_rfl); (· kernel_rfl); refine st_by ff ?_))
            first
            | (refine cq_call (p_impl_clamp_does (IntKind.i64.wrap ((IntKind.i64.wrap (x46.Y + (IntKind.i64.wrap (2 * x49)))) - 7)) 0 63 v58 ev58) (hf_by ff) kr ⟨p_impl_Game_step_sa ff trivial, ?_⟩; clear ff)
            | (refine cq_dcall (p_impl_clamp_does (IntKind.i64.wrap ((IntKind.i64.wrap (x46.Y + (IntKind.i64.wrap (2 * x49)))) - 7)) 0 63 v58 ev58) (hf_by ff) kr ⟨p_impl_Game_step_sa ff trivial, ?_⟩; clear ff)
            have w59l : u_21.toNat < out_22.length := (List.getElem?_eq_some_iff.1 (idx_get ex46)).1
            have w59a : (esSeat out_22).set (u_21.toNat * 3 + 1) (I v58) = esSeat (out_22.set u_21.toNat (⟨x46.X, v58, x46.Hp⟩ : GSeat)) := set_enc (enc := eSeat) (sz := 3) (fun _ => rfl) (idx_get ex46) (by decide) rfl
            have w59b : (out_22.set u_21.toNat (⟨x46.X, v58, x46.Hp⟩ : GSeat)).length = out_22.length := List.length_set
            have ff := And.intro @dc45 (And.intro @f47c (And.intro @f47g0 (And.intro @f47g1 (And.intro @f47g2 (And.intro @dc48 (And.intro @f50c (And.intro @f50d (And.intro @dc52 (And.intro @g0_j1 (And.intro @g1_j1 (And.intro @g2_j1 (And.intro @g3_j1 (And.intro @g4_j1 (And.intro @g5_j1 (And.intro @g6_j1 (And.intro @g7_j1 (And.intro @g8_j1 (And.intro @g9_j1 (And.intro @g10_j1 (And.intro @g11_j1 (And.intro @g12_j1 (And.intro @dc57 (And.intro @w59a p_impl_Game_step_tf.down)))))))))))))))))))))))
            try refine st_by ff ?_
            repeat' (first | exact trivial | refine And.intro sd ?_)
            refine Back.intro (n_0, (IntKind.i64.wrap (u_21 + 1)), (out_22.set u_21.toNat (⟨x46.X, v58, x46.Hp⟩ : GSeat)), strikes_23) ?_ ?_
            · rw [hM_0]; exact Nat.lt_succ_self _
            rw [hI_0]
            refine ⟨h_0, ?_⟩
            exact p_impl_Game_step_pv ff trivial
          rw [if_neg c57] at h_0
          have dc57 := eq_false_of_ne_true c57
          by_cases c61 : x49 = 5
          case neg =>
           rw [if_neg c61] at h_0
           have dc61 := beq_no c61
           have ff := And.intro @dc45 (And.intro @f47c (And.intro @f47g0 (And.intro @f47g1 (And.intro @f47g2 (And.intro @dc48 (And.intro @f50c (And.intro @f50d (And.intro @dc52 (And.intro @g0_j1 (And.intro @g1_j1 (And.intro @g2_j1 (And.intro @g3_j1 (And.intro @g4_j1 (And.intro @g5_j1 (And.intro @g6_j1 (And.intro @g7_j1 (And.intro @g8_j1 (And.intro @g9_j1 (And.intro @g10_j1 (And.intro @g11_j1 (And.intro @g12_j1 (And.intro @dc57 (And.intro @dc61 p_impl_Game_step_tf.down)))))))))))))))))))))))
           try refine st_by ff ?_
           repeat' (first | exact trivial | refine And.intro sd ?_)
           refine Back.intro (n_0, (IntKind.i64.wrap (u_21 + 1)), out_22, strikes_23) ?_ ?_
           · rw [hM_0]; exact Nat.lt_succ_self _
           rw [hI_0]
           refine ⟨h_0, ?_⟩
           exact p_impl_Game_step_pv ff trivial
          rw [if_pos c61] at h_0
          have dc61 := beq_yes c61
          by_cases c62 : strikes_23.length < 4294967296
          case neg => rw [if_neg c62] at h_0; cases h_0
          rw [if_pos c62] at h_0
          have a63a : esInt strikes_23 ++ [I u_21] = esInt (strikes_23 ++ [u_21]) := by simp [esInt_app, esInt_cons, esInt_nil, eInt_eq, esInt_nil, esGame_nil, esSeat_nil]
          have a63b : strikes_23.length + 1 = (strikes_23 ++ [u_21]).length := by simp
          have ff := And.intro @dc45 (And.intro @f47c (And.intro @f47g0 (And.intro @f47g1 (And.intro @f47g2 (And.intro @dc48 (And.intro @f50c (And.intro @f50d (And.intro @dc52 (And.intro @g0_j1 (And.intro @g1_j1 (And.intro @g2_j1 (And.intro @g3_j1 (And.intro @g4_j1 (And.intro @g5_j1 (And.intro @g6_j1 (And.intro @g7_j1 (And.intro @g8_j1 (And.intro @g9_j1 (And.intro @g10_j1 (And.intro @g11_j1 (And.intro @g12_j1 (And.intro @dc57 (And.intro @dc61 (And.intro @a63a (And.intro @a63b p_impl_Game_step_tf.down)))))))))))))))))))))))))
          try refine st_by ff ?_
          repeat' (first | exact trivial | refine And.intro sd ?_)
          refine Back.intro (n_0, (IntKind.i64.wrap (u_21 + 1)), out_22, (strikes_23 ++ [u_21])) ?_ ?_
          · rw [hM_0]; exact Nat.lt_succ_self _
          rw [hI_0]
          refine ⟨h_0, ?_⟩
          exact p_impl_Game_step_pv ff trivial
        have hrt_1 := fun σ : ASt => congrFun (congrFun hk_1.symm AX.rt) σ
        have hex_1 := fun (i : Nat) (σ : ASt) => congrFun (congrFun hk_1.symm (AX.ex i)) σ
        by_cases c64 : x49 = 3
        case neg =>
         rw [if_neg c64] at h_0
         have dc64 := beq_no c64
         have ff := And.intro @dc45 (And.intro @f47c (And.intro @f47g0 (And.intro @f47g1 (And.intro @f47g2 (And.intro @dc48 (And.intro @f50c (And.intro @f50d (And.intro @g0_j0 (And.intro @g1_j0 (And.intro @g2_j0 (And.intro @g3_j0 (And.intro @g4_j0 (And.intro @g5_j0 (And.intro @g6_j0 (And.intro @g7_j0 (And.intro @g8_j0 (And.intro @g9_j0 (And.intro @g10_j0 (And.intro @g11_j0 (And.intro @g12_j0 (And.intro @dc52 (And.intro @hrt_1 (And.intro @hex_1 (And.intro @dc64 p_impl_Game_step_tf.down))))))))))))))))))))))))
         try refine st_by ff ?_
         repeat' (first | exact trivial | refine And.intro sd ?_)
         refine key_1 _ ?_
         refine ⟨(x49 == 4), h_0, ?_⟩
         exact p_impl_Game_step_pv ff trivial
        rw [if_pos c64] at h_0
        have dc64 := beq_yes c64
        have ff := And.intro @dc45 (And.intro @f47c (And.intro @f47g0 (And.intro @f47g1 (And.intro @f47g2 (And.intro @dc48 (And.intro @f50c (And.intro @f50d (And.intro @g0_j0 (And.intro @g1_j0 (And.intro @g2_j0 (And.intro @g3_j0 (And.intro @g4_j0 (And.intro @g5_j0 (And.intro @g6_j0 (And.intro @g7_j0 (And.intro @g8_j0 (And.intro @g9_j0 (And.intro @g10_j0 (And.intro @g11_j0 (And.intro @g12_j0 (And.intro @dc52 (And.intro @hrt_1 (And.intro @hex_1 (And.intro @dc64 p_impl_Game_step_tf.down))))))))))))))))))))))))
        try refine st_by ff ?_
        repeat' (first | exact trivial | refine And.intro sd ?_)
        refine key_1 _ ?_
        refine ⟨(x49 == 3), h_0, ?_⟩
        exact p_impl_Game_step_pv ff trivial
      have hrt_0 := fun σ : ASt => congrFun (congrFun hk_0.symm AX.rt) σ
      have hex_0 := fun (i : Nat) (σ : ASt) => congrFun (congrFun hk_0.symm (AX.ex i)) σ
      by_cases c65 : x49 = 1
      case neg =>
       rw [if_neg c65] at h_0
       have dc65 := beq_no c65
       have ff := And.intro @g0_0 (And.intro @g1_0 (And.intro @g2_0 (And.intro @g3_0 (And.intro @g4_0 (And.intro @g5_0 (And.intro @g6_0 (And.intro @g7_0 (And.intro @g8_0 (And.intro @dc45 (And.intro @f47c (And.intro @f47g0 (And.intro @f47g1 (And.intro @f47g2 (And.intro @dc48 (And.intro @f50c (And.intro @f50d (And.intro @hrt_0 (And.intro @hex_0 (And.intro @dc65 p_impl_Game_step_tf.down)))))))))))))))))))
       try refine st_by ff ?_
       repeat' (first | exact trivial | refine And.intro sd ?_)
       refine key_0 _ ?_
       refine ⟨(x49 == 2), h_0, ?_⟩
       exact p_impl_Game_step_pv ff trivial
      rw [if_pos c65] at h_0
      have dc65 := beq_yes c65
      have ff := And.intro @g0_0 (And.intro @g1_0 (And.intro @g2_0 (And.intro @g3_0 (And.intro @g4_0 (And.intro @g5_0 (And.intro @g6_0 (And.intro @g7_0 (And.intro @g8_0 (And.intro @dc45 (And.intro @f47c (And.intro @f47g0 (And.intro @f47g1 (And.intro @f47g2 (And.intro @dc48 (And.intro @f50c (And.intro @f50d (And.intro @hrt_0 (And.intro @hex_0 (And.intro @dc65 p_impl_Game_step_tf.down)))))))))))))))))))
      try refine st_by ff ?_
      repeat' (first | exact trivial | refine And.intro sd ?_)
      refine key_0 _ ?_
      refine ⟨(x49 == 1), h_0, ?_⟩
      exact p_impl_Game_step_pv ff trivial
  · try clear ff
    rintro σ hg_0
    rw [hJ_0] at hg_0
    obtain ⟨u_21, out_22, strikes_23, hj_0, g0_0a, g1_0a, g2_0a, g3_0a, g4_0a, g5_0a⟩ := hg_0
    cases hj_0
    try dsimp only at h
    obtain ⟨q_1, eq_1, h⟩ := Option.bind_eq_some_iff.1 h
    have ff := And.intro @g0_0a (And.intro @g1_0a (And.intro @g2_0a (And.intro @g3_0a (And.intro @g4_0a (And.intro @g5_0a p_impl_Game_step_tf.down)))))
    try refine st_by ff ?_
    repeat' (first | exact trivial | refine And.intro sd ?_)
    refine aw_bnd (r := 6) (p := []) (sz := 1) (n := strikes_23.length) (cs := esInt strikes_23) (p_impl_Game_step_pv ff trivial) (fun hL_1 => ?_)
    obtain ⟨I_1, hI_1⟩ : ∃ I_ : (Nat × Int × (List GSeat)) → ASt → Prop, I_ = (fun (a : Nat × Int × (List GSeat)) σ => match a with | (i_1, out_118, out_119) => (i_1 ≤ strikes_23.length ∧ p_impl_Game_step_l1 N (strikes_23.drop i_1) i_1 out_118 out_119 = some q_1) ∧ σ.t 4 = .ptr 4 [] 0 ∧ σ.t 5 = .ptr 5 [] 0 ∧ σ.t 84 = .sl 6 [] 0 strikes_23.length ∧ σ.t 85 = I (strikes_23.length : Int) ∧ σ.t 86 = I (i_1 : Int) ∧ σ.m 4 = some (.box true [I 0, I 0, .row true 3 0 []]) ∧ σ.m 5 = some (.box true [I (IntKind.i64.wrap (v1.Frame + 1)), I out_118, .row true 3 out_119.length (esSeat out_119)]) ∧ σ.m 6 = some (.row true 1 strikes_23.length (esInt strikes_23))) := ⟨_, rfl⟩
    obtain ⟨M_1, hM_1⟩ : ∃ M_ : (Nat × Int × (List GSeat)) → Nat, M_ = (fun (a : Nat × Int × (List GSeat)) => match a with | (i_1, out_118, out_119) => strikes_23.length - i_1) := ⟨_, rfl⟩
    obtain ⟨J_1, hJ_1⟩ : ∃ J_ : ASt → Prop, J_ = (fun σ => ∃ out_118 : Int, ∃ out_119 : List GSeat, (some (out_118, out_119) = some q_1) ∧ σ.t 4 = .ptr 4 [] 0 ∧ σ.t 5 = .ptr 5 [] 0 ∧ σ.m 4 = some (.box true [I 0, I 0, .row true 3 0 []]) ∧ σ.m 5 = some (.box true [I (IntKind.i64.wrap (v1.Frame + 1)), I out_118, .row true 3 out_119.length (esSeat out_119)])) := ⟨_, rfl⟩
    refine aw_loopC (id := 3) I_1 M_1 J_1 (0, v1.Coin, out_22) ?_ ?_ ?_
    · rw [hI_1]
      refine ⟨⟨Nat.zero_le _, eq_1⟩, ?_⟩
      exact p_impl_Game_step_pv ff trivial
    · try clear ff
      rintro ⟨i_1, out_118, out_119⟩ σ hg_1
      rw [hI_1] at hg_1
      obtain ⟨⟨hi_1, h_1⟩, g0_1, g1_1, g2_1, g3_1, g4_1, g5_1, g6_1, g7_1⟩ := hg_1
      cases hr_1 : strikes_23.drop i_1 with
      | nil =>
        rw [hr_1] at h_1
        rw [p_impl_Game_step_l1] at h_1
        have hn_1 := drop_nil hr_1
        have dr_1 : decide ((i_1 : Int) < (strikes_23.length : Int)) = false := decide_eq_false (by omega)
        have ff := And.intro @dr_1 (And.intro @g0_1 (And.intro @g1_1 (And.intro @g2_1 (And.intro @g3_1 (And.intro @g4_1 (And.intro @g5_1 (And.intro @g6_1 (And.intro @g7_1 p_impl_Game_step_tf.down))))))))
        try refine st_by ff ?_
        repeat' (first | exact trivial | refine And.intro sd ?_)
        refine JW.intro ?_
        rw [hJ_1]
        refine ⟨out_118, out_119, h_1, ?_⟩
        exact p_impl_Game_step_pv ff trivial
      | cons x_1 r_1 =>
        rw [hr_1] at h_1
        rw [p_impl_Game_step_l1] at h_1
        obtain ⟨ht_1, hg_1, hd_1⟩ := drop_cons hr_1
        have dr_1 : decide ((i_1 : Int) < (strikes_23.length : Int)) = true := decide_eq_true (by omega)
        have w_1 : IntKind.i64.wrap ((i_1 : Int) + 1) = ((i_1 + 1 : Nat) : Int) := wI _ (by omega) (by omega)
        have kk1c : (esInt strikes_23).drop (i_1 * 1) = eInt x_1 ++ esInt (strikes_23.drop (i_1 + 1)) := drop_enc (fun _ => rfl) (hg_1)
        have kk1d := kk1c
        rw [Nat.mul_one] at kk1d
        have kk1g0 : (esInt strikes_23).getD (i_1 * 1) .junk = (eInt x_1).getD 0 .junk := getD_enc0 (enc := eInt) (sz := 1) (fun _ => rfl) (hg_1) (by decide)
        rw [Nat.mul_one] at kk1g0
        obtain ⟨q_2, eq_2, h_1⟩ := Option.bind_eq_some_iff.1 h_1
        have ff := And.intro @dr_1 (And.intro @w_1 (And.intro @g0_1 (And.intro @g1_1 (And.intro @g2_1 (And.intro @g3_1 (And.intro @g4_1 (And.intro @g5_1 (And.intro @g6_1 (And.intro @g7_1 (And.intro @kk1c (And.intro @kk1d (And.intro @kk1g0 p_impl_Game_step_tf.down))))))))))))
        try refine st_by ff ?_
        repeat' (first | exact trivial | refine And.intro sd ?_)
        obtain ⟨I_2, hI_2⟩ : ∃ I_ : (Nat × Int × Int × (List GSeat)) → ASt → Prop, I_ = (fun (a : Nat × Int × Int × (List GSeat)) σ => match a with | (n_2, u_186, out_187, out_188) => (p_impl_Game_step_l2 out_119 x_1 n_2 u_186 out_187 out_188 = some q_2) ∧ σ.t 4 = .ptr 4 [] 0 ∧ σ.t 5 = .ptr 5 [] 0 ∧ σ.t 10 = I x_1 ∧ σ.t 84 = .sl 6 [] 0 strikes_23.length ∧ σ.t 85 = I (strikes_23.length : Int) ∧ σ.t 86 = I (i_1 : Int) ∧ σ.t 92 = I (out_119.length : Int) ∧ σ.t 93 = I u_186 ∧ σ.m 4 = some (.box true [I 0, I 0, .row true 3 0 []]) ∧ σ.m 5 = some (.box true [I (IntKind.i64.wrap (v1.Frame + 1)), I out_187, .row true 3 out_188.length (esSeat out_188)]) ∧ σ.m 6 = some (.row true 1 strikes_23.length (esInt strikes_23))) := ⟨_, rfl⟩
        obtain ⟨M_2, hM_2⟩ : ∃ M_ : (Nat × Int × Int × (List GSeat)) → Nat, M_ = (fun (a : Nat × Int × Int × (List GSeat)) => match a with | (n_2, u_186, out_187, out_188) => n_2) := ⟨_, rfl⟩
        obtain ⟨J_2, hJ_2⟩ : ∃ J_ : ASt → Prop, J_ = (fun σ => ∃ u_186 : Int, ∃ out_187 : Int, ∃ out_188 : List GSeat, (some (u_186, out_187, out_188) = some q_2) ∧ σ.t 4 = .ptr 4 [] 0 ∧ σ.t 5 = .ptr 5 [] 0 ∧ σ.t 84 = .sl 6 [] 0 strikes_23.length ∧ σ.t 85 = I (strikes_23.length : Int) ∧ σ.t 86 = I (i_1 : Int) ∧ σ.m 4 = some (.box true [I 0, I 0, .row true 3 0 []]) ∧ σ.m 5 = some (.box true [I (IntKind.i64.wrap (v1.Frame + 1)), I out_187, .row true 3 out_188.length (esSeat out_188)]) ∧ σ.m 6 = some (.row true 1 strikes_23.length (esInt strikes_23))) := ⟨_, rfl⟩
        refine aw_loopC (id := 5) I_2 M_2 J_2 (N, 0, out_118, out_119) ?_ ?_ ?_
        · rw [hI_2]
          refine ⟨eq_2, ?_⟩
          exact p_impl_Game_step_pv ff trivial
        · try clear ff
          rintro ⟨n_2, u_186, out_187, out_188⟩ σ hg_2
          rw [hI_2] at hg_2
          obtain ⟨h_2, g0_2, g1_2, g2_2, g3_2, g4_2, g5_2, g6_2, g7_2, g8_2, g9_2, g10_2⟩ := hg_2
          cases n_2 with
          | zero => rw [p_impl_Game_step_l2] at h_2; cases h_2
          | succ n_2 =>
            rw [p_impl_Game_step_l2] at h_2
            by_cases c204 : u_186 < (out_119.length : Int)
            case neg =>
             rw [if_neg c204] at h_2
             have dc204 := decide_eq_false c204
             have ff := And.intro @dr_1 (And.intro @w_1 (And.intro @kk1c (And.intro @kk1d (And.intro @kk1g0 (And.intro @g0_2 (And.intro @g1_2 (And.intro @g2_2 (And.intro @g3_2 (And.intro @g4_2 (And.intro @g5_2 (And.intro @g6_2 (And.intro @g7_2 (And.intro @g8_2 (And.intro @g9_2 (And.intro @g10_2 (And.intro @dc204 p_impl_Game_step_tf.down))))))))))))))))
             try refine st_by ff ?_
             repeat' (first | exact trivial | refine And.intro sd ?_)
             refine JW.intro ?_
             rw [hJ_2]
             refine ⟨u_186, out_187, out_188, h_2, ?_⟩
             exact p_impl_Game_step_pv ff trivial
            rw [if_pos c204] at h_2
            have dc204 := decide_eq_true c204
            obtain ⟨x205, ex205, h_2⟩ := Option.bind_eq_some_iff.1 h_2
            try dsimp only at h_2
            have f206a := idx_lo ex205
            have f206b := idx_hi ex205
            have f206c : (esSeat out_188).drop (u_186.toNat * 3) = eSeat x205 ++ esSeat (out_188.drop (u_186.toNat + 1)) := drop_enc (fun _ => rfl) (idx_get ex205)
            have f206g0 : (esSeat out_188).getD (u_186.toNat * 3) .junk = (eSeat x205).getD 0 .junk := getD_enc0 (enc := eSeat) (sz := 3) (fun _ => rfl) (idx_get ex205) (by decide)
            have f206g1 : (esSeat out_188).getD (u_186.toNat * 3 + 1) .junk = (eSeat x205).getD 1 .junk := getD_enc (enc := eSeat) (sz := 3) (fun _ => rfl) (idx_get ex205) (by decide)
            have f206g2 : (esSeat out_188).getD (u_186.toNat * 3 + 2) .junk = (eSeat x205).getD 2 .junk := getD_enc (enc := eSeat) (sz := 3) (fun _ => rfl) (idx_get ex205) (by decide)
            have ff := And.intro @dr_1 (And.intro @w_1 (And.intro @kk1c (And.intro @kk1d (And.intro @kk1g0 (And.intro @g0_2 (And.intro @g1_2 (And.intro @g2_2 (And.intro @g3_2 (And.intro @g4_2 (And.intro @g5_2 (And.intro @g6_2 (And.intro @g7_2 (And.intro @g8_2 (And.intro @g9_2 (And.intro @g10_2 (And.intro @dc204 (And.intro @f206c (And.intro @f206g0 (And.intro @f206g1 (And.intro @f206g2 p_impl_Game_step_tf.down))))))))))))))))))))
            try refine st_by ff ?_
            repeat' (first | exact trivial | refine And.intro sd ?_ | (refine aw_drawn (id := 25) ?_ [[], [], [0, 1], [0, 1, 2], [0, 1, 2, 3], [0, 1, 2, 3, 4], [0, 1, 2, 3, 4, 5], [0, 1, 2, 3, 4, 5, 6], [0, 1, 2, 3], [0, 1, 2, 3, 8], [0, 1, 2, 3], [0, 1, 2, 3, 8, 9, 10], [0, 1, 2, 3, 8, 9, 10, 11], [0, 1, 2, 3, 8, 9, 10, 11, 12], [0, 1, 2, 3, 4, 5, 6, 7, 8, 9, 10, 11, 12, 13], [0, 1, 2, 3, 4, 5, 6, 7, 8, 9, 10, 11, 12, 13, 14], [0, 1, 2, 3, 4, 5, 6, 7, 8, 9, 10, 11, 12, 13, 14, 15], [0, 1, 2, 3, 4, 5, 6, 7, 8, 9, 10, 11, 12, 13, 14, 15, 16], [0, 1, 2, 3, 4, 5, 6, 7, 8, 9, 10, 11, 12, 13, 14, 15, 16, 17], [0, 1, 2, 3, 4, 5, 6, 7, 8, 9, 10, 11, 12, 13, 14, 15, 16, 17, 18], [0, 1, 2, 3, 4, 5, 6, 7, 8, 9, 10, 11, 12, 13, 14, 15, 16, 17, 18, 19], [0, 1, 2, 3, 4, 5, 6, 7, 8, 9, 10, 11, 12, 13, 14, 15, 16, 17, 18, 19, 20], [0, 1, 2, 3, 4, 5, 6, 7, 8, 9, 10, 11, 12, 13, 14, 15, 16, 17, 18, 19, 20, 21], [0, 1, 2, 3, 4, 5, 6, 7, 8, 9, 10, 11, 12, 13, 14, 15, 16, 17, 18], [0, 1, 2, 3, 4, 5, 6, 7, 8, 9, 10, 11, 12, 13, 14, 15, 16, 17, 18, 23], [0, 1, 2, 3, 4, 5, 6, 7, 8, 9, 10, 11, 12, 13, 14, 15, 16, 17, 18], [0, 1, 2, 3, 4, 5, 6, 7, 8, 9, 10, 11, 12, 13, 14, 15, 16, 17, 18, 23, 24, 25], [0, 1, 2, 3, 4, 5, 6, 7, 8, 9, 10, 11, 12, 13, 14, 15, 16, 17, 18, 23, 24, 25, 26], [0, 1, 2, 3, 4, 5, 6, 7, 8, 9, 10, 11, 12, 13, 14, 15, 16, 17, 18, 23, 24, 25, 26, 27], [0, 1, 2, 3, 4, 5, 6, 7, 8, 9, 10, 11, 12, 13, 14, 15, 16, 17, 18, 19, 20, 21, 22, 23, 24, 25, 26, 27, 28], [0, 1, 2, 3, 4, 5, 6, 7, 8, 9, 10, 11, 12, 13, 14, 15, 16, 17, 18, 19, 20, 21, 22, 23, 24, 25, 26, 27, 28, 29], [0, 1, 2, 3, 4, 5, 6, 7, 8, 9, 10, 11, 12, 13, 14, 15, 16, 17, 18, 19, 20, 21, 22, 23, 24, 25, 26, 27, 28, 29, 30], [0, 1, 2, 3, 4, 5, 6, 7, 8, 9, 10, 11, 12, 13, 14, 15, 16, 17, 18, 19, 20, 21, 22, 23, 24, 25, 26, 27, 28, 29, 30, 31]] 29 ?_ ?_; (· kernel_rfl); (· kernel_rfl); refine st_by ff ?_))
            try clear ff
            generalize hk_2 : thenK _ _ = kk_2
            have key_2 : ∀ σ, (∃ b_207 : Bool, (p_impl_Game_step_j2 u_186 out_187 out_188 x205 (p_impl_Game_step_l2 out_119 x_1 n_2) b_207 = some q_2) ∧ σ.t 4 = .ptr 4 [] 0 ∧ σ.t 5 = .ptr 5 [] 0 ∧ σ.t 10 = I x_1 ∧ σ.t 12 = .ptr 5 [2] (u_186.toNat * 3) ∧ σ.t 84 = .sl 6 [] 0 strikes_23.length ∧ σ.t 85 = I (strikes_23.length : Int) ∧ σ.t 86 = I (i_1 : Int) ∧ σ.t 92 = I (out_119.length : Int) ∧ σ.t 93 = I u_186 ∧ σ.t 132 = B b_207 ∧ σ.m 4 = some (.box true [I 0, I 0, .row true 3 0 []]) ∧ σ.m 5 = some (.box true [I (IntKind.i64.wrap (v1.Frame + 1)), I out_187, .row true 3 out_188.length (esSeat out_188)]) ∧ σ.m 6 = some (.row true 1 strikes_23.length (esInt strikes_23))) → kk_2 .nm σ := by
              rintro σ ⟨b_207, h_2, g0_j2, g1_j2, g2_j2, g3_j2, g4_j2, g5_j2, g6_j2, g7_j2, g8_j2, g9_j2, g10_j2, g11_j2, g12_j2⟩
              rw [← hk_2]
              rw [p_impl_Game_step_j2] at h_2
              by_cases c208 : b_207 = true
              · rw [if_pos c208] at h_2
                have dc208 := c208
                have ff := And.intro @dr_1 (And.intro @w_1 (And.intro @kk1c (And.intro @kk1d (And.intro @kk1g0 (And.intro @dc204 (And.intro @f206c (And.intro @f206g0 (And.intro @f206g1 (And.intro @f206g2 (And.intro @g0_j2 (And.intro @g1_j2 (And.intro @g2_j2 (And.intro @g3_j2 (And.intro @g4_j2 (And.intro @g5_j2 (And.intro @g6_j2 (And.intro @g7_j2 (And.intro @g8_j2 (And.intro @g9_j2 (And.intro @g10_j2 (And.intro @g11_j2 (And.intro @g12_j2 (And.intro @dc208 p_impl_Game_step_tf.down)))))))))))))))))))))))
                try refine st_by ff ?_
                repeat' (first | exact trivial | refine And.intro sd ?_ | (refine aw_drawn (id := 25) ?_ [[], [], [0, 1], [0, 1, 2], [0, 1, 2, 3], [0, 1, 2, 3, 4], [0, 1, 2, 3, 4, 5], [0, 1, 2, 3, 4, 5, 6], [0, 1, 2, 3], [0, 1, 2, 3, 8], [0, 1, 2, 3], [0, 1, 2, 3, 8, 9, 10], [0, 1, 2, 3, 8, 9, 10, 11], [0, 1, 2, 3, 8, 9, 10, 11, 12], [0, 1, 2, 3, 4, 5, 6, 7, 8, 9, 10, 11, 12, 13], [0, 1, 2, 3, 4, 5, 6, 7, 8, 9, 10, 11, 12, 13, 14], [0, 1, 2, 3, 4, 5, 6, 7, 8, 9, 10, 11, 12, 13, 14, 15], [0, 1, 2, 3, 4, 5, 6, 7, 8, 9, 10, 11, 12, 13, 14, 15, 16], [0, 1, 2, 3, 4, 5, 6, 7, 8, 9, 10, 11, 12, 13, 14, 15, 16, 17], [0, 1, 2, 3, 4, 5, 6, 7, 8, 9, 10, 11, 12, 13, 14, 15, 16, 17, 18], [0, 1, 2, 3, 4, 5, 6, 7, 8, 9, 10, 11, 12, 13, 14, 15, 16, 17, 18, 19], [0, 1, 2, 3, 4, 5, 6, 7, 8, 9, 10, 11, 12, 13, 14, 15, 16, 17, 18, 19, 20], [0, 1, 2, 3, 4, 5, 6, 7, 8, 9, 10, 11, 12, 13, 14, 15, 16, 17, 18, 19, 20, 21], [0, 1, 2, 3, 4, 5, 6, 7, 8, 9, 10, 11, 12, 13, 14, 15, 16, 17, 18], [0, 1, 2, 3, 4, 5, 6, 7, 8, 9, 10, 11, 12, 13, 14, 15, 16, 17, 18, 23], [0, 1, 2, 3, 4, 5, 6, 7, 8, 9, 10, 11, 12, 13, 14, 15, 16, 17, 18], [0, 1, 2, 3, 4, 5, 6, 7, 8, 9, 10, 11, 12, 13, 14, 15, 16, 17, 18, 23, 24, 25], [0, 1, 2, 3, 4, 5, 6, 7, 8, 9, 10, 11, 12, 13, 14, 15, 16, 17, 18, 23, 24, 25, 26], [0, 1, 2, 3, 4, 5, 6, 7, 8, 9, 10, 11, 12, 13, 14, 15, 16, 17, 18, 23, 24, 25, 26, 27], [0, 1, 2, 3, 4, 5, 6, 7, 8, 9, 10, 11, 12, 13, 14, 15, 16, 17, 18, 19, 20, 21, 22, 23, 24, 25, 26, 27, 28], [0, 1, 2, 3, 4, 5, 6, 7, 8, 9, 10, 11, 12, 13, 14, 15, 16, 17, 18, 19, 20, 21, 22, 23, 24, 25, 26, 27, 28, 29], [0, 1, 2, 3, 4, 5, 6, 7, 8, 9, 10, 11, 12, 13, 14, 15, 16, 17, 18, 19, 20, 21, 22, 23, 24, 25, 26, 27, 28, 29, 30], [0, 1, 2, 3, 4, 5, 6, 7, 8, 9, 10, 11, 12, 13, 14, 15, 16, 17, 18, 19, 20, 21, 22, 23, 24, 25, 26, 27, 28, 29, 30, 31]] 29 ?_ ?_; (· kernel_rfl); (· kernel_rfl); refine st_by ff ?_))
                refine Back.intro (n_2, (IntKind.i64.wrap (u_186 + 1)), out_187, out_188) ?_ ?_
                · rw [hM_2]; exact Nat.lt_succ_self _
                rw [hI_2]
                refine ⟨h_2, ?_⟩
                exact p_impl_Game_step_pv ff trivial
              rw [if_neg c208] at h_2
              have dc208 := eq_false_of_ne_true c208
              obtain ⟨v209, ev209, h_2⟩ := Option.bind_eq_some_iff.1 h_2
              try dsimp only at h_2
              have ff := And.intro @dr_1 (And.intro @w_1 (And.intro @kk1c (And.intro @kk1d (And.intro @kk1g0 (And.intro @dc204 (And.intro @f206c (And.intro @f206g0 (And.intro @f206g1 (And.intro @f206g2 (And.intro @g0_j2 (And.intro @g1_j2 (And.intro @g2_j2 (And.intro @g3_j2 (And.intro @g4_j2 (And.intro @g5_j2 (And.intro @g6_j2 (And.intro @g7_j2 (And.intro @g8_j2 (And.intro @g9_j2 (And.intro @g10_j2 (And.intro @g11_j2 (And.intro @g12_j2 (And.intro @dc208 p_impl_Game_step_tf.down)))))))))))))))))))))))
              try refine st_by ff ?_
              repeat' (first | exact trivial | refine And.intro sd ?_ | (refine aw_drawn (id := 25) ?_ [[], [], [0, 1], [0, 1, 2], [0, 1, 2, 3], [0, 1, 2, 3, 4], [0, 1, 2, 3, 4, 5], [0, 1, 2, 3, 4, 5, 6], [0, 1, 2, 3], [0, 1, 2, 3, 8], [0, 1, 2, 3], [0, 1, 2, 3, 8, 9, 10], [0, 1, 2, 3, 8, 9, 10, 11], [0, 1, 2, 3, 8, 9, 10, 11, 12], [0, 1, 2, 3, 4, 5, 6, 7, 8, 9, 10, 11, 12, 13], [0, 1, 2, 3, 4, 5, 6, 7, 8, 9, 10, 11, 12, 13, 14], [0, 1, 2, 3, 4, 5, 6, 7, 8, 9, 10, 11, 12, 13, 14, 15], [0, 1, 2, 3, 4, 5, 6, 7, 8, 9, 10, 11, 12, 13, 14, 15, 16], [0, 1, 2, 3, 4, 5, 6, 7, 8, 9, 10, 11, 12, 13, 14, 15, 16, 17], [0, 1, 2, 3, 4, 5, 6, 7, 8, 9, 10, 11, 12, 13, 14, 15, 16, 17, 18], [0, 1, 2, 3, 4, 5, 6, 7, 8, 9, 10, 11, 12, 13, 14, 15, 16, 17, 18, 19], [0, 1, 2, 3, 4, 5, 6, 7, 8, 9, 10, 11, 12, 13, 14, 15, 16, 17, 18, 19, 20], [0, 1, 2, 3, 4, 5, 6, 7, 8, 9, 10, 11, 12, 13, 14, 15, 16, 17, 18, 19, 20, 21], [0, 1, 2, 3, 4, 5, 6, 7, 8, 9, 10, 11, 12, 13, 14, 15, 16, 17, 18], [0, 1, 2, 3, 4, 5, 6, 7, 8, 9, 10, 11, 12, 13, 14, 15, 16, 17, 18, 23], [0, 1, 2, 3, 4, 5, 6, 7, 8, 9, 10, 11, 12, 13, 14, 15, 16, 17, 18], [0, 1, 2, 3, 4, 5, 6, 7, 8, 9, 10, 11, 12, 13, 14, 15, 16, 17, 18, 23, 24, 25], [0, 1, 2, 3, 4, 5, 6, 7, 8, 9, 10, 11, 12, 13, 14, 15, 16, 17, 18, 23, 24, 25, 26], [0, 1, 2, 3, 4, 5, 6, 7, 8, 9, 10, 11, 12, 13, 14, 15, 16, 17, 18, 23, 24, 25, 26, 27], [0, 1, 2, 3, 4, 5, 6, 7, 8, 9, 10, 11, 12, 13, 14, 15, 16, 17, 18, 19, 20, 21, 22, 23, 24, 25, 26, 27, 28], [0, 1, 2, 3, 4, 5, 6, 7, 8, 9, 10, 11, 12, 13, 14, 15, 16, 17, 18, 19, 20, 21, 22, 23, 24, 25, 26, 27, 28, 29], [0, 1, 2, 3, 4, 5, 6, 7, 8, 9, 10, 11, 12, 13, 14, 15, 16, 17, 18, 19, 20, 21, 22, 23, 24, 25, 26, 27, 28, 29, 30], [0, 1, 2, 3, 4, 5, 6, 7, 8, 9, 10, 11, 12, 13, 14, 15, 16, 17, 18, 19, 20, 21, 22, 23, 24, 25, 26, 27, 28, 29, 30, 31]] 29 ?_ ?_; (· kernel_rfl); (· kernel_rfl); refine st_by ff ?_))
              first
              | (refine cq_call (p_impl_NextCoin_does out_187 v209 ev209) (hf_by ff) kr ⟨p_impl_Game_step_sa ff trivial, ?_⟩; clear ff)
              | (refine cq_dcall (p_impl_NextCoin_does out_187 v209 ev209) (hf_by ff) kr ⟨p_impl_Game_step_sa ff trivial, ?_⟩; clear ff)
              by_cases c210 : (Int.tmod v209.2 2) = 0
              case neg =>
               rw [if_neg c210] at h_2
               have dc210 := beq_no c210
               have ff := And.intro @dr_1 (And.intro @w_1 (And.intro @kk1c (And.intro @kk1d (And.intro @kk1g0 (And.intro @dc204 (And.intro @f206c (And.intro @f206g0 (And.intro @f206g1 (And.intro @f206g2 (And.intro @g0_j2 (And.intro @g1_j2 (And.intro @g2_j2 (And.intro @g3_j2 (And.intro @g4_j2 (And.intro @g5_j2 (And.intro @g6_j2 (And.intro @g7_j2 (And.intro @g8_j2 (And.intro @g9_j2 (And.intro @g10_j2 (And.intro @g11_j2 (And.intro @g12_j2 (And.intro @dc208 (And.intro @dc210 p_impl_Game_step_tf.down))))))))))))))))))))))))
               try refine st_by ff ?_
               repeat' (first | exact trivial | refine And.intro sd ?_)
               refine Back.intro (n_2, (IntKind.i64.wrap (u_186 + 1)), v209.1, out_188) ?_ ?_
               · rw [hM_2]; exact Nat.lt_succ_self _
               rw [hI_2]
               refine ⟨h_2, ?_⟩
               exact p_impl_Game_step_pv ff trivial
              rw [if_pos c210] at h_2
              have dc210 := beq_yes c210
              have w211l : u_186.toNat < out_188.length := (List.getElem?_eq_some_iff.1 (idx_get ex205)).1
              have w211a : (esSeat out_188).set (u_186.toNat * 3 + 2) (I (if (0 : Int) > (IntKind.i64.wrap (x205.Hp - 1)) then 0 else (IntKind.i64.wrap (x205.Hp - 1)))) = esSeat (out_188.set u_186.toNat (⟨x205.X, x205.Y, (if (0 : Int) > (IntKind.i64.wrap (x205.Hp - 1)) then 0 else (IntKind.i64.wrap (x205.Hp - 1)))⟩ : GSeat)) := set_enc (enc := eSeat) (sz := 3) (fun _ => rfl) (idx_get ex205) (by decide) rfl
              have w211b : (out_188.set u_186.toNat (⟨x205.X, x205.Y, (if (0 : Int) > (IntKind.i64.wrap (x205.Hp - 1)) then 0 else (IntKind.i64.wrap (x205.Hp - 1)))⟩ : GSeat)).length = out_188.length := List.length_set
              have ff := And.intro @dr_1 (And.intro @w_1 (And.intro @kk1c (And.intro @kk1d (And.intro @kk1g0 (And.intro @dc204 (And.intro @f206c (And.intro @f206g0 (And.intro @f206g1 (And.intro @f206g2 (And.intro @g0_j2 (And.intro @g1_j2 (And.intro @g2_j2 (And.intro @g3_j2 (And.intro @g4_j2 (And.intro @g5_j2 (And.intro @g6_j2 (And.intro @g7_j2 (And.intro @g8_j2 (And.intro @g9_j2 (And.intro @g10_j2 (And.intro @g11_j2 (And.intro @g12_j2 (And.intro @dc208 (And.intro @dc210 (And.intro @w211a p_impl_Game_step_tf.down)))))))))))))))))))))))))
              try refine st_by ff ?_
              repeat' (first | exact trivial | refine And.intro sd ?_)
              refine Back.intro (n_2, (IntKind.i64.wrap (u_186 + 1)), v209.1, (out_188.set u_186.toNat (⟨x205.X, x205.Y, (if (0 : Int) > (IntKind.i64.wrap (x205.Hp - 1)) then 0 else (IntKind.i64.wrap (x205.Hp - 1)))⟩ : GSeat))) ?_ ?_
              · rw [hM_2]; exact Nat.lt_succ_self _
              rw [hI_2]
              refine ⟨h_2, ?_⟩
              exact p_impl_Game_step_pv ff trivial
            have hrt_2 := fun σ : ASt => congrFun (congrFun hk_2.symm AX.rt) σ
            have hex_2 := fun (i : Nat) (σ : ASt) => congrFun (congrFun hk_2.symm (AX.ex i)) σ
            by_cases c213 : u_186 = x_1
            · rw [if_pos c213] at h_2
              have dc213 := beq_yes c213
              have ff := And.intro @dr_1 (And.intro @w_1 (And.intro @kk1c (And.intro @kk1d (And.intro @kk1g0 (And.intro @g0_2 (And.intro @g1_2 (And.intro @g2_2 (And.intro @g3_2 (And.intro @g4_2 (And.intro @g5_2 (And.intro @g6_2 (And.intro @g7_2 (And.intro @g8_2 (And.intro @g9_2 (And.intro @g10_2 (And.intro @dc204 (And.intro @f206c (And.intro @f206g0 (And.intro @f206g1 (And.intro @f206g2 (And.intro @hrt_2 (And.intro @hex_2 (And.intro @dc213 p_impl_Game_step_tf.down)))))))))))))))))))))))
              try refine st_by ff ?_
              repeat' (first | exact trivial | refine And.intro sd ?_ | (refine aw_drawn (id := 25) ?_ [[], [], [0, 1], [0, 1, 2], [0, 1, 2, 3], [0, 1, 2, 3, 4], [0, 1, 2, 3, 4, 5], [0, 1, 2, 3, 4, 5, 6], [0, 1, 2, 3], [0, 1, 2, 3, 8], [0, 1, 2, 3], [0, 1, 2, 3, 8, 9, 10], [0, 1, 2, 3, 8, 9, 10, 11], [0, 1, 2, 3, 8, 9, 10, 11, 12], [0, 1, 2, 3, 4, 5, 6, 7, 8, 9, 10, 11, 12, 13], [0, 1, 2, 3, 4, 5, 6, 7, 8, 9, 10, 11, 12, 13, 14], [0, 1, 2, 3, 4, 5, 6, 7, 8, 9, 10, 11, 12, 13, 14, 15], [0, 1, 2, 3, 4, 5, 6, 7, 8, 9, 10, 11, 12, 13, 14, 15, 16], [0, 1, 2, 3, 4, 5, 6, 7, 8, 9, 10, 11, 12, 13, 14, 15, 16, 17], [0, 1, 2, 3, 4, 5, 6, 7, 8, 9, 10, 11, 12, 13, 14, 15, 16, 17, 18], [0, 1, 2, 3, 4, 5, 6, 7, 8, 9, 10, 11, 12, 13, 14, 15, 16, 17, 18, 19], [0, 1, 2, 3, 4, 5, 6, 7, 8, 9, 10, 11, 12, 13, 14, 15, 16, 17, 18, 19, 20], [0, 1, 2, 3, 4, 5, 6, 7, 8, 9, 10, 11, 12, 13, 14, 15, 16, 17, 18, 19, 20, 21], [0, 1, 2, 3, 4, 5, 6, 7, 8, 9, 10, 11, 12, 13, 14, 15, 16, 17, 18], [0, 1, 2, 3, 4, 5, 6, 7, 8, 9, 10, 11, 12, 13, 14, 15, 16, 17, 18, 23], [0, 1, 2, 3, 4, 5, 6, 7, 8, 9, 10, 11, 12, 13, 14, 15, 16, 17, 18], [0, 1, 2, 3, 4, 5, 6, 7, 8, 9, 10, 11, 12, 13, 14, 15, 16, 17, 18, 23, 24, 25], [0, 1, 2, 3, 4, 5, 6, 7, 8, 9, 10, 11, 12, 13, 14, 15, 16, 17, 18, 23, 24, 25, 26], [0, 1, 2, 3, 4, 5, 6, 7, 8, 9, 10, 11, 12, 13, 14, 15, 16, 17, 18, 23, 24, 25, 26, 27], [0, 1, 2, 3, 4, 5, 6, 7, 8, 9, 10, 11, 12, 13, 14, 15, 16, 17, 18, 19, 20, 21, 22, 23, 24, 25, 26, 27, 28], [0, 1, 2, 3, 4, 5, 6, 7, 8, 9, 10, 11, 12, 13, 14, 15, 16, 17, 18, 19, 20, 21, 22, 23, 24, 25, 26, 27, 28, 29], [0, 1, 2, 3, 4, 5, 6, 7, 8, 9, 10, 11, 12, 13, 14, 15, 16, 17, 18, 19, 20, 21, 22, 23, 24, 25, 26, 27, 28, 29, 30], [0, 1, 2, 3, 4, 5, 6, 7, 8, 9, 10, 11, 12, 13, 14, 15, 16, 17, 18, 19, 20, 21, 22, 23, 24, 25, 26, 27, 28, 29, 30, 31]] 29 ?_ ?_; (· kernel_rfl); (· kernel_rfl); refine st_by ff ?_))
              refine key_2 _ ?_
              refine ⟨true, h_2, ?_⟩
              exact p_impl_Game_step_pv ff trivial
            rw [if_neg c213] at h_2
            have dc213 := beq_no c213
            obtain ⟨x214, ex214, h_2⟩ := Option.bind_eq_some_iff.1 h_2
            try dsimp only at h_2
            have f215a := idx_lo ex214
            have f215b := idx_hi ex214
            have f215c : (esSeat out_188).drop (x_1.toNat * 3) = eSeat x214 ++ esSeat (out_188.drop (x_1.toNat + 1)) := drop_enc (fun _ => rfl) (idx_get ex214)
            have f215g0 : (esSeat out_188).getD (x_1.toNat * 3) .junk = (eSeat x214).getD 0 .junk := getD_enc0 (enc := eSeat) (sz := 3) (fun _ => rfl) (idx_get ex214) (by decide)
            have f215g1 : (esSeat out_188).getD (x_1.toNat * 3 + 1) .junk = (eSeat x214).getD 1 .junk := getD_enc (enc := eSeat) (sz := 3) (fun _ => rfl) (idx_get ex214) (by decide)
            have f215g2 : (esSeat out_188).getD (x_1.toNat * 3 + 2) .junk = (eSeat x214).getD 2 .junk := getD_enc (enc := eSeat) (sz := 3) (fun _ => rfl) (idx_get ex214) (by decide)
            obtain ⟨v216, ev216, h_2⟩ := Option.bind_eq_some_iff.1 h_2
            try dsimp only at h_2
            have ff := And.intro @dr_1 (And.intro @w_1 (And.intro @kk1c (And.intro @kk1d (And.intro @kk1g0 (And.intro @g0_2 (And.intro @g1_2 (And.intro @g2_2 (And.intro @g3_2 (And.intro @g4_2 (And.intro @g5_2 (And.intro @g6_2 (And.intro @g7_2 (And.intro @g8_2 (And.intro @g9_2 (And.intro @g10_2 (And.intro @dc204 (And.intro @f206c (And.intro @f206g0 (And.intro @f206g1 (And.intro @f206g2 (And.intro @hrt_2 (And.intro @hex_2 (And.intro @dc213 (And.intro @f215c (And.intro @f215g0 (And.intro @f215g1 (And.intro @f215g2 p_impl_Game_step_tf.down)))))))))))))))))))))))))))
            try refine st_by ff ?_
            repeat' (first | exact trivial | refine And.intro sd ?_ | (refine aw_drawn (id := 25) ?_ [[], [], [0, 1], [0, 1, 2], [0, 1, 2, 3], [0, 1, 2, 3, 4], [0, 1, 2, 3, 4, 5], [0, 1, 2, 3, 4, 5, 6], [0, 1, 2, 3], [0, 1, 2, 3, 8], [0, 1, 2, 3], [0, 1, 2, 3, 8, 9, 10], [0, 1, 2, 3, 8, 9, 10, 11], [0, 1, 2, 3, 8, 9, 10, 11, 12], [0, 1, 2, 3, 4, 5, 6, 7, 8, 9, 10, 11, 12, 13], [0, 1, 2, 3, 4, 5, 6, 7, 8, 9, 10, 11, 12, 13, 14], [0, 1, 2, 3, 4, 5, 6, 7, 8, 9, 10, 11, 12, 13, 14, 15], [0, 1, 2, 3, 4, 5, 6, 7, 8, 9, 10, 11, 12, 13, 14, 15, 16], [0, 1, 2, 3, 4, 5, 6, 7, 8, 9, 10, 11, 12, 13, 14, 15, 16, 17], [0, 1, 2, 3, 4, 5, 6, 7, 8, 9, 10, 11, 12, 13, 14, 15, 16, 17, 18], [0, 1, 2, 3, 4, 5, 6, 7, 8, 9, 10, 11, 12, 13, 14, 15, 16, 17, 18, 19], [0, 1, 2, 3, 4, 5, 6, 7, 8, 9, 10, 11, 12, 13, 14, 15, 16, 17, 18, 19, 20], [0, 1, 2, 3, 4, 5, 6, 7, 8, 9, 10, 11, 12, 13, 14, 15, 16, 17, 18, 19, 20, 21], [0, 1, 2, 3, 4, 5, 6, 7, 8, 9, 10, 11, 12, 13, 14, 15, 16, 17, 18], [0, 1, 2, 3, 4, 5, 6, 7, 8, 9, 10, 11, 12, 13, 14, 15, 16, 17, 18, 23], [0, 1, 2, 3, 4, 5, 6, 7, 8, 9, 10, 11, 12, 13, 14, 15, 16, 17, 18], [0, 1, 2, 3, 4, 5, 6, 7, 8, 9, 10, 11, 12, 13, 14, 15, 16, 17, 18, 23, 24, 25], [0, 1, 2, 3, 4, 5, 6, 7, 8, 9, 10, 11, 12, 13, 14, 15, 16, 17, 18, 23, 24, 25, 26], [0, 1, 2, 3, 4, 5, 6, 7, 8, 9, 10, 11, 12, 13, 14, 15, 16, 17, 18, 23, 24, 25, 26, 27], [0, 1, 2, 3, 4, 5, 6, 7, 8, 9, 10, 11, 12, 13, 14, 15, 16, 17, 18, 19, 20, 21, 22, 23, 24, 25, 26, 27, 28], [0, 1, 2, 3, 4, 5, 6, 7, 8, 9, 10, 11, 12, 13, 14, 15, 16, 17, 18, 19, 20, 21, 22, 23, 24, 25, 26, 27, 28, 29], [0, 1, 2, 3, 4, 5, 6, 7, 8, 9, 10, 11, 12, 13, 14, 15, 16, 17, 18, 19, 20, 21, 22, 23, 24, 25, 26, 27, 28, 29, 30], [0, 1, 2, 3, 4, 5, 6, 7, 8, 9, 10, 11, 12, 13, 14, 15, 16, 17, 18, 19, 20, 21, 22, 23, 24, 25, 26, 27, 28, 29, 30, 31]] 29 ?_ ?_; (· kernel_rfl); (· kernel_rfl); refine st_by ff ?_))
            first
            | (refine cq_call (p_impl_size_does (IntKind.i64.wrap (x205.X - x214.X)) v216 ev216) (hf_by ff) kr ⟨p_impl_Game_step_sa ff trivial, ?_⟩; clear ff)
            | (refine cq_dcall (p_impl_size_does (IntKind.i64.wrap (x205.X - x214.X)) v216 ev216) (hf_by ff) kr ⟨p_impl_Game_step_sa ff trivial, ?_⟩; clear ff)
            by_cases c217 : v216 > 1
            · rw [if_pos c217] at h_2
              have dc217 := decide_eq_true c217
              have ff := And.intro @dr_1 (And.intro @w_1 (And.intro @kk1c (And.intro @kk1d (And.intro @kk1g0 (And.intro @g0_2 (And.intro @g1_2 (And.intro @g2_2 (And.intro @g3_2 (And.intro @g4_2 (And.intro @g5_2 (And.intro @g6_2 (And.intro @g7_2 (And.intro @g8_2 (And.intro @g9_2 (And.intro @g10_2 (And.intro @dc204 (And.intro @f206c (And.intro @f206g0 (And.intro @f206g1 (And.intro @f206g2 (And.intro @hrt_2 (And.intro @hex_2 (And.intro @dc213 (And.intro @f215c (And.intro @f215g0 (And.intro @f215g1 (And.intro @f215g2 (And.intro @dc217 p_impl_Game_step_tf.down))))))))))))))))))))))))))))
              try refine st_by ff ?_
              repeat' (first | exact trivial | refine And.intro sd ?_)
              refine key_2 _ ?_
              refine ⟨true, h_2, ?_⟩
              exact p_impl_Game_step_pv ff trivial
            rw [if_neg c217] at h_2
            have dc217 := decide_eq_false c217
            obtain ⟨v218, ev218, h_2⟩ := Option.bind_eq_some_iff.1 h_2
            try dsimp only at h_2
            have ff := And.intro @dr_1 (And.intro @w_1 (And.intro @kk1c (And.intro @kk1d (And.intro @kk1g0 (And.intro @g0_2 (And.intro @g1_2 (And.intro @g2_2 (And.intro @g3_2 (And.intro @g4_2 (And.intro @g5_2 (And.intro @g6_2 (And.intro @g7_2 (And.intro @g8_2 (And.intro @g9_2 (And.intro @g10_2 (And.intro @dc204 (And.intro @f206c (And.intro @f206g0 (And.intro @f206g1 (And.intro @f206g2 (And.intro @hrt_2 (And.intro @hex_2 (And.intro @dc213 (And.intro @f215c (And.intro @f215g0 (And.intro @f215g1 (And.intro @f215g2 (And.intro @dc217 p_impl_Game_step_tf.down))))))))))))))))))))))))))))
            try refine st_by ff ?_
            repeat' (first | exact trivial | refine And.intro sd ?_)
            first
            | (refine cq_call (p_impl_size_does (IntKind.i64.wrap (x205.Y - x214.Y)) v218 ev218) (hf_by ff) kr ⟨p_impl_Game_step_sa ff trivial, ?_⟩; clear ff)
            | (refine cq_dcall (p_impl_size_does (IntKind.i64.wrap (x205.Y - x214.Y)) v218 ev218) (hf_by ff) kr ⟨p_impl_Game_step_sa ff trivial, ?_⟩; clear ff)
            have ff := And.intro @dr_1 (And.intro @w_1 (And.intro @kk1c (And.intro @kk1d (And.intro @kk1g0 (And.intro @g0_2 (And.intro @g1_2 (And.intro @g2_2 (And.intro @g3_2 (And.intro @g4_2 (And.intro @g5_2 (And.intro @g6_2 (And.intro @g7_2 (And.intro @g8_2 (And.intro @g9_2 (And.intro @g10_2 (And.intro @dc204 (And.intro @f206c (And.intro @f206g0 (And.intro @f206g1 (And.intro @f206g2 (And.intro @hrt_2 (And.intro @hex_2 (And.intro @dc213 (And.intro @f215c (And.intro @f215g0 (And.intro @f215g1 (And.intro @f215g2 (And.intro @dc217 p_impl_Game_step_tf.down))))))))))))))))))))))))))))
            try refine st_by ff ?_
            repeat' (first | exact trivial | refine And.intro sd ?_)
            refine key_2 _ ?_
            refine ⟨decide (v218 > 1), h_2, ?_⟩
            exact p_impl_Game_step_pv ff trivial
        · try clear ff
          rintro σ hg_2
          rw [hJ_2] at hg_2
          obtain ⟨u_186, out_187, out_188, hj_2, g0_2a, g1_2a, g2_2a, g3_2a, g4_2a, g5_2a, g6_2a, g7_2a⟩ := hg_2
          cases hj_2
          try dsimp only at h_1
          have ff := And.intro @dr_1 (And.intro @w_1 (And.intro @kk1c (And.intro @kk1d (And.intro @kk1g0 (And.intro @g0_2a (And.intro @g1_2a (And.intro @g2_2a (And.intro @g3_2a (And.intro @g4_2a (And.intro @g5_2a (And.intro @g6_2a (And.intro @g7_2a p_impl_Game_step_tf.down))))))))))))
          try refine st_by ff ?_
          repeat' (first | exact trivial | refine And.intro sd ?_)
          refine Back.intro (i_1 + 1, out_187, out_188) ?_ ?_
          · clear ff; rw [hM_1]; show strikes_23.length - (i_1 + 1) < strikes_23.length - i_1; omega
          rw [hI_1]
          refine ⟨⟨by clear ff; show i_1 + 1 ≤ strikes_23.length; omega, by show p_impl_Game_step_l1 N (strikes_23.drop (i_1 + 1)) (i_1 + 1) out_187 out_188 = some q_1; rw [hd_1]; exact h_1⟩, ?_⟩
          exact p_impl_Game_step_pv ff trivial
    · try clear ff
      rintro σ hg_1
      rw [hJ_1] at hg_1
      obtain ⟨out_118, out_119, hj_1, g0_1a, g1_1a, g2_1a, g3_1a⟩ := hg_1
      cases hj_1
      try dsimp only at h
      have ff := And.intro @g0_1a (And.intro @g1_1a (And.intro @g2_1a (And.intro @g3_1a p_impl_Game_step_tf.down)))
      try refine st_by ff ?_
      repeat' (first | exact trivial | refine And.intro sd ?_)
      cases h
      exact ret_q1 rfl (p_impl_Game_step_rt ff trivial)
/-! impl.StepGame -/
def p_impl_StepGame_j0 (N : Nat) (g_a0 : GGame) (inputs_a1 : List Int) (b_2 : Bool) : Option (GGame × Bool) := (if b_2 = true then some ((⟨0, 0, ([] : List GSeat)⟩ : GGame), false) else ((p_impl_Game_step N g_a0 inputs_a1).bind fun v4 => some ((⟨v4.Frame, v4.Coin, v4.Seats⟩ : GGame), true)))
theorem p_impl_StepGame_pv {F C A : Prop} (hF : F) (hC : C) (h : F → C → A := by intro hF hC; first | exact cl_by hF | (refine st_by hF ?_; (repeat' (first | exact trivial | apply And.intro)); all_goals (clear hF; first | rfl | (simp only [hC, List.length_append, List.length_cons, List.length_nil, List.append_nil, List.nil_append, List.cons_append, List.length_set, List.append_assoc, Nat.zero_add, List.length_replicate, esInt_app, esInt_cons, esInt_nil, eInt_eq, esGame_app, esGame_cons, esGame_nil, eGame_eq, esGameo_app, esGameo_cons, esGameo_nil, eGameo_eq, esSeat_app, esSeat_cons, esSeat_nil, eSeat_eq]; done) | (simp [hC, List.length_append, List.length_cons, List.length_nil, List.append_nil, List.nil_append, List.cons_append, List.length_set, List.append_assoc, Nat.zero_add, List.length_replicate, esInt_app, esInt_cons, esInt_nil, eInt_eq, esGame_app, esGame_cons, esGame_nil, eGame_eq, esGameo_app, esGameo_cons, esGameo_nil, eGameo_eq, esSeat_app, esSeat_cons, esSeat_nil, eSeat_eq]; done) | omega))) : A := h hF hC
theorem p_impl_StepGame_sa {F C A : Prop} (hF : F) (hC : C) (h : F → C → A := by intro hF hC; first | exact ca_by hF | (refine sa_by hF ?_; (repeat' (first | exact trivial | apply And.intro)); all_goals (clear hF; first | rfl | (simp only [hC, List.length_append, List.length_cons, List.length_nil, List.append_nil, List.nil_append, List.cons_append, List.length_set, List.append_assoc, Nat.zero_add, List.length_replicate, esInt_app, esInt_cons, esInt_nil, eInt_eq, esGame_app, esGame_cons, esGame_nil, eGame_eq, esGameo_app, esGameo_cons, esGameo_nil, eGameo_eq, esSeat_app, esSeat_cons, esSeat_nil, eSeat_eq]; done) | (simp [hC, List.length_append, List.length_cons, List.length_nil, List.append_nil, List.nil_append, List.cons_append, List.length_set, List.append_assoc, Nat.zero_add, List.length_replicate, esInt_app, esInt_cons, esInt_nil, eInt_eq, esGame_app, esGame_cons, esGame_nil, eGame_eq, esGameo_app, esGameo_cons, esGameo_nil, eGameo_eq, esSeat_app, esSeat_cons, esSeat_nil, eSeat_eq]; done) | omega))) : A := h hF hC
theorem p_impl_StepGame_rt {F C A : Prop} (hF : F) (hC : C) (h : F → C → A := by intro hF hC; first | (refine sr_by hF ?_; (repeat' (first | exact trivial | apply And.intro)); all_goals (clear hF; first | rfl | (simp only [hC, List.length_append, List.length_cons, List.length_nil, List.append_nil, List.nil_append, List.cons_append, List.length_set, List.append_assoc, Nat.zero_add, List.length_replicate, esInt_app, esInt_cons, esInt_nil, eInt_eq, esGame_app, esGame_cons, esGame_nil, eGame_eq, esGameo_app, esGameo_cons, esGameo_nil, eGameo_eq, esSeat_app, esSeat_cons, esSeat_nil, eSeat_eq]; done) | (simp [hC, List.length_append, List.length_cons, List.length_nil, List.append_nil, List.nil_append, List.cons_append, List.length_set, List.append_assoc, Nat.zero_add, List.length_replicate, esInt_app, esInt_cons, esInt_nil, eInt_eq, esGame_app, esGame_cons, esGame_nil, eGame_eq, esGameo_app, esGameo_cons, esGameo_nil, eGameo_eq, esSeat_app, esSeat_cons, esSeat_nil, eSeat_eq]; done) | omega)) | (first | rfl | (simp only [hC, List.length_append, List.length_cons, List.length_nil, List.append_nil, List.nil_append, List.cons_append, List.length_set, List.append_assoc, Nat.zero_add, List.length_replicate, esInt_app, esInt_cons, esInt_nil, eInt_eq, esGame_app, esGame_cons, esGame_nil, eGame_eq, esGameo_app, esGameo_cons, esGameo_nil, eGameo_eq, esSeat_app, esSeat_cons, esSeat_nil, eSeat_eq]; done) | (simp [hC, List.length_append, List.length_cons, List.length_nil, List.append_nil, List.nil_append, List.cons_append, List.length_set, List.append_assoc, Nat.zero_add, List.length_replicate, esInt_app, esInt_cons, esInt_nil, eInt_eq, esGame_app, esGame_cons, esGame_nil, eGame_eq, esGameo_app, esGameo_cons, esGameo_nil, eGameo_eq, esSeat_app, esSeat_cons, esSeat_nil, eSeat_eq]; done) | omega)) : A := h hF hC
def p_impl_StepGame_tf := PLift.up (And.intro @eInt_eq (And.intro @esInt_len (And.intro @esInt_nil (And.intro @esInt_leaf (And.intro @esInt_fit (And.intro @eGame_eq (And.intro @esGame_len (And.intro @esGame_nil (And.intro @esGame_leaf (And.intro @esGame_fit (And.intro @eGameo_eq (And.intro @esGameo_len (And.intro @esGameo_nil (And.intro @eSeat_eq (And.intro @esSeat_len (And.intro @esSeat_nil (And.intro @esSeat_leaf (And.intro @esSeat_fit (And.intro @esInt_share (And.intro @esInt_pure (And.intro @esGameo_share (And.intro @esGameo_pure (And.intro @esSeat_share (And.intro @esSeat_pure (And.intro @str_beq (And.intro @Ty.nz73 (And.intro @Ty.ldA73 (And.intro @Ty.sz73 (And.intro @Ty.szn73 (And.intro @Ty.nz3 (And.intro @Ty.ldA3 (And.intro @Ty.ldS3 (And.intro @Ty.sz3 (And.intro @Ty.szn3 (And.intro @Ty.nz71 (And.intro @Ty.ldA71 (And.intro @Ty.ldS71 (And.intro @Ty.sz71 (And.intro @Ty.szn71 (And.intro @Ty.fo73_0 (And.intro @Ty.fk73_0 (And.intro @Ty.fs73_0 (And.intro @Ty.fn73_0 (And.intro @Ty.fo73_2 (And.intro @Ty.fk73_2 (And.intro @Ty.fs73_2 (And.intro @Ty.fn73_2 (And.intro @Ty.sl71 (And.intro @Ty.zv73 (And.intro @Ty.bd73 (And.intro @Ty.ag73 @trivial)))))))))))))))))))))))))))))))))))))))))))))))))))
def p_impl_StepGame (N : Nat) (g_a0 : GGame) (inputs_a1 : List Int) : Option (GGame × Bool) := ((p_impl_GoodGame g_a0).bind fun v1 => (if v1 = true then (if g_a0.Frame = 60 then p_impl_StepGame_j0 N g_a0 inputs_a1 true else ((p_impl_areInputs inputs_a1 (g_a0.Seats.length : Int)).bind fun v7 => p_impl_StepGame_j0 N g_a0 inputs_a1 (!v7))) else p_impl_StepGame_j0 N g_a0 inputs_a1 true))
theorem p_impl_StepGame_does (N : Nat) (g_a0 : GGame) (inputs_a1 : List Int) (r : GGame × Bool) (h : p_impl_StepGame N g_a0 inputs_a1 = some r) : Does Try.prog 60 [.agg (eGame g_a0), .row false 1 inputs_a1.length (esInt inputs_a1)] (.tup [.agg (eGameo r.1), B r.2]) := by
  rw [p_impl_StepGame] at h
  refine Does.bnd (fun hb => ?_)
  have hb2 : g_a0.Seats.length ≤ 9223372036854775807 ∧ inputs_a1.length ≤ 9223372036854775807 := by simpa [AV.fitNs, AV.fitN, eGame] using hb
  obtain ⟨hl0, hl1⟩ := hb2
  refine Does.walk (nt := 26) Try.func60 rfl rfl (by simp) (by decide) rfl (fun G0 X w0 pv => ?_)
  obtain ⟨v1, ev1, h⟩ := Option.bind_eq_some_iff.1 h
  try dsimp only at h
  have ff := p_impl_StepGame_tf.down
  try refine st_by ff ?_
  repeat' (first | exact trivial | refine And.intro sd ?_)
  first
  | (refine cq_call (p_impl_GoodGame_does g_a0 v1 ev1) (hf_by ff) kr ⟨p_impl_StepGame_sa ff trivial, ?_⟩; clear ff)
  have ff := p_impl_StepGame_tf.down
  try refine st_by ff ?_
  repeat' (first | exact trivial | refine And.intro sd ?_)
  try clear ff
  generalize hk_0 : thenK _ _ = kk_0
  have key_0 : ∀ σ, (∃ b_2 : Bool, (p_impl_StepGame_j0 N g_a0 inputs_a1 b_2 = some r) ∧ σ.t 1 = .row false 1 inputs_a1.length (esInt inputs_a1) ∧ σ.t 2 = .ptr 2 [] 0 ∧ σ.t 4 = .ptr 4 [] 0 ∧ σ.t 21 = B b_2 ∧ σ.m 2 = some (.box true [I g_a0.Frame, I g_a0.Coin, .row false 3 g_a0.Seats.length (esSeat g_a0.Seats)]) ∧ σ.m 4 = some (.box true [I 0, I 0, .row true 3 0 []])) → kk_0 .nm σ := by
    rintro σ ⟨b_2, h, g0_j0, g1_j0, g2_j0, g3_j0, g4_j0, g5_j0⟩
    rw [← hk_0]
    rw [p_impl_StepGame_j0] at h
    by_cases c3 : b_2 = true
    · rw [if_pos c3] at h
      have dc3 := c3
      have ff := And.intro @g0_j0 (And.intro @g1_j0 (And.intro @g2_j0 (And.intro @g3_j0 (And.intro @g4_j0 (And.intro @g5_j0 (And.intro @dc3 p_impl_StepGame_tf.down))))))
      try refine st_by ff ?_
      repeat' (first | exact trivial | refine And.intro sd ?_)
      cases h
      exact ret_q2 rfl (p_impl_StepGame_rt ff trivial)
    rw [if_neg c3] at h
    have dc3 := eq_false_of_ne_true c3
    obtain ⟨v4, ev4, h⟩ := Option.bind_eq_some_iff.1 h
    try dsimp only at h
    have ff := And.intro @g0_j0 (And.intro @g1_j0 (And.intro @g2_j0 (And.intro @g3_j0 (And.intro @g4_j0 (And.intro @g5_j0 (And.intro @dc3 p_impl_StepGame_tf.down))))))
    try refine st_by ff ?_
    repeat' (first | exact trivial | refine And.intro sd ?_)
    first
    | (refine cq_own (p_impl_Game_step_does N g_a0 inputs_a1 v4 ev4) (hf_by ff) kr ⟨p_impl_StepGame_sa ff trivial, ?_⟩; clear ff)
    have ff := And.intro @g0_j0 (And.intro @g1_j0 (And.intro @g2_j0 (And.intro @g3_j0 (And.intro @g4_j0 (And.intro @g5_j0 (And.intro @dc3 p_impl_StepGame_tf.down))))))
    try refine st_by ff ?_
    repeat' (first | exact trivial | refine And.intro sd ?_)
    cases h
    exact ret_q2 rfl (p_impl_StepGame_rt ff trivial)
  have hrt_0 := fun σ : ASt => congrFun (congrFun hk_0.symm AX.rt) σ
  have hex_0 := fun (i : Nat) (σ : ASt) => congrFun (congrFun hk_0.symm (AX.ex i)) σ
  by_cases c5 : v1 = true
  case neg =>
   rw [if_neg c5] at h
   have dc5 := eq_false_of_ne_true c5
   have ff := And.intro @hrt_0 (And.intro @hex_0 (And.intro @dc5 p_impl_StepGame_tf.down))
   try refine st_by ff ?_
   repeat' (first | exact trivial | refine And.intro sd ?_)
   refine key_0 _ ?_
   refine ⟨true, h, ?_⟩
   exact p_impl_StepGame_pv ff trivial
  rw [if_pos c5] at h
  have dc5 := c5
  by_cases c6 : g_a0.Frame = 60
  · rw [if_pos c6] at h
    have dc6 := beq_yes c6
    have ff := And.intro @hrt_0 (And.intro @hex_0 (And.intro @dc5 (And.intro @dc6 p_impl_StepGame_tf.down)))
    try refine st_by ff ?_
    repeat' (first | exact trivial | refine And.intro sd ?_)
    refine key_0 _ ?_
    refine ⟨true, h, ?_⟩
    exact p_impl_StepGame_pv ff trivial
  rw [if_neg c6] at h
  have dc6 := beq_no c6
  obtain ⟨v7, ev7, h⟩ := Option.bind_eq_some_iff.1 h
  try dsimp only at h
  have ff := And.intro @hrt_0 (And.intro @hex_0 (And.intro @dc5 (And.intro @dc6 p_impl_StepGame_tf.down)))
  try refine st_by ff ?_
  repeat' (first | exact trivial | refine And.intro sd ?_)
  first
  | (refine cq_call (p_impl_areInputs_does inputs_a1 (g_a0.Seats.length : Int) v7 ev7) (hf_by ff) kr ⟨p_impl_StepGame_sa ff trivial, ?_⟩; clear ff)
  have ff := And.intro @hrt_0 (And.intro @hex_0 (And.intro @dc5 (And.intro @dc6 p_impl_StepGame_tf.down)))
  try refine st_by ff ?_
  repeat' (first | exact trivial | refine And.intro sd ?_)
  refine key_0 _ ?_
  refine ⟨!v7, h, ?_⟩
  exact p_impl_StepGame_pv ff trivial
end Go.Av
