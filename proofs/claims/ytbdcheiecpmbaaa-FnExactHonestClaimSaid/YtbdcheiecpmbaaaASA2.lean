/- spec.StartGame -/
import Derived.Test.YtbdcheiecpmbaaaASA
set_option linter.unusedSimpArgs false
set_option linter.unusedVariables false
set_option maxRecDepth 100000
set_option maxHeartbeats 1000000
namespace Go.Av
open Go.Proofs
/-! spec.StartGame -/
def p_spec_StartGame_l0 (seats_a0 : Int) : Nat → Int → (List GSeat) → Option (Int × (List GSeat))
  | 0, _, _ => none
  | n_0 + 1, i_4, g_5 => (if i_4 < seats_a0 then (if g_5.length < 4294967296 then p_spec_StartGame_l0 seats_a0 n_0 (IntKind.i64.wrap (i_4 + 1)) (g_5 ++ [(⟨(IntKind.i64.wrap (8 * i_4)), (IntKind.i64.wrap (8 * i_4)), 9⟩ : GSeat)]) else none) else some (i_4, g_5))
def p_spec_StartGame_j0 (N : Nat) (seats_a0 : Int) (seed_a1 : Int) (b_1 : Bool) : Option (GGame × Bool) := (if b_1 = true then some ((⟨0, 0, ([] : List GSeat)⟩ : GGame), false) else ((p_spec_StartGame_l0 seats_a0 N 0 ([] : List GSeat)).bind fun q_0 => match q_0 with | (i_4, g_5) => some ((⟨0, seed_a1, g_5⟩ : GGame), true)))
theorem p_spec_StartGame_pv {F C A : Prop} (hF : F) (hC : C) (h : F → C → A := by intro hF hC; first | exact cl_by hF | (refine st_by hF ?_; (repeat' (first | exact trivial | apply And.intro)); all_goals (clear hF; first | rfl | (simp only [hC, List.length_append, List.length_cons, List.length_nil, List.append_nil, List.nil_append, List.cons_append, List.length_set, List.append_assoc, Nat.zero_add, List.length_replicate, esGame_app, esGame_cons, esGame_nil, eGame_eq, esGameo_app, esGameo_cons, esGameo_nil, eGameo_eq, esSeat_app, esSeat_cons, esSeat_nil, eSeat_eq]; done) | (simp [hC, List.length_append, List.length_cons, List.length_nil, List.append_nil, List.nil_append, List.cons_append, List.length_set, List.append_assoc, Nat.zero_add, List.length_replicate, esGame_app, esGame_cons, esGame_nil, eGame_eq, esGameo_app, esGameo_cons, esGameo_nil, eGameo_eq, esSeat_app, esSeat_cons, esSeat_nil, eSeat_eq]; done) | omega))) : A := h hF hC
theorem p_spec_StartGame_sa {F C A : Prop} (hF : F) (hC : C) (h : F → C → A := by intro hF hC; first | exact ca_by hF | (refine sa_by hF ?_; (repeat' (first | exact trivial | apply And.intro)); all_goals (clear hF; first | rfl | (simp only [hC, List.length_append, List.length_cons, List.length_nil, List.append_nil, List.nil_append, List.cons_append, List.length_set, List.append_assoc, Nat.zero_add, List.length_replicate, esGame_app, esGame_cons, esGame_nil, eGame_eq, esGameo_app, esGameo_cons, esGameo_nil, eGameo_eq, esSeat_app, esSeat_cons, esSeat_nil, eSeat_eq]; done) | (simp [hC, List.length_append, List.length_cons, List.length_nil, List.append_nil, List.nil_append, List.cons_append, List.length_set, List.append_assoc, Nat.zero_add, List.length_replicate, esGame_app, esGame_cons, esGame_nil, eGame_eq, esGameo_app, esGameo_cons, esGameo_nil, eGameo_eq, esSeat_app, esSeat_cons, esSeat_nil, eSeat_eq]; done) | omega))) : A := h hF hC
theorem p_spec_StartGame_rt {F C A : Prop} (hF : F) (hC : C) (h : F → C → A := by intro hF hC; first | (refine sr_by hF ?_; (repeat' (first | exact trivial | apply And.intro)); all_goals (clear hF; first | rfl | (simp only [hC, List.length_append, List.length_cons, List.length_nil, List.append_nil, List.nil_append, List.cons_append, List.length_set, List.append_assoc, Nat.zero_add, List.length_replicate, esGame_app, esGame_cons, esGame_nil, eGame_eq, esGameo_app, esGameo_cons, esGameo_nil, eGameo_eq, esSeat_app, esSeat_cons, esSeat_nil, eSeat_eq]; done) | (simp [hC, List.length_append, List.length_cons, List.length_nil, List.append_nil, List.nil_append, List.cons_append, List.length_set, List.append_assoc, Nat.zero_add, List.length_replicate, esGame_app, esGame_cons, esGame_nil, eGame_eq, esGameo_app, esGameo_cons, esGameo_nil, eGameo_eq, esSeat_app, esSeat_cons, esSeat_nil, eSeat_eq]; done) | omega)) | (first | rfl | (simp only [hC, List.length_append, List.length_cons, List.length_nil, List.append_nil, List.nil_append, List.cons_append, List.length_set, List.append_assoc, Nat.zero_add, List.length_replicate, esGame_app, esGame_cons, esGame_nil, eGame_eq, esGameo_app, esGameo_cons, esGameo_nil, eGameo_eq, esSeat_app, esSeat_cons, esSeat_nil, eSeat_eq]; done) | (simp [hC, List.length_append, List.length_cons, List.length_nil, List.append_nil, List.nil_append, List.cons_append, List.length_set, List.append_assoc, Nat.zero_add, List.length_replicate, esGame_app, esGame_cons, esGame_nil, eGame_eq, esGameo_app, esGameo_cons, esGameo_nil, eGameo_eq, esSeat_app, esSeat_cons, esSeat_nil, eSeat_eq]; done) | omega)) : A := h hF hC
def p_spec_StartGame_tf := PLift.up (And.intro @eGame_eq (And.intro @esGame_len (And.intro @esGame_nil (And.intro @esGame_leaf (And.intro @esGame_fit (And.intro @eGameo_eq (And.intro @esGameo_len (And.intro @esGameo_nil (And.intro @eSeat_eq (And.intro @esSeat_len (And.intro @esSeat_nil (And.intro @esSeat_leaf (And.intro @esSeat_fit (And.intro @esGameo_share (And.intro @esGameo_pure (And.intro @esSeat_share (And.intro @esSeat_pure (And.intro @str_beq (And.intro @Ty.nz73 (And.intro @Ty.ldA73 (And.intro @Ty.sz73 (And.intro @Ty.szn73 (And.intro @Ty.nz71 (And.intro @Ty.ldA71 (And.intro @Ty.ldS71 (And.intro @Ty.sz71 (And.intro @Ty.szn71 (And.intro @Ty.fo73_2 (And.intro @Ty.fk73_2 (And.intro @Ty.fs73_2 (And.intro @Ty.fn73_2 (And.intro @Ty.nze71 (And.intro @Ty.sl71 (And.intro @Ty.slz71 (And.intro @Ty.zok71 (And.intro @Ty.by71 (And.intro @Ty.zs71 (And.intro @Ty.zv73 (And.intro @Ty.bd73 (And.intro @Ty.pl73_1 (And.intro @Ty.bd84 (And.intro @Ty.zv84 (And.intro @Ty.pl84_0 (And.intro @Ty.pl84_1 (And.intro @Ty.pl84_2 (And.intro @Ty.ag73 @trivial))))))))))))))))))))))))))))))))))))))))))))))
def p_spec_StartGame (N : Nat) (seats_a0 : Int) (seed_a1 : Int) : Option (GGame × Bool) := (if (rng seats_a0 1 4) = true then ((p_spec_l1Seed seed_a1).bind fun v13 => p_spec_StartGame_j0 N seats_a0 seed_a1 (!v13)) else p_spec_StartGame_j0 N seats_a0 seed_a1 true)
theorem p_spec_StartGame_does (N : Nat) (seats_a0 : Int) (seed_a1 : Int) (r : GGame × Bool) (h : p_spec_StartGame N seats_a0 seed_a1 = some r) : Does Try.prog 48 [I seats_a0, I seed_a1] (.tup [.agg (eGameo r.1), B r.2]) := by
  rw [p_spec_StartGame] at h
  refine Does.walk (nt := 35) Try.func48 rfl rfl (by simp) (by decide) rfl (fun G0 X w0 pv => ?_)
  have ff := p_spec_StartGame_tf.down
  try refine st_by ff ?_
  repeat' (first | exact trivial | refine And.intro sd ?_)
  first
  | (refine cq_call (l1In_does seats_a0 1 4) (hf_by ff) kr ⟨p_spec_StartGame_sa ff trivial, ?_⟩; clear ff)
  have ff := p_spec_StartGame_tf.down
  try refine st_by ff ?_
  repeat' (first | exact trivial | refine And.intro sd ?_)
  try clear ff
  generalize hk_0 : thenK _ _ = kk_0
  have key_0 : ∀ σ, (∃ b_1 : Bool, (p_spec_StartGame_j0 N seats_a0 seed_a1 b_1 = some r) ∧ σ.t 0 = I seats_a0 ∧ σ.t 1 = I seed_a1 ∧ σ.t 4 = .ptr 4 [] 0 ∧ σ.t 15 = B b_1 ∧ σ.m 4 = some (.box true [I 0, I 0, .row true 3 0 []])) → kk_0 .nm σ := by
    rintro σ ⟨b_1, h, g0_j0, g1_j0, g2_j0, g3_j0, g4_j0⟩
    rw [← hk_0]
    rw [p_spec_StartGame_j0] at h
    by_cases c2 : b_1 = true
    · rw [if_pos c2] at h
      have dc2 := c2
      have ff := And.intro @g0_j0 (And.intro @g1_j0 (And.intro @g2_j0 (And.intro @g3_j0 (And.intro @g4_j0 (And.intro @dc2 p_spec_StartGame_tf.down)))))
      try refine st_by ff ?_
      repeat' (first | exact trivial | refine And.intro sd ?_)
      cases h
      exact ret_q2 rfl (p_spec_StartGame_rt ff trivial)
    rw [if_neg c2] at h
    have dc2 := eq_false_of_ne_true c2
    obtain ⟨q_0, eq_0, h⟩ := Option.bind_eq_some_iff.1 h
    have ff := And.intro @g0_j0 (And.intro @g1_j0 (And.intro @g2_j0 (And.intro @g3_j0 (And.intro @g4_j0 (And.intro @dc2 p_spec_StartGame_tf.down)))))
    try refine st_by ff ?_
    repeat' (first | exact trivial | refine And.intro sd ?_)
    obtain ⟨I_0, hI_0⟩ : ∃ I_ : (Nat × Int × (List GSeat)) → ASt → Prop, I_ = (fun (a : Nat × Int × (List GSeat)) σ => match a with | (n_0, i_4, g_5) => (p_spec_StartGame_l0 seats_a0 n_0 i_4 g_5 = some q_0) ∧ σ.t 0 = I seats_a0 ∧ σ.t 4 = .ptr 4 [] 0 ∧ σ.t 6 = .ptr 6 [] 0 ∧ σ.t 7 = I i_4 ∧ σ.m 4 = some (.box true [I 0, I 0, .row true 3 0 []]) ∧ σ.m 6 = some (.box true [I 0, I seed_a1, .row true 3 g_5.length (esSeat g_5)])) := ⟨_, rfl⟩
    obtain ⟨M_0, hM_0⟩ : ∃ M_ : (Nat × Int × (List GSeat)) → Nat, M_ = (fun (a : Nat × Int × (List GSeat)) => match a with | (n_0, i_4, g_5) => n_0) := ⟨_, rfl⟩
    obtain ⟨J_0, hJ_0⟩ : ∃ J_ : ASt → Prop, J_ = (fun σ => ∃ i_4 : Int, ∃ g_5 : List GSeat, (some (i_4, g_5) = some q_0) ∧ σ.t 4 = .ptr 4 [] 0 ∧ σ.t 6 = .ptr 6 [] 0 ∧ σ.m 4 = some (.box true [I 0, I 0, .row true 3 0 []]) ∧ σ.m 6 = some (.box true [I 0, I seed_a1, .row true 3 g_5.length (esSeat g_5)])) := ⟨_, rfl⟩
    refine aw_loopC (id := 0) I_0 M_0 J_0 (N, 0, ([] : List GSeat)) ?_ ?_ ?_
    · rw [hI_0]
      refine ⟨eq_0, ?_⟩
      exact p_spec_StartGame_pv ff trivial
    · try clear ff
      rintro ⟨n_0, i_4, g_5⟩ σ hg_0
      rw [hI_0] at hg_0
      obtain ⟨h_0, g0_0, g1_0, g2_0, g3_0, g4_0, g5_0⟩ := hg_0
      cases n_0 with
      | zero => rw [p_spec_StartGame_l0] at h_0; cases h_0
      | succ n_0 =>
        rw [p_spec_StartGame_l0] at h_0
        by_cases c9 : i_4 < seats_a0
        case neg =>
         rw [if_neg c9] at h_0
         have dc9 := decide_eq_false c9
         have ff := And.intro @dc2 (And.intro @g0_0 (And.intro @g1_0 (And.intro @g2_0 (And.intro @g3_0 (And.intro @g4_0 (And.intro @g5_0 (And.intro @dc9 p_spec_StartGame_tf.down)))))))
         try refine st_by ff ?_
         repeat' (first | exact trivial | refine And.intro sd ?_)
         refine JW.intro ?_
         rw [hJ_0]
         refine ⟨i_4, g_5, h_0, ?_⟩
         exact p_spec_StartGame_pv ff trivial
        rw [if_pos c9] at h_0
        have dc9 := decide_eq_true c9
        by_cases c10 : g_5.length < 4294967296
        case neg => rw [if_neg c10] at h_0; cases h_0
        rw [if_pos c10] at h_0
        have a11a : esSeat g_5 ++ [I (IntKind.i64.wrap (8 * i_4)), I (IntKind.i64.wrap (8 * i_4)), I 9] = esSeat (g_5 ++ [(⟨(IntKind.i64.wrap (8 * i_4)), (IntKind.i64.wrap (8 * i_4)), 9⟩ : GSeat)]) := by simp [esSeat_app, esSeat_cons, esSeat_nil, eSeat_eq, esGame_nil, esSeat_nil]
        have a11b : g_5.length + 1 = (g_5 ++ [(⟨(IntKind.i64.wrap (8 * i_4)), (IntKind.i64.wrap (8 * i_4)), 9⟩ : GSeat)]).length := by simp
        have ff := And.intro @dc2 (And.intro @g0_0 (And.intro @g1_0 (And.intro @g2_0 (And.intro @g3_0 (And.intro @g4_0 (And.intro @g5_0 (And.intro @dc9 (And.intro @a11a (And.intro @a11b p_spec_StartGame_tf.down)))))))))
        try refine st_by ff ?_
        repeat' (first | exact trivial | refine And.intro sd ?_)
        refine Back.intro (n_0, (IntKind.i64.wrap (i_4 + 1)), (g_5 ++ [(⟨(IntKind.i64.wrap (8 * i_4)), (IntKind.i64.wrap (8 * i_4)), 9⟩ : GSeat)])) ?_ ?_
        · rw [hM_0]; exact Nat.lt_succ_self _
        rw [hI_0]
        refine ⟨h_0, ?_⟩
        exact p_spec_StartGame_pv ff trivial
    · try clear ff
      rintro σ hg_0
      rw [hJ_0] at hg_0
      obtain ⟨i_4, g_5, hj_0, g0_0a, g1_0a, g2_0a, g3_0a⟩ := hg_0
      cases hj_0
      try dsimp only at h
      have ff := And.intro @dc2 (And.intro @g0_0a (And.intro @g1_0a (And.intro @g2_0a (And.intro @g3_0a p_spec_StartGame_tf.down))))
      try refine st_by ff ?_
      repeat' (first | exact trivial | refine And.intro sd ?_)
      cases h
      exact ret_q2 rfl (p_spec_StartGame_rt ff trivial)
  have hrt_0 := fun σ : ASt => congrFun (congrFun hk_0.symm AX.rt) σ
  have hex_0 := fun (i : Nat) (σ : ASt) => congrFun (congrFun hk_0.symm (AX.ex i)) σ
  by_cases c12 : (rng seats_a0 1 4) = true
  case neg =>
   rw [if_neg c12] at h
   have dc12 := eq_false_of_ne_true c12
   have ff := And.intro @hrt_0 (And.intro @hex_0 (And.intro @dc12 p_spec_StartGame_tf.down))
   try refine st_by ff ?_
   repeat' (first | exact trivial | refine And.intro sd ?_)
   refine key_0 _ ?_
   refine ⟨true, h, ?_⟩
   exact p_spec_StartGame_pv ff trivial
  rw [if_pos c12] at h
  have dc12 := c12
  obtain ⟨v13, ev13, h⟩ := Option.bind_eq_some_iff.1 h
  try dsimp only at h
  have ff := And.intro @hrt_0 (And.intro @hex_0 (And.intro @dc12 p_spec_StartGame_tf.down))
  try refine st_by ff ?_
  repeat' (first | exact trivial | refine And.intro sd ?_)
  first
  | (refine cq_call (p_spec_l1Seed_does seed_a1 v13 ev13) (hf_by ff) kr ⟨p_spec_StartGame_sa ff trivial, ?_⟩; clear ff)
  have ff := And.intro @hrt_0 (And.intro @hex_0 (And.intro @dc12 p_spec_StartGame_tf.down))
  try refine st_by ff ?_
  repeat' (first | exact trivial | refine And.intro sd ?_)
  refine key_0 _ ?_
  refine ⟨!v13, h, ?_⟩
  exact p_spec_StartGame_pv ff trivial
/-! spec.GameSum -/
def p_spec_GameSum_l0 : List GSeat → Nat → Int → Option (Int)
  | [], i_0, n_6 => some n_6
  | x_0 :: r_0, i_0, n_6 => p_spec_GameSum_l0 r_0 (i_0 + 1) (Int.tmod (IntKind.i64.wrap ((IntKind.i64.wrap (31 * (Int.tmod (IntKind.i64.wrap ((IntKind.i64.wrap (31 * (Int.tmod (IntKind.i64.wrap ((IntKind.i64.wrap (31 * n_6)) + x_0.X)) 1000003))) + x_0.Y)) 1000003))) + x_0.Hp)) 1000003)
theorem p_spec_GameSum_pv {F C A : Prop} (hF : F) (hC : C) (h : F → C → A := by intro hF hC; first | exact cl_by hF | (refine st_by hF ?_; (repeat' (first | exact trivial | apply And.intro)); all_goals (clear hF; first | rfl | (simp only [hC, List.length_append, List.length_cons, List.length_nil, List.append_nil, List.nil_append, List.cons_append, List.length_set, List.append_assoc, Nat.zero_add, List.length_replicate, esGame_app, esGame_cons, esGame_nil, eGame_eq, esGameo_app, esGameo_cons, esGameo_nil, eGameo_eq, esSeat_app, esSeat_cons, esSeat_nil, eSeat_eq]; done) | (simp [hC, List.length_append, List.length_cons, List.length_nil, List.append_nil, List.nil_append, List.cons_append, List.length_set, List.append_assoc, Nat.zero_add, List.length_replicate, esGame_app, esGame_cons, esGame_nil, eGame_eq, esGameo_app, esGameo_cons, esGameo_nil, eGameo_eq, esSeat_app, esSeat_cons, esSeat_nil, eSeat_eq]; done) | omega))) : A := h hF hC
theorem p_spec_GameSum_sa {F C A : Prop} (hF : F) (hC : C) (h : F → C → A := by intro hF hC; first | exact ca_by hF | (refine sa_by hF ?_; (repeat' (first | exact trivial | apply And.intro)); all_goals (clear hF; first | rfl | (simp only [hC, List.length_append, List.length_cons, List.length_nil, List.append_nil, List.nil_append, List.cons_append, List.length_set, List.append_assoc, Nat.zero_add, List.length_replicate, esGame_app, esGame_cons, esGame_nil, eGame_eq, esGameo_app, esGameo_cons, esGameo_nil, eGameo_eq, esSeat_app, esSeat_cons, esSeat_nil, eSeat_eq]; done) | (simp [hC, List.length_append, List.length_cons, List.length_nil, List.append_nil, List.nil_append, List.cons_append, List.length_set, List.append_assoc, Nat.zero_add, List.length_replicate, esGame_app, esGame_cons, esGame_nil, eGame_eq, esGameo_app, esGameo_cons, esGameo_nil, eGameo_eq, esSeat_app, esSeat_cons, esSeat_nil, eSeat_eq]; done) | omega))) : A := h hF hC
theorem p_spec_GameSum_rt {F C A : Prop} (hF : F) (hC : C) (h : F → C → A := by intro hF hC; first | (refine sr_by hF ?_; (repeat' (first | exact trivial | apply And.intro)); all_goals (clear hF; first | rfl | (simp only [hC, List.length_append, List.length_cons, List.length_nil, List.append_nil, List.nil_append, List.cons_append, List.length_set, List.append_assoc, Nat.zero_add, List.length_replicate, esGame_app, esGame_cons, esGame_nil, eGame_eq, esGameo_app, esGameo_cons, esGameo_nil, eGameo_eq, esSeat_app, esSeat_cons, esSeat_nil, eSeat_eq]; done) | (simp [hC, List.length_append, List.length_cons, List.length_nil, List.append_nil, List.nil_append, List.cons_append, List.length_set, List.append_assoc, Nat.zero_add, List.length_replicate, esGame_app, esGame_cons, esGame_nil, eGame_eq, esGameo_app, esGameo_cons, esGameo_nil, eGameo_eq, esSeat_app, esSeat_cons, esSeat_nil, eSeat_eq]; done) | omega)) | (first | rfl | (simp only [hC, List.length_append, List.length_cons, List.length_nil, List.append_nil, List.nil_append, List.cons_append, List.length_set, List.append_assoc, Nat.zero_add, List.length_replicate, esGame_app, esGame_cons, esGame_nil, eGame_eq, esGameo_app, esGameo_cons, esGameo_nil, eGameo_eq, esSeat_app, esSeat_cons, esSeat_nil, eSeat_eq]; done) | (simp [hC, List.length_append, List.length_cons, List.length_nil, List.append_nil, List.nil_append, List.cons_append, List.length_set, List.append_assoc, Nat.zero_add, List.length_replicate, esGame_app, esGame_cons, esGame_nil, eGame_eq, esGameo_app, esGameo_cons, esGameo_nil, eGameo_eq, esSeat_app, esSeat_cons, esSeat_nil, eSeat_eq]; done) | omega)) : A := h hF hC
def p_spec_GameSum_tf := PLift.up (And.intro @eGame_eq (And.intro @esGame_len (And.intro @esGame_nil (And.intro @esGame_leaf (And.intro @esGame_fit (And.intro @eGameo_eq (And.intro @esGameo_len (And.intro @esGameo_nil (And.intro @eSeat_eq (And.intro @esSeat_len (And.intro @esSeat_nil (And.intro @esSeat_leaf (And.intro @esSeat_fit (And.intro @esGameo_share (And.intro @esGameo_pure (And.intro @esSeat_share (And.intro @esSeat_pure (And.intro @str_beq (And.intro @Ty.sl71 (And.intro @Ty.slz71 (And.intro @Ty.nz73 (And.intro @Ty.ldA73 (And.intro @Ty.sz73 (And.intro @Ty.szn73 (And.intro @Ty.nz3 (And.intro @Ty.ldA3 (And.intro @Ty.ldS3 (And.intro @Ty.sz3 (And.intro @Ty.szn3 (And.intro @Ty.nz71 (And.intro @Ty.ldA71 (And.intro @Ty.ldS71 (And.intro @Ty.sz71 (And.intro @Ty.szn71 (And.intro @Ty.nz84 (And.intro @Ty.ldA84 (And.intro @Ty.sz84 (And.intro @Ty.szn84 (And.intro @Ty.fo73_0 (And.intro @Ty.fk73_0 (And.intro @Ty.fs73_0 (And.intro @Ty.fn73_0 (And.intro @Ty.fo73_1 (And.intro @Ty.fk73_1 (And.intro @Ty.fs73_1 (And.intro @Ty.fn73_1 (And.intro @Ty.fo73_2 (And.intro @Ty.fk73_2 (And.intro @Ty.fs73_2 (And.intro @Ty.fn73_2 (And.intro @Ty.fo84_0 (And.intro @Ty.fk84_0 (And.intro @Ty.fs84_0 (And.intro @Ty.fn84_0 (And.intro @Ty.fo84_1 (And.intro @Ty.fk84_1 (And.intro @Ty.fs84_1 (And.intro @Ty.fn84_1 (And.intro @Ty.fo84_2 (And.intro @Ty.fk84_2 (And.intro @Ty.fs84_2 (And.intro @Ty.fn84_2 (And.intro @Ty.zv84 @trivial)))))))))))))))))))))))))))))))))))))))))))))))))))))))))))))))
def p_spec_GameSum (g_a0 : GGame) : Option (Int × Bool) := ((p_spec_GoodGame g_a0).bind fun v1 => (if v1 = true then ((p_spec_GameSum_l0 g_a0.Seats 0 (Int.tmod (IntKind.i64.wrap ((IntKind.i64.wrap (31 * (Int.tmod (IntKind.i64.wrap (217 + g_a0.Frame)) 1000003))) + g_a0.Coin)) 1000003)).bind fun q_0 => match q_0 with | n_6 => some (n_6, true)) else some (0, false)))
theorem p_spec_GameSum_does (g_a0 : GGame) (r : Int × Bool) (h : p_spec_GameSum g_a0 = some r) : Does Try.prog 50 [.agg (eGame g_a0)] (.tup [I r.1, B r.2]) := by
  rw [p_spec_GameSum] at h
  refine Does.bnd (fun hb => ?_)
  have hb2 : g_a0.Seats.length ≤ 9223372036854775807 := by simpa [AV.fitNs, AV.fitN, eGame] using hb
  have hl0 := hb2
  refine Does.walk (nt := 47) Try.func50 rfl rfl (by simp) (by decide) rfl (fun G0 X w0 pv => ?_)
  obtain ⟨v1, ev1, h⟩ := Option.bind_eq_some_iff.1 h
  try dsimp only at h
  have ff := p_spec_GameSum_tf.down
  try refine st_by ff ?_
  repeat' (first | exact trivial | refine And.intro sd ?_)
  first
  | (refine cq_call (p_spec_GoodGame_does g_a0 v1 ev1) (hf_by ff) kr ⟨p_spec_GameSum_sa ff trivial, ?_⟩; clear ff)
  by_cases c2 : v1 = true
  case neg =>
   rw [if_neg c2] at h
   have dc2 := eq_false_of_ne_true c2
   have ff := And.intro @dc2 p_spec_GameSum_tf.down
   try refine st_by ff ?_
   repeat' (first | exact trivial | refine And.intro sd ?_)
   cases h
   exact ret_q2 rfl (p_spec_GameSum_rt ff trivial)
  rw [if_pos c2] at h
  have dc2 := c2
  have hL_0 : g_a0.Seats.length ≤ 9223372036854775807 := by first | assumption | omega
  obtain ⟨q_0, eq_0, h⟩ := Option.bind_eq_some_iff.1 h
  have ff := And.intro @dc2 p_spec_GameSum_tf.down
  try refine st_by ff ?_
  repeat' (first | exact trivial | refine And.intro sd ?_)
  obtain ⟨I_0, hI_0⟩ : ∃ I_ : (Nat × Int) → ASt → Prop, I_ = (fun (a : Nat × Int) σ => match a with | (i_0, n_6) => (i_0 ≤ g_a0.Seats.length ∧ p_spec_GameSum_l0 (g_a0.Seats.drop i_0) i_0 n_6 = some q_0) ∧ σ.t 4 = I n_6 ∧ σ.t 21 = .row false 3 g_a0.Seats.length (esSeat g_a0.Seats) ∧ σ.t 22 = I (g_a0.Seats.length : Int) ∧ σ.t 23 = I (i_0 : Int)) := ⟨_, rfl⟩
  obtain ⟨M_0, hM_0⟩ : ∃ M_ : (Nat × Int) → Nat, M_ = (fun (a : Nat × Int) => match a with | (i_0, n_6) => g_a0.Seats.length - i_0) := ⟨_, rfl⟩
  obtain ⟨J_0, hJ_0⟩ : ∃ J_ : ASt → Prop, J_ = (fun σ => ∃ n_6 : Int, (some n_6 = some q_0) ∧ σ.t 4 = I n_6) := ⟨_, rfl⟩
  refine aw_loopC (id := 0) I_0 M_0 J_0 (0, (Int.tmod (IntKind.i64.wrap ((IntKind.i64.wrap (31 * (Int.tmod (IntKind.i64.wrap (217 + g_a0.Frame)) 1000003))) + g_a0.Coin)) 1000003)) ?_ ?_ ?_
  · rw [hI_0]
    refine ⟨⟨Nat.zero_le _, eq_0⟩, ?_⟩
    exact p_spec_GameSum_pv ff trivial
  · try clear ff
    rintro ⟨i_0, n_6⟩ σ hg_0
    rw [hI_0] at hg_0
    obtain ⟨⟨hi_0, h_0⟩, g0_0, g1_0, g2_0, g3_0⟩ := hg_0
    cases hr_0 : g_a0.Seats.drop i_0 with
    | nil =>
      rw [hr_0] at h_0
      rw [p_spec_GameSum_l0] at h_0
      have hn_0 := drop_nil hr_0
      have dr_0 : decide ((i_0 : Int) < (g_a0.Seats.length : Int)) = false := decide_eq_false (by omega)
      have ff := And.intro @dc2 (And.intro @dr_0 (And.intro @g0_0 (And.intro @g1_0 (And.intro @g2_0 (And.intro @g3_0 p_spec_GameSum_tf.down)))))
      try refine st_by ff ?_
      repeat' (first | exact trivial | refine And.intro sd ?_)
      refine JW.intro ?_
      rw [hJ_0]
      refine ⟨n_6, h_0, ?_⟩
      exact p_spec_GameSum_pv ff trivial
    | cons x_0 r_0 =>
      rw [hr_0] at h_0
      rw [p_spec_GameSum_l0] at h_0
      obtain ⟨ht_0, hg_0, hd_0⟩ := drop_cons hr_0
      have dr_0 : decide ((i_0 : Int) < (g_a0.Seats.length : Int)) = true := decide_eq_true (by omega)
      have w_0 : IntKind.i64.wrap ((i_0 : Int) + 1) = ((i_0 + 1 : Nat) : Int) := wI _ (by omega) (by omega)
      have kk0c : (esSeat g_a0.Seats).drop (i_0 * 3) = eSeat x_0 ++ esSeat (g_a0.Seats.drop (i_0 + 1)) := drop_enc (fun _ => rfl) (hg_0)
      have ff := And.intro @dc2 (And.intro @dr_0 (And.intro @w_0 (And.intro @g0_0 (And.intro @g1_0 (And.intro @g2_0 (And.intro @g3_0 (And.intro @kk0c p_spec_GameSum_tf.down)))))))
      try refine st_by ff ?_
      repeat' (first | exact trivial | refine And.intro sd ?_)
      refine Back.intro (i_0 + 1, (Int.tmod (IntKind.i64.wrap ((IntKind.i64.wrap (31 * (Int.tmod (IntKind.i64.wrap ((IntKind.i64.wrap (31 * (Int.tmod (IntKind.i64.wrap ((IntKind.i64.wrap (31 * n_6)) + x_0.X)) 1000003))) + x_0.Y)) 1000003))) + x_0.Hp)) 1000003)) ?_ ?_
      · clear ff; rw [hM_0]; show g_a0.Seats.length - (i_0 + 1) < g_a0.Seats.length - i_0; omega
      rw [hI_0]
      refine ⟨⟨by clear ff; show i_0 + 1 ≤ g_a0.Seats.length; omega, by show p_spec_GameSum_l0 (g_a0.Seats.drop (i_0 + 1)) (i_0 + 1) (Int.tmod (IntKind.i64.wrap ((IntKind.i64.wrap (31 * (Int.tmod (IntKind.i64.wrap ((IntKind.i64.wrap (31 * (Int.tmod (IntKind.i64.wrap ((IntKind.i64.wrap (31 * n_6)) + x_0.X)) 1000003))) + x_0.Y)) 1000003))) + x_0.Hp)) 1000003) = some q_0; rw [hd_0]; exact h_0⟩, ?_⟩
      exact p_spec_GameSum_pv ff trivial
  · try clear ff
    rintro σ hg_0
    rw [hJ_0] at hg_0
    obtain ⟨n_6, hj_0, g0_0a⟩ := hg_0
    have hjj_0 := Option.some.inj hj_0
    subst hjj_0
    try dsimp only at h
    have ff := And.intro @dc2 (And.intro @g0_0a p_spec_GameSum_tf.down)
    try refine st_by ff ?_
    repeat' (first | exact trivial | refine And.intro sd ?_)
    cases h
    exact ret_q2 rfl (p_spec_GameSum_rt ff trivial)
/-! spec.SumsOf -/
def p_spec_SumsOf_j0 (out_17 : List Int) (i_0 : Nat) (rec_0 : Nat → Bool → Int → Int → (List GSeat) → (List Int) → Option (Bool × Int × Int × (List GSeat) × (List Int))) (ok_30 : Bool) (g_31 : Int) (g_32 : Int) (g_33 : List GSeat) : Option (Bool × Int × Int × (List GSeat) × (List Int)) := ((p_spec_GameSum (⟨g_31, g_32, g_33⟩ : GGame)).bind fun v34 => (if out_17.length < 4294967296 then rec_0 (i_0 + 1) ok_30 g_31 g_32 g_33 (out_17 ++ [v34.1]) else none))
def p_spec_SumsOf_l0 (N : Nat)  : List (List Int) → Nat → Bool → Int → Int → (List GSeat) → (List Int) → Option (Bool × Int × Int × (List GSeat) × (List Int))
  | [], i_0, ok_12, g_14, g_15, g_16, out_17 => some (ok_12, g_14, g_15, g_16, out_17)
  | x_0 :: r_0, i_0, ok_12, g_14, g_15, g_16, out_17 => (if ok_12 = true then ((p_spec_StepGame N (⟨g_14, g_15, g_16⟩ : GGame) x_0).bind fun v38 => p_spec_SumsOf_j0 out_17 i_0 (p_spec_SumsOf_l0 N r_0) v38.2 v38.1.Frame v38.1.Coin v38.1.Seats) else p_spec_SumsOf_j0 out_17 i_0 (p_spec_SumsOf_l0 N r_0) ok_12 g_14 g_15 g_16)
theorem p_spec_SumsOf_pv {F C A : Prop} (hF : F) (hC : C) (h : F → C → A := by intro hF hC; first | exact cl_by hF | (refine st_by hF ?_; (repeat' (first | exact trivial | apply And.intro)); all_goals (clear hF; first | rfl | (simp only [hC, List.length_append, List.length_cons, List.length_nil, List.append_nil, List.nil_append, List.cons_append, List.length_set, List.append_assoc, Nat.zero_add, List.length_replicate, esInt_app, esInt_cons, esInt_nil, eInt_eq, esLInt_app, esLInt_cons, esLInt_nil, eLInt_eq, esLInto_app, esLInto_cons, esLInto_nil, eLInto_eq, esGame_app, esGame_cons, esGame_nil, eGame_eq, esGameo_app, esGameo_cons, esGameo_nil, eGameo_eq, esSeat_app, esSeat_cons, esSeat_nil, eSeat_eq]; done) | (simp [hC, List.length_append, List.length_cons, List.length_nil, List.append_nil, List.nil_append, List.cons_append, List.length_set, List.append_assoc, Nat.zero_add, List.length_replicate, esInt_app, esInt_cons, esInt_nil, eInt_eq, esLInt_app, esLInt_cons, esLInt_nil, eLInt_eq, esLInto_app, esLInto_cons, esLInto_nil, eLInto_eq, esGame_app, esGame_cons, esGame_nil, eGame_eq, esGameo_app, esGameo_cons, esGameo_nil, eGameo_eq, esSeat_app, esSeat_cons, esSeat_nil, eSeat_eq]; done) | omega))) : A := h hF hC
theorem p_spec_SumsOf_sa {F C A : Prop} (hF : F) (hC : C) (h : F → C → A := by intro hF hC; first | exact ca_by hF | (refine sa_by hF ?_; (repeat' (first | exact trivial | apply And.intro)); all_goals (clear hF; first | rfl | (simp only [hC, List.length_append, List.length_cons, List.length_nil, List.append_nil, List.nil_append, List.cons_append, List.length_set, List.append_assoc, Nat.zero_add, List.length_replicate, esInt_app, esInt_cons, esInt_nil, eInt_eq, esLInt_app, esLInt_cons, esLInt_nil, eLInt_eq, esLInto_app, esLInto_cons, esLInto_nil, eLInto_eq, esGame_app, esGame_cons, esGame_nil, eGame_eq, esGameo_app, esGameo_cons, esGameo_nil, eGameo_eq, esSeat_app, esSeat_cons, esSeat_nil, eSeat_eq]; done) | (simp [hC, List.length_append, List.length_cons, List.length_nil, List.append_nil, List.nil_append, List.cons_append, List.length_set, List.append_assoc, Nat.zero_add, List.length_replicate, esInt_app, esInt_cons, esInt_nil, eInt_eq, esLInt_app, esLInt_cons, esLInt_nil, eLInt_eq, esLInto_app, esLInto_cons, esLInto_nil, eLInto_eq, esGame_app, esGame_cons, esGame_nil, eGame_eq, esGameo_app, esGameo_cons, esGameo_nil, eGameo_eq, esSeat_app, esSeat_cons, esSeat_nil, eSeat_eq]; done) | omega))) : A := h hF hC
theorem p_spec_SumsOf_rt {F C A : Prop} (hF : F) (hC : C) (h : F → C → A := by intro hF hC; first | (refine sr_by hF ?_; (repeat' (first | exact trivial | apply And.intro)); all_goals (clear hF; first | rfl | (simp only [hC, List.length_append, List.length_cons, List.length_nil, List.append_nil, List.nil_append, List.cons_append, List.length_set, List.append_assoc, Nat.zero_add, List.length_replicate, esInt_app, esInt_cons, esInt_nil, eInt_eq, esLInt_app, esLInt_cons, esLInt_nil, eLInt_eq, esLInto_app, esLInto_cons, esLInto_nil, eLInto_eq, esGame_app, esGame_cons, esGame_nil, eGame_eq, esGameo_app, esGameo_cons, esGameo_nil, eGameo_eq, esSeat_app, esSeat_cons, esSeat_nil, eSeat_eq]; done) | (simp [hC, List.length_append, List.length_cons, List.length_nil, List.append_nil, List.nil_append, List.cons_append, List.length_set, List.append_assoc, Nat.zero_add, List.length_replicate, esInt_app, esInt_cons, esInt_nil, eInt_eq, esLInt_app, esLInt_cons, esLInt_nil, eLInt_eq, esLInto_app, esLInto_cons, esLInto_nil, eLInto_eq, esGame_app, esGame_cons, esGame_nil, eGame_eq, esGameo_app, esGameo_cons, esGameo_nil, eGameo_eq, esSeat_app, esSeat_cons, esSeat_nil, eSeat_eq]; done) | omega)) | (first | rfl | (simp only [hC, List.length_append, List.length_cons, List.length_nil, List.append_nil, List.nil_append, List.cons_append, List.length_set, List.append_assoc, Nat.zero_add, List.length_replicate, esInt_app, esInt_cons, esInt_nil, eInt_eq, esLInt_app, esLInt_cons, esLInt_nil, eLInt_eq, esLInto_app, esLInto_cons, esLInto_nil, eLInto_eq, esGame_app, esGame_cons, esGame_nil, eGame_eq, esGameo_app, esGameo_cons, esGameo_nil, eGameo_eq, esSeat_app, esSeat_cons, esSeat_nil, eSeat_eq]; done) | (simp [hC, List.length_append, List.length_cons, List.length_nil, List.append_nil, List.nil_append, List.cons_append, List.length_set, List.append_assoc, Nat.zero_add, List.length_replicate, esInt_app, esInt_cons, esInt_nil, eInt_eq, esLInt_app, esLInt_cons, esLInt_nil, eLInt_eq, esLInto_app, esLInto_cons, esLInto_nil, eLInto_eq, esGame_app, esGame_cons, esGame_nil, eGame_eq, esGameo_app, esGameo_cons, esGameo_nil, eGameo_eq, esSeat_app, esSeat_cons, esSeat_nil, eSeat_eq]; done) | omega)) : A := h hF hC
def p_spec_SumsOf_tf := PLift.up (And.intro @eInt_eq (And.intro @esInt_len (And.intro @esInt_nil (And.intro @esInt_leaf (And.intro @esInt_fit (And.intro @eLInt_eq (And.intro @esLInt_len (And.intro @esLInt_nil (And.intro @esLInt_leaf (And.intro @esLInt_fit (And.intro @eLInto_eq (And.intro @esLInto_len (And.intro @esLInto_nil (And.intro @eGame_eq (And.intro @esGame_len (And.intro @esGame_nil (And.intro @esGame_leaf (And.intro @esGame_fit (And.intro @eGameo_eq (And.intro @esGameo_len (And.intro @esGameo_nil (And.intro @eSeat_eq (And.intro @esSeat_len (And.intro @esSeat_nil (And.intro @esSeat_leaf (And.intro @esSeat_fit (And.intro @esInt_share (And.intro @esInt_pure (And.intro @esLInto_share (And.intro @esLInto_pure (And.intro @esGameo_share (And.intro @esGameo_pure (And.intro @esSeat_share (And.intro @esSeat_pure (And.intro @str_beq (And.intro @Ty.sl34 (And.intro @Ty.slz34 (And.intro @Ty.nz73 (And.intro @Ty.ldA73 (And.intro @Ty.sz73 (And.intro @Ty.szn73 (And.intro @Ty.nz35 (And.intro @Ty.ldA35 (And.intro @Ty.ldS35 (And.intro @Ty.sz35 (And.intro @Ty.szn35 (And.intro @Ty.nze35 (And.intro @Ty.sl35 (And.intro @Ty.slz35 (And.intro @Ty.zok35 (And.intro @Ty.by35 (And.intro @Ty.zs35 (And.intro @Ty.zv73 @trivial)))))))))))))))))))))))))))))))))))))))))))))))))))))
def p_spec_SumsOf (N : Nat) (seats_a0 : Int) (seed_a1 : Int) (inputs_a2 : List (List Int)) : Option (List Int × Bool) := ((p_spec_StartGame N seats_a0 seed_a1).bind fun v1 => ((p_spec_SumsOf_l0 N inputs_a2 0 v1.2 v1.1.Frame v1.1.Coin v1.1.Seats ([] : List Int)).bind fun q_0 => match q_0 with | (ok_12, g_14, g_15, g_16, out_17) => (if ok_12 = true then some (out_17, true) else some (([] : List Int), false))))
theorem p_spec_SumsOf_does (N : Nat) (seats_a0 : Int) (seed_a1 : Int) (inputs_a2 : List (List Int)) (r : List Int × Bool) (h : p_spec_SumsOf N seats_a0 seed_a1 inputs_a2 = some r) : Does Try.prog 37 [I seats_a0, I seed_a1, .row false 1 inputs_a2.length (esLInt inputs_a2)] (.tup [.row true 1 r.1.length (esInt r.1), B r.2]) := by
  rw [p_spec_SumsOf] at h
  refine Does.bnd (fun hb => ?_)
  have hb2 : inputs_a2.length ≤ 9223372036854775807 := by simpa [AV.fitNs, AV.fitN] using hb
  have hl0 := hb2
  refine Does.walk (nt := 47) Try.func37 rfl rfl (by simp) (by decide) rfl (fun G0 X w0 pv => ?_)
  obtain ⟨v1, ev1, h⟩ := Option.bind_eq_some_iff.1 h
  try dsimp only at h
  have ff := p_spec_SumsOf_tf.down
  try refine st_by ff ?_
  repeat' (first | exact trivial | refine And.intro sd ?_)
  first
  | (refine cq_own (p_spec_StartGame_does N seats_a0 seed_a1 v1 ev1) (hf_by ff) kr ⟨p_spec_SumsOf_sa ff trivial, ?_⟩; clear ff)
  have hL_0 : inputs_a2.length ≤ 9223372036854775807 := by first | assumption | omega
  obtain ⟨q_0, eq_0, h⟩ := Option.bind_eq_some_iff.1 h
  have ff := p_spec_SumsOf_tf.down
  try refine st_by ff ?_
  repeat' (first | exact trivial | refine And.intro sd ?_)
  obtain ⟨I_0, hI_0⟩ : ∃ I_ : (Nat × Bool × Int × Int × (List GSeat) × (List Int)) → ASt → Prop, I_ = (fun (a : Nat × Bool × Int × Int × (List GSeat) × (List Int)) σ => match a with | (i_0, ok_12, g_14, g_15, g_16, out_17) => (i_0 ≤ inputs_a2.length ∧ p_spec_SumsOf_l0 N (inputs_a2.drop i_0) i_0 ok_12 g_14 g_15 g_16 out_17 = some q_0) ∧ σ.t 8 = .ptr 8 [] 0 ∧ σ.t 9 = B ok_12 ∧ σ.t 10 = .sl 10 [] 0 out_17.length ∧ σ.t 21 = .row false 1 inputs_a2.length (esLInt inputs_a2) ∧ σ.t 22 = I (inputs_a2.length : Int) ∧ σ.t 23 = I (i_0 : Int) ∧ σ.m 8 = some (.box true [I g_14, I g_15, .row true 3 g_16.length (esSeat g_16)]) ∧ σ.m 10 = some (.row true 1 out_17.length (esInt out_17))) := ⟨_, rfl⟩
  obtain ⟨M_0, hM_0⟩ : ∃ M_ : (Nat × Bool × Int × Int × (List GSeat) × (List Int)) → Nat, M_ = (fun (a : Nat × Bool × Int × Int × (List GSeat) × (List Int)) => match a with | (i_0, ok_12, g_14, g_15, g_16, out_17) => inputs_a2.length - i_0) := ⟨_, rfl⟩
  obtain ⟨J_0, hJ_0⟩ : ∃ J_ : ASt → Prop, J_ = (fun σ => ∃ ok_12 : Bool, ∃ g_14 : Int, ∃ g_15 : Int, ∃ g_16 : List GSeat, ∃ out_17 : List Int, (some (ok_12, g_14, g_15, g_16, out_17) = some q_0) ∧ σ.t 9 = B ok_12 ∧ σ.t 10 = .sl 10 [] 0 out_17.length ∧ σ.m 10 = some (.row true 1 out_17.length (esInt out_17))) := ⟨_, rfl⟩
  refine aw_loopC (id := 0) I_0 M_0 J_0 (0, v1.2, v1.1.Frame, v1.1.Coin, v1.1.Seats, ([] : List Int)) ?_ ?_ ?_
  · rw [hI_0]
    refine ⟨⟨Nat.zero_le _, eq_0⟩, ?_⟩
    exact p_spec_SumsOf_pv ff trivial
  · try clear ff
    rintro ⟨i_0, ok_12, g_14, g_15, g_16, out_17⟩ σ hg_0
    rw [hI_0] at hg_0
    obtain ⟨⟨hi_0, h_0⟩, g0_0, g1_0, g2_0, g3_0, g4_0, g5_0, g6_0, g7_0⟩ := hg_0
    cases hr_0 : inputs_a2.drop i_0 with
    | nil =>
      rw [hr_0] at h_0
      rw [p_spec_SumsOf_l0] at h_0
      have hn_0 := drop_nil hr_0
      have dr_0 : decide ((i_0 : Int) < (inputs_a2.length : Int)) = false := decide_eq_false (by omega)
      have ff := And.intro @dr_0 (And.intro @g0_0 (And.intro @g1_0 (And.intro @g2_0 (And.intro @g3_0 (And.intro @g4_0 (And.intro @g5_0 (And.intro @g6_0 (And.intro @g7_0 p_spec_SumsOf_tf.down))))))))
      try refine st_by ff ?_
      repeat' (first | exact trivial | refine And.intro sd ?_)
      refine JW.intro ?_
      rw [hJ_0]
      refine ⟨ok_12, g_14, g_15, g_16, out_17, h_0, ?_⟩
      exact p_spec_SumsOf_pv ff trivial
    | cons x_0 r_0 =>
      rw [hr_0] at h_0
      rw [p_spec_SumsOf_l0] at h_0
      obtain ⟨ht_0, hg_0, hd_0⟩ := drop_cons hr_0
      have dr_0 : decide ((i_0 : Int) < (inputs_a2.length : Int)) = true := decide_eq_true (by omega)
      have w_0 : IntKind.i64.wrap ((i_0 : Int) + 1) = ((i_0 + 1 : Nat) : Int) := wI _ (by omega) (by omega)
      have kk0c : (esLInt inputs_a2).drop (i_0 * 1) = eLInt x_0 ++ esLInt (inputs_a2.drop (i_0 + 1)) := drop_enc (fun _ => rfl) (hg_0)
      have kk0d := kk0c
      rw [Nat.mul_one] at kk0d
      have ff := And.intro @dr_0 (And.intro @w_0 (And.intro @g0_0 (And.intro @g1_0 (And.intro @g2_0 (And.intro @g3_0 (And.intro @g4_0 (And.intro @g5_0 (And.intro @g6_0 (And.intro @g7_0 (And.intro @kk0c (And.intro @kk0d p_spec_SumsOf_tf.down)))))))))))
      try refine st_by ff ?_
      repeat' (first | exact trivial | refine And.intro sd ?_)
      try clear ff
      generalize hk_0 : thenK _ _ = kk_0
      have key_0 : ∀ σ, (∃ ok_30 : Bool, ∃ g_31 : Int, ∃ g_32 : Int, ∃ g_33 : List GSeat, (p_spec_SumsOf_j0 out_17 i_0 (p_spec_SumsOf_l0 N r_0) ok_30 g_31 g_32 g_33 = some q_0) ∧ σ.t 8 = .ptr 8 [] 0 ∧ σ.t 9 = B ok_30 ∧ σ.t 10 = .sl 10 [] 0 out_17.length ∧ σ.t 21 = .row false 1 inputs_a2.length (esLInt inputs_a2) ∧ σ.t 22 = I (inputs_a2.length : Int) ∧ σ.t 23 = I (i_0 : Int) ∧ σ.m 8 = some (.box true [I g_31, I g_32, .row true 3 g_33.length (esSeat g_33)]) ∧ σ.m 10 = some (.row true 1 out_17.length (esInt out_17))) → kk_0 .nm σ := by
        rintro σ ⟨ok_30, g_31, g_32, g_33, h_0, g0_j0, g1_j0, g2_j0, g3_j0, g4_j0, g5_j0, g6_j0, g7_j0⟩
        rw [← hk_0]
        rw [p_spec_SumsOf_j0] at h_0
        obtain ⟨v34, ev34, h_0⟩ := Option.bind_eq_some_iff.1 h_0
        try dsimp only at h_0
        have ff := And.intro @dr_0 (And.intro @w_0 (And.intro @kk0c (And.intro @kk0d (And.intro @g0_j0 (And.intro @g1_j0 (And.intro @g2_j0 (And.intro @g3_j0 (And.intro @g4_j0 (And.intro @g5_j0 (And.intro @g6_j0 (And.intro @g7_j0 p_spec_SumsOf_tf.down)))))))))))
        try refine st_by ff ?_
        repeat' (first | exact trivial | refine And.intro sd ?_)
        first
        | (refine cq_lend (p_spec_GameSum_does (⟨g_31, g_32, g_33⟩ : GGame) v34 ev34) (hf_by ff) kr ⟨p_spec_SumsOf_sa ff trivial, ?_⟩; clear ff)
        by_cases c35 : out_17.length < 4294967296
        case neg => rw [if_neg c35] at h_0; cases h_0
        rw [if_pos c35] at h_0
        have a36a : esInt out_17 ++ [I v34.1] = esInt (out_17 ++ [v34.1]) := by simp [esInt_app, esInt_cons, esInt_nil, eInt_eq, esInt_nil, esLInt_nil, esGame_nil, esSeat_nil]
        have a36b : out_17.length + 1 = (out_17 ++ [v34.1]).length := by simp
        have ff := And.intro @dr_0 (And.intro @w_0 (And.intro @kk0c (And.intro @kk0d (And.intro @g0_j0 (And.intro @g1_j0 (And.intro @g2_j0 (And.intro @g3_j0 (And.intro @g4_j0 (And.intro @g5_j0 (And.intro @g6_j0 (And.intro @g7_j0 (And.intro @a36a (And.intro @a36b p_spec_SumsOf_tf.down)))))))))))))
        try refine st_by ff ?_
        repeat' (first | exact trivial | refine And.intro sd ?_)
        refine Back.intro (i_0 + 1, ok_30, g_31, g_32, g_33, (out_17 ++ [v34.1])) ?_ ?_
        · clear ff; rw [hM_0]; show inputs_a2.length - (i_0 + 1) < inputs_a2.length - i_0; omega
        rw [hI_0]
        refine ⟨⟨by clear ff; show i_0 + 1 ≤ inputs_a2.length; omega, by show p_spec_SumsOf_l0 N (inputs_a2.drop (i_0 + 1)) (i_0 + 1) ok_30 g_31 g_32 g_33 (out_17 ++ [v34.1]) = some q_0; rw [hd_0]; exact h_0⟩, ?_⟩
        exact p_spec_SumsOf_pv ff trivial
      have hrt_0 := fun σ : ASt => congrFun (congrFun hk_0.symm AX.rt) σ
      have hex_0 := fun (i : Nat) (σ : ASt) => congrFun (congrFun hk_0.symm (AX.ex i)) σ
      by_cases c37 : ok_12 = true
      case neg =>
       rw [if_neg c37] at h_0
       have dc37 := eq_false_of_ne_true c37
       have ff := And.intro @dr_0 (And.intro @w_0 (And.intro @g0_0 (And.intro @g1_0 (And.intro @g2_0 (And.intro @g3_0 (And.intro @g4_0 (And.intro @g5_0 (And.intro @g6_0 (And.intro @g7_0 (And.intro @kk0c (And.intro @kk0d (And.intro @hrt_0 (And.intro @hex_0 (And.intro @dc37 p_spec_SumsOf_tf.down))))))))))))))
       try refine st_by ff ?_
       repeat' (first | exact trivial | refine And.intro sd ?_)
       refine key_0 _ ?_
       refine ⟨ok_12, g_14, g_15, g_16, h_0, ?_⟩
       exact p_spec_SumsOf_pv ff trivial
      rw [if_pos c37] at h_0
      have dc37 := c37
      obtain ⟨v38, ev38, h_0⟩ := Option.bind_eq_some_iff.1 h_0
      try dsimp only at h_0
      have ff := And.intro @dr_0 (And.intro @w_0 (And.intro @g0_0 (And.intro @g1_0 (And.intro @g2_0 (And.intro @g3_0 (And.intro @g4_0 (And.intro @g5_0 (And.intro @g6_0 (And.intro @g7_0 (And.intro @kk0c (And.intro @kk0d (And.intro @hrt_0 (And.intro @hex_0 (And.intro @dc37 p_spec_SumsOf_tf.down))))))))))))))
      try refine st_by ff ?_
      repeat' (first | exact trivial | refine And.intro sd ?_)
      first
      | (refine cq_lendOwn (p_spec_StepGame_does N (⟨g_14, g_15, g_16⟩ : GGame) x_0 v38 ev38) (hf_by ff) kr ⟨p_spec_SumsOf_sa ff trivial, ?_⟩; clear ff)
      have ff := And.intro @dr_0 (And.intro @w_0 (And.intro @g0_0 (And.intro @g1_0 (And.intro @g2_0 (And.intro @g3_0 (And.intro @g4_0 (And.intro @g5_0 (And.intro @g6_0 (And.intro @g7_0 (And.intro @kk0c (And.intro @kk0d (And.intro @hrt_0 (And.intro @hex_0 (And.intro @dc37 p_spec_SumsOf_tf.down))))))))))))))
      try refine st_by ff ?_
      repeat' (first | exact trivial | refine And.intro sd ?_)
      refine key_0 _ ?_
      refine ⟨v38.2, v38.1.Frame, v38.1.Coin, v38.1.Seats, h_0, ?_⟩
      exact p_spec_SumsOf_pv ff trivial
  · try clear ff
    rintro σ hg_0
    rw [hJ_0] at hg_0
    obtain ⟨ok_12, g_14, g_15, g_16, out_17, hj_0, g0_0a, g1_0a, g2_0a⟩ := hg_0
    cases hj_0
    try dsimp only at h
    by_cases c39 : ok_12 = true
    case neg =>
     rw [if_neg c39] at h
     have dc39 := eq_false_of_ne_true c39
     have ff := And.intro @g0_0a (And.intro @g1_0a (And.intro @g2_0a (And.intro @dc39 p_spec_SumsOf_tf.down)))
     try refine st_by ff ?_
     repeat' (first | exact trivial | refine And.intro sd ?_)
     cases h
     exact ret_q2 rfl (p_spec_SumsOf_rt ff trivial)
    rw [if_pos c39] at h
    have dc39 := c39
    have ff := And.intro @g0_0a (And.intro @g1_0a (And.intro @g2_0a (And.intro @dc39 p_spec_SumsOf_tf.down)))
    try refine st_by ff ?_
    repeat' (first | exact trivial | refine And.intro sd ?_)
    cases h
    exact ret_q2 rfl (p_spec_SumsOf_rt ff trivial)
/-! spec.HonestClaim -/
def p_spec_HonestClaim_j0 (c_a0 : GClaim) (v1 : List Int × Bool) (i_13 : Int) (rec_0 : Int → Option (LR (Int × Bool) (Int))) (b_24 : Bool) : Option (LR (Int × Bool) (Int)) := (if b_24 = true then (if i_13 ≥ (v1.1.length : Int) then some (.ret (i_13, true)) else (if i_13 ≥ (c_a0.Sums.length : Int) then some (.ret (i_13, true)) else ((idx v1.1 i_13).bind fun x28 => ((idx c_a0.Sums i_13).bind fun x30 => (if x28 = x30 then rec_0 (IntKind.i64.wrap (i_13 + 1)) else some (.ret (i_13, true))))))) else some (.out i_13))
def p_spec_HonestClaim_l0 (c_a0 : GClaim) (v1 : List Int × Bool) : Nat → Int → Option (LR (Int × Bool) (Int))
  | 0, _ => none
  | n_0 + 1, i_13 => (if i_13 < (v1.1.length : Int) then p_spec_HonestClaim_j0 c_a0 v1 i_13 (p_spec_HonestClaim_l0 c_a0 v1 n_0) true else p_spec_HonestClaim_j0 c_a0 v1 i_13 (p_spec_HonestClaim_l0 c_a0 v1 n_0) (decide (i_13 < (c_a0.Sums.length : Int))))
theorem p_spec_HonestClaim_pv {F C A : Prop} (hF : F) (hC : C) (h : F → C → A := by intro hF hC; first | exact cl_by hF | (refine st_by hF ?_; (repeat' (first | exact trivial | apply And.intro)); all_goals (clear hF; first | rfl | (simp only [hC, List.length_append, List.length_cons, List.length_nil, List.append_nil, List.nil_append, List.cons_append, List.length_set, List.append_assoc, Nat.zero_add, List.length_replicate, esInt_app, esInt_cons, esInt_nil, eInt_eq, esLInt_app, esLInt_cons, esLInt_nil, eLInt_eq, esLInto_app, esLInto_cons, esLInto_nil, eLInto_eq, esClaim_app, esClaim_cons, esClaim_nil, eClaim_eq, esClaimo_app, esClaimo_cons, esClaimo_nil, eClaimo_eq]; done) | (simp [hC, List.length_append, List.length_cons, List.length_nil, List.append_nil, List.nil_append, List.cons_append, List.length_set, List.append_assoc, Nat.zero_add, List.length_replicate, esInt_app, esInt_cons, esInt_nil, eInt_eq, esLInt_app, esLInt_cons, esLInt_nil, eLInt_eq, esLInto_app, esLInto_cons, esLInto_nil, eLInto_eq, esClaim_app, esClaim_cons, esClaim_nil, eClaim_eq, esClaimo_app, esClaimo_cons, esClaimo_nil, eClaimo_eq]; done) | omega))) : A := h hF hC
theorem p_spec_HonestClaim_sa {F C A : Prop} (hF : F) (hC : C) (h : F → C → A := by intro hF hC; first | exact ca_by hF | (refine sa_by hF ?_; (repeat' (first | exact trivial | apply And.intro)); all_goals (clear hF; first | rfl | (simp only [hC, List.length_append, List.length_cons, List.length_nil, List.append_nil, List.nil_append, List.cons_append, List.length_set, List.append_assoc, Nat.zero_add, List.length_replicate, esInt_app, esInt_cons, esInt_nil, eInt_eq, esLInt_app, esLInt_cons, esLInt_nil, eLInt_eq, esLInto_app, esLInto_cons, esLInto_nil, eLInto_eq, esClaim_app, esClaim_cons, esClaim_nil, eClaim_eq, esClaimo_app, esClaimo_cons, esClaimo_nil, eClaimo_eq]; done) | (simp [hC, List.length_append, List.length_cons, List.length_nil, List.append_nil, List.nil_append, List.cons_append, List.length_set, List.append_assoc, Nat.zero_add, List.length_replicate, esInt_app, esInt_cons, esInt_nil, eInt_eq, esLInt_app, esLInt_cons, esLInt_nil, eLInt_eq, esLInto_app, esLInto_cons, esLInto_nil, eLInto_eq, esClaim_app, esClaim_cons, esClaim_nil, eClaim_eq, esClaimo_app, esClaimo_cons, esClaimo_nil, eClaimo_eq]; done) | omega))) : A := h hF hC
theorem p_spec_HonestClaim_rt {F C A : Prop} (hF : F) (hC : C) (h : F → C → A := by intro hF hC; first | (refine sr_by hF ?_; (repeat' (first | exact trivial | apply And.intro)); all_goals (clear hF; first | rfl | (simp only [hC, List.length_append, List.length_cons, List.length_nil, List.append_nil, List.nil_append, List.cons_append, List.length_set, List.append_assoc, Nat.zero_add, List.length_replicate, esInt_app, esInt_cons, esInt_nil, eInt_eq, esLInt_app, esLInt_cons, esLInt_nil, eLInt_eq, esLInto_app, esLInto_cons, esLInto_nil, eLInto_eq, esClaim_app, esClaim_cons, esClaim_nil, eClaim_eq, esClaimo_app, esClaimo_cons, esClaimo_nil, eClaimo_eq]; done) | (simp [hC, List.length_append, List.length_cons, List.length_nil, List.append_nil, List.nil_append, List.cons_append, List.length_set, List.append_assoc, Nat.zero_add, List.length_replicate, esInt_app, esInt_cons, esInt_nil, eInt_eq, esLInt_app, esLInt_cons, esLInt_nil, eLInt_eq, esLInto_app, esLInto_cons, esLInto_nil, eLInto_eq, esClaim_app, esClaim_cons, esClaim_nil, eClaim_eq, esClaimo_app, esClaimo_cons, esClaimo_nil, eClaimo_eq]; done) | omega)) | (first | rfl | (simp only [hC, List.length_append, List.length_cons, List.length_nil, List.append_nil, List.nil_append, List.cons_append, List.length_set, List.append_assoc, Nat.zero_add, List.length_replicate, esInt_app, esInt_cons, esInt_nil, eInt_eq, esLInt_app, esLInt_cons, esLInt_nil, eLInt_eq, esLInto_app, esLInto_cons, esLInto_nil, eLInto_eq, esClaim_app, esClaim_cons, esClaim_nil, eClaim_eq, esClaimo_app, esClaimo_cons, esClaimo_nil, eClaimo_eq]; done) | (simp [hC, List.length_append, List.length_cons, List.length_nil, List.append_nil, List.nil_append, List.cons_append, List.length_set, List.append_assoc, Nat.zero_add, List.length_replicate, esInt_app, esInt_cons, esInt_nil, eInt_eq, esLInt_app, esLInt_cons, esLInt_nil, eLInt_eq, esLInto_app, esLInto_cons, esLInto_nil, eLInto_eq, esClaim_app, esClaim_cons, esClaim_nil, eClaim_eq, esClaimo_app, esClaimo_cons, esClaimo_nil, eClaimo_eq]; done) | omega)) : A := h hF hC
def p_spec_HonestClaim_tf := PLift.up (And.intro @eInt_eq (And.intro @esInt_len (And.intro @esInt_nil (And.intro @esInt_leaf (And.intro @esInt_fit (And.intro @eLInt_eq (And.intro @esLInt_len (And.intro @esLInt_nil (And.intro @esLInt_leaf (And.intro @esLInt_fit (And.intro @eLInto_eq (And.intro @esLInto_len (And.intro @esLInto_nil (And.intro @eClaim_eq (And.intro @esClaim_len (And.intro @esClaim_nil (And.intro @esClaim_leaf (And.intro @esClaim_fit (And.intro @eClaimo_eq (And.intro @esClaimo_len (And.intro @esClaimo_nil (And.intro @esInt_share (And.intro @esInt_pure (And.intro @esLInto_share (And.intro @esLInto_pure (And.intro @esClaimo_share (And.intro @esClaimo_pure (And.intro @str_beq (And.intro @Ty.sl35 (And.intro @Ty.slz35 (And.intro @Ty.nz3 (And.intro @Ty.ldA3 (And.intro @Ty.ldS3 (And.intro @Ty.sz3 (And.intro @Ty.szn3 (And.intro @Ty.nz34 (And.intro @Ty.ldA34 (And.intro @Ty.ldS34 (And.intro @Ty.sz34 (And.intro @Ty.szn34 (And.intro @Ty.nz35 (And.intro @Ty.ldA35 (And.intro @Ty.ldS35 (And.intro @Ty.sz35 (And.intro @Ty.szn35 (And.intro @Ty.fo41_0 (And.intro @Ty.fk41_0 (And.intro @Ty.fs41_0 (And.intro @Ty.fn41_0 (And.intro @Ty.fo41_1 (And.intro @Ty.fk41_1 (And.intro @Ty.fs41_1 (And.intro @Ty.fn41_1 (And.intro @Ty.fo41_2 (And.intro @Ty.fk41_2 (And.intro @Ty.fs41_2 (And.intro @Ty.fn41_2 (And.intro @Ty.fo41_3 (And.intro @Ty.fk41_3 (And.intro @Ty.fs41_3 (And.intro @Ty.fn41_3 @trivial)))))))))))))))))))))))))))))))))))))))))))))))))))))))))))))
def p_spec_HonestClaim (N : Nat) (c_a0 : GClaim) : Option (Int × Bool) := ((p_spec_SumsOf N c_a0.Seats c_a0.Seed c_a0.Inputs).bind fun v1 => (if v1.2 = true then ((p_spec_HonestClaim_l0 c_a0 v1 N 0).bind fun q_0 => match q_0 with | .ret r_ => some r_ | .out i_13 => some ((-1), true)) else some (0, false)))
theorem p_spec_HonestClaim_does (N : Nat) (c_a0 : GClaim) (r : Int × Bool) (h : p_spec_HonestClaim N c_a0 = some r) : Does Try.prog 15 [.agg (eClaim c_a0)] (.tup [I r.1, B r.2]) := by
  rw [p_spec_HonestClaim] at h
  refine Does.bnd (fun hb => ?_)
  have hb2 : c_a0.Inputs.length ≤ 9223372036854775807 ∧ c_a0.Sums.length ≤ 9223372036854775807 := by simpa [AV.fitNs, AV.fitN, eClaim] using hb
  obtain ⟨hl0, hl1⟩ := hb2
  refine Does.walk (nt := 56) Try.func15 rfl rfl (by simp) (by decide) rfl (fun G0 X w0 pv => ?_)
  obtain ⟨v1, ev1, h⟩ := Option.bind_eq_some_iff.1 h
  try dsimp only at h
  have ff := p_spec_HonestClaim_tf.down
  try refine st_by ff ?_
  repeat' (first | exact trivial | refine And.intro sd ?_)
  first
  | (refine cq_own (p_spec_SumsOf_does N c_a0.Seats c_a0.Seed c_a0.Inputs v1 ev1) (hf_by ff) kr ⟨p_spec_HonestClaim_sa ff trivial, ?_⟩; clear ff)
  | (refine cq_down (p_spec_SumsOf_does N c_a0.Seats c_a0.Seed c_a0.Inputs v1 ev1) (hf_by ff) kr ⟨p_spec_HonestClaim_sa ff trivial, ?_⟩; clear ff)
  by_cases c2 : v1.2 = true
  case neg =>
   rw [if_neg c2] at h
   have dc2 := eq_false_of_ne_true c2
   have ff := And.intro @dc2 p_spec_HonestClaim_tf.down
   try refine st_by ff ?_
   repeat' (first | exact trivial | refine And.intro sd ?_)
   cases h
   exact ret_q2 rfl (p_spec_HonestClaim_rt ff trivial)
  rw [if_pos c2] at h
  have dc2 := c2
  obtain ⟨q_0, eq_0, h⟩ := Option.bind_eq_some_iff.1 h
  have ff := And.intro @dc2 p_spec_HonestClaim_tf.down
  try refine st_by ff ?_
  repeat' (first | exact trivial | refine And.intro sd ?_)
  obtain ⟨I_0, hI_0⟩ : ∃ I_ : (Nat × Int) → ASt → Prop, I_ = (fun (a : Nat × Int) σ => match a with | (n_0, i_13) => (p_spec_HonestClaim_l0 c_a0 v1 n_0 i_13 = some q_0) ∧ σ.t 1 = .ptr 1 [] 0 ∧ σ.t 4 = .sl 14 [0] 0 v1.1.length ∧ σ.t 6 = I i_13 ∧ σ.m 1 = some (.box true [I c_a0.Seats, I c_a0.Seed, .row false 1 c_a0.Inputs.length (esLInt c_a0.Inputs), .row false 1 c_a0.Sums.length (esInt c_a0.Sums)]) ∧ σ.m 14 = some (.tup [.row true 1 v1.1.length (esInt v1.1), B v1.2])) := ⟨_, rfl⟩
  obtain ⟨M_0, hM_0⟩ : ∃ M_ : (Nat × Int) → Nat, M_ = (fun (a : Nat × Int) => match a with | (n_0, i_13) => n_0) := ⟨_, rfl⟩
  obtain ⟨J_0, hJ_0⟩ : ∃ J_ : ASt → Prop, J_ = (fun σ => ∃ i_13 : Int, (some (.out i_13) = some q_0) ∧ True) := ⟨_, rfl⟩
  refine aw_loopC (id := 0) I_0 M_0 J_0 (N, 0) ?_ ?_ ?_
  · rw [hI_0]
    refine ⟨eq_0, ?_⟩
    exact p_spec_HonestClaim_pv ff trivial
  · try clear ff
    rintro ⟨n_0, i_13⟩ σ hg_0
    rw [hI_0] at hg_0
    obtain ⟨h_0, g0_0, g1_0, g2_0, g3_0, g4_0⟩ := hg_0
    cases n_0 with
    | zero => rw [p_spec_HonestClaim_l0] at h_0; cases h_0
    | succ n_0 =>
      rw [p_spec_HonestClaim_l0] at h_0
      have ff := And.intro @dc2 (And.intro @g0_0 (And.intro @g1_0 (And.intro @g2_0 (And.intro @g3_0 (And.intro @g4_0 p_spec_HonestClaim_tf.down)))))
      try refine st_by ff ?_
      repeat' (first | exact trivial | refine And.intro sd ?_)
      try clear ff
      generalize hk_0 : thenK _ _ = kk_0
      have key_0 : ∀ σ, (∃ b_24 : Bool, (p_spec_HonestClaim_j0 c_a0 v1 i_13 (p_spec_HonestClaim_l0 c_a0 v1 n_0) b_24 = some q_0) ∧ σ.t 1 = .ptr 1 [] 0 ∧ σ.t 4 = .sl 14 [0] 0 v1.1.length ∧ σ.t 6 = I i_13 ∧ σ.t 29 = B b_24 ∧ σ.m 1 = some (.box true [I c_a0.Seats, I c_a0.Seed, .row false 1 c_a0.Inputs.length (esLInt c_a0.Inputs), .row false 1 c_a0.Sums.length (esInt c_a0.Sums)]) ∧ σ.m 14 = some (.tup [.row true 1 v1.1.length (esInt v1.1), B v1.2])) → kk_0 .nm σ := by
        rintro σ ⟨b_24, h_0, g0_j0, g1_j0, g2_j0, g3_j0, g4_j0, g5_j0⟩
        rw [← hk_0]
        rw [p_spec_HonestClaim_j0] at h_0
        by_cases c25 : b_24 = true
        case neg =>
         rw [if_neg c25] at h_0
         have dc25 := eq_false_of_ne_true c25
         have ff := And.intro @dc2 (And.intro @g0_j0 (And.intro @g1_j0 (And.intro @g2_j0 (And.intro @g3_j0 (And.intro @g4_j0 (And.intro @g5_j0 (And.intro @dc25 p_spec_HonestClaim_tf.down)))))))
         try refine st_by ff ?_
         repeat' (first | exact trivial | refine And.intro sd ?_)
         refine JW.intro ?_
         rw [hJ_0]
         refine ⟨i_13, h_0, ?_⟩
         exact p_spec_HonestClaim_pv ff trivial
        rw [if_pos c25] at h_0
        have dc25 := c25
        by_cases c26 : i_13 ≥ (v1.1.length : Int)
        · rw [if_pos c26] at h_0
          have dc26 := decide_eq_true c26
          cases h_0
          try dsimp only at h
          have ff := And.intro @dc2 (And.intro @g0_j0 (And.intro @g1_j0 (And.intro @g2_j0 (And.intro @g3_j0 (And.intro @g4_j0 (And.intro @g5_j0 (And.intro @dc25 (And.intro @dc26 p_spec_HonestClaim_tf.down))))))))
          try refine st_by ff ?_
          repeat' (first | exact trivial | refine And.intro sd ?_ | (refine aw_drawn (id := 7) ?_ [[], [], [1], [0, 1, 2], [0, 1, 2, 3], [0, 1, 2, 3, 4], [0, 1, 2, 3, 4], [0, 1, 2, 3, 4, 6], [0, 1, 2, 3, 4, 6, 7], [0, 1, 2, 3, 4, 5, 6, 7, 8], [0, 1, 2, 3, 4, 5, 6, 7, 8, 9], [0, 1, 2, 3, 4, 5, 6, 7, 8, 9, 10], [0, 1, 2, 3, 4, 5, 6, 7, 8, 9, 10, 11], [0, 1, 2, 3, 4, 5, 6, 7, 8, 9, 10, 11], [0, 1, 2, 3, 4, 5, 6, 7, 8, 9, 10, 11, 12, 13], [0, 1, 2, 3, 4, 5, 6, 7, 8, 9, 10, 11, 12, 13, 14], [0, 1, 2, 3, 4, 5, 6, 7, 8, 9, 10, 11], [0, 1, 2, 3, 4, 5, 6, 7, 8, 9, 10, 11, 16], [0, 1, 2, 3, 4, 5, 6, 7, 8, 9, 10, 11], [0, 1, 2, 3, 4, 5, 6, 7, 8, 9, 10, 11, 16, 17, 18], [0, 1, 2, 3, 4, 5, 6, 7, 8, 9, 10, 11, 16, 17, 18, 19], [0, 1, 2, 3, 4, 5, 6, 7, 8, 9, 10, 11, 12, 13, 14, 15, 16, 17, 18, 19, 20], [0, 1, 2, 3, 4, 5, 6, 7, 8, 9, 10, 11, 12, 13, 14, 15, 16, 17, 18, 19, 20, 21]] 21 ?_ ?_; (· kernel_rfl); (· kernel_rfl); refine st_by ff ?_))
          cases h
          exact ret_q2 rfl (p_spec_HonestClaim_rt ff trivial)
        rw [if_neg c26] at h_0
        have dc26 := decide_eq_false c26
        by_cases c27 : i_13 ≥ (c_a0.Sums.length : Int)
        · rw [if_pos c27] at h_0
          have dc27 := decide_eq_true c27
          cases h_0
          try dsimp only at h
          have ff := And.intro @dc2 (And.intro @g0_j0 (And.intro @g1_j0 (And.intro @g2_j0 (And.intro @g3_j0 (And.intro @g4_j0 (And.intro @g5_j0 (And.intro @dc25 (And.intro @dc26 (And.intro @dc27 p_spec_HonestClaim_tf.down)))))))))
          try refine st_by ff ?_
          repeat' (first | exact trivial | refine And.intro sd ?_ | (refine aw_drawn (id := 7) ?_ [[], [], [1], [0, 1, 2], [0, 1, 2, 3], [0, 1, 2, 3, 4], [0, 1, 2, 3, 4], [0, 1, 2, 3, 4, 6], [0, 1, 2, 3, 4, 6, 7], [0, 1, 2, 3, 4, 5, 6, 7, 8], [0, 1, 2, 3, 4, 5, 6, 7, 8, 9], [0, 1, 2, 3, 4, 5, 6, 7, 8, 9, 10], [0, 1, 2, 3, 4, 5, 6, 7, 8, 9, 10, 11], [0, 1, 2, 3, 4, 5, 6, 7, 8, 9, 10, 11], [0, 1, 2, 3, 4, 5, 6, 7, 8, 9, 10, 11, 12, 13], [0, 1, 2, 3, 4, 5, 6, 7, 8, 9, 10, 11, 12, 13, 14], [0, 1, 2, 3, 4, 5, 6, 7, 8, 9, 10, 11], [0, 1, 2, 3, 4, 5, 6, 7, 8, 9, 10, 11, 16], [0, 1, 2, 3, 4, 5, 6, 7, 8, 9, 10, 11], [0, 1, 2, 3, 4, 5, 6, 7, 8, 9, 10, 11, 16, 17, 18], [0, 1, 2, 3, 4, 5, 6, 7, 8, 9, 10, 11, 16, 17, 18, 19], [0, 1, 2, 3, 4, 5, 6, 7, 8, 9, 10, 11, 12, 13, 14, 15, 16, 17, 18, 19, 20], [0, 1, 2, 3, 4, 5, 6, 7, 8, 9, 10, 11, 12, 13, 14, 15, 16, 17, 18, 19, 20, 21]] 21 ?_ ?_; (· kernel_rfl); (· kernel_rfl); refine st_by ff ?_))
          cases h
          exact ret_q2 rfl (p_spec_HonestClaim_rt ff trivial)
        rw [if_neg c27] at h_0
        have dc27 := decide_eq_false c27
        obtain ⟨x28, ex28, h_0⟩ := Option.bind_eq_some_iff.1 h_0
        try dsimp only at h_0
        have f29a := idx_lo ex28
        have f29b := idx_hi ex28
        have f29c : (esInt v1.1).drop (i_13.toNat * 1) = eInt x28 ++ esInt (v1.1.drop (i_13.toNat + 1)) := drop_enc (fun _ => rfl) (idx_get ex28)
        have f29d := f29c
        rw [Nat.mul_one] at f29d
        have f29g0 : (esInt v1.1).getD (i_13.toNat * 1) .junk = (eInt x28).getD 0 .junk := getD_enc0 (enc := eInt) (sz := 1) (fun _ => rfl) (idx_get ex28) (by decide)
        rw [Nat.mul_one] at f29g0
        obtain ⟨x30, ex30, h_0⟩ := Option.bind_eq_some_iff.1 h_0
        try dsimp only at h_0
        have f31a := idx_lo ex30
        have f31b := idx_hi ex30
        have f31c : (esInt c_a0.Sums).drop (i_13.toNat * 1) = eInt x30 ++ esInt (c_a0.Sums.drop (i_13.toNat + 1)) := drop_enc (fun _ => rfl) (idx_get ex30)
        have f31d := f31c
        rw [Nat.mul_one] at f31d
        by_cases c32 : x28 = x30
        case neg =>
         rw [if_neg c32] at h_0
         have dc32 := beq_no c32
         cases h_0
         try dsimp only at h
         have ff := And.intro @dc2 (And.intro @g0_j0 (And.intro @g1_j0 (And.intro @g2_j0 (And.intro @g3_j0 (And.intro @g4_j0 (And.intro @g5_j0 (And.intro @dc25 (And.intro @dc26 (And.intro @dc27 (And.intro @f29c (And.intro @f29d (And.intro @f29g0 (And.intro @f31c (And.intro @f31d (And.intro @dc32 p_spec_HonestClaim_tf.down)))))))))))))))
         try refine st_by ff ?_
         repeat' (first | exact trivial | refine And.intro sd ?_ | (refine aw_drawn (id := 7) ?_ [[], [], [1], [0, 1, 2], [0, 1, 2, 3], [0, 1, 2, 3, 4], [0, 1, 2, 3, 4], [0, 1, 2, 3, 4, 6], [0, 1, 2, 3, 4, 6, 7], [0, 1, 2, 3, 4, 5, 6, 7, 8], [0, 1, 2, 3, 4, 5, 6, 7, 8, 9], [0, 1, 2, 3, 4, 5, 6, 7, 8, 9, 10], [0, 1, 2, 3, 4, 5, 6, 7, 8, 9, 10, 11], [0, 1, 2, 3, 4, 5, 6, 7, 8, 9, 10, 11], [0, 1, 2, 3, 4, 5, 6, 7, 8, 9, 10, 11, 12, 13], [0, 1, 2, 3, 4, 5, 6, 7, 8, 9, 10, 11, 12, 13, 14], [0, 1, 2, 3, 4, 5, 6, 7, 8, 9, 10, 11], [0, 1, 2, 3, 4, 5, 6, 7, 8, 9, 10, 11, 16], [0, 1, 2, 3, 4, 5, 6, 7, 8, 9, 10, 11], [0, 1, 2, 3, 4, 5, 6, 7, 8, 9, 10, 11, 16, 17, 18], [0, 1, 2, 3, 4, 5, 6, 7, 8, 9, 10, 11, 16, 17, 18, 19], [0, 1, 2, 3, 4, 5, 6, 7, 8, 9, 10, 11, 12, 13, 14, 15, 16, 17, 18, 19, 20], [0, 1, 2, 3, 4, 5, 6, 7, 8, 9, 10, 11, 12, 13, 14, 15, 16, 17, 18, 19, 20, 21]] 21 ?_ ?_; (· kernel_rfl); (· kernel_rfl); refine st_by ff ?_))
         cases h
         exact ret_q2 rfl (p_spec_HonestClaim_rt ff trivial)
        rw [if_pos c32] at h_0
        have dc32 := beq_yes c32
        have ff := And.intro @dc2 (And.intro @g0_j0 (And.intro @g1_j0 (And.intro @g2_j0 (And.intro @g3_j0 (And.intro @g4_j0 (And.intro @g5_j0 (And.intro @dc25 (And.intro @dc26 (And.intro @dc27 (And.intro @f29c (And.intro @f29d (And.intro @f29g0 (And.intro @f31c (And.intro @f31d (And.intro @dc32 p_spec_HonestClaim_tf.down)))))))))))))))
        try refine st_by ff ?_
        repeat' (first | exact trivial | refine And.intro sd ?_ | (refine aw_drawn (id := 7) ?_ [[], [], [1], [0, 1, 2], [0, 1, 2, 3], [0, 1, 2, 3, 4], [0, 1, 2, 3, 4], [0, 1, 2, 3, 4, 6], [0, 1, 2, 3, 4, 6, 7], [0, 1, 2, 3, 4, 5, 6, 7, 8], [0, 1, 2, 3, 4, 5, 6, 7, 8, 9], [0, 1, 2, 3, 4, 5, 6, 7, 8, 9, 10], [0, 1, 2, 3, 4, 5, 6, 7, 8, 9, 10, 11], [0, 1, 2, 3, 4, 5, 6, 7, 8, 9, 10, 11], [0, 1, 2, 3, 4, 5, 6, 7, 8, 9, 10, 11, 12, 13], [0, 1, 2, 3, 4, 5, 6, 7, 8, 9, 10, 11, 12, 13, 14], [0, 1, 2, 3, 4, 5, 6, 7, 8, 9, 10, 11], [0, 1, 2, 3, 4, 5, 6, 7, 8, 9, 10, 11, 16], [0, 1, 2, 3, 4, 5, 6, 7, 8, 9, 10, 11], [0, 1, 2, 3, 4, 5, 6, 7, 8, 9, 10, 11, 16, 17, 18], [0, 1, 2, 3, 4, 5, 6, 7, 8, 9, 10, 11, 16, 17, 18, 19], [0, 1, 2, 3, 4, 5, 6, 7, 8, 9, 10, 11, 12, 13, 14, 15, 16, 17, 18, 19, 20], [0, 1, 2, 3, 4, 5, 6, 7, 8, 9, 10, 11, 12, 13, 14, 15, 16, 17, 18, 19, 20, 21]] 21 ?_ ?_; (· kernel_rfl); (· kernel_rfl); refine st_by ff ?_))
        refine Back.intro (n_0, (IntKind.i64.wrap (i_13 + 1))) ?_ ?_
        · rw [hM_0]; exact Nat.lt_succ_self _
        rw [hI_0]
        refine ⟨h_0, ?_⟩
        exact p_spec_HonestClaim_pv ff trivial
      have hrt_0 := fun σ : ASt => congrFun (congrFun hk_0.symm AX.rt) σ
      have hex_0 := fun (i : Nat) (σ : ASt) => congrFun (congrFun hk_0.symm (AX.ex i)) σ
      by_cases c33 : i_13 < (v1.1.length : Int)
      case neg =>
       rw [if_neg c33] at h_0
       have dc33 := decide_eq_false c33
       have ff := And.intro @dc2 (And.intro @g0_0 (And.intro @g1_0 (And.intro @g2_0 (And.intro @g3_0 (And.intro @g4_0 (And.intro @hrt_0 (And.intro @hex_0 (And.intro @dc33 p_spec_HonestClaim_tf.down))))))))
       try refine st_by ff ?_
       repeat' (first | exact trivial | refine And.intro sd ?_)
       refine key_0 _ ?_
       refine ⟨decide (i_13 < (c_a0.Sums.length : Int)), h_0, ?_⟩
       exact p_spec_HonestClaim_pv ff trivial
      rw [if_pos c33] at h_0
      have dc33 := decide_eq_true c33
      have ff := And.intro @dc2 (And.intro @g0_0 (And.intro @g1_0 (And.intro @g2_0 (And.intro @g3_0 (And.intro @g4_0 (And.intro @hrt_0 (And.intro @hex_0 (And.intro @dc33 p_spec_HonestClaim_tf.down))))))))
      try refine st_by ff ?_
      repeat' (first | exact trivial | refine And.intro sd ?_)
      refine key_0 _ ?_
      refine ⟨true, h_0, ?_⟩
      exact p_spec_HonestClaim_pv ff trivial
  · try clear ff
    rintro σ hg_0
    rw [hJ_0] at hg_0
    obtain ⟨i_13, hj_0, _⟩ := hg_0
    cases hj_0
    try dsimp only at h
    have ff := And.intro @dc2 p_spec_HonestClaim_tf.down
    try refine st_by ff ?_
    repeat' (first | exact trivial | refine And.intro sd ?_)
    cases h
    exact ret_q2 rfl (p_spec_HonestClaim_rt ff trivial)
/-! impl.StartGame -/
def p_impl_StartGame_l0 (seats_a0 : Int) : Nat → Int → (List GSeat) → Option (Int × (List GSeat))
  | 0, _, _ => none
  | n_0 + 1, u_4, g_5 => (if u_4 < seats_a0 then (if g_5.length < 4294967296 then p_impl_StartGame_l0 seats_a0 n_0 (IntKind.i64.wrap (u_4 + 1)) (g_5 ++ [(⟨(IntKind.i64.wrap (8 * u_4)), (IntKind.i64.wrap (8 * u_4)), 9⟩ : GSeat)]) else none) else some (u_4, g_5))
def p_impl_StartGame_j0 (N : Nat) (seats_a0 : Int) (seed_a1 : Int) (b_1 : Bool) : Option (GGame × Bool) := (if b_1 = true then some ((⟨0, 0, ([] : List GSeat)⟩ : GGame), false) else ((p_impl_StartGame_l0 seats_a0 N 0 ([] : List GSeat)).bind fun q_0 => match q_0 with | (u_4, g_5) => some ((⟨0, seed_a1, g_5⟩ : GGame), true)))
theorem p_impl_StartGame_pv {F C A : Prop} (hF : F) (hC : C) (h : F → C → A := by intro hF hC; first | exact cl_by hF | (refine st_by hF ?_; (repeat' (first | exact trivial | apply And.intro)); all_goals (clear hF; first | rfl | (simp only [hC, List.length_append, List.length_cons, List.length_nil, List.append_nil, List.nil_append, List.cons_append, List.length_set, List.append_assoc, Nat.zero_add, List.length_replicate, esGame_app, esGame_cons, esGame_nil, eGame_eq, esGameo_app, esGameo_cons, esGameo_nil, eGameo_eq, esSeat_app, esSeat_cons, esSeat_nil, eSeat_eq]; done) | (simp [hC, List.length_append, List.length_cons, List.length_nil, List.append_nil, List.nil_append, List.cons_append, List.length_set, List.append_assoc, Nat.zero_add, List.length_replicate, esGame_app, esGame_cons, esGame_nil, eGame_eq, esGameo_app, esGameo_cons, esGameo_nil, eGameo_eq, esSeat_app, esSeat_cons, esSeat_nil, eSeat_eq]; done) | omega))) : A := h hF hC
theorem p_impl_StartGame_sa {F C A : Prop} (hF : F) (hC : C) (h : F → C → A := by intro hF hC; first | exact ca_by hF | (refine sa_by hF ?_; (repeat' (first | exact trivial | apply And.intro)); all_goals (clear hF; first | rfl | (simp only [hC, List.length_append, List.length_cons, List.length_nil, List.append_nil, List.nil_append, List.cons_append, List.length_set, List.append_assoc, Nat.zero_add, List.length_replicate, esGame_app, esGame_cons, esGame_nil, eGame_eq, esGameo_app, esGameo_cons, esGameo_nil, eGameo_eq, esSeat_app, esSeat_cons, esSeat_nil, eSeat_eq]; done) | (simp [hC, List.length_append, List.length_cons, List.length_nil, List.append_nil, List.nil_append, List.cons_append, List.length_set, List.append_assoc, Nat.zero_add, List.length_replicate, esGame_app, esGame_cons, esGame_nil, eGame_eq, esGameo_app, esGameo_cons, esGameo_nil, eGameo_eq, esSeat_app, esSeat_cons, esSeat_nil, eSeat_eq]; done) | omega))) : A := h hF hC
theorem p_impl_StartGame_rt {F C A : Prop} (hF : F) (hC : C) (h : F → C → A := by intro hF hC; first | (refine sr_by hF ?_; (repeat' (first | exact trivial | apply And.intro)); all_goals (clear hF; first | rfl | (simp only [hC, List.length_append, List.length_cons, List.length_nil, List.append_nil, List.nil_append, List.cons_append, List.length_set, List.append_assoc, Nat.zero_add, List.length_replicate, esGame_app, esGame_cons, esGame_nil, eGame_eq, esGameo_app, esGameo_cons, esGameo_nil, eGameo_eq, esSeat_app, esSeat_cons, esSeat_nil, eSeat_eq]; done) | (simp [hC, List.length_append, List.length_cons, List.length_nil, List.append_nil, List.nil_append, List.cons_append, List.length_set, List.append_assoc, Nat.zero_add, List.length_replicate, esGame_app, esGame_cons, esGame_nil, eGame_eq, esGameo_app, esGameo_cons, esGameo_nil, eGameo_eq, esSeat_app, esSeat_cons, esSeat_nil, eSeat_eq]; done) | omega)) | (first | rfl | (simp only [hC, List.length_append, List.length_cons, List.length_nil, List.append_nil, List.nil_append, List.cons_append, List.length_set, List.append_assoc, Nat.zero_add, List.length_replicate, esGame_app, esGame_cons, esGame_nil, eGame_eq, esGameo_app, esGameo_cons, esGameo_nil, eGameo_eq, esSeat_app, esSeat_cons, esSeat_nil, eSeat_eq]; done) | (simp [hC, List.length_append, List.length_cons, List.length_nil, List.append_nil, List.nil_append, List.cons_append, List.length_set, List.append_assoc, Nat.zero_add, List.length_replicate, esGame_app, esGame_cons, esGame_nil, eGame_eq, esGameo_app, esGameo_cons, esGameo_nil, eGameo_eq, esSeat_app, esSeat_cons, esSeat_nil, eSeat_eq]; done) | omega)) : A := h hF hC
def p_impl_StartGame_tf := PLift.up (And.intro @eGame_eq (And.intro @esGame_len (And.intro @esGame_nil (And.intro @esGame_leaf (And.intro @esGame_fit (And.intro @eGameo_eq (And.intro @esGameo_len (And.intro @esGameo_nil (And.intro @eSeat_eq (And.intro @esSeat_len (And.intro @esSeat_nil (And.intro @esSeat_leaf (And.intro @esSeat_fit (And.intro @esGameo_share (And.intro @esGameo_pure (And.intro @esSeat_share (And.intro @esSeat_pure (And.intro @str_beq (And.intro @Ty.nz73 (And.intro @Ty.ldA73 (And.intro @Ty.sz73 (And.intro @Ty.szn73 (And.intro @Ty.nz71 (And.intro @Ty.ldA71 (And.intro @Ty.ldS71 (And.intro @Ty.sz71 (And.intro @Ty.szn71 (And.intro @Ty.fo73_2 (And.intro @Ty.fk73_2 (And.intro @Ty.fs73_2 (And.intro @Ty.fn73_2 (And.intro @Ty.nze71 (And.intro @Ty.sl71 (And.intro @Ty.slz71 (And.intro @Ty.zok71 (And.intro @Ty.by71 (And.intro @Ty.zs71 (And.intro @Ty.zv73 (And.intro @Ty.bd73 (And.intro @Ty.pl73_1 (And.intro @Ty.bd84 (And.intro @Ty.zv84 (And.intro @Ty.pl84_0 (And.intro @Ty.pl84_1 (And.intro @Ty.pl84_2 (And.intro @Ty.ag73 @trivial))))))))))))))))))))))))))))))))))))))))))))))
def p_impl_StartGame (N : Nat) (seats_a0 : Int) (seed_a1 : Int) : Option (GGame × Bool) := (if (rng seats_a0 1 4) = true then ((p_impl_isSeed seed_a1).bind fun v13 => p_impl_StartGame_j0 N seats_a0 seed_a1 (!v13)) else p_impl_StartGame_j0 N seats_a0 seed_a1 true)
theorem p_impl_StartGame_does (N : Nat) (seats_a0 : Int) (seed_a1 : Int) (r : GGame × Bool) (h : p_impl_StartGame N seats_a0 seed_a1 = some r) : Does Try.prog 59 [I seats_a0, I seed_a1] (.tup [.agg (eGameo r.1), B r.2]) := by
  rw [p_impl_StartGame] at h
  refine Does.walk (nt := 35) Try.func59 rfl rfl (by simp) (by decide) rfl (fun G0 X w0 pv => ?_)
  have ff := p_impl_StartGame_tf.down
  try refine st_by ff ?_
  repeat' (first | exact trivial | refine And.intro sd ?_)
  first
  | (refine cq_call (inRange_does seats_a0 1 4) (hf_by ff) kr ⟨p_impl_StartGame_sa ff trivial, ?_⟩; clear ff)
  have ff := p_impl_StartGame_tf.down
  try refine st_by ff ?_
  repeat' (first | exact trivial | refine And.intro sd ?_)
  try clear ff
  generalize hk_0 : thenK _ _ = kk_0
  have key_0 : ∀ σ, (∃ b_1 : Bool, (p_impl_StartGame_j0 N seats_a0 seed_a1 b_1 = some r) ∧ σ.t 0 = I seats_a0 ∧ σ.t 1 = I seed_a1 ∧ σ.t 4 = .ptr 4 [] 0 ∧ σ.t 15 = B b_1 ∧ σ.m 4 = some (.box true [I 0, I 0, .row true 3 0 []])) → kk_0 .nm σ := by
    rintro σ ⟨b_1, h, g0_j0, g1_j0, g2_j0, g3_j0, g4_j0⟩
    rw [← hk_0]
    rw [p_impl_StartGame_j0] at h
    by_cases c2 : b_1 = true
    · rw [if_pos c2] at h
      have dc2 := c2
      have ff := And.intro @g0_j0 (And.intro @g1_j0 (And.intro @g2_j0 (And.intro @g3_j0 (And.intro @g4_j0 (And.intro @dc2 p_impl_StartGame_tf.down)))))
      try refine st_by ff ?_
      repeat' (first | exact trivial | refine And.intro sd ?_)
      cases h
      exact ret_q2 rfl (p_impl_StartGame_rt ff trivial)
    rw [if_neg c2] at h
    have dc2 := eq_false_of_ne_true c2
    obtain ⟨q_0, eq_0, h⟩ := Option.bind_eq_some_iff.1 h
    have ff := And.intro @g0_j0 (And.intro @g1_j0 (And.intro @g2_j0 (And.intro @g3_j0 (And.intro @g4_j0 (And.intro @dc2 p_impl_StartGame_tf.down)))))
    try refine st_by ff ?_
    repeat' (first | exact trivial | refine And.intro sd ?_)
    obtain ⟨I_0, hI_0⟩ : ∃ I_ : (Nat × Int × (List GSeat)) → ASt → Prop, I_ = (fun (a : Nat × Int × (List GSeat)) σ => match a with | (n_0, u_4, g_5) => (p_impl_StartGame_l0 seats_a0 n_0 u_4 g_5 = some q_0) ∧ σ.t 4 = .ptr 4 [] 0 ∧ σ.t 6 = .ptr 6 [] 0 ∧ σ.t 19 = I seats_a0 ∧ σ.t 20 = I u_4 ∧ σ.m 4 = some (.box true [I 0, I 0, .row true 3 0 []]) ∧ σ.m 6 = some (.box true [I 0, I seed_a1, .row true 3 g_5.length (esSeat g_5)])) := ⟨_, rfl⟩
    obtain ⟨M_0, hM_0⟩ : ∃ M_ : (Nat × Int × (List GSeat)) → Nat, M_ = (fun (a : Nat × Int × (List GSeat)) => match a with | (n_0, u_4, g_5) => n_0) := ⟨_, rfl⟩
    obtain ⟨J_0, hJ_0⟩ : ∃ J_ : ASt → Prop, J_ = (fun σ => ∃ u_4 : Int, ∃ g_5 : List GSeat, (some (u_4, g_5) = some q_0) ∧ σ.t 4 = .ptr 4 [] 0 ∧ σ.t 6 = .ptr 6 [] 0 ∧ σ.m 4 = some (.box true [I 0, I 0, .row true 3 0 []]) ∧ σ.m 6 = some (.box true [I 0, I seed_a1, .row true 3 g_5.length (esSeat g_5)])) := ⟨_, rfl⟩
    refine aw_loopC (id := 0) I_0 M_0 J_0 (N, 0, ([] : List GSeat)) ?_ ?_ ?_
    · rw [hI_0]
      refine ⟨eq_0, ?_⟩
      exact p_impl_StartGame_pv ff trivial
    · try clear ff
      rintro ⟨n_0, u_4, g_5⟩ σ hg_0
      rw [hI_0] at hg_0
      obtain ⟨h_0, g0_0, g1_0, g2_0, g3_0, g4_0, g5_0⟩ := hg_0
      cases n_0 with
      | zero => rw [p_impl_StartGame_l0] at h_0; cases h_0
      | succ n_0 =>
        rw [p_impl_StartGame_l0] at h_0
        by_cases c9 : u_4 < seats_a0
        case neg =>
         rw [if_neg c9] at h_0
         have dc9 := decide_eq_false c9
         have ff := And.intro @dc2 (And.intro @g0_0 (And.intro @g1_0 (And.intro @g2_0 (And.intro @g3_0 (And.intro @g4_0 (And.intro @g5_0 (And.intro @dc9 p_impl_StartGame_tf.down)))))))
         try refine st_by ff ?_
         repeat' (first | exact trivial | refine And.intro sd ?_)
         refine JW.intro ?_
         rw [hJ_0]
         refine ⟨u_4, g_5, h_0, ?_⟩
         exact p_impl_StartGame_pv ff trivial
        rw [if_pos c9] at h_0
        have dc9 := decide_eq_true c9
        by_cases c10 : g_5.length < 4294967296
        case neg => rw [if_neg c10] at h_0; cases h_0
        rw [if_pos c10] at h_0
        have a11a : esSeat g_5 ++ [I (IntKind.i64.wrap (8 * u_4)), I (IntKind.i64.wrap (8 * u_4)), I 9] = esSeat (g_5 ++ [(⟨(IntKind.i64.wrap (8 * u_4)), (IntKind.i64.wrap (8 * u_4)), 9⟩ : GSeat)]) := by simp [esSeat_app, esSeat_cons, esSeat_nil, eSeat_eq, esGame_nil, esSeat_nil]
        have a11b : g_5.length + 1 = (g_5 ++ [(⟨(IntKind.i64.wrap (8 * u_4)), (IntKind.i64.wrap (8 * u_4)), 9⟩ : GSeat)]).length := by simp
        have ff := And.intro @dc2 (And.intro @g0_0 (And.intro @g1_0 (And.intro @g2_0 (And.intro @g3_0 (And.intro @g4_0 (And.intro @g5_0 (And.intro @dc9 (And.intro @a11a (And.intro @a11b p_impl_StartGame_tf.down)))))))))
        try refine st_by ff ?_
        repeat' (first | exact trivial | refine And.intro sd ?_)
        refine Back.intro (n_0, (IntKind.i64.wrap (u_4 + 1)), (g_5 ++ [(⟨(IntKind.i64.wrap (8 * u_4)), (IntKind.i64.wrap (8 * u_4)), 9⟩ : GSeat)])) ?_ ?_
        · rw [hM_0]; exact Nat.lt_succ_self _
        rw [hI_0]
        refine ⟨h_0, ?_⟩
        exact p_impl_StartGame_pv ff trivial
    · try clear ff
      rintro σ hg_0
      rw [hJ_0] at hg_0
      obtain ⟨u_4, g_5, hj_0, g0_0a, g1_0a, g2_0a, g3_0a⟩ := hg_0
      cases hj_0
      try dsimp only at h
      have ff := And.intro @dc2 (And.intro @g0_0a (And.intro @g1_0a (And.intro @g2_0a (And.intro @g3_0a p_impl_StartGame_tf.down))))
      try refine st_by ff ?_
      repeat' (first | exact trivial | refine And.intro sd ?_)
      cases h
      exact ret_q2 rfl (p_impl_StartGame_rt ff trivial)
  have hrt_0 := fun σ : ASt => congrFun (congrFun hk_0.symm AX.rt) σ
  have hex_0 := fun (i : Nat) (σ : ASt) => congrFun (congrFun hk_0.symm (AX.ex i)) σ
  by_cases c12 : (rng seats_a0 1 4) = true
  case neg =>
   rw [if_neg c12] at h
   have dc12 := eq_false_of_ne_true c12
   have ff := And.intro @hrt_0 (And.intro @hex_0 (And.intro @dc12 p_impl_StartGame_tf.down))
   try refine st_by ff ?_
   repeat' (first | exact trivial | refine And.intro sd ?_)
   refine key_0 _ ?_
   refine ⟨true, h, ?_⟩
   exact p_impl_StartGame_pv ff trivial
  rw [if_pos c12] at h
  have dc12 := c12
  obtain ⟨v13, ev13, h⟩ := Option.bind_eq_some_iff.1 h
  try dsimp only at h
  have ff := And.intro @hrt_0 (And.intro @hex_0 (And.intro @dc12 p_impl_StartGame_tf.down))
  try refine st_by ff ?_
  repeat' (first | exact trivial | refine And.intro sd ?_)
  first
  | (refine cq_call (p_impl_isSeed_does seed_a1 v13 ev13) (hf_by ff) kr ⟨p_impl_StartGame_sa ff trivial, ?_⟩; clear ff)
  have ff := And.intro @hrt_0 (And.intro @hex_0 (And.intro @dc12 p_impl_StartGame_tf.down))
  try refine st_by ff ?_
  repeat' (first | exact trivial | refine And.intro sd ?_)
  refine key_0 _ ?_
  refine ⟨!v13, h, ?_⟩
  exact p_impl_StartGame_pv ff trivial
/-! impl.play -/
def p_impl_play_l0 (N : Nat)  : List (List Int) → Nat → Bool → Int → Int → (List GSeat) → (List GGame) → Option (Bool × Int × Int × (List GSeat) × (List GGame))
  | [], i_0, ok_7, g_9, g_10, g_11, games_12 => some (ok_7, g_9, g_10, g_11, games_12)
  | x_0 :: r_0, i_0, ok_7, g_9, g_10, g_11, games_12 => (if ok_7 = true then ((p_impl_StepGame N (⟨g_9, g_10, g_11⟩ : GGame) x_0).bind fun v21 => (if games_12.length < 4294967296 then p_impl_play_l0 N r_0 (i_0 + 1) v21.2 v21.1.Frame v21.1.Coin v21.1.Seats (games_12 ++ [v21.1]) else none)) else p_impl_play_l0 N r_0 (i_0 + 1) ok_7 g_9 g_10 g_11 games_12)
theorem p_impl_play_pv {F C A : Prop} (hF : F) (hC : C) (h : F → C → A := by intro hF hC; first | exact cl_by hF | (refine st_by hF ?_; (repeat' (first | exact trivial | apply And.intro)); all_goals (clear hF; first | rfl | (simp only [hC, List.length_append, List.length_cons, List.length_nil, List.append_nil, List.nil_append, List.cons_append, List.length_set, List.append_assoc, Nat.zero_add, List.length_replicate, esInt_app, esInt_cons, esInt_nil, eInt_eq, esLInt_app, esLInt_cons, esLInt_nil, eLInt_eq, esLInto_app, esLInto_cons, esLInto_nil, eLInto_eq, esGame_app, esGame_cons, esGame_nil, eGame_eq, esGameo_app, esGameo_cons, esGameo_nil, eGameo_eq, esSeat_app, esSeat_cons, esSeat_nil, eSeat_eq]; done) | (simp [hC, List.length_append, List.length_cons, List.length_nil, List.append_nil, List.nil_append, List.cons_append, List.length_set, List.append_assoc, Nat.zero_add, List.length_replicate, esInt_app, esInt_cons, esInt_nil, eInt_eq, esLInt_app, esLInt_cons, esLInt_nil, eLInt_eq, esLInto_app, esLInto_cons, esLInto_nil, eLInto_eq, esGame_app, esGame_cons, esGame_nil, eGame_eq, esGameo_app, esGameo_cons, esGameo_nil, eGameo_eq, esSeat_app, esSeat_cons, esSeat_nil, eSeat_eq]; done) | omega))) : A := h hF hC
theorem p_impl_play_sa {F C A : Prop} (hF : F) (hC : C) (h : F → C → A := by intro hF hC; first | exact ca_by hF | (refine sa_by hF ?_; (repeat' (first | exact trivial | apply And.intro)); all_goals (clear hF; first | rfl | (simp only [hC, List.length_append, List.length_cons, List.length_nil, List.append_nil, List.nil_append, List.cons_append, List.length_set, List.append_assoc, Nat.zero_add, List.length_replicate, esInt_app, esInt_cons, esInt_nil, eInt_eq, esLInt_app, esLInt_cons, esLInt_nil, eLInt_eq, esLInto_app, esLInto_cons, esLInto_nil, eLInto_eq, esGame_app, esGame_cons, esGame_nil, eGame_eq, esGameo_app, esGameo_cons, esGameo_nil, eGameo_eq, esSeat_app, esSeat_cons, esSeat_nil, eSeat_eq]; done) | (simp [hC, List.length_append, List.length_cons, List.length_nil, List.append_nil, List.nil_append, List.cons_append, List.length_set, List.append_assoc, Nat.zero_add, List.length_replicate, esInt_app, esInt_cons, esInt_nil, eInt_eq, esLInt_app, esLInt_cons, esLInt_nil, eLInt_eq, esLInto_app, esLInto_cons, esLInto_nil, eLInto_eq, esGame_app, esGame_cons, esGame_nil, eGame_eq, esGameo_app, esGameo_cons, esGameo_nil, eGameo_eq, esSeat_app, esSeat_cons, esSeat_nil, eSeat_eq]; done) | omega))) : A := h hF hC
theorem p_impl_play_rt {F C A : Prop} (hF : F) (hC : C) (h : F → C → A := by intro hF hC; first | (refine sr_by hF ?_; (repeat' (first | exact trivial | apply And.intro)); all_goals (clear hF; first | rfl | (simp only [hC, List.length_append, List.length_cons, List.length_nil, List.append_nil, List.nil_append, List.cons_append, List.length_set, List.append_assoc, Nat.zero_add, List.length_replicate, esInt_app, esInt_cons, esInt_nil, eInt_eq, esLInt_app, esLInt_cons, esLInt_nil, eLInt_eq, esLInto_app, esLInto_cons, esLInto_nil, eLInto_eq, esGame_app, esGame_cons, esGame_nil, eGame_eq, esGameo_app, esGameo_cons, esGameo_nil, eGameo_eq, esSeat_app, esSeat_cons, esSeat_nil, eSeat_eq]; done) | (simp [hC, List.length_append, List.length_cons, List.length_nil, List.append_nil, List.nil_append, List.cons_append, List.length_set, List.append_assoc, Nat.zero_add, List.length_replicate, esInt_app, esInt_cons, esInt_nil, eInt_eq, esLInt_app, esLInt_cons, esLInt_nil, eLInt_eq, esLInto_app, esLInto_cons, esLInto_nil, eLInto_eq, esGame_app, esGame_cons, esGame_nil, eGame_eq, esGameo_app, esGameo_cons, esGameo_nil, eGameo_eq, esSeat_app, esSeat_cons, esSeat_nil, eSeat_eq]; done) | omega)) | (first | rfl | (simp only [hC, List.length_append, List.length_cons, List.length_nil, List.append_nil, List.nil_append, List.cons_append, List.length_set, List.append_assoc, Nat.zero_add, List.length_replicate, esInt_app, esInt_cons, esInt_nil, eInt_eq, esLInt_app, esLInt_cons, esLInt_nil, eLInt_eq, esLInto_app, esLInto_cons, esLInto_nil, eLInto_eq, esGame_app, esGame_cons, esGame_nil, eGame_eq, esGameo_app, esGameo_cons, esGameo_nil, eGameo_eq, esSeat_app, esSeat_cons, esSeat_nil, eSeat_eq]; done) | (simp [hC, List.length_append, List.length_cons, List.length_nil, List.append_nil, List.nil_append, List.cons_append, List.length_set, List.append_assoc, Nat.zero_add, List.length_replicate, esInt_app, esInt_cons, esInt_nil, eInt_eq, esLInt_app, esLInt_cons, esLInt_nil, eLInt_eq, esLInto_app, esLInto_cons, esLInto_nil, eLInto_eq, esGame_app, esGame_cons, esGame_nil, eGame_eq, esGameo_app, esGameo_cons, esGameo_nil, eGameo_eq, esSeat_app, esSeat_cons, esSeat_nil, eSeat_eq]; done) | omega)) : A := h hF hC
def p_impl_play_tf := PLift.up (And.intro @eInt_eq (And.intro @esInt_len (And.intro @esInt_nil (And.intro @esInt_leaf (And.intro @esInt_fit (And.intro @eLInt_eq (And.intro @esLInt_len (And.intro @esLInt_nil (And.intro @esLInt_leaf (And.intro @esLInt_fit (And.intro @eLInto_eq (And.intro @esLInto_len (And.intro @esLInto_nil (And.intro @eGame_eq (And.intro @esGame_len (And.intro @esGame_nil (And.intro @esGame_leaf (And.intro @esGame_fit (And.intro @eGameo_eq (And.intro @esGameo_len (And.intro @esGameo_nil (And.intro @eSeat_eq (And.intro @esSeat_len (And.intro @esSeat_nil (And.intro @esSeat_leaf (And.intro @esSeat_fit (And.intro @esInt_share (And.intro @esInt_pure (And.intro @esLInto_share (And.intro @esLInto_pure (And.intro @esLInt_share (And.intro @esGameo_share (And.intro @esGameo_pure (And.intro @esGame_share (And.intro @esSeat_share (And.intro @esSeat_pure (And.intro @str_beq (And.intro @Ty.sl34 (And.intro @Ty.slz34 (And.intro @Ty.nz73 (And.intro @Ty.ldA73 (And.intro @Ty.sz73 (And.intro @Ty.szn73 (And.intro @Ty.nz35 (And.intro @Ty.ldA35 (And.intro @Ty.ldS35 (And.intro @Ty.sz35 (And.intro @Ty.szn35 (And.intro @Ty.nze78 (And.intro @Ty.sl78 (And.intro @Ty.slz78 (And.intro @Ty.zok78 (And.intro @Ty.by78 (And.intro @Ty.zs78 (And.intro @Ty.zv73 (And.intro @Ty.ag73 (And.intro @Ty.sl35 (And.intro @Ty.slz35 @trivial))))))))))))))))))))))))))))))))))))))))))))))))))))))))))
def p_impl_play (N : Nat) (seats_a0 : Int) (seed_a1 : Int) (inputs_a2 : List (List Int)) : Option (GGame × List GGame × Bool) := ((p_impl_StartGame N seats_a0 seed_a1).bind fun v1 => ((p_impl_play_l0 N inputs_a2 0 v1.2 v1.1.Frame v1.1.Coin v1.1.Seats ([] : List GGame)).bind fun q_0 => match q_0 with | (ok_7, g_9, g_10, g_11, games_12) => some ((⟨g_9, g_10, g_11⟩ : GGame), games_12, ok_7)))
theorem p_impl_play_does (N : Nat) (seats_a0 : Int) (seed_a1 : Int) (inputs_a2 : List (List Int)) (r : GGame × List GGame × Bool) (h : p_impl_play N seats_a0 seed_a1 inputs_a2 = some r) : Does Try.prog 51 [I seats_a0, I seed_a1, .row false 1 inputs_a2.length (esLInt inputs_a2)] (.tup [.agg (eGame r.1), .row true 3 r.2.1.length (esGame r.2.1), B r.2.2]) := by
  rw [p_impl_play] at h
  refine Does.bnd (fun hb => ?_)
  have hb2 : inputs_a2.length ≤ 9223372036854775807 := by simpa [AV.fitNs, AV.fitN] using hb
  have hl0 := hb2
  refine Does.walk (nt := 42) Try.func51 rfl rfl (by simp) (by decide) rfl (fun G0 X w0 pv => ?_)
  obtain ⟨v1, ev1, h⟩ := Option.bind_eq_some_iff.1 h
  try dsimp only at h
  have ff := p_impl_play_tf.down
  try refine st_by ff ?_
  repeat' (first | exact trivial | refine And.intro sd ?_)
  first
  | (refine cq_call (p_impl_StartGame_does N seats_a0 seed_a1 v1 ev1) (hf_by ff) kr ⟨p_impl_play_sa ff trivial, ?_⟩; clear ff)
  have hL_0 : inputs_a2.length ≤ 9223372036854775807 := by first | assumption | omega
  obtain ⟨q_0, eq_0, h⟩ := Option.bind_eq_some_iff.1 h
  have ff := p_impl_play_tf.down
  try refine st_by ff ?_
  repeat' (first | exact trivial | refine And.intro sd ?_)
  obtain ⟨I_0, hI_0⟩ : ∃ I_ : (Nat × Bool × Int × Int × (List GSeat) × (List GGame)) → ASt → Prop, I_ = (fun (a : Nat × Bool × Int × Int × (List GSeat) × (List GGame)) σ => match a with | (i_0, ok_7, g_9, g_10, g_11, games_12) => (i_0 ≤ inputs_a2.length ∧ p_impl_play_l0 N (inputs_a2.drop i_0) i_0 ok_7 g_9 g_10 g_11 games_12 = some q_0) ∧ σ.t 6 = .ptr 6 [] 0 ∧ σ.t 9 = .ptr 9 [] 0 ∧ σ.t 10 = B ok_7 ∧ σ.t 11 = .sl 11 [] 0 games_12.length ∧ σ.t 21 = .row false 1 inputs_a2.length (esLInt inputs_a2) ∧ σ.t 22 = I (inputs_a2.length : Int) ∧ σ.t 23 = I (i_0 : Int) ∧ σ.m 6 = some (.box true [I 0, I 0, .row true 3 0 []]) ∧ σ.m 9 = some (.box true [I g_9, I g_10, .row false 3 g_11.length (esSeat g_11)]) ∧ σ.m 11 = some (.row true 3 games_12.length (esGame games_12))) := ⟨_, rfl⟩
  obtain ⟨M_0, hM_0⟩ : ∃ M_ : (Nat × Bool × Int × Int × (List GSeat) × (List GGame)) → Nat, M_ = (fun (a : Nat × Bool × Int × Int × (List GSeat) × (List GGame)) => match a with | (i_0, ok_7, g_9, g_10, g_11, games_12) => inputs_a2.length - i_0) := ⟨_, rfl⟩
  obtain ⟨J_0, hJ_0⟩ : ∃ J_ : ASt → Prop, J_ = (fun σ => ∃ ok_7 : Bool, ∃ g_9 : Int, ∃ g_10 : Int, ∃ g_11 : List GSeat, ∃ games_12 : List GGame, (some (ok_7, g_9, g_10, g_11, games_12) = some q_0) ∧ σ.t 6 = .ptr 6 [] 0 ∧ σ.t 9 = .ptr 9 [] 0 ∧ σ.t 10 = B ok_7 ∧ σ.t 11 = .sl 11 [] 0 games_12.length ∧ σ.m 6 = some (.box true [I 0, I 0, .row true 3 0 []]) ∧ σ.m 9 = some (.box true [I g_9, I g_10, .row false 3 g_11.length (esSeat g_11)]) ∧ σ.m 11 = some (.row true 3 games_12.length (esGame games_12))) := ⟨_, rfl⟩
  refine aw_loopC (id := 0) I_0 M_0 J_0 (0, v1.2, v1.1.Frame, v1.1.Coin, v1.1.Seats, ([] : List GGame)) ?_ ?_ ?_
  · rw [hI_0]
    refine ⟨⟨Nat.zero_le _, eq_0⟩, ?_⟩
    exact p_impl_play_pv ff trivial
  · try clear ff
    rintro ⟨i_0, ok_7, g_9, g_10, g_11, games_12⟩ σ hg_0
    rw [hI_0] at hg_0
    obtain ⟨⟨hi_0, h_0⟩, g0_0, g1_0, g2_0, g3_0, g4_0, g5_0, g6_0, g7_0, g8_0, g9_0⟩ := hg_0
    cases hr_0 : inputs_a2.drop i_0 with
    | nil =>
      rw [hr_0] at h_0
      rw [p_impl_play_l0] at h_0
      have hn_0 := drop_nil hr_0
      have dr_0 : decide ((i_0 : Int) < (inputs_a2.length : Int)) = false := decide_eq_false (by omega)
      have ff := And.intro @dr_0 (And.intro @g0_0 (And.intro @g1_0 (And.intro @g2_0 (And.intro @g3_0 (And.intro @g4_0 (And.intro @g5_0 (And.intro @g6_0 (And.intro @g7_0 (And.intro @g8_0 (And.intro @g9_0 p_impl_play_tf.down))))))))))
      try refine st_by ff ?_
      repeat' (first | exact trivial | refine And.intro sd ?_)
      refine JW.intro ?_
      rw [hJ_0]
      refine ⟨ok_7, g_9, g_10, g_11, games_12, h_0, ?_⟩
      exact p_impl_play_pv ff trivial
    | cons x_0 r_0 =>
      rw [hr_0] at h_0
      rw [p_impl_play_l0] at h_0
      obtain ⟨ht_0, hg_0, hd_0⟩ := drop_cons hr_0
      have dr_0 : decide ((i_0 : Int) < (inputs_a2.length : Int)) = true := decide_eq_true (by omega)
      have w_0 : IntKind.i64.wrap ((i_0 : Int) + 1) = ((i_0 + 1 : Nat) : Int) := wI _ (by omega) (by omega)
      have kk0c : (esLInt inputs_a2).drop (i_0 * 1) = eLInt x_0 ++ esLInt (inputs_a2.drop (i_0 + 1)) := drop_enc (fun _ => rfl) (hg_0)
      have kk0d := kk0c
      rw [Nat.mul_one] at kk0d
      by_cases c20 : ok_7 = true
      case neg =>
       rw [if_neg c20] at h_0
       have dc20 := eq_false_of_ne_true c20
       have ff := And.intro @dr_0 (And.intro @w_0 (And.intro @g0_0 (And.intro @g1_0 (And.intro @g2_0 (And.intro @g3_0 (And.intro @g4_0 (And.intro @g5_0 (And.intro @g6_0 (And.intro @g7_0 (And.intro @g8_0 (And.intro @g9_0 (And.intro @kk0c (And.intro @kk0d (And.intro @dc20 p_impl_play_tf.down))))))))))))))
       try refine st_by ff ?_
       repeat' (first | exact trivial | refine And.intro sd ?_)
       refine Back.intro (i_0 + 1, ok_7, g_9, g_10, g_11, games_12) ?_ ?_
       · clear ff; rw [hM_0]; show inputs_a2.length - (i_0 + 1) < inputs_a2.length - i_0; omega
       rw [hI_0]
       refine ⟨⟨by clear ff; show i_0 + 1 ≤ inputs_a2.length; omega, by show p_impl_play_l0 N (inputs_a2.drop (i_0 + 1)) (i_0 + 1) ok_7 g_9 g_10 g_11 games_12 = some q_0; rw [hd_0]; exact h_0⟩, ?_⟩
       exact p_impl_play_pv ff trivial
      rw [if_pos c20] at h_0
      have dc20 := c20
      obtain ⟨v21, ev21, h_0⟩ := Option.bind_eq_some_iff.1 h_0
      try dsimp only at h_0
      have ff := And.intro @dr_0 (And.intro @w_0 (And.intro @g0_0 (And.intro @g1_0 (And.intro @g2_0 (And.intro @g3_0 (And.intro @g4_0 (And.intro @g5_0 (And.intro @g6_0 (And.intro @g7_0 (And.intro @g8_0 (And.intro @g9_0 (And.intro @kk0c (And.intro @kk0d (And.intro @dc20 p_impl_play_tf.down))))))))))))))
      try refine st_by ff ?_
      repeat' (first | exact trivial | refine And.intro sd ?_)
      first
      | (refine cq_call (p_impl_StepGame_does N (⟨g_9, g_10, g_11⟩ : GGame) x_0 v21 ev21) (hf_by ff) kr ⟨p_impl_play_sa ff trivial, ?_⟩; clear ff)
      by_cases c22 : games_12.length < 4294967296
      case neg => rw [if_neg c22] at h_0; cases h_0
      rw [if_pos c22] at h_0
      have a23a : esGame games_12 ++ [I v21.1.Frame, I v21.1.Coin, .row false 3 v21.1.Seats.length (esSeat v21.1.Seats)] = esGame (games_12 ++ [v21.1]) := by simp [esGame_app, esGame_cons, esGame_nil, eGame_eq, esInt_nil, esLInt_nil, esGame_nil, esSeat_nil]
      have a23b : games_12.length + 1 = (games_12 ++ [v21.1]).length := by simp
      have ff := And.intro @dr_0 (And.intro @w_0 (And.intro @g0_0 (And.intro @g1_0 (And.intro @g2_0 (And.intro @g3_0 (And.intro @g4_0 (And.intro @g5_0 (And.intro @g6_0 (And.intro @g7_0 (And.intro @g8_0 (And.intro @g9_0 (And.intro @kk0c (And.intro @kk0d (And.intro @dc20 (And.intro @a23a (And.intro @a23b p_impl_play_tf.down))))))))))))))))
      try refine st_by ff ?_
      repeat' (first | exact trivial | refine And.intro sd ?_)
      refine Back.intro (i_0 + 1, v21.2, v21.1.Frame, v21.1.Coin, v21.1.Seats, (games_12 ++ [v21.1])) ?_ ?_
      · clear ff; rw [hM_0]; show inputs_a2.length - (i_0 + 1) < inputs_a2.length - i_0; omega
      rw [hI_0]
      refine ⟨⟨by clear ff; show i_0 + 1 ≤ inputs_a2.length; omega, by show p_impl_play_l0 N (inputs_a2.drop (i_0 + 1)) (i_0 + 1) v21.2 v21.1.Frame v21.1.Coin v21.1.Seats (games_12 ++ [v21.1]) = some q_0; rw [hd_0]; exact h_0⟩, ?_⟩
      exact p_impl_play_pv ff trivial
  · try clear ff
    rintro σ hg_0
    rw [hJ_0] at hg_0
    obtain ⟨ok_7, g_9, g_10, g_11, games_12, hj_0, g0_0a, g1_0a, g2_0a, g3_0a, g4_0a, g5_0a, g6_0a⟩ := hg_0
    cases hj_0
    try dsimp only at h
    have ff := And.intro @g0_0a (And.intro @g1_0a (And.intro @g2_0a (And.intro @g3_0a (And.intro @g4_0a (And.intro @g5_0a (And.intro @g6_0a p_impl_play_tf.down))))))
    try refine st_by ff ?_
    repeat' (first | exact trivial | refine And.intro sd ?_)
    cases h
    exact ret_q3 rfl (p_impl_play_rt ff trivial)
/-! impl.sumUp -/
def p_impl_sumUp_l0 : List Int → Nat → Int → Option (Int)
  | [], i_0, sum_4 => some sum_4
  | x_0 :: r_0, i_0, sum_4 => p_impl_sumUp_l0 r_0 (i_0 + 1) (Int.tmod (IntKind.i64.wrap ((IntKind.i64.wrap (31 * sum_4)) + x_0)) 1000003)
theorem p_impl_sumUp_pv {F C A : Prop} (hF : F) (hC : C) (h : F → C → A := by intro hF hC; first | exact cl_by hF | (refine st_by hF ?_; (repeat' (first | exact trivial | apply And.intro)); all_goals (clear hF; first | rfl | (simp only [hC, List.length_append, List.length_cons, List.length_nil, List.append_nil, List.nil_append, List.cons_append, List.length_set, List.append_assoc, Nat.zero_add, List.length_replicate, esInt_app, esInt_cons, esInt_nil, eInt_eq]; done) | (simp [hC, List.length_append, List.length_cons, List.length_nil, List.append_nil, List.nil_append, List.cons_append, List.length_set, List.append_assoc, Nat.zero_add, List.length_replicate, esInt_app, esInt_cons, esInt_nil, eInt_eq]; done) | omega))) : A := h hF hC
theorem p_impl_sumUp_sa {F C A : Prop} (hF : F) (hC : C) (h : F → C → A := by intro hF hC; first | exact ca_by hF | (refine sa_by hF ?_; (repeat' (first | exact trivial | apply And.intro)); all_goals (clear hF; first | rfl | (simp only [hC, List.length_append, List.length_cons, List.length_nil, List.append_nil, List.nil_append, List.cons_append, List.length_set, List.append_assoc, Nat.zero_add, List.length_replicate, esInt_app, esInt_cons, esInt_nil, eInt_eq]; done) | (simp [hC, List.length_append, List.length_cons, List.length_nil, List.append_nil, List.nil_append, List.cons_append, List.length_set, List.append_assoc, Nat.zero_add, List.length_replicate, esInt_app, esInt_cons, esInt_nil, eInt_eq]; done) | omega))) : A := h hF hC
theorem p_impl_sumUp_rt {F C A : Prop} (hF : F) (hC : C) (h : F → C → A := by intro hF hC; first | (refine sr_by hF ?_; (repeat' (first | exact trivial | apply And.intro)); all_goals (clear hF; first | rfl | (simp only [hC, List.length_append, List.length_cons, List.length_nil, List.append_nil, List.nil_append, List.cons_append, List.length_set, List.append_assoc, Nat.zero_add, List.length_replicate, esInt_app, esInt_cons, esInt_nil, eInt_eq]; done) | (simp [hC, List.length_append, List.length_cons, List.length_nil, List.append_nil, List.nil_append, List.cons_append, List.length_set, List.append_assoc, Nat.zero_add, List.length_replicate, esInt_app, esInt_cons, esInt_nil, eInt_eq]; done) | omega)) | (first | rfl | (simp only [hC, List.length_append, List.length_cons, List.length_nil, List.append_nil, List.nil_append, List.cons_append, List.length_set, List.append_assoc, Nat.zero_add, List.length_replicate, esInt_app, esInt_cons, esInt_nil, eInt_eq]; done) | (simp [hC, List.length_append, List.length_cons, List.length_nil, List.append_nil, List.nil_append, List.cons_append, List.length_set, List.append_assoc, Nat.zero_add, List.length_replicate, esInt_app, esInt_cons, esInt_nil, eInt_eq]; done) | omega)) : A := h hF hC
def p_impl_sumUp_tf := PLift.up (And.intro @eInt_eq (And.intro @esInt_len (And.intro @esInt_nil (And.intro @esInt_leaf (And.intro @esInt_fit (And.intro @esInt_share (And.intro @esInt_pure (And.intro @str_beq (And.intro @Ty.sl35 (And.intro @Ty.slz35 (And.intro @Ty.nz3 (And.intro @Ty.ldA3 (And.intro @Ty.ldS3 (And.intro @Ty.sz3 (And.intro @Ty.szn3 @trivial)))))))))))))))
def p_impl_sumUp (list_a0 : List Int) : Option (Int) := ((p_impl_sumUp_l0 list_a0 0 7).bind fun q_0 => match q_0 with | sum_4 => some sum_4)
theorem p_impl_sumUp_does (list_a0 : List Int) (r : Int) (h : p_impl_sumUp list_a0 = some r) : Does Try.prog 61 [.row false 1 list_a0.length (esInt list_a0)] (I r) := by
  rw [p_impl_sumUp] at h
  refine Does.bnd (fun hb => ?_)
  have hb2 : list_a0.length ≤ 9223372036854775807 := by simpa [AV.fitNs, AV.fitN] using hb
  have hl0 := hb2
  refine Does.walk (nt := 19) Try.func61 rfl rfl (by simp) (by decide) rfl (fun G0 X w0 pv => ?_)
  have hL_0 : list_a0.length ≤ 9223372036854775807 := by first | assumption | omega
  obtain ⟨q_0, eq_0, h⟩ := Option.bind_eq_some_iff.1 h
  have ff := p_impl_sumUp_tf.down
  try refine st_by ff ?_
  repeat' (first | exact trivial | refine And.intro sd ?_)
  obtain ⟨I_0, hI_0⟩ : ∃ I_ : (Nat × Int) → ASt → Prop, I_ = (fun (a : Nat × Int) σ => match a with | (i_0, sum_4) => (i_0 ≤ list_a0.length ∧ p_impl_sumUp_l0 (list_a0.drop i_0) i_0 sum_4 = some q_0) ∧ σ.t 3 = I sum_4 ∧ σ.t 6 = .row false 1 list_a0.length (esInt list_a0) ∧ σ.t 7 = I (list_a0.length : Int) ∧ σ.t 8 = I (i_0 : Int)) := ⟨_, rfl⟩
  obtain ⟨M_0, hM_0⟩ : ∃ M_ : (Nat × Int) → Nat, M_ = (fun (a : Nat × Int) => match a with | (i_0, sum_4) => list_a0.length - i_0) := ⟨_, rfl⟩
  obtain ⟨J_0, hJ_0⟩ : ∃ J_ : ASt → Prop, J_ = (fun σ => ∃ sum_4 : Int, (some sum_4 = some q_0) ∧ σ.t 3 = I sum_4) := ⟨_, rfl⟩
  refine aw_loopC (id := 0) I_0 M_0 J_0 (0, 7) ?_ ?_ ?_
  · rw [hI_0]
    refine ⟨⟨Nat.zero_le _, eq_0⟩, ?_⟩
    exact p_impl_sumUp_pv ff trivial
  · try clear ff
    rintro ⟨i_0, sum_4⟩ σ hg_0
    rw [hI_0] at hg_0
    obtain ⟨⟨hi_0, h_0⟩, g0_0, g1_0, g2_0, g3_0⟩ := hg_0
    cases hr_0 : list_a0.drop i_0 with
    | nil =>
      rw [hr_0] at h_0
      rw [p_impl_sumUp_l0] at h_0
      have hn_0 := drop_nil hr_0
      have dr_0 : decide ((i_0 : Int) < (list_a0.length : Int)) = false := decide_eq_false (by omega)
      have ff := And.intro @dr_0 (And.intro @g0_0 (And.intro @g1_0 (And.intro @g2_0 (And.intro @g3_0 p_impl_sumUp_tf.down))))
      try refine st_by ff ?_
      repeat' (first | exact trivial | refine And.intro sd ?_)
      refine JW.intro ?_
      rw [hJ_0]
      refine ⟨sum_4, h_0, ?_⟩
      exact p_impl_sumUp_pv ff trivial
    | cons x_0 r_0 =>
      rw [hr_0] at h_0
      rw [p_impl_sumUp_l0] at h_0
      obtain ⟨ht_0, hg_0, hd_0⟩ := drop_cons hr_0
      have dr_0 : decide ((i_0 : Int) < (list_a0.length : Int)) = true := decide_eq_true (by omega)
      have w_0 : IntKind.i64.wrap ((i_0 : Int) + 1) = ((i_0 + 1 : Nat) : Int) := wI _ (by omega) (by omega)
      have kk0c : (esInt list_a0).drop (i_0 * 1) = eInt x_0 ++ esInt (list_a0.drop (i_0 + 1)) := drop_enc (fun _ => rfl) (hg_0)
      have kk0d := kk0c
      rw [Nat.mul_one] at kk0d
      have ff := And.intro @dr_0 (And.intro @w_0 (And.intro @g0_0 (And.intro @g1_0 (And.intro @g2_0 (And.intro @g3_0 (And.intro @kk0c (And.intro @kk0d p_impl_sumUp_tf.down)))))))
      try refine st_by ff ?_
      repeat' (first | exact trivial | refine And.intro sd ?_)
      refine Back.intro (i_0 + 1, (Int.tmod (IntKind.i64.wrap ((IntKind.i64.wrap (31 * sum_4)) + x_0)) 1000003)) ?_ ?_
      · clear ff; rw [hM_0]; show list_a0.length - (i_0 + 1) < list_a0.length - i_0; omega
      rw [hI_0]
      refine ⟨⟨by clear ff; show i_0 + 1 ≤ list_a0.length; omega, by show p_impl_sumUp_l0 (list_a0.drop (i_0 + 1)) (i_0 + 1) (Int.tmod (IntKind.i64.wrap ((IntKind.i64.wrap (31 * sum_4)) + x_0)) 1000003) = some q_0; rw [hd_0]; exact h_0⟩, ?_⟩
      exact p_impl_sumUp_pv ff trivial
  · try clear ff
    rintro σ hg_0
    rw [hJ_0] at hg_0
    obtain ⟨sum_4, hj_0, g0_0a⟩ := hg_0
    have hjj_0 := Option.some.inj hj_0
    subst hjj_0
    try dsimp only at h
    have ff := And.intro @g0_0a p_impl_sumUp_tf.down
    try refine st_by ff ?_
    repeat' (first | exact trivial | refine And.intro sd ?_)
    cases h
    exact ret_q1 rfl (p_impl_sumUp_rt ff trivial)
/-! (impl.Game).sum -/
def p_impl_Game_sum_l0 : List GSeat → Nat → (List Int) → Option ((List Int))
  | [], i_0, list_7 => some list_7
  | x_0 :: r_0, i_0, list_7 => (if list_7.length < 4294967296 then p_impl_Game_sum_l0 r_0 (i_0 + 1) (list_7 ++ [x_0.X, x_0.Y, x_0.Hp]) else none)
theorem p_impl_Game_sum_pv {F C A : Prop} (hF : F) (hC : C) (h : F → C → A := by intro hF hC; first | exact cl_by hF | (refine st_by hF ?_; (repeat' (first | exact trivial | apply And.intro)); all_goals (clear hF; first | rfl | (simp only [hC, List.length_append, List.length_cons, List.length_nil, List.append_nil, List.nil_append, List.cons_append, List.length_set, List.append_assoc, Nat.zero_add, List.length_replicate, esInt_app, esInt_cons, esInt_nil, eInt_eq, esGame_app, esGame_cons, esGame_nil, eGame_eq, esGameo_app, esGameo_cons, esGameo_nil, eGameo_eq, esSeat_app, esSeat_cons, esSeat_nil, eSeat_eq]; done) | (simp [hC, List.length_append, List.length_cons, List.length_nil, List.append_nil, List.nil_append, List.cons_append, List.length_set, List.append_assoc, Nat.zero_add, List.length_replicate, esInt_app, esInt_cons, esInt_nil, eInt_eq, esGame_app, esGame_cons, esGame_nil, eGame_eq, esGameo_app, esGameo_cons, esGameo_nil, eGameo_eq, esSeat_app, esSeat_cons, esSeat_nil, eSeat_eq]; done) | omega))) : A := h hF hC
theorem p_impl_Game_sum_sa {F C A : Prop} (hF : F) (hC : C) (h : F → C → A := by intro hF hC; first | exact ca_by hF | (refine sa_by hF ?_; (repeat' (first | exact trivial | apply And.intro)); all_goals (clear hF; first | rfl | (simp only [hC, List.length_append, List.length_cons, List.length_nil, List.append_nil, List.nil_append, List.cons_append, List.length_set, List.append_assoc, Nat.zero_add, List.length_replicate, esInt_app, esInt_cons, esInt_nil, eInt_eq, esGame_app, esGame_cons, esGame_nil, eGame_eq, esGameo_app, esGameo_cons, esGameo_nil, eGameo_eq, esSeat_app, esSeat_cons, esSeat_nil, eSeat_eq]; done) | (simp [hC, List.length_append, List.length_cons, List.length_nil, List.append_nil, List.nil_append, List.cons_append, List.length_set, List.append_assoc, Nat.zero_add, List.length_replicate, esInt_app, esInt_cons, esInt_nil, eInt_eq, esGame_app, esGame_cons, esGame_nil, eGame_eq, esGameo_app, esGameo_cons, esGameo_nil, eGameo_eq, esSeat_app, esSeat_cons, esSeat_nil, eSeat_eq]; done) | omega))) : A := h hF hC
theorem p_impl_Game_sum_rt {F C A : Prop} (hF : F) (hC : C) (h : F → C → A := by intro hF hC; first | (refine sr_by hF ?_; (repeat' (first | exact trivial | apply And.intro)); all_goals (clear hF; first | rfl | (simp only [hC, List.length_append, List.length_cons, List.length_nil, List.append_nil, List.nil_append, List.cons_append, List.length_set, List.append_assoc, Nat.zero_add, List.length_replicate, esInt_app, esInt_cons, esInt_nil, eInt_eq, esGame_app, esGame_cons, esGame_nil, eGame_eq, esGameo_app, esGameo_cons, esGameo_nil, eGameo_eq, esSeat_app, esSeat_cons, esSeat_nil, eSeat_eq]; done) | (simp [hC, List.length_append, List.length_cons, List.length_nil, List.append_nil, List.nil_append, List.cons_append, List.length_set, List.append_assoc, Nat.zero_add, List.length_replicate, esInt_app, esInt_cons, esInt_nil, eInt_eq, esGame_app, esGame_cons, esGame_nil, eGame_eq, esGameo_app, esGameo_cons, esGameo_nil, eGameo_eq, esSeat_app, esSeat_cons, esSeat_nil, eSeat_eq]; done) | omega)) | (first | rfl | (simp only [hC, List.length_append, List.length_cons, List.length_nil, List.append_nil, List.nil_append, List.cons_append, List.length_set, List.append_assoc, Nat.zero_add, List.length_replicate, esInt_app, esInt_cons, esInt_nil, eInt_eq, esGame_app, esGame_cons, esGame_nil, eGame_eq, esGameo_app, esGameo_cons, esGameo_nil, eGameo_eq, esSeat_app, esSeat_cons, esSeat_nil, eSeat_eq]; done) | (simp [hC, List.length_append, List.length_cons, List.length_nil, List.append_nil, List.nil_append, List.cons_append, List.length_set, List.append_assoc, Nat.zero_add, List.length_replicate, esInt_app, esInt_cons, esInt_nil, eInt_eq, esGame_app, esGame_cons, esGame_nil, eGame_eq, esGameo_app, esGameo_cons, esGameo_nil, eGameo_eq, esSeat_app, esSeat_cons, esSeat_nil, eSeat_eq]; done) | omega)) : A := h hF hC
def p_impl_Game_sum_tf := PLift.up (And.intro @eInt_eq (And.intro @esInt_len (And.intro @esInt_nil (And.intro @esInt_leaf (And.intro @esInt_fit (And.intro @eGame_eq (And.intro @esGame_len (And.intro @esGame_nil (And.intro @esGame_leaf (And.intro @esGame_fit (And.intro @eGameo_eq (And.intro @esGameo_len (And.intro @esGameo_nil (And.intro @eSeat_eq (And.intro @esSeat_len (And.intro @esSeat_nil (And.intro @esSeat_leaf (And.intro @esSeat_fit (And.intro @esInt_share (And.intro @esInt_pure (And.intro @esGameo_share (And.intro @esGameo_pure (And.intro @esSeat_share (And.intro @esSeat_pure (And.intro @str_beq (And.intro @Ty.sl71 (And.intro @Ty.slz71 (And.intro @Ty.nz3 (And.intro @Ty.ldA3 (And.intro @Ty.ldS3 (And.intro @Ty.sz3 (And.intro @Ty.szn3 (And.intro @Ty.nz71 (And.intro @Ty.ldA71 (And.intro @Ty.ldS71 (And.intro @Ty.sz71 (And.intro @Ty.szn71 (And.intro @Ty.nz84 (And.intro @Ty.ldA84 (And.intro @Ty.sz84 (And.intro @Ty.szn84 (And.intro @Ty.fo73_0 (And.intro @Ty.fk73_0 (And.intro @Ty.fs73_0 (And.intro @Ty.fn73_0 (And.intro @Ty.fo73_1 (And.intro @Ty.fk73_1 (And.intro @Ty.fs73_1 (And.intro @Ty.fn73_1 (And.intro @Ty.fo73_2 (And.intro @Ty.fk73_2 (And.intro @Ty.fs73_2 (And.intro @Ty.fn73_2 (And.intro @Ty.fo84_0 (And.intro @Ty.fk84_0 (And.intro @Ty.fs84_0 (And.intro @Ty.fn84_0 (And.intro @Ty.fo84_1 (And.intro @Ty.fk84_1 (And.intro @Ty.fs84_1 (And.intro @Ty.fn84_1 (And.intro @Ty.fo84_2 (And.intro @Ty.fk84_2 (And.intro @Ty.fs84_2 (And.intro @Ty.fn84_2 (And.intro @Ty.nze35 (And.intro @Ty.sl35 (And.intro @Ty.slz35 (And.intro @Ty.zok35 (And.intro @Ty.by35 (And.intro @Ty.zs35 (And.intro @Ty.zv84 @trivial))))))))))))))))))))))))))))))))))))))))))))))))))))))))))))))))))))))))
def p_impl_Game_sum (g_a0 : GGame) : Option (Int) := ((p_impl_Game_sum_l0 g_a0.Seats 0 ([g_a0.Frame, g_a0.Coin] : List Int)).bind fun q_0 => match q_0 with | list_7 => ((p_impl_sumUp list_7).bind fun v15 => some v15))
theorem p_impl_Game_sum_does (g_a0 : GGame) (r : Int) (h : p_impl_Game_sum g_a0 = some r) : Does Try.prog 52 [.agg (eGame g_a0)] (I r) := by
  rw [p_impl_Game_sum] at h
  refine Does.bnd (fun hb => ?_)
  have hb2 : g_a0.Seats.length ≤ 9223372036854775807 := by simpa [AV.fitNs, AV.fitN, eGame] using hb
  have hl0 := hb2
  refine Does.walk (nt := 30) Try.func52 rfl rfl (by simp) (by decide) rfl (fun G0 X w0 pv => ?_)
  have hL_0 : g_a0.Seats.length ≤ 9223372036854775807 := by first | assumption | omega
  obtain ⟨q_0, eq_0, h⟩ := Option.bind_eq_some_iff.1 h
  have ff := p_impl_Game_sum_tf.down
  try refine st_by ff ?_
  repeat' (first | exact trivial | refine And.intro sd ?_)
  obtain ⟨I_0, hI_0⟩ : ∃ I_ : (Nat × (List Int)) → ASt → Prop, I_ = (fun (a : Nat × (List Int)) σ => match a with | (i_0, list_7) => (i_0 ≤ g_a0.Seats.length ∧ p_impl_Game_sum_l0 (g_a0.Seats.drop i_0) i_0 list_7 = some q_0) ∧ σ.t 3 = .sl 3 [] 0 list_7.length ∧ σ.t 12 = .row false 3 g_a0.Seats.length (esSeat g_a0.Seats) ∧ σ.t 13 = I (g_a0.Seats.length : Int) ∧ σ.t 14 = I (i_0 : Int) ∧ σ.m 3 = some (.row true 1 list_7.length (esInt list_7))) := ⟨_, rfl⟩
  obtain ⟨M_0, hM_0⟩ : ∃ M_ : (Nat × (List Int)) → Nat, M_ = (fun (a : Nat × (List Int)) => match a with | (i_0, list_7) => g_a0.Seats.length - i_0) := ⟨_, rfl⟩
  obtain ⟨J_0, hJ_0⟩ : ∃ J_ : ASt → Prop, J_ = (fun σ => ∃ list_7 : List Int, (some list_7 = some q_0) ∧ σ.t 3 = .sl 3 [] 0 list_7.length ∧ σ.m 3 = some (.row true 1 list_7.length (esInt list_7))) := ⟨_, rfl⟩
  refine aw_loopC (id := 0) I_0 M_0 J_0 (0, ([g_a0.Frame, g_a0.Coin] : List Int)) ?_ ?_ ?_
  · rw [hI_0]
    refine ⟨⟨Nat.zero_le _, eq_0⟩, ?_⟩
    exact p_impl_Game_sum_pv ff trivial
  · try clear ff
    rintro ⟨i_0, list_7⟩ σ hg_0
    rw [hI_0] at hg_0
    obtain ⟨⟨hi_0, h_0⟩, g0_0, g1_0, g2_0, g3_0, g4_0⟩ := hg_0
    cases hr_0 : g_a0.Seats.drop i_0 with
    | nil =>
      rw [hr_0] at h_0
      rw [p_impl_Game_sum_l0] at h_0
      have hn_0 := drop_nil hr_0
      have dr_0 : decide ((i_0 : Int) < (g_a0.Seats.length : Int)) = false := decide_eq_false (by omega)
      have ff := And.intro @dr_0 (And.intro @g0_0 (And.intro @g1_0 (And.intro @g2_0 (And.intro @g3_0 (And.intro @g4_0 p_impl_Game_sum_tf.down)))))
      try refine st_by ff ?_
      repeat' (first | exact trivial | refine And.intro sd ?_)
      refine JW.intro ?_
      rw [hJ_0]
      refine ⟨list_7, h_0, ?_⟩
      exact p_impl_Game_sum_pv ff trivial
    | cons x_0 r_0 =>
      rw [hr_0] at h_0
      rw [p_impl_Game_sum_l0] at h_0
      obtain ⟨ht_0, hg_0, hd_0⟩ := drop_cons hr_0
      have dr_0 : decide ((i_0 : Int) < (g_a0.Seats.length : Int)) = true := decide_eq_true (by omega)
      have w_0 : IntKind.i64.wrap ((i_0 : Int) + 1) = ((i_0 + 1 : Nat) : Int) := wI _ (by omega) (by omega)
      have kk0c : (esSeat g_a0.Seats).drop (i_0 * 3) = eSeat x_0 ++ esSeat (g_a0.Seats.drop (i_0 + 1)) := drop_enc (fun _ => rfl) (hg_0)
      by_cases c13 : list_7.length < 4294967296
      case neg => rw [if_neg c13] at h_0; cases h_0
      rw [if_pos c13] at h_0
      have a14a : esInt list_7 ++ [I x_0.X, I x_0.Y, I x_0.Hp] = esInt (list_7 ++ [x_0.X, x_0.Y, x_0.Hp]) := by simp [esInt_app, esInt_cons, esInt_nil, eInt_eq, esInt_nil, esGame_nil, esSeat_nil]
      have a14b : list_7.length + 3 = (list_7 ++ [x_0.X, x_0.Y, x_0.Hp]).length := by simp
      have ff := And.intro @dr_0 (And.intro @w_0 (And.intro @g0_0 (And.intro @g1_0 (And.intro @g2_0 (And.intro @g3_0 (And.intro @g4_0 (And.intro @kk0c (And.intro @a14a (And.intro @a14b p_impl_Game_sum_tf.down)))))))))
      try refine st_by ff ?_
      repeat' (first | exact trivial | refine And.intro sd ?_)
      refine Back.intro (i_0 + 1, (list_7 ++ [x_0.X, x_0.Y, x_0.Hp])) ?_ ?_
      · clear ff; rw [hM_0]; show g_a0.Seats.length - (i_0 + 1) < g_a0.Seats.length - i_0; omega
      rw [hI_0]
      refine ⟨⟨by clear ff; show i_0 + 1 ≤ g_a0.Seats.length; omega, by show p_impl_Game_sum_l0 (g_a0.Seats.drop (i_0 + 1)) (i_0 + 1) (list_7 ++ [x_0.X, x_0.Y, x_0.Hp]) = some q_0; rw [hd_0]; exact h_0⟩, ?_⟩
      exact p_impl_Game_sum_pv ff trivial
  · try clear ff
    rintro σ hg_0
    rw [hJ_0] at hg_0
    obtain ⟨list_7, hj_0, g0_0a, g1_0a⟩ := hg_0
    have hjj_0 := Option.some.inj hj_0
    subst hjj_0
    try dsimp only at h
    obtain ⟨v15, ev15, h⟩ := Option.bind_eq_some_iff.1 h
    try dsimp only at h
    have ff := And.intro @g0_0a (And.intro @g1_0a p_impl_Game_sum_tf.down)
    try refine st_by ff ?_
    repeat' (first | exact trivial | refine And.intro sd ?_)
    first
    | (refine cq_lend (p_impl_sumUp_does list_7 v15 ev15) (hf_by ff) kr ⟨p_impl_Game_sum_sa ff trivial, ?_⟩; clear ff)
    have ff := And.intro @g0_0a (And.intro @g1_0a p_impl_Game_sum_tf.down)
    try refine st_by ff ?_
    repeat' (first | exact trivial | refine And.intro sd ?_)
    cases h
    exact ret_q1 rfl (p_impl_Game_sum_rt ff trivial)
/-! impl.SumsOf -/
def p_impl_SumsOf_l0 : List GGame → Nat → (List Int) → Option ((List Int))
  | [], i_0, out_8 => some out_8
  | x_0 :: r_0, i_0, out_8 => ((p_impl_Game_sum x_0).bind fun v15 => (if out_8.length < 4294967296 then p_impl_SumsOf_l0 r_0 (i_0 + 1) (out_8 ++ [v15]) else none))
theorem p_impl_SumsOf_pv {F C A : Prop} (hF : F) (hC : C) (h : F → C → A := by intro hF hC; first | exact cl_by hF | (refine st_by hF ?_; (repeat' (first | exact trivial | apply And.intro)); all_goals (clear hF; first | rfl | (simp only [hC, List.length_append, List.length_cons, List.length_nil, List.append_nil, List.nil_append, List.cons_append, List.length_set, List.append_assoc, Nat.zero_add, List.length_replicate, esInt_app, esInt_cons, esInt_nil, eInt_eq, esLInt_app, esLInt_cons, esLInt_nil, eLInt_eq, esLInto_app, esLInto_cons, esLInto_nil, eLInto_eq, esGame_app, esGame_cons, esGame_nil, eGame_eq, esGameo_app, esGameo_cons, esGameo_nil, eGameo_eq, esSeat_app, esSeat_cons, esSeat_nil, eSeat_eq]; done) | (simp [hC, List.length_append, List.length_cons, List.length_nil, List.append_nil, List.nil_append, List.cons_append, List.length_set, List.append_assoc, Nat.zero_add, List.length_replicate, esInt_app, esInt_cons, esInt_nil, eInt_eq, esLInt_app, esLInt_cons, esLInt_nil, eLInt_eq, esLInto_app, esLInto_cons, esLInto_nil, eLInto_eq, esGame_app, esGame_cons, esGame_nil, eGame_eq, esGameo_app, esGameo_cons, esGameo_nil, eGameo_eq, esSeat_app, esSeat_cons, esSeat_nil, eSeat_eq]; done) | omega))) : A := h hF hC
theorem p_impl_SumsOf_sa {F C A : Prop} (hF : F) (hC : C) (h : F → C → A := by intro hF hC; first | exact ca_by hF | (refine sa_by hF ?_; (repeat' (first | exact trivial | apply And.intro)); all_goals (clear hF; first | rfl | (simp only [hC, List.length_append, List.length_cons, List.length_nil, List.append_nil, List.nil_append, List.cons_append, List.length_set, List.append_assoc, Nat.zero_add, List.length_replicate, esInt_app, esInt_cons, esInt_nil, eInt_eq, esLInt_app, esLInt_cons, esLInt_nil, eLInt_eq, esLInto_app, esLInto_cons, esLInto_nil, eLInto_eq, esGame_app, esGame_cons, esGame_nil, eGame_eq, esGameo_app, esGameo_cons, esGameo_nil, eGameo_eq, esSeat_app, esSeat_cons, esSeat_nil, eSeat_eq]; done) | (simp [hC, List.length_append, List.length_cons, List.length_nil, List.append_nil, List.nil_append, List.cons_append, List.length_set, List.append_assoc, Nat.zero_add, List.length_replicate, esInt_app, esInt_cons, esInt_nil, eInt_eq, esLInt_app, esLInt_cons, esLInt_nil, eLInt_eq, esLInto_app, esLInto_cons, esLInto_nil, eLInto_eq, esGame_app, esGame_cons, esGame_nil, eGame_eq, esGameo_app, esGameo_cons, esGameo_nil, eGameo_eq, esSeat_app, esSeat_cons, esSeat_nil, eSeat_eq]; done) | omega))) : A := h hF hC
theorem p_impl_SumsOf_rt {F C A : Prop} (hF : F) (hC : C) (h : F → C → A := by intro hF hC; first | (refine sr_by hF ?_; (repeat' (first | exact trivial | apply And.intro)); all_goals (clear hF; first | rfl | (simp only [hC, List.length_append, List.length_cons, List.length_nil, List.append_nil, List.nil_append, List.cons_append, List.length_set, List.append_assoc, Nat.zero_add, List.length_replicate, esInt_app, esInt_cons, esInt_nil, eInt_eq, esLInt_app, esLInt_cons, esLInt_nil, eLInt_eq, esLInto_app, esLInto_cons, esLInto_nil, eLInto_eq, esGame_app, esGame_cons, esGame_nil, eGame_eq, esGameo_app, esGameo_cons, esGameo_nil, eGameo_eq, esSeat_app, esSeat_cons, esSeat_nil, eSeat_eq]; done) | (simp [hC, List.length_append, List.length_cons, List.length_nil, List.append_nil, List.nil_append, List.cons_append, List.length_set, List.append_assoc, Nat.zero_add, List.length_replicate, esInt_app, esInt_cons, esInt_nil, eInt_eq, esLInt_app, esLInt_cons, esLInt_nil, eLInt_eq, esLInto_app, esLInto_cons, esLInto_nil, eLInto_eq, esGame_app, esGame_cons, esGame_nil, eGame_eq, esGameo_app, esGameo_cons, esGameo_nil, eGameo_eq, esSeat_app, esSeat_cons, esSeat_nil, eSeat_eq]; done) | omega)) | (first | rfl | (simp only [hC, List.length_append, List.length_cons, List.length_nil, List.append_nil, List.nil_append, List.cons_append, List.length_set, List.append_assoc, Nat.zero_add, List.length_replicate, esInt_app, esInt_cons, esInt_nil, eInt_eq, esLInt_app, esLInt_cons, esLInt_nil, eLInt_eq, esLInto_app, esLInto_cons, esLInto_nil, eLInto_eq, esGame_app, esGame_cons, esGame_nil, eGame_eq, esGameo_app, esGameo_cons, esGameo_nil, eGameo_eq, esSeat_app, esSeat_cons, esSeat_nil, eSeat_eq]; done) | (simp [hC, List.length_append, List.length_cons, List.length_nil, List.append_nil, List.nil_append, List.cons_append, List.length_set, List.append_assoc, Nat.zero_add, List.length_replicate, esInt_app, esInt_cons, esInt_nil, eInt_eq, esLInt_app, esLInt_cons, esLInt_nil, eLInt_eq, esLInto_app, esLInto_cons, esLInto_nil, eLInto_eq, esGame_app, esGame_cons, esGame_nil, eGame_eq, esGameo_app, esGameo_cons, esGameo_nil, eGameo_eq, esSeat_app, esSeat_cons, esSeat_nil, eSeat_eq]; done) | omega)) : A := h hF hC
def p_impl_SumsOf_tf := PLift.up (And.intro @eInt_eq (And.intro @esInt_len (And.intro @esInt_nil (And.intro @esInt_leaf (And.intro @esInt_fit (And.intro @eLInt_eq (And.intro @esLInt_len (And.intro @esLInt_nil (And.intro @esLInt_leaf (And.intro @esLInt_fit (And.intro @eLInto_eq (And.intro @esLInto_len (And.intro @esLInto_nil (And.intro @eGame_eq (And.intro @esGame_len (And.intro @esGame_nil (And.intro @esGame_leaf (And.intro @esGame_fit (And.intro @eGameo_eq (And.intro @esGameo_len (And.intro @esGameo_nil (And.intro @eSeat_eq (And.intro @esSeat_len (And.intro @esSeat_nil (And.intro @esSeat_leaf (And.intro @esSeat_fit (And.intro @esInt_share (And.intro @esInt_pure (And.intro @esLInto_share (And.intro @esLInto_pure (And.intro @esGameo_share (And.intro @esGameo_pure (And.intro @esSeat_share (And.intro @esSeat_pure (And.intro @str_beq (And.intro @Ty.sl78 (And.intro @Ty.slz78 (And.intro @Ty.nz73 (And.intro @Ty.ldA73 (And.intro @Ty.sz73 (And.intro @Ty.szn73 (And.intro @Ty.nze35 (And.intro @Ty.sl35 (And.intro @Ty.slz35 (And.intro @Ty.zok35 (And.intro @Ty.by35 (And.intro @Ty.zs35 (And.intro @Ty.zv73 @trivial))))))))))))))))))))))))))))))))))))))))))))))))
def p_impl_SumsOf (N : Nat) (seats_a0 : Int) (seed_a1 : Int) (inputs_a2 : List (List Int)) : Option (List Int × Bool) := ((p_impl_play N seats_a0 seed_a1 inputs_a2).bind fun v1 => (if v1.2.2 = true then ((p_impl_SumsOf_l0 v1.2.1 0 ([] : List Int)).bind fun q_0 => match q_0 with | out_8 => some (out_8, true)) else some (([] : List Int), false)))
theorem p_impl_SumsOf_does (N : Nat) (seats_a0 : Int) (seed_a1 : Int) (inputs_a2 : List (List Int)) (r : List Int × Bool) (h : p_impl_SumsOf N seats_a0 seed_a1 inputs_a2 = some r) : Does Try.prog 40 [I seats_a0, I seed_a1, .row false 1 inputs_a2.length (esLInt inputs_a2)] (.tup [.row true 1 r.1.length (esInt r.1), B r.2]) := by
  rw [p_impl_SumsOf] at h
  refine Does.bnd (fun hb => ?_)
  have hb2 : inputs_a2.length ≤ 9223372036854775807 := by simpa [AV.fitNs, AV.fitN] using hb
  have hl0 := hb2
  refine Does.walk (nt := 38) Try.func40 rfl rfl (by simp) (by decide) rfl (fun G0 X w0 pv => ?_)
  obtain ⟨v1, ev1, h⟩ := Option.bind_eq_some_iff.1 h
  try dsimp only at h
  have ff := p_impl_SumsOf_tf.down
  try refine st_by ff ?_
  repeat' (first | exact trivial | refine And.intro sd ?_)
  first
  | (refine cq_own (p_impl_play_does N seats_a0 seed_a1 inputs_a2 v1 ev1) (hf_by ff) kr ⟨p_impl_SumsOf_sa ff trivial, ?_⟩; clear ff)
  by_cases c2 : v1.2.2 = true
  case neg =>
   rw [if_neg c2] at h
   have dc2 := eq_false_of_ne_true c2
   have ff := And.intro @dc2 p_impl_SumsOf_tf.down
   try refine st_by ff ?_
   repeat' (first | exact trivial | refine And.intro sd ?_)
   cases h
   exact ret_q2 rfl (p_impl_SumsOf_rt ff trivial)
  rw [if_pos c2] at h
  have dc2 := c2
  obtain ⟨q_0, eq_0, h⟩ := Option.bind_eq_some_iff.1 h
  have ff := And.intro @dc2 p_impl_SumsOf_tf.down
  try refine st_by ff ?_
  repeat' (first | exact trivial | refine And.intro sd ?_)
  refine aw_bnd (r := 18) (p := [1]) (sz := 3) (n := v1.2.1.length) (cs := esGame v1.2.1) (p_impl_SumsOf_pv ff trivial) (fun hL_0 => ?_)
  obtain ⟨I_0, hI_0⟩ : ∃ I_ : (Nat × (List Int)) → ASt → Prop, I_ = (fun (a : Nat × (List Int)) σ => match a with | (i_0, out_8) => (i_0 ≤ v1.2.1.length ∧ p_impl_SumsOf_l0 (v1.2.1.drop i_0) i_0 out_8 = some q_0) ∧ σ.t 11 = .sl 11 [] 0 out_8.length ∧ σ.t 25 = .sl 18 [1] 0 v1.2.1.length ∧ σ.t 26 = I (v1.2.1.length : Int) ∧ σ.t 27 = I (i_0 : Int) ∧ σ.m 11 = some (.row true 1 out_8.length (esInt out_8)) ∧ σ.m 18 = some (.tup [.agg [I v1.1.Frame, I v1.1.Coin, .row false 3 v1.1.Seats.length (esSeat v1.1.Seats)], .row true 3 v1.2.1.length (esGame v1.2.1), B v1.2.2])) := ⟨_, rfl⟩
  obtain ⟨M_0, hM_0⟩ : ∃ M_ : (Nat × (List Int)) → Nat, M_ = (fun (a : Nat × (List Int)) => match a with | (i_0, out_8) => v1.2.1.length - i_0) := ⟨_, rfl⟩
  obtain ⟨J_0, hJ_0⟩ : ∃ J_ : ASt → Prop, J_ = (fun σ => ∃ out_8 : List Int, (some out_8 = some q_0) ∧ σ.t 11 = .sl 11 [] 0 out_8.length ∧ σ.m 11 = some (.row true 1 out_8.length (esInt out_8))) := ⟨_, rfl⟩
  refine aw_loopC (id := 0) I_0 M_0 J_0 (0, ([] : List Int)) ?_ ?_ ?_
  · rw [hI_0]
    refine ⟨⟨Nat.zero_le _, eq_0⟩, ?_⟩
    exact p_impl_SumsOf_pv ff trivial
  · try clear ff
    rintro ⟨i_0, out_8⟩ σ hg_0
    rw [hI_0] at hg_0
    obtain ⟨⟨hi_0, h_0⟩, g0_0, g1_0, g2_0, g3_0, g4_0, g5_0⟩ := hg_0
    cases hr_0 : v1.2.1.drop i_0 with
    | nil =>
      rw [hr_0] at h_0
      rw [p_impl_SumsOf_l0] at h_0
      have hn_0 := drop_nil hr_0
      have dr_0 : decide ((i_0 : Int) < (v1.2.1.length : Int)) = false := decide_eq_false (by omega)
      have ff := And.intro @dc2 (And.intro @dr_0 (And.intro @g0_0 (And.intro @g1_0 (And.intro @g2_0 (And.intro @g3_0 (And.intro @g4_0 (And.intro @g5_0 p_impl_SumsOf_tf.down)))))))
      try refine st_by ff ?_
      repeat' (first | exact trivial | refine And.intro sd ?_)
      refine JW.intro ?_
      rw [hJ_0]
      refine ⟨out_8, h_0, ?_⟩
      exact p_impl_SumsOf_pv ff trivial
    | cons x_0 r_0 =>
      rw [hr_0] at h_0
      rw [p_impl_SumsOf_l0] at h_0
      obtain ⟨ht_0, hg_0, hd_0⟩ := drop_cons hr_0
      have dr_0 : decide ((i_0 : Int) < (v1.2.1.length : Int)) = true := decide_eq_true (by omega)
      have w_0 : IntKind.i64.wrap ((i_0 : Int) + 1) = ((i_0 + 1 : Nat) : Int) := wI _ (by omega) (by omega)
      have kk0c : (esGame v1.2.1).drop (i_0 * 3) = eGame x_0 ++ esGame (v1.2.1.drop (i_0 + 1)) := drop_enc (fun _ => rfl) (hg_0)
      have kk0g0 : (esGame v1.2.1).getD (i_0 * 3) .junk = (eGame x_0).getD 0 .junk := getD_enc0 (enc := eGame) (sz := 3) (fun _ => rfl) (hg_0) (by decide)
      have kk0g1 : (esGame v1.2.1).getD (i_0 * 3 + 1) .junk = (eGame x_0).getD 1 .junk := getD_enc (enc := eGame) (sz := 3) (fun _ => rfl) (hg_0) (by decide)
      have kk0g2 : (esGame v1.2.1).getD (i_0 * 3 + 2) .junk = (eGame x_0).getD 2 .junk := getD_enc (enc := eGame) (sz := 3) (fun _ => rfl) (hg_0) (by decide)
      obtain ⟨v15, ev15, h_0⟩ := Option.bind_eq_some_iff.1 h_0
      try dsimp only at h_0
      have ff := And.intro @dc2 (And.intro @dr_0 (And.intro @w_0 (And.intro @g0_0 (And.intro @g1_0 (And.intro @g2_0 (And.intro @g3_0 (And.intro @g4_0 (And.intro @g5_0 (And.intro @kk0c (And.intro @kk0g0 (And.intro @kk0g1 (And.intro @kk0g2 p_impl_SumsOf_tf.down))))))))))))
      try refine st_by ff ?_
      repeat' (first | exact trivial | refine And.intro sd ?_)
      first
      | (refine cq_call (p_impl_Game_sum_does x_0 v15 ev15) (hf_by ff) kr ⟨p_impl_SumsOf_sa ff trivial, ?_⟩; clear ff)
      by_cases c16 : out_8.length < 4294967296
      case neg => rw [if_neg c16] at h_0; cases h_0
      rw [if_pos c16] at h_0
      have a17a : esInt out_8 ++ [I v15] = esInt (out_8 ++ [v15]) := by simp [esInt_app, esInt_cons, esInt_nil, eInt_eq, esInt_nil, esLInt_nil, esGame_nil, esSeat_nil]
      have a17b : out_8.length + 1 = (out_8 ++ [v15]).length := by simp
      have ff := And.intro @dc2 (And.intro @dr_0 (And.intro @w_0 (And.intro @g0_0 (And.intro @g1_0 (And.intro @g2_0 (And.intro @g3_0 (And.intro @g4_0 (And.intro @g5_0 (And.intro @kk0c (And.intro @kk0g0 (And.intro @kk0g1 (And.intro @kk0g2 (And.intro @a17a (And.intro @a17b p_impl_SumsOf_tf.down))))))))))))))
      try refine st_by ff ?_
      repeat' (first | exact trivial | refine And.intro sd ?_)
      refine Back.intro (i_0 + 1, (out_8 ++ [v15])) ?_ ?_
      · clear ff; rw [hM_0]; show v1.2.1.length - (i_0 + 1) < v1.2.1.length - i_0; omega
      rw [hI_0]
      refine ⟨⟨by clear ff; show i_0 + 1 ≤ v1.2.1.length; omega, by show p_impl_SumsOf_l0 (v1.2.1.drop (i_0 + 1)) (i_0 + 1) (out_8 ++ [v15]) = some q_0; rw [hd_0]; exact h_0⟩, ?_⟩
      exact p_impl_SumsOf_pv ff trivial
  · try clear ff
    rintro σ hg_0
    rw [hJ_0] at hg_0
    obtain ⟨out_8, hj_0, g0_0a, g1_0a⟩ := hg_0
    have hjj_0 := Option.some.inj hj_0
    subst hjj_0
    try dsimp only at h
    have ff := And.intro @dc2 (And.intro @g0_0a (And.intro @g1_0a p_impl_SumsOf_tf.down))
    try refine st_by ff ?_
    repeat' (first | exact trivial | refine And.intro sd ?_)
    cases h
    exact ret_q2 rfl (p_impl_SumsOf_rt ff trivial)
/-! impl.HonestClaim -/
def p_impl_HonestClaim_l0 (c_a0 : GClaim) (v1 : List Int × Bool) : Nat → Int → Option (LR (Int × Bool) (Int))
  | 0, _ => none
  | n_0 + 1, u_11 => (if u_11 < (if (c_a0.Sums.length : Int) > (v1.1.length : Int) then (c_a0.Sums.length : Int) else (v1.1.length : Int)) then (if u_11 ≥ (v1.1.length : Int) then some (.ret (u_11, true)) else (if u_11 ≥ (c_a0.Sums.length : Int) then some (.ret (u_11, true)) else ((idx v1.1 u_11).bind fun x23 => ((idx c_a0.Sums u_11).bind fun x25 => (if x23 = x25 then p_impl_HonestClaim_l0 c_a0 v1 n_0 (IntKind.i64.wrap (u_11 + 1)) else some (.ret (u_11, true))))))) else some (.out u_11))
theorem p_impl_HonestClaim_pv {F C A : Prop} (hF : F) (hC : C) (h : F → C → A := by intro hF hC; first | exact cl_by hF | (refine st_by hF ?_; (repeat' (first | exact trivial | apply And.intro)); all_goals (clear hF; first | rfl | (simp only [hC, List.length_append, List.length_cons, List.length_nil, List.append_nil, List.nil_append, List.cons_append, List.length_set, List.append_assoc, Nat.zero_add, List.length_replicate, esInt_app, esInt_cons, esInt_nil, eInt_eq, esLInt_app, esLInt_cons, esLInt_nil, eLInt_eq, esLInto_app, esLInto_cons, esLInto_nil, eLInto_eq, esClaim_app, esClaim_cons, esClaim_nil, eClaim_eq, esClaimo_app, esClaimo_cons, esClaimo_nil, eClaimo_eq]; done) | (simp [hC, List.length_append, List.length_cons, List.length_nil, List.append_nil, List.nil_append, List.cons_append, List.length_set, List.append_assoc, Nat.zero_add, List.length_replicate, esInt_app, esInt_cons, esInt_nil, eInt_eq, esLInt_app, esLInt_cons, esLInt_nil, eLInt_eq, esLInto_app, esLInto_cons, esLInto_nil, eLInto_eq, esClaim_app, esClaim_cons, esClaim_nil, eClaim_eq, esClaimo_app, esClaimo_cons, esClaimo_nil, eClaimo_eq]; done) | omega))) : A := h hF hC
theorem p_impl_HonestClaim_sa {F C A : Prop} (hF : F) (hC : C) (h : F → C → A := by intro hF hC; first | exact ca_by hF | (refine sa_by hF ?_; (repeat' (first | exact trivial | apply And.intro)); all_goals (clear hF; first | rfl | (simp only [hC, List.length_append, List.length_cons, List.length_nil, List.append_nil, List.nil_append, List.cons_append, List.length_set, List.append_assoc, Nat.zero_add, List.length_replicate, esInt_app, esInt_cons, esInt_nil, eInt_eq, esLInt_app, esLInt_cons, esLInt_nil, eLInt_eq, esLInto_app, esLInto_cons, esLInto_nil, eLInto_eq, esClaim_app, esClaim_cons, esClaim_nil, eClaim_eq, esClaimo_app, esClaimo_cons, esClaimo_nil, eClaimo_eq]; done) | (simp [hC, List.length_append, List.length_cons, List.length_nil, List.append_nil, List.nil_append, List.cons_append, List.length_set, List.append_assoc, Nat.zero_add, List.length_replicate, esInt_app, esInt_cons, esInt_nil, eInt_eq, esLInt_app, esLInt_cons, esLInt_nil, eLInt_eq, esLInto_app, esLInto_cons, esLInto_nil, eLInto_eq, esClaim_app, esClaim_cons, esClaim_nil, eClaim_eq, esClaimo_app, esClaimo_cons, esClaimo_nil, eClaimo_eq]; done) | omega))) : A := h hF hC
theorem p_impl_HonestClaim_rt {F C A : Prop} (hF : F) (hC : C) (h : F → C → A := by intro hF hC; first | (refine sr_by hF ?_; (repeat' (first | exact trivial | apply And.intro)); all_goals (clear hF; first | rfl | (simp only [hC, List.length_append, List.length_cons, List.length_nil, List.append_nil, List.nil_append, List.cons_append, List.length_set, List.append_assoc, Nat.zero_add, List.length_replicate, esInt_app, esInt_cons, esInt_nil, eInt_eq, esLInt_app, esLInt_cons, esLInt_nil, eLInt_eq, esLInto_app, esLInto_cons, esLInto_nil, eLInto_eq, esClaim_app, esClaim_cons, esClaim_nil, eClaim_eq, esClaimo_app, esClaimo_cons, esClaimo_nil, eClaimo_eq]; done) | (simp [hC, List.length_append, List.length_cons, List.length_nil, List.append_nil, List.nil_append, List.cons_append, List.length_set, List.append_assoc, Nat.zero_add, List.length_replicate, esInt_app, esInt_cons, esInt_nil, eInt_eq, esLInt_app, esLInt_cons, esLInt_nil, eLInt_eq, esLInto_app, esLInto_cons, esLInto_nil, eLInto_eq, esClaim_app, esClaim_cons, esClaim_nil, eClaim_eq, esClaimo_app, esClaimo_cons, esClaimo_nil, eClaimo_eq]; done) | omega)) | (first | rfl | (simp only [hC, List.length_append, List.length_cons, List.length_nil, List.append_nil, List.nil_append, List.cons_append, List.length_set, List.append_assoc, Nat.zero_add, List.length_replicate, esInt_app, esInt_cons, esInt_nil, eInt_eq, esLInt_app, esLInt_cons, esLInt_nil, eLInt_eq, esLInto_app, esLInto_cons, esLInto_nil, eLInto_eq, esClaim_app, esClaim_cons, esClaim_nil, eClaim_eq, esClaimo_app, esClaimo_cons, esClaimo_nil, eClaimo_eq]; done) | (simp [hC, List.length_append, List.length_cons, List.length_nil, List.append_nil, List.nil_append, List.cons_append, List.length_set, List.append_assoc, Nat.zero_add, List.length_replicate, esInt_app, esInt_cons, esInt_nil, eInt_eq, esLInt_app, esLInt_cons, esLInt_nil, eLInt_eq, esLInto_app, esLInto_cons, esLInto_nil, eLInto_eq, esClaim_app, esClaim_cons, esClaim_nil, eClaim_eq, esClaimo_app, esClaimo_cons, esClaimo_nil, eClaimo_eq]; done) | omega)) : A := h hF hC
def p_impl_HonestClaim_tf := PLift.up (And.intro @eInt_eq (And.intro @esInt_len (And.intro @esInt_nil (And.intro @esInt_leaf (And.intro @esInt_fit (And.intro @eLInt_eq (And.intro @esLInt_len (And.intro @esLInt_nil (And.intro @esLInt_leaf (And.intro @esLInt_fit (And.intro @eLInto_eq (And.intro @esLInto_len (And.intro @esLInto_nil (And.intro @eClaim_eq (And.intro @esClaim_len (And.intro @esClaim_nil (And.intro @esClaim_leaf (And.intro @esClaim_fit (And.intro @eClaimo_eq (And.intro @esClaimo_len (And.intro @esClaimo_nil (And.intro @esInt_share (And.intro @esInt_pure (And.intro @esLInto_share (And.intro @esLInto_pure (And.intro @esClaimo_share (And.intro @esClaimo_pure (And.intro @str_beq (And.intro @Ty.sl35 (And.intro @Ty.slz35 (And.intro @Ty.nz3 (And.intro @Ty.ldA3 (And.intro @Ty.ldS3 (And.intro @Ty.sz3 (And.intro @Ty.szn3 (And.intro @Ty.nz34 (And.intro @Ty.ldA34 (And.intro @Ty.ldS34 (And.intro @Ty.sz34 (And.intro @Ty.szn34 (And.intro @Ty.nz35 (And.intro @Ty.ldA35 (And.intro @Ty.ldS35 (And.intro @Ty.sz35 (And.intro @Ty.szn35 (And.intro @Ty.fo41_0 (And.intro @Ty.fk41_0 (And.intro @Ty.fs41_0 (And.intro @Ty.fn41_0 (And.intro @Ty.fo41_1 (And.intro @Ty.fk41_1 (And.intro @Ty.fs41_1 (And.intro @Ty.fn41_1 (And.intro @Ty.fo41_2 (And.intro @Ty.fk41_2 (And.intro @Ty.fs41_2 (And.intro @Ty.fn41_2 (And.intro @Ty.fo41_3 (And.intro @Ty.fk41_3 (And.intro @Ty.fs41_3 (And.intro @Ty.fn41_3 @trivial)))))))))))))))))))))))))))))))))))))))))))))))))))))))))))))
def p_impl_HonestClaim (N : Nat) (c_a0 : GClaim) : Option (Int × Bool) := ((p_impl_SumsOf N c_a0.Seats c_a0.Seed c_a0.Inputs).bind fun v1 => (if v1.2 = true then ((p_impl_HonestClaim_l0 c_a0 v1 N 0).bind fun q_0 => match q_0 with | .ret r_ => some r_ | .out u_11 => some ((-1), true)) else some (0, false)))
theorem p_impl_HonestClaim_does (N : Nat) (c_a0 : GClaim) (r : Int × Bool) (h : p_impl_HonestClaim N c_a0 = some r) : Does Try.prog 17 [.agg (eClaim c_a0)] (.tup [I r.1, B r.2]) := by
  rw [p_impl_HonestClaim] at h
  refine Does.bnd (fun hb => ?_)
  have hb2 : c_a0.Inputs.length ≤ 9223372036854775807 ∧ c_a0.Sums.length ≤ 9223372036854775807 := by simpa [AV.fitNs, AV.fitN, eClaim] using hb
  obtain ⟨hl0, hl1⟩ := hb2
  refine Does.walk (nt := 53) Try.func17 rfl rfl (by simp) (by decide) rfl (fun G0 X w0 pv => ?_)
  obtain ⟨v1, ev1, h⟩ := Option.bind_eq_some_iff.1 h
  try dsimp only at h
  have ff := p_impl_HonestClaim_tf.down
  try refine st_by ff ?_
  repeat' (first | exact trivial | refine And.intro sd ?_)
  first
  | (refine cq_own (p_impl_SumsOf_does N c_a0.Seats c_a0.Seed c_a0.Inputs v1 ev1) (hf_by ff) kr ⟨p_impl_HonestClaim_sa ff trivial, ?_⟩; clear ff)
  | (refine cq_down (p_impl_SumsOf_does N c_a0.Seats c_a0.Seed c_a0.Inputs v1 ev1) (hf_by ff) kr ⟨p_impl_HonestClaim_sa ff trivial, ?_⟩; clear ff)
  by_cases c2 : v1.2 = true
  case neg =>
   rw [if_neg c2] at h
   have dc2 := eq_false_of_ne_true c2
   have ff := And.intro @dc2 p_impl_HonestClaim_tf.down
   try refine st_by ff ?_
   repeat' (first | exact trivial | refine And.intro sd ?_)
   cases h
   exact ret_q2 rfl (p_impl_HonestClaim_rt ff trivial)
  rw [if_pos c2] at h
  have dc2 := c2
  obtain ⟨q_0, eq_0, h⟩ := Option.bind_eq_some_iff.1 h
  have ff := And.intro @dc2 p_impl_HonestClaim_tf.down
  try refine st_by ff ?_
  repeat' (first | exact trivial | refine And.intro sd ?_)
  obtain ⟨I_0, hI_0⟩ : ∃ I_ : (Nat × Int) → ASt → Prop, I_ = (fun (a : Nat × Int) σ => match a with | (n_0, u_11) => (p_impl_HonestClaim_l0 c_a0 v1 n_0 u_11 = some q_0) ∧ σ.t 1 = .ptr 1 [] 0 ∧ σ.t 4 = .sl 14 [0] 0 v1.1.length ∧ σ.t 24 = I (if (c_a0.Sums.length : Int) > (v1.1.length : Int) then (c_a0.Sums.length : Int) else (v1.1.length : Int)) ∧ σ.t 25 = I u_11 ∧ σ.m 1 = some (.box true [I c_a0.Seats, I c_a0.Seed, .row false 1 c_a0.Inputs.length (esLInt c_a0.Inputs), .row false 1 c_a0.Sums.length (esInt c_a0.Sums)]) ∧ σ.m 14 = some (.tup [.row true 1 v1.1.length (esInt v1.1), B v1.2])) := ⟨_, rfl⟩
  obtain ⟨M_0, hM_0⟩ : ∃ M_ : (Nat × Int) → Nat, M_ = (fun (a : Nat × Int) => match a with | (n_0, u_11) => n_0) := ⟨_, rfl⟩
  obtain ⟨J_0, hJ_0⟩ : ∃ J_ : ASt → Prop, J_ = (fun σ => ∃ u_11 : Int, (some (.out u_11) = some q_0) ∧ True) := ⟨_, rfl⟩
  refine aw_loopC (id := 0) I_0 M_0 J_0 (N, 0) ?_ ?_ ?_
  · rw [hI_0]
    refine ⟨eq_0, ?_⟩
    exact p_impl_HonestClaim_pv ff trivial
  · try clear ff
    rintro ⟨n_0, u_11⟩ σ hg_0
    rw [hI_0] at hg_0
    obtain ⟨h_0, g0_0, g1_0, g2_0, g3_0, g4_0, g5_0⟩ := hg_0
    cases n_0 with
    | zero => rw [p_impl_HonestClaim_l0] at h_0; cases h_0
    | succ n_0 =>
      rw [p_impl_HonestClaim_l0] at h_0
      by_cases c20 : u_11 < (if (c_a0.Sums.length : Int) > (v1.1.length : Int) then (c_a0.Sums.length : Int) else (v1.1.length : Int))
      case neg =>
       rw [if_neg c20] at h_0
       have dc20 := decide_eq_false c20
       have ff := And.intro @dc2 (And.intro @g0_0 (And.intro @g1_0 (And.intro @g2_0 (And.intro @g3_0 (And.intro @g4_0 (And.intro @g5_0 (And.intro @dc20 p_impl_HonestClaim_tf.down)))))))
       try refine st_by ff ?_
       repeat' (first | exact trivial | refine And.intro sd ?_)
       refine JW.intro ?_
       rw [hJ_0]
       refine ⟨u_11, h_0, ?_⟩
       exact p_impl_HonestClaim_pv ff trivial
      rw [if_pos c20] at h_0
      have dc20 := decide_eq_true c20
      by_cases c21 : u_11 ≥ (v1.1.length : Int)
      · rw [if_pos c21] at h_0
        have dc21 := decide_eq_true c21
        cases h_0
        try dsimp only at h
        have ff := And.intro @dc2 (And.intro @g0_0 (And.intro @g1_0 (And.intro @g2_0 (And.intro @g3_0 (And.intro @g4_0 (And.intro @g5_0 (And.intro @dc20 (And.intro @dc21 p_impl_HonestClaim_tf.down))))))))
        try refine st_by ff ?_
        repeat' (first | exact trivial | refine And.intro sd ?_ | (refine aw_drawn (id := 7) ?_ [[], [], [1], [0, 1, 2], [0, 1, 2, 3], [0, 1, 2, 3, 4], [0, 1, 2, 3, 4], [0, 1, 2, 3, 4, 6], [0, 1, 2, 3, 4, 6, 7], [0, 1, 2, 3, 4, 5, 6, 7, 8], [0, 1, 2, 3, 4, 5, 6, 7, 8, 9], [0, 1, 2, 3, 4, 5, 6, 7, 8, 9, 10], [0, 1, 2, 3, 4, 5, 6, 7, 8, 9, 10, 11], [0, 1, 2, 3, 4, 5, 6, 7, 8, 9, 10, 11], [0, 1, 2, 3, 4, 5, 6, 7, 8, 9, 10, 11, 12, 13], [0, 1, 2, 3, 4, 5, 6, 7, 8, 9, 10, 11, 12, 13, 14], [0, 1, 2, 3, 4, 5, 6, 7, 8, 9, 10, 11], [0, 1, 2, 3, 4, 5, 6, 7, 8, 9, 10, 11, 16], [0, 1, 2, 3, 4, 5, 6, 7, 8, 9, 10, 11], [0, 1, 2, 3, 4, 5, 6, 7, 8, 9, 10, 11, 16, 17, 18], [0, 1, 2, 3, 4, 5, 6, 7, 8, 9, 10, 11, 16, 17, 18, 19], [0, 1, 2, 3, 4, 5, 6, 7, 8, 9, 10, 11, 12, 13, 14, 15, 16, 17, 18, 19, 20], [0, 1, 2, 3, 4, 5, 6, 7, 8, 9, 10, 11, 12, 13, 14, 15, 16, 17, 18, 19, 20, 21]] 21 ?_ ?_; (· kernel_rfl); (· kernel_rfl); refine st_by ff ?_))
        cases h
        exact ret_q2 rfl (p_impl_HonestClaim_rt ff trivial)
      rw [if_neg c21] at h_0
      have dc21 := decide_eq_false c21
      by_cases c22 : u_11 ≥ (c_a0.Sums.length : Int)
      · rw [if_pos c22] at h_0
        have dc22 := decide_eq_true c22
        cases h_0
        try dsimp only at h
        have ff := And.intro @dc2 (And.intro @g0_0 (And.intro @g1_0 (And.intro @g2_0 (And.intro @g3_0 (And.intro @g4_0 (And.intro @g5_0 (And.intro @dc20 (And.intro @dc21 (And.intro @dc22 p_impl_HonestClaim_tf.down)))))))))
        try refine st_by ff ?_
        repeat' (first | exact trivial | refine And.intro sd ?_ | (refine aw_drawn (id := 7) ?_ [[], [], [1], [0, 1, 2], [0, 1, 2, 3], [0, 1, 2, 3, 4], [0, 1, 2, 3, 4], [0, 1, 2, 3, 4, 6], [0, 1, 2, 3, 4, 6, 7], [0, 1, 2, 3, 4, 5, 6, 7, 8], [0, 1, 2, 3, 4, 5, 6, 7, 8, 9], [0, 1, 2, 3, 4, 5, 6, 7, 8, 9, 10], [0, 1, 2, 3, 4, 5, 6, 7, 8, 9, 10, 11], [0, 1, 2, 3, 4, 5, 6, 7, 8, 9, 10, 11], [0, 1, 2, 3, 4, 5, 6, 7, 8, 9, 10, 11, 12, 13], [0, 1, 2, 3, 4, 5, 6, 7, 8, 9, 10, 11, 12, 13, 14], [0, 1, 2, 3, 4, 5, 6, 7, 8, 9, 10, 11], [0, 1, 2, 3, 4, 5, 6, 7, 8, 9, 10, 11, 16], [0, 1, 2, 3, 4, 5, 6, 7, 8, 9, 10, 11], [0, 1, 2, 3, 4, 5, 6, 7, 8, 9, 10, 11, 16, 17, 18], [0, 1, 2, 3, 4, 5, 6, 7, 8, 9, 10, 11, 16, 17, 18, 19], [0, 1, 2, 3, 4, 5, 6, 7, 8, 9, 10, 11, 12, 13, 14, 15, 16, 17, 18, 19, 20], [0, 1, 2, 3, 4, 5, 6, 7, 8, 9, 10, 11, 12, 13, 14, 15, 16, 17, 18, 19, 20, 21]] 21 ?_ ?_; (· kernel_rfl); (· kernel_rfl); refine st_by ff ?_))
        cases h
        exact ret_q2 rfl (p_impl_HonestClaim_rt ff trivial)
      rw [if_neg c22] at h_0
      have dc22 := decide_eq_false c22
      obtain ⟨x23, ex23, h_0⟩ := Option.bind_eq_some_iff.1 h_0
      try dsimp only at h_0
      have f24a := idx_lo ex23
      have f24b := idx_hi ex23
      have f24c : (esInt v1.1).drop (u_11.toNat * 1) = eInt x23 ++ esInt (v1.1.drop (u_11.toNat + 1)) := drop_enc (fun _ => rfl) (idx_get ex23)
      have f24d := f24c
      rw [Nat.mul_one] at f24d
      have f24g0 : (esInt v1.1).getD (u_11.toNat * 1) .junk = (eInt x23).getD 0 .junk := getD_enc0 (enc := eInt) (sz := 1) (fun _ => rfl) (idx_get ex23) (by decide)
      rw [Nat.mul_one] at f24g0
      obtain ⟨x25, ex25, h_0⟩ := Option.bind_eq_some_iff.1 h_0
      try dsimp only at h_0
      have f26a := idx_lo ex25
      have f26b := idx_hi ex25
      have f26c : (esInt c_a0.Sums).drop (u_11.toNat * 1) = eInt x25 ++ esInt (c_a0.Sums.drop (u_11.toNat + 1)) := drop_enc (fun _ => rfl) (idx_get ex25)
      have f26d := f26c
      rw [Nat.mul_one] at f26d
      by_cases c27 : x23 = x25
      case neg =>
       rw [if_neg c27] at h_0
       have dc27 := beq_no c27
       cases h_0
       try dsimp only at h
       have ff := And.intro @dc2 (And.intro @g0_0 (And.intro @g1_0 (And.intro @g2_0 (And.intro @g3_0 (And.intro @g4_0 (And.intro @g5_0 (And.intro @dc20 (And.intro @dc21 (And.intro @dc22 (And.intro @f24c (And.intro @f24d (And.intro @f24g0 (And.intro @f26c (And.intro @f26d (And.intro @dc27 p_impl_HonestClaim_tf.down)))))))))))))))
       try refine st_by ff ?_
       repeat' (first | exact trivial | refine And.intro sd ?_ | (refine aw_drawn (id := 7) ?_ [[], [], [1], [0, 1, 2], [0, 1, 2, 3], [0, 1, 2, 3, 4], [0, 1, 2, 3, 4], [0, 1, 2, 3, 4, 6], [0, 1, 2, 3, 4, 6, 7], [0, 1, 2, 3, 4, 5, 6, 7, 8], [0, 1, 2, 3, 4, 5, 6, 7, 8, 9], [0, 1, 2, 3, 4, 5, 6, 7, 8, 9, 10], [0, 1, 2, 3, 4, 5, 6, 7, 8, 9, 10, 11], [0, 1, 2, 3, 4, 5, 6, 7, 8, 9, 10, 11], [0, 1, 2, 3, 4, 5, 6, 7, 8, 9, 10, 11, 12, 13], [0, 1, 2, 3, 4, 5, 6, 7, 8, 9, 10, 11, 12, 13, 14], [0, 1, 2, 3, 4, 5, 6, 7, 8, 9, 10, 11], [0, 1, 2, 3, 4, 5, 6, 7, 8, 9, 10, 11, 16], [0, 1, 2, 3, 4, 5, 6, 7, 8, 9, 10, 11], [0, 1, 2, 3, 4, 5, 6, 7, 8, 9, 10, 11, 16, 17, 18], [0, 1, 2, 3, 4, 5, 6, 7, 8, 9, 10, 11, 16, 17, 18, 19], [0, 1, 2, 3, 4, 5, 6, 7, 8, 9, 10, 11, 12, 13, 14, 15, 16, 17, 18, 19, 20], [0, 1, 2, 3, 4, 5, 6, 7, 8, 9, 10, 11, 12, 13, 14, 15, 16, 17, 18, 19, 20, 21]] 21 ?_ ?_; (· kernel_rfl); (· kernel_rfl); refine st_by ff ?_))
       cases h
       exact ret_q2 rfl (p_impl_HonestClaim_rt ff trivial)
      rw [if_pos c27] at h_0
      have dc27 := beq_yes c27
      have ff := And.intro @dc2 (And.intro @g0_0 (And.intro @g1_0 (And.intro @g2_0 (And.intro @g3_0 (And.intro @g4_0 (And.intro @g5_0 (And.intro @dc20 (And.intro @dc21 (And.intro @dc22 (And.intro @f24c (And.intro @f24d (And.intro @f24g0 (And.intro @f26c (And.intro @f26d (And.intro @dc27 p_impl_HonestClaim_tf.down)))))))))))))))
      try refine st_by ff ?_
      repeat' (first | exact trivial | refine And.intro sd ?_ | (refine aw_drawn (id := 7) ?_ [[], [], [1], [0, 1, 2], [0, 1, 2, 3], [0, 1, 2, 3, 4], [0, 1, 2, 3, 4], [0, 1, 2, 3, 4, 6], [0, 1, 2, 3, 4, 6, 7], [0, 1, 2, 3, 4, 5, 6, 7, 8], [0, 1, 2, 3, 4, 5, 6, 7, 8, 9], [0, 1, 2, 3, 4, 5, 6, 7, 8, 9, 10], [0, 1, 2, 3, 4, 5, 6, 7, 8, 9, 10, 11], [0, 1, 2, 3, 4, 5, 6, 7, 8, 9, 10, 11], [0, 1, 2, 3, 4, 5, 6, 7, 8, 9, 10, 11, 12, 13], [0, 1, 2, 3, 4, 5, 6, 7, 8, 9, 10, 11, 12, 13, 14], [0, 1, 2, 3, 4, 5, 6, 7, 8, 9, 10, 11], [0, 1, 2, 3, 4, 5, 6, 7, 8, 9, 10, 11, 16], [0, 1, 2, 3, 4, 5, 6, 7, 8, 9, 10, 11], [0, 1, 2, 3, 4, 5, 6, 7, 8, 9, 10, 11, 16, 17, 18], [0, 1, 2, 3, 4, 5, 6, 7, 8, 9, 10, 11, 16, 17, 18, 19], [0, 1, 2, 3, 4, 5, 6, 7, 8, 9, 10, 11, 12, 13, 14, 15, 16, 17, 18, 19, 20], [0, 1, 2, 3, 4, 5, 6, 7, 8, 9, 10, 11, 12, 13, 14, 15, 16, 17, 18, 19, 20, 21]] 21 ?_ ?_; (· kernel_rfl); (· kernel_rfl); refine st_by ff ?_))
      refine Back.intro (n_0, (IntKind.i64.wrap (u_11 + 1))) ?_ ?_
      · rw [hM_0]; exact Nat.lt_succ_self _
      rw [hI_0]
      refine ⟨h_0, ?_⟩
      exact p_impl_HonestClaim_pv ff trivial
  · try clear ff
    rintro σ hg_0
    rw [hJ_0] at hg_0
    obtain ⟨u_11, hj_0, _⟩ := hg_0
    cases hj_0
    try dsimp only at h
    have ff := And.intro @dc2 p_impl_HonestClaim_tf.down
    try refine st_by ff ?_
    repeat' (first | exact trivial | refine And.intro sd ?_)
    cases h
    exact ret_q2 rfl (p_impl_HonestClaim_rt ff trivial)
end Go.Av
