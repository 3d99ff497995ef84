/- spec.GoodSpans -/
import Derived.Test.YtgogbjfmbfijiaaAIA
set_option linter.unusedSimpArgs false
set_option linter.unusedVariables false
set_option maxRecDepth 100000
set_option maxHeartbeats 1000000
namespace Go.Av
open Go.Proofs
/-! spec.GoodSpans -/
def p_spec_GoodSpans_l1 (l_a0 : List GSpan) (x_0 : GSpan) : Nat → Int → Option (Int)
  | 0, _ => none
  | n_1 + 1, k_108 => (if k_108 > x_0.Up then (if k_108 ≥ 0 then ((idx l_a0 k_108).bind fun x115 => p_spec_GoodSpans_l1 l_a0 x_0 n_1 x115.Up) else some k_108) else some k_108)
def p_spec_GoodSpans_j1 (end_53 : List Int) (deep_54 : List Int) (x_0 : GSpan) (i_0 : Nat) (x126 : Int) (rec_0 : Nat → (List Int) → (List Int) → Option (LR (Bool) ((List Int) × (List Int)))) (b_133 : Bool) : Option (LR (Bool) ((List Int) × (List Int))) := (if b_133 = true then some (.ret false) else rec_0 (i_0 + 1) ((end_53.set i_0 x_0.From).set x_0.Up.toNat x_0.To) (deep_54.set i_0 (IntKind.i64.wrap (x126 + 1))))
def p_spec_GoodSpans_j0 (N : Nat) (l_a0 : List GSpan) (end_53 : List Int) (deep_54 : List Int) (x_0 : GSpan) (i_0 : Nat) (rec_0 : Nat → (List Int) → (List Int) → Option (LR (Bool) ((List Int) × (List Int)))) (b_102 : Bool) : Option (LR (Bool) ((List Int) × (List Int))) := (if b_102 = true then some (.ret false) else ((p_spec_GoodSpans_l1 l_a0 x_0 N (IntKind.i64.wrap ((i_0 : Int) - 1))).bind fun q_1 => match q_1 with | k_108 => (if k_108 = x_0.Up then ((idx end_53 (i_0 : Int)).bind fun x118 => (if x_0.Up < 0 then ((idx (end_53.set i_0 x_0.From) (l_a0.length : Int)).bind fun x122 => (if x_0.From < x122 then some (.ret false) else rec_0 (i_0 + 1) ((end_53.set i_0 x_0.From).set l_a0.length x_0.To) deep_54)) else ((idx deep_54 x_0.Up).bind fun x126 => ((idx deep_54 (i_0 : Int)).bind fun x128 => ((idx (end_53.set i_0 x_0.From) x_0.Up).bind fun x131 => (if x_0.From < x131 then p_spec_GoodSpans_j1 end_53 deep_54 x_0 i_0 x126 (rec_0) true else ((idx l_a0 x_0.Up).bind fun x137 => (if x_0.To > x137.To then p_spec_GoodSpans_j1 end_53 deep_54 x_0 i_0 x126 (rec_0) true else p_spec_GoodSpans_j1 end_53 deep_54 x_0 i_0 x126 (rec_0) (decide ((IntKind.i64.wrap (x126 + 1)) ≥ 12)))))))))) else some (.ret false))))
def p_spec_GoodSpans_l0 (N : Nat) (l_a0 : List GSpan) : List GSpan → Nat → (List Int) → (List Int) → Option (LR (Bool) ((List Int) × (List Int)))
  | [], i_0, end_53, deep_54 => some (.out (end_53, deep_54))
  | x_0 :: r_0, i_0, end_53, deep_54 => (if x_0.Name.size ≤ 9223372036854775807 then (if (goodName x_0.Name) = true then (if (rng x_0.From 0 100000) = true then (if (rng x_0.To x_0.From 100000) = true then p_spec_GoodSpans_j0 N l_a0 end_53 deep_54 x_0 i_0 (p_spec_GoodSpans_l0 N l_a0 r_0) (!(rng x_0.Up (-1) (IntKind.i64.wrap ((i_0 : Int) - 1)))) else p_spec_GoodSpans_j0 N l_a0 end_53 deep_54 x_0 i_0 (p_spec_GoodSpans_l0 N l_a0 r_0) true) else p_spec_GoodSpans_j0 N l_a0 end_53 deep_54 x_0 i_0 (p_spec_GoodSpans_l0 N l_a0 r_0) true) else p_spec_GoodSpans_j0 N l_a0 end_53 deep_54 x_0 i_0 (p_spec_GoodSpans_l0 N l_a0 r_0) true) else none)
theorem p_spec_GoodSpans_pv {F C A : Prop} (hF : F) (hC : C) (h : F → C → A := by intro hF hC; first | exact cl_by hF | (refine st_by hF ?_; (repeat' (first | exact trivial | apply And.intro)); all_goals (clear hF; first | rfl | (simp only [hC, List.length_append, List.length_cons, List.length_nil, List.append_nil, List.nil_append, List.cons_append, List.length_set, List.append_assoc, Nat.zero_add, List.length_replicate, esInt_app, esInt_cons, esInt_nil, eInt_eq, esSpan_app, esSpan_cons, esSpan_nil, eSpan_eq]; done) | (simp [hC, List.length_append, List.length_cons, List.length_nil, List.append_nil, List.nil_append, List.cons_append, List.length_set, List.append_assoc, Nat.zero_add, List.length_replicate, esInt_app, esInt_cons, esInt_nil, eInt_eq, esSpan_app, esSpan_cons, esSpan_nil, eSpan_eq]; done) | omega))) : A := h hF hC
theorem p_spec_GoodSpans_sa {F C A : Prop} (hF : F) (hC : C) (h : F → C → A := by intro hF hC; first | exact ca_by hF | (refine sa_by hF ?_; (repeat' (first | exact trivial | apply And.intro)); all_goals (clear hF; first | rfl | (simp only [hC, List.length_append, List.length_cons, List.length_nil, List.append_nil, List.nil_append, List.cons_append, List.length_set, List.append_assoc, Nat.zero_add, List.length_replicate, esInt_app, esInt_cons, esInt_nil, eInt_eq, esSpan_app, esSpan_cons, esSpan_nil, eSpan_eq]; done) | (simp [hC, List.length_append, List.length_cons, List.length_nil, List.append_nil, List.nil_append, List.cons_append, List.length_set, List.append_assoc, Nat.zero_add, List.length_replicate, esInt_app, esInt_cons, esInt_nil, eInt_eq, esSpan_app, esSpan_cons, esSpan_nil, eSpan_eq]; done) | omega))) : A := h hF hC
theorem p_spec_GoodSpans_rt {F C A : Prop} (hF : F) (hC : C) (h : F → C → A := by intro hF hC; first | (refine sr_by hF ?_; (repeat' (first | exact trivial | apply And.intro)); all_goals (clear hF; first | rfl | (simp only [hC, List.length_append, List.length_cons, List.length_nil, List.append_nil, List.nil_append, List.cons_append, List.length_set, List.append_assoc, Nat.zero_add, List.length_replicate, esInt_app, esInt_cons, esInt_nil, eInt_eq, esSpan_app, esSpan_cons, esSpan_nil, eSpan_eq]; done) | (simp [hC, List.length_append, List.length_cons, List.length_nil, List.append_nil, List.nil_append, List.cons_append, List.length_set, List.append_assoc, Nat.zero_add, List.length_replicate, esInt_app, esInt_cons, esInt_nil, eInt_eq, esSpan_app, esSpan_cons, esSpan_nil, eSpan_eq]; done) | omega)) | (first | rfl | (simp only [hC, List.length_append, List.length_cons, List.length_nil, List.append_nil, List.nil_append, List.cons_append, List.length_set, List.append_assoc, Nat.zero_add, List.length_replicate, esInt_app, esInt_cons, esInt_nil, eInt_eq, esSpan_app, esSpan_cons, esSpan_nil, eSpan_eq]; done) | (simp [hC, List.length_append, List.length_cons, List.length_nil, List.append_nil, List.nil_append, List.cons_append, List.length_set, List.append_assoc, Nat.zero_add, List.length_replicate, esInt_app, esInt_cons, esInt_nil, eInt_eq, esSpan_app, esSpan_cons, esSpan_nil, eSpan_eq]; done) | omega)) : A := h hF hC
def p_spec_GoodSpans_tf := PLift.up (ai @eInt_eq (ai @esInt_len (ai @esInt_nil (ai @esInt_leaf (ai @esInt_fit (ai @eSpan_eq (ai @esSpan_len (ai @esSpan_nil (ai @esSpan_leaf (ai @esSpan_fit (ai @esInt_share (ai @esInt_pure (ai @esSpan_share (ai @esSpan_pure (ai @str_beq (ai @Ty.sl33 (ai @Ty.slz33 (ai @Ty.sl22 (ai @Ty.slz22 (ai @Ty.nz67 (ai @Ty.ldA67 (ai @Ty.sz67 (ai @Ty.szn67 (ai @Ty.nz9 (ai @Ty.ldA9 (ai @Ty.ldS9 (ai @Ty.sz9 (ai @Ty.szn9 (ai @Ty.nz3 (ai @Ty.ldA3 (ai @Ty.ldS3 (ai @Ty.sz3 (ai @Ty.szn3 (ai @Ty.fo67_0 (ai @Ty.fk67_0 (ai @Ty.fs67_0 (ai @Ty.fn67_0 (ai @Ty.fo67_1 (ai @Ty.fk67_1 (ai @Ty.fs67_1 (ai @Ty.fn67_1 (ai @Ty.fo67_2 (ai @Ty.fk67_2 (ai @Ty.fs67_2 (ai @Ty.fn67_2 (ai @Ty.fo67_3 (ai @Ty.fk67_3 (ai @Ty.fs67_3 (ai @Ty.fn67_3 (ai @Ty.nze22 (ai @Ty.zok22 (ai @Ty.by22 (ai @Ty.zs22 (ai @Ty.zv67 @trivial))))))))))))))))))))))))))))))))))))))))))))))))))))))
def p_spec_GoodSpans (N : Nat) (l_a0 : List GSpan) : Option (Bool) := (if (l_a0.length : Int) > 200 then some false else ((mkl (IntKind.i64.wrap ((l_a0.length : Int) + 1)) (0 : Int)).bind fun m2 => ((mkl (l_a0.length : Int) (0 : Int)).bind fun m4 => ((p_spec_GoodSpans_l0 N l_a0 l_a0 0 m2 m4).bind fun q_0 => match q_0 with | .ret r_ => some r_ | .out (end_53, deep_54) => some true))))
theorem p_spec_GoodSpans_does (N : Nat) (l_a0 : List GSpan) (r : Bool) (h : p_spec_GoodSpans N l_a0 = some r) : Does Try.prog 36 [.row false 4 l_a0.length (esSpan l_a0)] (B r) := by
  rw [p_spec_GoodSpans] at h
  refine Does.bnd (fun hb => ?_)
  have hb2 : l_a0.length ≤ 9223372036854775807 := by simpa [AV.fitNs, AV.fitN] using hb
  have hl0 := hb2
  refine Does.walk (nt := 134) Try.func36 rfl rfl (by simp) (by decide) rfl (fun G0 X w0 pv => ?_)
  by_cases c1 : (l_a0.length : Int) > 200
  · rw [if_pos c1] at h
    have dc1 := decide_eq_true c1
    have ff := ai @dc1 p_spec_GoodSpans_tf.down
    try refine st_by ff ?_
    repeat' (first | exact trivial | refine And.intro sd ?_)
    cases h
    exact ret_q1 rfl (p_spec_GoodSpans_rt ff trivial)
  rw [if_neg c1] at h
  have dc1 := decide_eq_false c1
  obtain ⟨m2, em2, h⟩ := Option.bind_eq_some_iff.1 h
  try dsimp only at h
  obtain ⟨f3b, f3c, f3d⟩ := mkl_ok em2
  have f3a : (zCells [.int .i64 0] (IntKind.i64.wrap ((l_a0.length : Int) + 1)).toNat).map AV.lit = esInt m2 := mkl_enc (enc := eInt) (by decide) rfl em2
  obtain ⟨m4, em4, h⟩ := Option.bind_eq_some_iff.1 h
  try dsimp only at h
  obtain ⟨f5b, f5c, f5d⟩ := mkl_ok em4
  have f5a : (zCells [.int .i64 0] l_a0.length).map AV.lit = esInt m4 := mkl_encN (enc := eInt) (by decide) rfl em4
  rw [Int.toNat_natCast] at f5c
  have hL_0 : l_a0.length ≤ 9223372036854775807 := by first | assumption | omega
  obtain ⟨q_0, eq_0, h⟩ := Option.bind_eq_some_iff.1 h
  have ff := ai @dc1 (ai @f3a (ai @f5a p_spec_GoodSpans_tf.down))
  try refine st_by ff ?_
  repeat' (first | exact trivial | refine And.intro sd ?_)
  obtain ⟨I_0, hI_0⟩ : ∃ I_ : (Nat × (List Int) × (List Int)) → ASt → Prop, I_ = (fun (a : Nat × (List Int) × (List Int)) σ => match a with | (i_0, end_53, deep_54) => (i_0 ≤ l_a0.length ∧ p_spec_GoodSpans_l0 N l_a0 (l_a0.drop i_0) i_0 end_53 deep_54 = some q_0) ∧ σ.t 0 = .row false 4 l_a0.length (esSpan l_a0) ∧ σ.t 3 = .sl 3 [] 0 end_53.length ∧ σ.t 4 = .sl 4 [] 0 deep_54.length ∧ σ.t 18 = .row false 4 l_a0.length (esSpan l_a0) ∧ σ.t 19 = I (l_a0.length : Int) ∧ σ.t 20 = I (i_0 : Int) ∧ σ.m 3 = some (.row true 1 end_53.length (esInt end_53)) ∧ σ.m 4 = some (.row true 1 deep_54.length (esInt deep_54))) := ⟨_, rfl⟩
  obtain ⟨M_0, hM_0⟩ : ∃ M_ : (Nat × (List Int) × (List Int)) → Nat, M_ = (fun (a : Nat × (List Int) × (List Int)) => match a with | (i_0, end_53, deep_54) => l_a0.length - i_0) := ⟨_, rfl⟩
  obtain ⟨J_0, hJ_0⟩ : ∃ J_ : ASt → Prop, J_ = (fun σ => ∃ end_53 : List Int, ∃ deep_54 : List Int, (some (.out (end_53, deep_54)) = some q_0) ∧ True) := ⟨_, rfl⟩
  refine aw_loopC (id := 0) I_0 M_0 J_0 (0, m2, m4) ?_ ?_ ?_
  · rw [hI_0]
    refine ⟨⟨Nat.zero_le _, eq_0⟩, ?_⟩
    exact p_spec_GoodSpans_pv ff (ai @f3c @f5c)
  · try clear ff
    rintro ⟨i_0, end_53, deep_54⟩ σ hg_0
    rw [hI_0] at hg_0
    obtain ⟨⟨hi_0, h_0⟩, g0_0, g1_0, g2_0, g3_0, g4_0, g5_0, g6_0, g7_0⟩ := hg_0
    cases hr_0 : l_a0.drop i_0 with
    | nil =>
      rw [hr_0] at h_0
      rw [p_spec_GoodSpans_l0] at h_0
      have hn_0 := drop_nil hr_0
      have dr_0 : decide ((i_0 : Int) < (l_a0.length : Int)) = false := decide_eq_false (by omega)
      have ff := ai @dc1 (ai @f3a (ai @f5a (ai @dr_0 (ai @g0_0 (ai @g1_0 (ai @g2_0 (ai @g3_0 (ai @g4_0 (ai @g5_0 (ai @g6_0 (ai @g7_0 p_spec_GoodSpans_tf.down)))))))))))
      try refine st_by ff ?_
      repeat' (first | exact trivial | refine And.intro sd ?_)
      refine JW.intro ?_
      rw [hJ_0]
      refine ⟨end_53, deep_54, h_0, ?_⟩
      exact p_spec_GoodSpans_pv ff (ai @f3c @f5c)
    | cons x_0 r_0 =>
      rw [hr_0] at h_0
      rw [p_spec_GoodSpans_l0] at h_0
      obtain ⟨ht_0, hg_0, hd_0⟩ := drop_cons hr_0
      have dr_0 : decide ((i_0 : Int) < (l_a0.length : Int)) = true := decide_eq_true (by omega)
      have w_0 : IntKind.i64.wrap ((i_0 : Int) + 1) = ((i_0 + 1 : Nat) : Int) := wI _ (by omega) (by omega)
      have kk0c : (esSpan l_a0).drop (i_0 * 4) = eSpan x_0 ++ esSpan (l_a0.drop (i_0 + 1)) := drop_enc (fun _ => rfl) (hg_0)
      by_cases c101 : x_0.Name.size ≤ 9223372036854775807
      case neg => rw [if_neg c101] at h_0; cases h_0
      rw [if_pos c101] at h_0
      have ff := ai @dc1 (ai @f3a (ai @f5a (ai @dr_0 (ai @w_0 (ai @g0_0 (ai @g1_0 (ai @g2_0 (ai @g3_0 (ai @g4_0 (ai @g5_0 (ai @g6_0 (ai @g7_0 (ai @kk0c p_spec_GoodSpans_tf.down)))))))))))))
      try refine st_by ff ?_
      repeat' (first | exact trivial | refine And.intro sd ?_)
      first
      | (refine cq_call (specGoodName_does x_0.Name (by first | assumption | omega)) (hf_by ff) kr ⟨p_spec_GoodSpans_sa ff (ai @f3c @f5c), ?_⟩; clear ff)
      | (refine cq_dcall (specGoodName_does x_0.Name (by first | assumption | omega)) (hf_by ff) kr ⟨p_spec_GoodSpans_sa ff (ai @f3c @f5c), ?_⟩; clear ff)
      have ff := ai @dc1 (ai @f3a (ai @f5a (ai @dr_0 (ai @w_0 (ai @g0_0 (ai @g1_0 (ai @g2_0 (ai @g3_0 (ai @g4_0 (ai @g5_0 (ai @g6_0 (ai @g7_0 (ai @kk0c p_spec_GoodSpans_tf.down)))))))))))))
      try refine st_by ff ?_
      repeat' (first | exact trivial | refine And.intro sd ?_)
      try clear ff
      generalize hk_0 : thenK _ _ = kk_0
      have key_0 : ∀ σ, (∃ b_102 : Bool, (p_spec_GoodSpans_j0 N l_a0 end_53 deep_54 x_0 i_0 (p_spec_GoodSpans_l0 N l_a0 r_0) b_102 = some q_0) ∧ σ.t 0 = .row false 4 l_a0.length (esSpan l_a0) ∧ σ.t 3 = .sl 3 [] 0 end_53.length ∧ σ.t 4 = .sl 4 [] 0 deep_54.length ∧ σ.t 5 = I (i_0 : Int) ∧ σ.t 6 = .ptr 6 [] 0 ∧ σ.t 18 = .row false 4 l_a0.length (esSpan l_a0) ∧ σ.t 19 = I (l_a0.length : Int) ∧ σ.t 20 = I (i_0 : Int) ∧ σ.t 50 = B b_102 ∧ σ.m 3 = some (.row true 1 end_53.length (esInt end_53)) ∧ σ.m 4 = some (.row true 1 deep_54.length (esInt deep_54)) ∧ σ.m 6 = some (.box true [S x_0.Name, I x_0.From, I x_0.To, I x_0.Up])) → kk_0 .nm σ := by
        rintro σ ⟨b_102, h_0, g0_j0, g1_j0, g2_j0, g3_j0, g4_j0, g5_j0, g6_j0, g7_j0, g8_j0, g9_j0, g10_j0, g11_j0⟩
        rw [← hk_0]
        rw [p_spec_GoodSpans_j0] at h_0
        by_cases c103 : b_102 = true
        · rw [if_pos c103] at h_0
          have dc103 := c103
          cases h_0
          try dsimp only at h
          have ff := ai @dc1 (ai @f3a (ai @f5a (ai @dr_0 (ai @w_0 (ai @kk0c (ai @g0_j0 (ai @g1_j0 (ai @g2_j0 (ai @g3_j0 (ai @g4_j0 (ai @g5_j0 (ai @g6_j0 (ai @g7_j0 (ai @g8_j0 (ai @g9_j0 (ai @g10_j0 (ai @g11_j0 (ai @dc103 p_spec_GoodSpans_tf.down))))))))))))))))))
          try refine st_by ff ?_
          repeat' (first | exact trivial | refine And.intro sd ?_)
          cases h
          exact ret_q1 rfl (p_spec_GoodSpans_rt ff (ai @f3c @f5c))
        rw [if_neg c103] at h_0
        have dc103 := eq_false_of_ne_true c103
        obtain ⟨q_1, eq_1, h_0⟩ := Option.bind_eq_some_iff.1 h_0
        have ff := ai @dc1 (ai @f3a (ai @f5a (ai @dr_0 (ai @w_0 (ai @kk0c (ai @g0_j0 (ai @g1_j0 (ai @g2_j0 (ai @g3_j0 (ai @g4_j0 (ai @g5_j0 (ai @g6_j0 (ai @g7_j0 (ai @g8_j0 (ai @g9_j0 (ai @g10_j0 (ai @g11_j0 (ai @dc103 p_spec_GoodSpans_tf.down))))))))))))))))))
        try refine st_by ff ?_
        repeat' (first | exact trivial | refine And.intro sd ?_)
        obtain ⟨I_1, hI_1⟩ : ∃ I_ : (Nat × Int) → ASt → Prop, I_ = (fun (a : Nat × Int) σ => match a with | (n_1, k_108) => (p_spec_GoodSpans_l1 l_a0 x_0 n_1 k_108 = some q_1) ∧ σ.t 0 = .row false 4 l_a0.length (esSpan l_a0) ∧ σ.t 3 = .sl 3 [] 0 end_53.length ∧ σ.t 4 = .sl 4 [] 0 deep_54.length ∧ σ.t 5 = I (i_0 : Int) ∧ σ.t 6 = .ptr 6 [] 0 ∧ σ.t 7 = I k_108 ∧ σ.t 18 = .row false 4 l_a0.length (esSpan l_a0) ∧ σ.t 19 = I (l_a0.length : Int) ∧ σ.t 20 = I (i_0 : Int) ∧ σ.m 3 = some (.row true 1 end_53.length (esInt end_53)) ∧ σ.m 4 = some (.row true 1 deep_54.length (esInt deep_54)) ∧ σ.m 6 = some (.box true [S x_0.Name, I x_0.From, I x_0.To, I x_0.Up])) := ⟨_, rfl⟩
        obtain ⟨M_1, hM_1⟩ : ∃ M_ : (Nat × Int) → Nat, M_ = (fun (a : Nat × Int) => match a with | (n_1, k_108) => n_1) := ⟨_, rfl⟩
        obtain ⟨J_1, hJ_1⟩ : ∃ J_ : ASt → Prop, J_ = (fun σ => ∃ k_108 : Int, (some k_108 = some q_1) ∧ σ.t 0 = .row false 4 l_a0.length (esSpan l_a0) ∧ σ.t 3 = .sl 3 [] 0 end_53.length ∧ σ.t 4 = .sl 4 [] 0 deep_54.length ∧ σ.t 5 = I (i_0 : Int) ∧ σ.t 6 = .ptr 6 [] 0 ∧ σ.t 7 = I k_108 ∧ σ.t 18 = .row false 4 l_a0.length (esSpan l_a0) ∧ σ.t 19 = I (l_a0.length : Int) ∧ σ.t 20 = I (i_0 : Int) ∧ σ.m 3 = some (.row true 1 end_53.length (esInt end_53)) ∧ σ.m 4 = some (.row true 1 deep_54.length (esInt deep_54)) ∧ σ.m 6 = some (.box true [S x_0.Name, I x_0.From, I x_0.To, I x_0.Up])) := ⟨_, rfl⟩
        refine aw_loopC (id := 2) I_1 M_1 J_1 (N, (IntKind.i64.wrap ((i_0 : Int) - 1))) ?_ ?_ ?_
        · rw [hI_1]
          refine ⟨eq_1, ?_⟩
          exact p_spec_GoodSpans_pv ff (ai @f3c @f5c)
        · try clear ff
          rintro ⟨n_1, k_108⟩ σ hg_1
          rw [hI_1] at hg_1
          obtain ⟨h_1, g0_1, g1_1, g2_1, g3_1, g4_1, g5_1, g6_1, g7_1, g8_1, g9_1, g10_1, g11_1⟩ := hg_1
          cases n_1 with
          | zero => rw [p_spec_GoodSpans_l1] at h_1; cases h_1
          | succ n_1 =>
            rw [p_spec_GoodSpans_l1] at h_1
            by_cases c113 : k_108 > x_0.Up
            case neg =>
             rw [if_neg c113] at h_1
             have dc113 := decide_eq_false c113
             have ff := ai @dc1 (ai @f3a (ai @f5a (ai @dr_0 (ai @w_0 (ai @kk0c (ai @dc103 (ai @g0_1 (ai @g1_1 (ai @g2_1 (ai @g3_1 (ai @g4_1 (ai @g5_1 (ai @g6_1 (ai @g7_1 (ai @g8_1 (ai @g9_1 (ai @g10_1 (ai @g11_1 (ai @dc113 p_spec_GoodSpans_tf.down)))))))))))))))))))
             try refine st_by ff ?_
             repeat' (first | exact trivial | refine And.intro sd ?_)
             refine JW.intro ?_
             rw [hJ_1]
             refine ⟨k_108, h_1, ?_⟩
             exact p_spec_GoodSpans_pv ff (ai @f3c @f5c)
            rw [if_pos c113] at h_1
            have dc113 := decide_eq_true c113
            by_cases c114 : k_108 ≥ 0
            case neg =>
             rw [if_neg c114] at h_1
             have dc114 := decide_eq_false c114
             have ff := ai @dc1 (ai @f3a (ai @f5a (ai @dr_0 (ai @w_0 (ai @kk0c (ai @dc103 (ai @g0_1 (ai @g1_1 (ai @g2_1 (ai @g3_1 (ai @g4_1 (ai @g5_1 (ai @g6_1 (ai @g7_1 (ai @g8_1 (ai @g9_1 (ai @g10_1 (ai @g11_1 (ai @dc113 (ai @dc114 p_spec_GoodSpans_tf.down))))))))))))))))))))
             try refine st_by ff ?_
             repeat' (first | exact trivial | refine And.intro sd ?_)
             refine JW.intro ?_
             rw [hJ_1]
             refine ⟨k_108, h_1, ?_⟩
             exact p_spec_GoodSpans_pv ff (ai @f3c @f5c)
            rw [if_pos c114] at h_1
            have dc114 := decide_eq_true c114
            obtain ⟨x115, ex115, h_1⟩ := Option.bind_eq_some_iff.1 h_1
            try dsimp only at h_1
            have f116a := idx_lo ex115
            have f116b := idx_hi ex115
            have f116c : (esSpan l_a0).drop (k_108.toNat * 4) = eSpan x115 ++ esSpan (l_a0.drop (k_108.toNat + 1)) := drop_enc (fun _ => rfl) (idx_get ex115)
            have ff := ai @dc1 (ai @f3a (ai @f5a (ai @dr_0 (ai @w_0 (ai @kk0c (ai @dc103 (ai @g0_1 (ai @g1_1 (ai @g2_1 (ai @g3_1 (ai @g4_1 (ai @g5_1 (ai @g6_1 (ai @g7_1 (ai @g8_1 (ai @g9_1 (ai @g10_1 (ai @g11_1 (ai @dc113 (ai @dc114 (ai @f116c p_spec_GoodSpans_tf.down)))))))))))))))))))))
            try refine st_by ff ?_
            repeat' (first | exact trivial | refine And.intro sd ?_)
            refine Back.intro (n_1, x115.Up) ?_ ?_
            · rw [hM_1]; exact Nat.lt_succ_self _
            rw [hI_1]
            refine ⟨h_1, ?_⟩
            exact p_spec_GoodSpans_pv ff (ai @f3c @f5c)
        · try clear ff
          rintro σ hg_1
          rw [hJ_1] at hg_1
          obtain ⟨k_108, hj_1, g0_1a, g1_1a, g2_1a, g3_1a, g4_1a, g5_1a, g6_1a, g7_1a, g8_1a, g9_1a, g10_1a, g11_1a⟩ := hg_1
          have hjj_1 := Option.some.inj hj_1
          subst hjj_1
          try dsimp only at h_0
          by_cases c117 : k_108 = x_0.Up
          case neg =>
           rw [if_neg c117] at h_0
           have dc117 := beq_no c117
           cases h_0
           try dsimp only at h
           have ff := ai @dc1 (ai @f3a (ai @f5a (ai @dr_0 (ai @w_0 (ai @kk0c (ai @dc103 (ai @g0_1a (ai @g1_1a (ai @g2_1a (ai @g3_1a (ai @g4_1a (ai @g5_1a (ai @g6_1a (ai @g7_1a (ai @g8_1a (ai @g9_1a (ai @g10_1a (ai @g11_1a (ai @dc117 p_spec_GoodSpans_tf.down)))))))))))))))))))
           try refine st_by ff ?_
           repeat' (first | exact trivial | refine And.intro sd ?_)
           cases h
           exact ret_q1 rfl (p_spec_GoodSpans_rt ff (ai @f3c @f5c))
          rw [if_pos c117] at h_0
          have dc117 := beq_yes c117
          obtain ⟨x118, ex118, h_0⟩ := Option.bind_eq_some_iff.1 h_0
          try dsimp only at h_0
          have f119a := idx_lo ex118
          have f119b := idx_hi ex118
          have f119c : (esInt end_53).drop (i_0 * 1) = eInt x118 ++ esInt (end_53.drop (i_0 + 1)) := drop_enc (fun _ => rfl) (idx_get ex118)
          have f119d := f119c
          rw [Nat.mul_one] at f119d
          have f119g0 : (esInt end_53).getD (i_0 * 1) .junk = (eInt x118).getD 0 .junk := getD_enc0 (enc := eInt) (sz := 1) (fun _ => rfl) (idx_get ex118) (by decide)
          rw [Nat.mul_one] at f119g0
          have w120l : i_0 < end_53.length := (List.getElem?_eq_some_iff.1 (idx_get ex118)).1
          have w120a : (esInt end_53).set (i_0 * 1) (I x_0.From) = esInt (end_53.set i_0 x_0.From) := set_enc0 (enc := eInt) (sz := 1) (fun _ => rfl) (idx_get ex118) (by decide) rfl
          rw [Nat.mul_one] at w120a
          have w120b : (end_53.set i_0 x_0.From).length = end_53.length := List.length_set
          by_cases c121 : x_0.Up < 0
          · rw [if_pos c121] at h_0
            have dc121 := decide_eq_true c121
            obtain ⟨x122, ex122, h_0⟩ := Option.bind_eq_some_iff.1 h_0
            try dsimp only at h_0
            have f123a := idx_lo ex122
            have f123b := idx_hi ex122
            have f123c : (esInt (end_53.set i_0 x_0.From)).drop (l_a0.length * 1) = eInt x122 ++ esInt ((end_53.set i_0 x_0.From).drop (l_a0.length + 1)) := drop_enc (fun _ => rfl) (idx_get ex122)
            have f123d := f123c
            rw [Nat.mul_one] at f123d
            have f123g0 : (esInt (end_53.set i_0 x_0.From)).getD (l_a0.length * 1) .junk = (eInt x122).getD 0 .junk := getD_enc0 (enc := eInt) (sz := 1) (fun _ => rfl) (idx_get ex122) (by decide)
            rw [Nat.mul_one] at f123g0
            by_cases c124 : x_0.From < x122
            · rw [if_pos c124] at h_0
              have dc124 := decide_eq_true c124
              cases h_0
              try dsimp only at h
              have ff := ai @dc1 (ai @f3a (ai @f5a (ai @dr_0 (ai @w_0 (ai @kk0c (ai @dc103 (ai @g0_1a (ai @g1_1a (ai @g2_1a (ai @g3_1a (ai @g4_1a (ai @g5_1a (ai @g6_1a (ai @g7_1a (ai @g8_1a (ai @g9_1a (ai @g10_1a (ai @g11_1a (ai @dc117 (ai @f119c (ai @f119d (ai @f119g0 (ai @w120a (ai @dc121 (ai @f123c (ai @f123d (ai @f123g0 (ai @dc124 p_spec_GoodSpans_tf.down))))))))))))))))))))))))))))
              try refine st_by ff ?_
              repeat' (first | exact trivial | refine And.intro sd ?_ | (refine aw_drawn (id := 17) ?_ [[], [0], [], [], [3], [2, 3, 4], [2, 3, 4, 5], [0, 1, 2, 3, 4, 5, 6]] 7 ?_ ?_; (· kernel_rfl); (· kernel_rfl); refine st_by ff ?_))
              cases h
              exact ret_q1 rfl (p_spec_GoodSpans_rt ff (ai @f3c @f5c))
            rw [if_neg c124] at h_0
            have dc124 := decide_eq_false c124
            have w125l : l_a0.length < (end_53.set i_0 x_0.From).length := (List.getElem?_eq_some_iff.1 (idx_get ex122)).1
            have w125a : (esInt (end_53.set i_0 x_0.From)).set (l_a0.length * 1) (I x_0.To) = esInt ((end_53.set i_0 x_0.From).set l_a0.length x_0.To) := set_enc0 (enc := eInt) (sz := 1) (fun _ => rfl) (idx_get ex122) (by decide) rfl
            rw [Nat.mul_one] at w125a
            have w125b : ((end_53.set i_0 x_0.From).set l_a0.length x_0.To).length = (end_53.set i_0 x_0.From).length := List.length_set
            have ff := ai @dc1 (ai @f3a (ai @f5a (ai @dr_0 (ai @w_0 (ai @kk0c (ai @dc103 (ai @g0_1a (ai @g1_1a (ai @g2_1a (ai @g3_1a (ai @g4_1a (ai @g5_1a (ai @g6_1a (ai @g7_1a (ai @g8_1a (ai @g9_1a (ai @g10_1a (ai @g11_1a (ai @dc117 (ai @f119c (ai @f119d (ai @f119g0 (ai @w120a (ai @dc121 (ai @f123c (ai @f123d (ai @f123g0 (ai @dc124 (ai @w125a p_spec_GoodSpans_tf.down)))))))))))))))))))))))))))))
            try refine st_by ff ?_
            repeat' (first | exact trivial | refine And.intro sd ?_ | (refine aw_drawn (id := 17) ?_ [[], [0], [], [], [3], [2, 3, 4], [2, 3, 4, 5], [0, 1, 2, 3, 4, 5, 6]] 7 ?_ ?_; (· kernel_rfl); (· kernel_rfl); refine st_by ff ?_))
            refine Back.intro (i_0 + 1, ((end_53.set i_0 x_0.From).set l_a0.length x_0.To), deep_54) ?_ ?_
            · clear ff; rw [hM_0]; show l_a0.length - (i_0 + 1) < l_a0.length - i_0; omega
            rw [hI_0]
            refine ⟨⟨by clear ff; show i_0 + 1 ≤ l_a0.length; omega, by show p_spec_GoodSpans_l0 N l_a0 (l_a0.drop (i_0 + 1)) (i_0 + 1) ((end_53.set i_0 x_0.From).set l_a0.length x_0.To) deep_54 = some q_0; rw [hd_0]; exact h_0⟩, ?_⟩
            exact p_spec_GoodSpans_pv ff (ai @f3c @f5c)
          rw [if_neg c121] at h_0
          have dc121 := decide_eq_false c121
          obtain ⟨x126, ex126, h_0⟩ := Option.bind_eq_some_iff.1 h_0
          try dsimp only at h_0
          have f127a := idx_lo ex126
          have f127b := idx_hi ex126
          have f127c : (esInt deep_54).drop (x_0.Up.toNat * 1) = eInt x126 ++ esInt (deep_54.drop (x_0.Up.toNat + 1)) := drop_enc (fun _ => rfl) (idx_get ex126)
          have f127d := f127c
          rw [Nat.mul_one] at f127d
          have f127g0 : (esInt deep_54).getD (x_0.Up.toNat * 1) .junk = (eInt x126).getD 0 .junk := getD_enc0 (enc := eInt) (sz := 1) (fun _ => rfl) (idx_get ex126) (by decide)
          rw [Nat.mul_one] at f127g0
          obtain ⟨x128, ex128, h_0⟩ := Option.bind_eq_some_iff.1 h_0
          try dsimp only at h_0
          have f129a := idx_lo ex128
          have f129b := idx_hi ex128
          have f129c : (esInt deep_54).drop (i_0 * 1) = eInt x128 ++ esInt (deep_54.drop (i_0 + 1)) := drop_enc (fun _ => rfl) (idx_get ex128)
          have f129d := f129c
          rw [Nat.mul_one] at f129d
          have f129g0 : (esInt deep_54).getD (i_0 * 1) .junk = (eInt x128).getD 0 .junk := getD_enc0 (enc := eInt) (sz := 1) (fun _ => rfl) (idx_get ex128) (by decide)
          rw [Nat.mul_one] at f129g0
          have w130l : i_0 < deep_54.length := (List.getElem?_eq_some_iff.1 (idx_get ex128)).1
          have w130a : (esInt deep_54).set (i_0 * 1) (I (IntKind.i64.wrap (x126 + 1))) = esInt (deep_54.set i_0 (IntKind.i64.wrap (x126 + 1))) := set_enc0 (enc := eInt) (sz := 1) (fun _ => rfl) (idx_get ex128) (by decide) rfl
          rw [Nat.mul_one] at w130a
          have w130b : (deep_54.set i_0 (IntKind.i64.wrap (x126 + 1))).length = deep_54.length := List.length_set
          obtain ⟨x131, ex131, h_0⟩ := Option.bind_eq_some_iff.1 h_0
          try dsimp only at h_0
          have f132a := idx_lo ex131
          have f132b := idx_hi ex131
          have f132c : (esInt (end_53.set i_0 x_0.From)).drop (x_0.Up.toNat * 1) = eInt x131 ++ esInt ((end_53.set i_0 x_0.From).drop (x_0.Up.toNat + 1)) := drop_enc (fun _ => rfl) (idx_get ex131)
          have f132d := f132c
          rw [Nat.mul_one] at f132d
          have f132g0 : (esInt (end_53.set i_0 x_0.From)).getD (x_0.Up.toNat * 1) .junk = (eInt x131).getD 0 .junk := getD_enc0 (enc := eInt) (sz := 1) (fun _ => rfl) (idx_get ex131) (by decide)
          rw [Nat.mul_one] at f132g0
          have ff := ai @dc1 (ai @f3a (ai @f5a (ai @dr_0 (ai @w_0 (ai @kk0c (ai @dc103 (ai @g0_1a (ai @g1_1a (ai @g2_1a (ai @g3_1a (ai @g4_1a (ai @g5_1a (ai @g6_1a (ai @g7_1a (ai @g8_1a (ai @g9_1a (ai @g10_1a (ai @g11_1a (ai @dc117 (ai @f119c (ai @f119d (ai @f119g0 (ai @w120a (ai @dc121 (ai @f127c (ai @f127d (ai @f127g0 (ai @f129c (ai @f129d (ai @f129g0 (ai @w130a (ai @f132c (ai @f132d (ai @f132g0 p_spec_GoodSpans_tf.down))))))))))))))))))))))))))))))))))
          try refine st_by ff ?_
          repeat' (first | exact trivial | refine And.intro sd ?_ | (refine aw_drawn (id := 21) ?_ [[], [0], [], [], [3], [2, 3, 4], [2, 3, 4, 5], [0, 1, 2, 3, 4, 5, 6], [0, 1, 2, 3, 4, 5, 6, 7], [0, 1, 2, 3, 4, 5, 6, 7, 8], [0, 1, 2, 3, 4, 5, 6, 7, 8, 9], [0, 1, 2, 3, 4, 5, 6, 7, 8], [0, 1, 2, 3, 4, 5, 6, 7, 8], [0, 1, 2, 3, 4, 5, 6, 7, 8, 12], [0, 1, 2, 3, 4, 5, 6, 7, 8, 11, 12, 13], [0, 1, 2, 3, 4, 5, 6, 7, 8, 11, 12, 13, 14], [0, 1, 2, 3, 4, 5, 6, 7, 8, 11, 12, 13, 14, 15], [0, 1, 2, 3, 4, 5, 6, 7, 8, 9, 10, 11, 12, 13, 14, 15, 16], [0, 1, 2, 3, 4, 5, 6, 7, 8, 9, 10, 11, 12, 13, 14, 15, 16, 17], [0, 1, 2, 3, 4, 5, 6, 7, 8, 9, 10, 11, 12, 13, 14, 15, 16, 17, 18], [0, 1, 2, 3, 4, 5, 6, 7, 8, 9, 10, 11, 12, 13, 14, 15, 16, 17, 18, 19], [0, 1, 2, 3, 4, 5, 6, 7, 8, 9, 10, 11, 12, 13, 14, 15, 16, 17, 18, 19], [0, 1, 2, 3, 4, 5, 6, 7, 8, 9, 10, 11, 12, 13, 14, 15, 16, 17, 18, 19, 20, 21], [0, 1, 2, 3, 4, 5, 6, 7, 8, 9, 10, 11, 12, 13, 14, 15, 16, 17, 18, 19, 20, 21, 22], [0, 1, 2, 3, 4, 5, 6, 7, 8, 9, 10, 11, 12, 13, 14, 15, 16, 17, 18, 19, 20, 21, 22, 23], [0, 1, 2, 3, 4, 5, 6, 7, 8, 9, 10, 11, 12, 13, 14, 15, 16, 17, 18, 19, 20, 21, 22, 23, 24]] 22 ?_ ?_; (· kernel_rfl); (· kernel_rfl); refine st_by ff ?_))
          try clear ff
          generalize hk_1 : thenK _ _ = kk_1
          have key_1 : ∀ σ, (∃ b_133 : Bool, (p_spec_GoodSpans_j1 end_53 deep_54 x_0 i_0 x126 (p_spec_GoodSpans_l0 N l_a0 r_0) b_133 = some q_0) ∧ σ.t 0 = .row false 4 l_a0.length (esSpan l_a0) ∧ σ.t 3 = .sl 3 [] 0 ((end_53.set i_0 x_0.From).length) ∧ σ.t 4 = .sl 4 [] 0 ((deep_54.set i_0 (IntKind.i64.wrap (x126 + 1))).length) ∧ σ.t 6 = .ptr 6 [] 0 ∧ σ.t 18 = .row false 4 l_a0.length (esSpan l_a0) ∧ σ.t 19 = I (l_a0.length : Int) ∧ σ.t 20 = I (i_0 : Int) ∧ σ.t 126 = B b_133 ∧ σ.m 3 = some (.row true 1 (end_53.set i_0 x_0.From).length (esInt (end_53.set i_0 x_0.From))) ∧ σ.m 4 = some (.row true 1 (deep_54.set i_0 (IntKind.i64.wrap (x126 + 1))).length (esInt (deep_54.set i_0 (IntKind.i64.wrap (x126 + 1))))) ∧ σ.m 6 = some (.box true [S x_0.Name, I x_0.From, I x_0.To, I x_0.Up])) → kk_1 .nm σ := by
            rintro σ ⟨b_133, h_0, g0_j1, g1_j1, g2_j1, g3_j1, g4_j1, g5_j1, g6_j1, g7_j1, g8_j1, g9_j1, g10_j1⟩
            rw [← hk_1]
            rw [p_spec_GoodSpans_j1] at h_0
            by_cases c134 : b_133 = true
            · rw [if_pos c134] at h_0
              have dc134 := c134
              cases h_0
              try dsimp only at h
              have ff := ai @dc1 (ai @f3a (ai @f5a (ai @dr_0 (ai @w_0 (ai @kk0c (ai @dc103 (ai @dc117 (ai @f119c (ai @f119d (ai @f119g0 (ai @w120a (ai @dc121 (ai @f127c (ai @f127d (ai @f127g0 (ai @f129c (ai @f129d (ai @f129g0 (ai @w130a (ai @f132c (ai @f132d (ai @f132g0 (ai @g0_j1 (ai @g1_j1 (ai @g2_j1 (ai @g3_j1 (ai @g4_j1 (ai @g5_j1 (ai @g6_j1 (ai @g7_j1 (ai @g8_j1 (ai @g9_j1 (ai @g10_j1 (ai @dc134 p_spec_GoodSpans_tf.down))))))))))))))))))))))))))))))))))
              try refine st_by ff ?_
              repeat' (first | exact trivial | refine And.intro sd ?_ | (refine aw_drawn (id := 21) ?_ [[], [0], [], [], [3], [2, 3, 4], [2, 3, 4, 5], [0, 1, 2, 3, 4, 5, 6], [0, 1, 2, 3, 4, 5, 6, 7], [0, 1, 2, 3, 4, 5, 6, 7, 8], [0, 1, 2, 3, 4, 5, 6, 7, 8, 9], [0, 1, 2, 3, 4, 5, 6, 7, 8], [0, 1, 2, 3, 4, 5, 6, 7, 8], [0, 1, 2, 3, 4, 5, 6, 7, 8, 12], [0, 1, 2, 3, 4, 5, 6, 7, 8, 11, 12, 13], [0, 1, 2, 3, 4, 5, 6, 7, 8, 11, 12, 13, 14], [0, 1, 2, 3, 4, 5, 6, 7, 8, 11, 12, 13, 14, 15], [0, 1, 2, 3, 4, 5, 6, 7, 8, 9, 10, 11, 12, 13, 14, 15, 16], [0, 1, 2, 3, 4, 5, 6, 7, 8, 9, 10, 11, 12, 13, 14, 15, 16, 17], [0, 1, 2, 3, 4, 5, 6, 7, 8, 9, 10, 11, 12, 13, 14, 15, 16, 17, 18], [0, 1, 2, 3, 4, 5, 6, 7, 8, 9, 10, 11, 12, 13, 14, 15, 16, 17, 18, 19], [0, 1, 2, 3, 4, 5, 6, 7, 8, 9, 10, 11, 12, 13, 14, 15, 16, 17, 18, 19], [0, 1, 2, 3, 4, 5, 6, 7, 8, 9, 10, 11, 12, 13, 14, 15, 16, 17, 18, 19, 20, 21], [0, 1, 2, 3, 4, 5, 6, 7, 8, 9, 10, 11, 12, 13, 14, 15, 16, 17, 18, 19, 20, 21, 22], [0, 1, 2, 3, 4, 5, 6, 7, 8, 9, 10, 11, 12, 13, 14, 15, 16, 17, 18, 19, 20, 21, 22, 23], [0, 1, 2, 3, 4, 5, 6, 7, 8, 9, 10, 11, 12, 13, 14, 15, 16, 17, 18, 19, 20, 21, 22, 23, 24]] 22 ?_ ?_; (· kernel_rfl); (· kernel_rfl); refine st_by ff ?_))
              cases h
              exact ret_q1 rfl (p_spec_GoodSpans_rt ff (ai @f3c @f5c))
            rw [if_neg c134] at h_0
            have dc134 := eq_false_of_ne_true c134
            have w135l : x_0.Up.toNat < (end_53.set i_0 x_0.From).length := (List.getElem?_eq_some_iff.1 (idx_get ex131)).1
            have w135a : (esInt (end_53.set i_0 x_0.From)).set (x_0.Up.toNat * 1) (I x_0.To) = esInt ((end_53.set i_0 x_0.From).set x_0.Up.toNat x_0.To) := set_enc0 (enc := eInt) (sz := 1) (fun _ => rfl) (idx_get ex131) (by decide) rfl
            rw [Nat.mul_one] at w135a
            have w135b : ((end_53.set i_0 x_0.From).set x_0.Up.toNat x_0.To).length = (end_53.set i_0 x_0.From).length := List.length_set
            have ff := ai @dc1 (ai @f3a (ai @f5a (ai @dr_0 (ai @w_0 (ai @kk0c (ai @dc103 (ai @dc117 (ai @f119c (ai @f119d (ai @f119g0 (ai @w120a (ai @dc121 (ai @f127c (ai @f127d (ai @f127g0 (ai @f129c (ai @f129d (ai @f129g0 (ai @w130a (ai @f132c (ai @f132d (ai @f132g0 (ai @g0_j1 (ai @g1_j1 (ai @g2_j1 (ai @g3_j1 (ai @g4_j1 (ai @g5_j1 (ai @g6_j1 (ai @g7_j1 (ai @g8_j1 (ai @g9_j1 (ai @g10_j1 (ai @dc134 (ai @w135a p_spec_GoodSpans_tf.down)))))))))))))))))))))))))))))))))))
            try refine st_by ff ?_
            repeat' (first | exact trivial | refine And.intro sd ?_ | (refine aw_drawn (id := 21) ?_ [[], [0], [], [], [3], [2, 3, 4], [2, 3, 4, 5], [0, 1, 2, 3, 4, 5, 6], [0, 1, 2, 3, 4, 5, 6, 7], [0, 1, 2, 3, 4, 5, 6, 7, 8], [0, 1, 2, 3, 4, 5, 6, 7, 8, 9], [0, 1, 2, 3, 4, 5, 6, 7, 8], [0, 1, 2, 3, 4, 5, 6, 7, 8], [0, 1, 2, 3, 4, 5, 6, 7, 8, 12], [0, 1, 2, 3, 4, 5, 6, 7, 8, 11, 12, 13], [0, 1, 2, 3, 4, 5, 6, 7, 8, 11, 12, 13, 14], [0, 1, 2, 3, 4, 5, 6, 7, 8, 11, 12, 13, 14, 15], [0, 1, 2, 3, 4, 5, 6, 7, 8, 9, 10, 11, 12, 13, 14, 15, 16], [0, 1, 2, 3, 4, 5, 6, 7, 8, 9, 10, 11, 12, 13, 14, 15, 16, 17], [0, 1, 2, 3, 4, 5, 6, 7, 8, 9, 10, 11, 12, 13, 14, 15, 16, 17, 18], [0, 1, 2, 3, 4, 5, 6, 7, 8, 9, 10, 11, 12, 13, 14, 15, 16, 17, 18, 19], [0, 1, 2, 3, 4, 5, 6, 7, 8, 9, 10, 11, 12, 13, 14, 15, 16, 17, 18, 19], [0, 1, 2, 3, 4, 5, 6, 7, 8, 9, 10, 11, 12, 13, 14, 15, 16, 17, 18, 19, 20, 21], [0, 1, 2, 3, 4, 5, 6, 7, 8, 9, 10, 11, 12, 13, 14, 15, 16, 17, 18, 19, 20, 21, 22], [0, 1, 2, 3, 4, 5, 6, 7, 8, 9, 10, 11, 12, 13, 14, 15, 16, 17, 18, 19, 20, 21, 22, 23], [0, 1, 2, 3, 4, 5, 6, 7, 8, 9, 10, 11, 12, 13, 14, 15, 16, 17, 18, 19, 20, 21, 22, 23, 24]] 22 ?_ ?_; (· kernel_rfl); (· kernel_rfl); refine st_by ff ?_))
            refine Back.intro (i_0 + 1, ((end_53.set i_0 x_0.From).set x_0.Up.toNat x_0.To), (deep_54.set i_0 (IntKind.i64.wrap (x126 + 1)))) ?_ ?_
            · clear ff; rw [hM_0]; show l_a0.length - (i_0 + 1) < l_a0.length - i_0; omega
            rw [hI_0]
            refine ⟨⟨by clear ff; show i_0 + 1 ≤ l_a0.length; omega, by show p_spec_GoodSpans_l0 N l_a0 (l_a0.drop (i_0 + 1)) (i_0 + 1) ((end_53.set i_0 x_0.From).set x_0.Up.toNat x_0.To) (deep_54.set i_0 (IntKind.i64.wrap (x126 + 1))) = some q_0; rw [hd_0]; exact h_0⟩, ?_⟩
            exact p_spec_GoodSpans_pv ff (ai @f3c @f5c)
          have hrt_1 := fun σ : ASt => congrFun (congrFun hk_1.symm AX.rt) σ
          have hex_1 := fun (i : Nat) (σ : ASt) => congrFun (congrFun hk_1.symm (AX.ex i)) σ
          by_cases c136 : x_0.From < x131
          · rw [if_pos c136] at h_0
            have dc136 := decide_eq_true c136
            have ff := ai @dc1 (ai @f3a (ai @f5a (ai @dr_0 (ai @w_0 (ai @kk0c (ai @dc103 (ai @g0_1a (ai @g1_1a (ai @g2_1a (ai @g3_1a (ai @g4_1a (ai @g5_1a (ai @g6_1a (ai @g7_1a (ai @g8_1a (ai @g9_1a (ai @g10_1a (ai @g11_1a (ai @dc117 (ai @f119c (ai @f119d (ai @f119g0 (ai @w120a (ai @dc121 (ai @f127c (ai @f127d (ai @f127g0 (ai @f129c (ai @f129d (ai @f129g0 (ai @w130a (ai @f132c (ai @f132d (ai @f132g0 (ai @hrt_1 (ai @hex_1 (ai @dc136 p_spec_GoodSpans_tf.down)))))))))))))))))))))))))))))))))))))
            try refine st_by ff ?_
            repeat' (first | exact trivial | refine And.intro sd ?_ | (refine aw_drawn (id := 21) ?_ [[], [0], [], [], [3], [2, 3, 4], [2, 3, 4, 5], [0, 1, 2, 3, 4, 5, 6], [0, 1, 2, 3, 4, 5, 6, 7], [0, 1, 2, 3, 4, 5, 6, 7, 8], [0, 1, 2, 3, 4, 5, 6, 7, 8, 9], [0, 1, 2, 3, 4, 5, 6, 7, 8], [0, 1, 2, 3, 4, 5, 6, 7, 8], [0, 1, 2, 3, 4, 5, 6, 7, 8, 12], [0, 1, 2, 3, 4, 5, 6, 7, 8, 11, 12, 13], [0, 1, 2, 3, 4, 5, 6, 7, 8, 11, 12, 13, 14], [0, 1, 2, 3, 4, 5, 6, 7, 8, 11, 12, 13, 14, 15], [0, 1, 2, 3, 4, 5, 6, 7, 8, 9, 10, 11, 12, 13, 14, 15, 16], [0, 1, 2, 3, 4, 5, 6, 7, 8, 9, 10, 11, 12, 13, 14, 15, 16, 17], [0, 1, 2, 3, 4, 5, 6, 7, 8, 9, 10, 11, 12, 13, 14, 15, 16, 17, 18], [0, 1, 2, 3, 4, 5, 6, 7, 8, 9, 10, 11, 12, 13, 14, 15, 16, 17, 18, 19], [0, 1, 2, 3, 4, 5, 6, 7, 8, 9, 10, 11, 12, 13, 14, 15, 16, 17, 18, 19], [0, 1, 2, 3, 4, 5, 6, 7, 8, 9, 10, 11, 12, 13, 14, 15, 16, 17, 18, 19, 20, 21], [0, 1, 2, 3, 4, 5, 6, 7, 8, 9, 10, 11, 12, 13, 14, 15, 16, 17, 18, 19, 20, 21, 22], [0, 1, 2, 3, 4, 5, 6, 7, 8, 9, 10, 11, 12, 13, 14, 15, 16, 17, 18, 19, 20, 21, 22, 23], [0, 1, 2, 3, 4, 5, 6, 7, 8, 9, 10, 11, 12, 13, 14, 15, 16, 17, 18, 19, 20, 21, 22, 23, 24]] 22 ?_ ?_; (· kernel_rfl); (· kernel_rfl); refine st_by ff ?_))
            refine key_1 _ ?_
            refine ⟨true, h_0, ?_⟩
            exact p_spec_GoodSpans_pv ff (ai @f3c @f5c)
          rw [if_neg c136] at h_0
          have dc136 := decide_eq_false c136
          obtain ⟨x137, ex137, h_0⟩ := Option.bind_eq_some_iff.1 h_0
          try dsimp only at h_0
          have f138a := idx_lo ex137
          have f138b := idx_hi ex137
          have f138c : (esSpan l_a0).drop (x_0.Up.toNat * 4) = eSpan x137 ++ esSpan (l_a0.drop (x_0.Up.toNat + 1)) := drop_enc (fun _ => rfl) (idx_get ex137)
          by_cases c139 : x_0.To > x137.To
          · rw [if_pos c139] at h_0
            have dc139 := decide_eq_true c139
            have ff := ai @dc1 (ai @f3a (ai @f5a (ai @dr_0 (ai @w_0 (ai @kk0c (ai @dc103 (ai @g0_1a (ai @g1_1a (ai @g2_1a (ai @g3_1a (ai @g4_1a (ai @g5_1a (ai @g6_1a (ai @g7_1a (ai @g8_1a (ai @g9_1a (ai @g10_1a (ai @g11_1a (ai @dc117 (ai @f119c (ai @f119d (ai @f119g0 (ai @w120a (ai @dc121 (ai @f127c (ai @f127d (ai @f127g0 (ai @f129c (ai @f129d (ai @f129g0 (ai @w130a (ai @f132c (ai @f132d (ai @f132g0 (ai @hrt_1 (ai @hex_1 (ai @dc136 (ai @f138c (ai @dc139 p_spec_GoodSpans_tf.down)))))))))))))))))))))))))))))))))))))))
            try refine st_by ff ?_
            repeat' (first | exact trivial | refine And.intro sd ?_ | (refine aw_drawn (id := 21) ?_ [[], [0], [], [], [3], [2, 3, 4], [2, 3, 4, 5], [0, 1, 2, 3, 4, 5, 6], [0, 1, 2, 3, 4, 5, 6, 7], [0, 1, 2, 3, 4, 5, 6, 7, 8], [0, 1, 2, 3, 4, 5, 6, 7, 8, 9], [0, 1, 2, 3, 4, 5, 6, 7, 8], [0, 1, 2, 3, 4, 5, 6, 7, 8], [0, 1, 2, 3, 4, 5, 6, 7, 8, 12], [0, 1, 2, 3, 4, 5, 6, 7, 8, 11, 12, 13], [0, 1, 2, 3, 4, 5, 6, 7, 8, 11, 12, 13, 14], [0, 1, 2, 3, 4, 5, 6, 7, 8, 11, 12, 13, 14, 15], [0, 1, 2, 3, 4, 5, 6, 7, 8, 9, 10, 11, 12, 13, 14, 15, 16], [0, 1, 2, 3, 4, 5, 6, 7, 8, 9, 10, 11, 12, 13, 14, 15, 16, 17], [0, 1, 2, 3, 4, 5, 6, 7, 8, 9, 10, 11, 12, 13, 14, 15, 16, 17, 18], [0, 1, 2, 3, 4, 5, 6, 7, 8, 9, 10, 11, 12, 13, 14, 15, 16, 17, 18, 19], [0, 1, 2, 3, 4, 5, 6, 7, 8, 9, 10, 11, 12, 13, 14, 15, 16, 17, 18, 19], [0, 1, 2, 3, 4, 5, 6, 7, 8, 9, 10, 11, 12, 13, 14, 15, 16, 17, 18, 19, 20, 21], [0, 1, 2, 3, 4, 5, 6, 7, 8, 9, 10, 11, 12, 13, 14, 15, 16, 17, 18, 19, 20, 21, 22], [0, 1, 2, 3, 4, 5, 6, 7, 8, 9, 10, 11, 12, 13, 14, 15, 16, 17, 18, 19, 20, 21, 22, 23], [0, 1, 2, 3, 4, 5, 6, 7, 8, 9, 10, 11, 12, 13, 14, 15, 16, 17, 18, 19, 20, 21, 22, 23, 24]] 22 ?_ ?_; (· kernel_rfl); (· kernel_rfl); refine st_by ff ?_))
            refine key_1 _ ?_
            refine ⟨true, h_0, ?_⟩
            exact p_spec_GoodSpans_pv ff (ai @f3c @f5c)
          rw [if_neg c139] at h_0
          have dc139 := decide_eq_false c139
          have f140c : (esInt (deep_54.set i_0 (IntKind.i64.wrap (x126 + 1)))).drop (i_0 * 1) = eInt (IntKind.i64.wrap (x126 + 1)) ++ esInt ((deep_54.set i_0 (IntKind.i64.wrap (x126 + 1))).drop (i_0 + 1)) := drop_enc (fun _ => rfl) (List.getElem?_set_self w130l)
          have f140d := f140c
          rw [Nat.mul_one] at f140d
          have f140g0 : (esInt (deep_54.set i_0 (IntKind.i64.wrap (x126 + 1)))).getD (i_0 * 1) .junk = (eInt (IntKind.i64.wrap (x126 + 1))).getD 0 .junk := getD_enc0 (enc := eInt) (sz := 1) (fun _ => rfl) (List.getElem?_set_self w130l) (by decide)
          rw [Nat.mul_one] at f140g0
          have ff := ai @dc1 (ai @f3a (ai @f5a (ai @dr_0 (ai @w_0 (ai @kk0c (ai @dc103 (ai @g0_1a (ai @g1_1a (ai @g2_1a (ai @g3_1a (ai @g4_1a (ai @g5_1a (ai @g6_1a (ai @g7_1a (ai @g8_1a (ai @g9_1a (ai @g10_1a (ai @g11_1a (ai @dc117 (ai @f119c (ai @f119d (ai @f119g0 (ai @w120a (ai @dc121 (ai @f127c (ai @f127d (ai @f127g0 (ai @f129c (ai @f129d (ai @f129g0 (ai @w130a (ai @f132c (ai @f132d (ai @f132g0 (ai @hrt_1 (ai @hex_1 (ai @dc136 (ai @f138c (ai @dc139 (ai @f140c (ai @f140d (ai @f140g0 p_spec_GoodSpans_tf.down))))))))))))))))))))))))))))))))))))))))))
          try refine st_by ff ?_
          repeat' (first | exact trivial | refine And.intro sd ?_ | (refine aw_drawn (id := 21) ?_ [[], [0], [], [], [3], [2, 3, 4], [2, 3, 4, 5], [0, 1, 2, 3, 4, 5, 6], [0, 1, 2, 3, 4, 5, 6, 7], [0, 1, 2, 3, 4, 5, 6, 7, 8], [0, 1, 2, 3, 4, 5, 6, 7, 8, 9], [0, 1, 2, 3, 4, 5, 6, 7, 8], [0, 1, 2, 3, 4, 5, 6, 7, 8], [0, 1, 2, 3, 4, 5, 6, 7, 8, 12], [0, 1, 2, 3, 4, 5, 6, 7, 8, 11, 12, 13], [0, 1, 2, 3, 4, 5, 6, 7, 8, 11, 12, 13, 14], [0, 1, 2, 3, 4, 5, 6, 7, 8, 11, 12, 13, 14, 15], [0, 1, 2, 3, 4, 5, 6, 7, 8, 9, 10, 11, 12, 13, 14, 15, 16], [0, 1, 2, 3, 4, 5, 6, 7, 8, 9, 10, 11, 12, 13, 14, 15, 16, 17], [0, 1, 2, 3, 4, 5, 6, 7, 8, 9, 10, 11, 12, 13, 14, 15, 16, 17, 18], [0, 1, 2, 3, 4, 5, 6, 7, 8, 9, 10, 11, 12, 13, 14, 15, 16, 17, 18, 19], [0, 1, 2, 3, 4, 5, 6, 7, 8, 9, 10, 11, 12, 13, 14, 15, 16, 17, 18, 19], [0, 1, 2, 3, 4, 5, 6, 7, 8, 9, 10, 11, 12, 13, 14, 15, 16, 17, 18, 19, 20, 21], [0, 1, 2, 3, 4, 5, 6, 7, 8, 9, 10, 11, 12, 13, 14, 15, 16, 17, 18, 19, 20, 21, 22], [0, 1, 2, 3, 4, 5, 6, 7, 8, 9, 10, 11, 12, 13, 14, 15, 16, 17, 18, 19, 20, 21, 22, 23], [0, 1, 2, 3, 4, 5, 6, 7, 8, 9, 10, 11, 12, 13, 14, 15, 16, 17, 18, 19, 20, 21, 22, 23, 24]] 22 ?_ ?_; (· kernel_rfl); (· kernel_rfl); refine st_by ff ?_))
          refine key_1 _ ?_
          refine ⟨decide ((IntKind.i64.wrap (x126 + 1)) ≥ 12), h_0, ?_⟩
          exact p_spec_GoodSpans_pv ff (ai @f3c @f5c)
      have hrt_0 := fun σ : ASt => congrFun (congrFun hk_0.symm AX.rt) σ
      have hex_0 := fun (i : Nat) (σ : ASt) => congrFun (congrFun hk_0.symm (AX.ex i)) σ
      by_cases c141 : (goodName x_0.Name) = true
      case neg =>
       rw [if_neg c141] at h_0
       have dc141 := eq_false_of_ne_true c141
       have ff := ai @dc1 (ai @f3a (ai @f5a (ai @dr_0 (ai @w_0 (ai @g0_0 (ai @g1_0 (ai @g2_0 (ai @g3_0 (ai @g4_0 (ai @g5_0 (ai @g6_0 (ai @g7_0 (ai @kk0c (ai @hrt_0 (ai @hex_0 (ai @dc141 p_spec_GoodSpans_tf.down))))))))))))))))
       try refine st_by ff ?_
       repeat' (first | exact trivial | refine And.intro sd ?_)
       refine key_0 _ ?_
       refine ⟨true, h_0, ?_⟩
       exact p_spec_GoodSpans_pv ff (ai @f3c @f5c)
      rw [if_pos c141] at h_0
      have dc141 := c141
      have ff := ai @dc1 (ai @f3a (ai @f5a (ai @dr_0 (ai @w_0 (ai @g0_0 (ai @g1_0 (ai @g2_0 (ai @g3_0 (ai @g4_0 (ai @g5_0 (ai @g6_0 (ai @g7_0 (ai @kk0c (ai @hrt_0 (ai @hex_0 (ai @dc141 p_spec_GoodSpans_tf.down))))))))))))))))
      try refine st_by ff ?_
      repeat' (first | exact trivial | refine And.intro sd ?_)
      first
      | (refine cq_call (l1In_does x_0.From 0 100000) (hf_by ff) kr ⟨p_spec_GoodSpans_sa ff (ai @f3c @f5c), ?_⟩; clear ff)
      | (refine cq_dcall (l1In_does x_0.From 0 100000) (hf_by ff) kr ⟨p_spec_GoodSpans_sa ff (ai @f3c @f5c), ?_⟩; clear ff)
      by_cases c142 : (rng x_0.From 0 100000) = true
      case neg =>
       rw [if_neg c142] at h_0
       have dc142 := eq_false_of_ne_true c142
       have ff := ai @dc1 (ai @f3a (ai @f5a (ai @dr_0 (ai @w_0 (ai @g0_0 (ai @g1_0 (ai @g2_0 (ai @g3_0 (ai @g4_0 (ai @g5_0 (ai @g6_0 (ai @g7_0 (ai @kk0c (ai @hrt_0 (ai @hex_0 (ai @dc141 (ai @dc142 p_spec_GoodSpans_tf.down)))))))))))))))))
       try refine st_by ff ?_
       repeat' (first | exact trivial | refine And.intro sd ?_)
       refine key_0 _ ?_
       refine ⟨true, h_0, ?_⟩
       exact p_spec_GoodSpans_pv ff (ai @f3c @f5c)
      rw [if_pos c142] at h_0
      have dc142 := c142
      have ff := ai @dc1 (ai @f3a (ai @f5a (ai @dr_0 (ai @w_0 (ai @g0_0 (ai @g1_0 (ai @g2_0 (ai @g3_0 (ai @g4_0 (ai @g5_0 (ai @g6_0 (ai @g7_0 (ai @kk0c (ai @hrt_0 (ai @hex_0 (ai @dc141 (ai @dc142 p_spec_GoodSpans_tf.down)))))))))))))))))
      try refine st_by ff ?_
      repeat' (first | exact trivial | refine And.intro sd ?_)
      first
      | (refine cq_call (l1In_does x_0.To x_0.From 100000) (hf_by ff) kr ⟨p_spec_GoodSpans_sa ff (ai @f3c @f5c), ?_⟩; clear ff)
      | (refine cq_dcall (l1In_does x_0.To x_0.From 100000) (hf_by ff) kr ⟨p_spec_GoodSpans_sa ff (ai @f3c @f5c), ?_⟩; clear ff)
      by_cases c143 : (rng x_0.To x_0.From 100000) = true
      case neg =>
       rw [if_neg c143] at h_0
       have dc143 := eq_false_of_ne_true c143
       have ff := ai @dc1 (ai @f3a (ai @f5a (ai @dr_0 (ai @w_0 (ai @g0_0 (ai @g1_0 (ai @g2_0 (ai @g3_0 (ai @g4_0 (ai @g5_0 (ai @g6_0 (ai @g7_0 (ai @kk0c (ai @hrt_0 (ai @hex_0 (ai @dc141 (ai @dc142 (ai @dc143 p_spec_GoodSpans_tf.down))))))))))))))))))
       try refine st_by ff ?_
       repeat' (first | exact trivial | refine And.intro sd ?_)
       refine key_0 _ ?_
       refine ⟨true, h_0, ?_⟩
       exact p_spec_GoodSpans_pv ff (ai @f3c @f5c)
      rw [if_pos c143] at h_0
      have dc143 := c143
      have ff := ai @dc1 (ai @f3a (ai @f5a (ai @dr_0 (ai @w_0 (ai @g0_0 (ai @g1_0 (ai @g2_0 (ai @g3_0 (ai @g4_0 (ai @g5_0 (ai @g6_0 (ai @g7_0 (ai @kk0c (ai @hrt_0 (ai @hex_0 (ai @dc141 (ai @dc142 (ai @dc143 p_spec_GoodSpans_tf.down))))))))))))))))))
      try refine st_by ff ?_
      repeat' (first | exact trivial | refine And.intro sd ?_)
      first
      | (refine cq_call (l1In_does x_0.Up (-1) (IntKind.i64.wrap ((i_0 : Int) - 1))) (hf_by ff) kr ⟨p_spec_GoodSpans_sa ff (ai @f3c @f5c), ?_⟩; clear ff)
      | (refine cq_dcall (l1In_does x_0.Up (-1) (IntKind.i64.wrap ((i_0 : Int) - 1))) (hf_by ff) kr ⟨p_spec_GoodSpans_sa ff (ai @f3c @f5c), ?_⟩; clear ff)
      have ff := ai @dc1 (ai @f3a (ai @f5a (ai @dr_0 (ai @w_0 (ai @g0_0 (ai @g1_0 (ai @g2_0 (ai @g3_0 (ai @g4_0 (ai @g5_0 (ai @g6_0 (ai @g7_0 (ai @kk0c (ai @hrt_0 (ai @hex_0 (ai @dc141 (ai @dc142 (ai @dc143 p_spec_GoodSpans_tf.down))))))))))))))))))
      try refine st_by ff ?_
      repeat' (first | exact trivial | refine And.intro sd ?_)
      refine key_0 _ ?_
      refine ⟨!(rng x_0.Up (-1) (IntKind.i64.wrap ((i_0 : Int) - 1))), h_0, ?_⟩
      exact p_spec_GoodSpans_pv ff (ai @f3c @f5c)
  · try clear ff
    rintro σ hg_0
    rw [hJ_0] at hg_0
    obtain ⟨end_53, deep_54, hj_0, _⟩ := hg_0
    cases hj_0
    try dsimp only at h
    have ff := ai @dc1 (ai @f3a (ai @f5a p_spec_GoodSpans_tf.down))
    try refine st_by ff ?_
    repeat' (first | exact trivial | refine And.intro sd ?_)
    cases h
    exact ret_q1 rfl (p_spec_GoodSpans_rt ff (ai @f3c @f5c))
/-! spec.l1PutText -/
def p_spec_l1PutText_l0 (l_a0 : List ByteArray) (s_a1 : ByteArray) : Nat → Int → Option (Int)
  | 0, _ => none
  | n_0 + 1, k_5 => (if k_5 < (l_a0.length : Int) then ((idx l_a0 k_5).bind fun x11 => (if (Op.bytesLess x11.toList s_a1.toList) = true then p_spec_l1PutText_l0 l_a0 s_a1 n_0 (IntKind.i64.wrap (k_5 + 1)) else some k_5)) else some k_5)
def p_spec_l1PutText_j0 (l_a0 : List ByteArray) (s_a1 : ByteArray) (k_5 : Int) (b_14 : Bool) : Option (List ByteArray) := (if b_14 = true then some l_a0 else ((slc l_a0 0 k_5).bind fun m16 => (if m16.length < 4294967296 then ((slc l_a0 k_5 (l_a0.length : Int)).bind fun m21 => (if (m16 ++ [s_a1]).length < 4294967296 then (if m21.length < 4294967296 then some ((m16 ++ [s_a1]) ++ m21) else none) else none)) else none)))
theorem p_spec_l1PutText_pv {F C A : Prop} (hF : F) (hC : C) (h : F → C → A := by intro hF hC; first | exact cl_by hF | (refine st_by hF ?_; (repeat' (first | exact trivial | apply And.intro)); all_goals (clear hF; first | rfl | (simp only [hC, List.length_append, List.length_cons, List.length_nil, List.append_nil, List.nil_append, List.cons_append, List.length_set, List.append_assoc, Nat.zero_add, List.length_replicate, esStr_app, esStr_cons, esStr_nil, eStr_eq]; done) | (simp [hC, List.length_append, List.length_cons, List.length_nil, List.append_nil, List.nil_append, List.cons_append, List.length_set, List.append_assoc, Nat.zero_add, List.length_replicate, esStr_app, esStr_cons, esStr_nil, eStr_eq]; done) | omega))) : A := h hF hC
theorem p_spec_l1PutText_sa {F C A : Prop} (hF : F) (hC : C) (h : F → C → A := by intro hF hC; first | exact ca_by hF | (refine sa_by hF ?_; (repeat' (first | exact trivial | apply And.intro)); all_goals (clear hF; first | rfl | (simp only [hC, List.length_append, List.length_cons, List.length_nil, List.append_nil, List.nil_append, List.cons_append, List.length_set, List.append_assoc, Nat.zero_add, List.length_replicate, esStr_app, esStr_cons, esStr_nil, eStr_eq]; done) | (simp [hC, List.length_append, List.length_cons, List.length_nil, List.append_nil, List.nil_append, List.cons_append, List.length_set, List.append_assoc, Nat.zero_add, List.length_replicate, esStr_app, esStr_cons, esStr_nil, eStr_eq]; done) | omega))) : A := h hF hC
theorem p_spec_l1PutText_rt {F C A : Prop} (hF : F) (hC : C) (h : F → C → A := by intro hF hC; first | (refine sr_by hF ?_; (repeat' (first | exact trivial | apply And.intro)); all_goals (clear hF; first | rfl | (simp only [hC, List.length_append, List.length_cons, List.length_nil, List.append_nil, List.nil_append, List.cons_append, List.length_set, List.append_assoc, Nat.zero_add, List.length_replicate, esStr_app, esStr_cons, esStr_nil, eStr_eq]; done) | (simp [hC, List.length_append, List.length_cons, List.length_nil, List.append_nil, List.nil_append, List.cons_append, List.length_set, List.append_assoc, Nat.zero_add, List.length_replicate, esStr_app, esStr_cons, esStr_nil, eStr_eq]; done) | omega)) | (first | rfl | (simp only [hC, List.length_append, List.length_cons, List.length_nil, List.append_nil, List.nil_append, List.cons_append, List.length_set, List.append_assoc, Nat.zero_add, List.length_replicate, esStr_app, esStr_cons, esStr_nil, eStr_eq]; done) | (simp [hC, List.length_append, List.length_cons, List.length_nil, List.append_nil, List.nil_append, List.cons_append, List.length_set, List.append_assoc, Nat.zero_add, List.length_replicate, esStr_app, esStr_cons, esStr_nil, eStr_eq]; done) | omega)) : A := h hF hC
def p_spec_l1PutText_tf := PLift.up (ai @eStr_eq (ai @esStr_len (ai @esStr_nil (ai @esStr_leaf (ai @esStr_fit (ai @esStr_share (ai @esStr_pure (ai @str_beq (ai @Ty.sl47 (ai @Ty.slz47 (ai @Ty.nz9 (ai @Ty.ldA9 (ai @Ty.ldS9 (ai @Ty.sz9 (ai @Ty.szn9 (ai @Ty.nze47 (ai @Ty.zok47 (ai @Ty.by47 (ai @Ty.zs47 @trivial)))))))))))))))))))
def p_spec_l1PutText (N : Nat) (l_a0 : List ByteArray) (s_a1 : ByteArray) : Option (List ByteArray) := ((p_spec_l1PutText_l0 l_a0 s_a1 N 0).bind fun q_0 => match q_0 with | k_5 => (if k_5 < (l_a0.length : Int) then ((idx l_a0 k_5).bind fun x27 => p_spec_l1PutText_j0 l_a0 s_a1 k_5 (decide (x27 = s_a1))) else p_spec_l1PutText_j0 l_a0 s_a1 k_5 false))
theorem p_spec_l1PutText_does (N : Nat) (l_a0 : List ByteArray) (s_a1 : ByteArray) (r : List ByteArray) (h : p_spec_l1PutText N l_a0 s_a1 = some r) : DoesX Try.prog 37 [.sl 1000 [] 0 l_a0.length, S s_a1] [.row true 1 l_a0.length (esStr l_a0)] (.row true 1 r.length (esStr r)) [.junk] := by
  rw [p_spec_l1PutText] at h
  refine DoesX.walk (nt := 48) Try.func37 rfl rfl (by simp) (by decide) rfl (fun G0 X w0 pv => ?_)
  obtain ⟨q_0, eq_0, h⟩ := Option.bind_eq_some_iff.1 h
  have ff := p_spec_l1PutText_tf.down
  try refine st_by ff ?_
  repeat' (first | exact trivial | refine And.intro sd ?_)
  obtain ⟨I_0, hI_0⟩ : ∃ I_ : (Nat × Int) → ASt → Prop, I_ = (fun (a : Nat × Int) σ => match a with | (n_0, k_5) => (p_spec_l1PutText_l0 l_a0 s_a1 n_0 k_5 = some q_0) ∧ σ.t 0 = .sl 1000 [] 0 l_a0.length ∧ σ.t 1 = S s_a1 ∧ σ.t 5 = I k_5 ∧ σ.m 1000 = some (.row true 1 l_a0.length (esStr l_a0))) := ⟨_, rfl⟩
  obtain ⟨M_0, hM_0⟩ : ∃ M_ : (Nat × Int) → Nat, M_ = (fun (a : Nat × Int) => match a with | (n_0, k_5) => n_0) := ⟨_, rfl⟩
  obtain ⟨J_0, hJ_0⟩ : ∃ J_ : ASt → Prop, J_ = (fun σ => ∃ k_5 : Int, (some k_5 = some q_0) ∧ σ.t 0 = .sl 1000 [] 0 l_a0.length ∧ σ.t 1 = S s_a1 ∧ σ.t 5 = I k_5 ∧ σ.m 1000 = some (.row true 1 l_a0.length (esStr l_a0))) := ⟨_, rfl⟩
  refine aw_loopC (id := 0) I_0 M_0 J_0 (N, 0) ?_ ?_ ?_
  · rw [hI_0]
    refine ⟨eq_0, ?_⟩
    exact p_spec_l1PutText_pv ff trivial
  · try clear ff
    rintro ⟨n_0, k_5⟩ σ hg_0
    rw [hI_0] at hg_0
    obtain ⟨h_0, g0_0, g1_0, g2_0, g3_0⟩ := hg_0
    cases n_0 with
    | zero => rw [p_spec_l1PutText_l0] at h_0; cases h_0
    | succ n_0 =>
      rw [p_spec_l1PutText_l0] at h_0
      by_cases c10 : k_5 < (l_a0.length : Int)
      case neg =>
       rw [if_neg c10] at h_0
       have dc10 := decide_eq_false c10
       have ff := ai @g0_0 (ai @g1_0 (ai @g2_0 (ai @g3_0 (ai @dc10 p_spec_l1PutText_tf.down))))
       try refine st_by ff ?_
       repeat' (first | exact trivial | refine And.intro sd ?_)
       refine JW.intro ?_
       rw [hJ_0]
       refine ⟨k_5, h_0, ?_⟩
       exact p_spec_l1PutText_pv ff trivial
      rw [if_pos c10] at h_0
      have dc10 := decide_eq_true c10
      obtain ⟨x11, ex11, h_0⟩ := Option.bind_eq_some_iff.1 h_0
      try dsimp only at h_0
      have f12a := idx_lo ex11
      have f12b := idx_hi ex11
      have f12c : (esStr l_a0).drop (k_5.toNat * 1) = eStr x11 ++ esStr (l_a0.drop (k_5.toNat + 1)) := drop_enc (fun _ => rfl) (idx_get ex11)
      have f12d := f12c
      rw [Nat.mul_one] at f12d
      have f12g0 : (esStr l_a0).getD (k_5.toNat * 1) .junk = (eStr x11).getD 0 .junk := getD_enc0 (enc := eStr) (sz := 1) (fun _ => rfl) (idx_get ex11) (by decide)
      rw [Nat.mul_one] at f12g0
      by_cases c13 : (Op.bytesLess x11.toList s_a1.toList) = true
      case neg =>
       rw [if_neg c13] at h_0
       have dc13 := eq_false_of_ne_true c13
       have ff := ai @g0_0 (ai @g1_0 (ai @g2_0 (ai @g3_0 (ai @dc10 (ai @f12c (ai @f12d (ai @f12g0 (ai @dc13 p_spec_l1PutText_tf.down))))))))
       try refine st_by ff ?_
       repeat' (first | exact trivial | refine And.intro sd ?_)
       refine JW.intro ?_
       rw [hJ_0]
       refine ⟨k_5, h_0, ?_⟩
       exact p_spec_l1PutText_pv ff trivial
      rw [if_pos c13] at h_0
      have dc13 := c13
      have ff := ai @g0_0 (ai @g1_0 (ai @g2_0 (ai @g3_0 (ai @dc10 (ai @f12c (ai @f12d (ai @f12g0 (ai @dc13 p_spec_l1PutText_tf.down))))))))
      try refine st_by ff ?_
      repeat' (first | exact trivial | refine And.intro sd ?_)
      refine Back.intro (n_0, (IntKind.i64.wrap (k_5 + 1))) ?_ ?_
      · rw [hM_0]; exact Nat.lt_succ_self _
      rw [hI_0]
      refine ⟨h_0, ?_⟩
      exact p_spec_l1PutText_pv ff trivial
  · try clear ff
    rintro σ hg_0
    rw [hJ_0] at hg_0
    obtain ⟨k_5, hj_0, g0_0a, g1_0a, g2_0a, g3_0a⟩ := hg_0
    have hjj_0 := Option.some.inj hj_0
    subst hjj_0
    try dsimp only at h
    have ff := ai @g0_0a (ai @g1_0a (ai @g2_0a (ai @g3_0a p_spec_l1PutText_tf.down)))
    try refine st_by ff ?_
    repeat' (first | exact trivial | refine And.intro sd ?_)
    try clear ff
    generalize hk_0 : thenK _ _ = kk_0
    have key_0 : ∀ σ, (∃ b_14 : Bool, (p_spec_l1PutText_j0 l_a0 s_a1 k_5 b_14 = some r) ∧ σ.t 0 = .sl 1000 [] 0 l_a0.length ∧ σ.t 1 = S s_a1 ∧ σ.t 5 = I k_5 ∧ σ.t 32 = B b_14 ∧ σ.m 1000 = some (.row true 1 l_a0.length (esStr l_a0))) → kk_0 .nm σ := by
      rintro σ ⟨b_14, h, g0_j0, g1_j0, g2_j0, g3_j0, g4_j0⟩
      rw [← hk_0]
      rw [p_spec_l1PutText_j0] at h
      by_cases c15 : b_14 = true
      · rw [if_pos c15] at h
        have dc15 := c15
        have ff := ai @g0_j0 (ai @g1_j0 (ai @g2_j0 (ai @g3_j0 (ai @g4_j0 (ai @dc15 p_spec_l1PutText_tf.down)))))
        try refine st_by ff ?_
        repeat' (first | exact trivial | refine And.intro sd ?_)
        cases h
        exact retX_p1 rfl (p_spec_l1PutText_rt ff trivial)
      rw [if_neg c15] at h
      have dc15 := eq_false_of_ne_true c15
      obtain ⟨m16, em16, h⟩ := Option.bind_eq_some_iff.1 h
      try dsimp only at h
      obtain ⟨f17a, f17b⟩ := slc_ok em16
      have f17d : k_5.toNat = m16.length := slc_lenL em16
      have f17c : (esStr l_a0).take (m16.length * 1) = esStr m16 := slc_encML (enc := eStr) (fun _ => rfl) em16
      rw [Nat.mul_one] at f17c
      have f17e : (if m16.length = l_a0.length then esStr l_a0 else esStr m16) = esStr m16 := by have t_ := slc_iteL (enc := eStr) em16; rw [f17d] at t_; exact t_
      by_cases c18 : m16.length < 4294967296
      case neg => rw [if_neg c18] at h; cases h
      rw [if_pos c18] at h
      have a20a : esStr m16 ++ [S s_a1] = esStr (m16 ++ [s_a1]) := by simp [esStr_app, esStr_cons, esStr_nil, eStr_eq, esStr_nil]
      have a20b : m16.length + 1 = (m16 ++ [s_a1]).length := by simp
      obtain ⟨m21, em21, h⟩ := Option.bind_eq_some_iff.1 h
      try dsimp only at h
      obtain ⟨f22a, f22b⟩ := slc_ok em21
      have f22c : ((esStr l_a0).drop (k_5.toNat * 1)).take ((l_a0.length - k_5.toNat) * 1) = esStr m21 := slc_encH (enc := eStr) (fun _ => rfl) em21
      have f22d : m21.length = l_a0.length - k_5.toNat := (slc_lenH em21).symm
      have f22e : (if (k_5.toNat = 0 ∧ l_a0.length - k_5.toNat = l_a0.length) then esStr l_a0 else esStr m21) = esStr m21 := slc_ite (enc := eStr) (sz := 1) (fun _ => rfl) em21
      rw [f17d] at f22c
      rw [f17d] at f22d
      rw [f17d] at f22e
      rw [Nat.mul_one, Nat.mul_one] at f22c
      by_cases c23 : (m16 ++ [s_a1]).length < 4294967296
      case neg => rw [if_neg c23] at h; cases h
      rw [if_pos c23] at h
      by_cases c24 : m21.length < 4294967296
      case neg => rw [if_neg c24] at h; cases h
      rw [if_pos c24] at h
      have a25a : esStr (m16 ++ [s_a1]) ++ esStr m21 = esStr ((m16 ++ [s_a1]) ++ m21) := (esStr_app _ _).symm
      have a25b : (m16 ++ [s_a1]).length + (l_a0.length - m16.length) = ((m16 ++ [s_a1]) ++ m21).length := by have h2_ := slc_lenH em21; simp only [List.length_append]; omega
      have ff := ai @g0_j0 (ai @g1_j0 (ai @g2_j0 (ai @g3_j0 (ai @g4_j0 (ai @dc15 (ai @f17c (ai @f17d (ai @f17e (ai @a20a (ai @a20b (ai @f22c (ai @f22e (ai @a25a (ai @a25b p_spec_l1PutText_tf.down))))))))))))))
      try refine st_by ff ?_
      repeat' (first | exact trivial | refine And.intro sd ?_)
      cases h
      exact RetX.dropR (retX_p1 rfl (p_spec_l1PutText_rt ff @f22d))
    have hrt_0 := fun σ : ASt => congrFun (congrFun hk_0.symm AX.rt) σ
    have hex_0 := fun (i : Nat) (σ : ASt) => congrFun (congrFun hk_0.symm (AX.ex i)) σ
    by_cases c26 : k_5 < (l_a0.length : Int)
    case neg =>
     rw [if_neg c26] at h
     have dc26 := decide_eq_false c26
     have ff := ai @g0_0a (ai @g1_0a (ai @g2_0a (ai @g3_0a (ai @hrt_0 (ai @hex_0 (ai @dc26 p_spec_l1PutText_tf.down))))))
     try refine st_by ff ?_
     repeat' (first | exact trivial | refine And.intro sd ?_)
     refine key_0 _ ?_
     refine ⟨false, h, ?_⟩
     exact p_spec_l1PutText_pv ff trivial
    rw [if_pos c26] at h
    have dc26 := decide_eq_true c26
    obtain ⟨x27, ex27, h⟩ := Option.bind_eq_some_iff.1 h
    try dsimp only at h
    have f28a := idx_lo ex27
    have f28b := idx_hi ex27
    have f28c : (esStr l_a0).drop (k_5.toNat * 1) = eStr x27 ++ esStr (l_a0.drop (k_5.toNat + 1)) := drop_enc (fun _ => rfl) (idx_get ex27)
    have f28d := f28c
    rw [Nat.mul_one] at f28d
    have f28g0 : (esStr l_a0).getD (k_5.toNat * 1) .junk = (eStr x27).getD 0 .junk := getD_enc0 (enc := eStr) (sz := 1) (fun _ => rfl) (idx_get ex27) (by decide)
    rw [Nat.mul_one] at f28g0
    have ff := ai @g0_0a (ai @g1_0a (ai @g2_0a (ai @g3_0a (ai @hrt_0 (ai @hex_0 (ai @dc26 (ai @f28c (ai @f28d (ai @f28g0 p_spec_l1PutText_tf.down)))))))))
    try refine st_by ff ?_
    repeat' (first | exact trivial | refine And.intro sd ?_)
    refine key_0 _ ?_
    refine ⟨decide (x27 = s_a1), h, ?_⟩
    exact p_spec_l1PutText_pv ff trivial
/-! spec.l27Own -/
def p_spec_l27Own_l0 : List GSpan → Nat → (List Int) → Option ((List Int))
  | [], i_0, out_14 => some out_14
  | x_0 :: r_0, i_0, out_14 => ((idx out_14 (i_0 : Int)).bind fun x25 => (if x_0.Up ≥ 0 then ((idx (out_14.set i_0 (IntKind.i64.wrap (x25 + (IntKind.i64.wrap (x_0.To - x_0.From))))) x_0.Up).bind fun x29 => p_spec_l27Own_l0 r_0 (i_0 + 1) ((out_14.set i_0 (IntKind.i64.wrap (x25 + (IntKind.i64.wrap (x_0.To - x_0.From))))).set x_0.Up.toNat (IntKind.i64.wrap (x29 - (IntKind.i64.wrap (x_0.To - x_0.From)))))) else p_spec_l27Own_l0 r_0 (i_0 + 1) (out_14.set i_0 (IntKind.i64.wrap (x25 + (IntKind.i64.wrap (x_0.To - x_0.From)))))))
theorem p_spec_l27Own_pv {F C A : Prop} (hF : F) (hC : C) (h : F → C → A := by intro hF hC; first | exact cl_by hF | (refine st_by hF ?_; (repeat' (first | exact trivial | apply And.intro)); all_goals (clear hF; first | rfl | (simp only [hC, List.length_append, List.length_cons, List.length_nil, List.append_nil, List.nil_append, List.cons_append, List.length_set, List.append_assoc, Nat.zero_add, List.length_replicate, esInt_app, esInt_cons, esInt_nil, eInt_eq, esSpan_app, esSpan_cons, esSpan_nil, eSpan_eq]; done) | (simp [hC, List.length_append, List.length_cons, List.length_nil, List.append_nil, List.nil_append, List.cons_append, List.length_set, List.append_assoc, Nat.zero_add, List.length_replicate, esInt_app, esInt_cons, esInt_nil, eInt_eq, esSpan_app, esSpan_cons, esSpan_nil, eSpan_eq]; done) | omega))) : A := h hF hC
theorem p_spec_l27Own_sa {F C A : Prop} (hF : F) (hC : C) (h : F → C → A := by intro hF hC; first | exact ca_by hF | (refine sa_by hF ?_; (repeat' (first | exact trivial | apply And.intro)); all_goals (clear hF; first | rfl | (simp only [hC, List.length_append, List.length_cons, List.length_nil, List.append_nil, List.nil_append, List.cons_append, List.length_set, List.append_assoc, Nat.zero_add, List.length_replicate, esInt_app, esInt_cons, esInt_nil, eInt_eq, esSpan_app, esSpan_cons, esSpan_nil, eSpan_eq]; done) | (simp [hC, List.length_append, List.length_cons, List.length_nil, List.append_nil, List.nil_append, List.cons_append, List.length_set, List.append_assoc, Nat.zero_add, List.length_replicate, esInt_app, esInt_cons, esInt_nil, eInt_eq, esSpan_app, esSpan_cons, esSpan_nil, eSpan_eq]; done) | omega))) : A := h hF hC
theorem p_spec_l27Own_rt {F C A : Prop} (hF : F) (hC : C) (h : F → C → A := by intro hF hC; first | (refine sr_by hF ?_; (repeat' (first | exact trivial | apply And.intro)); all_goals (clear hF; first | rfl | (simp only [hC, List.length_append, List.length_cons, List.length_nil, List.append_nil, List.nil_append, List.cons_append, List.length_set, List.append_assoc, Nat.zero_add, List.length_replicate, esInt_app, esInt_cons, esInt_nil, eInt_eq, esSpan_app, esSpan_cons, esSpan_nil, eSpan_eq]; done) | (simp [hC, List.length_append, List.length_cons, List.length_nil, List.append_nil, List.nil_append, List.cons_append, List.length_set, List.append_assoc, Nat.zero_add, List.length_replicate, esInt_app, esInt_cons, esInt_nil, eInt_eq, esSpan_app, esSpan_cons, esSpan_nil, eSpan_eq]; done) | omega)) | (first | rfl | (simp only [hC, List.length_append, List.length_cons, List.length_nil, List.append_nil, List.nil_append, List.cons_append, List.length_set, List.append_assoc, Nat.zero_add, List.length_replicate, esInt_app, esInt_cons, esInt_nil, eInt_eq, esSpan_app, esSpan_cons, esSpan_nil, eSpan_eq]; done) | (simp [hC, List.length_append, List.length_cons, List.length_nil, List.append_nil, List.nil_append, List.cons_append, List.length_set, List.append_assoc, Nat.zero_add, List.length_replicate, esInt_app, esInt_cons, esInt_nil, eInt_eq, esSpan_app, esSpan_cons, esSpan_nil, eSpan_eq]; done) | omega)) : A := h hF hC
def p_spec_l27Own_tf := PLift.up (ai @eInt_eq (ai @esInt_len (ai @esInt_nil (ai @esInt_leaf (ai @esInt_fit (ai @eSpan_eq (ai @esSpan_len (ai @esSpan_nil (ai @esSpan_leaf (ai @esSpan_fit (ai @esInt_share (ai @esInt_pure (ai @esSpan_share (ai @esSpan_pure (ai @str_beq (ai @Ty.sl33 (ai @Ty.slz33 (ai @Ty.sl22 (ai @Ty.slz22 (ai @Ty.nz67 (ai @Ty.ldA67 (ai @Ty.sz67 (ai @Ty.szn67 (ai @Ty.nz3 (ai @Ty.ldA3 (ai @Ty.ldS3 (ai @Ty.sz3 (ai @Ty.szn3 (ai @Ty.fo67_2 (ai @Ty.fk67_2 (ai @Ty.fs67_2 (ai @Ty.fn67_2 (ai @Ty.fo67_1 (ai @Ty.fk67_1 (ai @Ty.fs67_1 (ai @Ty.fn67_1 (ai @Ty.fo67_3 (ai @Ty.fk67_3 (ai @Ty.fs67_3 (ai @Ty.fn67_3 (ai @Ty.nze22 (ai @Ty.zok22 (ai @Ty.by22 (ai @Ty.zs22 (ai @Ty.zv67 @trivial)))))))))))))))))))))))))))))))))))))))))))))
def p_spec_l27Own (l_a0 : List GSpan) : Option (List Int) := ((mkl (l_a0.length : Int) (0 : Int)).bind fun m1 => ((p_spec_l27Own_l0 l_a0 0 m1).bind fun q_0 => match q_0 with | out_14 => some out_14))
theorem p_spec_l27Own_does (l_a0 : List GSpan) (r : List Int) (h : p_spec_l27Own l_a0 = some r) : Does Try.prog 38 [.row false 4 l_a0.length (esSpan l_a0)] (.row true 1 r.length (esInt r)) := by
  rw [p_spec_l27Own] at h
  refine Does.bnd (fun hb => ?_)
  have hb2 : l_a0.length ≤ 9223372036854775807 := by simpa [AV.fitNs, AV.fitN] using hb
  have hl0 := hb2
  refine Does.walk (nt := 44) Try.func38 rfl rfl (by simp) (by decide) rfl (fun G0 X w0 pv => ?_)
  obtain ⟨m1, em1, h⟩ := Option.bind_eq_some_iff.1 h
  try dsimp only at h
  obtain ⟨f2b, f2c, f2d⟩ := mkl_ok em1
  have f2a : (zCells [.int .i64 0] l_a0.length).map AV.lit = esInt m1 := mkl_encN (enc := eInt) (by decide) rfl em1
  rw [Int.toNat_natCast] at f2c
  have hL_0 : l_a0.length ≤ 9223372036854775807 := by first | assumption | omega
  obtain ⟨q_0, eq_0, h⟩ := Option.bind_eq_some_iff.1 h
  have ff := ai @f2a p_spec_l27Own_tf.down
  try refine st_by ff ?_
  repeat' (first | exact trivial | refine And.intro sd ?_)
  obtain ⟨I_0, hI_0⟩ : ∃ I_ : (Nat × (List Int)) → ASt → Prop, I_ = (fun (a : Nat × (List Int)) σ => match a with | (i_0, out_14) => (i_0 ≤ l_a0.length ∧ p_spec_l27Own_l0 (l_a0.drop i_0) i_0 out_14 = some q_0) ∧ σ.t 3 = .sl 3 [] 0 out_14.length ∧ σ.t 9 = .row false 4 l_a0.length (esSpan l_a0) ∧ σ.t 10 = I (l_a0.length : Int) ∧ σ.t 11 = I (i_0 : Int) ∧ σ.m 3 = some (.row true 1 out_14.length (esInt out_14))) := ⟨_, rfl⟩
  obtain ⟨M_0, hM_0⟩ : ∃ M_ : (Nat × (List Int)) → Nat, M_ = (fun (a : Nat × (List Int)) => match a with | (i_0, out_14) => l_a0.length - i_0) := ⟨_, rfl⟩
  obtain ⟨J_0, hJ_0⟩ : ∃ J_ : ASt → Prop, J_ = (fun σ => ∃ out_14 : List Int, (some out_14 = some q_0) ∧ σ.t 3 = .sl 3 [] 0 out_14.length ∧ σ.m 3 = some (.row true 1 out_14.length (esInt out_14))) := ⟨_, rfl⟩
  refine aw_loopC (id := 0) I_0 M_0 J_0 (0, m1) ?_ ?_ ?_
  · rw [hI_0]
    refine ⟨⟨Nat.zero_le _, eq_0⟩, ?_⟩
    exact p_spec_l27Own_pv ff @f2c
  · try clear ff
    rintro ⟨i_0, out_14⟩ σ hg_0
    rw [hI_0] at hg_0
    obtain ⟨⟨hi_0, h_0⟩, g0_0, g1_0, g2_0, g3_0, g4_0⟩ := hg_0
    cases hr_0 : l_a0.drop i_0 with
    | nil =>
      rw [hr_0] at h_0
      rw [p_spec_l27Own_l0] at h_0
      have hn_0 := drop_nil hr_0
      have dr_0 : decide ((i_0 : Int) < (l_a0.length : Int)) = false := decide_eq_false (by omega)
      have ff := ai @f2a (ai @dr_0 (ai @g0_0 (ai @g1_0 (ai @g2_0 (ai @g3_0 (ai @g4_0 p_spec_l27Own_tf.down))))))
      try refine st_by ff ?_
      repeat' (first | exact trivial | refine And.intro sd ?_)
      refine JW.intro ?_
      rw [hJ_0]
      refine ⟨out_14, h_0, ?_⟩
      exact p_spec_l27Own_pv ff @f2c
    | cons x_0 r_0 =>
      rw [hr_0] at h_0
      rw [p_spec_l27Own_l0] at h_0
      obtain ⟨ht_0, hg_0, hd_0⟩ := drop_cons hr_0
      have dr_0 : decide ((i_0 : Int) < (l_a0.length : Int)) = true := decide_eq_true (by omega)
      have w_0 : IntKind.i64.wrap ((i_0 : Int) + 1) = ((i_0 + 1 : Nat) : Int) := wI _ (by omega) (by omega)
      have kk0c : (esSpan l_a0).drop (i_0 * 4) = eSpan x_0 ++ esSpan (l_a0.drop (i_0 + 1)) := drop_enc (fun _ => rfl) (hg_0)
      obtain ⟨x25, ex25, h_0⟩ := Option.bind_eq_some_iff.1 h_0
      try dsimp only at h_0
      have f26a := idx_lo ex25
      have f26b := idx_hi ex25
      have f26c : (esInt out_14).drop (i_0 * 1) = eInt x25 ++ esInt (out_14.drop (i_0 + 1)) := drop_enc (fun _ => rfl) (idx_get ex25)
      have f26d := f26c
      rw [Nat.mul_one] at f26d
      have f26g0 : (esInt out_14).getD (i_0 * 1) .junk = (eInt x25).getD 0 .junk := getD_enc0 (enc := eInt) (sz := 1) (fun _ => rfl) (idx_get ex25) (by decide)
      rw [Nat.mul_one] at f26g0
      have w27l : i_0 < out_14.length := (List.getElem?_eq_some_iff.1 (idx_get ex25)).1
      have w27a : (esInt out_14).set (i_0 * 1) (I (IntKind.i64.wrap (x25 + (IntKind.i64.wrap (x_0.To - x_0.From))))) = esInt (out_14.set i_0 (IntKind.i64.wrap (x25 + (IntKind.i64.wrap (x_0.To - x_0.From))))) := set_enc0 (enc := eInt) (sz := 1) (fun _ => rfl) (idx_get ex25) (by decide) rfl
      rw [Nat.mul_one] at w27a
      have w27b : (out_14.set i_0 (IntKind.i64.wrap (x25 + (IntKind.i64.wrap (x_0.To - x_0.From))))).length = out_14.length := List.length_set
      by_cases c28 : x_0.Up ≥ 0
      case neg =>
       rw [if_neg c28] at h_0
       have dc28 := decide_eq_false c28
       have ff := ai @f2a (ai @dr_0 (ai @w_0 (ai @g0_0 (ai @g1_0 (ai @g2_0 (ai @g3_0 (ai @g4_0 (ai @kk0c (ai @f26c (ai @f26d (ai @f26g0 (ai @w27a (ai @dc28 p_spec_l27Own_tf.down)))))))))))))
       try refine st_by ff ?_
       repeat' (first | exact trivial | refine And.intro sd ?_ | (refine aw_drawn (id := 5) ?_ [[], [], [0, 1], [0, 1, 2], [], [4], [], [6], [4, 5, 6, 7], [0, 1, 2, 3, 4, 5, 6, 7, 8], [0, 1, 2, 3, 4, 5, 6, 7, 8, 9], [0, 1, 2, 3, 4, 5, 6, 7, 8, 9, 10]] 9 ?_ ?_; (· kernel_rfl); (· kernel_rfl); refine st_by ff ?_))
       refine Back.intro (i_0 + 1, (out_14.set i_0 (IntKind.i64.wrap (x25 + (IntKind.i64.wrap (x_0.To - x_0.From)))))) ?_ ?_
       · clear ff; rw [hM_0]; show l_a0.length - (i_0 + 1) < l_a0.length - i_0; omega
       rw [hI_0]
       refine ⟨⟨by clear ff; show i_0 + 1 ≤ l_a0.length; omega, by show p_spec_l27Own_l0 (l_a0.drop (i_0 + 1)) (i_0 + 1) (out_14.set i_0 (IntKind.i64.wrap (x25 + (IntKind.i64.wrap (x_0.To - x_0.From))))) = some q_0; rw [hd_0]; exact h_0⟩, ?_⟩
       exact p_spec_l27Own_pv ff @f2c
      rw [if_pos c28] at h_0
      have dc28 := decide_eq_true c28
      obtain ⟨x29, ex29, h_0⟩ := Option.bind_eq_some_iff.1 h_0
      try dsimp only at h_0
      have f30a := idx_lo ex29
      have f30b := idx_hi ex29
      have f30c : (esInt (out_14.set i_0 (IntKind.i64.wrap (x25 + (IntKind.i64.wrap (x_0.To - x_0.From)))))).drop (x_0.Up.toNat * 1) = eInt x29 ++ esInt ((out_14.set i_0 (IntKind.i64.wrap (x25 + (IntKind.i64.wrap (x_0.To - x_0.From))))).drop (x_0.Up.toNat + 1)) := drop_enc (fun _ => rfl) (idx_get ex29)
      have f30d := f30c
      rw [Nat.mul_one] at f30d
      have f30g0 : (esInt (out_14.set i_0 (IntKind.i64.wrap (x25 + (IntKind.i64.wrap (x_0.To - x_0.From)))))).getD (x_0.Up.toNat * 1) .junk = (eInt x29).getD 0 .junk := getD_enc0 (enc := eInt) (sz := 1) (fun _ => rfl) (idx_get ex29) (by decide)
      rw [Nat.mul_one] at f30g0
      have w31l : x_0.Up.toNat < (out_14.set i_0 (IntKind.i64.wrap (x25 + (IntKind.i64.wrap (x_0.To - x_0.From))))).length := (List.getElem?_eq_some_iff.1 (idx_get ex29)).1
      have w31a : (esInt (out_14.set i_0 (IntKind.i64.wrap (x25 + (IntKind.i64.wrap (x_0.To - x_0.From)))))).set (x_0.Up.toNat * 1) (I (IntKind.i64.wrap (x29 - (IntKind.i64.wrap (x_0.To - x_0.From))))) = esInt ((out_14.set i_0 (IntKind.i64.wrap (x25 + (IntKind.i64.wrap (x_0.To - x_0.From))))).set x_0.Up.toNat (IntKind.i64.wrap (x29 - (IntKind.i64.wrap (x_0.To - x_0.From))))) := set_enc0 (enc := eInt) (sz := 1) (fun _ => rfl) (idx_get ex29) (by decide) rfl
      rw [Nat.mul_one] at w31a
      have w31b : ((out_14.set i_0 (IntKind.i64.wrap (x25 + (IntKind.i64.wrap (x_0.To - x_0.From))))).set x_0.Up.toNat (IntKind.i64.wrap (x29 - (IntKind.i64.wrap (x_0.To - x_0.From))))).length = (out_14.set i_0 (IntKind.i64.wrap (x25 + (IntKind.i64.wrap (x_0.To - x_0.From))))).length := List.length_set
      have ff := ai @f2a (ai @dr_0 (ai @w_0 (ai @g0_0 (ai @g1_0 (ai @g2_0 (ai @g3_0 (ai @g4_0 (ai @kk0c (ai @f26c (ai @f26d (ai @f26g0 (ai @w27a (ai @dc28 (ai @f30c (ai @f30d (ai @f30g0 (ai @w31a p_spec_l27Own_tf.down)))))))))))))))))
      try refine st_by ff ?_
      repeat' (first | exact trivial | refine And.intro sd ?_ | (refine aw_drawn (id := 5) ?_ [[], [], [0, 1], [0, 1, 2], [], [4], [], [6], [4, 5, 6, 7], [0, 1, 2, 3, 4, 5, 6, 7, 8], [0, 1, 2, 3, 4, 5, 6, 7, 8, 9], [0, 1, 2, 3, 4, 5, 6, 7, 8, 9, 10]] 9 ?_ ?_; (· kernel_rfl); (· kernel_rfl); refine st_by ff ?_) | (refine aw_drawn (id := 7) ?_ [[], [], [1], [0, 1, 2], [0, 1, 2, 3], [], [5], [], [7], [5, 6, 7, 8], [0, 1, 2, 3, 4, 5, 6, 7, 8, 9], [0, 1, 2, 3, 4, 5, 6, 7, 8, 9, 10], [0, 1, 2, 3, 4, 5, 6, 7, 8, 9, 10, 11]] 10 ?_ ?_; (· kernel_rfl); (· kernel_rfl); refine st_by ff ?_))
      refine Back.intro (i_0 + 1, ((out_14.set i_0 (IntKind.i64.wrap (x25 + (IntKind.i64.wrap (x_0.To - x_0.From))))).set x_0.Up.toNat (IntKind.i64.wrap (x29 - (IntKind.i64.wrap (x_0.To - x_0.From)))))) ?_ ?_
      · clear ff; rw [hM_0]; show l_a0.length - (i_0 + 1) < l_a0.length - i_0; omega
      rw [hI_0]
      refine ⟨⟨by clear ff; show i_0 + 1 ≤ l_a0.length; omega, by show p_spec_l27Own_l0 (l_a0.drop (i_0 + 1)) (i_0 + 1) ((out_14.set i_0 (IntKind.i64.wrap (x25 + (IntKind.i64.wrap (x_0.To - x_0.From))))).set x_0.Up.toNat (IntKind.i64.wrap (x29 - (IntKind.i64.wrap (x_0.To - x_0.From))))) = some q_0; rw [hd_0]; exact h_0⟩, ?_⟩
      exact p_spec_l27Own_pv ff @f2c
  · try clear ff
    rintro σ hg_0
    rw [hJ_0] at hg_0
    obtain ⟨out_14, hj_0, g0_0a, g1_0a⟩ := hg_0
    have hjj_0 := Option.some.inj hj_0
    subst hjj_0
    try dsimp only at h
    have ff := ai @f2a (ai @g0_0a (ai @g1_0a p_spec_l27Own_tf.down))
    try refine st_by ff ?_
    repeat' (first | exact trivial | refine And.intro sd ?_)
    cases h
    exact ret_q1 rfl (p_spec_l27Own_rt ff @f2c)
/-! spec.TotalsOf -/
def p_spec_TotalsOf_l0 (N : Nat)  : List GSpan → Nat → (List ByteArray) → Option ((List ByteArray))
  | [], i_0, names_8 => some names_8
  | x_0 :: r_0, i_0, names_8 => ((p_spec_l1PutText N names_8 x_0.Name).bind fun v13 => p_spec_TotalsOf_l0 N r_0 (i_0 + 1) v13)
def p_spec_TotalsOf_l3 (l_a0 : List GSpan) (x_1 : ByteArray) : Nat → Bool → Int → Option (Bool × Int)
  | 0, _, _ => none
  | n_3 + 1, top_229, k_230 => (if k_230 ≥ 0 then (if top_229 = true then ((idx l_a0 k_230).bind fun x239 => p_spec_TotalsOf_l3 l_a0 x_1 n_3 (!(decide (x239.Name = x_1))) x239.Up) else ((idx l_a0 k_230).bind fun x241 => p_spec_TotalsOf_l3 l_a0 x_1 n_3 false x241.Up)) else some (top_229, k_230))
def p_spec_TotalsOf_l2 (N : Nat) (l_a0 : List GSpan) (v14 : List Int) (x_1 : ByteArray) : List GSpan → Nat → Int → Int → Int → Option (Int × Int × Int)
  | [], i_2, t_196, t_197, t_198 => some (t_196, t_197, t_198)
  | x_2 :: r_2, i_2, t_196, t_197, t_198 => (if x_2.Name = x_1 then ((idx v14 (i_2 : Int)).bind fun x224 => ((p_spec_TotalsOf_l3 l_a0 x_1 N true x_2.Up).bind fun q_3 => match q_3 with | (top_229, k_230) => (if top_229 = true then p_spec_TotalsOf_l2 N l_a0 v14 x_1 r_2 (i_2 + 1) (IntKind.i64.wrap (t_196 + 1)) (IntKind.i64.wrap (t_197 + (IntKind.i64.wrap (x_2.To - x_2.From)))) (IntKind.i64.wrap (t_198 + x224)) else p_spec_TotalsOf_l2 N l_a0 v14 x_1 r_2 (i_2 + 1) (IntKind.i64.wrap (t_196 + 1)) t_197 (IntKind.i64.wrap (t_198 + x224))))) else p_spec_TotalsOf_l2 N l_a0 v14 x_1 r_2 (i_2 + 1) t_196 t_197 t_198)
def p_spec_TotalsOf_l1 (N : Nat) (l_a0 : List GSpan) (v14 : List Int) : List ByteArray → Nat → (List GTotal) → Option ((List GTotal))
  | [], i_1, out_92 => some out_92
  | x_1 :: r_1, i_1, out_92 => ((p_spec_TotalsOf_l2 N l_a0 v14 x_1 l_a0 0 0 0 0).bind fun q_2 => match q_2 with | (t_196, t_197, t_198) => (if out_92.length < 4294967296 then p_spec_TotalsOf_l1 N l_a0 v14 r_1 (i_1 + 1) (out_92 ++ [(⟨x_1, t_196, t_197, t_198⟩ : GTotal)]) else none))
theorem p_spec_TotalsOf_pv {F C A : Prop} (hF : F) (hC : C) (h : F → C → A := by intro hF hC; first | exact cl_by hF | (refine st_by hF ?_; (repeat' (first | exact trivial | apply And.intro)); all_goals (clear hF; first | rfl | (simp only [hC, List.length_append, List.length_cons, List.length_nil, List.append_nil, List.nil_append, List.cons_append, List.length_set, List.append_assoc, Nat.zero_add, List.length_replicate, esInt_app, esInt_cons, esInt_nil, eInt_eq, esStr_app, esStr_cons, esStr_nil, eStr_eq, esSpan_app, esSpan_cons, esSpan_nil, eSpan_eq, esTotal_app, esTotal_cons, esTotal_nil, eTotal_eq]; done) | (simp [hC, List.length_append, List.length_cons, List.length_nil, List.append_nil, List.nil_append, List.cons_append, List.length_set, List.append_assoc, Nat.zero_add, List.length_replicate, esInt_app, esInt_cons, esInt_nil, eInt_eq, esStr_app, esStr_cons, esStr_nil, eStr_eq, esSpan_app, esSpan_cons, esSpan_nil, eSpan_eq, esTotal_app, esTotal_cons, esTotal_nil, eTotal_eq]; done) | omega))) : A := h hF hC
theorem p_spec_TotalsOf_sa {F C A : Prop} (hF : F) (hC : C) (h : F → C → A := by intro hF hC; first | exact ca_by hF | (refine sa_by hF ?_; (repeat' (first | exact trivial | apply And.intro)); all_goals (clear hF; first | rfl | (simp only [hC, List.length_append, List.length_cons, List.length_nil, List.append_nil, List.nil_append, List.cons_append, List.length_set, List.append_assoc, Nat.zero_add, List.length_replicate, esInt_app, esInt_cons, esInt_nil, eInt_eq, esStr_app, esStr_cons, esStr_nil, eStr_eq, esSpan_app, esSpan_cons, esSpan_nil, eSpan_eq, esTotal_app, esTotal_cons, esTotal_nil, eTotal_eq]; done) | (simp [hC, List.length_append, List.length_cons, List.length_nil, List.append_nil, List.nil_append, List.cons_append, List.length_set, List.append_assoc, Nat.zero_add, List.length_replicate, esInt_app, esInt_cons, esInt_nil, eInt_eq, esStr_app, esStr_cons, esStr_nil, eStr_eq, esSpan_app, esSpan_cons, esSpan_nil, eSpan_eq, esTotal_app, esTotal_cons, esTotal_nil, eTotal_eq]; done) | omega))) : A := h hF hC
theorem p_spec_TotalsOf_rt {F C A : Prop} (hF : F) (hC : C) (h : F → C → A := by intro hF hC; first | (refine sr_by hF ?_; (repeat' (first | exact trivial | apply And.intro)); all_goals (clear hF; first | rfl | (simp only [hC, List.length_append, List.length_cons, List.length_nil, List.append_nil, List.nil_append, List.cons_append, List.length_set, List.append_assoc, Nat.zero_add, List.length_replicate, esInt_app, esInt_cons, esInt_nil, eInt_eq, esStr_app, esStr_cons, esStr_nil, eStr_eq, esSpan_app, esSpan_cons, esSpan_nil, eSpan_eq, esTotal_app, esTotal_cons, esTotal_nil, eTotal_eq]; done) | (simp [hC, List.length_append, List.length_cons, List.length_nil, List.append_nil, List.nil_append, List.cons_append, List.length_set, List.append_assoc, Nat.zero_add, List.length_replicate, esInt_app, esInt_cons, esInt_nil, eInt_eq, esStr_app, esStr_cons, esStr_nil, eStr_eq, esSpan_app, esSpan_cons, esSpan_nil, eSpan_eq, esTotal_app, esTotal_cons, esTotal_nil, eTotal_eq]; done) | omega)) | (first | rfl | (simp only [hC, List.length_append, List.length_cons, List.length_nil, List.append_nil, List.nil_append, List.cons_append, List.length_set, List.append_assoc, Nat.zero_add, List.length_replicate, esInt_app, esInt_cons, esInt_nil, eInt_eq, esStr_app, esStr_cons, esStr_nil, eStr_eq, esSpan_app, esSpan_cons, esSpan_nil, eSpan_eq, esTotal_app, esTotal_cons, esTotal_nil, eTotal_eq]; done) | (simp [hC, List.length_append, List.length_cons, List.length_nil, List.append_nil, List.nil_append, List.cons_append, List.length_set, List.append_assoc, Nat.zero_add, List.length_replicate, esInt_app, esInt_cons, esInt_nil, eInt_eq, esStr_app, esStr_cons, esStr_nil, eStr_eq, esSpan_app, esSpan_cons, esSpan_nil, eSpan_eq, esTotal_app, esTotal_cons, esTotal_nil, eTotal_eq]; done) | omega)) : A := h hF hC
def p_spec_TotalsOf_tf := PLift.up (ai @eInt_eq (ai @esInt_len (ai @esInt_nil (ai @esInt_leaf (ai @esInt_fit (ai @eStr_eq (ai @esStr_len (ai @esStr_nil (ai @esStr_leaf (ai @esStr_fit (ai @eSpan_eq (ai @esSpan_len (ai @esSpan_nil (ai @esSpan_leaf (ai @esSpan_fit (ai @eTotal_eq (ai @esTotal_len (ai @esTotal_nil (ai @esTotal_leaf (ai @esTotal_fit (ai @esInt_share (ai @esInt_pure (ai @esStr_share (ai @esStr_pure (ai @esSpan_share (ai @esSpan_pure (ai @esTotal_share (ai @esTotal_pure (ai @str_beq (ai @Ty.sl33 (ai @Ty.slz33 (ai @Ty.sl47 (ai @Ty.slz47 (ai @Ty.sl22 (ai @Ty.slz22 (ai @Ty.nz67 (ai @Ty.ldA67 (ai @Ty.sz67 (ai @Ty.szn67 (ai @Ty.nz9 (ai @Ty.ldA9 (ai @Ty.ldS9 (ai @Ty.sz9 (ai @Ty.szn9 (ai @Ty.nz71 (ai @Ty.ldA71 (ai @Ty.sz71 (ai @Ty.szn71 (ai @Ty.nz3 (ai @Ty.ldA3 (ai @Ty.ldS3 (ai @Ty.sz3 (ai @Ty.szn3 (ai @Ty.fo67_0 (ai @Ty.fk67_0 (ai @Ty.fs67_0 (ai @Ty.fn67_0 (ai @Ty.fo71_1 (ai @Ty.fk71_1 (ai @Ty.fs71_1 (ai @Ty.fn71_1 (ai @Ty.fo71_3 (ai @Ty.fk71_3 (ai @Ty.fs71_3 (ai @Ty.fn71_3 (ai @Ty.fo67_3 (ai @Ty.fk67_3 (ai @Ty.fs67_3 (ai @Ty.fn67_3 (ai @Ty.fo71_2 (ai @Ty.fk71_2 (ai @Ty.fs71_2 (ai @Ty.fn71_2 (ai @Ty.fo67_2 (ai @Ty.fk67_2 (ai @Ty.fs67_2 (ai @Ty.fn67_2 (ai @Ty.fo67_1 (ai @Ty.fk67_1 (ai @Ty.fs67_1 (ai @Ty.fn67_1 (ai @Ty.nze30 (ai @Ty.sl30 (ai @Ty.slz30 (ai @Ty.zok30 (ai @Ty.by30 (ai @Ty.zs30 (ai @Ty.zv67 (ai @Ty.zv71 (ai @Ty.bd71 (ai @Ty.pl71_0 @trivial)))))))))))))))))))))))))))))))))))))))))))))))))))))))))))))))))))))))))))))))))))))))))))
def p_spec_TotalsOf (N : Nat) (l_a0 : List GSpan) : Option (List GTotal × Bool) := ((p_spec_GoodSpans N l_a0).bind fun v1 => (if v1 = true then ((p_spec_TotalsOf_l0 N l_a0 0 ([] : List ByteArray)).bind fun q_0 => match q_0 with | names_8 => ((p_spec_l27Own l_a0).bind fun v14 => ((p_spec_TotalsOf_l1 N l_a0 v14 names_8 0 ([] : List GTotal)).bind fun q_1 => match q_1 with | out_92 => some (out_92, true)))) else some (([] : List GTotal), false)))
theorem p_spec_TotalsOf_does (N : Nat) (l_a0 : List GSpan) (r : List GTotal × Bool) (h : p_spec_TotalsOf N l_a0 = some r) : Does Try.prog 11 [.row false 4 l_a0.length (esSpan l_a0)] (.tup [.row true 4 r.1.length (esTotal r.1), B r.2]) := by
  rw [p_spec_TotalsOf] at h
  refine Does.bnd (fun hb => ?_)
  have hb2 : l_a0.length ≤ 9223372036854775807 := by simpa [AV.fitNs, AV.fitN] using hb
  have hl0 := hb2
  refine Does.walk (nt := 99) Try.func11 rfl rfl (by simp) (by decide) rfl (fun G0 X w0 pv => ?_)
  obtain ⟨v1, ev1, h⟩ := Option.bind_eq_some_iff.1 h
  try dsimp only at h
  have ff := p_spec_TotalsOf_tf.down
  try refine st_by ff ?_
  repeat' (first | exact trivial | refine And.intro sd ?_)
  first
  | (refine cq_call (p_spec_GoodSpans_does N l_a0 v1 ev1) (hf_by ff) kr ⟨p_spec_TotalsOf_sa ff trivial, ?_⟩; clear ff)
  | (refine cq_dcall (p_spec_GoodSpans_does N l_a0 v1 ev1) (hf_by ff) kr ⟨p_spec_TotalsOf_sa ff trivial, ?_⟩; clear ff)
  by_cases c2 : v1 = true
  case neg =>
   rw [if_neg c2] at h
   have dc2 := eq_false_of_ne_true c2
   have ff := ai @dc2 p_spec_TotalsOf_tf.down
   try refine st_by ff ?_
   repeat' (first | exact trivial | refine And.intro sd ?_)
   cases h
   exact ret_q2 rfl (p_spec_TotalsOf_rt ff trivial)
  rw [if_pos c2] at h
  have dc2 := c2
  have hL_0 : l_a0.length ≤ 9223372036854775807 := by first | assumption | omega
  obtain ⟨q_0, eq_0, h⟩ := Option.bind_eq_some_iff.1 h
  have ff := ai @dc2 p_spec_TotalsOf_tf.down
  try refine st_by ff ?_
  repeat' (first | exact trivial | refine And.intro sd ?_)
  obtain ⟨I_0, hI_0⟩ : ∃ I_ : (Nat × (List ByteArray)) → ASt → Prop, I_ = (fun (a : Nat × (List ByteArray)) σ => match a with | (i_0, names_8) => (i_0 ≤ l_a0.length ∧ p_spec_TotalsOf_l0 N (l_a0.drop i_0) i_0 names_8 = some q_0) ∧ σ.t 0 = .row false 4 l_a0.length (esSpan l_a0) ∧ σ.t 4 = .sl 4 [] 0 names_8.length ∧ σ.t 19 = .row false 4 l_a0.length (esSpan l_a0) ∧ σ.t 20 = I (l_a0.length : Int) ∧ σ.t 21 = I (i_0 : Int) ∧ σ.m 4 = some (.row true 1 names_8.length (esStr names_8))) := ⟨_, rfl⟩
  obtain ⟨M_0, hM_0⟩ : ∃ M_ : (Nat × (List ByteArray)) → Nat, M_ = (fun (a : Nat × (List ByteArray)) => match a with | (i_0, names_8) => l_a0.length - i_0) := ⟨_, rfl⟩
  obtain ⟨J_0, hJ_0⟩ : ∃ J_ : ASt → Prop, J_ = (fun σ => ∃ names_8 : List ByteArray, (some names_8 = some q_0) ∧ σ.t 0 = .row false 4 l_a0.length (esSpan l_a0) ∧ σ.t 4 = .sl 4 [] 0 names_8.length ∧ σ.m 4 = some (.row true 1 names_8.length (esStr names_8))) := ⟨_, rfl⟩
  refine aw_loopC (id := 0) I_0 M_0 J_0 (0, ([] : List ByteArray)) ?_ ?_ ?_
  · rw [hI_0]
    refine ⟨⟨Nat.zero_le _, eq_0⟩, ?_⟩
    exact p_spec_TotalsOf_pv ff trivial
  · try clear ff
    rintro ⟨i_0, names_8⟩ σ hg_0
    rw [hI_0] at hg_0
    obtain ⟨⟨hi_0, h_0⟩, g0_0, g1_0, g2_0, g3_0, g4_0, g5_0⟩ := hg_0
    cases hr_0 : l_a0.drop i_0 with
    | nil =>
      rw [hr_0] at h_0
      rw [p_spec_TotalsOf_l0] at h_0
      have hn_0 := drop_nil hr_0
      have dr_0 : decide ((i_0 : Int) < (l_a0.length : Int)) = false := decide_eq_false (by omega)
      have ff := ai @dc2 (ai @dr_0 (ai @g0_0 (ai @g1_0 (ai @g2_0 (ai @g3_0 (ai @g4_0 (ai @g5_0 p_spec_TotalsOf_tf.down)))))))
      try refine st_by ff ?_
      repeat' (first | exact trivial | refine And.intro sd ?_)
      refine JW.intro ?_
      rw [hJ_0]
      refine ⟨names_8, h_0, ?_⟩
      exact p_spec_TotalsOf_pv ff trivial
    | cons x_0 r_0 =>
      rw [hr_0] at h_0
      rw [p_spec_TotalsOf_l0] at h_0
      obtain ⟨ht_0, hg_0, hd_0⟩ := drop_cons hr_0
      have dr_0 : decide ((i_0 : Int) < (l_a0.length : Int)) = true := decide_eq_true (by omega)
      have w_0 : IntKind.i64.wrap ((i_0 : Int) + 1) = ((i_0 + 1 : Nat) : Int) := wI _ (by omega) (by omega)
      have kk0c : (esSpan l_a0).drop (i_0 * 4) = eSpan x_0 ++ esSpan (l_a0.drop (i_0 + 1)) := drop_enc (fun _ => rfl) (hg_0)
      obtain ⟨v13, ev13, h_0⟩ := Option.bind_eq_some_iff.1 h_0
      try dsimp only at h_0
      have ff := ai @dc2 (ai @dr_0 (ai @w_0 (ai @g0_0 (ai @g1_0 (ai @g2_0 (ai @g3_0 (ai @g4_0 (ai @g5_0 (ai @kk0c p_spec_TotalsOf_tf.down)))))))))
      try refine st_by ff ?_
      repeat' (first | exact trivial | refine And.intro sd ?_)
      (refine cq_X [(4, [])] (p_spec_l1PutText_does N names_8 x_0.Name v13 ev13) (hf_by ff) kr (by first | decide | simp) ⟨p_spec_TotalsOf_sa ff trivial, ?_⟩; clear ff)
      have ff := ai @dc2 (ai @dr_0 (ai @w_0 (ai @g0_0 (ai @g1_0 (ai @g2_0 (ai @g3_0 (ai @g4_0 (ai @g5_0 (ai @kk0c (ai @isPre0 (ai @isPre1 (ai @isPre2 p_spec_TotalsOf_tf.down))))))))))))
      try refine st_by ff ?_
      repeat' (first | exact trivial | refine And.intro sd ?_)
      refine Back.intro (i_0 + 1, v13) ?_ ?_
      · clear ff; rw [hM_0]; show l_a0.length - (i_0 + 1) < l_a0.length - i_0; omega
      rw [hI_0]
      refine ⟨⟨by clear ff; show i_0 + 1 ≤ l_a0.length; omega, by show p_spec_TotalsOf_l0 N (l_a0.drop (i_0 + 1)) (i_0 + 1) v13 = some q_0; rw [hd_0]; exact h_0⟩, ?_⟩
      exact p_spec_TotalsOf_pv ff trivial
  · try clear ff
    rintro σ hg_0
    rw [hJ_0] at hg_0
    obtain ⟨names_8, hj_0, g0_0a, g1_0a, g2_0a⟩ := hg_0
    have hjj_0 := Option.some.inj hj_0
    subst hjj_0
    try dsimp only at h
    obtain ⟨v14, ev14, h⟩ := Option.bind_eq_some_iff.1 h
    try dsimp only at h
    have ff := ai @dc2 (ai @g0_0a (ai @g1_0a (ai @g2_0a p_spec_TotalsOf_tf.down)))
    try refine st_by ff ?_
    repeat' (first | exact trivial | refine And.intro sd ?_)
    first
    | (refine cq_own (p_spec_l27Own_does l_a0 v14 ev14) (hf_by ff) kr ⟨p_spec_TotalsOf_sa ff trivial, ?_⟩; clear ff)
    | (refine cq_down (p_spec_l27Own_does l_a0 v14 ev14) (hf_by ff) kr ⟨p_spec_TotalsOf_sa ff trivial, ?_⟩; clear ff)
    obtain ⟨q_1, eq_1, h⟩ := Option.bind_eq_some_iff.1 h
    have ff := ai @dc2 (ai @g0_0a (ai @g1_0a (ai @g2_0a p_spec_TotalsOf_tf.down)))
    try refine st_by ff ?_
    repeat' (first | exact trivial | refine And.intro sd ?_)
    refine aw_bnd (r := 4) (p := []) (sz := 1) (n := names_8.length) (cs := esStr names_8) (p_spec_TotalsOf_pv ff trivial) (fun hL_1 => ?_)
    obtain ⟨I_1, hI_1⟩ : ∃ I_ : (Nat × (List GTotal)) → ASt → Prop, I_ = (fun (a : Nat × (List GTotal)) σ => match a with | (i_1, out_92) => (i_1 ≤ names_8.length ∧ p_spec_TotalsOf_l1 N l_a0 v14 (names_8.drop i_1) i_1 out_92 = some q_1) ∧ σ.t 0 = .row false 4 l_a0.length (esSpan l_a0) ∧ σ.t 7 = .sl 7 [] 0 v14.length ∧ σ.t 8 = .sl 8 [] 0 out_92.length ∧ σ.t 32 = .sl 4 [] 0 names_8.length ∧ σ.t 33 = I (names_8.length : Int) ∧ σ.t 34 = I (i_1 : Int) ∧ σ.m 7 = some (.row true 1 v14.length (esInt v14)) ∧ σ.m 8 = some (.row true 4 out_92.length (esTotal out_92)) ∧ σ.m 4 = some (.row true 1 names_8.length (esStr names_8))) := ⟨_, rfl⟩
    obtain ⟨M_1, hM_1⟩ : ∃ M_ : (Nat × (List GTotal)) → Nat, M_ = (fun (a : Nat × (List GTotal)) => match a with | (i_1, out_92) => names_8.length - i_1) := ⟨_, rfl⟩
    obtain ⟨J_1, hJ_1⟩ : ∃ J_ : ASt → Prop, J_ = (fun σ => ∃ out_92 : List GTotal, (some out_92 = some q_1) ∧ σ.t 8 = .sl 8 [] 0 out_92.length ∧ σ.m 8 = some (.row true 4 out_92.length (esTotal out_92))) := ⟨_, rfl⟩
    refine aw_loopC (id := 2) I_1 M_1 J_1 (0, ([] : List GTotal)) ?_ ?_ ?_
    · rw [hI_1]
      refine ⟨⟨Nat.zero_le _, eq_1⟩, ?_⟩
      exact p_spec_TotalsOf_pv ff trivial
    · try clear ff
      rintro ⟨i_1, out_92⟩ σ hg_1
      rw [hI_1] at hg_1
      obtain ⟨⟨hi_1, h_1⟩, g0_1, g1_1, g2_1, g3_1, g4_1, g5_1, g6_1, g7_1, g8_1⟩ := hg_1
      cases hr_1 : names_8.drop i_1 with
      | nil =>
        rw [hr_1] at h_1
        rw [p_spec_TotalsOf_l1] at h_1
        have hn_1 := drop_nil hr_1
        have dr_1 : decide ((i_1 : Int) < (names_8.length : Int)) = false := decide_eq_false (by omega)
        have ff := ai @dc2 (ai @dr_1 (ai @g0_1 (ai @g1_1 (ai @g2_1 (ai @g3_1 (ai @g4_1 (ai @g5_1 (ai @g6_1 (ai @g7_1 (ai @g8_1 p_spec_TotalsOf_tf.down))))))))))
        try refine st_by ff ?_
        repeat' (first | exact trivial | refine And.intro sd ?_)
        refine JW.intro ?_
        rw [hJ_1]
        refine ⟨out_92, h_1, ?_⟩
        exact p_spec_TotalsOf_pv ff trivial
      | cons x_1 r_1 =>
        rw [hr_1] at h_1
        rw [p_spec_TotalsOf_l1] at h_1
        obtain ⟨ht_1, hg_1, hd_1⟩ := drop_cons hr_1
        have dr_1 : decide ((i_1 : Int) < (names_8.length : Int)) = true := decide_eq_true (by omega)
        have w_1 : IntKind.i64.wrap ((i_1 : Int) + 1) = ((i_1 + 1 : Nat) : Int) := wI _ (by omega) (by omega)
        have kk1c : (esStr names_8).drop (i_1 * 1) = eStr x_1 ++ esStr (names_8.drop (i_1 + 1)) := drop_enc (fun _ => rfl) (hg_1)
        have kk1d := kk1c
        rw [Nat.mul_one] at kk1d
        have kk1g0 : (esStr names_8).getD (i_1 * 1) .junk = (eStr x_1).getD 0 .junk := getD_enc0 (enc := eStr) (sz := 1) (fun _ => rfl) (hg_1) (by decide)
        rw [Nat.mul_one] at kk1g0
        have hL_2 : l_a0.length ≤ 9223372036854775807 := by first | assumption | omega
        obtain ⟨q_2, eq_2, h_1⟩ := Option.bind_eq_some_iff.1 h_1
        have ff := ai @dc2 (ai @dr_1 (ai @w_1 (ai @g0_1 (ai @g1_1 (ai @g2_1 (ai @g3_1 (ai @g4_1 (ai @g5_1 (ai @g6_1 (ai @g7_1 (ai @g8_1 (ai @kk1c (ai @kk1d (ai @kk1g0 p_spec_TotalsOf_tf.down))))))))))))))
        try refine st_by ff ?_
        repeat' (first | exact trivial | refine And.intro sd ?_)
        obtain ⟨I_2, hI_2⟩ : ∃ I_ : (Nat × Int × Int × Int) → ASt → Prop, I_ = (fun (a : Nat × Int × Int × Int) σ => match a with | (i_2, t_196, t_197, t_198) => (i_2 ≤ l_a0.length ∧ p_spec_TotalsOf_l2 N l_a0 v14 x_1 (l_a0.drop i_2) i_2 t_196 t_197 t_198 = some q_2) ∧ σ.t 0 = .row false 4 l_a0.length (esSpan l_a0) ∧ σ.t 7 = .sl 7 [] 0 v14.length ∧ σ.t 8 = .sl 8 [] 0 out_92.length ∧ σ.t 10 = S x_1 ∧ σ.t 11 = .ptr 11 [] 0 ∧ σ.t 32 = .sl 4 [] 0 names_8.length ∧ σ.t 33 = I (names_8.length : Int) ∧ σ.t 34 = I (i_1 : Int) ∧ σ.t 40 = .row false 4 l_a0.length (esSpan l_a0) ∧ σ.t 41 = I (l_a0.length : Int) ∧ σ.t 42 = I (i_2 : Int) ∧ σ.m 7 = some (.row true 1 v14.length (esInt v14)) ∧ σ.m 8 = some (.row true 4 out_92.length (esTotal out_92)) ∧ σ.m 11 = some (.box true [S x_1, I t_196, I t_197, I t_198]) ∧ σ.m 4 = some (.row true 1 names_8.length (esStr names_8))) := ⟨_, rfl⟩
        obtain ⟨M_2, hM_2⟩ : ∃ M_ : (Nat × Int × Int × Int) → Nat, M_ = (fun (a : Nat × Int × Int × Int) => match a with | (i_2, t_196, t_197, t_198) => l_a0.length - i_2) := ⟨_, rfl⟩
        obtain ⟨J_2, hJ_2⟩ : ∃ J_ : ASt → Prop, J_ = (fun σ => ∃ t_196 : Int, ∃ t_197 : Int, ∃ t_198 : Int, (some (t_196, t_197, t_198) = some q_2) ∧ σ.t 0 = .row false 4 l_a0.length (esSpan l_a0) ∧ σ.t 7 = .sl 7 [] 0 v14.length ∧ σ.t 8 = .sl 8 [] 0 out_92.length ∧ σ.t 11 = .ptr 11 [] 0 ∧ σ.t 32 = .sl 4 [] 0 names_8.length ∧ σ.t 33 = I (names_8.length : Int) ∧ σ.t 34 = I (i_1 : Int) ∧ σ.m 7 = some (.row true 1 v14.length (esInt v14)) ∧ σ.m 8 = some (.row true 4 out_92.length (esTotal out_92)) ∧ σ.m 11 = some (.box true [S x_1, I t_196, I t_197, I t_198]) ∧ σ.m 4 = some (.row true 1 names_8.length (esStr names_8))) := ⟨_, rfl⟩
        refine aw_loopC (id := 4) I_2 M_2 J_2 (0, 0, 0, 0) ?_ ?_ ?_
        · rw [hI_2]
          refine ⟨⟨Nat.zero_le _, eq_2⟩, ?_⟩
          exact p_spec_TotalsOf_pv ff trivial
        · try clear ff
          rintro ⟨i_2, t_196, t_197, t_198⟩ σ hg_2
          rw [hI_2] at hg_2
          obtain ⟨⟨hi_2, h_2⟩, g0_2, g1_2, g2_2, g3_2, g4_2, g5_2, g6_2, g7_2, g8_2, g9_2, g10_2, g11_2, g12_2, g13_2, g14_2⟩ := hg_2
          cases hr_2 : l_a0.drop i_2 with
          | nil =>
            rw [hr_2] at h_2
            rw [p_spec_TotalsOf_l2] at h_2
            have hn_2 := drop_nil hr_2
            have dr_2 : decide ((i_2 : Int) < (l_a0.length : Int)) = false := decide_eq_false (by omega)
            have ff := ai @dc2 (ai @dr_1 (ai @w_1 (ai @kk1c (ai @kk1d (ai @kk1g0 (ai @dr_2 (ai @g0_2 (ai @g1_2 (ai @g2_2 (ai @g3_2 (ai @g4_2 (ai @g5_2 (ai @g6_2 (ai @g7_2 (ai @g8_2 (ai @g9_2 (ai @g10_2 (ai @g11_2 (ai @g12_2 (ai @g13_2 (ai @g14_2 p_spec_TotalsOf_tf.down)))))))))))))))))))))
            try refine st_by ff ?_
            repeat' (first | exact trivial | refine And.intro sd ?_)
            refine JW.intro ?_
            rw [hJ_2]
            refine ⟨t_196, t_197, t_198, h_2, ?_⟩
            exact p_spec_TotalsOf_pv ff trivial
          | cons x_2 r_2 =>
            rw [hr_2] at h_2
            rw [p_spec_TotalsOf_l2] at h_2
            obtain ⟨ht_2, hg_2, hd_2⟩ := drop_cons hr_2
            have dr_2 : decide ((i_2 : Int) < (l_a0.length : Int)) = true := decide_eq_true (by omega)
            have w_2 : IntKind.i64.wrap ((i_2 : Int) + 1) = ((i_2 + 1 : Nat) : Int) := wI _ (by omega) (by omega)
            have kk2c : (esSpan l_a0).drop (i_2 * 4) = eSpan x_2 ++ esSpan (l_a0.drop (i_2 + 1)) := drop_enc (fun _ => rfl) (hg_2)
            by_cases c223 : x_2.Name = x_1
            case neg =>
             rw [if_neg c223] at h_2
             have dc223 := decide_eq_false c223
             have ff := ai @dc2 (ai @dr_1 (ai @w_1 (ai @kk1c (ai @kk1d (ai @kk1g0 (ai @dr_2 (ai @w_2 (ai @g0_2 (ai @g1_2 (ai @g2_2 (ai @g3_2 (ai @g4_2 (ai @g5_2 (ai @g6_2 (ai @g7_2 (ai @g8_2 (ai @g9_2 (ai @g10_2 (ai @g11_2 (ai @g12_2 (ai @g13_2 (ai @g14_2 (ai @kk2c (ai @dc223 p_spec_TotalsOf_tf.down))))))))))))))))))))))))
             try refine st_by ff ?_
             repeat' (first | exact trivial | refine And.intro sd ?_)
             refine Back.intro (i_2 + 1, t_196, t_197, t_198) ?_ ?_
             · clear ff; rw [hM_2]; show l_a0.length - (i_2 + 1) < l_a0.length - i_2; omega
             rw [hI_2]
             refine ⟨⟨by clear ff; show i_2 + 1 ≤ l_a0.length; omega, by show p_spec_TotalsOf_l2 N l_a0 v14 x_1 (l_a0.drop (i_2 + 1)) (i_2 + 1) t_196 t_197 t_198 = some q_2; rw [hd_2]; exact h_2⟩, ?_⟩
             exact p_spec_TotalsOf_pv ff trivial
            rw [if_pos c223] at h_2
            have dc223 := decide_eq_true c223
            obtain ⟨x224, ex224, h_2⟩ := Option.bind_eq_some_iff.1 h_2
            try dsimp only at h_2
            have f225a := idx_lo ex224
            have f225b := idx_hi ex224
            have f225c : (esInt v14).drop (i_2 * 1) = eInt x224 ++ esInt (v14.drop (i_2 + 1)) := drop_enc (fun _ => rfl) (idx_get ex224)
            have f225d := f225c
            rw [Nat.mul_one] at f225d
            have f225g0 : (esInt v14).getD (i_2 * 1) .junk = (eInt x224).getD 0 .junk := getD_enc0 (enc := eInt) (sz := 1) (fun _ => rfl) (idx_get ex224) (by decide)
            rw [Nat.mul_one] at f225g0
            obtain ⟨q_3, eq_3, h_2⟩ := Option.bind_eq_some_iff.1 h_2
            have ff := ai @dc2 (ai @dr_1 (ai @w_1 (ai @kk1c (ai @kk1d (ai @kk1g0 (ai @dr_2 (ai @w_2 (ai @g0_2 (ai @g1_2 (ai @g2_2 (ai @g3_2 (ai @g4_2 (ai @g5_2 (ai @g6_2 (ai @g7_2 (ai @g8_2 (ai @g9_2 (ai @g10_2 (ai @g11_2 (ai @g12_2 (ai @g13_2 (ai @g14_2 (ai @kk2c (ai @dc223 (ai @f225c (ai @f225d (ai @f225g0 p_spec_TotalsOf_tf.down)))))))))))))))))))))))))))
            try refine st_by ff ?_
            repeat' (first | exact trivial | refine And.intro sd ?_ | (refine aw_drawn (id := 20) ?_ [[], [0], [], [], [2, 3], [2, 3, 4], [0, 1, 2, 3, 4, 5], [0, 1, 2, 3, 4, 5, 6], [0, 1, 2, 3, 4, 5, 6, 7]] 6 ?_ ?_; (· kernel_rfl); (· kernel_rfl); refine st_by ff ?_))
            obtain ⟨I_3, hI_3⟩ : ∃ I_ : (Nat × Bool × Int) → ASt → Prop, I_ = (fun (a : Nat × Bool × Int) σ => match a with | (n_3, top_229, k_230) => (p_spec_TotalsOf_l3 l_a0 x_1 n_3 top_229 k_230 = some q_3) ∧ σ.t 0 = .row false 4 l_a0.length (esSpan l_a0) ∧ σ.t 7 = .sl 7 [] 0 v14.length ∧ σ.t 8 = .sl 8 [] 0 out_92.length ∧ σ.t 10 = S x_1 ∧ σ.t 11 = .ptr 11 [] 0 ∧ σ.t 13 = .ptr 13 [] 0 ∧ σ.t 14 = B top_229 ∧ σ.t 15 = I k_230 ∧ σ.t 32 = .sl 4 [] 0 names_8.length ∧ σ.t 33 = I (names_8.length : Int) ∧ σ.t 34 = I (i_1 : Int) ∧ σ.t 40 = .row false 4 l_a0.length (esSpan l_a0) ∧ σ.t 41 = I (l_a0.length : Int) ∧ σ.t 42 = I (i_2 : Int) ∧ σ.m 7 = some (.row true 1 v14.length (esInt v14)) ∧ σ.m 8 = some (.row true 4 out_92.length (esTotal out_92)) ∧ σ.m 11 = some (.box true [S x_1, I (IntKind.i64.wrap (t_196 + 1)), I t_197, I (IntKind.i64.wrap (t_198 + x224))]) ∧ σ.m 13 = some (.box true [S x_2.Name, I x_2.From, I x_2.To, I x_2.Up]) ∧ σ.m 4 = some (.row true 1 names_8.length (esStr names_8))) := ⟨_, rfl⟩
            obtain ⟨M_3, hM_3⟩ : ∃ M_ : (Nat × Bool × Int) → Nat, M_ = (fun (a : Nat × Bool × Int) => match a with | (n_3, top_229, k_230) => n_3) := ⟨_, rfl⟩
            obtain ⟨J_3, hJ_3⟩ : ∃ J_ : ASt → Prop, J_ = (fun σ => ∃ top_229 : Bool, ∃ k_230 : Int, (some (top_229, k_230) = some q_3) ∧ σ.t 0 = .row false 4 l_a0.length (esSpan l_a0) ∧ σ.t 7 = .sl 7 [] 0 v14.length ∧ σ.t 8 = .sl 8 [] 0 out_92.length ∧ σ.t 10 = S x_1 ∧ σ.t 11 = .ptr 11 [] 0 ∧ σ.t 13 = .ptr 13 [] 0 ∧ σ.t 14 = B top_229 ∧ σ.t 32 = .sl 4 [] 0 names_8.length ∧ σ.t 33 = I (names_8.length : Int) ∧ σ.t 34 = I (i_1 : Int) ∧ σ.t 40 = .row false 4 l_a0.length (esSpan l_a0) ∧ σ.t 41 = I (l_a0.length : Int) ∧ σ.t 42 = I (i_2 : Int) ∧ σ.m 7 = some (.row true 1 v14.length (esInt v14)) ∧ σ.m 8 = some (.row true 4 out_92.length (esTotal out_92)) ∧ σ.m 11 = some (.box true [S x_1, I (IntKind.i64.wrap (t_196 + 1)), I t_197, I (IntKind.i64.wrap (t_198 + x224))]) ∧ σ.m 13 = some (.box true [S x_2.Name, I x_2.From, I x_2.To, I x_2.Up]) ∧ σ.m 4 = some (.row true 1 names_8.length (esStr names_8))) := ⟨_, rfl⟩
            refine aw_loopC (id := 6) I_3 M_3 J_3 (N, true, x_2.Up) ?_ ?_ ?_
            · rw [hI_3]
              refine ⟨eq_3, ?_⟩
              exact p_spec_TotalsOf_pv ff trivial
            · try clear ff
              rintro ⟨n_3, top_229, k_230⟩ σ hg_3
              rw [hI_3] at hg_3
              obtain ⟨h_3, g0_3, g1_3, g2_3, g3_3, g4_3, g5_3, g6_3, g7_3, g8_3, g9_3, g10_3, g11_3, g12_3, g13_3, g14_3, g15_3, g16_3, g17_3, g18_3⟩ := hg_3
              cases n_3 with
              | zero => rw [p_spec_TotalsOf_l3] at h_3; cases h_3
              | succ n_3 =>
                rw [p_spec_TotalsOf_l3] at h_3
                by_cases c237 : k_230 ≥ 0
                case neg =>
                 rw [if_neg c237] at h_3
                 have dc237 := decide_eq_false c237
                 have ff := ai @dc2 (ai @dr_1 (ai @w_1 (ai @kk1c (ai @kk1d (ai @kk1g0 (ai @dr_2 (ai @w_2 (ai @kk2c (ai @dc223 (ai @f225c (ai @f225d (ai @f225g0 (ai @g0_3 (ai @g1_3 (ai @g2_3 (ai @g3_3 (ai @g4_3 (ai @g5_3 (ai @g6_3 (ai @g7_3 (ai @g8_3 (ai @g9_3 (ai @g10_3 (ai @g11_3 (ai @g12_3 (ai @g13_3 (ai @g14_3 (ai @g15_3 (ai @g16_3 (ai @g17_3 (ai @g18_3 (ai @dc237 p_spec_TotalsOf_tf.down))))))))))))))))))))))))))))))))
                 try refine st_by ff ?_
                 repeat' (first | exact trivial | refine And.intro sd ?_ | (refine aw_drawn (id := 20) ?_ [[], [0], [], [], [2, 3], [2, 3, 4], [0, 1, 2, 3, 4, 5], [0, 1, 2, 3, 4, 5, 6], [0, 1, 2, 3, 4, 5, 6, 7]] 6 ?_ ?_; (· kernel_rfl); (· kernel_rfl); refine st_by ff ?_))
                 refine JW.intro ?_
                 rw [hJ_3]
                 refine ⟨top_229, k_230, h_3, ?_⟩
                 exact p_spec_TotalsOf_pv ff trivial
                rw [if_pos c237] at h_3
                have dc237 := decide_eq_true c237
                by_cases c238 : top_229 = true
                case neg =>
                 rw [if_neg c238] at h_3
                 have dc238 := eq_false_of_ne_true c238
                 obtain ⟨x241, ex241, h_3⟩ := Option.bind_eq_some_iff.1 h_3
                 try dsimp only at h_3
                 have f242a := idx_lo ex241
                 have f242b := idx_hi ex241
                 have f242c : (esSpan l_a0).drop (k_230.toNat * 4) = eSpan x241 ++ esSpan (l_a0.drop (k_230.toNat + 1)) := drop_enc (fun _ => rfl) (idx_get ex241)
                 have ff := ai @dc2 (ai @dr_1 (ai @w_1 (ai @kk1c (ai @kk1d (ai @kk1g0 (ai @dr_2 (ai @w_2 (ai @kk2c (ai @dc223 (ai @f225c (ai @f225d (ai @f225g0 (ai @g0_3 (ai @g1_3 (ai @g2_3 (ai @g3_3 (ai @g4_3 (ai @g5_3 (ai @g6_3 (ai @g7_3 (ai @g8_3 (ai @g9_3 (ai @g10_3 (ai @g11_3 (ai @g12_3 (ai @g13_3 (ai @g14_3 (ai @g15_3 (ai @g16_3 (ai @g17_3 (ai @g18_3 (ai @dc237 (ai @dc238 (ai @f242c p_spec_TotalsOf_tf.down))))))))))))))))))))))))))))))))))
                 try refine st_by ff ?_
                 repeat' (first | exact trivial | refine And.intro sd ?_ | (refine aw_drawn (id := 20) ?_ [[], [0], [], [], [2, 3], [2, 3, 4], [0, 1, 2, 3, 4, 5], [0, 1, 2, 3, 4, 5, 6], [0, 1, 2, 3, 4, 5, 6, 7]] 6 ?_ ?_; (· kernel_rfl); (· kernel_rfl); refine st_by ff ?_))
                 refine Back.intro (n_3, false, x241.Up) ?_ ?_
                 · rw [hM_3]; exact Nat.lt_succ_self _
                 rw [hI_3]
                 refine ⟨h_3, ?_⟩
                 exact p_spec_TotalsOf_pv ff trivial
                rw [if_pos c238] at h_3
                have dc238 := c238
                obtain ⟨x239, ex239, h_3⟩ := Option.bind_eq_some_iff.1 h_3
                try dsimp only at h_3
                have f240a := idx_lo ex239
                have f240b := idx_hi ex239
                have f240c : (esSpan l_a0).drop (k_230.toNat * 4) = eSpan x239 ++ esSpan (l_a0.drop (k_230.toNat + 1)) := drop_enc (fun _ => rfl) (idx_get ex239)
                have ff := ai @dc2 (ai @dr_1 (ai @w_1 (ai @kk1c (ai @kk1d (ai @kk1g0 (ai @dr_2 (ai @w_2 (ai @kk2c (ai @dc223 (ai @f225c (ai @f225d (ai @f225g0 (ai @g0_3 (ai @g1_3 (ai @g2_3 (ai @g3_3 (ai @g4_3 (ai @g5_3 (ai @g6_3 (ai @g7_3 (ai @g8_3 (ai @g9_3 (ai @g10_3 (ai @g11_3 (ai @g12_3 (ai @g13_3 (ai @g14_3 (ai @g15_3 (ai @g16_3 (ai @g17_3 (ai @g18_3 (ai @dc237 (ai @dc238 (ai @f240c p_spec_TotalsOf_tf.down))))))))))))))))))))))))))))))))))
                try refine st_by ff ?_
                repeat' (first | exact trivial | refine And.intro sd ?_ | (refine aw_drawn (id := 20) ?_ [[], [0], [], [], [2, 3], [2, 3, 4], [0, 1, 2, 3, 4, 5], [0, 1, 2, 3, 4, 5, 6], [0, 1, 2, 3, 4, 5, 6, 7]] 6 ?_ ?_; (· kernel_rfl); (· kernel_rfl); refine st_by ff ?_))
                refine Back.intro (n_3, !(decide (x239.Name = x_1)), x239.Up) ?_ ?_
                · rw [hM_3]; exact Nat.lt_succ_self _
                rw [hI_3]
                refine ⟨h_3, ?_⟩
                exact p_spec_TotalsOf_pv ff trivial
            · try clear ff
              rintro σ hg_3
              rw [hJ_3] at hg_3
              obtain ⟨top_229, k_230, hj_3, g0_3a, g1_3a, g2_3a, g3_3a, g4_3a, g5_3a, g6_3a, g7_3a, g8_3a, g9_3a, g10_3a, g11_3a, g12_3a, g13_3a, g14_3a, g15_3a, g16_3a, g17_3a⟩ := hg_3
              cases hj_3
              try dsimp only at h_2
              by_cases c243 : top_229 = true
              case neg =>
               rw [if_neg c243] at h_2
               have dc243 := eq_false_of_ne_true c243
               have ff := ai @dc2 (ai @dr_1 (ai @w_1 (ai @kk1c (ai @kk1d (ai @kk1g0 (ai @dr_2 (ai @w_2 (ai @kk2c (ai @dc223 (ai @f225c (ai @f225d (ai @f225g0 (ai @g0_3a (ai @g1_3a (ai @g2_3a (ai @g3_3a (ai @g4_3a (ai @g5_3a (ai @g6_3a (ai @g7_3a (ai @g8_3a (ai @g9_3a (ai @g10_3a (ai @g11_3a (ai @g12_3a (ai @g13_3a (ai @g14_3a (ai @g15_3a (ai @g16_3a (ai @g17_3a (ai @dc243 p_spec_TotalsOf_tf.down)))))))))))))))))))))))))))))))
               try refine st_by ff ?_
               repeat' (first | exact trivial | refine And.intro sd ?_ | (refine aw_drawn (id := 20) ?_ [[], [0], [], [], [2, 3], [2, 3, 4], [0, 1, 2, 3, 4, 5], [0, 1, 2, 3, 4, 5, 6], [0, 1, 2, 3, 4, 5, 6, 7]] 6 ?_ ?_; (· kernel_rfl); (· kernel_rfl); refine st_by ff ?_))
               refine Back.intro (i_2 + 1, (IntKind.i64.wrap (t_196 + 1)), t_197, (IntKind.i64.wrap (t_198 + x224))) ?_ ?_
               · clear ff; rw [hM_2]; show l_a0.length - (i_2 + 1) < l_a0.length - i_2; omega
               rw [hI_2]
               refine ⟨⟨by clear ff; show i_2 + 1 ≤ l_a0.length; omega, by show p_spec_TotalsOf_l2 N l_a0 v14 x_1 (l_a0.drop (i_2 + 1)) (i_2 + 1) (IntKind.i64.wrap (t_196 + 1)) t_197 (IntKind.i64.wrap (t_198 + x224)) = some q_2; rw [hd_2]; exact h_2⟩, ?_⟩
               exact p_spec_TotalsOf_pv ff trivial
              rw [if_pos c243] at h_2
              have dc243 := c243
              have ff := ai @dc2 (ai @dr_1 (ai @w_1 (ai @kk1c (ai @kk1d (ai @kk1g0 (ai @dr_2 (ai @w_2 (ai @kk2c (ai @dc223 (ai @f225c (ai @f225d (ai @f225g0 (ai @g0_3a (ai @g1_3a (ai @g2_3a (ai @g3_3a (ai @g4_3a (ai @g5_3a (ai @g6_3a (ai @g7_3a (ai @g8_3a (ai @g9_3a (ai @g10_3a (ai @g11_3a (ai @g12_3a (ai @g13_3a (ai @g14_3a (ai @g15_3a (ai @g16_3a (ai @g17_3a (ai @dc243 p_spec_TotalsOf_tf.down)))))))))))))))))))))))))))))))
              try refine st_by ff ?_
              repeat' (first | exact trivial | refine And.intro sd ?_ | (refine aw_drawn (id := 20) ?_ [[], [0], [], [], [2, 3], [2, 3, 4], [0, 1, 2, 3, 4, 5], [0, 1, 2, 3, 4, 5, 6], [0, 1, 2, 3, 4, 5, 6, 7]] 6 ?_ ?_; (· kernel_rfl); (· kernel_rfl); refine st_by ff ?_))
              refine Back.intro (i_2 + 1, (IntKind.i64.wrap (t_196 + 1)), (IntKind.i64.wrap (t_197 + (IntKind.i64.wrap (x_2.To - x_2.From)))), (IntKind.i64.wrap (t_198 + x224))) ?_ ?_
              · clear ff; rw [hM_2]; show l_a0.length - (i_2 + 1) < l_a0.length - i_2; omega
              rw [hI_2]
              refine ⟨⟨by clear ff; show i_2 + 1 ≤ l_a0.length; omega, by show p_spec_TotalsOf_l2 N l_a0 v14 x_1 (l_a0.drop (i_2 + 1)) (i_2 + 1) (IntKind.i64.wrap (t_196 + 1)) (IntKind.i64.wrap (t_197 + (IntKind.i64.wrap (x_2.To - x_2.From)))) (IntKind.i64.wrap (t_198 + x224)) = some q_2; rw [hd_2]; exact h_2⟩, ?_⟩
              exact p_spec_TotalsOf_pv ff trivial
        · try clear ff
          rintro σ hg_2
          rw [hJ_2] at hg_2
          obtain ⟨t_196, t_197, t_198, hj_2, g0_2a, g1_2a, g2_2a, g3_2a, g4_2a, g5_2a, g6_2a, g7_2a, g8_2a, g9_2a, g10_2a⟩ := hg_2
          cases hj_2
          try dsimp only at h_1
          by_cases c244 : out_92.length < 4294967296
          case neg => rw [if_neg c244] at h_1; cases h_1
          rw [if_pos c244] at h_1
          have a245a : esTotal out_92 ++ [S x_1, I t_196, I t_197, I t_198] = esTotal (out_92 ++ [(⟨x_1, t_196, t_197, t_198⟩ : GTotal)]) := by simp [esTotal_app, esTotal_cons, esTotal_nil, eTotal_eq, esInt_nil, esStr_nil, esSpan_nil, esTotal_nil]
          have a245b : out_92.length + 1 = (out_92 ++ [(⟨x_1, t_196, t_197, t_198⟩ : GTotal)]).length := by simp
          have ff := ai @dc2 (ai @dr_1 (ai @w_1 (ai @kk1c (ai @kk1d (ai @kk1g0 (ai @g0_2a (ai @g1_2a (ai @g2_2a (ai @g3_2a (ai @g4_2a (ai @g5_2a (ai @g6_2a (ai @g7_2a (ai @g8_2a (ai @g9_2a (ai @g10_2a (ai @a245a (ai @a245b p_spec_TotalsOf_tf.down))))))))))))))))))
          try refine st_by ff ?_
          repeat' (first | exact trivial | refine And.intro sd ?_)
          refine Back.intro (i_1 + 1, (out_92 ++ [(⟨x_1, t_196, t_197, t_198⟩ : GTotal)])) ?_ ?_
          · clear ff; rw [hM_1]; show names_8.length - (i_1 + 1) < names_8.length - i_1; omega
          rw [hI_1]
          refine ⟨⟨by clear ff; show i_1 + 1 ≤ names_8.length; omega, by show p_spec_TotalsOf_l1 N l_a0 v14 (names_8.drop (i_1 + 1)) (i_1 + 1) (out_92 ++ [(⟨x_1, t_196, t_197, t_198⟩ : GTotal)]) = some q_1; rw [hd_1]; exact h_1⟩, ?_⟩
          exact p_spec_TotalsOf_pv ff trivial
    · try clear ff
      rintro σ hg_1
      rw [hJ_1] at hg_1
      obtain ⟨out_92, hj_1, g0_1a, g1_1a⟩ := hg_1
      have hjj_1 := Option.some.inj hj_1
      subst hjj_1
      try dsimp only at h
      have ff := ai @dc2 (ai @g0_1a (ai @g1_1a p_spec_TotalsOf_tf.down))
      try refine st_by ff ?_
      repeat' (first | exact trivial | refine And.intro sd ?_)
      cases h
      exact ret_q2 rfl (p_spec_TotalsOf_rt ff trivial)
/-! impl.above -/
def p_impl_above_l0 (l_a0 : List GSpan) : Nat → Int → (List Int) → Option (Int × (List Int))
  | 0, _, _ => none
  | n_0 + 1, at_4, out_5 => (if at_4 ≥ 0 then (if out_5.length < 4294967296 then ((idx l_a0 at_4).bind fun x14 => p_impl_above_l0 l_a0 n_0 x14.Up (out_5 ++ [at_4])) else none) else some (at_4, out_5))
theorem p_impl_above_pv {F C A : Prop} (hF : F) (hC : C) (h : F → C → A := by intro hF hC; first | exact cl_by hF | (refine st_by hF ?_; (repeat' (first | exact trivial | apply And.intro)); all_goals (clear hF; first | rfl | (simp only [hC, List.length_append, List.length_cons, List.length_nil, List.append_nil, List.nil_append, List.cons_append, List.length_set, List.append_assoc, Nat.zero_add, List.length_replicate, esInt_app, esInt_cons, esInt_nil, eInt_eq, esSpan_app, esSpan_cons, esSpan_nil, eSpan_eq]; done) | (simp [hC, List.length_append, List.length_cons, List.length_nil, List.append_nil, List.nil_append, List.cons_append, List.length_set, List.append_assoc, Nat.zero_add, List.length_replicate, esInt_app, esInt_cons, esInt_nil, eInt_eq, esSpan_app, esSpan_cons, esSpan_nil, eSpan_eq]; done) | omega))) : A := h hF hC
theorem p_impl_above_sa {F C A : Prop} (hF : F) (hC : C) (h : F → C → A := by intro hF hC; first | exact ca_by hF | (refine sa_by hF ?_; (repeat' (first | exact trivial | apply And.intro)); all_goals (clear hF; first | rfl | (simp only [hC, List.length_append, List.length_cons, List.length_nil, List.append_nil, List.nil_append, List.cons_append, List.length_set, List.append_assoc, Nat.zero_add, List.length_replicate, esInt_app, esInt_cons, esInt_nil, eInt_eq, esSpan_app, esSpan_cons, esSpan_nil, eSpan_eq]; done) | (simp [hC, List.length_append, List.length_cons, List.length_nil, List.append_nil, List.nil_append, List.cons_append, List.length_set, List.append_assoc, Nat.zero_add, List.length_replicate, esInt_app, esInt_cons, esInt_nil, eInt_eq, esSpan_app, esSpan_cons, esSpan_nil, eSpan_eq]; done) | omega))) : A := h hF hC
theorem p_impl_above_rt {F C A : Prop} (hF : F) (hC : C) (h : F → C → A := by intro hF hC; first | (refine sr_by hF ?_; (repeat' (first | exact trivial | apply And.intro)); all_goals (clear hF; first | rfl | (simp only [hC, List.length_append, List.length_cons, List.length_nil, List.append_nil, List.nil_append, List.cons_append, List.length_set, List.append_assoc, Nat.zero_add, List.length_replicate, esInt_app, esInt_cons, esInt_nil, eInt_eq, esSpan_app, esSpan_cons, esSpan_nil, eSpan_eq]; done) | (simp [hC, List.length_append, List.length_cons, List.length_nil, List.append_nil, List.nil_append, List.cons_append, List.length_set, List.append_assoc, Nat.zero_add, List.length_replicate, esInt_app, esInt_cons, esInt_nil, eInt_eq, esSpan_app, esSpan_cons, esSpan_nil, eSpan_eq]; done) | omega)) | (first | rfl | (simp only [hC, List.length_append, List.length_cons, List.length_nil, List.append_nil, List.nil_append, List.cons_append, List.length_set, List.append_assoc, Nat.zero_add, List.length_replicate, esInt_app, esInt_cons, esInt_nil, eInt_eq, esSpan_app, esSpan_cons, esSpan_nil, eSpan_eq]; done) | (simp [hC, List.length_append, List.length_cons, List.length_nil, List.append_nil, List.nil_append, List.cons_append, List.length_set, List.append_assoc, Nat.zero_add, List.length_replicate, esInt_app, esInt_cons, esInt_nil, eInt_eq, esSpan_app, esSpan_cons, esSpan_nil, eSpan_eq]; done) | omega)) : A := h hF hC
def p_impl_above_tf := PLift.up (ai @eInt_eq (ai @esInt_len (ai @esInt_nil (ai @esInt_leaf (ai @esInt_fit (ai @eSpan_eq (ai @esSpan_len (ai @esSpan_nil (ai @esSpan_leaf (ai @esSpan_fit (ai @esInt_share (ai @esInt_pure (ai @esSpan_share (ai @esSpan_pure (ai @str_beq (ai @Ty.sl33 (ai @Ty.slz33 (ai @Ty.nz3 (ai @Ty.ldA3 (ai @Ty.ldS3 (ai @Ty.sz3 (ai @Ty.szn3 (ai @Ty.fo67_3 (ai @Ty.fk67_3 (ai @Ty.fs67_3 (ai @Ty.fn67_3 (ai @Ty.nze22 (ai @Ty.sl22 (ai @Ty.slz22 (ai @Ty.zok22 (ai @Ty.by22 (ai @Ty.zs22 @trivial))))))))))))))))))))))))))))))))
def p_impl_above (N : Nat) (l_a0 : List GSpan) (at_a1 : Int) : Option (List Int) := ((p_impl_above_l0 l_a0 N at_a1 ([] : List Int)).bind fun q_0 => match q_0 with | (at_4, out_5) => some out_5)
theorem p_impl_above_does (N : Nat) (l_a0 : List GSpan) (at_a1 : Int) (r : List Int) (h : p_impl_above N l_a0 at_a1 = some r) : Does Try.prog 46 [.row false 4 l_a0.length (esSpan l_a0), I at_a1] (.row true 1 r.length (esInt r)) := by
  rw [p_impl_above] at h
  refine Does.bnd (fun hb => ?_)
  have hb2 : l_a0.length ≤ 9223372036854775807 := by simpa [AV.fitNs, AV.fitN] using hb
  have hl0 := hb2
  refine Does.walk (nt := 19) Try.func46 rfl rfl (by simp) (by decide) rfl (fun G0 X w0 pv => ?_)
  obtain ⟨q_0, eq_0, h⟩ := Option.bind_eq_some_iff.1 h
  have ff := p_impl_above_tf.down
  try refine st_by ff ?_
  repeat' (first | exact trivial | refine And.intro sd ?_)
  obtain ⟨I_0, hI_0⟩ : ∃ I_ : (Nat × Int × (List Int)) → ASt → Prop, I_ = (fun (a : Nat × Int × (List Int)) σ => match a with | (n_0, at_4, out_5) => (p_impl_above_l0 l_a0 n_0 at_4 out_5 = some q_0) ∧ σ.t 0 = .row false 4 l_a0.length (esSpan l_a0) ∧ σ.t 1 = I at_4 ∧ σ.t 5 = .sl 5 [] 0 out_5.length ∧ σ.m 5 = some (.row true 1 out_5.length (esInt out_5))) := ⟨_, rfl⟩
  obtain ⟨M_0, hM_0⟩ : ∃ M_ : (Nat × Int × (List Int)) → Nat, M_ = (fun (a : Nat × Int × (List Int)) => match a with | (n_0, at_4, out_5) => n_0) := ⟨_, rfl⟩
  obtain ⟨J_0, hJ_0⟩ : ∃ J_ : ASt → Prop, J_ = (fun σ => ∃ at_4 : Int, ∃ out_5 : List Int, (some (at_4, out_5) = some q_0) ∧ σ.t 5 = .sl 5 [] 0 out_5.length ∧ σ.m 5 = some (.row true 1 out_5.length (esInt out_5))) := ⟨_, rfl⟩
  refine aw_loopC (id := 0) I_0 M_0 J_0 (N, at_a1, ([] : List Int)) ?_ ?_ ?_
  · rw [hI_0]
    refine ⟨eq_0, ?_⟩
    exact p_impl_above_pv ff trivial
  · try clear ff
    rintro ⟨n_0, at_4, out_5⟩ σ hg_0
    rw [hI_0] at hg_0
    obtain ⟨h_0, g0_0, g1_0, g2_0, g3_0⟩ := hg_0
    cases n_0 with
    | zero => rw [p_impl_above_l0] at h_0; cases h_0
    | succ n_0 =>
      rw [p_impl_above_l0] at h_0
      by_cases c11 : at_4 ≥ 0
      case neg =>
       rw [if_neg c11] at h_0
       have dc11 := decide_eq_false c11
       have ff := ai @g0_0 (ai @g1_0 (ai @g2_0 (ai @g3_0 (ai @dc11 p_impl_above_tf.down))))
       try refine st_by ff ?_
       repeat' (first | exact trivial | refine And.intro sd ?_)
       refine JW.intro ?_
       rw [hJ_0]
       refine ⟨at_4, out_5, h_0, ?_⟩
       exact p_impl_above_pv ff trivial
      rw [if_pos c11] at h_0
      have dc11 := decide_eq_true c11
      by_cases c12 : out_5.length < 4294967296
      case neg => rw [if_neg c12] at h_0; cases h_0
      rw [if_pos c12] at h_0
      have a13a : esInt out_5 ++ [I at_4] = esInt (out_5 ++ [at_4]) := by simp [esInt_app, esInt_cons, esInt_nil, eInt_eq, esInt_nil, esSpan_nil]
      have a13b : out_5.length + 1 = (out_5 ++ [at_4]).length := by simp
      obtain ⟨x14, ex14, h_0⟩ := Option.bind_eq_some_iff.1 h_0
      try dsimp only at h_0
      have f15a := idx_lo ex14
      have f15b := idx_hi ex14
      have f15c : (esSpan l_a0).drop (at_4.toNat * 4) = eSpan x14 ++ esSpan (l_a0.drop (at_4.toNat + 1)) := drop_enc (fun _ => rfl) (idx_get ex14)
      have ff := ai @g0_0 (ai @g1_0 (ai @g2_0 (ai @g3_0 (ai @dc11 (ai @a13a (ai @a13b (ai @f15c p_impl_above_tf.down)))))))
      try refine st_by ff ?_
      repeat' (first | exact trivial | refine And.intro sd ?_)
      refine Back.intro (n_0, x14.Up, (out_5 ++ [at_4])) ?_ ?_
      · rw [hM_0]; exact Nat.lt_succ_self _
      rw [hI_0]
      refine ⟨h_0, ?_⟩
      exact p_impl_above_pv ff trivial
  · try clear ff
    rintro σ hg_0
    rw [hJ_0] at hg_0
    obtain ⟨at_4, out_5, hj_0, g0_0a, g1_0a⟩ := hg_0
    cases hj_0
    try dsimp only at h
    have ff := ai @g0_0a (ai @g1_0a p_impl_above_tf.down)
    try refine st_by ff ?_
    repeat' (first | exact trivial | refine And.intro sd ?_)
    cases h
    exact ret_q1 rfl (p_impl_above_rt ff trivial)
/-! slices.Index[[]int,int] -/
def p_slices_Index_int_int_l0 (v_a1 : Int) : List Int → Nat → Option (LR (Int) (Unit))
  | [], i_0 => some (.out ())
  | x_0 :: r_0, i_0 => (if v_a1 = x_0 then some (.ret (i_0 : Int)) else p_slices_Index_int_int_l0 v_a1 r_0 (i_0 + 1))
theorem p_slices_Index_int_int_pv {F C A : Prop} (hF : F) (hC : C) (h : F → C → A := by intro hF hC; first | exact cl_by hF | (refine st_by hF ?_; (repeat' (first | exact trivial | apply And.intro)); all_goals (clear hF; first | rfl | (simp only [hC, List.length_append, List.length_cons, List.length_nil, List.append_nil, List.nil_append, List.cons_append, List.length_set, List.append_assoc, Nat.zero_add, List.length_replicate, esInt_app, esInt_cons, esInt_nil, eInt_eq]; done) | (simp [hC, List.length_append, List.length_cons, List.length_nil, List.append_nil, List.nil_append, List.cons_append, List.length_set, List.append_assoc, Nat.zero_add, List.length_replicate, esInt_app, esInt_cons, esInt_nil, eInt_eq]; done) | omega))) : A := h hF hC
theorem p_slices_Index_int_int_sa {F C A : Prop} (hF : F) (hC : C) (h : F → C → A := by intro hF hC; first | exact ca_by hF | (refine sa_by hF ?_; (repeat' (first | exact trivial | apply And.intro)); all_goals (clear hF; first | rfl | (simp only [hC, List.length_append, List.length_cons, List.length_nil, List.append_nil, List.nil_append, List.cons_append, List.length_set, List.append_assoc, Nat.zero_add, List.length_replicate, esInt_app, esInt_cons, esInt_nil, eInt_eq]; done) | (simp [hC, List.length_append, List.length_cons, List.length_nil, List.append_nil, List.nil_append, List.cons_append, List.length_set, List.append_assoc, Nat.zero_add, List.length_replicate, esInt_app, esInt_cons, esInt_nil, eInt_eq]; done) | omega))) : A := h hF hC
theorem p_slices_Index_int_int_rt {F C A : Prop} (hF : F) (hC : C) (h : F → C → A := by intro hF hC; first | (refine sr_by hF ?_; (repeat' (first | exact trivial | apply And.intro)); all_goals (clear hF; first | rfl | (simp only [hC, List.length_append, List.length_cons, List.length_nil, List.append_nil, List.nil_append, List.cons_append, List.length_set, List.append_assoc, Nat.zero_add, List.length_replicate, esInt_app, esInt_cons, esInt_nil, eInt_eq]; done) | (simp [hC, List.length_append, List.length_cons, List.length_nil, List.append_nil, List.nil_append, List.cons_append, List.length_set, List.append_assoc, Nat.zero_add, List.length_replicate, esInt_app, esInt_cons, esInt_nil, eInt_eq]; done) | omega)) | (first | rfl | (simp only [hC, List.length_append, List.length_cons, List.length_nil, List.append_nil, List.nil_append, List.cons_append, List.length_set, List.append_assoc, Nat.zero_add, List.length_replicate, esInt_app, esInt_cons, esInt_nil, eInt_eq]; done) | (simp [hC, List.length_append, List.length_cons, List.length_nil, List.append_nil, List.nil_append, List.cons_append, List.length_set, List.append_assoc, Nat.zero_add, List.length_replicate, esInt_app, esInt_cons, esInt_nil, eInt_eq]; done) | omega)) : A := h hF hC
def p_slices_Index_int_int_tf := PLift.up (ai @eInt_eq (ai @esInt_len (ai @esInt_nil (ai @esInt_leaf (ai @esInt_fit (ai @esInt_share (ai @esInt_pure (ai @str_beq (ai @Ty.sl22 (ai @Ty.slz22 (ai @Ty.nz3 (ai @Ty.ldA3 (ai @Ty.ldS3 (ai @Ty.sz3 (ai @Ty.szn3 @trivial)))))))))))))))
def p_slices_Index_int_int (s_a0 : List Int) (v_a1 : Int) : Option (Int) := ((p_slices_Index_int_int_l0 v_a1 s_a0 0).bind fun q_0 => match q_0 with | .ret r_ => some r_ | .out _ => some (-1))
theorem p_slices_Index_int_int_does (s_a0 : List Int) (v_a1 : Int) (r : Int) (h : p_slices_Index_int_int s_a0 v_a1 = some r) : Does Try.prog 97 [.row false 1 s_a0.length (esInt s_a0), I v_a1] (I r) := by
  rw [p_slices_Index_int_int] at h
  refine Does.bnd (fun hb => ?_)
  have hb2 : s_a0.length ≤ 9223372036854775807 := by simpa [AV.fitNs, AV.fitN] using hb
  have hl0 := hb2
  refine Does.walk (nt := 19) Try.func97 rfl rfl (by simp) (by decide) rfl (fun G0 X w0 pv => ?_)
  have hL_0 : s_a0.length ≤ 9223372036854775807 := by first | assumption | omega
  obtain ⟨q_0, eq_0, h⟩ := Option.bind_eq_some_iff.1 h
  have ff := p_slices_Index_int_int_tf.down
  try refine st_by ff ?_
  repeat' (first | exact trivial | refine And.intro sd ?_)
  obtain ⟨I_0, hI_0⟩ : ∃ I_ : (Nat) → ASt → Prop, I_ = (fun (i_0 : Nat) σ => (i_0 ≤ s_a0.length ∧ p_slices_Index_int_int_l0 v_a1 (s_a0.drop i_0) i_0 = some q_0) ∧ σ.t 0 = .row false 1 s_a0.length (esInt s_a0) ∧ σ.t 1 = I v_a1 ∧ σ.t 7 = I (s_a0.length : Int) ∧ σ.t 8 = I (i_0 : Int)) := ⟨_, rfl⟩
  obtain ⟨M_0, hM_0⟩ : ∃ M_ : (Nat) → Nat, M_ = (fun (i_0 : Nat) => s_a0.length - i_0) := ⟨_, rfl⟩
  obtain ⟨J_0, hJ_0⟩ : ∃ J_ : ASt → Prop, J_ = (fun σ => (some (.out ()) = some q_0) ∧ True) := ⟨_, rfl⟩
  refine aw_loopC (id := 0) I_0 M_0 J_0 (0) ?_ ?_ ?_
  · rw [hI_0]
    refine ⟨⟨Nat.zero_le _, eq_0⟩, ?_⟩
    exact p_slices_Index_int_int_pv ff trivial
  · try clear ff
    rintro i_0 σ hg_0
    rw [hI_0] at hg_0
    obtain ⟨⟨hi_0, h_0⟩, g0_0, g1_0, g2_0, g3_0⟩ := hg_0
    cases hr_0 : s_a0.drop i_0 with
    | nil =>
      rw [hr_0] at h_0
      rw [p_slices_Index_int_int_l0] at h_0
      have hn_0 := drop_nil hr_0
      have dr_0 : decide ((i_0 : Int) < (s_a0.length : Int)) = false := decide_eq_false (by omega)
      have ff := ai @dr_0 (ai @g0_0 (ai @g1_0 (ai @g2_0 (ai @g3_0 p_slices_Index_int_int_tf.down))))
      try refine st_by ff ?_
      repeat' (first | exact trivial | refine And.intro sd ?_)
      refine JW.intro ?_
      rw [hJ_0]
      refine ⟨h_0, ?_⟩
      exact p_slices_Index_int_int_pv ff trivial
    | cons x_0 r_0 =>
      rw [hr_0] at h_0
      rw [p_slices_Index_int_int_l0] at h_0
      obtain ⟨ht_0, hg_0, hd_0⟩ := drop_cons hr_0
      have dr_0 : decide ((i_0 : Int) < (s_a0.length : Int)) = true := decide_eq_true (by omega)
      have w_0 : IntKind.i64.wrap ((i_0 : Int) + 1) = ((i_0 + 1 : Nat) : Int) := wI _ (by omega) (by omega)
      have kk0c : (esInt s_a0).drop (i_0 * 1) = eInt x_0 ++ esInt (s_a0.drop (i_0 + 1)) := drop_enc (fun _ => rfl) (hg_0)
      have kk0d := kk0c
      rw [Nat.mul_one] at kk0d
      by_cases c10 : v_a1 = x_0
      · rw [if_pos c10] at h_0
        have dc10 := beq_yes c10
        cases h_0
        try dsimp only at h
        have ff := ai @dr_0 (ai @w_0 (ai @g0_0 (ai @g1_0 (ai @g2_0 (ai @g3_0 (ai @kk0c (ai @kk0d (ai @dc10 p_slices_Index_int_int_tf.down))))))))
        try refine st_by ff ?_
        repeat' (first | exact trivial | refine And.intro sd ?_)
        cases h
        exact ret_q1 rfl (p_slices_Index_int_int_rt ff trivial)
      rw [if_neg c10] at h_0
      have dc10 := beq_no c10
      have ff := ai @dr_0 (ai @w_0 (ai @g0_0 (ai @g1_0 (ai @g2_0 (ai @g3_0 (ai @kk0c (ai @kk0d (ai @dc10 p_slices_Index_int_int_tf.down))))))))
      try refine st_by ff ?_
      repeat' (first | exact trivial | refine And.intro sd ?_)
      refine Back.intro (i_0 + 1) ?_ ?_
      · clear ff; rw [hM_0]; show s_a0.length - (i_0 + 1) < s_a0.length - i_0; omega
      rw [hI_0]
      refine ⟨⟨by clear ff; show i_0 + 1 ≤ s_a0.length; omega, by show p_slices_Index_int_int_l0 v_a1 (s_a0.drop (i_0 + 1)) (i_0 + 1) = some q_0; rw [hd_0]; exact h_0⟩, ?_⟩
      exact p_slices_Index_int_int_pv ff trivial
  · try clear ff
    rintro σ hg_0
    rw [hJ_0] at hg_0
    obtain ⟨hj_0, _⟩ := hg_0
    cases hj_0
    try dsimp only at h
    have ff := p_slices_Index_int_int_tf.down
    try refine st_by ff ?_
    repeat' (first | exact trivial | refine And.intro sd ?_)
    cases h
    exact ret_q1 rfl (p_slices_Index_int_int_rt ff trivial)
/-! slices.Contains[[]int,int] -/
theorem p_slices_Contains_int_int_pv {F C A : Prop} (hF : F) (hC : C) (h : F → C → A := by intro hF hC; first | exact cl_by hF | (refine st_by hF ?_; (repeat' (first | exact trivial | apply And.intro)); all_goals (clear hF; first | rfl | (simp only [hC, List.length_append, List.length_cons, List.length_nil, List.append_nil, List.nil_append, List.cons_append, List.length_set, List.append_assoc, Nat.zero_add, List.length_replicate, esInt_app, esInt_cons, esInt_nil, eInt_eq]; done) | (simp [hC, List.length_append, List.length_cons, List.length_nil, List.append_nil, List.nil_append, List.cons_append, List.length_set, List.append_assoc, Nat.zero_add, List.length_replicate, esInt_app, esInt_cons, esInt_nil, eInt_eq]; done) | omega))) : A := h hF hC
theorem p_slices_Contains_int_int_sa {F C A : Prop} (hF : F) (hC : C) (h : F → C → A := by intro hF hC; first | exact ca_by hF | (refine sa_by hF ?_; (repeat' (first | exact trivial | apply And.intro)); all_goals (clear hF; first | rfl | (simp only [hC, List.length_append, List.length_cons, List.length_nil, List.append_nil, List.nil_append, List.cons_append, List.length_set, List.append_assoc, Nat.zero_add, List.length_replicate, esInt_app, esInt_cons, esInt_nil, eInt_eq]; done) | (simp [hC, List.length_append, List.length_cons, List.length_nil, List.append_nil, List.nil_append, List.cons_append, List.length_set, List.append_assoc, Nat.zero_add, List.length_replicate, esInt_app, esInt_cons, esInt_nil, eInt_eq]; done) | omega))) : A := h hF hC
theorem p_slices_Contains_int_int_rt {F C A : Prop} (hF : F) (hC : C) (h : F → C → A := by intro hF hC; first | (refine sr_by hF ?_; (repeat' (first | exact trivial | apply And.intro)); all_goals (clear hF; first | rfl | (simp only [hC, List.length_append, List.length_cons, List.length_nil, List.append_nil, List.nil_append, List.cons_append, List.length_set, List.append_assoc, Nat.zero_add, List.length_replicate, esInt_app, esInt_cons, esInt_nil, eInt_eq]; done) | (simp [hC, List.length_append, List.length_cons, List.length_nil, List.append_nil, List.nil_append, List.cons_append, List.length_set, List.append_assoc, Nat.zero_add, List.length_replicate, esInt_app, esInt_cons, esInt_nil, eInt_eq]; done) | omega)) | (first | rfl | (simp only [hC, List.length_append, List.length_cons, List.length_nil, List.append_nil, List.nil_append, List.cons_append, List.length_set, List.append_assoc, Nat.zero_add, List.length_replicate, esInt_app, esInt_cons, esInt_nil, eInt_eq]; done) | (simp [hC, List.length_append, List.length_cons, List.length_nil, List.append_nil, List.nil_append, List.cons_append, List.length_set, List.append_assoc, Nat.zero_add, List.length_replicate, esInt_app, esInt_cons, esInt_nil, eInt_eq]; done) | omega)) : A := h hF hC
def p_slices_Contains_int_int_tf := PLift.up (ai @eInt_eq (ai @esInt_len (ai @esInt_nil (ai @esInt_leaf (ai @esInt_fit (ai @esInt_share (ai @esInt_pure (ai @str_beq @trivial))))))))
def p_slices_Contains_int_int (s_a0 : List Int) (v_a1 : Int) : Option (Bool) := ((p_slices_Index_int_int s_a0 v_a1).bind fun v1 => some (decide (v1 ≥ 0)))
theorem p_slices_Contains_int_int_does (s_a0 : List Int) (v_a1 : Int) (r : Bool) (h : p_slices_Contains_int_int s_a0 v_a1 = some r) : Does Try.prog 74 [.row false 1 s_a0.length (esInt s_a0), I v_a1] (B r) := by
  rw [p_slices_Contains_int_int] at h
  refine Does.bnd (fun hb => ?_)
  have hb2 : s_a0.length ≤ 9223372036854775807 := by simpa [AV.fitNs, AV.fitN] using hb
  have hl0 := hb2
  refine Does.walk (nt := 9) Try.func74 rfl rfl (by simp) (by decide) rfl (fun G0 X w0 pv => ?_)
  obtain ⟨v1, ev1, h⟩ := Option.bind_eq_some_iff.1 h
  try dsimp only at h
  have ff := p_slices_Contains_int_int_tf.down
  try refine st_by ff ?_
  repeat' (first | exact trivial | refine And.intro sd ?_)
  first
  | (refine cq_call (p_slices_Index_int_int_does s_a0 v_a1 v1 ev1) (hf_by ff) kr ⟨p_slices_Contains_int_int_sa ff trivial, ?_⟩; clear ff)
  have ff := p_slices_Contains_int_int_tf.down
  try refine st_by ff ?_
  repeat' (first | exact trivial | refine And.intro sd ?_)
  cases h
  exact ret_q1 rfl (p_slices_Contains_int_int_rt ff trivial)
/-! impl.GoodSpans -/
def p_impl_GoodSpans_l1 (x_0 : GSpan) : List GSpan → Nat → Option (LR (Bool) (Unit))
  | [], i_1 => some (.out ())
  | x_1 :: r_1, i_1 => (if x_1.Up = x_0.Up then (if x_0.From < x_1.To then some (.ret false) else p_impl_GoodSpans_l1 x_0 r_1 (i_1 + 1)) else p_impl_GoodSpans_l1 x_0 r_1 (i_1 + 1))
def p_impl_GoodSpans_j1 (N : Nat) (l_a0 : List GSpan) (x_0 : GSpan) (i_0 : Nat) (rec_0 : Nat → Option (LR (Bool) (Unit))) (b_89 : Bool) : Option (LR (Bool) (Unit)) := (if b_89 = true then some (.ret false) else ((slc l_a0 0 (i_0 : Int)).bind fun m91 => ((p_impl_GoodSpans_l1 x_0 m91 0).bind fun q_1 => match q_1 with | .ret r_ => some (.ret r_) | .out _ => (if (i_0 : Int) > 0 then (if x_0.Up ≥ 0 then ((p_impl_above N l_a0 (IntKind.i64.wrap ((i_0 : Int) - 1))).bind fun v108 => ((p_slices_Contains_int_int v108 x_0.Up).bind fun v109 => (if v109 = true then ((p_impl_above N l_a0 (i_0 : Int)).bind fun v111 => (if (v111.length : Int) > 12 then some (.ret false) else rec_0 (i_0 + 1))) else some (.ret false)))) else ((p_impl_above N l_a0 (i_0 : Int)).bind fun v113 => (if (v113.length : Int) > 12 then some (.ret false) else rec_0 (i_0 + 1)))) else ((p_impl_above N l_a0 (i_0 : Int)).bind fun v115 => (if (v115.length : Int) > 12 then some (.ret false) else rec_0 (i_0 + 1)))))))
def p_impl_GoodSpans_j0 (N : Nat) (l_a0 : List GSpan) (x_0 : GSpan) (i_0 : Nat) (rec_0 : Nat → Option (LR (Bool) (Unit))) (b_87 : Bool) : Option (LR (Bool) (Unit)) := (if b_87 = true then some (.ret false) else (if x_0.Up ≥ 0 then ((idx l_a0 x_0.Up).bind fun x118 => (if x_0.From < x118.From then p_impl_GoodSpans_j1 N l_a0 x_0 i_0 (rec_0) true else p_impl_GoodSpans_j1 N l_a0 x_0 i_0 (rec_0) (decide (x_0.To > x118.To)))) else p_impl_GoodSpans_j1 N l_a0 x_0 i_0 (rec_0) false))
def p_impl_GoodSpans_l0 (N : Nat) (l_a0 : List GSpan) : List GSpan → Nat → Option (LR (Bool) (Unit))
  | [], i_0 => some (.out ())
  | x_0 :: r_0, i_0 => (if x_0.Name.size ≤ 9223372036854775807 then (if (goodName x_0.Name) = true then (if (rng x_0.From 0 100000) = true then (if (rng x_0.To 0 100000) = true then (if x_0.From > x_0.To then p_impl_GoodSpans_j0 N l_a0 x_0 i_0 (p_impl_GoodSpans_l0 N l_a0 r_0) true else p_impl_GoodSpans_j0 N l_a0 x_0 i_0 (p_impl_GoodSpans_l0 N l_a0 r_0) (!(rng x_0.Up (-1) (IntKind.i64.wrap ((i_0 : Int) - 1))))) else p_impl_GoodSpans_j0 N l_a0 x_0 i_0 (p_impl_GoodSpans_l0 N l_a0 r_0) true) else p_impl_GoodSpans_j0 N l_a0 x_0 i_0 (p_impl_GoodSpans_l0 N l_a0 r_0) true) else p_impl_GoodSpans_j0 N l_a0 x_0 i_0 (p_impl_GoodSpans_l0 N l_a0 r_0) true) else none)
theorem p_impl_GoodSpans_pv {F C A : Prop} (hF : F) (hC : C) (h : F → C → A := by intro hF hC; first | exact cl_by hF | (refine st_by hF ?_; (repeat' (first | exact trivial | apply And.intro)); all_goals (clear hF; first | rfl | (simp only [hC, List.length_append, List.length_cons, List.length_nil, List.append_nil, List.nil_append, List.cons_append, List.length_set, List.append_assoc, Nat.zero_add, List.length_replicate, esInt_app, esInt_cons, esInt_nil, eInt_eq, esSpan_app, esSpan_cons, esSpan_nil, eSpan_eq]; done) | (simp [hC, List.length_append, List.length_cons, List.length_nil, List.append_nil, List.nil_append, List.cons_append, List.length_set, List.append_assoc, Nat.zero_add, List.length_replicate, esInt_app, esInt_cons, esInt_nil, eInt_eq, esSpan_app, esSpan_cons, esSpan_nil, eSpan_eq]; done) | omega))) : A := h hF hC
theorem p_impl_GoodSpans_sa {F C A : Prop} (hF : F) (hC : C) (h : F → C → A := by intro hF hC; first | exact ca_by hF | (refine sa_by hF ?_; (repeat' (first | exact trivial | apply And.intro)); all_goals (clear hF; first | rfl | (simp only [hC, List.length_append, List.length_cons, List.length_nil, List.append_nil, List.nil_append, List.cons_append, List.length_set, List.append_assoc, Nat.zero_add, List.length_replicate, esInt_app, esInt_cons, esInt_nil, eInt_eq, esSpan_app, esSpan_cons, esSpan_nil, eSpan_eq]; done) | (simp [hC, List.length_append, List.length_cons, List.length_nil, List.append_nil, List.nil_append, List.cons_append, List.length_set, List.append_assoc, Nat.zero_add, List.length_replicate, esInt_app, esInt_cons, esInt_nil, eInt_eq, esSpan_app, esSpan_cons, esSpan_nil, eSpan_eq]; done) | omega))) : A := h hF hC
theorem p_impl_GoodSpans_rt {F C A : Prop} (hF : F) (hC : C) (h : F → C → A := by intro hF hC; first | (refine sr_by hF ?_; (repeat' (first | exact trivial | apply And.intro)); all_goals (clear hF; first | rfl | (simp only [hC, List.length_append, List.length_cons, List.length_nil, List.append_nil, List.nil_append, List.cons_append, List.length_set, List.append_assoc, Nat.zero_add, List.length_replicate, esInt_app, esInt_cons, esInt_nil, eInt_eq, esSpan_app, esSpan_cons, esSpan_nil, eSpan_eq]; done) | (simp [hC, List.length_append, List.length_cons, List.length_nil, List.append_nil, List.nil_append, List.cons_append, List.length_set, List.append_assoc, Nat.zero_add, List.length_replicate, esInt_app, esInt_cons, esInt_nil, eInt_eq, esSpan_app, esSpan_cons, esSpan_nil, eSpan_eq]; done) | omega)) | (first | rfl | (simp only [hC, List.length_append, List.length_cons, List.length_nil, List.append_nil, List.nil_append, List.cons_append, List.length_set, List.append_assoc, Nat.zero_add, List.length_replicate, esInt_app, esInt_cons, esInt_nil, eInt_eq, esSpan_app, esSpan_cons, esSpan_nil, eSpan_eq]; done) | (simp [hC, List.length_append, List.length_cons, List.length_nil, List.append_nil, List.nil_append, List.cons_append, List.length_set, List.append_assoc, Nat.zero_add, List.length_replicate, esInt_app, esInt_cons, esInt_nil, eInt_eq, esSpan_app, esSpan_cons, esSpan_nil, eSpan_eq]; done) | omega)) : A := h hF hC
def p_impl_GoodSpans_tf := PLift.up (ai @eInt_eq (ai @esInt_len (ai @esInt_nil (ai @esInt_leaf (ai @esInt_fit (ai @eSpan_eq (ai @esSpan_len (ai @esSpan_nil (ai @esSpan_leaf (ai @esSpan_fit (ai @esInt_share (ai @esInt_pure (ai @esSpan_share (ai @esSpan_pure (ai @str_beq (ai @Ty.sl33 (ai @Ty.slz33 (ai @Ty.nz67 (ai @Ty.ldA67 (ai @Ty.sz67 (ai @Ty.szn67 (ai @Ty.nz9 (ai @Ty.ldA9 (ai @Ty.ldS9 (ai @Ty.sz9 (ai @Ty.szn9 (ai @Ty.nz3 (ai @Ty.ldA3 (ai @Ty.ldS3 (ai @Ty.sz3 (ai @Ty.szn3 (ai @Ty.fo67_0 (ai @Ty.fk67_0 (ai @Ty.fs67_0 (ai @Ty.fn67_0 (ai @Ty.fo67_1 (ai @Ty.fk67_1 (ai @Ty.fs67_1 (ai @Ty.fn67_1 (ai @Ty.fo67_2 (ai @Ty.fk67_2 (ai @Ty.fs67_2 (ai @Ty.fn67_2 (ai @Ty.fo67_3 (ai @Ty.fk67_3 (ai @Ty.fs67_3 (ai @Ty.fn67_3 (ai @Ty.sl22 (ai @Ty.nze33 (ai @Ty.zok33 (ai @Ty.by33 (ai @Ty.zs33 (ai @Ty.zv67 @trivial)))))))))))))))))))))))))))))))))))))))))))))))))))))
def p_impl_GoodSpans (N : Nat) (l_a0 : List GSpan) : Option (Bool) := ((p_impl_GoodSpans_l0 N l_a0 l_a0 0).bind fun q_0 => match q_0 with | .ret r_ => some r_ | .out _ => some (decide ((l_a0.length : Int) ≤ 200)))
theorem p_impl_GoodSpans_does (N : Nat) (l_a0 : List GSpan) (r : Bool) (h : p_impl_GoodSpans N l_a0 = some r) : Does Try.prog 40 [.row false 4 l_a0.length (esSpan l_a0)] (B r) := by
  rw [p_impl_GoodSpans] at h
  refine Does.bnd (fun hb => ?_)
  have hb2 : l_a0.length ≤ 9223372036854775807 := by simpa [AV.fitNs, AV.fitN] using hb
  have hl0 := hb2
  refine Does.walk (nt := 119) Try.func40 rfl rfl (by simp) (by decide) rfl (fun G0 X w0 pv => ?_)
  have hL_0 : l_a0.length ≤ 9223372036854775807 := by first | assumption | omega
  obtain ⟨q_0, eq_0, h⟩ := Option.bind_eq_some_iff.1 h
  have ff := p_impl_GoodSpans_tf.down
  try refine st_by ff ?_
  repeat' (first | exact trivial | refine And.intro sd ?_)
  obtain ⟨I_0, hI_0⟩ : ∃ I_ : (Nat) → ASt → Prop, I_ = (fun (i_0 : Nat) σ => (i_0 ≤ l_a0.length ∧ p_impl_GoodSpans_l0 N l_a0 (l_a0.drop i_0) i_0 = some q_0) ∧ σ.t 0 = .row false 4 l_a0.length (esSpan l_a0) ∧ σ.t 7 = .row false 4 l_a0.length (esSpan l_a0) ∧ σ.t 8 = I (l_a0.length : Int) ∧ σ.t 9 = I (i_0 : Int)) := ⟨_, rfl⟩
  obtain ⟨M_0, hM_0⟩ : ∃ M_ : (Nat) → Nat, M_ = (fun (i_0 : Nat) => l_a0.length - i_0) := ⟨_, rfl⟩
  obtain ⟨J_0, hJ_0⟩ : ∃ J_ : ASt → Prop, J_ = (fun σ => (some (.out ()) = some q_0) ∧ σ.t 0 = .row false 4 l_a0.length (esSpan l_a0)) := ⟨_, rfl⟩
  refine aw_loopC (id := 0) I_0 M_0 J_0 (0) ?_ ?_ ?_
  · rw [hI_0]
    refine ⟨⟨Nat.zero_le _, eq_0⟩, ?_⟩
    exact p_impl_GoodSpans_pv ff trivial
  · try clear ff
    rintro i_0 σ hg_0
    rw [hI_0] at hg_0
    obtain ⟨⟨hi_0, h_0⟩, g0_0, g1_0, g2_0, g3_0⟩ := hg_0
    cases hr_0 : l_a0.drop i_0 with
    | nil =>
      rw [hr_0] at h_0
      rw [p_impl_GoodSpans_l0] at h_0
      have hn_0 := drop_nil hr_0
      have dr_0 : decide ((i_0 : Int) < (l_a0.length : Int)) = false := decide_eq_false (by omega)
      have ff := ai @dr_0 (ai @g0_0 (ai @g1_0 (ai @g2_0 (ai @g3_0 p_impl_GoodSpans_tf.down))))
      try refine st_by ff ?_
      repeat' (first | exact trivial | refine And.intro sd ?_)
      refine JW.intro ?_
      rw [hJ_0]
      refine ⟨h_0, ?_⟩
      exact p_impl_GoodSpans_pv ff trivial
    | cons x_0 r_0 =>
      rw [hr_0] at h_0
      rw [p_impl_GoodSpans_l0] at h_0
      obtain ⟨ht_0, hg_0, hd_0⟩ := drop_cons hr_0
      have dr_0 : decide ((i_0 : Int) < (l_a0.length : Int)) = true := decide_eq_true (by omega)
      have w_0 : IntKind.i64.wrap ((i_0 : Int) + 1) = ((i_0 + 1 : Nat) : Int) := wI _ (by omega) (by omega)
      have kk0c : (esSpan l_a0).drop (i_0 * 4) = eSpan x_0 ++ esSpan (l_a0.drop (i_0 + 1)) := drop_enc (fun _ => rfl) (hg_0)
      by_cases c86 : x_0.Name.size ≤ 9223372036854775807
      case neg => rw [if_neg c86] at h_0; cases h_0
      rw [if_pos c86] at h_0
      have ff := ai @dr_0 (ai @w_0 (ai @g0_0 (ai @g1_0 (ai @g2_0 (ai @g3_0 (ai @kk0c p_impl_GoodSpans_tf.down))))))
      try refine st_by ff ?_
      repeat' (first | exact trivial | refine And.intro sd ?_)
      first
      | (refine cq_call (implGoodName_does x_0.Name (by first | assumption | omega)) (hf_by ff) kr ⟨p_impl_GoodSpans_sa ff trivial, ?_⟩; clear ff)
      | (refine cq_dcall (implGoodName_does x_0.Name (by first | assumption | omega)) (hf_by ff) kr ⟨p_impl_GoodSpans_sa ff trivial, ?_⟩; clear ff)
      have ff := ai @dr_0 (ai @w_0 (ai @g0_0 (ai @g1_0 (ai @g2_0 (ai @g3_0 (ai @kk0c p_impl_GoodSpans_tf.down))))))
      try refine st_by ff ?_
      repeat' (first | exact trivial | refine And.intro sd ?_)
      try clear ff
      generalize hk_0 : thenK _ _ = kk_0
      have key_0 : ∀ σ, (∃ b_87 : Bool, (p_impl_GoodSpans_j0 N l_a0 x_0 i_0 (p_impl_GoodSpans_l0 N l_a0 r_0) b_87 = some q_0) ∧ σ.t 0 = .row false 4 l_a0.length (esSpan l_a0) ∧ σ.t 3 = I (i_0 : Int) ∧ σ.t 4 = .ptr 4 [] 0 ∧ σ.t 7 = .row false 4 l_a0.length (esSpan l_a0) ∧ σ.t 8 = I (l_a0.length : Int) ∧ σ.t 9 = I (i_0 : Int) ∧ σ.t 44 = B b_87 ∧ σ.m 4 = some (.box true [S x_0.Name, I x_0.From, I x_0.To, I x_0.Up])) → kk_0 .nm σ := by
        rintro σ ⟨b_87, h_0, g0_j0, g1_j0, g2_j0, g3_j0, g4_j0, g5_j0, g6_j0, g7_j0⟩
        rw [← hk_0]
        rw [p_impl_GoodSpans_j0] at h_0
        by_cases c88 : b_87 = true
        · rw [if_pos c88] at h_0
          have dc88 := c88
          cases h_0
          try dsimp only at h
          have ff := ai @dr_0 (ai @w_0 (ai @kk0c (ai @g0_j0 (ai @g1_j0 (ai @g2_j0 (ai @g3_j0 (ai @g4_j0 (ai @g5_j0 (ai @g6_j0 (ai @g7_j0 (ai @dc88 p_impl_GoodSpans_tf.down)))))))))))
          try refine st_by ff ?_
          repeat' (first | exact trivial | refine And.intro sd ?_)
          cases h
          exact ret_q1 rfl (p_impl_GoodSpans_rt ff trivial)
        rw [if_neg c88] at h_0
        have dc88 := eq_false_of_ne_true c88
        have ff := ai @dr_0 (ai @w_0 (ai @kk0c (ai @g0_j0 (ai @g1_j0 (ai @g2_j0 (ai @g3_j0 (ai @g4_j0 (ai @g5_j0 (ai @g6_j0 (ai @g7_j0 (ai @dc88 p_impl_GoodSpans_tf.down)))))))))))
        try refine st_by ff ?_
        repeat' (first | exact trivial | refine And.intro sd ?_ | (refine aw_drawn (id := 6) ?_ [[], [0], [0, 1], [0, 1, 2], [0, 1, 2, 3], [0, 1, 2, 3, 4], [0, 1, 2, 3], [0, 1, 2, 3], [0, 1, 2, 3, 7], [0, 1, 2, 3, 6, 7, 8], [0, 1, 2, 3, 6, 7, 8, 9], [0, 1, 2, 3, 6, 7, 8, 9, 10], [0, 1, 2, 3, 4, 5, 6, 7, 8, 9, 10, 11], [0, 1, 2, 3, 4, 5, 6, 7, 8, 9, 10, 11, 12], [0, 1, 2, 3, 4, 5, 6, 7, 8, 9, 10, 11, 12, 13], [0, 1, 2, 3, 4, 5, 6, 7, 8, 9, 10, 11, 12, 13, 14], [0, 1, 2, 3, 4, 5, 6, 7, 8, 9, 10, 11, 12, 13], [0, 1, 2, 3, 4, 5, 6, 7, 8, 9, 10, 11, 12, 13], [0, 1, 2, 3, 4, 5, 6, 7, 8, 9, 10, 11, 12, 13, 17], [0, 1, 2, 3, 4, 5, 6, 7, 8, 9, 10, 11, 12, 13, 16, 17, 18], [0, 1, 2, 3, 4, 5, 6, 7, 8, 9, 10, 11, 12, 13, 16, 17, 18, 19], [0, 1, 2, 3, 4, 5, 6, 7, 8, 9, 10, 11, 12, 13, 16, 17, 18, 19, 20], [0, 1, 2, 3, 4, 5, 6, 7, 8, 9, 10, 11, 12, 13, 14, 15, 16, 17, 18, 19, 20, 21], [0, 1, 2, 3, 4, 5, 6, 7, 8, 9, 10, 11, 12, 13, 14, 15, 16, 17, 18, 19, 20, 21, 22], [0, 1, 2, 3, 4, 5, 6, 7, 8, 9, 10, 11, 12, 13, 14, 15, 16, 17, 18, 19, 20, 21, 22, 23]] 22 ?_ ?_; (· kernel_rfl); (· kernel_rfl); refine st_by ff ?_))
        try clear ff
        generalize hk_1 : thenK _ _ = kk_1
        have key_1 : ∀ σ, (∃ b_89 : Bool, (p_impl_GoodSpans_j1 N l_a0 x_0 i_0 (p_impl_GoodSpans_l0 N l_a0 r_0) b_89 = some q_0) ∧ σ.t 0 = .row false 4 l_a0.length (esSpan l_a0) ∧ σ.t 3 = I (i_0 : Int) ∧ σ.t 4 = .ptr 4 [] 0 ∧ σ.t 7 = .row false 4 l_a0.length (esSpan l_a0) ∧ σ.t 8 = I (l_a0.length : Int) ∧ σ.t 9 = I (i_0 : Int) ∧ σ.t 69 = B b_89 ∧ σ.m 4 = some (.box true [S x_0.Name, I x_0.From, I x_0.To, I x_0.Up])) → kk_1 .nm σ := by
          rintro σ ⟨b_89, h_0, g0_j1, g1_j1, g2_j1, g3_j1, g4_j1, g5_j1, g6_j1, g7_j1⟩
          rw [← hk_1]
          rw [p_impl_GoodSpans_j1] at h_0
          by_cases c90 : b_89 = true
          · rw [if_pos c90] at h_0
            have dc90 := c90
            cases h_0
            try dsimp only at h
            have ff := ai @dr_0 (ai @w_0 (ai @kk0c (ai @dc88 (ai @g0_j1 (ai @g1_j1 (ai @g2_j1 (ai @g3_j1 (ai @g4_j1 (ai @g5_j1 (ai @g6_j1 (ai @g7_j1 (ai @dc90 p_impl_GoodSpans_tf.down))))))))))))
            try refine st_by ff ?_
            repeat' (first | exact trivial | refine And.intro sd ?_ | (refine aw_drawn (id := 6) ?_ [[], [0], [0, 1], [0, 1, 2], [0, 1, 2, 3], [0, 1, 2, 3, 4], [0, 1, 2, 3], [0, 1, 2, 3], [0, 1, 2, 3, 7], [0, 1, 2, 3, 6, 7, 8], [0, 1, 2, 3, 6, 7, 8, 9], [0, 1, 2, 3, 6, 7, 8, 9, 10], [0, 1, 2, 3, 4, 5, 6, 7, 8, 9, 10, 11], [0, 1, 2, 3, 4, 5, 6, 7, 8, 9, 10, 11, 12], [0, 1, 2, 3, 4, 5, 6, 7, 8, 9, 10, 11, 12, 13], [0, 1, 2, 3, 4, 5, 6, 7, 8, 9, 10, 11, 12, 13, 14], [0, 1, 2, 3, 4, 5, 6, 7, 8, 9, 10, 11, 12, 13], [0, 1, 2, 3, 4, 5, 6, 7, 8, 9, 10, 11, 12, 13], [0, 1, 2, 3, 4, 5, 6, 7, 8, 9, 10, 11, 12, 13, 17], [0, 1, 2, 3, 4, 5, 6, 7, 8, 9, 10, 11, 12, 13, 16, 17, 18], [0, 1, 2, 3, 4, 5, 6, 7, 8, 9, 10, 11, 12, 13, 16, 17, 18, 19], [0, 1, 2, 3, 4, 5, 6, 7, 8, 9, 10, 11, 12, 13, 16, 17, 18, 19, 20], [0, 1, 2, 3, 4, 5, 6, 7, 8, 9, 10, 11, 12, 13, 14, 15, 16, 17, 18, 19, 20, 21], [0, 1, 2, 3, 4, 5, 6, 7, 8, 9, 10, 11, 12, 13, 14, 15, 16, 17, 18, 19, 20, 21, 22], [0, 1, 2, 3, 4, 5, 6, 7, 8, 9, 10, 11, 12, 13, 14, 15, 16, 17, 18, 19, 20, 21, 22, 23]] 22 ?_ ?_; (· kernel_rfl); (· kernel_rfl); refine st_by ff ?_))
            cases h
            exact ret_q1 rfl (p_impl_GoodSpans_rt ff trivial)
          rw [if_neg c90] at h_0
          have dc90 := eq_false_of_ne_true c90
          obtain ⟨m91, em91, h_0⟩ := Option.bind_eq_some_iff.1 h_0
          try dsimp only at h_0
          obtain ⟨f92a, f92b⟩ := slc_ok em91
          have f92c : (esSpan l_a0).take (i_0 * 4) = esSpan m91 := slc_encL (enc := eSpan) (fun _ => rfl) em91
          have f92d : m91.length = i_0 := (slc_lenL em91).symm
          have hL_1 : m91.length ≤ 9223372036854775807 := by first | assumption | omega
          obtain ⟨q_1, eq_1, h_0⟩ := Option.bind_eq_some_iff.1 h_0
          have ff := ai @dr_0 (ai @w_0 (ai @kk0c (ai @dc88 (ai @g0_j1 (ai @g1_j1 (ai @g2_j1 (ai @g3_j1 (ai @g4_j1 (ai @g5_j1 (ai @g6_j1 (ai @g7_j1 (ai @dc90 (ai @f92c p_impl_GoodSpans_tf.down)))))))))))))
          try refine st_by ff ?_
          repeat' (first | exact trivial | refine And.intro sd ?_ | (refine aw_drawn (id := 6) ?_ [[], [0], [0, 1], [0, 1, 2], [0, 1, 2, 3], [0, 1, 2, 3, 4], [0, 1, 2, 3], [0, 1, 2, 3], [0, 1, 2, 3, 7], [0, 1, 2, 3, 6, 7, 8], [0, 1, 2, 3, 6, 7, 8, 9], [0, 1, 2, 3, 6, 7, 8, 9, 10], [0, 1, 2, 3, 4, 5, 6, 7, 8, 9, 10, 11], [0, 1, 2, 3, 4, 5, 6, 7, 8, 9, 10, 11, 12], [0, 1, 2, 3, 4, 5, 6, 7, 8, 9, 10, 11, 12, 13], [0, 1, 2, 3, 4, 5, 6, 7, 8, 9, 10, 11, 12, 13, 14], [0, 1, 2, 3, 4, 5, 6, 7, 8, 9, 10, 11, 12, 13], [0, 1, 2, 3, 4, 5, 6, 7, 8, 9, 10, 11, 12, 13], [0, 1, 2, 3, 4, 5, 6, 7, 8, 9, 10, 11, 12, 13, 17], [0, 1, 2, 3, 4, 5, 6, 7, 8, 9, 10, 11, 12, 13, 16, 17, 18], [0, 1, 2, 3, 4, 5, 6, 7, 8, 9, 10, 11, 12, 13, 16, 17, 18, 19], [0, 1, 2, 3, 4, 5, 6, 7, 8, 9, 10, 11, 12, 13, 16, 17, 18, 19, 20], [0, 1, 2, 3, 4, 5, 6, 7, 8, 9, 10, 11, 12, 13, 14, 15, 16, 17, 18, 19, 20, 21], [0, 1, 2, 3, 4, 5, 6, 7, 8, 9, 10, 11, 12, 13, 14, 15, 16, 17, 18, 19, 20, 21, 22], [0, 1, 2, 3, 4, 5, 6, 7, 8, 9, 10, 11, 12, 13, 14, 15, 16, 17, 18, 19, 20, 21, 22, 23]] 22 ?_ ?_; (· kernel_rfl); (· kernel_rfl); refine st_by ff ?_))
          obtain ⟨I_1, hI_1⟩ : ∃ I_ : (Nat) → ASt → Prop, I_ = (fun (i_1 : Nat) σ => (i_1 ≤ m91.length ∧ p_impl_GoodSpans_l1 x_0 (m91.drop i_1) i_1 = some q_1) ∧ σ.t 0 = .row false 4 l_a0.length (esSpan l_a0) ∧ σ.t 3 = I (i_0 : Int) ∧ σ.t 4 = .ptr 4 [] 0 ∧ σ.t 7 = .row false 4 l_a0.length (esSpan l_a0) ∧ σ.t 8 = I (l_a0.length : Int) ∧ σ.t 9 = I (i_0 : Int) ∧ σ.t 72 = .row false 4 m91.length (esSpan m91) ∧ σ.t 73 = I (m91.length : Int) ∧ σ.t 74 = I (i_1 : Int) ∧ σ.m 4 = some (.box true [S x_0.Name, I x_0.From, I x_0.To, I x_0.Up])) := ⟨_, rfl⟩
          obtain ⟨M_1, hM_1⟩ : ∃ M_ : (Nat) → Nat, M_ = (fun (i_1 : Nat) => m91.length - i_1) := ⟨_, rfl⟩
          obtain ⟨J_1, hJ_1⟩ : ∃ J_ : ASt → Prop, J_ = (fun σ => (some (.out ()) = some q_1) ∧ σ.t 0 = .row false 4 l_a0.length (esSpan l_a0) ∧ σ.t 3 = I (i_0 : Int) ∧ σ.t 4 = .ptr 4 [] 0 ∧ σ.t 7 = .row false 4 l_a0.length (esSpan l_a0) ∧ σ.t 8 = I (l_a0.length : Int) ∧ σ.t 9 = I (i_0 : Int) ∧ σ.m 4 = some (.box true [S x_0.Name, I x_0.From, I x_0.To, I x_0.Up])) := ⟨_, rfl⟩
          refine aw_loopC (id := 2) I_1 M_1 J_1 (0) ?_ ?_ ?_
          · rw [hI_1]
            refine ⟨⟨Nat.zero_le _, eq_1⟩, ?_⟩
            exact p_impl_GoodSpans_pv ff @f92d
          · try clear ff
            rintro i_1 σ hg_1
            rw [hI_1] at hg_1
            obtain ⟨⟨hi_1, h_1⟩, g0_1, g1_1, g2_1, g3_1, g4_1, g5_1, g6_1, g7_1, g8_1, g9_1⟩ := hg_1
            cases hr_1 : m91.drop i_1 with
            | nil =>
              rw [hr_1] at h_1
              rw [p_impl_GoodSpans_l1] at h_1
              have hn_1 := drop_nil hr_1
              have dr_1 : decide ((i_1 : Int) < (m91.length : Int)) = false := decide_eq_false (by omega)
              have ff := ai @dr_0 (ai @w_0 (ai @kk0c (ai @dc88 (ai @dc90 (ai @f92c (ai @dr_1 (ai @g0_1 (ai @g1_1 (ai @g2_1 (ai @g3_1 (ai @g4_1 (ai @g5_1 (ai @g6_1 (ai @g7_1 (ai @g8_1 (ai @g9_1 p_impl_GoodSpans_tf.down))))))))))))))))
              try refine st_by ff ?_
              repeat' (first | exact trivial | refine And.intro sd ?_ | (refine aw_drawn (id := 6) ?_ [[], [0], [0, 1], [0, 1, 2], [0, 1, 2, 3], [0, 1, 2, 3, 4], [0, 1, 2, 3], [0, 1, 2, 3], [0, 1, 2, 3, 7], [0, 1, 2, 3, 6, 7, 8], [0, 1, 2, 3, 6, 7, 8, 9], [0, 1, 2, 3, 6, 7, 8, 9, 10], [0, 1, 2, 3, 4, 5, 6, 7, 8, 9, 10, 11], [0, 1, 2, 3, 4, 5, 6, 7, 8, 9, 10, 11, 12], [0, 1, 2, 3, 4, 5, 6, 7, 8, 9, 10, 11, 12, 13], [0, 1, 2, 3, 4, 5, 6, 7, 8, 9, 10, 11, 12, 13, 14], [0, 1, 2, 3, 4, 5, 6, 7, 8, 9, 10, 11, 12, 13], [0, 1, 2, 3, 4, 5, 6, 7, 8, 9, 10, 11, 12, 13], [0, 1, 2, 3, 4, 5, 6, 7, 8, 9, 10, 11, 12, 13, 17], [0, 1, 2, 3, 4, 5, 6, 7, 8, 9, 10, 11, 12, 13, 16, 17, 18], [0, 1, 2, 3, 4, 5, 6, 7, 8, 9, 10, 11, 12, 13, 16, 17, 18, 19], [0, 1, 2, 3, 4, 5, 6, 7, 8, 9, 10, 11, 12, 13, 16, 17, 18, 19, 20], [0, 1, 2, 3, 4, 5, 6, 7, 8, 9, 10, 11, 12, 13, 14, 15, 16, 17, 18, 19, 20, 21], [0, 1, 2, 3, 4, 5, 6, 7, 8, 9, 10, 11, 12, 13, 14, 15, 16, 17, 18, 19, 20, 21, 22], [0, 1, 2, 3, 4, 5, 6, 7, 8, 9, 10, 11, 12, 13, 14, 15, 16, 17, 18, 19, 20, 21, 22, 23]] 22 ?_ ?_; (· kernel_rfl); (· kernel_rfl); refine st_by ff ?_))
              refine JW.intro ?_
              rw [hJ_1]
              refine ⟨h_1, ?_⟩
              exact p_impl_GoodSpans_pv ff @f92d
            | cons x_1 r_1 =>
              rw [hr_1] at h_1
              rw [p_impl_GoodSpans_l1] at h_1
              obtain ⟨ht_1, hg_1, hd_1⟩ := drop_cons hr_1
              have dr_1 : decide ((i_1 : Int) < (m91.length : Int)) = true := decide_eq_true (by omega)
              have w_1 : IntKind.i64.wrap ((i_1 : Int) + 1) = ((i_1 + 1 : Nat) : Int) := wI _ (by omega) (by omega)
              have kk1c : (esSpan m91).drop (i_1 * 4) = eSpan x_1 ++ esSpan (m91.drop (i_1 + 1)) := drop_enc (fun _ => rfl) (hg_1)
              by_cases c104 : x_1.Up = x_0.Up
              case neg =>
               rw [if_neg c104] at h_1
               have dc104 := beq_no c104
               have ff := ai @dr_0 (ai @w_0 (ai @kk0c (ai @dc88 (ai @dc90 (ai @f92c (ai @dr_1 (ai @w_1 (ai @g0_1 (ai @g1_1 (ai @g2_1 (ai @g3_1 (ai @g4_1 (ai @g5_1 (ai @g6_1 (ai @g7_1 (ai @g8_1 (ai @g9_1 (ai @kk1c (ai @dc104 p_impl_GoodSpans_tf.down)))))))))))))))))))
               try refine st_by ff ?_
               repeat' (first | exact trivial | refine And.intro sd ?_ | (refine aw_drawn (id := 6) ?_ [[], [0], [0, 1], [0, 1, 2], [0, 1, 2, 3], [0, 1, 2, 3, 4], [0, 1, 2, 3], [0, 1, 2, 3], [0, 1, 2, 3, 7], [0, 1, 2, 3, 6, 7, 8], [0, 1, 2, 3, 6, 7, 8, 9], [0, 1, 2, 3, 6, 7, 8, 9, 10], [0, 1, 2, 3, 4, 5, 6, 7, 8, 9, 10, 11], [0, 1, 2, 3, 4, 5, 6, 7, 8, 9, 10, 11, 12], [0, 1, 2, 3, 4, 5, 6, 7, 8, 9, 10, 11, 12, 13], [0, 1, 2, 3, 4, 5, 6, 7, 8, 9, 10, 11, 12, 13, 14], [0, 1, 2, 3, 4, 5, 6, 7, 8, 9, 10, 11, 12, 13], [0, 1, 2, 3, 4, 5, 6, 7, 8, 9, 10, 11, 12, 13], [0, 1, 2, 3, 4, 5, 6, 7, 8, 9, 10, 11, 12, 13, 17], [0, 1, 2, 3, 4, 5, 6, 7, 8, 9, 10, 11, 12, 13, 16, 17, 18], [0, 1, 2, 3, 4, 5, 6, 7, 8, 9, 10, 11, 12, 13, 16, 17, 18, 19], [0, 1, 2, 3, 4, 5, 6, 7, 8, 9, 10, 11, 12, 13, 16, 17, 18, 19, 20], [0, 1, 2, 3, 4, 5, 6, 7, 8, 9, 10, 11, 12, 13, 14, 15, 16, 17, 18, 19, 20, 21], [0, 1, 2, 3, 4, 5, 6, 7, 8, 9, 10, 11, 12, 13, 14, 15, 16, 17, 18, 19, 20, 21, 22], [0, 1, 2, 3, 4, 5, 6, 7, 8, 9, 10, 11, 12, 13, 14, 15, 16, 17, 18, 19, 20, 21, 22, 23]] 22 ?_ ?_; (· kernel_rfl); (· kernel_rfl); refine st_by ff ?_))
               refine Back.intro (i_1 + 1) ?_ ?_
               · clear ff; rw [hM_1]; show m91.length - (i_1 + 1) < m91.length - i_1; omega
               rw [hI_1]
               refine ⟨⟨by clear ff; show i_1 + 1 ≤ m91.length; omega, by show p_impl_GoodSpans_l1 x_0 (m91.drop (i_1 + 1)) (i_1 + 1) = some q_1; rw [hd_1]; exact h_1⟩, ?_⟩
               exact p_impl_GoodSpans_pv ff @f92d
              rw [if_pos c104] at h_1
              have dc104 := beq_yes c104
              by_cases c105 : x_0.From < x_1.To
              case neg =>
               rw [if_neg c105] at h_1
               have dc105 := decide_eq_false c105
               have ff := ai @dr_0 (ai @w_0 (ai @kk0c (ai @dc88 (ai @dc90 (ai @f92c (ai @dr_1 (ai @w_1 (ai @g0_1 (ai @g1_1 (ai @g2_1 (ai @g3_1 (ai @g4_1 (ai @g5_1 (ai @g6_1 (ai @g7_1 (ai @g8_1 (ai @g9_1 (ai @kk1c (ai @dc104 (ai @dc105 p_impl_GoodSpans_tf.down))))))))))))))))))))
               try refine st_by ff ?_
               repeat' (first | exact trivial | refine And.intro sd ?_ | (refine aw_drawn (id := 6) ?_ [[], [0], [0, 1], [0, 1, 2], [0, 1, 2, 3], [0, 1, 2, 3, 4], [0, 1, 2, 3], [0, 1, 2, 3], [0, 1, 2, 3, 7], [0, 1, 2, 3, 6, 7, 8], [0, 1, 2, 3, 6, 7, 8, 9], [0, 1, 2, 3, 6, 7, 8, 9, 10], [0, 1, 2, 3, 4, 5, 6, 7, 8, 9, 10, 11], [0, 1, 2, 3, 4, 5, 6, 7, 8, 9, 10, 11, 12], [0, 1, 2, 3, 4, 5, 6, 7, 8, 9, 10, 11, 12, 13], [0, 1, 2, 3, 4, 5, 6, 7, 8, 9, 10, 11, 12, 13, 14], [0, 1, 2, 3, 4, 5, 6, 7, 8, 9, 10, 11, 12, 13], [0, 1, 2, 3, 4, 5, 6, 7, 8, 9, 10, 11, 12, 13], [0, 1, 2, 3, 4, 5, 6, 7, 8, 9, 10, 11, 12, 13, 17], [0, 1, 2, 3, 4, 5, 6, 7, 8, 9, 10, 11, 12, 13, 16, 17, 18], [0, 1, 2, 3, 4, 5, 6, 7, 8, 9, 10, 11, 12, 13, 16, 17, 18, 19], [0, 1, 2, 3, 4, 5, 6, 7, 8, 9, 10, 11, 12, 13, 16, 17, 18, 19, 20], [0, 1, 2, 3, 4, 5, 6, 7, 8, 9, 10, 11, 12, 13, 14, 15, 16, 17, 18, 19, 20, 21], [0, 1, 2, 3, 4, 5, 6, 7, 8, 9, 10, 11, 12, 13, 14, 15, 16, 17, 18, 19, 20, 21, 22], [0, 1, 2, 3, 4, 5, 6, 7, 8, 9, 10, 11, 12, 13, 14, 15, 16, 17, 18, 19, 20, 21, 22, 23]] 22 ?_ ?_; (· kernel_rfl); (· kernel_rfl); refine st_by ff ?_))
               refine Back.intro (i_1 + 1) ?_ ?_
               · clear ff; rw [hM_1]; show m91.length - (i_1 + 1) < m91.length - i_1; omega
               rw [hI_1]
               refine ⟨⟨by clear ff; show i_1 + 1 ≤ m91.length; omega, by show p_impl_GoodSpans_l1 x_0 (m91.drop (i_1 + 1)) (i_1 + 1) = some q_1; rw [hd_1]; exact h_1⟩, ?_⟩
               exact p_impl_GoodSpans_pv ff @f92d
              rw [if_pos c105] at h_1
              have dc105 := decide_eq_true c105
              cases h_1
              try dsimp only at h_0
              cases h_0
              try dsimp only at h
              have ff := ai @dr_0 (ai @w_0 (ai @kk0c (ai @dc88 (ai @dc90 (ai @f92c (ai @dr_1 (ai @w_1 (ai @g0_1 (ai @g1_1 (ai @g2_1 (ai @g3_1 (ai @g4_1 (ai @g5_1 (ai @g6_1 (ai @g7_1 (ai @g8_1 (ai @g9_1 (ai @kk1c (ai @dc104 (ai @dc105 p_impl_GoodSpans_tf.down))))))))))))))))))))
              try refine st_by ff ?_
              repeat' (first | exact trivial | refine And.intro sd ?_ | (refine aw_drawn (id := 6) ?_ [[], [0], [0, 1], [0, 1, 2], [0, 1, 2, 3], [0, 1, 2, 3, 4], [0, 1, 2, 3], [0, 1, 2, 3], [0, 1, 2, 3, 7], [0, 1, 2, 3, 6, 7, 8], [0, 1, 2, 3, 6, 7, 8, 9], [0, 1, 2, 3, 6, 7, 8, 9, 10], [0, 1, 2, 3, 4, 5, 6, 7, 8, 9, 10, 11], [0, 1, 2, 3, 4, 5, 6, 7, 8, 9, 10, 11, 12], [0, 1, 2, 3, 4, 5, 6, 7, 8, 9, 10, 11, 12, 13], [0, 1, 2, 3, 4, 5, 6, 7, 8, 9, 10, 11, 12, 13, 14], [0, 1, 2, 3, 4, 5, 6, 7, 8, 9, 10, 11, 12, 13], [0, 1, 2, 3, 4, 5, 6, 7, 8, 9, 10, 11, 12, 13], [0, 1, 2, 3, 4, 5, 6, 7, 8, 9, 10, 11, 12, 13, 17], [0, 1, 2, 3, 4, 5, 6, 7, 8, 9, 10, 11, 12, 13, 16, 17, 18], [0, 1, 2, 3, 4, 5, 6, 7, 8, 9, 10, 11, 12, 13, 16, 17, 18, 19], [0, 1, 2, 3, 4, 5, 6, 7, 8, 9, 10, 11, 12, 13, 16, 17, 18, 19, 20], [0, 1, 2, 3, 4, 5, 6, 7, 8, 9, 10, 11, 12, 13, 14, 15, 16, 17, 18, 19, 20, 21], [0, 1, 2, 3, 4, 5, 6, 7, 8, 9, 10, 11, 12, 13, 14, 15, 16, 17, 18, 19, 20, 21, 22], [0, 1, 2, 3, 4, 5, 6, 7, 8, 9, 10, 11, 12, 13, 14, 15, 16, 17, 18, 19, 20, 21, 22, 23]] 22 ?_ ?_; (· kernel_rfl); (· kernel_rfl); refine st_by ff ?_))
              cases h
              exact ret_q1 rfl (p_impl_GoodSpans_rt ff @f92d)
          · try clear ff
            rintro σ hg_1
            rw [hJ_1] at hg_1
            obtain ⟨hj_1, g0_1a, g1_1a, g2_1a, g3_1a, g4_1a, g5_1a, g6_1a⟩ := hg_1
            cases hj_1
            try dsimp only at h_0
            by_cases c106 : (i_0 : Int) > 0
            case neg =>
             rw [if_neg c106] at h_0
             have dc106 := decide_eq_false c106
             obtain ⟨v115, ev115, h_0⟩ := Option.bind_eq_some_iff.1 h_0
             try dsimp only at h_0
             have ff := ai @dr_0 (ai @w_0 (ai @kk0c (ai @dc88 (ai @dc90 (ai @f92c (ai @g0_1a (ai @g1_1a (ai @g2_1a (ai @g3_1a (ai @g4_1a (ai @g5_1a (ai @g6_1a (ai @dc106 p_impl_GoodSpans_tf.down)))))))))))))
             try refine st_by ff ?_
             repeat' (first | exact trivial | refine And.intro sd ?_ | (refine aw_drawn (id := 6) ?_ [[], [0], [0, 1], [0, 1, 2], [0, 1, 2, 3], [0, 1, 2, 3, 4], [0, 1, 2, 3], [0, 1, 2, 3], [0, 1, 2, 3, 7], [0, 1, 2, 3, 6, 7, 8], [0, 1, 2, 3, 6, 7, 8, 9], [0, 1, 2, 3, 6, 7, 8, 9, 10], [0, 1, 2, 3, 4, 5, 6, 7, 8, 9, 10, 11], [0, 1, 2, 3, 4, 5, 6, 7, 8, 9, 10, 11, 12], [0, 1, 2, 3, 4, 5, 6, 7, 8, 9, 10, 11, 12, 13], [0, 1, 2, 3, 4, 5, 6, 7, 8, 9, 10, 11, 12, 13, 14], [0, 1, 2, 3, 4, 5, 6, 7, 8, 9, 10, 11, 12, 13], [0, 1, 2, 3, 4, 5, 6, 7, 8, 9, 10, 11, 12, 13], [0, 1, 2, 3, 4, 5, 6, 7, 8, 9, 10, 11, 12, 13, 17], [0, 1, 2, 3, 4, 5, 6, 7, 8, 9, 10, 11, 12, 13, 16, 17, 18], [0, 1, 2, 3, 4, 5, 6, 7, 8, 9, 10, 11, 12, 13, 16, 17, 18, 19], [0, 1, 2, 3, 4, 5, 6, 7, 8, 9, 10, 11, 12, 13, 16, 17, 18, 19, 20], [0, 1, 2, 3, 4, 5, 6, 7, 8, 9, 10, 11, 12, 13, 14, 15, 16, 17, 18, 19, 20, 21], [0, 1, 2, 3, 4, 5, 6, 7, 8, 9, 10, 11, 12, 13, 14, 15, 16, 17, 18, 19, 20, 21, 22], [0, 1, 2, 3, 4, 5, 6, 7, 8, 9, 10, 11, 12, 13, 14, 15, 16, 17, 18, 19, 20, 21, 22, 23]] 22 ?_ ?_; (· kernel_rfl); (· kernel_rfl); refine st_by ff ?_) | (refine aw_drawn (id := 14) ?_ [[], [0], [0, 1], [0, 1, 2], [0, 1, 2, 3], [0, 1, 2, 3, 4], [0, 1, 2, 3, 4, 5], [0, 1, 2, 3, 4, 5, 6], [0, 1, 2, 3, 4, 5, 6, 7], [0, 1, 2, 3, 4, 5, 6, 7], [0, 1, 2, 3, 4, 5, 6, 7, 9], [0, 1, 2, 3, 4, 5, 6, 7, 8, 9, 10], [0, 1, 2, 3, 4, 5, 6, 7], [0, 1, 2, 3, 4, 5, 6, 7, 12], [0, 1, 2, 3, 4, 5, 6, 7, 8, 9, 10, 11, 12, 13], [0, 1, 2, 3, 4, 5, 6, 7, 8, 9, 10, 11, 12, 13, 14], [0, 1, 2, 3, 4, 5, 6, 7, 8, 9, 10, 11, 12, 13, 14, 15], [0, 1, 2, 3, 4, 5, 6, 7, 8, 9, 10, 11, 12, 13, 14, 15, 16], [0, 1, 2, 3, 4, 5, 6, 7, 8, 9, 10, 11, 12, 13, 14, 15, 16, 17], [0, 1, 2, 3, 4, 5, 6, 7, 8, 9, 10, 11, 12, 13, 14, 15, 16, 17], [0, 1, 2, 3, 4, 5, 6, 7, 8, 9, 10, 11, 12, 13, 14, 15, 16, 17, 18, 19], [0, 1, 2, 3, 4, 5, 6, 7, 8, 9, 10, 11, 12, 13, 14, 15, 16, 17, 18, 19, 20], [0, 1, 2, 3, 4, 5, 6, 7, 8, 9, 10, 11, 12, 13, 14, 15, 16, 17, 18, 19, 20, 21], [0, 1, 2, 3, 4, 5, 6, 7, 8, 9, 10, 11, 12, 13, 14, 15, 16, 17, 18, 19, 20, 21, 22]] 20 ?_ ?_; (· kernel_rfl); (· kernel_rfl); refine st_by ff ?_))
             first
             | (refine cq_own (p_impl_above_does N l_a0 (i_0 : Int) v115 ev115) (hf_by ff) kr ⟨p_impl_GoodSpans_sa ff @f92d, ?_⟩; clear ff)
             | (refine cq_down (p_impl_above_does N l_a0 (i_0 : Int) v115 ev115) (hf_by ff) kr ⟨p_impl_GoodSpans_sa ff @f92d, ?_⟩; clear ff)
             by_cases c116 : (v115.length : Int) > 12
             · rw [if_pos c116] at h_0
               have dc116 := decide_eq_true c116
               cases h_0
               try dsimp only at h
               have ff := ai @dr_0 (ai @w_0 (ai @kk0c (ai @dc88 (ai @dc90 (ai @f92c (ai @g0_1a (ai @g1_1a (ai @g2_1a (ai @g3_1a (ai @g4_1a (ai @g5_1a (ai @g6_1a (ai @dc106 (ai @dc116 p_impl_GoodSpans_tf.down))))))))))))))
               try refine st_by ff ?_
               repeat' (first | exact trivial | refine And.intro sd ?_)
               cases h
               exact ret_q1 rfl (p_impl_GoodSpans_rt ff @f92d)
             rw [if_neg c116] at h_0
             have dc116 := decide_eq_false c116
             have ff := ai @dr_0 (ai @w_0 (ai @kk0c (ai @dc88 (ai @dc90 (ai @f92c (ai @g0_1a (ai @g1_1a (ai @g2_1a (ai @g3_1a (ai @g4_1a (ai @g5_1a (ai @g6_1a (ai @dc106 (ai @dc116 p_impl_GoodSpans_tf.down))))))))))))))
             try refine st_by ff ?_
             repeat' (first | exact trivial | refine And.intro sd ?_)
             refine Back.intro (i_0 + 1) ?_ ?_
             · clear ff; rw [hM_0]; show l_a0.length - (i_0 + 1) < l_a0.length - i_0; omega
             rw [hI_0]
             refine ⟨⟨by clear ff; show i_0 + 1 ≤ l_a0.length; omega, by show p_impl_GoodSpans_l0 N l_a0 (l_a0.drop (i_0 + 1)) (i_0 + 1) = some q_0; rw [hd_0]; exact h_0⟩, ?_⟩
             exact p_impl_GoodSpans_pv ff @f92d
            rw [if_pos c106] at h_0
            have dc106 := decide_eq_true c106
            by_cases c107 : x_0.Up ≥ 0
            case neg =>
             rw [if_neg c107] at h_0
             have dc107 := decide_eq_false c107
             obtain ⟨v113, ev113, h_0⟩ := Option.bind_eq_some_iff.1 h_0
             try dsimp only at h_0
             have ff := ai @dr_0 (ai @w_0 (ai @kk0c (ai @dc88 (ai @dc90 (ai @f92c (ai @g0_1a (ai @g1_1a (ai @g2_1a (ai @g3_1a (ai @g4_1a (ai @g5_1a (ai @g6_1a (ai @dc106 (ai @dc107 p_impl_GoodSpans_tf.down))))))))))))))
             try refine st_by ff ?_
             repeat' (first | exact trivial | refine And.intro sd ?_ | (refine aw_drawn (id := 6) ?_ [[], [0], [0, 1], [0, 1, 2], [0, 1, 2, 3], [0, 1, 2, 3, 4], [0, 1, 2, 3], [0, 1, 2, 3], [0, 1, 2, 3, 7], [0, 1, 2, 3, 6, 7, 8], [0, 1, 2, 3, 6, 7, 8, 9], [0, 1, 2, 3, 6, 7, 8, 9, 10], [0, 1, 2, 3, 4, 5, 6, 7, 8, 9, 10, 11], [0, 1, 2, 3, 4, 5, 6, 7, 8, 9, 10, 11, 12], [0, 1, 2, 3, 4, 5, 6, 7, 8, 9, 10, 11, 12, 13], [0, 1, 2, 3, 4, 5, 6, 7, 8, 9, 10, 11, 12, 13, 14], [0, 1, 2, 3, 4, 5, 6, 7, 8, 9, 10, 11, 12, 13], [0, 1, 2, 3, 4, 5, 6, 7, 8, 9, 10, 11, 12, 13], [0, 1, 2, 3, 4, 5, 6, 7, 8, 9, 10, 11, 12, 13, 17], [0, 1, 2, 3, 4, 5, 6, 7, 8, 9, 10, 11, 12, 13, 16, 17, 18], [0, 1, 2, 3, 4, 5, 6, 7, 8, 9, 10, 11, 12, 13, 16, 17, 18, 19], [0, 1, 2, 3, 4, 5, 6, 7, 8, 9, 10, 11, 12, 13, 16, 17, 18, 19, 20], [0, 1, 2, 3, 4, 5, 6, 7, 8, 9, 10, 11, 12, 13, 14, 15, 16, 17, 18, 19, 20, 21], [0, 1, 2, 3, 4, 5, 6, 7, 8, 9, 10, 11, 12, 13, 14, 15, 16, 17, 18, 19, 20, 21, 22], [0, 1, 2, 3, 4, 5, 6, 7, 8, 9, 10, 11, 12, 13, 14, 15, 16, 17, 18, 19, 20, 21, 22, 23]] 22 ?_ ?_; (· kernel_rfl); (· kernel_rfl); refine st_by ff ?_) | (refine aw_drawn (id := 14) ?_ [[], [0], [0, 1], [0, 1, 2], [0, 1, 2, 3], [0, 1, 2, 3, 4], [0, 1, 2, 3, 4, 5], [0, 1, 2, 3, 4, 5, 6], [0, 1, 2, 3, 4, 5, 6, 7], [0, 1, 2, 3, 4, 5, 6, 7], [0, 1, 2, 3, 4, 5, 6, 7, 9], [0, 1, 2, 3, 4, 5, 6, 7, 8, 9, 10], [0, 1, 2, 3, 4, 5, 6, 7], [0, 1, 2, 3, 4, 5, 6, 7, 12], [0, 1, 2, 3, 4, 5, 6, 7, 8, 9, 10, 11, 12, 13], [0, 1, 2, 3, 4, 5, 6, 7, 8, 9, 10, 11, 12, 13, 14], [0, 1, 2, 3, 4, 5, 6, 7, 8, 9, 10, 11, 12, 13, 14, 15], [0, 1, 2, 3, 4, 5, 6, 7, 8, 9, 10, 11, 12, 13, 14, 15, 16], [0, 1, 2, 3, 4, 5, 6, 7, 8, 9, 10, 11, 12, 13, 14, 15, 16, 17], [0, 1, 2, 3, 4, 5, 6, 7, 8, 9, 10, 11, 12, 13, 14, 15, 16, 17], [0, 1, 2, 3, 4, 5, 6, 7, 8, 9, 10, 11, 12, 13, 14, 15, 16, 17, 18, 19], [0, 1, 2, 3, 4, 5, 6, 7, 8, 9, 10, 11, 12, 13, 14, 15, 16, 17, 18, 19, 20], [0, 1, 2, 3, 4, 5, 6, 7, 8, 9, 10, 11, 12, 13, 14, 15, 16, 17, 18, 19, 20, 21], [0, 1, 2, 3, 4, 5, 6, 7, 8, 9, 10, 11, 12, 13, 14, 15, 16, 17, 18, 19, 20, 21, 22]] 20 ?_ ?_; (· kernel_rfl); (· kernel_rfl); refine st_by ff ?_))
             first
             | (refine cq_own (p_impl_above_does N l_a0 (i_0 : Int) v113 ev113) (hf_by ff) kr ⟨p_impl_GoodSpans_sa ff @f92d, ?_⟩; clear ff)
             | (refine cq_down (p_impl_above_does N l_a0 (i_0 : Int) v113 ev113) (hf_by ff) kr ⟨p_impl_GoodSpans_sa ff @f92d, ?_⟩; clear ff)
             by_cases c114 : (v113.length : Int) > 12
             · rw [if_pos c114] at h_0
               have dc114 := decide_eq_true c114
               cases h_0
               try dsimp only at h
               have ff := ai @dr_0 (ai @w_0 (ai @kk0c (ai @dc88 (ai @dc90 (ai @f92c (ai @g0_1a (ai @g1_1a (ai @g2_1a (ai @g3_1a (ai @g4_1a (ai @g5_1a (ai @g6_1a (ai @dc106 (ai @dc107 (ai @dc114 p_impl_GoodSpans_tf.down)))))))))))))))
               try refine st_by ff ?_
               repeat' (first | exact trivial | refine And.intro sd ?_)
               cases h
               exact ret_q1 rfl (p_impl_GoodSpans_rt ff @f92d)
             rw [if_neg c114] at h_0
             have dc114 := decide_eq_false c114
             have ff := ai @dr_0 (ai @w_0 (ai @kk0c (ai @dc88 (ai @dc90 (ai @f92c (ai @g0_1a (ai @g1_1a (ai @g2_1a (ai @g3_1a (ai @g4_1a (ai @g5_1a (ai @g6_1a (ai @dc106 (ai @dc107 (ai @dc114 p_impl_GoodSpans_tf.down)))))))))))))))
             try refine st_by ff ?_
             repeat' (first | exact trivial | refine And.intro sd ?_)
             refine Back.intro (i_0 + 1) ?_ ?_
             · clear ff; rw [hM_0]; show l_a0.length - (i_0 + 1) < l_a0.length - i_0; omega
             rw [hI_0]
             refine ⟨⟨by clear ff; show i_0 + 1 ≤ l_a0.length; omega, by show p_impl_GoodSpans_l0 N l_a0 (l_a0.drop (i_0 + 1)) (i_0 + 1) = some q_0; rw [hd_0]; exact h_0⟩, ?_⟩
             exact p_impl_GoodSpans_pv ff @f92d
            rw [if_pos c107] at h_0
            have dc107 := decide_eq_true c107
            obtain ⟨v108, ev108, h_0⟩ := Option.bind_eq_some_iff.1 h_0
            try dsimp only at h_0
            have ff := ai @dr_0 (ai @w_0 (ai @kk0c (ai @dc88 (ai @dc90 (ai @f92c (ai @g0_1a (ai @g1_1a (ai @g2_1a (ai @g3_1a (ai @g4_1a (ai @g5_1a (ai @g6_1a (ai @dc106 (ai @dc107 p_impl_GoodSpans_tf.down))))))))))))))
            try refine st_by ff ?_
            repeat' (first | exact trivial | refine And.intro sd ?_ | (refine aw_drawn (id := 6) ?_ [[], [0], [0, 1], [0, 1, 2], [0, 1, 2, 3], [0, 1, 2, 3, 4], [0, 1, 2, 3], [0, 1, 2, 3], [0, 1, 2, 3, 7], [0, 1, 2, 3, 6, 7, 8], [0, 1, 2, 3, 6, 7, 8, 9], [0, 1, 2, 3, 6, 7, 8, 9, 10], [0, 1, 2, 3, 4, 5, 6, 7, 8, 9, 10, 11], [0, 1, 2, 3, 4, 5, 6, 7, 8, 9, 10, 11, 12], [0, 1, 2, 3, 4, 5, 6, 7, 8, 9, 10, 11, 12, 13], [0, 1, 2, 3, 4, 5, 6, 7, 8, 9, 10, 11, 12, 13, 14], [0, 1, 2, 3, 4, 5, 6, 7, 8, 9, 10, 11, 12, 13], [0, 1, 2, 3, 4, 5, 6, 7, 8, 9, 10, 11, 12, 13], [0, 1, 2, 3, 4, 5, 6, 7, 8, 9, 10, 11, 12, 13, 17], [0, 1, 2, 3, 4, 5, 6, 7, 8, 9, 10, 11, 12, 13, 16, 17, 18], [0, 1, 2, 3, 4, 5, 6, 7, 8, 9, 10, 11, 12, 13, 16, 17, 18, 19], [0, 1, 2, 3, 4, 5, 6, 7, 8, 9, 10, 11, 12, 13, 16, 17, 18, 19, 20], [0, 1, 2, 3, 4, 5, 6, 7, 8, 9, 10, 11, 12, 13, 14, 15, 16, 17, 18, 19, 20, 21], [0, 1, 2, 3, 4, 5, 6, 7, 8, 9, 10, 11, 12, 13, 14, 15, 16, 17, 18, 19, 20, 21, 22], [0, 1, 2, 3, 4, 5, 6, 7, 8, 9, 10, 11, 12, 13, 14, 15, 16, 17, 18, 19, 20, 21, 22, 23]] 22 ?_ ?_; (· kernel_rfl); (· kernel_rfl); refine st_by ff ?_) | (refine aw_drawn (id := 14) ?_ [[], [0], [0, 1], [0, 1, 2], [0, 1, 2, 3], [0, 1, 2, 3, 4], [0, 1, 2, 3, 4, 5], [0, 1, 2, 3, 4, 5, 6], [0, 1, 2, 3, 4, 5, 6, 7], [0, 1, 2, 3, 4, 5, 6, 7], [0, 1, 2, 3, 4, 5, 6, 7, 9], [0, 1, 2, 3, 4, 5, 6, 7, 8, 9, 10], [0, 1, 2, 3, 4, 5, 6, 7], [0, 1, 2, 3, 4, 5, 6, 7, 12], [0, 1, 2, 3, 4, 5, 6, 7, 8, 9, 10, 11, 12, 13], [0, 1, 2, 3, 4, 5, 6, 7, 8, 9, 10, 11, 12, 13, 14], [0, 1, 2, 3, 4, 5, 6, 7, 8, 9, 10, 11, 12, 13, 14, 15], [0, 1, 2, 3, 4, 5, 6, 7, 8, 9, 10, 11, 12, 13, 14, 15, 16], [0, 1, 2, 3, 4, 5, 6, 7, 8, 9, 10, 11, 12, 13, 14, 15, 16, 17], [0, 1, 2, 3, 4, 5, 6, 7, 8, 9, 10, 11, 12, 13, 14, 15, 16, 17], [0, 1, 2, 3, 4, 5, 6, 7, 8, 9, 10, 11, 12, 13, 14, 15, 16, 17, 18, 19], [0, 1, 2, 3, 4, 5, 6, 7, 8, 9, 10, 11, 12, 13, 14, 15, 16, 17, 18, 19, 20], [0, 1, 2, 3, 4, 5, 6, 7, 8, 9, 10, 11, 12, 13, 14, 15, 16, 17, 18, 19, 20, 21], [0, 1, 2, 3, 4, 5, 6, 7, 8, 9, 10, 11, 12, 13, 14, 15, 16, 17, 18, 19, 20, 21, 22]] 20 ?_ ?_; (· kernel_rfl); (· kernel_rfl); refine st_by ff ?_))
            first
            | (refine cq_own (p_impl_above_does N l_a0 (IntKind.i64.wrap ((i_0 : Int) - 1)) v108 ev108) (hf_by ff) kr ⟨p_impl_GoodSpans_sa ff @f92d, ?_⟩; clear ff)
            | (refine cq_down (p_impl_above_does N l_a0 (IntKind.i64.wrap ((i_0 : Int) - 1)) v108 ev108) (hf_by ff) kr ⟨p_impl_GoodSpans_sa ff @f92d, ?_⟩; clear ff)
            obtain ⟨v109, ev109, h_0⟩ := Option.bind_eq_some_iff.1 h_0
            try dsimp only at h_0
            have ff := ai @dr_0 (ai @w_0 (ai @kk0c (ai @dc88 (ai @dc90 (ai @f92c (ai @g0_1a (ai @g1_1a (ai @g2_1a (ai @g3_1a (ai @g4_1a (ai @g5_1a (ai @g6_1a (ai @dc106 (ai @dc107 p_impl_GoodSpans_tf.down))))))))))))))
            try refine st_by ff ?_
            repeat' (first | exact trivial | refine And.intro sd ?_)
            first
            | (refine cq_lend (p_slices_Contains_int_int_does v108 x_0.Up v109 ev109) (hf_by ff) kr ⟨p_impl_GoodSpans_sa ff @f92d, ?_⟩; clear ff)
            | (refine cq_dlend (p_slices_Contains_int_int_does v108 x_0.Up v109 ev109) (hf_by ff) kr ⟨p_impl_GoodSpans_sa ff @f92d, ?_⟩; clear ff)
            by_cases c110 : v109 = true
            case neg =>
             rw [if_neg c110] at h_0
             have dc110 := eq_false_of_ne_true c110
             cases h_0
             try dsimp only at h
             have ff := ai @dr_0 (ai @w_0 (ai @kk0c (ai @dc88 (ai @dc90 (ai @f92c (ai @g0_1a (ai @g1_1a (ai @g2_1a (ai @g3_1a (ai @g4_1a (ai @g5_1a (ai @g6_1a (ai @dc106 (ai @dc107 (ai @dc110 p_impl_GoodSpans_tf.down)))))))))))))))
             try refine st_by ff ?_
             repeat' (first | exact trivial | refine And.intro sd ?_)
             cases h
             exact ret_q1 rfl (p_impl_GoodSpans_rt ff @f92d)
            rw [if_pos c110] at h_0
            have dc110 := c110
            obtain ⟨v111, ev111, h_0⟩ := Option.bind_eq_some_iff.1 h_0
            try dsimp only at h_0
            have ff := ai @dr_0 (ai @w_0 (ai @kk0c (ai @dc88 (ai @dc90 (ai @f92c (ai @g0_1a (ai @g1_1a (ai @g2_1a (ai @g3_1a (ai @g4_1a (ai @g5_1a (ai @g6_1a (ai @dc106 (ai @dc107 (ai @dc110 p_impl_GoodSpans_tf.down)))))))))))))))
            try refine st_by ff ?_
            repeat' (first | exact trivial | refine And.intro sd ?_)
            first
            | (refine cq_own (p_impl_above_does N l_a0 (i_0 : Int) v111 ev111) (hf_by ff) kr ⟨p_impl_GoodSpans_sa ff @f92d, ?_⟩; clear ff)
            | (refine cq_down (p_impl_above_does N l_a0 (i_0 : Int) v111 ev111) (hf_by ff) kr ⟨p_impl_GoodSpans_sa ff @f92d, ?_⟩; clear ff)
            by_cases c112 : (v111.length : Int) > 12
            · rw [if_pos c112] at h_0
              have dc112 := decide_eq_true c112
              cases h_0
              try dsimp only at h
              have ff := ai @dr_0 (ai @w_0 (ai @kk0c (ai @dc88 (ai @dc90 (ai @f92c (ai @g0_1a (ai @g1_1a (ai @g2_1a (ai @g3_1a (ai @g4_1a (ai @g5_1a (ai @g6_1a (ai @dc106 (ai @dc107 (ai @dc110 (ai @dc112 p_impl_GoodSpans_tf.down))))))))))))))))
              try refine st_by ff ?_
              repeat' (first | exact trivial | refine And.intro sd ?_)
              cases h
              exact ret_q1 rfl (p_impl_GoodSpans_rt ff @f92d)
            rw [if_neg c112] at h_0
            have dc112 := decide_eq_false c112
            have ff := ai @dr_0 (ai @w_0 (ai @kk0c (ai @dc88 (ai @dc90 (ai @f92c (ai @g0_1a (ai @g1_1a (ai @g2_1a (ai @g3_1a (ai @g4_1a (ai @g5_1a (ai @g6_1a (ai @dc106 (ai @dc107 (ai @dc110 (ai @dc112 p_impl_GoodSpans_tf.down))))))))))))))))
            try refine st_by ff ?_
            repeat' (first | exact trivial | refine And.intro sd ?_)
            refine Back.intro (i_0 + 1) ?_ ?_
            · clear ff; rw [hM_0]; show l_a0.length - (i_0 + 1) < l_a0.length - i_0; omega
            rw [hI_0]
            refine ⟨⟨by clear ff; show i_0 + 1 ≤ l_a0.length; omega, by show p_impl_GoodSpans_l0 N l_a0 (l_a0.drop (i_0 + 1)) (i_0 + 1) = some q_0; rw [hd_0]; exact h_0⟩, ?_⟩
            exact p_impl_GoodSpans_pv ff @f92d
        have hrt_1 := fun σ : ASt => congrFun (congrFun hk_1.symm AX.rt) σ
        have hex_1 := fun (i : Nat) (σ : ASt) => congrFun (congrFun hk_1.symm (AX.ex i)) σ
        by_cases c117 : x_0.Up ≥ 0
        case neg =>
         rw [if_neg c117] at h_0
         have dc117 := decide_eq_false c117
         have ff := ai @dr_0 (ai @w_0 (ai @kk0c (ai @g0_j0 (ai @g1_j0 (ai @g2_j0 (ai @g3_j0 (ai @g4_j0 (ai @g5_j0 (ai @g6_j0 (ai @g7_j0 (ai @dc88 (ai @hrt_1 (ai @hex_1 (ai @dc117 p_impl_GoodSpans_tf.down))))))))))))))
         try refine st_by ff ?_
         repeat' (first | exact trivial | refine And.intro sd ?_ | (refine aw_drawn (id := 6) ?_ [[], [0], [0, 1], [0, 1, 2], [0, 1, 2, 3], [0, 1, 2, 3, 4], [0, 1, 2, 3], [0, 1, 2, 3], [0, 1, 2, 3, 7], [0, 1, 2, 3, 6, 7, 8], [0, 1, 2, 3, 6, 7, 8, 9], [0, 1, 2, 3, 6, 7, 8, 9, 10], [0, 1, 2, 3, 4, 5, 6, 7, 8, 9, 10, 11], [0, 1, 2, 3, 4, 5, 6, 7, 8, 9, 10, 11, 12], [0, 1, 2, 3, 4, 5, 6, 7, 8, 9, 10, 11, 12, 13], [0, 1, 2, 3, 4, 5, 6, 7, 8, 9, 10, 11, 12, 13, 14], [0, 1, 2, 3, 4, 5, 6, 7, 8, 9, 10, 11, 12, 13], [0, 1, 2, 3, 4, 5, 6, 7, 8, 9, 10, 11, 12, 13], [0, 1, 2, 3, 4, 5, 6, 7, 8, 9, 10, 11, 12, 13, 17], [0, 1, 2, 3, 4, 5, 6, 7, 8, 9, 10, 11, 12, 13, 16, 17, 18], [0, 1, 2, 3, 4, 5, 6, 7, 8, 9, 10, 11, 12, 13, 16, 17, 18, 19], [0, 1, 2, 3, 4, 5, 6, 7, 8, 9, 10, 11, 12, 13, 16, 17, 18, 19, 20], [0, 1, 2, 3, 4, 5, 6, 7, 8, 9, 10, 11, 12, 13, 14, 15, 16, 17, 18, 19, 20, 21], [0, 1, 2, 3, 4, 5, 6, 7, 8, 9, 10, 11, 12, 13, 14, 15, 16, 17, 18, 19, 20, 21, 22], [0, 1, 2, 3, 4, 5, 6, 7, 8, 9, 10, 11, 12, 13, 14, 15, 16, 17, 18, 19, 20, 21, 22, 23]] 22 ?_ ?_; (· kernel_rfl); (· kernel_rfl); refine st_by ff ?_))
         refine key_1 _ ?_
         refine ⟨false, h_0, ?_⟩
         exact p_impl_GoodSpans_pv ff trivial
        rw [if_pos c117] at h_0
        have dc117 := decide_eq_true c117
        obtain ⟨x118, ex118, h_0⟩ := Option.bind_eq_some_iff.1 h_0
        try dsimp only at h_0
        have f119a := idx_lo ex118
        have f119b := idx_hi ex118
        have f119c : (esSpan l_a0).drop (x_0.Up.toNat * 4) = eSpan x118 ++ esSpan (l_a0.drop (x_0.Up.toNat + 1)) := drop_enc (fun _ => rfl) (idx_get ex118)
        by_cases c120 : x_0.From < x118.From
        case neg =>
         rw [if_neg c120] at h_0
         have dc120 := decide_eq_false c120
         have ff := ai @dr_0 (ai @w_0 (ai @kk0c (ai @g0_j0 (ai @g1_j0 (ai @g2_j0 (ai @g3_j0 (ai @g4_j0 (ai @g5_j0 (ai @g6_j0 (ai @g7_j0 (ai @dc88 (ai @hrt_1 (ai @hex_1 (ai @dc117 (ai @f119c (ai @dc120 p_impl_GoodSpans_tf.down))))))))))))))))
         try refine st_by ff ?_
         repeat' (first | exact trivial | refine And.intro sd ?_ | (refine aw_drawn (id := 6) ?_ [[], [0], [0, 1], [0, 1, 2], [0, 1, 2, 3], [0, 1, 2, 3, 4], [0, 1, 2, 3], [0, 1, 2, 3], [0, 1, 2, 3, 7], [0, 1, 2, 3, 6, 7, 8], [0, 1, 2, 3, 6, 7, 8, 9], [0, 1, 2, 3, 6, 7, 8, 9, 10], [0, 1, 2, 3, 4, 5, 6, 7, 8, 9, 10, 11], [0, 1, 2, 3, 4, 5, 6, 7, 8, 9, 10, 11, 12], [0, 1, 2, 3, 4, 5, 6, 7, 8, 9, 10, 11, 12, 13], [0, 1, 2, 3, 4, 5, 6, 7, 8, 9, 10, 11, 12, 13, 14], [0, 1, 2, 3, 4, 5, 6, 7, 8, 9, 10, 11, 12, 13], [0, 1, 2, 3, 4, 5, 6, 7, 8, 9, 10, 11, 12, 13], [0, 1, 2, 3, 4, 5, 6, 7, 8, 9, 10, 11, 12, 13, 17], [0, 1, 2, 3, 4, 5, 6, 7, 8, 9, 10, 11, 12, 13, 16, 17, 18], [0, 1, 2, 3, 4, 5, 6, 7, 8, 9, 10, 11, 12, 13, 16, 17, 18, 19], [0, 1, 2, 3, 4, 5, 6, 7, 8, 9, 10, 11, 12, 13, 16, 17, 18, 19, 20], [0, 1, 2, 3, 4, 5, 6, 7, 8, 9, 10, 11, 12, 13, 14, 15, 16, 17, 18, 19, 20, 21], [0, 1, 2, 3, 4, 5, 6, 7, 8, 9, 10, 11, 12, 13, 14, 15, 16, 17, 18, 19, 20, 21, 22], [0, 1, 2, 3, 4, 5, 6, 7, 8, 9, 10, 11, 12, 13, 14, 15, 16, 17, 18, 19, 20, 21, 22, 23]] 22 ?_ ?_; (· kernel_rfl); (· kernel_rfl); refine st_by ff ?_))
         refine key_1 _ ?_
         refine ⟨decide (x_0.To > x118.To), h_0, ?_⟩
         exact p_impl_GoodSpans_pv ff trivial
        rw [if_pos c120] at h_0
        have dc120 := decide_eq_true c120
        have ff := ai @dr_0 (ai @w_0 (ai @kk0c (ai @g0_j0 (ai @g1_j0 (ai @g2_j0 (ai @g3_j0 (ai @g4_j0 (ai @g5_j0 (ai @g6_j0 (ai @g7_j0 (ai @dc88 (ai @hrt_1 (ai @hex_1 (ai @dc117 (ai @f119c (ai @dc120 p_impl_GoodSpans_tf.down))))))))))))))))
        try refine st_by ff ?_
        repeat' (first | exact trivial | refine And.intro sd ?_ | (refine aw_drawn (id := 6) ?_ [[], [0], [0, 1], [0, 1, 2], [0, 1, 2, 3], [0, 1, 2, 3, 4], [0, 1, 2, 3], [0, 1, 2, 3], [0, 1, 2, 3, 7], [0, 1, 2, 3, 6, 7, 8], [0, 1, 2, 3, 6, 7, 8, 9], [0, 1, 2, 3, 6, 7, 8, 9, 10], [0, 1, 2, 3, 4, 5, 6, 7, 8, 9, 10, 11], [0, 1, 2, 3, 4, 5, 6, 7, 8, 9, 10, 11, 12], [0, 1, 2, 3, 4, 5, 6, 7, 8, 9, 10, 11, 12, 13], [0, 1, 2, 3, 4, 5, 6, 7, 8, 9, 10, 11, 12, 13, 14], [0, 1, 2, 3, 4, 5, 6, 7, 8, 9, 10, 11, 12, 13], [0, 1, 2, 3, 4, 5, 6, 7, 8, 9, 10, 11, 12, 13], [0, 1, 2, 3, 4, 5, 6, 7, 8, 9, 10, 11, 12, 13, 17], [0, 1, 2, 3, 4, 5, 6, 7, 8, 9, 10, 11, 12, 13, 16, 17, 18], [0, 1, 2, 3, 4, 5, 6, 7, 8, 9, 10, 11, 12, 13, 16, 17, 18, 19], [0, 1, 2, 3, 4, 5, 6, 7, 8, 9, 10, 11, 12, 13, 16, 17, 18, 19, 20], [0, 1, 2, 3, 4, 5, 6, 7, 8, 9, 10, 11, 12, 13, 14, 15, 16, 17, 18, 19, 20, 21], [0, 1, 2, 3, 4, 5, 6, 7, 8, 9, 10, 11, 12, 13, 14, 15, 16, 17, 18, 19, 20, 21, 22], [0, 1, 2, 3, 4, 5, 6, 7, 8, 9, 10, 11, 12, 13, 14, 15, 16, 17, 18, 19, 20, 21, 22, 23]] 22 ?_ ?_; (· kernel_rfl); (· kernel_rfl); refine st_by ff ?_))
        refine key_1 _ ?_
        refine ⟨true, h_0, ?_⟩
        exact p_impl_GoodSpans_pv ff trivial
      have hrt_0 := fun σ : ASt => congrFun (congrFun hk_0.symm AX.rt) σ
      have hex_0 := fun (i : Nat) (σ : ASt) => congrFun (congrFun hk_0.symm (AX.ex i)) σ
      by_cases c121 : (goodName x_0.Name) = true
      case neg =>
       rw [if_neg c121] at h_0
       have dc121 := eq_false_of_ne_true c121
       have ff := ai @dr_0 (ai @w_0 (ai @g0_0 (ai @g1_0 (ai @g2_0 (ai @g3_0 (ai @kk0c (ai @hrt_0 (ai @hex_0 (ai @dc121 p_impl_GoodSpans_tf.down)))))))))
       try refine st_by ff ?_
       repeat' (first | exact trivial | refine And.intro sd ?_)
       refine key_0 _ ?_
       refine ⟨true, h_0, ?_⟩
       exact p_impl_GoodSpans_pv ff trivial
      rw [if_pos c121] at h_0
      have dc121 := c121
      have ff := ai @dr_0 (ai @w_0 (ai @g0_0 (ai @g1_0 (ai @g2_0 (ai @g3_0 (ai @kk0c (ai @hrt_0 (ai @hex_0 (ai @dc121 p_impl_GoodSpans_tf.down)))))))))
      try refine st_by ff ?_
      repeat' (first | exact trivial | refine And.intro sd ?_)
      first
      | (refine cq_call (isTime_does x_0.From) (hf_by ff) kr ⟨p_impl_GoodSpans_sa ff trivial, ?_⟩; clear ff)
      | (refine cq_dcall (isTime_does x_0.From) (hf_by ff) kr ⟨p_impl_GoodSpans_sa ff trivial, ?_⟩; clear ff)
      by_cases c122 : (rng x_0.From 0 100000) = true
      case neg =>
       rw [if_neg c122] at h_0
       have dc122 := eq_false_of_ne_true c122
       have ff := ai @dr_0 (ai @w_0 (ai @g0_0 (ai @g1_0 (ai @g2_0 (ai @g3_0 (ai @kk0c (ai @hrt_0 (ai @hex_0 (ai @dc121 (ai @dc122 p_impl_GoodSpans_tf.down))))))))))
       try refine st_by ff ?_
       repeat' (first | exact trivial | refine And.intro sd ?_)
       refine key_0 _ ?_
       refine ⟨true, h_0, ?_⟩
       exact p_impl_GoodSpans_pv ff trivial
      rw [if_pos c122] at h_0
      have dc122 := c122
      have ff := ai @dr_0 (ai @w_0 (ai @g0_0 (ai @g1_0 (ai @g2_0 (ai @g3_0 (ai @kk0c (ai @hrt_0 (ai @hex_0 (ai @dc121 (ai @dc122 p_impl_GoodSpans_tf.down))))))))))
      try refine st_by ff ?_
      repeat' (first | exact trivial | refine And.intro sd ?_)
      first
      | (refine cq_call (isTime_does x_0.To) (hf_by ff) kr ⟨p_impl_GoodSpans_sa ff trivial, ?_⟩; clear ff)
      | (refine cq_dcall (isTime_does x_0.To) (hf_by ff) kr ⟨p_impl_GoodSpans_sa ff trivial, ?_⟩; clear ff)
      by_cases c123 : (rng x_0.To 0 100000) = true
      case neg =>
       rw [if_neg c123] at h_0
       have dc123 := eq_false_of_ne_true c123
       have ff := ai @dr_0 (ai @w_0 (ai @g0_0 (ai @g1_0 (ai @g2_0 (ai @g3_0 (ai @kk0c (ai @hrt_0 (ai @hex_0 (ai @dc121 (ai @dc122 (ai @dc123 p_impl_GoodSpans_tf.down)))))))))))
       try refine st_by ff ?_
       repeat' (first | exact trivial | refine And.intro sd ?_)
       refine key_0 _ ?_
       refine ⟨true, h_0, ?_⟩
       exact p_impl_GoodSpans_pv ff trivial
      rw [if_pos c123] at h_0
      have dc123 := c123
      by_cases c124 : x_0.From > x_0.To
      · rw [if_pos c124] at h_0
        have dc124 := decide_eq_true c124
        have ff := ai @dr_0 (ai @w_0 (ai @g0_0 (ai @g1_0 (ai @g2_0 (ai @g3_0 (ai @kk0c (ai @hrt_0 (ai @hex_0 (ai @dc121 (ai @dc122 (ai @dc123 (ai @dc124 p_impl_GoodSpans_tf.down))))))))))))
        try refine st_by ff ?_
        repeat' (first | exact trivial | refine And.intro sd ?_)
        refine key_0 _ ?_
        refine ⟨true, h_0, ?_⟩
        exact p_impl_GoodSpans_pv ff trivial
      rw [if_neg c124] at h_0
      have dc124 := decide_eq_false c124
      have ff := ai @dr_0 (ai @w_0 (ai @g0_0 (ai @g1_0 (ai @g2_0 (ai @g3_0 (ai @kk0c (ai @hrt_0 (ai @hex_0 (ai @dc121 (ai @dc122 (ai @dc123 (ai @dc124 p_impl_GoodSpans_tf.down))))))))))))
      try refine st_by ff ?_
      repeat' (first | exact trivial | refine And.intro sd ?_)
      first
      | (refine cq_call (inRange_does x_0.Up (-1) (IntKind.i64.wrap ((i_0 : Int) - 1))) (hf_by ff) kr ⟨p_impl_GoodSpans_sa ff trivial, ?_⟩; clear ff)
      | (refine cq_dcall (inRange_does x_0.Up (-1) (IntKind.i64.wrap ((i_0 : Int) - 1))) (hf_by ff) kr ⟨p_impl_GoodSpans_sa ff trivial, ?_⟩; clear ff)
      have ff := ai @dr_0 (ai @w_0 (ai @g0_0 (ai @g1_0 (ai @g2_0 (ai @g3_0 (ai @kk0c (ai @hrt_0 (ai @hex_0 (ai @dc121 (ai @dc122 (ai @dc123 (ai @dc124 p_impl_GoodSpans_tf.down))))))))))))
      try refine st_by ff ?_
      repeat' (first | exact trivial | refine And.intro sd ?_)
      refine key_0 _ ?_
      refine ⟨!(rng x_0.Up (-1) (IntKind.i64.wrap ((i_0 : Int) - 1))), h_0, ?_⟩
      exact p_impl_GoodSpans_pv ff trivial
  · try clear ff
    rintro σ hg_0
    rw [hJ_0] at hg_0
    obtain ⟨hj_0, g0_0a⟩ := hg_0
    cases hj_0
    try dsimp only at h
    have ff := ai @g0_0a p_impl_GoodSpans_tf.down
    try refine st_by ff ?_
    repeat' (first | exact trivial | refine And.intro sd ?_)
    cases h
    exact ret_q1 rfl (p_impl_GoodSpans_rt ff trivial)
/-! (impl.Span).long -/
theorem p_impl_Span_long_pv {F C A : Prop} (hF : F) (hC : C) (h : F → C → A := by intro hF hC; first | exact cl_by hF | (refine st_by hF ?_; (repeat' (first | exact trivial | apply And.intro)); all_goals (clear hF; first | rfl | (simp only [hC, List.length_append, List.length_cons, List.length_nil, List.append_nil, List.nil_append, List.cons_append, List.length_set, List.append_assoc, Nat.zero_add, List.length_replicate, esSpan_app, esSpan_cons, esSpan_nil, eSpan_eq]; done) | (simp [hC, List.length_append, List.length_cons, List.length_nil, List.append_nil, List.nil_append, List.cons_append, List.length_set, List.append_assoc, Nat.zero_add, List.length_replicate, esSpan_app, esSpan_cons, esSpan_nil, eSpan_eq]; done) | omega))) : A := h hF hC
theorem p_impl_Span_long_sa {F C A : Prop} (hF : F) (hC : C) (h : F → C → A := by intro hF hC; first | exact ca_by hF | (refine sa_by hF ?_; (repeat' (first | exact trivial | apply And.intro)); all_goals (clear hF; first | rfl | (simp only [hC, List.length_append, List.length_cons, List.length_nil, List.append_nil, List.nil_append, List.cons_append, List.length_set, List.append_assoc, Nat.zero_add, List.length_replicate, esSpan_app, esSpan_cons, esSpan_nil, eSpan_eq]; done) | (simp [hC, List.length_append, List.length_cons, List.length_nil, List.append_nil, List.nil_append, List.cons_append, List.length_set, List.append_assoc, Nat.zero_add, List.length_replicate, esSpan_app, esSpan_cons, esSpan_nil, eSpan_eq]; done) | omega))) : A := h hF hC
theorem p_impl_Span_long_rt {F C A : Prop} (hF : F) (hC : C) (h : F → C → A := by intro hF hC; first | (refine sr_by hF ?_; (repeat' (first | exact trivial | apply And.intro)); all_goals (clear hF; first | rfl | (simp only [hC, List.length_append, List.length_cons, List.length_nil, List.append_nil, List.nil_append, List.cons_append, List.length_set, List.append_assoc, Nat.zero_add, List.length_replicate, esSpan_app, esSpan_cons, esSpan_nil, eSpan_eq]; done) | (simp [hC, List.length_append, List.length_cons, List.length_nil, List.append_nil, List.nil_append, List.cons_append, List.length_set, List.append_assoc, Nat.zero_add, List.length_replicate, esSpan_app, esSpan_cons, esSpan_nil, eSpan_eq]; done) | omega)) | (first | rfl | (simp only [hC, List.length_append, List.length_cons, List.length_nil, List.append_nil, List.nil_append, List.cons_append, List.length_set, List.append_assoc, Nat.zero_add, List.length_replicate, esSpan_app, esSpan_cons, esSpan_nil, eSpan_eq]; done) | (simp [hC, List.length_append, List.length_cons, List.length_nil, List.append_nil, List.nil_append, List.cons_append, List.length_set, List.append_assoc, Nat.zero_add, List.length_replicate, esSpan_app, esSpan_cons, esSpan_nil, eSpan_eq]; done) | omega)) : A := h hF hC
def p_impl_Span_long_tf := PLift.up (ai @eSpan_eq (ai @esSpan_len (ai @esSpan_nil (ai @esSpan_leaf (ai @esSpan_fit (ai @esSpan_share (ai @esSpan_pure (ai @str_beq (ai @Ty.nz3 (ai @Ty.ldA3 (ai @Ty.ldS3 (ai @Ty.sz3 (ai @Ty.szn3 (ai @Ty.fo67_2 (ai @Ty.fk67_2 (ai @Ty.fs67_2 (ai @Ty.fn67_2 (ai @Ty.fo67_1 (ai @Ty.fk67_1 (ai @Ty.fs67_1 (ai @Ty.fn67_1 @trivial)))))))))))))))))))))
def p_impl_Span_long (s_a0 : GSpan) : Option (Int) := some (IntKind.i64.wrap (s_a0.To - s_a0.From))
theorem p_impl_Span_long_does (s_a0 : GSpan) (r : Int) (h : p_impl_Span_long s_a0 = some r) : Does Try.prog 48 [.agg (eSpan s_a0)] (I r) := by
  rw [p_impl_Span_long] at h
  refine Does.walk (nt := 8) Try.func48 rfl rfl (by simp) (by decide) rfl (fun G0 X w0 pv => ?_)
  have ff := p_impl_Span_long_tf.down
  try refine st_by ff ?_
  repeat' (first | exact trivial | refine And.intro sd ?_)
  cases h
  exact ret_q1 rfl (p_impl_Span_long_rt ff trivial)
/-! impl.owns -/
def p_impl_owns_l0 : List GSpan → Nat → (List Int) → Option ((List Int))
  | [], i_0, out_11 => some out_11
  | x_0 :: r_0, i_0, out_11 => ((p_impl_Span_long x_0).bind fun v23 => (if out_11.length < 4294967296 then (if x_0.Up ≥ 0 then ((idx (out_11 ++ [v23]) x_0.Up).bind fun x27 => ((p_impl_Span_long x_0).bind fun v29 => p_impl_owns_l0 r_0 (i_0 + 1) ((out_11 ++ [v23]).set x_0.Up.toNat (IntKind.i64.wrap (x27 - v29))))) else p_impl_owns_l0 r_0 (i_0 + 1) (out_11 ++ [v23])) else none))
theorem p_impl_owns_pv {F C A : Prop} (hF : F) (hC : C) (h : F → C → A := by intro hF hC; first | exact cl_by hF | (refine st_by hF ?_; (repeat' (first | exact trivial | apply And.intro)); all_goals (clear hF; first | rfl | (simp only [hC, List.length_append, List.length_cons, List.length_nil, List.append_nil, List.nil_append, List.cons_append, List.length_set, List.append_assoc, Nat.zero_add, List.length_replicate, esInt_app, esInt_cons, esInt_nil, eInt_eq, esSpan_app, esSpan_cons, esSpan_nil, eSpan_eq]; done) | (simp [hC, List.length_append, List.length_cons, List.length_nil, List.append_nil, List.nil_append, List.cons_append, List.length_set, List.append_assoc, Nat.zero_add, List.length_replicate, esInt_app, esInt_cons, esInt_nil, eInt_eq, esSpan_app, esSpan_cons, esSpan_nil, eSpan_eq]; done) | omega))) : A := h hF hC
theorem p_impl_owns_sa {F C A : Prop} (hF : F) (hC : C) (h : F → C → A := by intro hF hC; first | exact ca_by hF | (refine sa_by hF ?_; (repeat' (first | exact trivial | apply And.intro)); all_goals (clear hF; first | rfl | (simp only [hC, List.length_append, List.length_cons, List.length_nil, List.append_nil, List.nil_append, List.cons_append, List.length_set, List.append_assoc, Nat.zero_add, List.length_replicate, esInt_app, esInt_cons, esInt_nil, eInt_eq, esSpan_app, esSpan_cons, esSpan_nil, eSpan_eq]; done) | (simp [hC, List.length_append, List.length_cons, List.length_nil, List.append_nil, List.nil_append, List.cons_append, List.length_set, List.append_assoc, Nat.zero_add, List.length_replicate, esInt_app, esInt_cons, esInt_nil, eInt_eq, esSpan_app, esSpan_cons, esSpan_nil, eSpan_eq]; done) | omega))) : A := h hF hC
theorem p_impl_owns_rt {F C A : Prop} (hF : F) (hC : C) (h : F → C → A := by intro hF hC; first | (refine sr_by hF ?_; (repeat' (first | exact trivial | apply And.intro)); all_goals (clear hF; first | rfl | (simp only [hC, List.length_append, List.length_cons, List.length_nil, List.append_nil, List.nil_append, List.cons_append, List.length_set, List.append_assoc, Nat.zero_add, List.length_replicate, esInt_app, esInt_cons, esInt_nil, eInt_eq, esSpan_app, esSpan_cons, esSpan_nil, eSpan_eq]; done) | (simp [hC, List.length_append, List.length_cons, List.length_nil, List.append_nil, List.nil_append, List.cons_append, List.length_set, List.append_assoc, Nat.zero_add, List.length_replicate, esInt_app, esInt_cons, esInt_nil, eInt_eq, esSpan_app, esSpan_cons, esSpan_nil, eSpan_eq]; done) | omega)) | (first | rfl | (simp only [hC, List.length_append, List.length_cons, List.length_nil, List.append_nil, List.nil_append, List.cons_append, List.length_set, List.append_assoc, Nat.zero_add, List.length_replicate, esInt_app, esInt_cons, esInt_nil, eInt_eq, esSpan_app, esSpan_cons, esSpan_nil, eSpan_eq]; done) | (simp [hC, List.length_append, List.length_cons, List.length_nil, List.append_nil, List.nil_append, List.cons_append, List.length_set, List.append_assoc, Nat.zero_add, List.length_replicate, esInt_app, esInt_cons, esInt_nil, eInt_eq, esSpan_app, esSpan_cons, esSpan_nil, eSpan_eq]; done) | omega)) : A := h hF hC
def p_impl_owns_tf := PLift.up (ai @eInt_eq (ai @esInt_len (ai @esInt_nil (ai @esInt_leaf (ai @esInt_fit (ai @eSpan_eq (ai @esSpan_len (ai @esSpan_nil (ai @esSpan_leaf (ai @esSpan_fit (ai @esInt_share (ai @esInt_pure (ai @esSpan_share (ai @esSpan_pure (ai @str_beq (ai @Ty.sl33 (ai @Ty.slz33 (ai @Ty.sl22 (ai @Ty.slz22 (ai @Ty.nz67 (ai @Ty.ldA67 (ai @Ty.sz67 (ai @Ty.szn67 (ai @Ty.nz3 (ai @Ty.ldA3 (ai @Ty.ldS3 (ai @Ty.sz3 (ai @Ty.szn3 (ai @Ty.fo67_3 (ai @Ty.fk67_3 (ai @Ty.fs67_3 (ai @Ty.fn67_3 (ai @Ty.nze22 (ai @Ty.zok22 (ai @Ty.by22 (ai @Ty.zs22 (ai @Ty.zv67 @trivial)))))))))))))))))))))))))))))))))))))
def p_impl_owns (l_a0 : List GSpan) : Option (List Int) := ((p_impl_owns_l0 l_a0 0 ([] : List Int)).bind fun q_0 => match q_0 with | out_11 => some out_11)
theorem p_impl_owns_does (l_a0 : List GSpan) (r : List Int) (h : p_impl_owns l_a0 = some r) : Does Try.prog 41 [.row false 4 l_a0.length (esSpan l_a0)] (.row true 1 r.length (esInt r)) := by
  rw [p_impl_owns] at h
  refine Does.bnd (fun hb => ?_)
  have hb2 : l_a0.length ≤ 9223372036854775807 := by simpa [AV.fitNs, AV.fitN] using hb
  have hl0 := hb2
  refine Does.walk (nt := 32) Try.func41 rfl rfl (by simp) (by decide) rfl (fun G0 X w0 pv => ?_)
  have hL_0 : l_a0.length ≤ 9223372036854775807 := by first | assumption | omega
  obtain ⟨q_0, eq_0, h⟩ := Option.bind_eq_some_iff.1 h
  have ff := p_impl_owns_tf.down
  try refine st_by ff ?_
  repeat' (first | exact trivial | refine And.intro sd ?_)
  obtain ⟨I_0, hI_0⟩ : ∃ I_ : (Nat × (List Int)) → ASt → Prop, I_ = (fun (a : Nat × (List Int)) σ => match a with | (i_0, out_11) => (i_0 ≤ l_a0.length ∧ p_impl_owns_l0 (l_a0.drop i_0) i_0 out_11 = some q_0) ∧ σ.t 3 = .sl 3 [] 0 out_11.length ∧ σ.t 7 = .row false 4 l_a0.length (esSpan l_a0) ∧ σ.t 8 = I (l_a0.length : Int) ∧ σ.t 9 = I (i_0 : Int) ∧ σ.m 3 = some (.row true 1 out_11.length (esInt out_11))) := ⟨_, rfl⟩
  obtain ⟨M_0, hM_0⟩ : ∃ M_ : (Nat × (List Int)) → Nat, M_ = (fun (a : Nat × (List Int)) => match a with | (i_0, out_11) => l_a0.length - i_0) := ⟨_, rfl⟩
  obtain ⟨J_0, hJ_0⟩ : ∃ J_ : ASt → Prop, J_ = (fun σ => ∃ out_11 : List Int, (some out_11 = some q_0) ∧ σ.t 3 = .sl 3 [] 0 out_11.length ∧ σ.m 3 = some (.row true 1 out_11.length (esInt out_11))) := ⟨_, rfl⟩
  refine aw_loopC (id := 0) I_0 M_0 J_0 (0, ([] : List Int)) ?_ ?_ ?_
  · rw [hI_0]
    refine ⟨⟨Nat.zero_le _, eq_0⟩, ?_⟩
    exact p_impl_owns_pv ff trivial
  · try clear ff
    rintro ⟨i_0, out_11⟩ σ hg_0
    rw [hI_0] at hg_0
    obtain ⟨⟨hi_0, h_0⟩, g0_0, g1_0, g2_0, g3_0, g4_0⟩ := hg_0
    cases hr_0 : l_a0.drop i_0 with
    | nil =>
      rw [hr_0] at h_0
      rw [p_impl_owns_l0] at h_0
      have hn_0 := drop_nil hr_0
      have dr_0 : decide ((i_0 : Int) < (l_a0.length : Int)) = false := decide_eq_false (by omega)
      have ff := ai @dr_0 (ai @g0_0 (ai @g1_0 (ai @g2_0 (ai @g3_0 (ai @g4_0 p_impl_owns_tf.down)))))
      try refine st_by ff ?_
      repeat' (first | exact trivial | refine And.intro sd ?_)
      refine JW.intro ?_
      rw [hJ_0]
      refine ⟨out_11, h_0, ?_⟩
      exact p_impl_owns_pv ff trivial
    | cons x_0 r_0 =>
      rw [hr_0] at h_0
      rw [p_impl_owns_l0] at h_0
      obtain ⟨ht_0, hg_0, hd_0⟩ := drop_cons hr_0
      have dr_0 : decide ((i_0 : Int) < (l_a0.length : Int)) = true := decide_eq_true (by omega)
      have w_0 : IntKind.i64.wrap ((i_0 : Int) + 1) = ((i_0 + 1 : Nat) : Int) := wI _ (by omega) (by omega)
      have kk0c : (esSpan l_a0).drop (i_0 * 4) = eSpan x_0 ++ esSpan (l_a0.drop (i_0 + 1)) := drop_enc (fun _ => rfl) (hg_0)
      obtain ⟨v23, ev23, h_0⟩ := Option.bind_eq_some_iff.1 h_0
      try dsimp only at h_0
      have ff := ai @dr_0 (ai @w_0 (ai @g0_0 (ai @g1_0 (ai @g2_0 (ai @g3_0 (ai @g4_0 (ai @kk0c p_impl_owns_tf.down)))))))
      try refine st_by ff ?_
      repeat' (first | exact trivial | refine And.intro sd ?_)
      first
      | (refine cq_call (p_impl_Span_long_does x_0 v23 ev23) (hf_by ff) kr ⟨p_impl_owns_sa ff trivial, ?_⟩; clear ff)
      | (refine cq_dcall (p_impl_Span_long_does x_0 v23 ev23) (hf_by ff) kr ⟨p_impl_owns_sa ff trivial, ?_⟩; clear ff)
      by_cases c24 : out_11.length < 4294967296
      case neg => rw [if_neg c24] at h_0; cases h_0
      rw [if_pos c24] at h_0
      have a25a : esInt out_11 ++ [I v23] = esInt (out_11 ++ [v23]) := by simp [esInt_app, esInt_cons, esInt_nil, eInt_eq, esInt_nil, esSpan_nil]
      have a25b : out_11.length + 1 = (out_11 ++ [v23]).length := by simp
      by_cases c26 : x_0.Up ≥ 0
      case neg =>
       rw [if_neg c26] at h_0
       have dc26 := decide_eq_false c26
       have ff := ai @dr_0 (ai @w_0 (ai @g0_0 (ai @g1_0 (ai @g2_0 (ai @g3_0 (ai @g4_0 (ai @kk0c (ai @a25a (ai @a25b (ai @dc26 p_impl_owns_tf.down))))))))))
       try refine st_by ff ?_
       repeat' (first | exact trivial | refine And.intro sd ?_)
       refine Back.intro (i_0 + 1, (out_11 ++ [v23])) ?_ ?_
       · clear ff; rw [hM_0]; show l_a0.length - (i_0 + 1) < l_a0.length - i_0; omega
       rw [hI_0]
       refine ⟨⟨by clear ff; show i_0 + 1 ≤ l_a0.length; omega, by show p_impl_owns_l0 (l_a0.drop (i_0 + 1)) (i_0 + 1) (out_11 ++ [v23]) = some q_0; rw [hd_0]; exact h_0⟩, ?_⟩
       exact p_impl_owns_pv ff trivial
      rw [if_pos c26] at h_0
      have dc26 := decide_eq_true c26
      obtain ⟨x27, ex27, h_0⟩ := Option.bind_eq_some_iff.1 h_0
      try dsimp only at h_0
      have f28a := idx_lo ex27
      have f28b := idx_hi ex27
      have f28c : (esInt (out_11 ++ [v23])).drop (x_0.Up.toNat * 1) = eInt x27 ++ esInt ((out_11 ++ [v23]).drop (x_0.Up.toNat + 1)) := drop_enc (fun _ => rfl) (idx_get ex27)
      have f28d := f28c
      rw [Nat.mul_one] at f28d
      have f28g0 : (esInt (out_11 ++ [v23])).getD (x_0.Up.toNat * 1) .junk = (eInt x27).getD 0 .junk := getD_enc0 (enc := eInt) (sz := 1) (fun _ => rfl) (idx_get ex27) (by decide)
      rw [Nat.mul_one] at f28g0
      obtain ⟨v29, ev29, h_0⟩ := Option.bind_eq_some_iff.1 h_0
      try dsimp only at h_0
      have ff := ai @dr_0 (ai @w_0 (ai @g0_0 (ai @g1_0 (ai @g2_0 (ai @g3_0 (ai @g4_0 (ai @kk0c (ai @a25a (ai @a25b (ai @dc26 (ai @f28c (ai @f28d (ai @f28g0 p_impl_owns_tf.down)))))))))))))
      try refine st_by ff ?_
      repeat' (first | exact trivial | refine And.intro sd ?_ | (refine aw_drawn (id := 7) ?_ [[], [], [1], [0, 1, 2], [0, 1, 2, 3], [], [5], [0, 1, 2, 3, 4, 5, 6], [0, 1, 2, 3, 4, 5, 6, 7], [0, 1, 2, 3, 4, 5, 6, 7, 8]] 7 ?_ ?_; (· kernel_rfl); (· kernel_rfl); refine st_by ff ?_))
      first
      | (refine cq_call (p_impl_Span_long_does x_0 v29 ev29) (hf_by ff) kr ⟨p_impl_owns_sa ff trivial, ?_⟩; clear ff)
      | (refine cq_dcall (p_impl_Span_long_does x_0 v29 ev29) (hf_by ff) kr ⟨p_impl_owns_sa ff trivial, ?_⟩; clear ff)
      have w30l : x_0.Up.toNat < (out_11 ++ [v23]).length := (List.getElem?_eq_some_iff.1 (idx_get ex27)).1
      have w30a : (esInt (out_11 ++ [v23])).set (x_0.Up.toNat * 1) (I (IntKind.i64.wrap (x27 - v29))) = esInt ((out_11 ++ [v23]).set x_0.Up.toNat (IntKind.i64.wrap (x27 - v29))) := set_enc0 (enc := eInt) (sz := 1) (fun _ => rfl) (idx_get ex27) (by decide) rfl
      rw [Nat.mul_one] at w30a
      have w30b : ((out_11 ++ [v23]).set x_0.Up.toNat (IntKind.i64.wrap (x27 - v29))).length = (out_11 ++ [v23]).length := List.length_set
      have ff := ai @dr_0 (ai @w_0 (ai @g0_0 (ai @g1_0 (ai @g2_0 (ai @g3_0 (ai @g4_0 (ai @kk0c (ai @a25a (ai @a25b (ai @dc26 (ai @f28c (ai @f28d (ai @f28g0 (ai @w30a p_impl_owns_tf.down))))))))))))))
      try refine st_by ff ?_
      repeat' (first | exact trivial | refine And.intro sd ?_)
      refine Back.intro (i_0 + 1, ((out_11 ++ [v23]).set x_0.Up.toNat (IntKind.i64.wrap (x27 - v29)))) ?_ ?_
      · clear ff; rw [hM_0]; show l_a0.length - (i_0 + 1) < l_a0.length - i_0; omega
      rw [hI_0]
      refine ⟨⟨by clear ff; show i_0 + 1 ≤ l_a0.length; omega, by show p_impl_owns_l0 (l_a0.drop (i_0 + 1)) (i_0 + 1) ((out_11 ++ [v23]).set x_0.Up.toNat (IntKind.i64.wrap (x27 - v29))) = some q_0; rw [hd_0]; exact h_0⟩, ?_⟩
      exact p_impl_owns_pv ff trivial
  · try clear ff
    rintro σ hg_0
    rw [hJ_0] at hg_0
    obtain ⟨out_11, hj_0, g0_0a, g1_0a⟩ := hg_0
    have hjj_0 := Option.some.inj hj_0
    subst hjj_0
    try dsimp only at h
    have ff := ai @g0_0a (ai @g1_0a p_impl_owns_tf.down)
    try refine st_by ff ?_
    repeat' (first | exact trivial | refine And.intro sd ?_)
    cases h
    exact ret_q1 rfl (p_impl_owns_rt ff trivial)
/-! slices.BinarySearchFunc[[]impl.Total,impl.Total,string] -/
def p_slices_BinarySearchFunc_impl_Total_impl_Total_string_l0 (x_a0 : List GTotal) (target_a1 : ByteArray) (cmp_a2 : GTotal → ByteArray → Option Int) : Nat → Int → Int → Option (Int × Int)
  | 0, _, _ => none
  | n_0 + 1, i_6, j_7 => (if i_6 < j_7 then ((idx x_a0 (IntKind.i64.wrap (Int.fdiv (IntKind.u64.wrap (IntKind.i64.wrap (i_6 + j_7))) (2 ^ (min (1 : Int).toNat IntKind.u64.bits))))).bind fun x14 => ((cmp_a2 x14 target_a1).bind fun v16 => (if v16 < 0 then p_slices_BinarySearchFunc_impl_Total_impl_Total_string_l0 x_a0 target_a1 cmp_a2 n_0 (IntKind.i64.wrap ((IntKind.i64.wrap (Int.fdiv (IntKind.u64.wrap (IntKind.i64.wrap (i_6 + j_7))) (2 ^ (min (1 : Int).toNat IntKind.u64.bits)))) + 1)) j_7 else p_slices_BinarySearchFunc_impl_Total_impl_Total_string_l0 x_a0 target_a1 cmp_a2 n_0 i_6 (IntKind.i64.wrap (Int.fdiv (IntKind.u64.wrap (IntKind.i64.wrap (i_6 + j_7))) (2 ^ (min (1 : Int).toNat IntKind.u64.bits))))))) else some (i_6, j_7))
theorem p_slices_BinarySearchFunc_impl_Total_impl_Total_string_pv {F C A : Prop} (hF : F) (hC : C) (h : F → C → A := by intro hF hC; first | exact cl_by hF | (refine st_by hF ?_; (repeat' (first | exact trivial | apply And.intro)); all_goals (clear hF; first | rfl | (simp only [hC, List.length_append, List.length_cons, List.length_nil, List.append_nil, List.nil_append, List.cons_append, List.length_set, List.append_assoc, Nat.zero_add, List.length_replicate, esTotal_app, esTotal_cons, esTotal_nil, eTotal_eq]; done) | (simp [hC, List.length_append, List.length_cons, List.length_nil, List.append_nil, List.nil_append, List.cons_append, List.length_set, List.append_assoc, Nat.zero_add, List.length_replicate, esTotal_app, esTotal_cons, esTotal_nil, eTotal_eq]; done) | omega))) : A := h hF hC
theorem p_slices_BinarySearchFunc_impl_Total_impl_Total_string_sa {F C A : Prop} (hF : F) (hC : C) (h : F → C → A := by intro hF hC; first | exact ca_by hF | (refine sa_by hF ?_; (repeat' (first | exact trivial | apply And.intro)); all_goals (clear hF; first | rfl | (simp only [hC, List.length_append, List.length_cons, List.length_nil, List.append_nil, List.nil_append, List.cons_append, List.length_set, List.append_assoc, Nat.zero_add, List.length_replicate, esTotal_app, esTotal_cons, esTotal_nil, eTotal_eq]; done) | (simp [hC, List.length_append, List.length_cons, List.length_nil, List.append_nil, List.nil_append, List.cons_append, List.length_set, List.append_assoc, Nat.zero_add, List.length_replicate, esTotal_app, esTotal_cons, esTotal_nil, eTotal_eq]; done) | omega))) : A := h hF hC
theorem p_slices_BinarySearchFunc_impl_Total_impl_Total_string_rt {F C A : Prop} (hF : F) (hC : C) (h : F → C → A := by intro hF hC; first | (refine sr_by hF ?_; (repeat' (first | exact trivial | apply And.intro)); all_goals (clear hF; first | rfl | (simp only [hC, List.length_append, List.length_cons, List.length_nil, List.append_nil, List.nil_append, List.cons_append, List.length_set, List.append_assoc, Nat.zero_add, List.length_replicate, esTotal_app, esTotal_cons, esTotal_nil, eTotal_eq]; done) | (simp [hC, List.length_append, List.length_cons, List.length_nil, List.append_nil, List.nil_append, List.cons_append, List.length_set, List.append_assoc, Nat.zero_add, List.length_replicate, esTotal_app, esTotal_cons, esTotal_nil, eTotal_eq]; done) | omega)) | (first | rfl | (simp only [hC, List.length_append, List.length_cons, List.length_nil, List.append_nil, List.nil_append, List.cons_append, List.length_set, List.append_assoc, Nat.zero_add, List.length_replicate, esTotal_app, esTotal_cons, esTotal_nil, eTotal_eq]; done) | (simp [hC, List.length_append, List.length_cons, List.length_nil, List.append_nil, List.nil_append, List.cons_append, List.length_set, List.append_assoc, Nat.zero_add, List.length_replicate, esTotal_app, esTotal_cons, esTotal_nil, eTotal_eq]; done) | omega)) : A := h hF hC
def p_slices_BinarySearchFunc_impl_Total_impl_Total_string_tf := PLift.up (ai @eTotal_eq (ai @esTotal_len (ai @esTotal_nil (ai @esTotal_leaf (ai @esTotal_fit (ai @esTotal_share (ai @esTotal_pure (ai @str_beq (ai @Ty.sl30 (ai @Ty.slz30 (ai @Ty.nz71 (ai @Ty.ldA71 (ai @Ty.sz71 (ai @Ty.szn71 (ai @Ty.int3 (ai @Ty.int98 @trivial))))))))))))))))
def p_slices_BinarySearchFunc_impl_Total_impl_Total_string (N : Nat) (x_a0 : List GTotal) (target_a1 : ByteArray) (cmp_a2 : GTotal → ByteArray → Option Int) : Option (Int × Bool) := ((p_slices_BinarySearchFunc_impl_Total_impl_Total_string_l0 x_a0 target_a1 cmp_a2 N 0 (x_a0.length : Int)).bind fun q_0 => match q_0 with | (i_6, j_7) => (if i_6 < (x_a0.length : Int) then ((idx x_a0 i_6).bind fun x19 => ((cmp_a2 x19 target_a1).bind fun v21 => some (i_6, (v21 == 0)))) else some (i_6, false)))
theorem p_slices_BinarySearchFunc_impl_Total_impl_Total_string_does (N : Nat) (x_a0 : List GTotal) (target_a1 : ByteArray) (f2 : FuncId) (caps2 : List AV) (hc2 : AV.noRefs caps2 = true) (he2 : entB Try.prog f2 = true) (cmp_a2 : GTotal → ByteArray → Option Int) (hp2 : ∀ (x0_ : GTotal) (x1_ : ByteArray) (y_ : Int), cmp_a2 x0_ x1_ = some y_ → Does Try.prog f2 ([.agg (eTotal x0_), S x1_] ++ caps2) (I y_)) (r : Int × Bool) (h : p_slices_BinarySearchFunc_impl_Total_impl_Total_string N x_a0 target_a1 cmp_a2 = some r) : Does Try.prog 42 [.row false 4 x_a0.length (esTotal x_a0), S target_a1, .fn f2 caps2] (.tup [I r.1, B r.2]) := by
  rw [p_slices_BinarySearchFunc_impl_Total_impl_Total_string] at h
  refine Does.bnd (fun hb => ?_)
  have hb2 : x_a0.length ≤ 9223372036854775807 := by simpa [AV.fitNs, AV.fitN] using hb
  have hl0 := hb2
  refine Does.walk (nt := 49) Try.func42 rfl rfl (by simp) (by decide) (by simp [AV.noRefs, AV.noRef, hc2]) (fun G0 X w0 pv => ?_)
  obtain ⟨q_0, eq_0, h⟩ := Option.bind_eq_some_iff.1 h
  have ff := ai @hc2 p_slices_BinarySearchFunc_impl_Total_impl_Total_string_tf.down
  try refine st_by ff ?_
  repeat' (first | exact trivial | refine And.intro sd ?_)
  obtain ⟨I_0, hI_0⟩ : ∃ I_ : (Nat × Int × Int) → ASt → Prop, I_ = (fun (a : Nat × Int × Int) σ => match a with | (n_0, i_6, j_7) => (p_slices_BinarySearchFunc_impl_Total_impl_Total_string_l0 x_a0 target_a1 cmp_a2 n_0 i_6 j_7 = some q_0) ∧ σ.t 0 = .row false 4 x_a0.length (esTotal x_a0) ∧ σ.t 1 = S target_a1 ∧ σ.t 2 = .fn f2 caps2 ∧ σ.t 8 = I (x_a0.length : Int) ∧ σ.t 9 = I i_6 ∧ σ.t 10 = I j_7) := ⟨_, rfl⟩
  obtain ⟨M_0, hM_0⟩ : ∃ M_ : (Nat × Int × Int) → Nat, M_ = (fun (a : Nat × Int × Int) => match a with | (n_0, i_6, j_7) => n_0) := ⟨_, rfl⟩
  obtain ⟨J_0, hJ_0⟩ : ∃ J_ : ASt → Prop, J_ = (fun σ => ∃ i_6 : Int, ∃ j_7 : Int, (some (i_6, j_7) = some q_0) ∧ σ.t 0 = .row false 4 x_a0.length (esTotal x_a0) ∧ σ.t 1 = S target_a1 ∧ σ.t 2 = .fn f2 caps2 ∧ σ.t 8 = I (x_a0.length : Int) ∧ σ.t 9 = I i_6) := ⟨_, rfl⟩
  refine aw_loopC (id := 0) I_0 M_0 J_0 (N, 0, (x_a0.length : Int)) ?_ ?_ ?_
  · rw [hI_0]
    refine ⟨eq_0, ?_⟩
    exact p_slices_BinarySearchFunc_impl_Total_impl_Total_string_pv ff trivial
  · try clear ff
    rintro ⟨n_0, i_6, j_7⟩ σ hg_0
    rw [hI_0] at hg_0
    obtain ⟨h_0, g0_0, g1_0, g2_0, g3_0, g4_0, g5_0⟩ := hg_0
    cases n_0 with
    | zero => rw [p_slices_BinarySearchFunc_impl_Total_impl_Total_string_l0] at h_0; cases h_0
    | succ n_0 =>
      rw [p_slices_BinarySearchFunc_impl_Total_impl_Total_string_l0] at h_0
      by_cases c13 : i_6 < j_7
      case neg =>
       rw [if_neg c13] at h_0
       have dc13 := decide_eq_false c13
       have ff := ai @hc2 (ai @g0_0 (ai @g1_0 (ai @g2_0 (ai @g3_0 (ai @g4_0 (ai @g5_0 (ai @dc13 p_slices_BinarySearchFunc_impl_Total_impl_Total_string_tf.down)))))))
       try refine st_by ff ?_
       repeat' (first | exact trivial | refine And.intro sd ?_)
       refine JW.intro ?_
       rw [hJ_0]
       refine ⟨i_6, j_7, h_0, ?_⟩
       exact p_slices_BinarySearchFunc_impl_Total_impl_Total_string_pv ff trivial
      rw [if_pos c13] at h_0
      have dc13 := decide_eq_true c13
      obtain ⟨x14, ex14, h_0⟩ := Option.bind_eq_some_iff.1 h_0
      try dsimp only at h_0
      have f15a := idx_lo ex14
      have f15b := idx_hi ex14
      have f15c : (esTotal x_a0).drop (((IntKind.i64.wrap (Int.fdiv (IntKind.u64.wrap (IntKind.i64.wrap (i_6 + j_7))) (2 ^ (min (1 : Int).toNat IntKind.u64.bits)))).toNat) * 4) = eTotal x14 ++ esTotal (x_a0.drop ((IntKind.i64.wrap (Int.fdiv (IntKind.u64.wrap (IntKind.i64.wrap (i_6 + j_7))) (2 ^ (min (1 : Int).toNat IntKind.u64.bits)))).toNat + 1)) := drop_enc (fun _ => rfl) (idx_get ex14)
      obtain ⟨v16, ev16, h_0⟩ := Option.bind_eq_some_iff.1 h_0
      try dsimp only at h_0
      have ff := ai @hc2 (ai @g0_0 (ai @g1_0 (ai @g2_0 (ai @g3_0 (ai @g4_0 (ai @g5_0 (ai @dc13 (ai @f15c p_slices_BinarySearchFunc_impl_Total_impl_Total_string_tf.down))))))))
      try refine st_by ff ?_
      repeat' (first | exact trivial | refine And.intro sd ?_)
      first
      | (refine cq_call (hp2 x14 target_a1 v16 ev16) (hf_by ff) he2 ⟨p_slices_BinarySearchFunc_impl_Total_impl_Total_string_sa ff trivial, ?_⟩; clear ff)
      by_cases c17 : v16 < 0
      case neg =>
       rw [if_neg c17] at h_0
       have dc17 := decide_eq_false c17
       have ff := ai @hc2 (ai @g0_0 (ai @g1_0 (ai @g2_0 (ai @g3_0 (ai @g4_0 (ai @g5_0 (ai @dc13 (ai @f15c (ai @dc17 p_slices_BinarySearchFunc_impl_Total_impl_Total_string_tf.down)))))))))
       try refine st_by ff ?_
       repeat' (first | exact trivial | refine And.intro sd ?_)
       refine Back.intro (n_0, i_6, (IntKind.i64.wrap (Int.fdiv (IntKind.u64.wrap (IntKind.i64.wrap (i_6 + j_7))) (2 ^ (min (1 : Int).toNat IntKind.u64.bits))))) ?_ ?_
       · rw [hM_0]; exact Nat.lt_succ_self _
       rw [hI_0]
       refine ⟨h_0, ?_⟩
       exact p_slices_BinarySearchFunc_impl_Total_impl_Total_string_pv ff trivial
      rw [if_pos c17] at h_0
      have dc17 := decide_eq_true c17
      have ff := ai @hc2 (ai @g0_0 (ai @g1_0 (ai @g2_0 (ai @g3_0 (ai @g4_0 (ai @g5_0 (ai @dc13 (ai @f15c (ai @dc17 p_slices_BinarySearchFunc_impl_Total_impl_Total_string_tf.down)))))))))
      try refine st_by ff ?_
      repeat' (first | exact trivial | refine And.intro sd ?_)
      refine Back.intro (n_0, (IntKind.i64.wrap ((IntKind.i64.wrap (Int.fdiv (IntKind.u64.wrap (IntKind.i64.wrap (i_6 + j_7))) (2 ^ (min (1 : Int).toNat IntKind.u64.bits)))) + 1)), j_7) ?_ ?_
      · rw [hM_0]; exact Nat.lt_succ_self _
      rw [hI_0]
      refine ⟨h_0, ?_⟩
      exact p_slices_BinarySearchFunc_impl_Total_impl_Total_string_pv ff trivial
  · try clear ff
    rintro σ hg_0
    rw [hJ_0] at hg_0
    obtain ⟨i_6, j_7, hj_0, g0_0a, g1_0a, g2_0a, g3_0a, g4_0a⟩ := hg_0
    cases hj_0
    try dsimp only at h
    by_cases c18 : i_6 < (x_a0.length : Int)
    case neg =>
     rw [if_neg c18] at h
     have dc18 := decide_eq_false c18
     have ff := ai @hc2 (ai @g0_0a (ai @g1_0a (ai @g2_0a (ai @g3_0a (ai @g4_0a (ai @dc18 p_slices_BinarySearchFunc_impl_Total_impl_Total_string_tf.down))))))
     try refine st_by ff ?_
     repeat' (first | exact trivial | refine And.intro sd ?_)
     cases h
     exact ret_q2 rfl (p_slices_BinarySearchFunc_impl_Total_impl_Total_string_rt ff trivial)
    rw [if_pos c18] at h
    have dc18 := decide_eq_true c18
    obtain ⟨x19, ex19, h⟩ := Option.bind_eq_some_iff.1 h
    try dsimp only at h
    have f20a := idx_lo ex19
    have f20b := idx_hi ex19
    have f20c : (esTotal x_a0).drop (i_6.toNat * 4) = eTotal x19 ++ esTotal (x_a0.drop (i_6.toNat + 1)) := drop_enc (fun _ => rfl) (idx_get ex19)
    obtain ⟨v21, ev21, h⟩ := Option.bind_eq_some_iff.1 h
    try dsimp only at h
    have ff := ai @hc2 (ai @g0_0a (ai @g1_0a (ai @g2_0a (ai @g3_0a (ai @g4_0a (ai @dc18 (ai @f20c p_slices_BinarySearchFunc_impl_Total_impl_Total_string_tf.down)))))))
    try refine st_by ff ?_
    repeat' (first | exact trivial | refine And.intro sd ?_)
    first
    | (refine cq_call (hp2 x19 target_a1 v21 ev21) (hf_by ff) he2 ⟨p_slices_BinarySearchFunc_impl_Total_impl_Total_string_sa ff trivial, ?_⟩; clear ff)
    have ff := ai @hc2 (ai @g0_0a (ai @g1_0a (ai @g2_0a (ai @g3_0a (ai @g4_0a (ai @dc18 (ai @f20c p_slices_BinarySearchFunc_impl_Total_impl_Total_string_tf.down)))))))
    try refine st_by ff ?_
    repeat' (first | exact trivial | refine And.intro sd ?_)
    cases h
    exact ret_q2 rfl (p_slices_BinarySearchFunc_impl_Total_impl_Total_string_rt ff trivial)
/-! internal/bytealg.CompareString -/
theorem p_internal_bytealg_CompareString_pv {F C A : Prop} (hF : F) (hC : C) (h : F → C → A := by intro hF hC; first | exact cl_by hF | (refine st_by hF ?_; (repeat' (first | exact trivial | apply And.intro)); all_goals (clear hF; first | rfl | (simp only [hC, List.length_append, List.length_cons, List.length_nil, List.append_nil, List.nil_append, List.cons_append, List.length_set, List.append_assoc, Nat.zero_add, List.length_replicate]; done) | (simp [hC, List.length_append, List.length_cons, List.length_nil, List.append_nil, List.nil_append, List.cons_append, List.length_set, List.append_assoc, Nat.zero_add, List.length_replicate]; done) | omega))) : A := h hF hC
theorem p_internal_bytealg_CompareString_sa {F C A : Prop} (hF : F) (hC : C) (h : F → C → A := by intro hF hC; first | exact ca_by hF | (refine sa_by hF ?_; (repeat' (first | exact trivial | apply And.intro)); all_goals (clear hF; first | rfl | (simp only [hC, List.length_append, List.length_cons, List.length_nil, List.append_nil, List.nil_append, List.cons_append, List.length_set, List.append_assoc, Nat.zero_add, List.length_replicate]; done) | (simp [hC, List.length_append, List.length_cons, List.length_nil, List.append_nil, List.nil_append, List.cons_append, List.length_set, List.append_assoc, Nat.zero_add, List.length_replicate]; done) | omega))) : A := h hF hC
theorem p_internal_bytealg_CompareString_rt {F C A : Prop} (hF : F) (hC : C) (h : F → C → A := by intro hF hC; first | (refine sr_by hF ?_; (repeat' (first | exact trivial | apply And.intro)); all_goals (clear hF; first | rfl | (simp only [hC, List.length_append, List.length_cons, List.length_nil, List.append_nil, List.nil_append, List.cons_append, List.length_set, List.append_assoc, Nat.zero_add, List.length_replicate]; done) | (simp [hC, List.length_append, List.length_cons, List.length_nil, List.append_nil, List.nil_append, List.cons_append, List.length_set, List.append_assoc, Nat.zero_add, List.length_replicate]; done) | omega)) | (first | rfl | (simp only [hC, List.length_append, List.length_cons, List.length_nil, List.append_nil, List.nil_append, List.cons_append, List.length_set, List.append_assoc, Nat.zero_add, List.length_replicate]; done) | (simp [hC, List.length_append, List.length_cons, List.length_nil, List.append_nil, List.nil_append, List.cons_append, List.length_set, List.append_assoc, Nat.zero_add, List.length_replicate]; done) | omega)) : A := h hF hC
def p_internal_bytealg_CompareString_tf := PLift.up (ai @str_beq @trivial)
def p_internal_bytealg_CompareString (a_a0 : ByteArray) (b_a1 : ByteArray) : Option (Int) := some (cmpB a_a0 b_a1)
theorem p_internal_bytealg_CompareString_does (a_a0 : ByteArray) (b_a1 : ByteArray) (r : Int) (h : p_internal_bytealg_CompareString a_a0 b_a1 = some r) : Does Try.prog 75 [S a_a0, S b_a1] (I r) := by
  rw [p_internal_bytealg_CompareString] at h
  refine Does.walk (nt := 8) Try.func75 rfl rfl (by simp) (by decide) rfl (fun G0 X w0 pv => ?_)
  have ff := p_internal_bytealg_CompareString_tf.down
  try refine st_by ff ?_
  repeat' (first | exact trivial | refine And.intro sd ?_)
  (refine cq_ext (ext_cmp Try.func98 (by kernel_rfl) (by kernel_rfl) (by kernel_rfl) (by kernel_rfl) a_a0 b_a1) ⟨p_internal_bytealg_CompareString_sa ff trivial, ?_⟩; clear ff)
  have ff := p_internal_bytealg_CompareString_tf.down
  try refine st_by ff ?_
  repeat' (first | exact trivial | refine And.intro sd ?_)
  cases h
  exact ret_q1 rfl (p_internal_bytealg_CompareString_rt ff trivial)
/-! strings.Compare -/
theorem p_strings_Compare_pv {F C A : Prop} (hF : F) (hC : C) (h : F → C → A := by intro hF hC; first | exact cl_by hF | (refine st_by hF ?_; (repeat' (first | exact trivial | apply And.intro)); all_goals (clear hF; first | rfl | (simp only [hC, List.length_append, List.length_cons, List.length_nil, List.append_nil, List.nil_append, List.cons_append, List.length_set, List.append_assoc, Nat.zero_add, List.length_replicate]; done) | (simp [hC, List.length_append, List.length_cons, List.length_nil, List.append_nil, List.nil_append, List.cons_append, List.length_set, List.append_assoc, Nat.zero_add, List.length_replicate]; done) | omega))) : A := h hF hC
theorem p_strings_Compare_sa {F C A : Prop} (hF : F) (hC : C) (h : F → C → A := by intro hF hC; first | exact ca_by hF | (refine sa_by hF ?_; (repeat' (first | exact trivial | apply And.intro)); all_goals (clear hF; first | rfl | (simp only [hC, List.length_append, List.length_cons, List.length_nil, List.append_nil, List.nil_append, List.cons_append, List.length_set, List.append_assoc, Nat.zero_add, List.length_replicate]; done) | (simp [hC, List.length_append, List.length_cons, List.length_nil, List.append_nil, List.nil_append, List.cons_append, List.length_set, List.append_assoc, Nat.zero_add, List.length_replicate]; done) | omega))) : A := h hF hC
theorem p_strings_Compare_rt {F C A : Prop} (hF : F) (hC : C) (h : F → C → A := by intro hF hC; first | (refine sr_by hF ?_; (repeat' (first | exact trivial | apply And.intro)); all_goals (clear hF; first | rfl | (simp only [hC, List.length_append, List.length_cons, List.length_nil, List.append_nil, List.nil_append, List.cons_append, List.length_set, List.append_assoc, Nat.zero_add, List.length_replicate]; done) | (simp [hC, List.length_append, List.length_cons, List.length_nil, List.append_nil, List.nil_append, List.cons_append, List.length_set, List.append_assoc, Nat.zero_add, List.length_replicate]; done) | omega)) | (first | rfl | (simp only [hC, List.length_append, List.length_cons, List.length_nil, List.append_nil, List.nil_append, List.cons_append, List.length_set, List.append_assoc, Nat.zero_add, List.length_replicate]; done) | (simp [hC, List.length_append, List.length_cons, List.length_nil, List.append_nil, List.nil_append, List.cons_append, List.length_set, List.append_assoc, Nat.zero_add, List.length_replicate]; done) | omega)) : A := h hF hC
def p_strings_Compare_tf := PLift.up (ai @str_beq @trivial)
def p_strings_Compare (a_a0 : ByteArray) (b_a1 : ByteArray) : Option (Int) := ((p_internal_bytealg_CompareString a_a0 b_a1).bind fun v1 => some v1)
theorem p_strings_Compare_does (a_a0 : ByteArray) (b_a1 : ByteArray) (r : Int) (h : p_strings_Compare a_a0 b_a1 = some r) : Does Try.prog 44 [S a_a0, S b_a1] (I r) := by
  rw [p_strings_Compare] at h
  refine Does.walk (nt := 8) Try.func44 rfl rfl (by simp) (by decide) rfl (fun G0 X w0 pv => ?_)
  obtain ⟨v1, ev1, h⟩ := Option.bind_eq_some_iff.1 h
  try dsimp only at h
  have ff := p_strings_Compare_tf.down
  try refine st_by ff ?_
  repeat' (first | exact trivial | refine And.intro sd ?_)
  first
  | (refine cq_call (p_internal_bytealg_CompareString_does a_a0 b_a1 v1 ev1) (hf_by ff) kr ⟨p_strings_Compare_sa ff trivial, ?_⟩; clear ff)
  have ff := p_strings_Compare_tf.down
  try refine st_by ff ?_
  repeat' (first | exact trivial | refine And.intro sd ?_)
  cases h
  exact ret_q1 rfl (p_strings_Compare_rt ff trivial)
/-! impl.TotalsOf$1 -/
theorem p_impl_TotalsOf_1_pv {F C A : Prop} (hF : F) (hC : C) (h : F → C → A := by intro hF hC; first | exact cl_by hF | (refine st_by hF ?_; (repeat' (first | exact trivial | apply And.intro)); all_goals (clear hF; first | rfl | (simp only [hC, List.length_append, List.length_cons, List.length_nil, List.append_nil, List.nil_append, List.cons_append, List.length_set, List.append_assoc, Nat.zero_add, List.length_replicate, esTotal_app, esTotal_cons, esTotal_nil, eTotal_eq]; done) | (simp [hC, List.length_append, List.length_cons, List.length_nil, List.append_nil, List.nil_append, List.cons_append, List.length_set, List.append_assoc, Nat.zero_add, List.length_replicate, esTotal_app, esTotal_cons, esTotal_nil, eTotal_eq]; done) | omega))) : A := h hF hC
theorem p_impl_TotalsOf_1_sa {F C A : Prop} (hF : F) (hC : C) (h : F → C → A := by intro hF hC; first | exact ca_by hF | (refine sa_by hF ?_; (repeat' (first | exact trivial | apply And.intro)); all_goals (clear hF; first | rfl | (simp only [hC, List.length_append, List.length_cons, List.length_nil, List.append_nil, List.nil_append, List.cons_append, List.length_set, List.append_assoc, Nat.zero_add, List.length_replicate, esTotal_app, esTotal_cons, esTotal_nil, eTotal_eq]; done) | (simp [hC, List.length_append, List.length_cons, List.length_nil, List.append_nil, List.nil_append, List.cons_append, List.length_set, List.append_assoc, Nat.zero_add, List.length_replicate, esTotal_app, esTotal_cons, esTotal_nil, eTotal_eq]; done) | omega))) : A := h hF hC
theorem p_impl_TotalsOf_1_rt {F C A : Prop} (hF : F) (hC : C) (h : F → C → A := by intro hF hC; first | (refine sr_by hF ?_; (repeat' (first | exact trivial | apply And.intro)); all_goals (clear hF; first | rfl | (simp only [hC, List.length_append, List.length_cons, List.length_nil, List.append_nil, List.nil_append, List.cons_append, List.length_set, List.append_assoc, Nat.zero_add, List.length_replicate, esTotal_app, esTotal_cons, esTotal_nil, eTotal_eq]; done) | (simp [hC, List.length_append, List.length_cons, List.length_nil, List.append_nil, List.nil_append, List.cons_append, List.length_set, List.append_assoc, Nat.zero_add, List.length_replicate, esTotal_app, esTotal_cons, esTotal_nil, eTotal_eq]; done) | omega)) | (first | rfl | (simp only [hC, List.length_append, List.length_cons, List.length_nil, List.append_nil, List.nil_append, List.cons_append, List.length_set, List.append_assoc, Nat.zero_add, List.length_replicate, esTotal_app, esTotal_cons, esTotal_nil, eTotal_eq]; done) | (simp [hC, List.length_append, List.length_cons, List.length_nil, List.append_nil, List.nil_append, List.cons_append, List.length_set, List.append_assoc, Nat.zero_add, List.length_replicate, esTotal_app, esTotal_cons, esTotal_nil, eTotal_eq]; done) | omega)) : A := h hF hC
def p_impl_TotalsOf_1_tf := PLift.up (ai @eTotal_eq (ai @esTotal_len (ai @esTotal_nil (ai @esTotal_leaf (ai @esTotal_fit (ai @esTotal_share (ai @esTotal_pure (ai @str_beq (ai @Ty.nz9 (ai @Ty.ldA9 (ai @Ty.ldS9 (ai @Ty.sz9 (ai @Ty.szn9 (ai @Ty.fo71_0 (ai @Ty.fk71_0 (ai @Ty.fs71_0 (ai @Ty.fn71_0 @trivial)))))))))))))))))
def p_impl_TotalsOf_1 (t_a0 : GTotal) (name_a1 : ByteArray) : Option (Int) := ((p_strings_Compare t_a0.Name name_a1).bind fun v1 => some v1)
theorem p_impl_TotalsOf_1_does (t_a0 : GTotal) (name_a1 : ByteArray) (r : Int) (h : p_impl_TotalsOf_1 t_a0 name_a1 = some r) : Does Try.prog 43 [.agg (eTotal t_a0), S name_a1] (I r) := by
  rw [p_impl_TotalsOf_1] at h
  refine Does.walk (nt := 9) Try.func43 rfl rfl (by simp) (by decide) rfl (fun G0 X w0 pv => ?_)
  obtain ⟨v1, ev1, h⟩ := Option.bind_eq_some_iff.1 h
  try dsimp only at h
  have ff := p_impl_TotalsOf_1_tf.down
  try refine st_by ff ?_
  repeat' (first | exact trivial | refine And.intro sd ?_)
  first
  | (refine cq_call (p_strings_Compare_does t_a0.Name name_a1 v1 ev1) (hf_by ff) kr ⟨p_impl_TotalsOf_1_sa ff trivial, ?_⟩; clear ff)
  have ff := p_impl_TotalsOf_1_tf.down
  try refine st_by ff ?_
  repeat' (first | exact trivial | refine And.intro sd ?_)
  cases h
  exact ret_q1 rfl (p_impl_TotalsOf_1_rt ff trivial)
/-! impl.TotalsOf$2 -/
theorem p_impl_TotalsOf_2_pv {F C A : Prop} (hF : F) (hC : C) (h : F → C → A := by intro hF hC; first | exact cl_by hF | (refine st_by hF ?_; (repeat' (first | exact trivial | apply And.intro)); all_goals (clear hF; first | rfl | (simp only [hC, List.length_append, List.length_cons, List.length_nil, List.append_nil, List.nil_append, List.cons_append, List.length_set, List.append_assoc, Nat.zero_add, List.length_replicate, esLSpan_app, esLSpan_cons, esLSpan_nil, eLSpan_eq, esLSpano_app, esLSpano_cons, esLSpano_nil, eLSpano_eq, esSpan_app, esSpan_cons, esSpan_nil, eSpan_eq]; done) | (simp [hC, List.length_append, List.length_cons, List.length_nil, List.append_nil, List.nil_append, List.cons_append, List.length_set, List.append_assoc, Nat.zero_add, List.length_replicate, esLSpan_app, esLSpan_cons, esLSpan_nil, eLSpan_eq, esLSpano_app, esLSpano_cons, esLSpano_nil, eLSpano_eq, esSpan_app, esSpan_cons, esSpan_nil, eSpan_eq]; done) | omega))) : A := h hF hC
theorem p_impl_TotalsOf_2_sa {F C A : Prop} (hF : F) (hC : C) (h : F → C → A := by intro hF hC; first | exact ca_by hF | (refine sa_by hF ?_; (repeat' (first | exact trivial | apply And.intro)); all_goals (clear hF; first | rfl | (simp only [hC, List.length_append, List.length_cons, List.length_nil, List.append_nil, List.nil_append, List.cons_append, List.length_set, List.append_assoc, Nat.zero_add, List.length_replicate, esLSpan_app, esLSpan_cons, esLSpan_nil, eLSpan_eq, esLSpano_app, esLSpano_cons, esLSpano_nil, eLSpano_eq, esSpan_app, esSpan_cons, esSpan_nil, eSpan_eq]; done) | (simp [hC, List.length_append, List.length_cons, List.length_nil, List.append_nil, List.nil_append, List.cons_append, List.length_set, List.append_assoc, Nat.zero_add, List.length_replicate, esLSpan_app, esLSpan_cons, esLSpan_nil, eLSpan_eq, esLSpano_app, esLSpano_cons, esLSpano_nil, eLSpano_eq, esSpan_app, esSpan_cons, esSpan_nil, eSpan_eq]; done) | omega))) : A := h hF hC
theorem p_impl_TotalsOf_2_rt {F C A : Prop} (hF : F) (hC : C) (h : F → C → A := by intro hF hC; first | (refine sr_by hF ?_; (repeat' (first | exact trivial | apply And.intro)); all_goals (clear hF; first | rfl | (simp only [hC, List.length_append, List.length_cons, List.length_nil, List.append_nil, List.nil_append, List.cons_append, List.length_set, List.append_assoc, Nat.zero_add, List.length_replicate, esLSpan_app, esLSpan_cons, esLSpan_nil, eLSpan_eq, esLSpano_app, esLSpano_cons, esLSpano_nil, eLSpano_eq, esSpan_app, esSpan_cons, esSpan_nil, eSpan_eq]; done) | (simp [hC, List.length_append, List.length_cons, List.length_nil, List.append_nil, List.nil_append, List.cons_append, List.length_set, List.append_assoc, Nat.zero_add, List.length_replicate, esLSpan_app, esLSpan_cons, esLSpan_nil, eLSpan_eq, esLSpano_app, esLSpano_cons, esLSpano_nil, eLSpano_eq, esSpan_app, esSpan_cons, esSpan_nil, eSpan_eq]; done) | omega)) | (first | rfl | (simp only [hC, List.length_append, List.length_cons, List.length_nil, List.append_nil, List.nil_append, List.cons_append, List.length_set, List.append_assoc, Nat.zero_add, List.length_replicate, esLSpan_app, esLSpan_cons, esLSpan_nil, eLSpan_eq, esLSpano_app, esLSpano_cons, esLSpano_nil, eLSpano_eq, esSpan_app, esSpan_cons, esSpan_nil, eSpan_eq]; done) | (simp [hC, List.length_append, List.length_cons, List.length_nil, List.append_nil, List.nil_append, List.cons_append, List.length_set, List.append_assoc, Nat.zero_add, List.length_replicate, esLSpan_app, esLSpan_cons, esLSpan_nil, eLSpan_eq, esLSpano_app, esLSpano_cons, esLSpano_nil, eLSpano_eq, esSpan_app, esSpan_cons, esSpan_nil, eSpan_eq]; done) | omega)) : A := h hF hC
def p_impl_TotalsOf_2_tf := PLift.up (ai @eLSpan_eq (ai @esLSpan_len (ai @esLSpan_nil (ai @esLSpan_leaf (ai @esLSpan_fit (ai @eLSpano_eq (ai @esLSpano_len (ai @esLSpano_nil (ai @eSpan_eq (ai @esSpan_len (ai @esSpan_nil (ai @esSpan_leaf (ai @esSpan_fit (ai @esLSpano_share (ai @esLSpano_pure (ai @esSpan_share (ai @esSpan_pure (ai @str_beq (ai @Ty.sl33 (ai @Ty.slz33 (ai @Ty.nz33 (ai @Ty.ldA33 (ai @Ty.ldS33 (ai @Ty.sz33 (ai @Ty.szn33 (ai @Ty.nz9 (ai @Ty.ldA9 (ai @Ty.ldS9 (ai @Ty.sz9 (ai @Ty.szn9 (ai @Ty.fo67_0 (ai @Ty.fk67_0 (ai @Ty.fs67_0 (ai @Ty.fn67_0 @trivial))))))))))))))))))))))))))))))))))
def p_impl_TotalsOf_2 (up_a0 : Int) (k0_ : List GSpan) (k1_ : GSpan) : Option (Bool) := ((idx k0_ up_a0).bind fun x1 => some (decide (x1.Name = k1_.Name)))
theorem p_impl_TotalsOf_2_does (up_a0 : Int) (k0_ : List GSpan) (k1_ : GSpan) (r : Bool) (h : p_impl_TotalsOf_2 up_a0 k0_ k1_ = some r) : Does Try.prog 47 [I up_a0, .box false (eLSpan k0_), .box false (eSpan k1_)] (B r) := by
  rw [p_impl_TotalsOf_2] at h
  refine Does.walk (nt := 13) Try.func47 rfl rfl (by simp) (by decide) rfl (fun G0 X w0 pv => ?_)
  obtain ⟨x1, ex1, h⟩ := Option.bind_eq_some_iff.1 h
  try dsimp only at h
  have f2a := idx_lo ex1
  have f2b := idx_hi ex1
  have f2c : (esSpan k0_).drop (up_a0.toNat * 4) = eSpan x1 ++ esSpan (k0_.drop (up_a0.toNat + 1)) := drop_enc (fun _ => rfl) (idx_get ex1)
  have ff := ai @f2c p_impl_TotalsOf_2_tf.down
  try refine st_by ff ?_
  repeat' (first | exact trivial | refine And.intro sd ?_ | (refine aw_drawn (id := 1) ?_ [[], [], [0, 1], [0, 1, 2], [0, 1, 2, 3], [], [5], [0, 1, 2, 3, 4, 5, 6], [0, 1, 2, 3, 4, 5, 6, 7]] 7 ?_ ?_; (· kernel_rfl); (· kernel_rfl); refine st_by ff ?_))
  cases h
  exact ret_q1 rfl (p_impl_TotalsOf_2_rt ff trivial)
/-! slices.IndexFunc[[]int,int] -/
def p_slices_IndexFunc_int_int_l0 (f_a1 : Int → Option Bool) : List Int → Nat → Option (LR (Int) (Unit))
  | [], i_0 => some (.out ())
  | x_0 :: r_0, i_0 => ((f_a1 x_0).bind fun v12 => (if v12 = true then some (.ret (i_0 : Int)) else p_slices_IndexFunc_int_int_l0 f_a1 r_0 (i_0 + 1)))
theorem p_slices_IndexFunc_int_int_pv {F C A : Prop} (hF : F) (hC : C) (h : F → C → A := by intro hF hC; first | exact cl_by hF | (refine st_by hF ?_; (repeat' (first | exact trivial | apply And.intro)); all_goals (clear hF; first | rfl | (simp only [hC, List.length_append, List.length_cons, List.length_nil, List.append_nil, List.nil_append, List.cons_append, List.length_set, List.append_assoc, Nat.zero_add, List.length_replicate, esInt_app, esInt_cons, esInt_nil, eInt_eq]; done) | (simp [hC, List.length_append, List.length_cons, List.length_nil, List.append_nil, List.nil_append, List.cons_append, List.length_set, List.append_assoc, Nat.zero_add, List.length_replicate, esInt_app, esInt_cons, esInt_nil, eInt_eq]; done) | omega))) : A := h hF hC
theorem p_slices_IndexFunc_int_int_sa {F C A : Prop} (hF : F) (hC : C) (h : F → C → A := by intro hF hC; first | exact ca_by hF | (refine sa_by hF ?_; (repeat' (first | exact trivial | apply And.intro)); all_goals (clear hF; first | rfl | (simp only [hC, List.length_append, List.length_cons, List.length_nil, List.append_nil, List.nil_append, List.cons_append, List.length_set, List.append_assoc, Nat.zero_add, List.length_replicate, esInt_app, esInt_cons, esInt_nil, eInt_eq]; done) | (simp [hC, List.length_append, List.length_cons, List.length_nil, List.append_nil, List.nil_append, List.cons_append, List.length_set, List.append_assoc, Nat.zero_add, List.length_replicate, esInt_app, esInt_cons, esInt_nil, eInt_eq]; done) | omega))) : A := h hF hC
theorem p_slices_IndexFunc_int_int_rt {F C A : Prop} (hF : F) (hC : C) (h : F → C → A := by intro hF hC; first | (refine sr_by hF ?_; (repeat' (first | exact trivial | apply And.intro)); all_goals (clear hF; first | rfl | (simp only [hC, List.length_append, List.length_cons, List.length_nil, List.append_nil, List.nil_append, List.cons_append, List.length_set, List.append_assoc, Nat.zero_add, List.length_replicate, esInt_app, esInt_cons, esInt_nil, eInt_eq]; done) | (simp [hC, List.length_append, List.length_cons, List.length_nil, List.append_nil, List.nil_append, List.cons_append, List.length_set, List.append_assoc, Nat.zero_add, List.length_replicate, esInt_app, esInt_cons, esInt_nil, eInt_eq]; done) | omega)) | (first | rfl | (simp only [hC, List.length_append, List.length_cons, List.length_nil, List.append_nil, List.nil_append, List.cons_append, List.length_set, List.append_assoc, Nat.zero_add, List.length_replicate, esInt_app, esInt_cons, esInt_nil, eInt_eq]; done) | (simp [hC, List.length_append, List.length_cons, List.length_nil, List.append_nil, List.nil_append, List.cons_append, List.length_set, List.append_assoc, Nat.zero_add, List.length_replicate, esInt_app, esInt_cons, esInt_nil, eInt_eq]; done) | omega)) : A := h hF hC
def p_slices_IndexFunc_int_int_tf := PLift.up (ai @eInt_eq (ai @esInt_len (ai @esInt_nil (ai @esInt_leaf (ai @esInt_fit (ai @esInt_share (ai @esInt_pure (ai @str_beq (ai @Ty.sl22 (ai @Ty.slz22 (ai @Ty.nz3 (ai @Ty.ldA3 (ai @Ty.ldS3 (ai @Ty.sz3 (ai @Ty.szn3 @trivial)))))))))))))))
def p_slices_IndexFunc_int_int (s_a0 : List Int) (f_a1 : Int → Option Bool) : Option (Int) := ((p_slices_IndexFunc_int_int_l0 f_a1 s_a0 0).bind fun q_0 => match q_0 with | .ret r_ => some r_ | .out _ => some (-1))
theorem p_slices_IndexFunc_int_int_does (s_a0 : List Int) (f1 : FuncId) (caps1 : List AV) (hc1 : AV.noRefs caps1 = true) (he1 : entB Try.prog f1 = true) (f_a1 : Int → Option Bool) (hp1 : ∀ (x0_ : Int) (y_ : Bool), f_a1 x0_ = some y_ → Does Try.prog f1 ([I x0_] ++ caps1) (B y_)) (r : Int) (h : p_slices_IndexFunc_int_int s_a0 f_a1 = some r) : Does Try.prog 69 [.row false 1 s_a0.length (esInt s_a0), .fn f1 caps1] (I r) := by
  rw [p_slices_IndexFunc_int_int] at h
  refine Does.bnd (fun hb => ?_)
  have hb2 : s_a0.length ≤ 9223372036854775807 := by simpa [AV.fitNs, AV.fitN] using hb
  have hl0 := hb2
  refine Does.walk (nt := 19) Try.func69 rfl rfl (by simp) (by decide) (by simp [AV.noRefs, AV.noRef, hc1]) (fun G0 X w0 pv => ?_)
  have hL_0 : s_a0.length ≤ 9223372036854775807 := by first | assumption | omega
  obtain ⟨q_0, eq_0, h⟩ := Option.bind_eq_some_iff.1 h
  have ff := ai @hc1 p_slices_IndexFunc_int_int_tf.down
  try refine st_by ff ?_
  repeat' (first | exact trivial | refine And.intro sd ?_)
  obtain ⟨I_0, hI_0⟩ : ∃ I_ : (Nat) → ASt → Prop, I_ = (fun (i_0 : Nat) σ => (i_0 ≤ s_a0.length ∧ p_slices_IndexFunc_int_int_l0 f_a1 (s_a0.drop i_0) i_0 = some q_0) ∧ σ.t 0 = .row false 1 s_a0.length (esInt s_a0) ∧ σ.t 1 = .fn f1 caps1 ∧ σ.t 7 = I (s_a0.length : Int) ∧ σ.t 8 = I (i_0 : Int)) := ⟨_, rfl⟩
  obtain ⟨M_0, hM_0⟩ : ∃ M_ : (Nat) → Nat, M_ = (fun (i_0 : Nat) => s_a0.length - i_0) := ⟨_, rfl⟩
  obtain ⟨J_0, hJ_0⟩ : ∃ J_ : ASt → Prop, J_ = (fun σ => (some (.out ()) = some q_0) ∧ True) := ⟨_, rfl⟩
  refine aw_loopC (id := 0) I_0 M_0 J_0 (0) ?_ ?_ ?_
  · rw [hI_0]
    refine ⟨⟨Nat.zero_le _, eq_0⟩, ?_⟩
    exact p_slices_IndexFunc_int_int_pv ff trivial
  · try clear ff
    rintro i_0 σ hg_0
    rw [hI_0] at hg_0
    obtain ⟨⟨hi_0, h_0⟩, g0_0, g1_0, g2_0, g3_0⟩ := hg_0
    cases hr_0 : s_a0.drop i_0 with
    | nil =>
      rw [hr_0] at h_0
      rw [p_slices_IndexFunc_int_int_l0] at h_0
      have hn_0 := drop_nil hr_0
      have dr_0 : decide ((i_0 : Int) < (s_a0.length : Int)) = false := decide_eq_false (by omega)
      have ff := ai @hc1 (ai @dr_0 (ai @g0_0 (ai @g1_0 (ai @g2_0 (ai @g3_0 p_slices_IndexFunc_int_int_tf.down)))))
      try refine st_by ff ?_
      repeat' (first | exact trivial | refine And.intro sd ?_)
      refine JW.intro ?_
      rw [hJ_0]
      refine ⟨h_0, ?_⟩
      exact p_slices_IndexFunc_int_int_pv ff trivial
    | cons x_0 r_0 =>
      rw [hr_0] at h_0
      rw [p_slices_IndexFunc_int_int_l0] at h_0
      obtain ⟨ht_0, hg_0, hd_0⟩ := drop_cons hr_0
      have dr_0 : decide ((i_0 : Int) < (s_a0.length : Int)) = true := decide_eq_true (by omega)
      have w_0 : IntKind.i64.wrap ((i_0 : Int) + 1) = ((i_0 + 1 : Nat) : Int) := wI _ (by omega) (by omega)
      have kk0c : (esInt s_a0).drop (i_0 * 1) = eInt x_0 ++ esInt (s_a0.drop (i_0 + 1)) := drop_enc (fun _ => rfl) (hg_0)
      have kk0d := kk0c
      rw [Nat.mul_one] at kk0d
      obtain ⟨v12, ev12, h_0⟩ := Option.bind_eq_some_iff.1 h_0
      try dsimp only at h_0
      have ff := ai @hc1 (ai @dr_0 (ai @w_0 (ai @g0_0 (ai @g1_0 (ai @g2_0 (ai @g3_0 (ai @kk0c (ai @kk0d p_slices_IndexFunc_int_int_tf.down))))))))
      try refine st_by ff ?_
      repeat' (first | exact trivial | refine And.intro sd ?_)
      first
      | (refine cq_call (hp1 x_0 v12 ev12) (hf_by ff) he1 ⟨p_slices_IndexFunc_int_int_sa ff trivial, ?_⟩; clear ff)
      by_cases c13 : v12 = true
      · rw [if_pos c13] at h_0
        have dc13 := c13
        cases h_0
        try dsimp only at h
        have ff := ai @hc1 (ai @dr_0 (ai @w_0 (ai @g0_0 (ai @g1_0 (ai @g2_0 (ai @g3_0 (ai @kk0c (ai @kk0d (ai @dc13 p_slices_IndexFunc_int_int_tf.down)))))))))
        try refine st_by ff ?_
        repeat' (first | exact trivial | refine And.intro sd ?_)
        cases h
        exact ret_q1 rfl (p_slices_IndexFunc_int_int_rt ff trivial)
      rw [if_neg c13] at h_0
      have dc13 := eq_false_of_ne_true c13
      have ff := ai @hc1 (ai @dr_0 (ai @w_0 (ai @g0_0 (ai @g1_0 (ai @g2_0 (ai @g3_0 (ai @kk0c (ai @kk0d (ai @dc13 p_slices_IndexFunc_int_int_tf.down)))))))))
      try refine st_by ff ?_
      repeat' (first | exact trivial | refine And.intro sd ?_)
      refine Back.intro (i_0 + 1) ?_ ?_
      · clear ff; rw [hM_0]; show s_a0.length - (i_0 + 1) < s_a0.length - i_0; omega
      rw [hI_0]
      refine ⟨⟨by clear ff; show i_0 + 1 ≤ s_a0.length; omega, by show p_slices_IndexFunc_int_int_l0 f_a1 (s_a0.drop (i_0 + 1)) (i_0 + 1) = some q_0; rw [hd_0]; exact h_0⟩, ?_⟩
      exact p_slices_IndexFunc_int_int_pv ff trivial
  · try clear ff
    rintro σ hg_0
    rw [hJ_0] at hg_0
    obtain ⟨hj_0, _⟩ := hg_0
    cases hj_0
    try dsimp only at h
    have ff := ai @hc1 p_slices_IndexFunc_int_int_tf.down
    try refine st_by ff ?_
    repeat' (first | exact trivial | refine And.intro sd ?_)
    cases h
    exact ret_q1 rfl (p_slices_IndexFunc_int_int_rt ff trivial)
/-! slices.ContainsFunc[[]int,int] -/
theorem p_slices_ContainsFunc_int_int_pv {F C A : Prop} (hF : F) (hC : C) (h : F → C → A := by intro hF hC; first | exact cl_by hF | (refine st_by hF ?_; (repeat' (first | exact trivial | apply And.intro)); all_goals (clear hF; first | rfl | (simp only [hC, List.length_append, List.length_cons, List.length_nil, List.append_nil, List.nil_append, List.cons_append, List.length_set, List.append_assoc, Nat.zero_add, List.length_replicate, esInt_app, esInt_cons, esInt_nil, eInt_eq]; done) | (simp [hC, List.length_append, List.length_cons, List.length_nil, List.append_nil, List.nil_append, List.cons_append, List.length_set, List.append_assoc, Nat.zero_add, List.length_replicate, esInt_app, esInt_cons, esInt_nil, eInt_eq]; done) | omega))) : A := h hF hC
theorem p_slices_ContainsFunc_int_int_sa {F C A : Prop} (hF : F) (hC : C) (h : F → C → A := by intro hF hC; first | exact ca_by hF | (refine sa_by hF ?_; (repeat' (first | exact trivial | apply And.intro)); all_goals (clear hF; first | rfl | (simp only [hC, List.length_append, List.length_cons, List.length_nil, List.append_nil, List.nil_append, List.cons_append, List.length_set, List.append_assoc, Nat.zero_add, List.length_replicate, esInt_app, esInt_cons, esInt_nil, eInt_eq]; done) | (simp [hC, List.length_append, List.length_cons, List.length_nil, List.append_nil, List.nil_append, List.cons_append, List.length_set, List.append_assoc, Nat.zero_add, List.length_replicate, esInt_app, esInt_cons, esInt_nil, eInt_eq]; done) | omega))) : A := h hF hC
theorem p_slices_ContainsFunc_int_int_rt {F C A : Prop} (hF : F) (hC : C) (h : F → C → A := by intro hF hC; first | (refine sr_by hF ?_; (repeat' (first | exact trivial | apply And.intro)); all_goals (clear hF; first | rfl | (simp only [hC, List.length_append, List.length_cons, List.length_nil, List.append_nil, List.nil_append, List.cons_append, List.length_set, List.append_assoc, Nat.zero_add, List.length_replicate, esInt_app, esInt_cons, esInt_nil, eInt_eq]; done) | (simp [hC, List.length_append, List.length_cons, List.length_nil, List.append_nil, List.nil_append, List.cons_append, List.length_set, List.append_assoc, Nat.zero_add, List.length_replicate, esInt_app, esInt_cons, esInt_nil, eInt_eq]; done) | omega)) | (first | rfl | (simp only [hC, List.length_append, List.length_cons, List.length_nil, List.append_nil, List.nil_append, List.cons_append, List.length_set, List.append_assoc, Nat.zero_add, List.length_replicate, esInt_app, esInt_cons, esInt_nil, eInt_eq]; done) | (simp [hC, List.length_append, List.length_cons, List.length_nil, List.append_nil, List.nil_append, List.cons_append, List.length_set, List.append_assoc, Nat.zero_add, List.length_replicate, esInt_app, esInt_cons, esInt_nil, eInt_eq]; done) | omega)) : A := h hF hC
def p_slices_ContainsFunc_int_int_tf := PLift.up (ai @eInt_eq (ai @esInt_len (ai @esInt_nil (ai @esInt_leaf (ai @esInt_fit (ai @esInt_share (ai @esInt_pure (ai @str_beq @trivial))))))))
def p_slices_ContainsFunc_int_int (s_a0 : List Int) (f_a1 : Int → Option Bool) : Option (Bool) := ((p_slices_IndexFunc_int_int s_a0 f_a1).bind fun v1 => some (decide (v1 ≥ 0)))
theorem p_slices_ContainsFunc_int_int_does (s_a0 : List Int) (f1 : FuncId) (caps1 : List AV) (hc1 : AV.noRefs caps1 = true) (he1 : entB Try.prog f1 = true) (f_a1 : Int → Option Bool) (hp1 : ∀ (x0_ : Int) (y_ : Bool), f_a1 x0_ = some y_ → Does Try.prog f1 ([I x0_] ++ caps1) (B y_)) (r : Bool) (h : p_slices_ContainsFunc_int_int s_a0 f_a1 = some r) : Does Try.prog 31 [.row false 1 s_a0.length (esInt s_a0), .fn f1 caps1] (B r) := by
  rw [p_slices_ContainsFunc_int_int] at h
  refine Does.bnd (fun hb => ?_)
  have hb2 : s_a0.length ≤ 9223372036854775807 := by simpa [AV.fitNs, AV.fitN] using hb
  have hl0 := hb2
  refine Does.walk (nt := 9) Try.func31 rfl rfl (by simp) (by decide) (by simp [AV.noRefs, AV.noRef, hc1]) (fun G0 X w0 pv => ?_)
  obtain ⟨v1, ev1, h⟩ := Option.bind_eq_some_iff.1 h
  try dsimp only at h
  have ff := ai @hc1 p_slices_ContainsFunc_int_int_tf.down
  try refine st_by ff ?_
  repeat' (first | exact trivial | refine And.intro sd ?_)
  first
  | (refine cq_call (p_slices_IndexFunc_int_int_does s_a0 f1 caps1 hc1 he1 f_a1 hp1 v1 ev1) (hf_by ff) kr ⟨p_slices_ContainsFunc_int_int_sa ff trivial, ?_⟩; clear ff)
  have ff := ai @hc1 p_slices_ContainsFunc_int_int_tf.down
  try refine st_by ff ?_
  repeat' (first | exact trivial | refine And.intro sd ?_)
  cases h
  exact ret_q1 rfl (p_slices_ContainsFunc_int_int_rt ff trivial)
/-! impl.TotalsOf -/
def p_impl_TotalsOf_j0 (N : Nat) (l_a0 : List GSpan) (v3 : List Int) (x_0 : GSpan) (i_0 : Nat) (v46 : Int × Bool) (rec_0 : Nat → (List GTotal) → Option ((List GTotal))) (out_47 : List GTotal) : Option ((List GTotal)) := ((idx out_47 v46.1).bind fun x48 => ((idx v3 (i_0 : Int)).bind fun x52 => ((p_impl_above N l_a0 x_0.Up).bind fun v55 => ((p_slices_ContainsFunc_int_int v55 (fun x0_ => p_impl_TotalsOf_2 x0_ l_a0 x_0)).bind fun v56 => (if v56 = true then rec_0 (i_0 + 1) ((out_47.set v46.1.toNat (⟨x48.Name, (IntKind.i64.wrap (x48.Count + 1)), x48.All, x48.Own⟩ : GTotal)).set v46.1.toNat (⟨(⟨x48.Name, (IntKind.i64.wrap (x48.Count + 1)), x48.All, x48.Own⟩ : GTotal).Name, (⟨x48.Name, (IntKind.i64.wrap (x48.Count + 1)), x48.All, x48.Own⟩ : GTotal).Count, (⟨x48.Name, (IntKind.i64.wrap (x48.Count + 1)), x48.All, x48.Own⟩ : GTotal).All, (IntKind.i64.wrap (((⟨x48.Name, (IntKind.i64.wrap (x48.Count + 1)), x48.All, x48.Own⟩ : GTotal).Own) + x52))⟩ : GTotal)) else ((p_impl_Span_long x_0).bind fun v59 => rec_0 (i_0 + 1) (((out_47.set v46.1.toNat (⟨x48.Name, (IntKind.i64.wrap (x48.Count + 1)), x48.All, x48.Own⟩ : GTotal)).set v46.1.toNat (⟨(⟨x48.Name, (IntKind.i64.wrap (x48.Count + 1)), x48.All, x48.Own⟩ : GTotal).Name, (⟨x48.Name, (IntKind.i64.wrap (x48.Count + 1)), x48.All, x48.Own⟩ : GTotal).Count, (⟨x48.Name, (IntKind.i64.wrap (x48.Count + 1)), x48.All, x48.Own⟩ : GTotal).All, (IntKind.i64.wrap (((⟨x48.Name, (IntKind.i64.wrap (x48.Count + 1)), x48.All, x48.Own⟩ : GTotal).Own) + x52))⟩ : GTotal)).set v46.1.toNat (⟨(⟨(⟨x48.Name, (IntKind.i64.wrap (x48.Count + 1)), x48.All, x48.Own⟩ : GTotal).Name, (⟨x48.Name, (IntKind.i64.wrap (x48.Count + 1)), x48.All, x48.Own⟩ : GTotal).Count, (⟨x48.Name, (IntKind.i64.wrap (x48.Count + 1)), x48.All, x48.Own⟩ : GTotal).All, (IntKind.i64.wrap (((⟨x48.Name, (IntKind.i64.wrap (x48.Count + 1)), x48.All, x48.Own⟩ : GTotal).Own) + x52))⟩ : GTotal).Name, (⟨(⟨x48.Name, (IntKind.i64.wrap (x48.Count + 1)), x48.All, x48.Own⟩ : GTotal).Name, (⟨x48.Name, (IntKind.i64.wrap (x48.Count + 1)), x48.All, x48.Own⟩ : GTotal).Count, (⟨x48.Name, (IntKind.i64.wrap (x48.Count + 1)), x48.All, x48.Own⟩ : GTotal).All, (IntKind.i64.wrap (((⟨x48.Name, (IntKind.i64.wrap (x48.Count + 1)), x48.All, x48.Own⟩ : GTotal).Own) + x52))⟩ : GTotal).Count, (IntKind.i64.wrap (((⟨(⟨x48.Name, (IntKind.i64.wrap (x48.Count + 1)), x48.All, x48.Own⟩ : GTotal).Name, (⟨x48.Name, (IntKind.i64.wrap (x48.Count + 1)), x48.All, x48.Own⟩ : GTotal).Count, (⟨x48.Name, (IntKind.i64.wrap (x48.Count + 1)), x48.All, x48.Own⟩ : GTotal).All, (IntKind.i64.wrap (((⟨x48.Name, (IntKind.i64.wrap (x48.Count + 1)), x48.All, x48.Own⟩ : GTotal).Own) + x52))⟩ : GTotal).All) + v59)), (⟨(⟨x48.Name, (IntKind.i64.wrap (x48.Count + 1)), x48.All, x48.Own⟩ : GTotal).Name, (⟨x48.Name, (IntKind.i64.wrap (x48.Count + 1)), x48.All, x48.Own⟩ : GTotal).Count, (⟨x48.Name, (IntKind.i64.wrap (x48.Count + 1)), x48.All, x48.Own⟩ : GTotal).All, (IntKind.i64.wrap (((⟨x48.Name, (IntKind.i64.wrap (x48.Count + 1)), x48.All, x48.Own⟩ : GTotal).Own) + x52))⟩ : GTotal).Own⟩ : GTotal))))))))
def p_impl_TotalsOf_l0 (N : Nat) (l_a0 : List GSpan) (v3 : List Int) : List GSpan → Nat → (List GTotal) → Option ((List GTotal))
  | [], i_0, out_25 => some out_25
  | x_0 :: r_0, i_0, out_25 => ((p_slices_BinarySearchFunc_impl_Total_impl_Total_string N out_25 x_0.Name (fun x0_ x1_ => p_impl_TotalsOf_1 x0_ x1_)).bind fun v46 => (if v46.2 = true then p_impl_TotalsOf_j0 N l_a0 v3 x_0 i_0 v46 (p_impl_TotalsOf_l0 N l_a0 v3 r_0) out_25 else ((insL out_25 v46.1 ([(⟨x_0.Name, 0, 0, 0⟩ : GTotal)] : List GTotal)).bind fun v62 => p_impl_TotalsOf_j0 N l_a0 v3 x_0 i_0 v46 (p_impl_TotalsOf_l0 N l_a0 v3 r_0) v62)))
theorem p_impl_TotalsOf_pv {F C A : Prop} (hF : F) (hC : C) (h : F → C → A := by intro hF hC; first | exact cl_by hF | (refine st_by hF ?_; (repeat' (first | exact trivial | apply And.intro)); all_goals (clear hF; first | rfl | (simp only [hC, List.length_append, List.length_cons, List.length_nil, List.append_nil, List.nil_append, List.cons_append, List.length_set, List.append_assoc, Nat.zero_add, List.length_replicate, esInt_app, esInt_cons, esInt_nil, eInt_eq, esSpan_app, esSpan_cons, esSpan_nil, eSpan_eq, esTotal_app, esTotal_cons, esTotal_nil, eTotal_eq]; done) | (simp [hC, List.length_append, List.length_cons, List.length_nil, List.append_nil, List.nil_append, List.cons_append, List.length_set, List.append_assoc, Nat.zero_add, List.length_replicate, esInt_app, esInt_cons, esInt_nil, eInt_eq, esSpan_app, esSpan_cons, esSpan_nil, eSpan_eq, esTotal_app, esTotal_cons, esTotal_nil, eTotal_eq]; done) | omega))) : A := h hF hC
theorem p_impl_TotalsOf_sa {F C A : Prop} (hF : F) (hC : C) (h : F → C → A := by intro hF hC; first | exact ca_by hF | (refine sa_by hF ?_; (repeat' (first | exact trivial | apply And.intro)); all_goals (clear hF; first | rfl | (simp only [hC, List.length_append, List.length_cons, List.length_nil, List.append_nil, List.nil_append, List.cons_append, List.length_set, List.append_assoc, Nat.zero_add, List.length_replicate, esInt_app, esInt_cons, esInt_nil, eInt_eq, esSpan_app, esSpan_cons, esSpan_nil, eSpan_eq, esTotal_app, esTotal_cons, esTotal_nil, eTotal_eq]; done) | (simp [hC, List.length_append, List.length_cons, List.length_nil, List.append_nil, List.nil_append, List.cons_append, List.length_set, List.append_assoc, Nat.zero_add, List.length_replicate, esInt_app, esInt_cons, esInt_nil, eInt_eq, esSpan_app, esSpan_cons, esSpan_nil, eSpan_eq, esTotal_app, esTotal_cons, esTotal_nil, eTotal_eq]; done) | omega))) : A := h hF hC
theorem p_impl_TotalsOf_rt {F C A : Prop} (hF : F) (hC : C) (h : F → C → A := by intro hF hC; first | (refine sr_by hF ?_; (repeat' (first | exact trivial | apply And.intro)); all_goals (clear hF; first | rfl | (simp only [hC, List.length_append, List.length_cons, List.length_nil, List.append_nil, List.nil_append, List.cons_append, List.length_set, List.append_assoc, Nat.zero_add, List.length_replicate, esInt_app, esInt_cons, esInt_nil, eInt_eq, esSpan_app, esSpan_cons, esSpan_nil, eSpan_eq, esTotal_app, esTotal_cons, esTotal_nil, eTotal_eq]; done) | (simp [hC, List.length_append, List.length_cons, List.length_nil, List.append_nil, List.nil_append, List.cons_append, List.length_set, List.append_assoc, Nat.zero_add, List.length_replicate, esInt_app, esInt_cons, esInt_nil, eInt_eq, esSpan_app, esSpan_cons, esSpan_nil, eSpan_eq, esTotal_app, esTotal_cons, esTotal_nil, eTotal_eq]; done) | omega)) | (first | rfl | (simp only [hC, List.length_append, List.length_cons, List.length_nil, List.append_nil, List.nil_append, List.cons_append, List.length_set, List.append_assoc, Nat.zero_add, List.length_replicate, esInt_app, esInt_cons, esInt_nil, eInt_eq, esSpan_app, esSpan_cons, esSpan_nil, eSpan_eq, esTotal_app, esTotal_cons, esTotal_nil, eTotal_eq]; done) | (simp [hC, List.length_append, List.length_cons, List.length_nil, List.append_nil, List.nil_append, List.cons_append, List.length_set, List.append_assoc, Nat.zero_add, List.length_replicate, esInt_app, esInt_cons, esInt_nil, eInt_eq, esSpan_app, esSpan_cons, esSpan_nil, eSpan_eq, esTotal_app, esTotal_cons, esTotal_nil, eTotal_eq]; done) | omega)) : A := h hF hC
def p_impl_TotalsOf_tf := PLift.up (ai @eInt_eq (ai @esInt_len (ai @esInt_nil (ai @esInt_leaf (ai @esInt_fit (ai @eSpan_eq (ai @esSpan_len (ai @esSpan_nil (ai @esSpan_leaf (ai @esSpan_fit (ai @eTotal_eq (ai @esTotal_len (ai @esTotal_nil (ai @esTotal_leaf (ai @esTotal_fit (ai @esInt_share (ai @esInt_pure (ai @esSpan_share (ai @esSpan_pure (ai @esTotal_share (ai @esTotal_pure (ai @str_beq (ai @Ty.sl33 (ai @Ty.slz33 (ai @Ty.sl30 (ai @Ty.slz30 (ai @Ty.sl22 (ai @Ty.slz22 (ai @Ty.nz33 (ai @Ty.ldA33 (ai @Ty.ldS33 (ai @Ty.sz33 (ai @Ty.szn33 (ai @Ty.nz67 (ai @Ty.ldA67 (ai @Ty.sz67 (ai @Ty.szn67 (ai @Ty.nz9 (ai @Ty.ldA9 (ai @Ty.ldS9 (ai @Ty.sz9 (ai @Ty.szn9 (ai @Ty.nz3 (ai @Ty.ldA3 (ai @Ty.ldS3 (ai @Ty.sz3 (ai @Ty.szn3 (ai @Ty.fo67_0 (ai @Ty.fk67_0 (ai @Ty.fs67_0 (ai @Ty.fn67_0 (ai @Ty.fo71_1 (ai @Ty.fk71_1 (ai @Ty.fs71_1 (ai @Ty.fn71_1 (ai @Ty.fo71_3 (ai @Ty.fk71_3 (ai @Ty.fs71_3 (ai @Ty.fn71_3 (ai @Ty.fo67_3 (ai @Ty.fk67_3 (ai @Ty.fs67_3 (ai @Ty.fn67_3 (ai @Ty.fo71_2 (ai @Ty.fk71_2 (ai @Ty.fs71_2 (ai @Ty.fn71_2 (ai @Ty.nze30 (ai @Ty.zok30 (ai @Ty.by30 (ai @Ty.zs30 (ai @Ty.zv67 (ai @Ty.bd71 (ai @Ty.zv71 (ai @Ty.pl71_0 @trivial)))))))))))))))))))))))))))))))))))))))))))))))))))))))))))))))))))))))))))
def p_impl_TotalsOf (N : Nat) (l_a0 : List GSpan) : Option (List GTotal × Bool) := ((p_impl_GoodSpans N l_a0).bind fun v1 => (if v1 = true then ((p_impl_owns l_a0).bind fun v3 => ((p_impl_TotalsOf_l0 N l_a0 v3 l_a0 0 ([] : List GTotal)).bind fun q_0 => match q_0 with | out_25 => some (out_25, true))) else some (([] : List GTotal), false)))
theorem p_impl_TotalsOf_does (N : Nat) (l_a0 : List GSpan) (r : List GTotal × Bool) (h : p_impl_TotalsOf N l_a0 = some r) : Does Try.prog 13 [.row false 4 l_a0.length (esSpan l_a0)] (.tup [.row true 4 r.1.length (esTotal r.1), B r.2]) := by
  rw [p_impl_TotalsOf] at h
  refine Does.bnd (fun hb => ?_)
  have hb2 : l_a0.length ≤ 9223372036854775807 := by simpa [AV.fitNs, AV.fitN] using hb
  have hl0 := hb2
  refine Does.walk (nt := 78) Try.func13 rfl rfl (by simp) (by decide) rfl (fun G0 X w0 pv => ?_)
  obtain ⟨v1, ev1, h⟩ := Option.bind_eq_some_iff.1 h
  try dsimp only at h
  have ff := p_impl_TotalsOf_tf.down
  try refine st_by ff ?_
  repeat' (first | exact trivial | refine And.intro sd ?_)
  first
  | (refine cq_call (p_impl_GoodSpans_does N l_a0 v1 ev1) (hf_by ff) kr ⟨p_impl_TotalsOf_sa ff trivial, ?_⟩; clear ff)
  | (refine cq_dcall (p_impl_GoodSpans_does N l_a0 v1 ev1) (hf_by ff) kr ⟨p_impl_TotalsOf_sa ff trivial, ?_⟩; clear ff)
  by_cases c2 : v1 = true
  case neg =>
   rw [if_neg c2] at h
   have dc2 := eq_false_of_ne_true c2
   have ff := ai @dc2 p_impl_TotalsOf_tf.down
   try refine st_by ff ?_
   repeat' (first | exact trivial | refine And.intro sd ?_)
   cases h
   exact ret_q2 rfl (p_impl_TotalsOf_rt ff trivial)
  rw [if_pos c2] at h
  have dc2 := c2
  obtain ⟨v3, ev3, h⟩ := Option.bind_eq_some_iff.1 h
  try dsimp only at h
  have ff := ai @dc2 p_impl_TotalsOf_tf.down
  try refine st_by ff ?_
  repeat' (first | exact trivial | refine And.intro sd ?_)
  first
  | (refine cq_own (p_impl_owns_does l_a0 v3 ev3) (hf_by ff) kr ⟨p_impl_TotalsOf_sa ff trivial, ?_⟩; clear ff)
  | (refine cq_down (p_impl_owns_does l_a0 v3 ev3) (hf_by ff) kr ⟨p_impl_TotalsOf_sa ff trivial, ?_⟩; clear ff)
  have hL_0 : l_a0.length ≤ 9223372036854775807 := by first | assumption | omega
  obtain ⟨q_0, eq_0, h⟩ := Option.bind_eq_some_iff.1 h
  have ff := ai @dc2 p_impl_TotalsOf_tf.down
  try refine st_by ff ?_
  repeat' (first | exact trivial | refine And.intro sd ?_)
  obtain ⟨I_0, hI_0⟩ : ∃ I_ : (Nat × (List GTotal)) → ASt → Prop, I_ = (fun (a : Nat × (List GTotal)) σ => match a with | (i_0, out_25) => (i_0 ≤ l_a0.length ∧ p_impl_TotalsOf_l0 N l_a0 v3 (l_a0.drop i_0) i_0 out_25 = some q_0) ∧ σ.t 1 = .ptr 1 [] 0 ∧ σ.t 4 = .sl 4 [] 0 out_25.length ∧ σ.t 5 = .sl 5 [] 0 v3.length ∧ σ.t 16 = .row false 4 l_a0.length (esSpan l_a0) ∧ σ.t 17 = I (l_a0.length : Int) ∧ σ.t 18 = I (i_0 : Int) ∧ σ.m 1 = some (.box true [.row false 4 l_a0.length (esSpan l_a0)]) ∧ σ.m 4 = some (.row true 4 out_25.length (esTotal out_25)) ∧ σ.m 5 = some (.row true 1 v3.length (esInt v3))) := ⟨_, rfl⟩
  obtain ⟨M_0, hM_0⟩ : ∃ M_ : (Nat × (List GTotal)) → Nat, M_ = (fun (a : Nat × (List GTotal)) => match a with | (i_0, out_25) => l_a0.length - i_0) := ⟨_, rfl⟩
  obtain ⟨J_0, hJ_0⟩ : ∃ J_ : ASt → Prop, J_ = (fun σ => ∃ out_25 : List GTotal, (some out_25 = some q_0) ∧ σ.t 4 = .sl 4 [] 0 out_25.length ∧ σ.m 4 = some (.row true 4 out_25.length (esTotal out_25))) := ⟨_, rfl⟩
  refine aw_loopC (id := 0) I_0 M_0 J_0 (0, ([] : List GTotal)) ?_ ?_ ?_
  · rw [hI_0]
    refine ⟨⟨Nat.zero_le _, eq_0⟩, ?_⟩
    exact p_impl_TotalsOf_pv ff trivial
  · try clear ff
    rintro ⟨i_0, out_25⟩ σ hg_0
    rw [hI_0] at hg_0
    obtain ⟨⟨hi_0, h_0⟩, g0_0, g1_0, g2_0, g3_0, g4_0, g5_0, g6_0, g7_0, g8_0⟩ := hg_0
    cases hr_0 : l_a0.drop i_0 with
    | nil =>
      rw [hr_0] at h_0
      rw [p_impl_TotalsOf_l0] at h_0
      have hn_0 := drop_nil hr_0
      have dr_0 : decide ((i_0 : Int) < (l_a0.length : Int)) = false := decide_eq_false (by omega)
      have ff := ai @dc2 (ai @dr_0 (ai @g0_0 (ai @g1_0 (ai @g2_0 (ai @g3_0 (ai @g4_0 (ai @g5_0 (ai @g6_0 (ai @g7_0 (ai @g8_0 p_impl_TotalsOf_tf.down))))))))))
      try refine st_by ff ?_
      repeat' (first | exact trivial | refine And.intro sd ?_)
      refine JW.intro ?_
      rw [hJ_0]
      refine ⟨out_25, h_0, ?_⟩
      exact p_impl_TotalsOf_pv ff trivial
    | cons x_0 r_0 =>
      rw [hr_0] at h_0
      rw [p_impl_TotalsOf_l0] at h_0
      obtain ⟨ht_0, hg_0, hd_0⟩ := drop_cons hr_0
      have dr_0 : decide ((i_0 : Int) < (l_a0.length : Int)) = true := decide_eq_true (by omega)
      have w_0 : IntKind.i64.wrap ((i_0 : Int) + 1) = ((i_0 + 1 : Nat) : Int) := wI _ (by omega) (by omega)
      have kk0c : (esSpan l_a0).drop (i_0 * 4) = eSpan x_0 ++ esSpan (l_a0.drop (i_0 + 1)) := drop_enc (fun _ => rfl) (hg_0)
      obtain ⟨v46, ev46, h_0⟩ := Option.bind_eq_some_iff.1 h_0
      try dsimp only at h_0
      have ff := ai @dc2 (ai @dr_0 (ai @w_0 (ai @g0_0 (ai @g1_0 (ai @g2_0 (ai @g3_0 (ai @g4_0 (ai @g5_0 (ai @g6_0 (ai @g7_0 (ai @g8_0 (ai @kk0c p_impl_TotalsOf_tf.down))))))))))))
      try refine st_by ff ?_
      repeat' (first | exact trivial | refine And.intro sd ?_)
      first
      | (refine cq_lend (p_slices_BinarySearchFunc_impl_Total_impl_Total_string_does N out_25 x_0.Name 43 [] (by simp [AV.noRefs, AV.noRef]) kr (fun x0_ x1_ => p_impl_TotalsOf_1 x0_ x1_) (fun x0_ x1_ y_ h_ => p_impl_TotalsOf_1_does x0_ x1_ y_ h_) v46 ev46) (hf_by ff) kr ⟨p_impl_TotalsOf_sa ff trivial, ?_⟩; clear ff)
      | (refine cq_dlend (p_slices_BinarySearchFunc_impl_Total_impl_Total_string_does N out_25 x_0.Name 43 [] (by simp [AV.noRefs, AV.noRef]) kr (fun x0_ x1_ => p_impl_TotalsOf_1 x0_ x1_) (fun x0_ x1_ y_ h_ => p_impl_TotalsOf_1_does x0_ x1_ y_ h_) v46 ev46) (hf_by ff) kr ⟨p_impl_TotalsOf_sa ff trivial, ?_⟩; clear ff)
      have ff := ai @dc2 (ai @dr_0 (ai @w_0 (ai @g0_0 (ai @g1_0 (ai @g2_0 (ai @g3_0 (ai @g4_0 (ai @g5_0 (ai @g6_0 (ai @g7_0 (ai @g8_0 (ai @kk0c p_impl_TotalsOf_tf.down))))))))))))
      try refine st_by ff ?_
      repeat' (first | exact trivial | refine And.intro sd ?_)
      try clear ff
      generalize hk_0 : thenK _ _ = kk_0
      have key_0 : ∀ σ, (∃ out_47 : List GTotal, (p_impl_TotalsOf_j0 N l_a0 v3 x_0 i_0 v46 (p_impl_TotalsOf_l0 N l_a0 v3 r_0) out_47 = some q_0) ∧ σ.t 1 = .ptr 1 [] 0 ∧ σ.t 4 = .sl 4 [] 0 out_47.length ∧ σ.t 5 = .sl 5 [] 0 v3.length ∧ σ.t 6 = I (i_0 : Int) ∧ σ.t 7 = .ptr 7 [] 0 ∧ σ.t 8 = I v46.1 ∧ σ.t 16 = .row false 4 l_a0.length (esSpan l_a0) ∧ σ.t 17 = I (l_a0.length : Int) ∧ σ.t 18 = I (i_0 : Int) ∧ σ.m 1 = some (.box true [.row false 4 l_a0.length (esSpan l_a0)]) ∧ σ.m 4 = some (.row true 4 out_47.length (esTotal out_47)) ∧ σ.m 5 = some (.row true 1 v3.length (esInt v3)) ∧ σ.m 7 = some (.box true [S x_0.Name, I x_0.From, I x_0.To, I x_0.Up])) → kk_0 .nm σ := by
        rintro σ ⟨out_47, h_0, g0_j0, g1_j0, g2_j0, g3_j0, g4_j0, g5_j0, g6_j0, g7_j0, g8_j0, g9_j0, g10_j0, g11_j0, g12_j0⟩
        rw [← hk_0]
        rw [p_impl_TotalsOf_j0] at h_0
        obtain ⟨x48, ex48, h_0⟩ := Option.bind_eq_some_iff.1 h_0
        try dsimp only at h_0
        have f49a := idx_lo ex48
        have f49b := idx_hi ex48
        have f49c : (esTotal out_47).drop (v46.1.toNat * 4) = eTotal x48 ++ esTotal (out_47.drop (v46.1.toNat + 1)) := drop_enc (fun _ => rfl) (idx_get ex48)
        have f49g0 : (esTotal out_47).getD (v46.1.toNat * 4) .junk = (eTotal x48).getD 0 .junk := getD_enc0 (enc := eTotal) (sz := 4) (fun _ => rfl) (idx_get ex48) (by decide)
        have f49g1 : (esTotal out_47).getD (v46.1.toNat * 4 + 1) .junk = (eTotal x48).getD 1 .junk := getD_enc (enc := eTotal) (sz := 4) (fun _ => rfl) (idx_get ex48) (by decide)
        have f49g2 : (esTotal out_47).getD (v46.1.toNat * 4 + 2) .junk = (eTotal x48).getD 2 .junk := getD_enc (enc := eTotal) (sz := 4) (fun _ => rfl) (idx_get ex48) (by decide)
        have f49g3 : (esTotal out_47).getD (v46.1.toNat * 4 + 3) .junk = (eTotal x48).getD 3 .junk := getD_enc (enc := eTotal) (sz := 4) (fun _ => rfl) (idx_get ex48) (by decide)
        have w50l : v46.1.toNat < out_47.length := (List.getElem?_eq_some_iff.1 (idx_get ex48)).1
        have w50a : (esTotal out_47).set (v46.1.toNat * 4 + 1) (I (IntKind.i64.wrap (x48.Count + 1))) = esTotal (out_47.set v46.1.toNat (⟨x48.Name, (IntKind.i64.wrap (x48.Count + 1)), x48.All, x48.Own⟩ : GTotal)) := set_enc (enc := eTotal) (sz := 4) (fun _ => rfl) (idx_get ex48) (by decide) rfl
        have w50b : (out_47.set v46.1.toNat (⟨x48.Name, (IntKind.i64.wrap (x48.Count + 1)), x48.All, x48.Own⟩ : GTotal)).length = out_47.length := List.length_set
        have f51c : (esTotal (out_47.set v46.1.toNat (⟨x48.Name, (IntKind.i64.wrap (x48.Count + 1)), x48.All, x48.Own⟩ : GTotal))).drop (v46.1.toNat * 4) = eTotal (⟨x48.Name, (IntKind.i64.wrap (x48.Count + 1)), x48.All, x48.Own⟩ : GTotal) ++ esTotal ((out_47.set v46.1.toNat (⟨x48.Name, (IntKind.i64.wrap (x48.Count + 1)), x48.All, x48.Own⟩ : GTotal)).drop (v46.1.toNat + 1)) := drop_enc (fun _ => rfl) (List.getElem?_set_self w50l)
        have f51g0 : (esTotal (out_47.set v46.1.toNat (⟨x48.Name, (IntKind.i64.wrap (x48.Count + 1)), x48.All, x48.Own⟩ : GTotal))).getD (v46.1.toNat * 4) .junk = (eTotal (⟨x48.Name, (IntKind.i64.wrap (x48.Count + 1)), x48.All, x48.Own⟩ : GTotal)).getD 0 .junk := getD_enc0 (enc := eTotal) (sz := 4) (fun _ => rfl) (List.getElem?_set_self w50l) (by decide)
        have f51g1 : (esTotal (out_47.set v46.1.toNat (⟨x48.Name, (IntKind.i64.wrap (x48.Count + 1)), x48.All, x48.Own⟩ : GTotal))).getD (v46.1.toNat * 4 + 1) .junk = (eTotal (⟨x48.Name, (IntKind.i64.wrap (x48.Count + 1)), x48.All, x48.Own⟩ : GTotal)).getD 1 .junk := getD_enc (enc := eTotal) (sz := 4) (fun _ => rfl) (List.getElem?_set_self w50l) (by decide)
        have f51g2 : (esTotal (out_47.set v46.1.toNat (⟨x48.Name, (IntKind.i64.wrap (x48.Count + 1)), x48.All, x48.Own⟩ : GTotal))).getD (v46.1.toNat * 4 + 2) .junk = (eTotal (⟨x48.Name, (IntKind.i64.wrap (x48.Count + 1)), x48.All, x48.Own⟩ : GTotal)).getD 2 .junk := getD_enc (enc := eTotal) (sz := 4) (fun _ => rfl) (List.getElem?_set_self w50l) (by decide)
        have f51g3 : (esTotal (out_47.set v46.1.toNat (⟨x48.Name, (IntKind.i64.wrap (x48.Count + 1)), x48.All, x48.Own⟩ : GTotal))).getD (v46.1.toNat * 4 + 3) .junk = (eTotal (⟨x48.Name, (IntKind.i64.wrap (x48.Count + 1)), x48.All, x48.Own⟩ : GTotal)).getD 3 .junk := getD_enc (enc := eTotal) (sz := 4) (fun _ => rfl) (List.getElem?_set_self w50l) (by decide)
        obtain ⟨x52, ex52, h_0⟩ := Option.bind_eq_some_iff.1 h_0
        try dsimp only at h_0
        have f53a := idx_lo ex52
        have f53b := idx_hi ex52
        have f53c : (esInt v3).drop (i_0 * 1) = eInt x52 ++ esInt (v3.drop (i_0 + 1)) := drop_enc (fun _ => rfl) (idx_get ex52)
        have f53d := f53c
        rw [Nat.mul_one] at f53d
        have f53g0 : (esInt v3).getD (i_0 * 1) .junk = (eInt x52).getD 0 .junk := getD_enc0 (enc := eInt) (sz := 1) (fun _ => rfl) (idx_get ex52) (by decide)
        rw [Nat.mul_one] at f53g0
        have w54l : v46.1.toNat < (out_47.set v46.1.toNat (⟨x48.Name, (IntKind.i64.wrap (x48.Count + 1)), x48.All, x48.Own⟩ : GTotal)).length := (List.getElem?_eq_some_iff.1 (List.getElem?_set_self w50l)).1
        have w54a : (esTotal (out_47.set v46.1.toNat (⟨x48.Name, (IntKind.i64.wrap (x48.Count + 1)), x48.All, x48.Own⟩ : GTotal))).set (v46.1.toNat * 4 + 3) (I (IntKind.i64.wrap (((⟨x48.Name, (IntKind.i64.wrap (x48.Count + 1)), x48.All, x48.Own⟩ : GTotal).Own) + x52))) = esTotal ((out_47.set v46.1.toNat (⟨x48.Name, (IntKind.i64.wrap (x48.Count + 1)), x48.All, x48.Own⟩ : GTotal)).set v46.1.toNat (⟨(⟨x48.Name, (IntKind.i64.wrap (x48.Count + 1)), x48.All, x48.Own⟩ : GTotal).Name, (⟨x48.Name, (IntKind.i64.wrap (x48.Count + 1)), x48.All, x48.Own⟩ : GTotal).Count, (⟨x48.Name, (IntKind.i64.wrap (x48.Count + 1)), x48.All, x48.Own⟩ : GTotal).All, (IntKind.i64.wrap (((⟨x48.Name, (IntKind.i64.wrap (x48.Count + 1)), x48.All, x48.Own⟩ : GTotal).Own) + x52))⟩ : GTotal)) := set_enc (enc := eTotal) (sz := 4) (fun _ => rfl) (List.getElem?_set_self w50l) (by decide) rfl
        have w54b : ((out_47.set v46.1.toNat (⟨x48.Name, (IntKind.i64.wrap (x48.Count + 1)), x48.All, x48.Own⟩ : GTotal)).set v46.1.toNat (⟨(⟨x48.Name, (IntKind.i64.wrap (x48.Count + 1)), x48.All, x48.Own⟩ : GTotal).Name, (⟨x48.Name, (IntKind.i64.wrap (x48.Count + 1)), x48.All, x48.Own⟩ : GTotal).Count, (⟨x48.Name, (IntKind.i64.wrap (x48.Count + 1)), x48.All, x48.Own⟩ : GTotal).All, (IntKind.i64.wrap (((⟨x48.Name, (IntKind.i64.wrap (x48.Count + 1)), x48.All, x48.Own⟩ : GTotal).Own) + x52))⟩ : GTotal)).length = (out_47.set v46.1.toNat (⟨x48.Name, (IntKind.i64.wrap (x48.Count + 1)), x48.All, x48.Own⟩ : GTotal)).length := List.length_set
        obtain ⟨v55, ev55, h_0⟩ := Option.bind_eq_some_iff.1 h_0
        try dsimp only at h_0
        have ff := ai @dc2 (ai @dr_0 (ai @w_0 (ai @kk0c (ai @g0_j0 (ai @g1_j0 (ai @g2_j0 (ai @g3_j0 (ai @g4_j0 (ai @g5_j0 (ai @g6_j0 (ai @g7_j0 (ai @g8_j0 (ai @g9_j0 (ai @g10_j0 (ai @g11_j0 (ai @g12_j0 (ai @f49c (ai @f49g0 (ai @f49g1 (ai @f49g2 (ai @f49g3 (ai @w50a (ai @f51c (ai @f51g0 (ai @f51g1 (ai @f51g2 (ai @f51g3 (ai @f53c (ai @f53d (ai @f53g0 (ai @w54a p_impl_TotalsOf_tf.down)))))))))))))))))))))))))))))))
        try refine st_by ff ?_
        repeat' (first | exact trivial | refine And.intro sd ?_ | (refine aw_drawn (id := 11) ?_ [[], [], [0, 1], [0, 1, 2], [0, 1, 2, 3], [], [], [5, 6], [5, 6, 7], [0, 1, 2, 3, 4, 5, 6, 7, 8], [0, 1, 2, 3, 4, 5, 6, 7, 8, 9], [0, 1, 2, 3, 4, 5, 6, 7, 8, 9, 10], [0, 1, 2, 3, 4, 5, 6, 7, 8, 9, 10, 11]] 9 ?_ ?_; (· kernel_rfl); (· kernel_rfl); refine st_by ff ?_))
        first
        | (refine cq_own (p_impl_above_does N l_a0 x_0.Up v55 ev55) (hf_by ff) kr ⟨p_impl_TotalsOf_sa ff trivial, ?_⟩; clear ff)
        | (refine cq_down (p_impl_above_does N l_a0 x_0.Up v55 ev55) (hf_by ff) kr ⟨p_impl_TotalsOf_sa ff trivial, ?_⟩; clear ff)
        obtain ⟨v56, ev56, h_0⟩ := Option.bind_eq_some_iff.1 h_0
        try dsimp only at h_0
        have ff := ai @dc2 (ai @dr_0 (ai @w_0 (ai @kk0c (ai @g0_j0 (ai @g1_j0 (ai @g2_j0 (ai @g3_j0 (ai @g4_j0 (ai @g5_j0 (ai @g6_j0 (ai @g7_j0 (ai @g8_j0 (ai @g9_j0 (ai @g10_j0 (ai @g11_j0 (ai @g12_j0 (ai @f49c (ai @f49g0 (ai @f49g1 (ai @f49g2 (ai @f49g3 (ai @w50a (ai @f51c (ai @f51g0 (ai @f51g1 (ai @f51g2 (ai @f51g3 (ai @f53c (ai @f53d (ai @f53g0 (ai @w54a p_impl_TotalsOf_tf.down)))))))))))))))))))))))))))))))
        try refine st_by ff ?_
        repeat' (first | exact trivial | refine And.intro sd ?_)
        first
        | (refine cq_lend (p_slices_ContainsFunc_int_int_does v55 47 [.box false (eLSpan l_a0), .box false (eSpan x_0)] (by simp [AV.noRefs, AV.noRef]) kr (fun x0_ => p_impl_TotalsOf_2 x0_ l_a0 x_0) (fun x0_ y_ h_ => p_impl_TotalsOf_2_does x0_ l_a0 x_0 y_ h_) v56 ev56) (hf_by ff) kr ⟨p_impl_TotalsOf_sa ff trivial, ?_⟩; clear ff)
        | (refine cq_dlend (p_slices_ContainsFunc_int_int_does v55 47 [.box false (eLSpan l_a0), .box false (eSpan x_0)] (by simp [AV.noRefs, AV.noRef]) kr (fun x0_ => p_impl_TotalsOf_2 x0_ l_a0 x_0) (fun x0_ y_ h_ => p_impl_TotalsOf_2_does x0_ l_a0 x_0 y_ h_) v56 ev56) (hf_by ff) kr ⟨p_impl_TotalsOf_sa ff trivial, ?_⟩; clear ff)
        by_cases c57 : v56 = true
        · rw [if_pos c57] at h_0
          have dc57 := c57
          have ff := ai @dc2 (ai @dr_0 (ai @w_0 (ai @kk0c (ai @g0_j0 (ai @g1_j0 (ai @g2_j0 (ai @g3_j0 (ai @g4_j0 (ai @g5_j0 (ai @g6_j0 (ai @g7_j0 (ai @g8_j0 (ai @g9_j0 (ai @g10_j0 (ai @g11_j0 (ai @g12_j0 (ai @f49c (ai @f49g0 (ai @f49g1 (ai @f49g2 (ai @f49g3 (ai @w50a (ai @f51c (ai @f51g0 (ai @f51g1 (ai @f51g2 (ai @f51g3 (ai @f53c (ai @f53d (ai @f53g0 (ai @w54a (ai @dc57 p_impl_TotalsOf_tf.down))))))))))))))))))))))))))))))))
          try refine st_by ff ?_
          repeat' (first | exact trivial | refine And.intro sd ?_)
          refine Back.intro (i_0 + 1, ((out_47.set v46.1.toNat (⟨x48.Name, (IntKind.i64.wrap (x48.Count + 1)), x48.All, x48.Own⟩ : GTotal)).set v46.1.toNat (⟨(⟨x48.Name, (IntKind.i64.wrap (x48.Count + 1)), x48.All, x48.Own⟩ : GTotal).Name, (⟨x48.Name, (IntKind.i64.wrap (x48.Count + 1)), x48.All, x48.Own⟩ : GTotal).Count, (⟨x48.Name, (IntKind.i64.wrap (x48.Count + 1)), x48.All, x48.Own⟩ : GTotal).All, (IntKind.i64.wrap (((⟨x48.Name, (IntKind.i64.wrap (x48.Count + 1)), x48.All, x48.Own⟩ : GTotal).Own) + x52))⟩ : GTotal))) ?_ ?_
          · clear ff; rw [hM_0]; show l_a0.length - (i_0 + 1) < l_a0.length - i_0; omega
          rw [hI_0]
          refine ⟨⟨by clear ff; show i_0 + 1 ≤ l_a0.length; omega, by show p_impl_TotalsOf_l0 N l_a0 v3 (l_a0.drop (i_0 + 1)) (i_0 + 1) ((out_47.set v46.1.toNat (⟨x48.Name, (IntKind.i64.wrap (x48.Count + 1)), x48.All, x48.Own⟩ : GTotal)).set v46.1.toNat (⟨(⟨x48.Name, (IntKind.i64.wrap (x48.Count + 1)), x48.All, x48.Own⟩ : GTotal).Name, (⟨x48.Name, (IntKind.i64.wrap (x48.Count + 1)), x48.All, x48.Own⟩ : GTotal).Count, (⟨x48.Name, (IntKind.i64.wrap (x48.Count + 1)), x48.All, x48.Own⟩ : GTotal).All, (IntKind.i64.wrap (((⟨x48.Name, (IntKind.i64.wrap (x48.Count + 1)), x48.All, x48.Own⟩ : GTotal).Own) + x52))⟩ : GTotal)) = some q_0; rw [hd_0]; exact h_0⟩, ?_⟩
          exact p_impl_TotalsOf_pv ff trivial
        rw [if_neg c57] at h_0
        have dc57 := eq_false_of_ne_true c57
        have f58c : (esTotal ((out_47.set v46.1.toNat (⟨x48.Name, (IntKind.i64.wrap (x48.Count + 1)), x48.All, x48.Own⟩ : GTotal)).set v46.1.toNat (⟨(⟨x48.Name, (IntKind.i64.wrap (x48.Count + 1)), x48.All, x48.Own⟩ : GTotal).Name, (⟨x48.Name, (IntKind.i64.wrap (x48.Count + 1)), x48.All, x48.Own⟩ : GTotal).Count, (⟨x48.Name, (IntKind.i64.wrap (x48.Count + 1)), x48.All, x48.Own⟩ : GTotal).All, (IntKind.i64.wrap (((⟨x48.Name, (IntKind.i64.wrap (x48.Count + 1)), x48.All, x48.Own⟩ : GTotal).Own) + x52))⟩ : GTotal))).drop (v46.1.toNat * 4) = eTotal (⟨(⟨x48.Name, (IntKind.i64.wrap (x48.Count + 1)), x48.All, x48.Own⟩ : GTotal).Name, (⟨x48.Name, (IntKind.i64.wrap (x48.Count + 1)), x48.All, x48.Own⟩ : GTotal).Count, (⟨x48.Name, (IntKind.i64.wrap (x48.Count + 1)), x48.All, x48.Own⟩ : GTotal).All, (IntKind.i64.wrap (((⟨x48.Name, (IntKind.i64.wrap (x48.Count + 1)), x48.All, x48.Own⟩ : GTotal).Own) + x52))⟩ : GTotal) ++ esTotal (((out_47.set v46.1.toNat (⟨x48.Name, (IntKind.i64.wrap (x48.Count + 1)), x48.All, x48.Own⟩ : GTotal)).set v46.1.toNat (⟨(⟨x48.Name, (IntKind.i64.wrap (x48.Count + 1)), x48.All, x48.Own⟩ : GTotal).Name, (⟨x48.Name, (IntKind.i64.wrap (x48.Count + 1)), x48.All, x48.Own⟩ : GTotal).Count, (⟨x48.Name, (IntKind.i64.wrap (x48.Count + 1)), x48.All, x48.Own⟩ : GTotal).All, (IntKind.i64.wrap (((⟨x48.Name, (IntKind.i64.wrap (x48.Count + 1)), x48.All, x48.Own⟩ : GTotal).Own) + x52))⟩ : GTotal)).drop (v46.1.toNat + 1)) := drop_enc (fun _ => rfl) (List.getElem?_set_self w54l)
        have f58g0 : (esTotal ((out_47.set v46.1.toNat (⟨x48.Name, (IntKind.i64.wrap (x48.Count + 1)), x48.All, x48.Own⟩ : GTotal)).set v46.1.toNat (⟨(⟨x48.Name, (IntKind.i64.wrap (x48.Count + 1)), x48.All, x48.Own⟩ : GTotal).Name, (⟨x48.Name, (IntKind.i64.wrap (x48.Count + 1)), x48.All, x48.Own⟩ : GTotal).Count, (⟨x48.Name, (IntKind.i64.wrap (x48.Count + 1)), x48.All, x48.Own⟩ : GTotal).All, (IntKind.i64.wrap (((⟨x48.Name, (IntKind.i64.wrap (x48.Count + 1)), x48.All, x48.Own⟩ : GTotal).Own) + x52))⟩ : GTotal))).getD (v46.1.toNat * 4) .junk = (eTotal (⟨(⟨x48.Name, (IntKind.i64.wrap (x48.Count + 1)), x48.All, x48.Own⟩ : GTotal).Name, (⟨x48.Name, (IntKind.i64.wrap (x48.Count + 1)), x48.All, x48.Own⟩ : GTotal).Count, (⟨x48.Name, (IntKind.i64.wrap (x48.Count + 1)), x48.All, x48.Own⟩ : GTotal).All, (IntKind.i64.wrap (((⟨x48.Name, (IntKind.i64.wrap (x48.Count + 1)), x48.All, x48.Own⟩ : GTotal).Own) + x52))⟩ : GTotal)).getD 0 .junk := getD_enc0 (enc := eTotal) (sz := 4) (fun _ => rfl) (List.getElem?_set_self w54l) (by decide)
        have f58g1 : (esTotal ((out_47.set v46.1.toNat (⟨x48.Name, (IntKind.i64.wrap (x48.Count + 1)), x48.All, x48.Own⟩ : GTotal)).set v46.1.toNat (⟨(⟨x48.Name, (IntKind.i64.wrap (x48.Count + 1)), x48.All, x48.Own⟩ : GTotal).Name, (⟨x48.Name, (IntKind.i64.wrap (x48.Count + 1)), x48.All, x48.Own⟩ : GTotal).Count, (⟨x48.Name, (IntKind.i64.wrap (x48.Count + 1)), x48.All, x48.Own⟩ : GTotal).All, (IntKind.i64.wrap (((⟨x48.Name, (IntKind.i64.wrap (x48.Count + 1)), x48.All, x48.Own⟩ : GTotal).Own) + x52))⟩ : GTotal))).getD (v46.1.toNat * 4 + 1) .junk = (eTotal (⟨(⟨x48.Name, (IntKind.i64.wrap (x48.Count + 1)), x48.All, x48.Own⟩ : GTotal).Name, (⟨x48.Name, (IntKind.i64.wrap (x48.Count + 1)), x48.All, x48.Own⟩ : GTotal).Count, (⟨x48.Name, (IntKind.i64.wrap (x48.Count + 1)), x48.All, x48.Own⟩ : GTotal).All, (IntKind.i64.wrap (((⟨x48.Name, (IntKind.i64.wrap (x48.Count + 1)), x48.All, x48.Own⟩ : GTotal).Own) + x52))⟩ : GTotal)).getD 1 .junk := getD_enc (enc := eTotal) (sz := 4) (fun _ => rfl) (List.getElem?_set_self w54l) (by decide)
        have f58g2 : (esTotal ((out_47.set v46.1.toNat (⟨x48.Name, (IntKind.i64.wrap (x48.Count + 1)), x48.All, x48.Own⟩ : GTotal)).set v46.1.toNat (⟨(⟨x48.Name, (IntKind.i64.wrap (x48.Count + 1)), x48.All, x48.Own⟩ : GTotal).Name, (⟨x48.Name, (IntKind.i64.wrap (x48.Count + 1)), x48.All, x48.Own⟩ : GTotal).Count, (⟨x48.Name, (IntKind.i64.wrap (x48.Count + 1)), x48.All, x48.Own⟩ : GTotal).All, (IntKind.i64.wrap (((⟨x48.Name, (IntKind.i64.wrap (x48.Count + 1)), x48.All, x48.Own⟩ : GTotal).Own) + x52))⟩ : GTotal))).getD (v46.1.toNat * 4 + 2) .junk = (eTotal (⟨(⟨x48.Name, (IntKind.i64.wrap (x48.Count + 1)), x48.All, x48.Own⟩ : GTotal).Name, (⟨x48.Name, (IntKind.i64.wrap (x48.Count + 1)), x48.All, x48.Own⟩ : GTotal).Count, (⟨x48.Name, (IntKind.i64.wrap (x48.Count + 1)), x48.All, x48.Own⟩ : GTotal).All, (IntKind.i64.wrap (((⟨x48.Name, (IntKind.i64.wrap (x48.Count + 1)), x48.All, x48.Own⟩ : GTotal).Own) + x52))⟩ : GTotal)).getD 2 .junk := getD_enc (enc := eTotal) (sz := 4) (fun _ => rfl) (List.getElem?_set_self w54l) (by decide)
        have f58g3 : (esTotal ((out_47.set v46.1.toNat (⟨x48.Name, (IntKind.i64.wrap (x48.Count + 1)), x48.All, x48.Own⟩ : GTotal)).set v46.1.toNat (⟨(⟨x48.Name, (IntKind.i64.wrap (x48.Count + 1)), x48.All, x48.Own⟩ : GTotal).Name, (⟨x48.Name, (IntKind.i64.wrap (x48.Count + 1)), x48.All, x48.Own⟩ : GTotal).Count, (⟨x48.Name, (IntKind.i64.wrap (x48.Count + 1)), x48.All, x48.Own⟩ : GTotal).All, (IntKind.i64.wrap (((⟨x48.Name, (IntKind.i64.wrap (x48.Count + 1)), x48.All, x48.Own⟩ : GTotal).Own) + x52))⟩ : GTotal))).getD (v46.1.toNat * 4 + 3) .junk = (eTotal (⟨(⟨x48.Name, (IntKind.i64.wrap (x48.Count + 1)), x48.All, x48.Own⟩ : GTotal).Name, (⟨x48.Name, (IntKind.i64.wrap (x48.Count + 1)), x48.All, x48.Own⟩ : GTotal).Count, (⟨x48.Name, (IntKind.i64.wrap (x48.Count + 1)), x48.All, x48.Own⟩ : GTotal).All, (IntKind.i64.wrap (((⟨x48.Name, (IntKind.i64.wrap (x48.Count + 1)), x48.All, x48.Own⟩ : GTotal).Own) + x52))⟩ : GTotal)).getD 3 .junk := getD_enc (enc := eTotal) (sz := 4) (fun _ => rfl) (List.getElem?_set_self w54l) (by decide)
        obtain ⟨v59, ev59, h_0⟩ := Option.bind_eq_some_iff.1 h_0
        try dsimp only at h_0
        have ff := ai @dc2 (ai @dr_0 (ai @w_0 (ai @kk0c (ai @g0_j0 (ai @g1_j0 (ai @g2_j0 (ai @g3_j0 (ai @g4_j0 (ai @g5_j0 (ai @g6_j0 (ai @g7_j0 (ai @g8_j0 (ai @g9_j0 (ai @g10_j0 (ai @g11_j0 (ai @g12_j0 (ai @f49c (ai @f49g0 (ai @f49g1 (ai @f49g2 (ai @f49g3 (ai @w50a (ai @f51c (ai @f51g0 (ai @f51g1 (ai @f51g2 (ai @f51g3 (ai @f53c (ai @f53d (ai @f53g0 (ai @w54a (ai @dc57 (ai @f58c (ai @f58g0 (ai @f58g1 (ai @f58g2 (ai @f58g3 p_impl_TotalsOf_tf.down)))))))))))))))))))))))))))))))))))))
        try refine st_by ff ?_
        repeat' (first | exact trivial | refine And.intro sd ?_ | (refine aw_drawn (id := 13) ?_ [[], [], [0, 1], [0, 1, 2], [0, 1, 2, 3], [], [5], [0, 1, 2, 3, 4, 5, 6], [0, 1, 2, 3, 4, 5, 6, 7], [0, 1, 2, 3, 4, 5, 6, 7, 8], [0, 1, 2, 3, 4, 5, 6, 7, 8, 9]] 7 ?_ ?_; (· kernel_rfl); (· kernel_rfl); refine st_by ff ?_))
        first
        | (refine cq_call (p_impl_Span_long_does x_0 v59 ev59) (hf_by ff) kr ⟨p_impl_TotalsOf_sa ff trivial, ?_⟩; clear ff)
        | (refine cq_dcall (p_impl_Span_long_does x_0 v59 ev59) (hf_by ff) kr ⟨p_impl_TotalsOf_sa ff trivial, ?_⟩; clear ff)
        have w60l : v46.1.toNat < ((out_47.set v46.1.toNat (⟨x48.Name, (IntKind.i64.wrap (x48.Count + 1)), x48.All, x48.Own⟩ : GTotal)).set v46.1.toNat (⟨(⟨x48.Name, (IntKind.i64.wrap (x48.Count + 1)), x48.All, x48.Own⟩ : GTotal).Name, (⟨x48.Name, (IntKind.i64.wrap (x48.Count + 1)), x48.All, x48.Own⟩ : GTotal).Count, (⟨x48.Name, (IntKind.i64.wrap (x48.Count + 1)), x48.All, x48.Own⟩ : GTotal).All, (IntKind.i64.wrap (((⟨x48.Name, (IntKind.i64.wrap (x48.Count + 1)), x48.All, x48.Own⟩ : GTotal).Own) + x52))⟩ : GTotal)).length := (List.getElem?_eq_some_iff.1 (List.getElem?_set_self w54l)).1
        have w60a : (esTotal ((out_47.set v46.1.toNat (⟨x48.Name, (IntKind.i64.wrap (x48.Count + 1)), x48.All, x48.Own⟩ : GTotal)).set v46.1.toNat (⟨(⟨x48.Name, (IntKind.i64.wrap (x48.Count + 1)), x48.All, x48.Own⟩ : GTotal).Name, (⟨x48.Name, (IntKind.i64.wrap (x48.Count + 1)), x48.All, x48.Own⟩ : GTotal).Count, (⟨x48.Name, (IntKind.i64.wrap (x48.Count + 1)), x48.All, x48.Own⟩ : GTotal).All, (IntKind.i64.wrap (((⟨x48.Name, (IntKind.i64.wrap (x48.Count + 1)), x48.All, x48.Own⟩ : GTotal).Own) + x52))⟩ : GTotal))).set (v46.1.toNat * 4 + 2) (I (IntKind.i64.wrap (((⟨(⟨x48.Name, (IntKind.i64.wrap (x48.Count + 1)), x48.All, x48.Own⟩ : GTotal).Name, (⟨x48.Name, (IntKind.i64.wrap (x48.Count + 1)), x48.All, x48.Own⟩ : GTotal).Count, (⟨x48.Name, (IntKind.i64.wrap (x48.Count + 1)), x48.All, x48.Own⟩ : GTotal).All, (IntKind.i64.wrap (((⟨x48.Name, (IntKind.i64.wrap (x48.Count + 1)), x48.All, x48.Own⟩ : GTotal).Own) + x52))⟩ : GTotal).All) + v59))) = esTotal (((out_47.set v46.1.toNat (⟨x48.Name, (IntKind.i64.wrap (x48.Count + 1)), x48.All, x48.Own⟩ : GTotal)).set v46.1.toNat (⟨(⟨x48.Name, (IntKind.i64.wrap (x48.Count + 1)), x48.All, x48.Own⟩ : GTotal).Name, (⟨x48.Name, (IntKind.i64.wrap (x48.Count + 1)), x48.All, x48.Own⟩ : GTotal).Count, (⟨x48.Name, (IntKind.i64.wrap (x48.Count + 1)), x48.All, x48.Own⟩ : GTotal).All, (IntKind.i64.wrap (((⟨x48.Name, (IntKind.i64.wrap (x48.Count + 1)), x48.All, x48.Own⟩ : GTotal).Own) + x52))⟩ : GTotal)).set v46.1.toNat (⟨(⟨(⟨x48.Name, (IntKind.i64.wrap (x48.Count + 1)), x48.All, x48.Own⟩ : GTotal).Name, (⟨x48.Name, (IntKind.i64.wrap (x48.Count + 1)), x48.All, x48.Own⟩ : GTotal).Count, (⟨x48.Name, (IntKind.i64.wrap (x48.Count + 1)), x48.All, x48.Own⟩ : GTotal).All, (IntKind.i64.wrap (((⟨x48.Name, (IntKind.i64.wrap (x48.Count + 1)), x48.All, x48.Own⟩ : GTotal).Own) + x52))⟩ : GTotal).Name, (⟨(⟨x48.Name, (IntKind.i64.wrap (x48.Count + 1)), x48.All, x48.Own⟩ : GTotal).Name, (⟨x48.Name, (IntKind.i64.wrap (x48.Count + 1)), x48.All, x48.Own⟩ : GTotal).Count, (⟨x48.Name, (IntKind.i64.wrap (x48.Count + 1)), x48.All, x48.Own⟩ : GTotal).All, (IntKind.i64.wrap (((⟨x48.Name, (IntKind.i64.wrap (x48.Count + 1)), x48.All, x48.Own⟩ : GTotal).Own) + x52))⟩ : GTotal).Count, (IntKind.i64.wrap (((⟨(⟨x48.Name, (IntKind.i64.wrap (x48.Count + 1)), x48.All, x48.Own⟩ : GTotal).Name, (⟨x48.Name, (IntKind.i64.wrap (x48.Count + 1)), x48.All, x48.Own⟩ : GTotal).Count, (⟨x48.Name, (IntKind.i64.wrap (x48.Count + 1)), x48.All, x48.Own⟩ : GTotal).All, (IntKind.i64.wrap (((⟨x48.Name, (IntKind.i64.wrap (x48.Count + 1)), x48.All, x48.Own⟩ : GTotal).Own) + x52))⟩ : GTotal).All) + v59)), (⟨(⟨x48.Name, (IntKind.i64.wrap (x48.Count + 1)), x48.All, x48.Own⟩ : GTotal).Name, (⟨x48.Name, (IntKind.i64.wrap (x48.Count + 1)), x48.All, x48.Own⟩ : GTotal).Count, (⟨x48.Name, (IntKind.i64.wrap (x48.Count + 1)), x48.All, x48.Own⟩ : GTotal).All, (IntKind.i64.wrap (((⟨x48.Name, (IntKind.i64.wrap (x48.Count + 1)), x48.All, x48.Own⟩ : GTotal).Own) + x52))⟩ : GTotal).Own⟩ : GTotal)) := set_enc (enc := eTotal) (sz := 4) (fun _ => rfl) (List.getElem?_set_self w54l) (by decide) rfl
        have w60b : (((out_47.set v46.1.toNat (⟨x48.Name, (IntKind.i64.wrap (x48.Count + 1)), x48.All, x48.Own⟩ : GTotal)).set v46.1.toNat (⟨(⟨x48.Name, (IntKind.i64.wrap (x48.Count + 1)), x48.All, x48.Own⟩ : GTotal).Name, (⟨x48.Name, (IntKind.i64.wrap (x48.Count + 1)), x48.All, x48.Own⟩ : GTotal).Count, (⟨x48.Name, (IntKind.i64.wrap (x48.Count + 1)), x48.All, x48.Own⟩ : GTotal).All, (IntKind.i64.wrap (((⟨x48.Name, (IntKind.i64.wrap (x48.Count + 1)), x48.All, x48.Own⟩ : GTotal).Own) + x52))⟩ : GTotal)).set v46.1.toNat (⟨(⟨(⟨x48.Name, (IntKind.i64.wrap (x48.Count + 1)), x48.All, x48.Own⟩ : GTotal).Name, (⟨x48.Name, (IntKind.i64.wrap (x48.Count + 1)), x48.All, x48.Own⟩ : GTotal).Count, (⟨x48.Name, (IntKind.i64.wrap (x48.Count + 1)), x48.All, x48.Own⟩ : GTotal).All, (IntKind.i64.wrap (((⟨x48.Name, (IntKind.i64.wrap (x48.Count + 1)), x48.All, x48.Own⟩ : GTotal).Own) + x52))⟩ : GTotal).Name, (⟨(⟨x48.Name, (IntKind.i64.wrap (x48.Count + 1)), x48.All, x48.Own⟩ : GTotal).Name, (⟨x48.Name, (IntKind.i64.wrap (x48.Count + 1)), x48.All, x48.Own⟩ : GTotal).Count, (⟨x48.Name, (IntKind.i64.wrap (x48.Count + 1)), x48.All, x48.Own⟩ : GTotal).All, (IntKind.i64.wrap (((⟨x48.Name, (IntKind.i64.wrap (x48.Count + 1)), x48.All, x48.Own⟩ : GTotal).Own) + x52))⟩ : GTotal).Count, (IntKind.i64.wrap (((⟨(⟨x48.Name, (IntKind.i64.wrap (x48.Count + 1)), x48.All, x48.Own⟩ : GTotal).Name, (⟨x48.Name, (IntKind.i64.wrap (x48.Count + 1)), x48.All, x48.Own⟩ : GTotal).Count, (⟨x48.Name, (IntKind.i64.wrap (x48.Count + 1)), x48.All, x48.Own⟩ : GTotal).All, (IntKind.i64.wrap (((⟨x48.Name, (IntKind.i64.wrap (x48.Count + 1)), x48.All, x48.Own⟩ : GTotal).Own) + x52))⟩ : GTotal).All) + v59)), (⟨(⟨x48.Name, (IntKind.i64.wrap (x48.Count + 1)), x48.All, x48.Own⟩ : GTotal).Name, (⟨x48.Name, (IntKind.i64.wrap (x48.Count + 1)), x48.All, x48.Own⟩ : GTotal).Count, (⟨x48.Name, (IntKind.i64.wrap (x48.Count + 1)), x48.All, x48.Own⟩ : GTotal).All, (IntKind.i64.wrap (((⟨x48.Name, (IntKind.i64.wrap (x48.Count + 1)), x48.All, x48.Own⟩ : GTotal).Own) + x52))⟩ : GTotal).Own⟩ : GTotal)).length = ((out_47.set v46.1.toNat (⟨x48.Name, (IntKind.i64.wrap (x48.Count + 1)), x48.All, x48.Own⟩ : GTotal)).set v46.1.toNat (⟨(⟨x48.Name, (IntKind.i64.wrap (x48.Count + 1)), x48.All, x48.Own⟩ : GTotal).Name, (⟨x48.Name, (IntKind.i64.wrap (x48.Count + 1)), x48.All, x48.Own⟩ : GTotal).Count, (⟨x48.Name, (IntKind.i64.wrap (x48.Count + 1)), x48.All, x48.Own⟩ : GTotal).All, (IntKind.i64.wrap (((⟨x48.Name, (IntKind.i64.wrap (x48.Count + 1)), x48.All, x48.Own⟩ : GTotal).Own) + x52))⟩ : GTotal)).length := List.length_set
        have ff := ai @dc2 (ai @dr_0 (ai @w_0 (ai @kk0c (ai @g0_j0 (ai @g1_j0 (ai @g2_j0 (ai @g3_j0 (ai @g4_j0 (ai @g5_j0 (ai @g6_j0 (ai @g7_j0 (ai @g8_j0 (ai @g9_j0 (ai @g10_j0 (ai @g11_j0 (ai @g12_j0 (ai @f49c (ai @f49g0 (ai @f49g1 (ai @f49g2 (ai @f49g3 (ai @w50a (ai @f51c (ai @f51g0 (ai @f51g1 (ai @f51g2 (ai @f51g3 (ai @f53c (ai @f53d (ai @f53g0 (ai @w54a (ai @dc57 (ai @f58c (ai @f58g0 (ai @f58g1 (ai @f58g2 (ai @f58g3 (ai @w60a p_impl_TotalsOf_tf.down))))))))))))))))))))))))))))))))))))))
        try refine st_by ff ?_
        repeat' (first | exact trivial | refine And.intro sd ?_)
        refine Back.intro (i_0 + 1, (((out_47.set v46.1.toNat (⟨x48.Name, (IntKind.i64.wrap (x48.Count + 1)), x48.All, x48.Own⟩ : GTotal)).set v46.1.toNat (⟨(⟨x48.Name, (IntKind.i64.wrap (x48.Count + 1)), x48.All, x48.Own⟩ : GTotal).Name, (⟨x48.Name, (IntKind.i64.wrap (x48.Count + 1)), x48.All, x48.Own⟩ : GTotal).Count, (⟨x48.Name, (IntKind.i64.wrap (x48.Count + 1)), x48.All, x48.Own⟩ : GTotal).All, (IntKind.i64.wrap (((⟨x48.Name, (IntKind.i64.wrap (x48.Count + 1)), x48.All, x48.Own⟩ : GTotal).Own) + x52))⟩ : GTotal)).set v46.1.toNat (⟨(⟨(⟨x48.Name, (IntKind.i64.wrap (x48.Count + 1)), x48.All, x48.Own⟩ : GTotal).Name, (⟨x48.Name, (IntKind.i64.wrap (x48.Count + 1)), x48.All, x48.Own⟩ : GTotal).Count, (⟨x48.Name, (IntKind.i64.wrap (x48.Count + 1)), x48.All, x48.Own⟩ : GTotal).All, (IntKind.i64.wrap (((⟨x48.Name, (IntKind.i64.wrap (x48.Count + 1)), x48.All, x48.Own⟩ : GTotal).Own) + x52))⟩ : GTotal).Name, (⟨(⟨x48.Name, (IntKind.i64.wrap (x48.Count + 1)), x48.All, x48.Own⟩ : GTotal).Name, (⟨x48.Name, (IntKind.i64.wrap (x48.Count + 1)), x48.All, x48.Own⟩ : GTotal).Count, (⟨x48.Name, (IntKind.i64.wrap (x48.Count + 1)), x48.All, x48.Own⟩ : GTotal).All, (IntKind.i64.wrap (((⟨x48.Name, (IntKind.i64.wrap (x48.Count + 1)), x48.All, x48.Own⟩ : GTotal).Own) + x52))⟩ : GTotal).Count, (IntKind.i64.wrap (((⟨(⟨x48.Name, (IntKind.i64.wrap (x48.Count + 1)), x48.All, x48.Own⟩ : GTotal).Name, (⟨x48.Name, (IntKind.i64.wrap (x48.Count + 1)), x48.All, x48.Own⟩ : GTotal).Count, (⟨x48.Name, (IntKind.i64.wrap (x48.Count + 1)), x48.All, x48.Own⟩ : GTotal).All, (IntKind.i64.wrap (((⟨x48.Name, (IntKind.i64.wrap (x48.Count + 1)), x48.All, x48.Own⟩ : GTotal).Own) + x52))⟩ : GTotal).All) + v59)), (⟨(⟨x48.Name, (IntKind.i64.wrap (x48.Count + 1)), x48.All, x48.Own⟩ : GTotal).Name, (⟨x48.Name, (IntKind.i64.wrap (x48.Count + 1)), x48.All, x48.Own⟩ : GTotal).Count, (⟨x48.Name, (IntKind.i64.wrap (x48.Count + 1)), x48.All, x48.Own⟩ : GTotal).All, (IntKind.i64.wrap (((⟨x48.Name, (IntKind.i64.wrap (x48.Count + 1)), x48.All, x48.Own⟩ : GTotal).Own) + x52))⟩ : GTotal).Own⟩ : GTotal))) ?_ ?_
        · clear ff; rw [hM_0]; show l_a0.length - (i_0 + 1) < l_a0.length - i_0; omega
        rw [hI_0]
        refine ⟨⟨by clear ff; show i_0 + 1 ≤ l_a0.length; omega, by show p_impl_TotalsOf_l0 N l_a0 v3 (l_a0.drop (i_0 + 1)) (i_0 + 1) (((out_47.set v46.1.toNat (⟨x48.Name, (IntKind.i64.wrap (x48.Count + 1)), x48.All, x48.Own⟩ : GTotal)).set v46.1.toNat (⟨(⟨x48.Name, (IntKind.i64.wrap (x48.Count + 1)), x48.All, x48.Own⟩ : GTotal).Name, (⟨x48.Name, (IntKind.i64.wrap (x48.Count + 1)), x48.All, x48.Own⟩ : GTotal).Count, (⟨x48.Name, (IntKind.i64.wrap (x48.Count + 1)), x48.All, x48.Own⟩ : GTotal).All, (IntKind.i64.wrap (((⟨x48.Name, (IntKind.i64.wrap (x48.Count + 1)), x48.All, x48.Own⟩ : GTotal).Own) + x52))⟩ : GTotal)).set v46.1.toNat (⟨(⟨(⟨x48.Name, (IntKind.i64.wrap (x48.Count + 1)), x48.All, x48.Own⟩ : GTotal).Name, (⟨x48.Name, (IntKind.i64.wrap (x48.Count + 1)), x48.All, x48.Own⟩ : GTotal).Count, (⟨x48.Name, (IntKind.i64.wrap (x48.Count + 1)), x48.All, x48.Own⟩ : GTotal).All, (IntKind.i64.wrap (((⟨x48.Name, (IntKind.i64.wrap (x48.Count + 1)), x48.All, x48.Own⟩ : GTotal).Own) + x52))⟩ : GTotal).Name, (⟨(⟨x48.Name, (IntKind.i64.wrap (x48.Count + 1)), x48.All, x48.Own⟩ : GTotal).Name, (⟨x48.Name, (IntKind.i64.wrap (x48.Count + 1)), x48.All, x48.Own⟩ : GTotal).Count, (⟨x48.Name, (IntKind.i64.wrap (x48.Count + 1)), x48.All, x48.Own⟩ : GTotal).All, (IntKind.i64.wrap (((⟨x48.Name, (IntKind.i64.wrap (x48.Count + 1)), x48.All, x48.Own⟩ : GTotal).Own) + x52))⟩ : GTotal).Count, (IntKind.i64.wrap (((⟨(⟨x48.Name, (IntKind.i64.wrap (x48.Count + 1)), x48.All, x48.Own⟩ : GTotal).Name, (⟨x48.Name, (IntKind.i64.wrap (x48.Count + 1)), x48.All, x48.Own⟩ : GTotal).Count, (⟨x48.Name, (IntKind.i64.wrap (x48.Count + 1)), x48.All, x48.Own⟩ : GTotal).All, (IntKind.i64.wrap (((⟨x48.Name, (IntKind.i64.wrap (x48.Count + 1)), x48.All, x48.Own⟩ : GTotal).Own) + x52))⟩ : GTotal).All) + v59)), (⟨(⟨x48.Name, (IntKind.i64.wrap (x48.Count + 1)), x48.All, x48.Own⟩ : GTotal).Name, (⟨x48.Name, (IntKind.i64.wrap (x48.Count + 1)), x48.All, x48.Own⟩ : GTotal).Count, (⟨x48.Name, (IntKind.i64.wrap (x48.Count + 1)), x48.All, x48.Own⟩ : GTotal).All, (IntKind.i64.wrap (((⟨x48.Name, (IntKind.i64.wrap (x48.Count + 1)), x48.All, x48.Own⟩ : GTotal).Own) + x52))⟩ : GTotal).Own⟩ : GTotal)) = some q_0; rw [hd_0]; exact h_0⟩, ?_⟩
        exact p_impl_TotalsOf_pv ff trivial
      have hrt_0 := fun σ : ASt => congrFun (congrFun hk_0.symm AX.rt) σ
      have hex_0 := fun (i : Nat) (σ : ASt) => congrFun (congrFun hk_0.symm (AX.ex i)) σ
      by_cases c61 : v46.2 = true
      · rw [if_pos c61] at h_0
        have dc61 := c61
        have ff := ai @dc2 (ai @dr_0 (ai @w_0 (ai @g0_0 (ai @g1_0 (ai @g2_0 (ai @g3_0 (ai @g4_0 (ai @g5_0 (ai @g6_0 (ai @g7_0 (ai @g8_0 (ai @kk0c (ai @hrt_0 (ai @hex_0 (ai @dc61 p_impl_TotalsOf_tf.down)))))))))))))))
        try refine st_by ff ?_
        repeat' (first | exact trivial | refine And.intro sd ?_)
        refine key_0 _ ?_
        refine ⟨out_25, h_0, ?_⟩
        exact p_impl_TotalsOf_pv ff trivial
      rw [if_neg c61] at h_0
      have dc61 := eq_false_of_ne_true c61
      obtain ⟨v62, ev62, h_0⟩ := Option.bind_eq_some_iff.1 h_0
      try dsimp only at h_0
      have ff := ai @dc2 (ai @dr_0 (ai @w_0 (ai @g0_0 (ai @g1_0 (ai @g2_0 (ai @g3_0 (ai @g4_0 (ai @g5_0 (ai @g6_0 (ai @g7_0 (ai @g8_0 (ai @kk0c (ai @hrt_0 (ai @hex_0 (ai @dc61 p_impl_TotalsOf_tf.down)))))))))))))))
      try refine st_by ff ?_
      repeat' (first | exact trivial | refine And.intro sd ?_)
      (refine cq_X [(4, []), (37, [])] (insTotal_does out_25 v46.1 ([(⟨x_0.Name, 0, 0, 0⟩ : GTotal)] : List GTotal) v62 ev62) (hf_by ff) kr (by first | decide | simp) ⟨p_impl_TotalsOf_sa ff trivial, ?_⟩; clear ff)
      have ff := ai @dc2 (ai @dr_0 (ai @w_0 (ai @g0_0 (ai @g1_0 (ai @g2_0 (ai @g3_0 (ai @g4_0 (ai @g5_0 (ai @g6_0 (ai @g7_0 (ai @g8_0 (ai @kk0c (ai @hrt_0 (ai @hex_0 (ai @dc61 (ai @isPre0 (ai @isPre1 (ai @isPre2 p_impl_TotalsOf_tf.down))))))))))))))))))
      try refine st_by ff ?_
      repeat' (first | exact trivial | refine And.intro sd ?_)
      refine key_0 _ ?_
      refine ⟨v62, h_0, ?_⟩
      exact p_impl_TotalsOf_pv ff trivial
  · try clear ff
    rintro σ hg_0
    rw [hJ_0] at hg_0
    obtain ⟨out_25, hj_0, g0_0a, g1_0a⟩ := hg_0
    have hjj_0 := Option.some.inj hj_0
    subst hjj_0
    try dsimp only at h
    have ff := ai @dc2 (ai @g0_0a (ai @g1_0a p_impl_TotalsOf_tf.down))
    try refine st_by ff ?_
    repeat' (first | exact trivial | refine And.intro sd ?_)
    cases h
    exact ret_q2 rfl (p_impl_TotalsOf_rt ff trivial)
end Go.Av
