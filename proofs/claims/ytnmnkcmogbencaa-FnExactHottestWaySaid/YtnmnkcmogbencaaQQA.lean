/- spec.GoodSpans -/
import Derived.Test.YtnmnkcmogbencaaQLA
import Derived.Test.YtnmnkcmogbencaaQG3
set_option linter.unusedSimpArgs false
set_option linter.unusedVariables false
set_option maxRecDepth 100000
set_option maxHeartbeats 1000000
namespace Go.Av
open Go.Proofs
/-! spec.GoodSpans -/
def p_spec_GoodSpans_l1 (l_0 : List GSpan) (x_0 : GSpan) : Nat → Int → Option (Int)
  | 0, _ => none
  | n_1 + 1, k_121 => (if k_121 > x_0.Up then (if k_121 ≥ 0 then ((idx l_0 k_121).bind fun x128 => p_spec_GoodSpans_l1 l_0 x_0 n_1 x128.Up) else some k_121) else some k_121)
def p_spec_GoodSpans_j1 (end_60 : List Int) (deep_61 : List Int) (x_0 : GSpan) (i_0 : Nat) (x141 : Int) (rec_0 : Nat → (List Int) → (List Int) → Option (LR (Bool) ((List Int) × (List Int)))) (b_147 : Bool) : Option (LR (Bool) ((List Int) × (List Int))) := (if b_147 = true then some (.ret false) else ((idx (end_60.set i_0 x_0.From) x_0.Up).bind fun x149 => rec_0 (i_0 + 1) ((end_60.set i_0 x_0.From).set x_0.Up.toNat x_0.To) (deep_61.set i_0 (IntKind.i64.wrap (x141 + 1)))))
def p_spec_GoodSpans_j0 (N : Nat) (l_0 : List GSpan) (end_60 : List Int) (deep_61 : List Int) (x_0 : GSpan) (i_0 : Nat) (rec_0 : Nat → (List Int) → (List Int) → Option (LR (Bool) ((List Int) × (List Int)))) (b_115 : Bool) : Option (LR (Bool) ((List Int) × (List Int))) := (if b_115 = true then some (.ret false) else ((p_spec_GoodSpans_l1 l_0 x_0 N (IntKind.i64.wrap ((i_0 : Int) - 1))).bind fun q_1 => match q_1 with | k_121 => (if k_121 = x_0.Up then ((idx end_60 (i_0 : Int)).bind fun x131 => (if x_0.Up < 0 then ((idx (end_60.set i_0 x_0.From) (l_0.length : Int)).bind fun x136 => (if x_0.From < x136 then some (.ret false) else rec_0 (i_0 + 1) ((end_60.set i_0 x_0.From).set l_0.length x_0.To) deep_61)) else ((idx deep_61 x_0.Up).bind fun x141 => ((idx deep_61 (i_0 : Int)).bind fun x143 => ((idx (end_60.set i_0 x_0.From) x_0.Up).bind fun x153 => (if x_0.From < x153 then p_spec_GoodSpans_j1 end_60 deep_61 x_0 i_0 x141 (rec_0) true else ((idx l_0 x_0.Up).bind fun x156 => (if x_0.To > x156.To then p_spec_GoodSpans_j1 end_60 deep_61 x_0 i_0 x141 (rec_0) true else ((idx (deep_61.set i_0 (IntKind.i64.wrap (x141 + 1))) (i_0 : Int)).bind fun x159 => p_spec_GoodSpans_j1 end_60 deep_61 x_0 i_0 x141 (rec_0) (decide (x159 ≥ 12))))))))))) else some (.ret false))))
def p_spec_GoodSpans_l0 (N : Nat) (l_0 : List GSpan) : List GSpan → Nat → (List Int) → (List Int) → Option (LR (Bool) ((List Int) × (List Int)))
  | [], i_0, end_60, deep_61 => some (.out (end_60, deep_61))
  | x_0 :: r_0, i_0, end_60, deep_61 => (if x_0.Name.size ≤ 9223372036854775807 then (if (goodName x_0.Name) = true then (if (rng x_0.From 0 100000) = true then (if (rng x_0.To x_0.From 100000) = true then p_spec_GoodSpans_j0 N l_0 end_60 deep_61 x_0 i_0 (p_spec_GoodSpans_l0 N l_0 r_0) (!(rng x_0.Up (-1) (IntKind.i64.wrap ((i_0 : Int) - 1)))) else p_spec_GoodSpans_j0 N l_0 end_60 deep_61 x_0 i_0 (p_spec_GoodSpans_l0 N l_0 r_0) true) else p_spec_GoodSpans_j0 N l_0 end_60 deep_61 x_0 i_0 (p_spec_GoodSpans_l0 N l_0 r_0) true) else p_spec_GoodSpans_j0 N l_0 end_60 deep_61 x_0 i_0 (p_spec_GoodSpans_l0 N l_0 r_0) true) else none)
theorem p_spec_GoodSpans_pv {F C A : Prop} (hF : F) (hC : C) (h : F → C → A := by intro hF hC; first | exact cl_by hF | (refine st_by hF ?_; repeat' (first | exact trivial | apply And.intro); all_goals (clear hF; first | rfl | (simp only [hC, List.length_append, List.length_cons, List.length_nil, List.append_nil, List.nil_append, List.cons_append, List.length_set, List.append_assoc, Nat.zero_add, List.length_replicate, esInt_app, esInt_cons, esInt_nil, eInt_eq, esSpan_app, esSpan_cons, esSpan_nil, eSpan_eq]; done) | (simp [hC, List.length_append, List.length_cons, List.length_nil, List.append_nil, List.nil_append, List.cons_append, List.length_set, List.append_assoc, Nat.zero_add, List.length_replicate, esInt_app, esInt_cons, esInt_nil, eInt_eq, esSpan_app, esSpan_cons, esSpan_nil, eSpan_eq]; done) | omega))) : A := h hF hC
theorem p_spec_GoodSpans_sa {F C A : Prop} (hF : F) (hC : C) (h : F → C → A := by intro hF hC; first | exact ca_by hF | (refine sa_by hF ?_; repeat' (first | exact trivial | apply And.intro); all_goals (clear hF; first | rfl | (simp only [hC, List.length_append, List.length_cons, List.length_nil, List.append_nil, List.nil_append, List.cons_append, List.length_set, List.append_assoc, Nat.zero_add, List.length_replicate, esInt_app, esInt_cons, esInt_nil, eInt_eq, esSpan_app, esSpan_cons, esSpan_nil, eSpan_eq]; done) | (simp [hC, List.length_append, List.length_cons, List.length_nil, List.append_nil, List.nil_append, List.cons_append, List.length_set, List.append_assoc, Nat.zero_add, List.length_replicate, esInt_app, esInt_cons, esInt_nil, eInt_eq, esSpan_app, esSpan_cons, esSpan_nil, eSpan_eq]; done) | omega))) : A := h hF hC
theorem p_spec_GoodSpans_rt {F C A : Prop} (hF : F) (hC : C) (h : F → C → A := by intro hF hC; first | (refine sr_by hF ?_; repeat' (first | exact trivial | apply And.intro); all_goals (clear hF; first | rfl | (simp only [hC, List.length_append, List.length_cons, List.length_nil, List.append_nil, List.nil_append, List.cons_append, List.length_set, List.append_assoc, Nat.zero_add, List.length_replicate, esInt_app, esInt_cons, esInt_nil, eInt_eq, esSpan_app, esSpan_cons, esSpan_nil, eSpan_eq]; done) | (simp [hC, List.length_append, List.length_cons, List.length_nil, List.append_nil, List.nil_append, List.cons_append, List.length_set, List.append_assoc, Nat.zero_add, List.length_replicate, esInt_app, esInt_cons, esInt_nil, eInt_eq, esSpan_app, esSpan_cons, esSpan_nil, eSpan_eq]; done) | omega)) | (first | rfl | (simp only [hC, List.length_append, List.length_cons, List.length_nil, List.append_nil, List.nil_append, List.cons_append, List.length_set, List.append_assoc, Nat.zero_add, List.length_replicate, esInt_app, esInt_cons, esInt_nil, eInt_eq, esSpan_app, esSpan_cons, esSpan_nil, eSpan_eq]; done) | (simp [hC, List.length_append, List.length_cons, List.length_nil, List.append_nil, List.nil_append, List.cons_append, List.length_set, List.append_assoc, Nat.zero_add, List.length_replicate, esInt_app, esInt_cons, esInt_nil, eInt_eq, esSpan_app, esSpan_cons, esSpan_nil, eSpan_eq]; done) | omega)) : A := h hF hC
def p_spec_GoodSpans_tf := PLift.up (And.intro @eInt_eq (And.intro @esInt_len (And.intro @esInt_nil (And.intro @eSpan_eq (And.intro @esSpan_len (And.intro @esSpan_nil (And.intro @esInt_share (And.intro @esInt_pure (And.intro @esSpan_share (And.intro @esSpan_pure (And.intro @str_beq (And.intro @Ty.sl38 (And.intro @Ty.slz38 (And.intro @Ty.sl22 (And.intro @Ty.slz22 (And.intro @Ty.ldA91 (And.intro @Ty.sz91 (And.intro @Ty.szn91 (And.intro @Ty.ldA9 (And.intro @Ty.ldS9 (And.intro @Ty.sz9 (And.intro @Ty.szn9 (And.intro @Ty.ldA3 (And.intro @Ty.ldS3 (And.intro @Ty.sz3 (And.intro @Ty.szn3 (And.intro @Ty.fo91_0 (And.intro @Ty.fk91_0 (And.intro @Ty.fs91_0 (And.intro @Ty.fn91_0 (And.intro @Ty.fo91_1 (And.intro @Ty.fk91_1 (And.intro @Ty.fs91_1 (And.intro @Ty.fn91_1 (And.intro @Ty.fo91_2 (And.intro @Ty.fk91_2 (And.intro @Ty.fs91_2 (And.intro @Ty.fn91_2 (And.intro @Ty.fo91_3 (And.intro @Ty.fk91_3 (And.intro @Ty.fs91_3 (And.intro @Ty.fn91_3 (And.intro @Ty.zok22 (And.intro @Ty.by22 (And.intro @Ty.zs22 (And.intro @Ty.zv91 @trivial))))))))))))))))))))))))))))))))))))))))))))))
def p_spec_GoodSpans (N : Nat) (l_0 : List GSpan) : Option (Bool) := (if (l_0.length : Int) > 200 then some false else ((mkl (IntKind.i64.wrap ((l_0.length : Int) + 1)) (0 : Int)).bind fun m2 => ((mkl (l_0.length : Int) (0 : Int)).bind fun m4 => ((p_spec_GoodSpans_l0 N l_0 l_0 0 m2 m4).bind fun q_0 => match q_0 with | .ret r_ => some r_ | .out (end_60, deep_61) => some true))))
theorem p_spec_GoodSpans_does (N : Nat) (l_0 : List GSpan) (r : Bool) (h : p_spec_GoodSpans N l_0 = some r) : Does Try.prog 24 [.row false 4 l_0.length (esSpan l_0)] (B r) := by
  rw [p_spec_GoodSpans] at h
  refine Does.bnd (fun hb => ?_)
  have hb2 : l_0.length ≤ 9223372036854775807 := by simpa [AV.fitNs, AV.fitN] using hb
  have hl0 := hb2
  refine Does.walk (nt := 134) Try.func24 rfl rfl (by simp) (by decide) rfl (fun G0 X w0 pv => ?_)
  by_cases c1 : (l_0.length : Int) > 200
  · rw [if_pos c1] at h
    have dc1 := decide_eq_true c1
    have ff := And.intro @dc1 p_spec_GoodSpans_tf.down
    try refine st_by ff ?_
    repeat' (first | exact trivial | refine And.intro sd ?_)
    try clear ff
    cases h
    exact ret_q1 rfl (p_spec_GoodSpans_rt (And.intro @dc1 p_spec_GoodSpans_tf.down) trivial)
  rw [if_neg c1] at h
  have dc1 := decide_eq_false c1
  obtain ⟨m2, em2, h⟩ := Option.bind_eq_some_iff.1 h
  try dsimp only at h
  obtain ⟨f3b, f3c, f3d⟩ := mkl_ok em2
  have f3a : (zCells [.int .i64 0] (IntKind.i64.wrap ((l_0.length : Int) + 1)).toNat).map AV.lit = esInt m2 := mkl_enc (enc := eInt) (by decide) rfl em2
  obtain ⟨m4, em4, h⟩ := Option.bind_eq_some_iff.1 h
  try dsimp only at h
  obtain ⟨f5b, f5c, f5d⟩ := mkl_ok em4
  have f5a : (zCells [.int .i64 0] l_0.length).map AV.lit = esInt m4 := mkl_encN (enc := eInt) (by decide) rfl em4
  rw [Int.toNat_natCast] at f5c
  have hL_0 : l_0.length ≤ 9223372036854775807 := by first | assumption | omega
  obtain ⟨q_0, eq_0, h⟩ := Option.bind_eq_some_iff.1 h
  have ff := And.intro @dc1 (And.intro @f3a (And.intro @f5a p_spec_GoodSpans_tf.down))
  try refine st_by ff ?_
  repeat' (first | exact trivial | refine And.intro sd ?_)
  try clear ff
  obtain ⟨I_0, hI_0⟩ : ∃ I_ : (Nat × (List Int) × (List Int)) → ASt → Prop, I_ = (fun (a : Nat × (List Int) × (List Int)) σ => match a with | (i_0, end_60, deep_61) => (i_0 ≤ l_0.length ∧ p_spec_GoodSpans_l0 N l_0 (l_0.drop i_0) i_0 end_60 deep_61 = some q_0) ∧ σ.t 0 = .row false 4 l_0.length (esSpan l_0) ∧ σ.t 3 = .sl 3 [] 0 end_60.length ∧ σ.t 4 = .sl 4 [] 0 deep_61.length ∧ σ.t 18 = .row false 4 l_0.length (esSpan l_0) ∧ σ.t 19 = I (l_0.length : Int) ∧ σ.t 20 = I (i_0 : Int) ∧ σ.m 3 = some (.row true 1 end_60.length (esInt end_60)) ∧ σ.m 4 = some (.row true 1 deep_61.length (esInt deep_61))) := ⟨_, rfl⟩
  obtain ⟨M_0, hM_0⟩ : ∃ M_ : (Nat × (List Int) × (List Int)) → Nat, M_ = (fun (a : Nat × (List Int) × (List Int)) => match a with | (i_0, end_60, deep_61) => l_0.length - i_0) := ⟨_, rfl⟩
  obtain ⟨J_0, hJ_0⟩ : ∃ J_ : ASt → Prop, J_ = (fun σ => ∃ end_60 : List Int, ∃ deep_61 : List Int, (some (.out (end_60, deep_61)) = some q_0) ∧ True) := ⟨_, rfl⟩
  refine aw_loopC (id := 0) I_0 M_0 J_0 (0, m2, m4) ?_ ?_ ?_
  · rw [hI_0]
    refine ⟨⟨Nat.zero_le _, eq_0⟩, ?_⟩
    exact p_spec_GoodSpans_pv (And.intro @dc1 (And.intro @f3a (And.intro @f5a p_spec_GoodSpans_tf.down))) (And.intro @f3c @f5c)
  · rintro ⟨i_0, end_60, deep_61⟩ σ hg_0
    rw [hI_0] at hg_0
    obtain ⟨⟨hi_0, h_0⟩, g0_0, g1_0, g2_0, g3_0, g4_0, g5_0, g6_0, g7_0⟩ := hg_0
    cases hr_0 : l_0.drop i_0 with
    | nil =>
      rw [hr_0] at h_0
      rw [p_spec_GoodSpans_l0] at h_0
      have hn_0 := drop_nil hr_0
      have dr_0 : decide ((i_0 : Int) < (l_0.length : Int)) = false := decide_eq_false (by omega)
      have ff := And.intro @dc1 (And.intro @f3a (And.intro @f5a (And.intro @dr_0 (And.intro @g0_0 (And.intro @g1_0 (And.intro @g2_0 (And.intro @g3_0 (And.intro @g4_0 (And.intro @g5_0 (And.intro @g6_0 (And.intro @g7_0 p_spec_GoodSpans_tf.down)))))))))))
      try refine st_by ff ?_
      repeat' (first | exact trivial | refine And.intro sd ?_)
      try clear ff
      refine JW.intro ?_
      rw [hJ_0]
      refine ⟨end_60, deep_61, h_0, ?_⟩
      exact p_spec_GoodSpans_pv (And.intro @dc1 (And.intro @f3a (And.intro @f5a (And.intro @dr_0 (And.intro @g0_0 (And.intro @g1_0 (And.intro @g2_0 (And.intro @g3_0 (And.intro @g4_0 (And.intro @g5_0 (And.intro @g6_0 (And.intro @g7_0 p_spec_GoodSpans_tf.down)))))))))))) (And.intro @f3c @f5c)
    | cons x_0 r_0 =>
      rw [hr_0] at h_0
      rw [p_spec_GoodSpans_l0] at h_0
      obtain ⟨ht_0, hg_0, hd_0⟩ := drop_cons hr_0
      have dr_0 : decide ((i_0 : Int) < (l_0.length : Int)) = true := decide_eq_true (by omega)
      have w_0 : IntKind.i64.wrap ((i_0 : Int) + 1) = ((i_0 + 1 : Nat) : Int) := wI _ (by omega) (by omega)
      have kk0c : (esSpan l_0).drop (i_0 * 4) = eSpan x_0 ++ esSpan (l_0.drop (i_0 + 1)) := drop_enc (fun _ => rfl) (hg_0)
      have ff := And.intro @dc1 (And.intro @f3a (And.intro @f5a (And.intro @dr_0 (And.intro @w_0 (And.intro @g0_0 (And.intro @g1_0 (And.intro @g2_0 (And.intro @g3_0 (And.intro @g4_0 (And.intro @g5_0 (And.intro @g6_0 (And.intro @g7_0 (And.intro @kk0c p_spec_GoodSpans_tf.down)))))))))))))
      try refine st_by ff ?_
      repeat' (first | exact trivial | refine And.intro sd ?_)
      try clear ff
      generalize hk_0 : thenK _ _ = kk_0
      have key_0 : ∀ σ, (∃ b_115 : Bool, (p_spec_GoodSpans_j0 N l_0 end_60 deep_61 x_0 i_0 (p_spec_GoodSpans_l0 N l_0 r_0) b_115 = some q_0) ∧ σ.t 0 = .row false 4 l_0.length (esSpan l_0) ∧ σ.t 3 = .sl 3 [] 0 end_60.length ∧ σ.t 4 = .sl 4 [] 0 deep_61.length ∧ σ.t 5 = I (i_0 : Int) ∧ σ.t 6 = .ptr 6 [] 0 ∧ σ.t 18 = .row false 4 l_0.length (esSpan l_0) ∧ σ.t 19 = I (l_0.length : Int) ∧ σ.t 20 = I (i_0 : Int) ∧ σ.t 50 = B b_115 ∧ σ.m 3 = some (.row true 1 end_60.length (esInt end_60)) ∧ σ.m 4 = some (.row true 1 deep_61.length (esInt deep_61)) ∧ σ.m 6 = some (.box true [S x_0.Name, I x_0.From, I x_0.To, I x_0.Up])) → kk_0 .nm σ := by
        rintro σ ⟨b_115, h_0, g0_j0, g1_j0, g2_j0, g3_j0, g4_j0, g5_j0, g6_j0, g7_j0, g8_j0, g9_j0, g10_j0, g11_j0⟩
        rw [← hk_0]
        rw [p_spec_GoodSpans_j0] at h_0
        by_cases c116 : b_115 = true
        · rw [if_pos c116] at h_0
          have dc116 := c116
          cases h_0
          try dsimp only at h
          have ff := And.intro @dc1 (And.intro @f3a (And.intro @f5a (And.intro @dr_0 (And.intro @w_0 (And.intro @kk0c (And.intro @g0_j0 (And.intro @g1_j0 (And.intro @g2_j0 (And.intro @g3_j0 (And.intro @g4_j0 (And.intro @g5_j0 (And.intro @g6_j0 (And.intro @g7_j0 (And.intro @g8_j0 (And.intro @g9_j0 (And.intro @g10_j0 (And.intro @g11_j0 (And.intro @dc116 p_spec_GoodSpans_tf.down))))))))))))))))))
          try refine st_by ff ?_
          repeat' (first | exact trivial | refine And.intro sd ?_)
          try clear ff
          cases h
          exact ret_q1 rfl (p_spec_GoodSpans_rt (And.intro @dc1 (And.intro @f3a (And.intro @f5a (And.intro @dr_0 (And.intro @w_0 (And.intro @kk0c (And.intro @g0_j0 (And.intro @g1_j0 (And.intro @g2_j0 (And.intro @g3_j0 (And.intro @g4_j0 (And.intro @g5_j0 (And.intro @g6_j0 (And.intro @g7_j0 (And.intro @g8_j0 (And.intro @g9_j0 (And.intro @g10_j0 (And.intro @g11_j0 (And.intro @dc116 p_spec_GoodSpans_tf.down))))))))))))))))))) (And.intro @f3c @f5c))
        rw [if_neg c116] at h_0
        have dc116 := eq_false_of_ne_true c116
        obtain ⟨q_1, eq_1, h_0⟩ := Option.bind_eq_some_iff.1 h_0
        have ff := And.intro @dc1 (And.intro @f3a (And.intro @f5a (And.intro @dr_0 (And.intro @w_0 (And.intro @kk0c (And.intro @g0_j0 (And.intro @g1_j0 (And.intro @g2_j0 (And.intro @g3_j0 (And.intro @g4_j0 (And.intro @g5_j0 (And.intro @g6_j0 (And.intro @g7_j0 (And.intro @g8_j0 (And.intro @g9_j0 (And.intro @g10_j0 (And.intro @g11_j0 (And.intro @dc116 p_spec_GoodSpans_tf.down))))))))))))))))))
        try refine st_by ff ?_
        repeat' (first | exact trivial | refine And.intro sd ?_)
        try clear ff
        obtain ⟨I_1, hI_1⟩ : ∃ I_ : (Nat × Int) → ASt → Prop, I_ = (fun (a : Nat × Int) σ => match a with | (n_1, k_121) => (p_spec_GoodSpans_l1 l_0 x_0 n_1 k_121 = some q_1) ∧ σ.t 0 = .row false 4 l_0.length (esSpan l_0) ∧ σ.t 3 = .sl 3 [] 0 end_60.length ∧ σ.t 4 = .sl 4 [] 0 deep_61.length ∧ σ.t 5 = I (i_0 : Int) ∧ σ.t 6 = .ptr 6 [] 0 ∧ σ.t 7 = I k_121 ∧ σ.t 18 = .row false 4 l_0.length (esSpan l_0) ∧ σ.t 19 = I (l_0.length : Int) ∧ σ.t 20 = I (i_0 : Int) ∧ σ.m 3 = some (.row true 1 end_60.length (esInt end_60)) ∧ σ.m 4 = some (.row true 1 deep_61.length (esInt deep_61)) ∧ σ.m 6 = some (.box true [S x_0.Name, I x_0.From, I x_0.To, I x_0.Up])) := ⟨_, rfl⟩
        obtain ⟨M_1, hM_1⟩ : ∃ M_ : (Nat × Int) → Nat, M_ = (fun (a : Nat × Int) => match a with | (n_1, k_121) => n_1) := ⟨_, rfl⟩
        obtain ⟨J_1, hJ_1⟩ : ∃ J_ : ASt → Prop, J_ = (fun σ => ∃ k_121 : Int, (some k_121 = some q_1) ∧ σ.t 0 = .row false 4 l_0.length (esSpan l_0) ∧ σ.t 3 = .sl 3 [] 0 end_60.length ∧ σ.t 4 = .sl 4 [] 0 deep_61.length ∧ σ.t 5 = I (i_0 : Int) ∧ σ.t 6 = .ptr 6 [] 0 ∧ σ.t 7 = I k_121 ∧ σ.t 18 = .row false 4 l_0.length (esSpan l_0) ∧ σ.t 19 = I (l_0.length : Int) ∧ σ.t 20 = I (i_0 : Int) ∧ σ.m 3 = some (.row true 1 end_60.length (esInt end_60)) ∧ σ.m 4 = some (.row true 1 deep_61.length (esInt deep_61)) ∧ σ.m 6 = some (.box true [S x_0.Name, I x_0.From, I x_0.To, I x_0.Up])) := ⟨_, rfl⟩
        refine aw_loopC (id := 2) I_1 M_1 J_1 (N, (IntKind.i64.wrap ((i_0 : Int) - 1))) ?_ ?_ ?_
        · rw [hI_1]
          refine ⟨eq_1, ?_⟩
          exact p_spec_GoodSpans_pv (And.intro @dc1 (And.intro @f3a (And.intro @f5a (And.intro @dr_0 (And.intro @w_0 (And.intro @kk0c (And.intro @g0_j0 (And.intro @g1_j0 (And.intro @g2_j0 (And.intro @g3_j0 (And.intro @g4_j0 (And.intro @g5_j0 (And.intro @g6_j0 (And.intro @g7_j0 (And.intro @g8_j0 (And.intro @g9_j0 (And.intro @g10_j0 (And.intro @g11_j0 (And.intro @dc116 p_spec_GoodSpans_tf.down))))))))))))))))))) (And.intro @f3c @f5c)
        · rintro ⟨n_1, k_121⟩ σ hg_1
          rw [hI_1] at hg_1
          obtain ⟨h_1, g0_1, g1_1, g2_1, g3_1, g4_1, g5_1, g6_1, g7_1, g8_1, g9_1, g10_1, g11_1⟩ := hg_1
          cases n_1 with
          | zero => rw [p_spec_GoodSpans_l1] at h_1; cases h_1
          | succ n_1 =>
            rw [p_spec_GoodSpans_l1] at h_1
            by_cases c126 : k_121 > x_0.Up
            case neg =>
             rw [if_neg c126] at h_1
             have dc126 := decide_eq_false c126
             have ff := And.intro @dc1 (And.intro @f3a (And.intro @f5a (And.intro @dr_0 (And.intro @w_0 (And.intro @kk0c (And.intro @dc116 (And.intro @g0_1 (And.intro @g1_1 (And.intro @g2_1 (And.intro @g3_1 (And.intro @g4_1 (And.intro @g5_1 (And.intro @g6_1 (And.intro @g7_1 (And.intro @g8_1 (And.intro @g9_1 (And.intro @g10_1 (And.intro @g11_1 (And.intro @dc126 p_spec_GoodSpans_tf.down)))))))))))))))))))
             try refine st_by ff ?_
             repeat' (first | exact trivial | refine And.intro sd ?_)
             try clear ff
             refine JW.intro ?_
             rw [hJ_1]
             refine ⟨k_121, h_1, ?_⟩
             exact p_spec_GoodSpans_pv (And.intro @dc1 (And.intro @f3a (And.intro @f5a (And.intro @dr_0 (And.intro @w_0 (And.intro @kk0c (And.intro @dc116 (And.intro @g0_1 (And.intro @g1_1 (And.intro @g2_1 (And.intro @g3_1 (And.intro @g4_1 (And.intro @g5_1 (And.intro @g6_1 (And.intro @g7_1 (And.intro @g8_1 (And.intro @g9_1 (And.intro @g10_1 (And.intro @g11_1 (And.intro @dc126 p_spec_GoodSpans_tf.down)))))))))))))))))))) (And.intro @f3c @f5c)
            rw [if_pos c126] at h_1
            have dc126 := decide_eq_true c126
            by_cases c127 : k_121 ≥ 0
            case neg =>
             rw [if_neg c127] at h_1
             have dc127 := decide_eq_false c127
             have ff := And.intro @dc1 (And.intro @f3a (And.intro @f5a (And.intro @dr_0 (And.intro @w_0 (And.intro @kk0c (And.intro @dc116 (And.intro @g0_1 (And.intro @g1_1 (And.intro @g2_1 (And.intro @g3_1 (And.intro @g4_1 (And.intro @g5_1 (And.intro @g6_1 (And.intro @g7_1 (And.intro @g8_1 (And.intro @g9_1 (And.intro @g10_1 (And.intro @g11_1 (And.intro @dc126 (And.intro @dc127 p_spec_GoodSpans_tf.down))))))))))))))))))))
             try refine st_by ff ?_
             repeat' (first | exact trivial | refine And.intro sd ?_)
             try clear ff
             refine JW.intro ?_
             rw [hJ_1]
             refine ⟨k_121, h_1, ?_⟩
             exact p_spec_GoodSpans_pv (And.intro @dc1 (And.intro @f3a (And.intro @f5a (And.intro @dr_0 (And.intro @w_0 (And.intro @kk0c (And.intro @dc116 (And.intro @g0_1 (And.intro @g1_1 (And.intro @g2_1 (And.intro @g3_1 (And.intro @g4_1 (And.intro @g5_1 (And.intro @g6_1 (And.intro @g7_1 (And.intro @g8_1 (And.intro @g9_1 (And.intro @g10_1 (And.intro @g11_1 (And.intro @dc126 (And.intro @dc127 p_spec_GoodSpans_tf.down))))))))))))))))))))) (And.intro @f3c @f5c)
            rw [if_pos c127] at h_1
            have dc127 := decide_eq_true c127
            obtain ⟨x128, ex128, h_1⟩ := Option.bind_eq_some_iff.1 h_1
            try dsimp only at h_1
            have f129a := idx_lo ex128
            have f129b := idx_hi ex128
            have f129c : (esSpan l_0).drop (k_121.toNat * 4) = eSpan x128 ++ esSpan (l_0.drop (k_121.toNat + 1)) := drop_enc (fun _ => rfl) (idx_get ex128)
            have ff := And.intro @dc1 (And.intro @f3a (And.intro @f5a (And.intro @dr_0 (And.intro @w_0 (And.intro @kk0c (And.intro @dc116 (And.intro @g0_1 (And.intro @g1_1 (And.intro @g2_1 (And.intro @g3_1 (And.intro @g4_1 (And.intro @g5_1 (And.intro @g6_1 (And.intro @g7_1 (And.intro @g8_1 (And.intro @g9_1 (And.intro @g10_1 (And.intro @g11_1 (And.intro @dc126 (And.intro @dc127 (And.intro @f129c p_spec_GoodSpans_tf.down)))))))))))))))))))))
            try refine st_by ff ?_
            repeat' (first | exact trivial | refine And.intro sd ?_)
            try clear ff
            refine Back.intro (n_1, x128.Up) ?_ ?_
            · rw [hM_1]; exact Nat.lt_succ_self _
            rw [hI_1]
            refine ⟨h_1, ?_⟩
            exact p_spec_GoodSpans_pv (And.intro @dc1 (And.intro @f3a (And.intro @f5a (And.intro @dr_0 (And.intro @w_0 (And.intro @kk0c (And.intro @dc116 (And.intro @g0_1 (And.intro @g1_1 (And.intro @g2_1 (And.intro @g3_1 (And.intro @g4_1 (And.intro @g5_1 (And.intro @g6_1 (And.intro @g7_1 (And.intro @g8_1 (And.intro @g9_1 (And.intro @g10_1 (And.intro @g11_1 (And.intro @dc126 (And.intro @dc127 (And.intro @f129c p_spec_GoodSpans_tf.down)))))))))))))))))))))) (And.intro @f3c @f5c)
        · rintro σ hg_1
          rw [hJ_1] at hg_1
          obtain ⟨k_121, hj_1, g0_1a, g1_1a, g2_1a, g3_1a, g4_1a, g5_1a, g6_1a, g7_1a, g8_1a, g9_1a, g10_1a, g11_1a⟩ := hg_1
          have hjj_1 := Option.some.inj hj_1
          subst hjj_1
          try dsimp only at h_0
          by_cases c130 : k_121 = x_0.Up
          case neg =>
           rw [if_neg c130] at h_0
           have dc130 := beq_no c130
           cases h_0
           try dsimp only at h
           have ff := And.intro @dc1 (And.intro @f3a (And.intro @f5a (And.intro @dr_0 (And.intro @w_0 (And.intro @kk0c (And.intro @dc116 (And.intro @g0_1a (And.intro @g1_1a (And.intro @g2_1a (And.intro @g3_1a (And.intro @g4_1a (And.intro @g5_1a (And.intro @g6_1a (And.intro @g7_1a (And.intro @g8_1a (And.intro @g9_1a (And.intro @g10_1a (And.intro @g11_1a (And.intro @dc130 p_spec_GoodSpans_tf.down)))))))))))))))))))
           try refine st_by ff ?_
           repeat' (first | exact trivial | refine And.intro sd ?_)
           try clear ff
           cases h
           exact ret_q1 rfl (p_spec_GoodSpans_rt (And.intro @dc1 (And.intro @f3a (And.intro @f5a (And.intro @dr_0 (And.intro @w_0 (And.intro @kk0c (And.intro @dc116 (And.intro @g0_1a (And.intro @g1_1a (And.intro @g2_1a (And.intro @g3_1a (And.intro @g4_1a (And.intro @g5_1a (And.intro @g6_1a (And.intro @g7_1a (And.intro @g8_1a (And.intro @g9_1a (And.intro @g10_1a (And.intro @g11_1a (And.intro @dc130 p_spec_GoodSpans_tf.down)))))))))))))))))))) (And.intro @f3c @f5c))
          rw [if_pos c130] at h_0
          have dc130 := beq_yes c130
          obtain ⟨x131, ex131, h_0⟩ := Option.bind_eq_some_iff.1 h_0
          try dsimp only at h_0
          have f132a := idx_lo ex131
          have f132b := idx_hi ex131
          have f132c : (esInt end_60).drop (i_0 * 1) = eInt x131 ++ esInt (end_60.drop (i_0 + 1)) := drop_enc (fun _ => rfl) (idx_get ex131)
          have f132d := f132c
          rw [Nat.mul_one] at f132d
          have f132g0 : (esInt end_60).getD (i_0 * 1) .junk = (eInt x131).getD 0 .junk := getD_enc0 (enc := eInt) (sz := 1) (fun _ => rfl) (idx_get ex131) (by decide)
          rw [Nat.mul_one] at f132g0
          have w133l : i_0 < end_60.length := (List.getElem?_eq_some_iff.1 (idx_get ex131)).1
          have w133a : (esInt end_60).set (i_0 * 1) (I x_0.From) = esInt (end_60.set i_0 x_0.From) := set_enc0 (enc := eInt) (sz := 1) (fun _ => rfl) (idx_get ex131) (by decide) rfl
          rw [Nat.mul_one] at w133a
          have w133b : (end_60.set i_0 x_0.From).length = end_60.length := List.length_set
          by_cases c135 : x_0.Up < 0
          · rw [if_pos c135] at h_0
            have dc135 := decide_eq_true c135
            obtain ⟨x136, ex136, h_0⟩ := Option.bind_eq_some_iff.1 h_0
            try dsimp only at h_0
            have f137a := idx_lo ex136
            have f137b := idx_hi ex136
            have f137c : (esInt (end_60.set i_0 x_0.From)).drop (l_0.length * 1) = eInt x136 ++ esInt ((end_60.set i_0 x_0.From).drop (l_0.length + 1)) := drop_enc (fun _ => rfl) (idx_get ex136)
            have f137d := f137c
            rw [Nat.mul_one] at f137d
            have f137g0 : (esInt (end_60.set i_0 x_0.From)).getD (l_0.length * 1) .junk = (eInt x136).getD 0 .junk := getD_enc0 (enc := eInt) (sz := 1) (fun _ => rfl) (idx_get ex136) (by decide)
            rw [Nat.mul_one] at f137g0
            by_cases c138 : x_0.From < x136
            · rw [if_pos c138] at h_0
              have dc138 := decide_eq_true c138
              cases h_0
              try dsimp only at h
              have ff := And.intro @dc1 (And.intro @f3a (And.intro @f5a (And.intro @dr_0 (And.intro @w_0 (And.intro @kk0c (And.intro @dc116 (And.intro @g0_1a (And.intro @g1_1a (And.intro @g2_1a (And.intro @g3_1a (And.intro @g4_1a (And.intro @g5_1a (And.intro @g6_1a (And.intro @g7_1a (And.intro @g8_1a (And.intro @g9_1a (And.intro @g10_1a (And.intro @g11_1a (And.intro @dc130 (And.intro @f132c (And.intro @f132d (And.intro @f132g0 (And.intro @w133a (And.intro @dc135 (And.intro @f137c (And.intro @f137d (And.intro @f137g0 (And.intro @dc138 p_spec_GoodSpans_tf.down))))))))))))))))))))))))))))
              try refine st_by ff ?_
              repeat' (first | exact trivial | refine And.intro sd ?_ | (refine aw_drawn (id := 17) ?_ [[], [0], [], [], [3], [2, 3, 4], [2, 3, 4, 5], [0, 1, 2, 3, 4, 5, 6]] 7 ?_ ?_; (· kernel_rfl); (· kernel_rfl); refine st_by ff ?_))
              try clear ff
              cases h
              exact ret_q1 rfl (p_spec_GoodSpans_rt (And.intro @dc1 (And.intro @f3a (And.intro @f5a (And.intro @dr_0 (And.intro @w_0 (And.intro @kk0c (And.intro @dc116 (And.intro @g0_1a (And.intro @g1_1a (And.intro @g2_1a (And.intro @g3_1a (And.intro @g4_1a (And.intro @g5_1a (And.intro @g6_1a (And.intro @g7_1a (And.intro @g8_1a (And.intro @g9_1a (And.intro @g10_1a (And.intro @g11_1a (And.intro @dc130 (And.intro @f132c (And.intro @f132d (And.intro @f132g0 (And.intro @w133a (And.intro @dc135 (And.intro @f137c (And.intro @f137d (And.intro @f137g0 (And.intro @dc138 p_spec_GoodSpans_tf.down))))))))))))))))))))))))))))) (And.intro @f3c @f5c))
            rw [if_neg c138] at h_0
            have dc138 := decide_eq_false c138
            have w139l : l_0.length < (end_60.set i_0 x_0.From).length := (List.getElem?_eq_some_iff.1 (idx_get ex136)).1
            have w139a : (esInt (end_60.set i_0 x_0.From)).set (l_0.length * 1) (I x_0.To) = esInt ((end_60.set i_0 x_0.From).set l_0.length x_0.To) := set_enc0 (enc := eInt) (sz := 1) (fun _ => rfl) (idx_get ex136) (by decide) rfl
            rw [Nat.mul_one] at w139a
            have w139b : ((end_60.set i_0 x_0.From).set l_0.length x_0.To).length = (end_60.set i_0 x_0.From).length := List.length_set
            have ff := And.intro @dc1 (And.intro @f3a (And.intro @f5a (And.intro @dr_0 (And.intro @w_0 (And.intro @kk0c (And.intro @dc116 (And.intro @g0_1a (And.intro @g1_1a (And.intro @g2_1a (And.intro @g3_1a (And.intro @g4_1a (And.intro @g5_1a (And.intro @g6_1a (And.intro @g7_1a (And.intro @g8_1a (And.intro @g9_1a (And.intro @g10_1a (And.intro @g11_1a (And.intro @dc130 (And.intro @f132c (And.intro @f132d (And.intro @f132g0 (And.intro @w133a (And.intro @dc135 (And.intro @f137c (And.intro @f137d (And.intro @f137g0 (And.intro @dc138 (And.intro @w139a p_spec_GoodSpans_tf.down)))))))))))))))))))))))))))))
            try refine st_by ff ?_
            repeat' (first | exact trivial | refine And.intro sd ?_ | (refine aw_drawn (id := 17) ?_ [[], [0], [], [], [3], [2, 3, 4], [2, 3, 4, 5], [0, 1, 2, 3, 4, 5, 6]] 7 ?_ ?_; (· kernel_rfl); (· kernel_rfl); refine st_by ff ?_))
            try clear ff
            refine Back.intro (i_0 + 1, ((end_60.set i_0 x_0.From).set l_0.length x_0.To), deep_61) ?_ ?_
            · rw [hM_0]; show l_0.length - (i_0 + 1) < l_0.length - i_0; omega
            rw [hI_0]
            refine ⟨⟨by show i_0 + 1 ≤ l_0.length; omega, by show p_spec_GoodSpans_l0 N l_0 (l_0.drop (i_0 + 1)) (i_0 + 1) ((end_60.set i_0 x_0.From).set l_0.length x_0.To) deep_61 = some q_0; rw [hd_0]; exact h_0⟩, ?_⟩
            exact p_spec_GoodSpans_pv (And.intro @dc1 (And.intro @f3a (And.intro @f5a (And.intro @dr_0 (And.intro @w_0 (And.intro @kk0c (And.intro @dc116 (And.intro @g0_1a (And.intro @g1_1a (And.intro @g2_1a (And.intro @g3_1a (And.intro @g4_1a (And.intro @g5_1a (And.intro @g6_1a (And.intro @g7_1a (And.intro @g8_1a (And.intro @g9_1a (And.intro @g10_1a (And.intro @g11_1a (And.intro @dc130 (And.intro @f132c (And.intro @f132d (And.intro @f132g0 (And.intro @w133a (And.intro @dc135 (And.intro @f137c (And.intro @f137d (And.intro @f137g0 (And.intro @dc138 (And.intro @w139a p_spec_GoodSpans_tf.down)))))))))))))))))))))))))))))) (And.intro @f3c @f5c)
          rw [if_neg c135] at h_0
          have dc135 := decide_eq_false c135
          obtain ⟨x141, ex141, h_0⟩ := Option.bind_eq_some_iff.1 h_0
          try dsimp only at h_0
          have f142a := idx_lo ex141
          have f142b := idx_hi ex141
          have f142c : (esInt deep_61).drop (x_0.Up.toNat * 1) = eInt x141 ++ esInt (deep_61.drop (x_0.Up.toNat + 1)) := drop_enc (fun _ => rfl) (idx_get ex141)
          have f142d := f142c
          rw [Nat.mul_one] at f142d
          have f142g0 : (esInt deep_61).getD (x_0.Up.toNat * 1) .junk = (eInt x141).getD 0 .junk := getD_enc0 (enc := eInt) (sz := 1) (fun _ => rfl) (idx_get ex141) (by decide)
          rw [Nat.mul_one] at f142g0
          obtain ⟨x143, ex143, h_0⟩ := Option.bind_eq_some_iff.1 h_0
          try dsimp only at h_0
          have f144a := idx_lo ex143
          have f144b := idx_hi ex143
          have f144c : (esInt deep_61).drop (i_0 * 1) = eInt x143 ++ esInt (deep_61.drop (i_0 + 1)) := drop_enc (fun _ => rfl) (idx_get ex143)
          have f144d := f144c
          rw [Nat.mul_one] at f144d
          have f144g0 : (esInt deep_61).getD (i_0 * 1) .junk = (eInt x143).getD 0 .junk := getD_enc0 (enc := eInt) (sz := 1) (fun _ => rfl) (idx_get ex143) (by decide)
          rw [Nat.mul_one] at f144g0
          have w145l : i_0 < deep_61.length := (List.getElem?_eq_some_iff.1 (idx_get ex143)).1
          have w145a : (esInt deep_61).set (i_0 * 1) (I (IntKind.i64.wrap (x141 + 1))) = esInt (deep_61.set i_0 (IntKind.i64.wrap (x141 + 1))) := set_enc0 (enc := eInt) (sz := 1) (fun _ => rfl) (idx_get ex143) (by decide) rfl
          rw [Nat.mul_one] at w145a
          have w145b : (deep_61.set i_0 (IntKind.i64.wrap (x141 + 1))).length = deep_61.length := List.length_set
          have ff := And.intro @dc1 (And.intro @f3a (And.intro @f5a (And.intro @dr_0 (And.intro @w_0 (And.intro @kk0c (And.intro @dc116 (And.intro @g0_1a (And.intro @g1_1a (And.intro @g2_1a (And.intro @g3_1a (And.intro @g4_1a (And.intro @g5_1a (And.intro @g6_1a (And.intro @g7_1a (And.intro @g8_1a (And.intro @g9_1a (And.intro @g10_1a (And.intro @g11_1a (And.intro @dc130 (And.intro @f132c (And.intro @f132d (And.intro @f132g0 (And.intro @w133a (And.intro @dc135 (And.intro @f142c (And.intro @f142d (And.intro @f142g0 (And.intro @f144c (And.intro @f144d (And.intro @f144g0 (And.intro @w145a p_spec_GoodSpans_tf.down)))))))))))))))))))))))))))))))
          try refine st_by ff ?_
          repeat' (first | exact trivial | refine And.intro sd ?_ | (refine aw_drawn (id := 21) ?_ [[], [0], [], [], [3], [2, 3, 4], [2, 3, 4, 5], [0, 1, 2, 3, 4, 5, 6], [0, 1, 2, 3, 4, 5, 6, 7], [0, 1, 2, 3, 4, 5, 6, 7, 8], [0, 1, 2, 3, 4, 5, 6, 7, 8, 9], [0, 1, 2, 3, 4, 5, 6, 7, 8], [0, 1, 2, 3, 4, 5, 6, 7, 8], [0, 1, 2, 3, 4, 5, 6, 7, 8, 12], [0, 1, 2, 3, 4, 5, 6, 7, 8, 11, 12, 13], [0, 1, 2, 3, 4, 5, 6, 7, 8, 11, 12, 13, 14], [0, 1, 2, 3, 4, 5, 6, 7, 8, 11, 12, 13, 14, 15], [0, 1, 2, 3, 4, 5, 6, 7, 8, 9, 10, 11, 12, 13, 14, 15, 16], [0, 1, 2, 3, 4, 5, 6, 7, 8, 9, 10, 11, 12, 13, 14, 15, 16, 17], [0, 1, 2, 3, 4, 5, 6, 7, 8, 9, 10, 11, 12, 13, 14, 15, 16, 17, 18], [0, 1, 2, 3, 4, 5, 6, 7, 8, 9, 10, 11, 12, 13, 14, 15, 16, 17, 18, 19], [0, 1, 2, 3, 4, 5, 6, 7, 8, 9, 10, 11, 12, 13, 14, 15, 16, 17, 18, 19], [0, 1, 2, 3, 4, 5, 6, 7, 8, 9, 10, 11, 12, 13, 14, 15, 16, 17, 18, 19, 20, 21], [0, 1, 2, 3, 4, 5, 6, 7, 8, 9, 10, 11, 12, 13, 14, 15, 16, 17, 18, 19, 20, 21, 22], [0, 1, 2, 3, 4, 5, 6, 7, 8, 9, 10, 11, 12, 13, 14, 15, 16, 17, 18, 19, 20, 21, 22, 23], [0, 1, 2, 3, 4, 5, 6, 7, 8, 9, 10, 11, 12, 13, 14, 15, 16, 17, 18, 19, 20, 21, 22, 23, 24]] 22 ?_ ?_; (· kernel_rfl); (· kernel_rfl); refine st_by ff ?_))
          try clear ff
          generalize hk_1 : thenK _ _ = kk_1
          have key_1 : ∀ σ, (∃ b_147 : Bool, (p_spec_GoodSpans_j1 end_60 deep_61 x_0 i_0 x141 (p_spec_GoodSpans_l0 N l_0 r_0) b_147 = some q_0) ∧ σ.t 0 = .row false 4 l_0.length (esSpan l_0) ∧ σ.t 3 = .sl 3 [] 0 ((end_60.set i_0 x_0.From).length) ∧ σ.t 4 = .sl 4 [] 0 ((deep_61.set i_0 (IntKind.i64.wrap (x141 + 1))).length) ∧ σ.t 6 = .ptr 6 [] 0 ∧ σ.t 18 = .row false 4 l_0.length (esSpan l_0) ∧ σ.t 19 = I (l_0.length : Int) ∧ σ.t 20 = I (i_0 : Int) ∧ σ.t 126 = B b_147 ∧ σ.m 3 = some (.row true 1 (end_60.set i_0 x_0.From).length (esInt (end_60.set i_0 x_0.From))) ∧ σ.m 4 = some (.row true 1 (deep_61.set i_0 (IntKind.i64.wrap (x141 + 1))).length (esInt (deep_61.set i_0 (IntKind.i64.wrap (x141 + 1))))) ∧ σ.m 6 = some (.box true [S x_0.Name, I x_0.From, I x_0.To, I x_0.Up])) → kk_1 .nm σ := by
            rintro σ ⟨b_147, h_0, g0_j1, g1_j1, g2_j1, g3_j1, g4_j1, g5_j1, g6_j1, g7_j1, g8_j1, g9_j1, g10_j1⟩
            rw [← hk_1]
            rw [p_spec_GoodSpans_j1] at h_0
            by_cases c148 : b_147 = true
            · rw [if_pos c148] at h_0
              have dc148 := c148
              cases h_0
              try dsimp only at h
              have ff := And.intro @dc1 (And.intro @f3a (And.intro @f5a (And.intro @dr_0 (And.intro @w_0 (And.intro @kk0c (And.intro @dc116 (And.intro @dc130 (And.intro @f132c (And.intro @f132d (And.intro @f132g0 (And.intro @w133a (And.intro @dc135 (And.intro @f142c (And.intro @f142d (And.intro @f142g0 (And.intro @f144c (And.intro @f144d (And.intro @f144g0 (And.intro @w145a (And.intro @g0_j1 (And.intro @g1_j1 (And.intro @g2_j1 (And.intro @g3_j1 (And.intro @g4_j1 (And.intro @g5_j1 (And.intro @g6_j1 (And.intro @g7_j1 (And.intro @g8_j1 (And.intro @g9_j1 (And.intro @g10_j1 (And.intro @dc148 p_spec_GoodSpans_tf.down)))))))))))))))))))))))))))))))
              try refine st_by ff ?_
              repeat' (first | exact trivial | refine And.intro sd ?_ | (refine aw_drawn (id := 21) ?_ [[], [0], [], [], [3], [2, 3, 4], [2, 3, 4, 5], [0, 1, 2, 3, 4, 5, 6], [0, 1, 2, 3, 4, 5, 6, 7], [0, 1, 2, 3, 4, 5, 6, 7, 8], [0, 1, 2, 3, 4, 5, 6, 7, 8, 9], [0, 1, 2, 3, 4, 5, 6, 7, 8], [0, 1, 2, 3, 4, 5, 6, 7, 8], [0, 1, 2, 3, 4, 5, 6, 7, 8, 12], [0, 1, 2, 3, 4, 5, 6, 7, 8, 11, 12, 13], [0, 1, 2, 3, 4, 5, 6, 7, 8, 11, 12, 13, 14], [0, 1, 2, 3, 4, 5, 6, 7, 8, 11, 12, 13, 14, 15], [0, 1, 2, 3, 4, 5, 6, 7, 8, 9, 10, 11, 12, 13, 14, 15, 16], [0, 1, 2, 3, 4, 5, 6, 7, 8, 9, 10, 11, 12, 13, 14, 15, 16, 17], [0, 1, 2, 3, 4, 5, 6, 7, 8, 9, 10, 11, 12, 13, 14, 15, 16, 17, 18], [0, 1, 2, 3, 4, 5, 6, 7, 8, 9, 10, 11, 12, 13, 14, 15, 16, 17, 18, 19], [0, 1, 2, 3, 4, 5, 6, 7, 8, 9, 10, 11, 12, 13, 14, 15, 16, 17, 18, 19], [0, 1, 2, 3, 4, 5, 6, 7, 8, 9, 10, 11, 12, 13, 14, 15, 16, 17, 18, 19, 20, 21], [0, 1, 2, 3, 4, 5, 6, 7, 8, 9, 10, 11, 12, 13, 14, 15, 16, 17, 18, 19, 20, 21, 22], [0, 1, 2, 3, 4, 5, 6, 7, 8, 9, 10, 11, 12, 13, 14, 15, 16, 17, 18, 19, 20, 21, 22, 23], [0, 1, 2, 3, 4, 5, 6, 7, 8, 9, 10, 11, 12, 13, 14, 15, 16, 17, 18, 19, 20, 21, 22, 23, 24]] 22 ?_ ?_; (· kernel_rfl); (· kernel_rfl); refine st_by ff ?_))
              try clear ff
              cases h
              exact ret_q1 rfl (p_spec_GoodSpans_rt (And.intro @dc1 (And.intro @f3a (And.intro @f5a (And.intro @dr_0 (And.intro @w_0 (And.intro @kk0c (And.intro @dc116 (And.intro @dc130 (And.intro @f132c (And.intro @f132d (And.intro @f132g0 (And.intro @w133a (And.intro @dc135 (And.intro @f142c (And.intro @f142d (And.intro @f142g0 (And.intro @f144c (And.intro @f144d (And.intro @f144g0 (And.intro @w145a (And.intro @g0_j1 (And.intro @g1_j1 (And.intro @g2_j1 (And.intro @g3_j1 (And.intro @g4_j1 (And.intro @g5_j1 (And.intro @g6_j1 (And.intro @g7_j1 (And.intro @g8_j1 (And.intro @g9_j1 (And.intro @g10_j1 (And.intro @dc148 p_spec_GoodSpans_tf.down)))))))))))))))))))))))))))))))) (And.intro @f3c @f5c))
            rw [if_neg c148] at h_0
            have dc148 := eq_false_of_ne_true c148
            obtain ⟨x149, ex149, h_0⟩ := Option.bind_eq_some_iff.1 h_0
            try dsimp only at h_0
            have f150a := idx_lo ex149
            have f150b := idx_hi ex149
            have f150c : (esInt (end_60.set i_0 x_0.From)).drop (x_0.Up.toNat * 1) = eInt x149 ++ esInt ((end_60.set i_0 x_0.From).drop (x_0.Up.toNat + 1)) := drop_enc (fun _ => rfl) (idx_get ex149)
            have f150d := f150c
            rw [Nat.mul_one] at f150d
            have f150g0 : (esInt (end_60.set i_0 x_0.From)).getD (x_0.Up.toNat * 1) .junk = (eInt x149).getD 0 .junk := getD_enc0 (enc := eInt) (sz := 1) (fun _ => rfl) (idx_get ex149) (by decide)
            rw [Nat.mul_one] at f150g0
            have w151l : x_0.Up.toNat < (end_60.set i_0 x_0.From).length := (List.getElem?_eq_some_iff.1 (idx_get ex149)).1
            have w151a : (esInt (end_60.set i_0 x_0.From)).set (x_0.Up.toNat * 1) (I x_0.To) = esInt ((end_60.set i_0 x_0.From).set x_0.Up.toNat x_0.To) := set_enc0 (enc := eInt) (sz := 1) (fun _ => rfl) (idx_get ex149) (by decide) rfl
            rw [Nat.mul_one] at w151a
            have w151b : ((end_60.set i_0 x_0.From).set x_0.Up.toNat x_0.To).length = (end_60.set i_0 x_0.From).length := List.length_set
            have ff := And.intro @dc1 (And.intro @f3a (And.intro @f5a (And.intro @dr_0 (And.intro @w_0 (And.intro @kk0c (And.intro @dc116 (And.intro @dc130 (And.intro @f132c (And.intro @f132d (And.intro @f132g0 (And.intro @w133a (And.intro @dc135 (And.intro @f142c (And.intro @f142d (And.intro @f142g0 (And.intro @f144c (And.intro @f144d (And.intro @f144g0 (And.intro @w145a (And.intro @g0_j1 (And.intro @g1_j1 (And.intro @g2_j1 (And.intro @g3_j1 (And.intro @g4_j1 (And.intro @g5_j1 (And.intro @g6_j1 (And.intro @g7_j1 (And.intro @g8_j1 (And.intro @g9_j1 (And.intro @g10_j1 (And.intro @dc148 (And.intro @f150c (And.intro @f150d (And.intro @f150g0 (And.intro @w151a p_spec_GoodSpans_tf.down)))))))))))))))))))))))))))))))))))
            try refine st_by ff ?_
            repeat' (first | exact trivial | refine And.intro sd ?_ | (refine aw_drawn (id := 21) ?_ [[], [0], [], [], [3], [2, 3, 4], [2, 3, 4, 5], [0, 1, 2, 3, 4, 5, 6], [0, 1, 2, 3, 4, 5, 6, 7], [0, 1, 2, 3, 4, 5, 6, 7, 8], [0, 1, 2, 3, 4, 5, 6, 7, 8, 9], [0, 1, 2, 3, 4, 5, 6, 7, 8], [0, 1, 2, 3, 4, 5, 6, 7, 8], [0, 1, 2, 3, 4, 5, 6, 7, 8, 12], [0, 1, 2, 3, 4, 5, 6, 7, 8, 11, 12, 13], [0, 1, 2, 3, 4, 5, 6, 7, 8, 11, 12, 13, 14], [0, 1, 2, 3, 4, 5, 6, 7, 8, 11, 12, 13, 14, 15], [0, 1, 2, 3, 4, 5, 6, 7, 8, 9, 10, 11, 12, 13, 14, 15, 16], [0, 1, 2, 3, 4, 5, 6, 7, 8, 9, 10, 11, 12, 13, 14, 15, 16, 17], [0, 1, 2, 3, 4, 5, 6, 7, 8, 9, 10, 11, 12, 13, 14, 15, 16, 17, 18], [0, 1, 2, 3, 4, 5, 6, 7, 8, 9, 10, 11, 12, 13, 14, 15, 16, 17, 18, 19], [0, 1, 2, 3, 4, 5, 6, 7, 8, 9, 10, 11, 12, 13, 14, 15, 16, 17, 18, 19], [0, 1, 2, 3, 4, 5, 6, 7, 8, 9, 10, 11, 12, 13, 14, 15, 16, 17, 18, 19, 20, 21], [0, 1, 2, 3, 4, 5, 6, 7, 8, 9, 10, 11, 12, 13, 14, 15, 16, 17, 18, 19, 20, 21, 22], [0, 1, 2, 3, 4, 5, 6, 7, 8, 9, 10, 11, 12, 13, 14, 15, 16, 17, 18, 19, 20, 21, 22, 23], [0, 1, 2, 3, 4, 5, 6, 7, 8, 9, 10, 11, 12, 13, 14, 15, 16, 17, 18, 19, 20, 21, 22, 23, 24]] 22 ?_ ?_; (· kernel_rfl); (· kernel_rfl); refine st_by ff ?_))
            try clear ff
            refine Back.intro (i_0 + 1, ((end_60.set i_0 x_0.From).set x_0.Up.toNat x_0.To), (deep_61.set i_0 (IntKind.i64.wrap (x141 + 1)))) ?_ ?_
            · rw [hM_0]; show l_0.length - (i_0 + 1) < l_0.length - i_0; omega
            rw [hI_0]
            refine ⟨⟨by show i_0 + 1 ≤ l_0.length; omega, by show p_spec_GoodSpans_l0 N l_0 (l_0.drop (i_0 + 1)) (i_0 + 1) ((end_60.set i_0 x_0.From).set x_0.Up.toNat x_0.To) (deep_61.set i_0 (IntKind.i64.wrap (x141 + 1))) = some q_0; rw [hd_0]; exact h_0⟩, ?_⟩
            exact p_spec_GoodSpans_pv (And.intro @dc1 (And.intro @f3a (And.intro @f5a (And.intro @dr_0 (And.intro @w_0 (And.intro @kk0c (And.intro @dc116 (And.intro @dc130 (And.intro @f132c (And.intro @f132d (And.intro @f132g0 (And.intro @w133a (And.intro @dc135 (And.intro @f142c (And.intro @f142d (And.intro @f142g0 (And.intro @f144c (And.intro @f144d (And.intro @f144g0 (And.intro @w145a (And.intro @g0_j1 (And.intro @g1_j1 (And.intro @g2_j1 (And.intro @g3_j1 (And.intro @g4_j1 (And.intro @g5_j1 (And.intro @g6_j1 (And.intro @g7_j1 (And.intro @g8_j1 (And.intro @g9_j1 (And.intro @g10_j1 (And.intro @dc148 (And.intro @f150c (And.intro @f150d (And.intro @f150g0 (And.intro @w151a p_spec_GoodSpans_tf.down)))))))))))))))))))))))))))))))))))) (And.intro @f3c @f5c)
          have hrt_1 := fun σ : ASt => congrFun (congrFun hk_1.symm AX.rt) σ
          have hex_1 := fun (i : Nat) (σ : ASt) => congrFun (congrFun hk_1.symm (AX.ex i)) σ
          obtain ⟨x153, ex153, h_0⟩ := Option.bind_eq_some_iff.1 h_0
          try dsimp only at h_0
          have f154a := idx_lo ex153
          have f154b := idx_hi ex153
          have f154c : (esInt (end_60.set i_0 x_0.From)).drop (x_0.Up.toNat * 1) = eInt x153 ++ esInt ((end_60.set i_0 x_0.From).drop (x_0.Up.toNat + 1)) := drop_enc (fun _ => rfl) (idx_get ex153)
          have f154d := f154c
          rw [Nat.mul_one] at f154d
          have f154g0 : (esInt (end_60.set i_0 x_0.From)).getD (x_0.Up.toNat * 1) .junk = (eInt x153).getD 0 .junk := getD_enc0 (enc := eInt) (sz := 1) (fun _ => rfl) (idx_get ex153) (by decide)
          rw [Nat.mul_one] at f154g0
          by_cases c155 : x_0.From < x153
          · rw [if_pos c155] at h_0
            have dc155 := decide_eq_true c155
            have ff := And.intro @dc1 (And.intro @f3a (And.intro @f5a (And.intro @dr_0 (And.intro @w_0 (And.intro @kk0c (And.intro @dc116 (And.intro @g0_1a (And.intro @g1_1a (And.intro @g2_1a (And.intro @g3_1a (And.intro @g4_1a (And.intro @g5_1a (And.intro @g6_1a (And.intro @g7_1a (And.intro @g8_1a (And.intro @g9_1a (And.intro @g10_1a (And.intro @g11_1a (And.intro @dc130 (And.intro @f132c (And.intro @f132d (And.intro @f132g0 (And.intro @w133a (And.intro @dc135 (And.intro @f142c (And.intro @f142d (And.intro @f142g0 (And.intro @f144c (And.intro @f144d (And.intro @f144g0 (And.intro @w145a (And.intro @hrt_1 (And.intro @hex_1 (And.intro @f154c (And.intro @f154d (And.intro @f154g0 (And.intro @dc155 p_spec_GoodSpans_tf.down)))))))))))))))))))))))))))))))))))))
            try refine st_by ff ?_
            repeat' (first | exact trivial | refine And.intro sd ?_ | (refine aw_drawn (id := 21) ?_ [[], [0], [], [], [3], [2, 3, 4], [2, 3, 4, 5], [0, 1, 2, 3, 4, 5, 6], [0, 1, 2, 3, 4, 5, 6, 7], [0, 1, 2, 3, 4, 5, 6, 7, 8], [0, 1, 2, 3, 4, 5, 6, 7, 8, 9], [0, 1, 2, 3, 4, 5, 6, 7, 8], [0, 1, 2, 3, 4, 5, 6, 7, 8], [0, 1, 2, 3, 4, 5, 6, 7, 8, 12], [0, 1, 2, 3, 4, 5, 6, 7, 8, 11, 12, 13], [0, 1, 2, 3, 4, 5, 6, 7, 8, 11, 12, 13, 14], [0, 1, 2, 3, 4, 5, 6, 7, 8, 11, 12, 13, 14, 15], [0, 1, 2, 3, 4, 5, 6, 7, 8, 9, 10, 11, 12, 13, 14, 15, 16], [0, 1, 2, 3, 4, 5, 6, 7, 8, 9, 10, 11, 12, 13, 14, 15, 16, 17], [0, 1, 2, 3, 4, 5, 6, 7, 8, 9, 10, 11, 12, 13, 14, 15, 16, 17, 18], [0, 1, 2, 3, 4, 5, 6, 7, 8, 9, 10, 11, 12, 13, 14, 15, 16, 17, 18, 19], [0, 1, 2, 3, 4, 5, 6, 7, 8, 9, 10, 11, 12, 13, 14, 15, 16, 17, 18, 19], [0, 1, 2, 3, 4, 5, 6, 7, 8, 9, 10, 11, 12, 13, 14, 15, 16, 17, 18, 19, 20, 21], [0, 1, 2, 3, 4, 5, 6, 7, 8, 9, 10, 11, 12, 13, 14, 15, 16, 17, 18, 19, 20, 21, 22], [0, 1, 2, 3, 4, 5, 6, 7, 8, 9, 10, 11, 12, 13, 14, 15, 16, 17, 18, 19, 20, 21, 22, 23], [0, 1, 2, 3, 4, 5, 6, 7, 8, 9, 10, 11, 12, 13, 14, 15, 16, 17, 18, 19, 20, 21, 22, 23, 24]] 22 ?_ ?_; (· kernel_rfl); (· kernel_rfl); refine st_by ff ?_))
            try clear ff
            refine key_1 _ ?_
            refine ⟨true, h_0, ?_⟩
            exact p_spec_GoodSpans_pv (And.intro @dc1 (And.intro @f3a (And.intro @f5a (And.intro @dr_0 (And.intro @w_0 (And.intro @kk0c (And.intro @dc116 (And.intro @g0_1a (And.intro @g1_1a (And.intro @g2_1a (And.intro @g3_1a (And.intro @g4_1a (And.intro @g5_1a (And.intro @g6_1a (And.intro @g7_1a (And.intro @g8_1a (And.intro @g9_1a (And.intro @g10_1a (And.intro @g11_1a (And.intro @dc130 (And.intro @f132c (And.intro @f132d (And.intro @f132g0 (And.intro @w133a (And.intro @dc135 (And.intro @f142c (And.intro @f142d (And.intro @f142g0 (And.intro @f144c (And.intro @f144d (And.intro @f144g0 (And.intro @w145a (And.intro @hrt_1 (And.intro @hex_1 (And.intro @f154c (And.intro @f154d (And.intro @f154g0 (And.intro @dc155 p_spec_GoodSpans_tf.down)))))))))))))))))))))))))))))))))))))) (And.intro @f3c @f5c)
          rw [if_neg c155] at h_0
          have dc155 := decide_eq_false c155
          obtain ⟨x156, ex156, h_0⟩ := Option.bind_eq_some_iff.1 h_0
          try dsimp only at h_0
          have f157a := idx_lo ex156
          have f157b := idx_hi ex156
          have f157c : (esSpan l_0).drop (x_0.Up.toNat * 4) = eSpan x156 ++ esSpan (l_0.drop (x_0.Up.toNat + 1)) := drop_enc (fun _ => rfl) (idx_get ex156)
          by_cases c158 : x_0.To > x156.To
          · rw [if_pos c158] at h_0
            have dc158 := decide_eq_true c158
            have ff := And.intro @dc1 (And.intro @f3a (And.intro @f5a (And.intro @dr_0 (And.intro @w_0 (And.intro @kk0c (And.intro @dc116 (And.intro @g0_1a (And.intro @g1_1a (And.intro @g2_1a (And.intro @g3_1a (And.intro @g4_1a (And.intro @g5_1a (And.intro @g6_1a (And.intro @g7_1a (And.intro @g8_1a (And.intro @g9_1a (And.intro @g10_1a (And.intro @g11_1a (And.intro @dc130 (And.intro @f132c (And.intro @f132d (And.intro @f132g0 (And.intro @w133a (And.intro @dc135 (And.intro @f142c (And.intro @f142d (And.intro @f142g0 (And.intro @f144c (And.intro @f144d (And.intro @f144g0 (And.intro @w145a (And.intro @hrt_1 (And.intro @hex_1 (And.intro @f154c (And.intro @f154d (And.intro @f154g0 (And.intro @dc155 (And.intro @f157c (And.intro @dc158 p_spec_GoodSpans_tf.down)))))))))))))))))))))))))))))))))))))))
            try refine st_by ff ?_
            repeat' (first | exact trivial | refine And.intro sd ?_ | (refine aw_drawn (id := 21) ?_ [[], [0], [], [], [3], [2, 3, 4], [2, 3, 4, 5], [0, 1, 2, 3, 4, 5, 6], [0, 1, 2, 3, 4, 5, 6, 7], [0, 1, 2, 3, 4, 5, 6, 7, 8], [0, 1, 2, 3, 4, 5, 6, 7, 8, 9], [0, 1, 2, 3, 4, 5, 6, 7, 8], [0, 1, 2, 3, 4, 5, 6, 7, 8], [0, 1, 2, 3, 4, 5, 6, 7, 8, 12], [0, 1, 2, 3, 4, 5, 6, 7, 8, 11, 12, 13], [0, 1, 2, 3, 4, 5, 6, 7, 8, 11, 12, 13, 14], [0, 1, 2, 3, 4, 5, 6, 7, 8, 11, 12, 13, 14, 15], [0, 1, 2, 3, 4, 5, 6, 7, 8, 9, 10, 11, 12, 13, 14, 15, 16], [0, 1, 2, 3, 4, 5, 6, 7, 8, 9, 10, 11, 12, 13, 14, 15, 16, 17], [0, 1, 2, 3, 4, 5, 6, 7, 8, 9, 10, 11, 12, 13, 14, 15, 16, 17, 18], [0, 1, 2, 3, 4, 5, 6, 7, 8, 9, 10, 11, 12, 13, 14, 15, 16, 17, 18, 19], [0, 1, 2, 3, 4, 5, 6, 7, 8, 9, 10, 11, 12, 13, 14, 15, 16, 17, 18, 19], [0, 1, 2, 3, 4, 5, 6, 7, 8, 9, 10, 11, 12, 13, 14, 15, 16, 17, 18, 19, 20, 21], [0, 1, 2, 3, 4, 5, 6, 7, 8, 9, 10, 11, 12, 13, 14, 15, 16, 17, 18, 19, 20, 21, 22], [0, 1, 2, 3, 4, 5, 6, 7, 8, 9, 10, 11, 12, 13, 14, 15, 16, 17, 18, 19, 20, 21, 22, 23], [0, 1, 2, 3, 4, 5, 6, 7, 8, 9, 10, 11, 12, 13, 14, 15, 16, 17, 18, 19, 20, 21, 22, 23, 24]] 22 ?_ ?_; (· kernel_rfl); (· kernel_rfl); refine st_by ff ?_))
            try clear ff
            refine key_1 _ ?_
            refine ⟨true, h_0, ?_⟩
            exact p_spec_GoodSpans_pv (And.intro @dc1 (And.intro @f3a (And.intro @f5a (And.intro @dr_0 (And.intro @w_0 (And.intro @kk0c (And.intro @dc116 (And.intro @g0_1a (And.intro @g1_1a (And.intro @g2_1a (And.intro @g3_1a (And.intro @g4_1a (And.intro @g5_1a (And.intro @g6_1a (And.intro @g7_1a (And.intro @g8_1a (And.intro @g9_1a (And.intro @g10_1a (And.intro @g11_1a (And.intro @dc130 (And.intro @f132c (And.intro @f132d (And.intro @f132g0 (And.intro @w133a (And.intro @dc135 (And.intro @f142c (And.intro @f142d (And.intro @f142g0 (And.intro @f144c (And.intro @f144d (And.intro @f144g0 (And.intro @w145a (And.intro @hrt_1 (And.intro @hex_1 (And.intro @f154c (And.intro @f154d (And.intro @f154g0 (And.intro @dc155 (And.intro @f157c (And.intro @dc158 p_spec_GoodSpans_tf.down)))))))))))))))))))))))))))))))))))))))) (And.intro @f3c @f5c)
          rw [if_neg c158] at h_0
          have dc158 := decide_eq_false c158
          obtain ⟨x159, ex159, h_0⟩ := Option.bind_eq_some_iff.1 h_0
          try dsimp only at h_0
          have f160a := idx_lo ex159
          have f160b := idx_hi ex159
          have f160c : (esInt (deep_61.set i_0 (IntKind.i64.wrap (x141 + 1)))).drop (i_0 * 1) = eInt x159 ++ esInt ((deep_61.set i_0 (IntKind.i64.wrap (x141 + 1))).drop (i_0 + 1)) := drop_enc (fun _ => rfl) (idx_get ex159)
          have f160d := f160c
          rw [Nat.mul_one] at f160d
          have f160g0 : (esInt (deep_61.set i_0 (IntKind.i64.wrap (x141 + 1)))).getD (i_0 * 1) .junk = (eInt x159).getD 0 .junk := getD_enc0 (enc := eInt) (sz := 1) (fun _ => rfl) (idx_get ex159) (by decide)
          rw [Nat.mul_one] at f160g0
          have ff := And.intro @dc1 (And.intro @f3a (And.intro @f5a (And.intro @dr_0 (And.intro @w_0 (And.intro @kk0c (And.intro @dc116 (And.intro @g0_1a (And.intro @g1_1a (And.intro @g2_1a (And.intro @g3_1a (And.intro @g4_1a (And.intro @g5_1a (And.intro @g6_1a (And.intro @g7_1a (And.intro @g8_1a (And.intro @g9_1a (And.intro @g10_1a (And.intro @g11_1a (And.intro @dc130 (And.intro @f132c (And.intro @f132d (And.intro @f132g0 (And.intro @w133a (And.intro @dc135 (And.intro @f142c (And.intro @f142d (And.intro @f142g0 (And.intro @f144c (And.intro @f144d (And.intro @f144g0 (And.intro @w145a (And.intro @hrt_1 (And.intro @hex_1 (And.intro @f154c (And.intro @f154d (And.intro @f154g0 (And.intro @dc155 (And.intro @f157c (And.intro @dc158 (And.intro @f160c (And.intro @f160d (And.intro @f160g0 p_spec_GoodSpans_tf.down))))))))))))))))))))))))))))))))))))))))))
          try refine st_by ff ?_
          repeat' (first | exact trivial | refine And.intro sd ?_ | (refine aw_drawn (id := 21) ?_ [[], [0], [], [], [3], [2, 3, 4], [2, 3, 4, 5], [0, 1, 2, 3, 4, 5, 6], [0, 1, 2, 3, 4, 5, 6, 7], [0, 1, 2, 3, 4, 5, 6, 7, 8], [0, 1, 2, 3, 4, 5, 6, 7, 8, 9], [0, 1, 2, 3, 4, 5, 6, 7, 8], [0, 1, 2, 3, 4, 5, 6, 7, 8], [0, 1, 2, 3, 4, 5, 6, 7, 8, 12], [0, 1, 2, 3, 4, 5, 6, 7, 8, 11, 12, 13], [0, 1, 2, 3, 4, 5, 6, 7, 8, 11, 12, 13, 14], [0, 1, 2, 3, 4, 5, 6, 7, 8, 11, 12, 13, 14, 15], [0, 1, 2, 3, 4, 5, 6, 7, 8, 9, 10, 11, 12, 13, 14, 15, 16], [0, 1, 2, 3, 4, 5, 6, 7, 8, 9, 10, 11, 12, 13, 14, 15, 16, 17], [0, 1, 2, 3, 4, 5, 6, 7, 8, 9, 10, 11, 12, 13, 14, 15, 16, 17, 18], [0, 1, 2, 3, 4, 5, 6, 7, 8, 9, 10, 11, 12, 13, 14, 15, 16, 17, 18, 19], [0, 1, 2, 3, 4, 5, 6, 7, 8, 9, 10, 11, 12, 13, 14, 15, 16, 17, 18, 19], [0, 1, 2, 3, 4, 5, 6, 7, 8, 9, 10, 11, 12, 13, 14, 15, 16, 17, 18, 19, 20, 21], [0, 1, 2, 3, 4, 5, 6, 7, 8, 9, 10, 11, 12, 13, 14, 15, 16, 17, 18, 19, 20, 21, 22], [0, 1, 2, 3, 4, 5, 6, 7, 8, 9, 10, 11, 12, 13, 14, 15, 16, 17, 18, 19, 20, 21, 22, 23], [0, 1, 2, 3, 4, 5, 6, 7, 8, 9, 10, 11, 12, 13, 14, 15, 16, 17, 18, 19, 20, 21, 22, 23, 24]] 22 ?_ ?_; (· kernel_rfl); (· kernel_rfl); refine st_by ff ?_))
          try clear ff
          refine key_1 _ ?_
          refine ⟨decide (x159 ≥ 12), h_0, ?_⟩
          exact p_spec_GoodSpans_pv (And.intro @dc1 (And.intro @f3a (And.intro @f5a (And.intro @dr_0 (And.intro @w_0 (And.intro @kk0c (And.intro @dc116 (And.intro @g0_1a (And.intro @g1_1a (And.intro @g2_1a (And.intro @g3_1a (And.intro @g4_1a (And.intro @g5_1a (And.intro @g6_1a (And.intro @g7_1a (And.intro @g8_1a (And.intro @g9_1a (And.intro @g10_1a (And.intro @g11_1a (And.intro @dc130 (And.intro @f132c (And.intro @f132d (And.intro @f132g0 (And.intro @w133a (And.intro @dc135 (And.intro @f142c (And.intro @f142d (And.intro @f142g0 (And.intro @f144c (And.intro @f144d (And.intro @f144g0 (And.intro @w145a (And.intro @hrt_1 (And.intro @hex_1 (And.intro @f154c (And.intro @f154d (And.intro @f154g0 (And.intro @dc155 (And.intro @f157c (And.intro @dc158 (And.intro @f160c (And.intro @f160d (And.intro @f160g0 p_spec_GoodSpans_tf.down))))))))))))))))))))))))))))))))))))))))))) (And.intro @f3c @f5c)
      have hrt_0 := fun σ : ASt => congrFun (congrFun hk_0.symm AX.rt) σ
      have hex_0 := fun (i : Nat) (σ : ASt) => congrFun (congrFun hk_0.symm (AX.ex i)) σ
      by_cases c161 : x_0.Name.size ≤ 9223372036854775807
      case neg => rw [if_neg c161] at h_0; cases h_0
      rw [if_pos c161] at h_0
      have ff := And.intro @dc1 (And.intro @f3a (And.intro @f5a (And.intro @dr_0 (And.intro @w_0 (And.intro @g0_0 (And.intro @g1_0 (And.intro @g2_0 (And.intro @g3_0 (And.intro @g4_0 (And.intro @g5_0 (And.intro @g6_0 (And.intro @g7_0 (And.intro @kk0c (And.intro @hrt_0 (And.intro @hex_0 p_spec_GoodSpans_tf.down)))))))))))))))
      try refine st_by ff ?_
      repeat' (first | exact trivial | refine And.intro sd ?_)
      first
      | (refine cq_call (specGoodName_does x_0.Name (by first | assumption | omega)) (hf_by ff) kr ⟨p_spec_GoodSpans_sa ff (And.intro @f3c @f5c), ?_⟩; clear ff)
      | (refine cq_dcall (specGoodName_does x_0.Name (by first | assumption | omega)) (hf_by ff) kr ⟨p_spec_GoodSpans_sa ff (And.intro @f3c @f5c), ?_⟩; clear ff)
      by_cases c162 : (goodName x_0.Name) = true
      case neg =>
       rw [if_neg c162] at h_0
       have dc162 := eq_false_of_ne_true c162
       have ff := And.intro @dc1 (And.intro @f3a (And.intro @f5a (And.intro @dr_0 (And.intro @w_0 (And.intro @g0_0 (And.intro @g1_0 (And.intro @g2_0 (And.intro @g3_0 (And.intro @g4_0 (And.intro @g5_0 (And.intro @g6_0 (And.intro @g7_0 (And.intro @kk0c (And.intro @hrt_0 (And.intro @hex_0 (And.intro @dc162 p_spec_GoodSpans_tf.down))))))))))))))))
       try refine st_by ff ?_
       repeat' (first | exact trivial | refine And.intro sd ?_)
       try clear ff
       refine key_0 _ ?_
       refine ⟨true, h_0, ?_⟩
       exact p_spec_GoodSpans_pv (And.intro @dc1 (And.intro @f3a (And.intro @f5a (And.intro @dr_0 (And.intro @w_0 (And.intro @g0_0 (And.intro @g1_0 (And.intro @g2_0 (And.intro @g3_0 (And.intro @g4_0 (And.intro @g5_0 (And.intro @g6_0 (And.intro @g7_0 (And.intro @kk0c (And.intro @hrt_0 (And.intro @hex_0 (And.intro @dc162 p_spec_GoodSpans_tf.down))))))))))))))))) (And.intro @f3c @f5c)
      rw [if_pos c162] at h_0
      have dc162 := c162
      have ff := And.intro @dc1 (And.intro @f3a (And.intro @f5a (And.intro @dr_0 (And.intro @w_0 (And.intro @g0_0 (And.intro @g1_0 (And.intro @g2_0 (And.intro @g3_0 (And.intro @g4_0 (And.intro @g5_0 (And.intro @g6_0 (And.intro @g7_0 (And.intro @kk0c (And.intro @hrt_0 (And.intro @hex_0 (And.intro @dc162 p_spec_GoodSpans_tf.down))))))))))))))))
      try refine st_by ff ?_
      repeat' (first | exact trivial | refine And.intro sd ?_)
      first
      | (refine cq_call (l1In_does x_0.From 0 100000) (hf_by ff) kr ⟨p_spec_GoodSpans_sa ff (And.intro @f3c @f5c), ?_⟩; clear ff)
      | (refine cq_dcall (l1In_does x_0.From 0 100000) (hf_by ff) kr ⟨p_spec_GoodSpans_sa ff (And.intro @f3c @f5c), ?_⟩; clear ff)
      by_cases c163 : (rng x_0.From 0 100000) = true
      case neg =>
       rw [if_neg c163] at h_0
       have dc163 := eq_false_of_ne_true c163
       have ff := And.intro @dc1 (And.intro @f3a (And.intro @f5a (And.intro @dr_0 (And.intro @w_0 (And.intro @g0_0 (And.intro @g1_0 (And.intro @g2_0 (And.intro @g3_0 (And.intro @g4_0 (And.intro @g5_0 (And.intro @g6_0 (And.intro @g7_0 (And.intro @kk0c (And.intro @hrt_0 (And.intro @hex_0 (And.intro @dc162 (And.intro @dc163 p_spec_GoodSpans_tf.down)))))))))))))))))
       try refine st_by ff ?_
       repeat' (first | exact trivial | refine And.intro sd ?_)
       try clear ff
       refine key_0 _ ?_
       refine ⟨true, h_0, ?_⟩
       exact p_spec_GoodSpans_pv (And.intro @dc1 (And.intro @f3a (And.intro @f5a (And.intro @dr_0 (And.intro @w_0 (And.intro @g0_0 (And.intro @g1_0 (And.intro @g2_0 (And.intro @g3_0 (And.intro @g4_0 (And.intro @g5_0 (And.intro @g6_0 (And.intro @g7_0 (And.intro @kk0c (And.intro @hrt_0 (And.intro @hex_0 (And.intro @dc162 (And.intro @dc163 p_spec_GoodSpans_tf.down)))))))))))))))))) (And.intro @f3c @f5c)
      rw [if_pos c163] at h_0
      have dc163 := c163
      have ff := And.intro @dc1 (And.intro @f3a (And.intro @f5a (And.intro @dr_0 (And.intro @w_0 (And.intro @g0_0 (And.intro @g1_0 (And.intro @g2_0 (And.intro @g3_0 (And.intro @g4_0 (And.intro @g5_0 (And.intro @g6_0 (And.intro @g7_0 (And.intro @kk0c (And.intro @hrt_0 (And.intro @hex_0 (And.intro @dc162 (And.intro @dc163 p_spec_GoodSpans_tf.down)))))))))))))))))
      try refine st_by ff ?_
      repeat' (first | exact trivial | refine And.intro sd ?_)
      first
      | (refine cq_call (l1In_does x_0.To x_0.From 100000) (hf_by ff) kr ⟨p_spec_GoodSpans_sa ff (And.intro @f3c @f5c), ?_⟩; clear ff)
      | (refine cq_dcall (l1In_does x_0.To x_0.From 100000) (hf_by ff) kr ⟨p_spec_GoodSpans_sa ff (And.intro @f3c @f5c), ?_⟩; clear ff)
      by_cases c164 : (rng x_0.To x_0.From 100000) = true
      case neg =>
       rw [if_neg c164] at h_0
       have dc164 := eq_false_of_ne_true c164
       have ff := And.intro @dc1 (And.intro @f3a (And.intro @f5a (And.intro @dr_0 (And.intro @w_0 (And.intro @g0_0 (And.intro @g1_0 (And.intro @g2_0 (And.intro @g3_0 (And.intro @g4_0 (And.intro @g5_0 (And.intro @g6_0 (And.intro @g7_0 (And.intro @kk0c (And.intro @hrt_0 (And.intro @hex_0 (And.intro @dc162 (And.intro @dc163 (And.intro @dc164 p_spec_GoodSpans_tf.down))))))))))))))))))
       try refine st_by ff ?_
       repeat' (first | exact trivial | refine And.intro sd ?_)
       try clear ff
       refine key_0 _ ?_
       refine ⟨true, h_0, ?_⟩
       exact p_spec_GoodSpans_pv (And.intro @dc1 (And.intro @f3a (And.intro @f5a (And.intro @dr_0 (And.intro @w_0 (And.intro @g0_0 (And.intro @g1_0 (And.intro @g2_0 (And.intro @g3_0 (And.intro @g4_0 (And.intro @g5_0 (And.intro @g6_0 (And.intro @g7_0 (And.intro @kk0c (And.intro @hrt_0 (And.intro @hex_0 (And.intro @dc162 (And.intro @dc163 (And.intro @dc164 p_spec_GoodSpans_tf.down))))))))))))))))))) (And.intro @f3c @f5c)
      rw [if_pos c164] at h_0
      have dc164 := c164
      have ff := And.intro @dc1 (And.intro @f3a (And.intro @f5a (And.intro @dr_0 (And.intro @w_0 (And.intro @g0_0 (And.intro @g1_0 (And.intro @g2_0 (And.intro @g3_0 (And.intro @g4_0 (And.intro @g5_0 (And.intro @g6_0 (And.intro @g7_0 (And.intro @kk0c (And.intro @hrt_0 (And.intro @hex_0 (And.intro @dc162 (And.intro @dc163 (And.intro @dc164 p_spec_GoodSpans_tf.down))))))))))))))))))
      try refine st_by ff ?_
      repeat' (first | exact trivial | refine And.intro sd ?_)
      first
      | (refine cq_call (l1In_does x_0.Up (-1) (IntKind.i64.wrap ((i_0 : Int) - 1))) (hf_by ff) kr ⟨p_spec_GoodSpans_sa ff (And.intro @f3c @f5c), ?_⟩; clear ff)
      | (refine cq_dcall (l1In_does x_0.Up (-1) (IntKind.i64.wrap ((i_0 : Int) - 1))) (hf_by ff) kr ⟨p_spec_GoodSpans_sa ff (And.intro @f3c @f5c), ?_⟩; clear ff)
      have ff := And.intro @dc1 (And.intro @f3a (And.intro @f5a (And.intro @dr_0 (And.intro @w_0 (And.intro @g0_0 (And.intro @g1_0 (And.intro @g2_0 (And.intro @g3_0 (And.intro @g4_0 (And.intro @g5_0 (And.intro @g6_0 (And.intro @g7_0 (And.intro @kk0c (And.intro @hrt_0 (And.intro @hex_0 (And.intro @dc162 (And.intro @dc163 (And.intro @dc164 p_spec_GoodSpans_tf.down))))))))))))))))))
      try refine st_by ff ?_
      repeat' (first | exact trivial | refine And.intro sd ?_)
      try clear ff
      refine key_0 _ ?_
      refine ⟨!(rng x_0.Up (-1) (IntKind.i64.wrap ((i_0 : Int) - 1))), h_0, ?_⟩
      exact p_spec_GoodSpans_pv (And.intro @dc1 (And.intro @f3a (And.intro @f5a (And.intro @dr_0 (And.intro @w_0 (And.intro @g0_0 (And.intro @g1_0 (And.intro @g2_0 (And.intro @g3_0 (And.intro @g4_0 (And.intro @g5_0 (And.intro @g6_0 (And.intro @g7_0 (And.intro @kk0c (And.intro @hrt_0 (And.intro @hex_0 (And.intro @dc162 (And.intro @dc163 (And.intro @dc164 p_spec_GoodSpans_tf.down))))))))))))))))))) (And.intro @f3c @f5c)
  · rintro σ hg_0
    rw [hJ_0] at hg_0
    obtain ⟨end_60, deep_61, hj_0, _⟩ := hg_0
    cases hj_0
    try dsimp only at h
    have ff := And.intro @dc1 (And.intro @f3a (And.intro @f5a p_spec_GoodSpans_tf.down))
    try refine st_by ff ?_
    repeat' (first | exact trivial | refine And.intro sd ?_)
    try clear ff
    cases h
    exact ret_q1 rfl (p_spec_GoodSpans_rt (And.intro @dc1 (And.intro @f3a (And.intro @f5a p_spec_GoodSpans_tf.down))) (And.intro @f3c @f5c))
/-! impl.above -/
def p_impl_above_l0 (l_0 : List GSpan) : Nat → Int → (List Int) → Option (Int × (List Int))
  | 0, _, _ => none
  | n_0 + 1, at_4, out_5 => (if at_4 ≥ 0 then (if out_5.length < 4294967296 then ((idx l_0 at_4).bind fun x14 => p_impl_above_l0 l_0 n_0 x14.Up (out_5 ++ [at_4])) else none) else some (at_4, out_5))
theorem p_impl_above_pv {F C A : Prop} (hF : F) (hC : C) (h : F → C → A := by intro hF hC; first | exact cl_by hF | (refine st_by hF ?_; repeat' (first | exact trivial | apply And.intro); all_goals (clear hF; first | rfl | (simp only [hC, List.length_append, List.length_cons, List.length_nil, List.append_nil, List.nil_append, List.cons_append, List.length_set, List.append_assoc, Nat.zero_add, List.length_replicate, esInt_app, esInt_cons, esInt_nil, eInt_eq, esSpan_app, esSpan_cons, esSpan_nil, eSpan_eq]; done) | (simp [hC, List.length_append, List.length_cons, List.length_nil, List.append_nil, List.nil_append, List.cons_append, List.length_set, List.append_assoc, Nat.zero_add, List.length_replicate, esInt_app, esInt_cons, esInt_nil, eInt_eq, esSpan_app, esSpan_cons, esSpan_nil, eSpan_eq]; done) | omega))) : A := h hF hC
theorem p_impl_above_sa {F C A : Prop} (hF : F) (hC : C) (h : F → C → A := by intro hF hC; first | exact ca_by hF | (refine sa_by hF ?_; repeat' (first | exact trivial | apply And.intro); all_goals (clear hF; first | rfl | (simp only [hC, List.length_append, List.length_cons, List.length_nil, List.append_nil, List.nil_append, List.cons_append, List.length_set, List.append_assoc, Nat.zero_add, List.length_replicate, esInt_app, esInt_cons, esInt_nil, eInt_eq, esSpan_app, esSpan_cons, esSpan_nil, eSpan_eq]; done) | (simp [hC, List.length_append, List.length_cons, List.length_nil, List.append_nil, List.nil_append, List.cons_append, List.length_set, List.append_assoc, Nat.zero_add, List.length_replicate, esInt_app, esInt_cons, esInt_nil, eInt_eq, esSpan_app, esSpan_cons, esSpan_nil, eSpan_eq]; done) | omega))) : A := h hF hC
theorem p_impl_above_rt {F C A : Prop} (hF : F) (hC : C) (h : F → C → A := by intro hF hC; first | (refine sr_by hF ?_; repeat' (first | exact trivial | apply And.intro); all_goals (clear hF; first | rfl | (simp only [hC, List.length_append, List.length_cons, List.length_nil, List.append_nil, List.nil_append, List.cons_append, List.length_set, List.append_assoc, Nat.zero_add, List.length_replicate, esInt_app, esInt_cons, esInt_nil, eInt_eq, esSpan_app, esSpan_cons, esSpan_nil, eSpan_eq]; done) | (simp [hC, List.length_append, List.length_cons, List.length_nil, List.append_nil, List.nil_append, List.cons_append, List.length_set, List.append_assoc, Nat.zero_add, List.length_replicate, esInt_app, esInt_cons, esInt_nil, eInt_eq, esSpan_app, esSpan_cons, esSpan_nil, eSpan_eq]; done) | omega)) | (first | rfl | (simp only [hC, List.length_append, List.length_cons, List.length_nil, List.append_nil, List.nil_append, List.cons_append, List.length_set, List.append_assoc, Nat.zero_add, List.length_replicate, esInt_app, esInt_cons, esInt_nil, eInt_eq, esSpan_app, esSpan_cons, esSpan_nil, eSpan_eq]; done) | (simp [hC, List.length_append, List.length_cons, List.length_nil, List.append_nil, List.nil_append, List.cons_append, List.length_set, List.append_assoc, Nat.zero_add, List.length_replicate, esInt_app, esInt_cons, esInt_nil, eInt_eq, esSpan_app, esSpan_cons, esSpan_nil, eSpan_eq]; done) | omega)) : A := h hF hC
def p_impl_above_tf := PLift.up (And.intro @eInt_eq (And.intro @esInt_len (And.intro @esInt_nil (And.intro @eSpan_eq (And.intro @esSpan_len (And.intro @esSpan_nil (And.intro @esInt_share (And.intro @esInt_pure (And.intro @esSpan_share (And.intro @esSpan_pure (And.intro @str_beq (And.intro @Ty.sl38 (And.intro @Ty.slz38 (And.intro @Ty.ldA3 (And.intro @Ty.ldS3 (And.intro @Ty.sz3 (And.intro @Ty.szn3 (And.intro @Ty.fo91_3 (And.intro @Ty.fk91_3 (And.intro @Ty.fs91_3 (And.intro @Ty.fn91_3 (And.intro @Ty.sl22 (And.intro @Ty.slz22 (And.intro @Ty.zok22 (And.intro @Ty.by22 (And.intro @Ty.zs22 @trivial))))))))))))))))))))))))))
def p_impl_above (N : Nat) (l_0 : List GSpan) (at_1 : Int) : Option (List Int) := ((p_impl_above_l0 l_0 N at_1 ([] : List Int)).bind fun q_0 => match q_0 with | (at_4, out_5) => some out_5)
theorem p_impl_above_does (N : Nat) (l_0 : List GSpan) (at_1 : Int) (r : List Int) (h : p_impl_above N l_0 at_1 = some r) : Does Try.prog 79 [.row false 4 l_0.length (esSpan l_0), I at_1] (.row true 1 r.length (esInt r)) := by
  rw [p_impl_above] at h
  refine Does.bnd (fun hb => ?_)
  have hb2 : l_0.length ≤ 9223372036854775807 := by simpa [AV.fitNs, AV.fitN] using hb
  have hl0 := hb2
  refine Does.walk (nt := 19) Try.func79 rfl rfl (by simp) (by decide) rfl (fun G0 X w0 pv => ?_)
  obtain ⟨q_0, eq_0, h⟩ := Option.bind_eq_some_iff.1 h
  have ff := p_impl_above_tf.down
  try refine st_by ff ?_
  repeat' (first | exact trivial | refine And.intro sd ?_)
  try clear ff
  obtain ⟨I_0, hI_0⟩ : ∃ I_ : (Nat × Int × (List Int)) → ASt → Prop, I_ = (fun (a : Nat × Int × (List Int)) σ => match a with | (n_0, at_4, out_5) => (p_impl_above_l0 l_0 n_0 at_4 out_5 = some q_0) ∧ σ.t 0 = .row false 4 l_0.length (esSpan l_0) ∧ σ.t 1 = I at_4 ∧ σ.t 5 = .sl 5 [] 0 out_5.length ∧ σ.m 5 = some (.row true 1 out_5.length (esInt out_5))) := ⟨_, rfl⟩
  obtain ⟨M_0, hM_0⟩ : ∃ M_ : (Nat × Int × (List Int)) → Nat, M_ = (fun (a : Nat × Int × (List Int)) => match a with | (n_0, at_4, out_5) => n_0) := ⟨_, rfl⟩
  obtain ⟨J_0, hJ_0⟩ : ∃ J_ : ASt → Prop, J_ = (fun σ => ∃ at_4 : Int, ∃ out_5 : List Int, (some (at_4, out_5) = some q_0) ∧ σ.t 5 = .sl 5 [] 0 out_5.length ∧ σ.m 5 = some (.row true 1 out_5.length (esInt out_5))) := ⟨_, rfl⟩
  refine aw_loopC (id := 0) I_0 M_0 J_0 (N, at_1, ([] : List Int)) ?_ ?_ ?_
  · rw [hI_0]
    refine ⟨eq_0, ?_⟩
    exact p_impl_above_pv p_impl_above_tf.down trivial
  · rintro ⟨n_0, at_4, out_5⟩ σ hg_0
    rw [hI_0] at hg_0
    obtain ⟨h_0, g0_0, g1_0, g2_0, g3_0⟩ := hg_0
    cases n_0 with
    | zero => rw [p_impl_above_l0] at h_0; cases h_0
    | succ n_0 =>
      rw [p_impl_above_l0] at h_0
      by_cases c11 : at_4 ≥ 0
      case neg =>
       rw [if_neg c11] at h_0
       have dc11 := decide_eq_false c11
       have ff := And.intro @g0_0 (And.intro @g1_0 (And.intro @g2_0 (And.intro @g3_0 (And.intro @dc11 p_impl_above_tf.down))))
       try refine st_by ff ?_
       repeat' (first | exact trivial | refine And.intro sd ?_)
       try clear ff
       refine JW.intro ?_
       rw [hJ_0]
       refine ⟨at_4, out_5, h_0, ?_⟩
       exact p_impl_above_pv (And.intro @g0_0 (And.intro @g1_0 (And.intro @g2_0 (And.intro @g3_0 (And.intro @dc11 p_impl_above_tf.down))))) trivial
      rw [if_pos c11] at h_0
      have dc11 := decide_eq_true c11
      by_cases c12 : out_5.length < 4294967296
      case neg => rw [if_neg c12] at h_0; cases h_0
      rw [if_pos c12] at h_0
      have a13a : esInt out_5 ++ [I at_4] = esInt (out_5 ++ [at_4]) := by simp [esInt_app, esInt_cons, esInt_nil, eInt_eq]
      have a13b : out_5.length + 1 = (out_5 ++ [at_4]).length := by simp
      obtain ⟨x14, ex14, h_0⟩ := Option.bind_eq_some_iff.1 h_0
      try dsimp only at h_0
      have f15a := idx_lo ex14
      have f15b := idx_hi ex14
      have f15c : (esSpan l_0).drop (at_4.toNat * 4) = eSpan x14 ++ esSpan (l_0.drop (at_4.toNat + 1)) := drop_enc (fun _ => rfl) (idx_get ex14)
      have ff := And.intro @g0_0 (And.intro @g1_0 (And.intro @g2_0 (And.intro @g3_0 (And.intro @dc11 (And.intro @a13a (And.intro @a13b (And.intro @f15c p_impl_above_tf.down)))))))
      try refine st_by ff ?_
      repeat' (first | exact trivial | refine And.intro sd ?_)
      try clear ff
      refine Back.intro (n_0, x14.Up, (out_5 ++ [at_4])) ?_ ?_
      · rw [hM_0]; exact Nat.lt_succ_self _
      rw [hI_0]
      refine ⟨h_0, ?_⟩
      exact p_impl_above_pv (And.intro @g0_0 (And.intro @g1_0 (And.intro @g2_0 (And.intro @g3_0 (And.intro @dc11 (And.intro @a13a (And.intro @a13b (And.intro @f15c p_impl_above_tf.down)))))))) trivial
  · rintro σ hg_0
    rw [hJ_0] at hg_0
    obtain ⟨at_4, out_5, hj_0, g0_0a, g1_0a⟩ := hg_0
    cases hj_0
    try dsimp only at h
    have ff := And.intro @g0_0a (And.intro @g1_0a p_impl_above_tf.down)
    try refine st_by ff ?_
    repeat' (first | exact trivial | refine And.intro sd ?_)
    try clear ff
    cases h
    exact ret_q1 rfl (p_impl_above_rt (And.intro @g0_0a (And.intro @g1_0a p_impl_above_tf.down)) trivial)
/-! slices.Index[[]int,int] -/
def p_slices_Index_int_int_l0 (v_1 : Int) : List Int → Nat → Option (LR (Int) (Unit))
  | [], i_0 => some (.out ())
  | x_0 :: r_0, i_0 => (if v_1 = x_0 then some (.ret (i_0 : Int)) else p_slices_Index_int_int_l0 v_1 r_0 (i_0 + 1))
theorem p_slices_Index_int_int_pv {F C A : Prop} (hF : F) (hC : C) (h : F → C → A := by intro hF hC; first | exact cl_by hF | (refine st_by hF ?_; repeat' (first | exact trivial | apply And.intro); all_goals (clear hF; first | rfl | (simp only [hC, List.length_append, List.length_cons, List.length_nil, List.append_nil, List.nil_append, List.cons_append, List.length_set, List.append_assoc, Nat.zero_add, List.length_replicate, esInt_app, esInt_cons, esInt_nil, eInt_eq]; done) | (simp [hC, List.length_append, List.length_cons, List.length_nil, List.append_nil, List.nil_append, List.cons_append, List.length_set, List.append_assoc, Nat.zero_add, List.length_replicate, esInt_app, esInt_cons, esInt_nil, eInt_eq]; done) | omega))) : A := h hF hC
theorem p_slices_Index_int_int_sa {F C A : Prop} (hF : F) (hC : C) (h : F → C → A := by intro hF hC; first | exact ca_by hF | (refine sa_by hF ?_; repeat' (first | exact trivial | apply And.intro); all_goals (clear hF; first | rfl | (simp only [hC, List.length_append, List.length_cons, List.length_nil, List.append_nil, List.nil_append, List.cons_append, List.length_set, List.append_assoc, Nat.zero_add, List.length_replicate, esInt_app, esInt_cons, esInt_nil, eInt_eq]; done) | (simp [hC, List.length_append, List.length_cons, List.length_nil, List.append_nil, List.nil_append, List.cons_append, List.length_set, List.append_assoc, Nat.zero_add, List.length_replicate, esInt_app, esInt_cons, esInt_nil, eInt_eq]; done) | omega))) : A := h hF hC
theorem p_slices_Index_int_int_rt {F C A : Prop} (hF : F) (hC : C) (h : F → C → A := by intro hF hC; first | (refine sr_by hF ?_; repeat' (first | exact trivial | apply And.intro); all_goals (clear hF; first | rfl | (simp only [hC, List.length_append, List.length_cons, List.length_nil, List.append_nil, List.nil_append, List.cons_append, List.length_set, List.append_assoc, Nat.zero_add, List.length_replicate, esInt_app, esInt_cons, esInt_nil, eInt_eq]; done) | (simp [hC, List.length_append, List.length_cons, List.length_nil, List.append_nil, List.nil_append, List.cons_append, List.length_set, List.append_assoc, Nat.zero_add, List.length_replicate, esInt_app, esInt_cons, esInt_nil, eInt_eq]; done) | omega)) | (first | rfl | (simp only [hC, List.length_append, List.length_cons, List.length_nil, List.append_nil, List.nil_append, List.cons_append, List.length_set, List.append_assoc, Nat.zero_add, List.length_replicate, esInt_app, esInt_cons, esInt_nil, eInt_eq]; done) | (simp [hC, List.length_append, List.length_cons, List.length_nil, List.append_nil, List.nil_append, List.cons_append, List.length_set, List.append_assoc, Nat.zero_add, List.length_replicate, esInt_app, esInt_cons, esInt_nil, eInt_eq]; done) | omega)) : A := h hF hC
def p_slices_Index_int_int_tf := PLift.up (And.intro @eInt_eq (And.intro @esInt_len (And.intro @esInt_nil (And.intro @esInt_share (And.intro @esInt_pure (And.intro @str_beq (And.intro @Ty.sl22 (And.intro @Ty.slz22 (And.intro @Ty.ldA3 (And.intro @Ty.ldS3 (And.intro @Ty.sz3 (And.intro @Ty.szn3 @trivial))))))))))))
def p_slices_Index_int_int (s_0 : List Int) (v_1 : Int) : Option (Int) := ((p_slices_Index_int_int_l0 v_1 s_0 0).bind fun q_0 => match q_0 with | .ret r_ => some r_ | .out _ => some (-1))
theorem p_slices_Index_int_int_does (s_0 : List Int) (v_1 : Int) (r : Int) (h : p_slices_Index_int_int s_0 v_1 = some r) : Does Try.prog 126 [.row false 1 s_0.length (esInt s_0), I v_1] (I r) := by
  rw [p_slices_Index_int_int] at h
  refine Does.bnd (fun hb => ?_)
  have hb2 : s_0.length ≤ 9223372036854775807 := by simpa [AV.fitNs, AV.fitN] using hb
  have hl0 := hb2
  refine Does.walk (nt := 19) Try.func126 rfl rfl (by simp) (by decide) rfl (fun G0 X w0 pv => ?_)
  have hL_0 : s_0.length ≤ 9223372036854775807 := by first | assumption | omega
  obtain ⟨q_0, eq_0, h⟩ := Option.bind_eq_some_iff.1 h
  have ff := p_slices_Index_int_int_tf.down
  try refine st_by ff ?_
  repeat' (first | exact trivial | refine And.intro sd ?_)
  try clear ff
  obtain ⟨I_0, hI_0⟩ : ∃ I_ : (Nat) → ASt → Prop, I_ = (fun (i_0 : Nat) σ => (i_0 ≤ s_0.length ∧ p_slices_Index_int_int_l0 v_1 (s_0.drop i_0) i_0 = some q_0) ∧ σ.t 0 = .row false 1 s_0.length (esInt s_0) ∧ σ.t 1 = I v_1 ∧ σ.t 7 = I (s_0.length : Int) ∧ σ.t 8 = I (i_0 : Int)) := ⟨_, rfl⟩
  obtain ⟨M_0, hM_0⟩ : ∃ M_ : (Nat) → Nat, M_ = (fun (i_0 : Nat) => s_0.length - i_0) := ⟨_, rfl⟩
  obtain ⟨J_0, hJ_0⟩ : ∃ J_ : ASt → Prop, J_ = (fun σ => (some (.out ()) = some q_0) ∧ True) := ⟨_, rfl⟩
  refine aw_loopC (id := 0) I_0 M_0 J_0 (0) ?_ ?_ ?_
  · rw [hI_0]
    refine ⟨⟨Nat.zero_le _, eq_0⟩, ?_⟩
    exact p_slices_Index_int_int_pv p_slices_Index_int_int_tf.down trivial
  · rintro i_0 σ hg_0
    rw [hI_0] at hg_0
    obtain ⟨⟨hi_0, h_0⟩, g0_0, g1_0, g2_0, g3_0⟩ := hg_0
    cases hr_0 : s_0.drop i_0 with
    | nil =>
      rw [hr_0] at h_0
      rw [p_slices_Index_int_int_l0] at h_0
      have hn_0 := drop_nil hr_0
      have dr_0 : decide ((i_0 : Int) < (s_0.length : Int)) = false := decide_eq_false (by omega)
      have ff := And.intro @dr_0 (And.intro @g0_0 (And.intro @g1_0 (And.intro @g2_0 (And.intro @g3_0 p_slices_Index_int_int_tf.down))))
      try refine st_by ff ?_
      repeat' (first | exact trivial | refine And.intro sd ?_)
      try clear ff
      refine JW.intro ?_
      rw [hJ_0]
      refine ⟨h_0, ?_⟩
      exact p_slices_Index_int_int_pv (And.intro @dr_0 (And.intro @g0_0 (And.intro @g1_0 (And.intro @g2_0 (And.intro @g3_0 p_slices_Index_int_int_tf.down))))) trivial
    | cons x_0 r_0 =>
      rw [hr_0] at h_0
      rw [p_slices_Index_int_int_l0] at h_0
      obtain ⟨ht_0, hg_0, hd_0⟩ := drop_cons hr_0
      have dr_0 : decide ((i_0 : Int) < (s_0.length : Int)) = true := decide_eq_true (by omega)
      have w_0 : IntKind.i64.wrap ((i_0 : Int) + 1) = ((i_0 + 1 : Nat) : Int) := wI _ (by omega) (by omega)
      have kk0c : (esInt s_0).drop (i_0 * 1) = eInt x_0 ++ esInt (s_0.drop (i_0 + 1)) := drop_enc (fun _ => rfl) (hg_0)
      have kk0d := kk0c
      rw [Nat.mul_one] at kk0d
      by_cases c10 : v_1 = x_0
      · rw [if_pos c10] at h_0
        have dc10 := beq_yes c10
        cases h_0
        try dsimp only at h
        have ff := And.intro @dr_0 (And.intro @w_0 (And.intro @g0_0 (And.intro @g1_0 (And.intro @g2_0 (And.intro @g3_0 (And.intro @kk0c (And.intro @kk0d (And.intro @dc10 p_slices_Index_int_int_tf.down))))))))
        try refine st_by ff ?_
        repeat' (first | exact trivial | refine And.intro sd ?_)
        try clear ff
        cases h
        exact ret_q1 rfl (p_slices_Index_int_int_rt (And.intro @dr_0 (And.intro @w_0 (And.intro @g0_0 (And.intro @g1_0 (And.intro @g2_0 (And.intro @g3_0 (And.intro @kk0c (And.intro @kk0d (And.intro @dc10 p_slices_Index_int_int_tf.down))))))))) trivial)
      rw [if_neg c10] at h_0
      have dc10 := beq_no c10
      have ff := And.intro @dr_0 (And.intro @w_0 (And.intro @g0_0 (And.intro @g1_0 (And.intro @g2_0 (And.intro @g3_0 (And.intro @kk0c (And.intro @kk0d (And.intro @dc10 p_slices_Index_int_int_tf.down))))))))
      try refine st_by ff ?_
      repeat' (first | exact trivial | refine And.intro sd ?_)
      try clear ff
      refine Back.intro (i_0 + 1) ?_ ?_
      · rw [hM_0]; show s_0.length - (i_0 + 1) < s_0.length - i_0; omega
      rw [hI_0]
      refine ⟨⟨by show i_0 + 1 ≤ s_0.length; omega, by show p_slices_Index_int_int_l0 v_1 (s_0.drop (i_0 + 1)) (i_0 + 1) = some q_0; rw [hd_0]; exact h_0⟩, ?_⟩
      exact p_slices_Index_int_int_pv (And.intro @dr_0 (And.intro @w_0 (And.intro @g0_0 (And.intro @g1_0 (And.intro @g2_0 (And.intro @g3_0 (And.intro @kk0c (And.intro @kk0d (And.intro @dc10 p_slices_Index_int_int_tf.down))))))))) trivial
  · rintro σ hg_0
    rw [hJ_0] at hg_0
    obtain ⟨hj_0, _⟩ := hg_0
    cases hj_0
    try dsimp only at h
    have ff := p_slices_Index_int_int_tf.down
    try refine st_by ff ?_
    repeat' (first | exact trivial | refine And.intro sd ?_)
    try clear ff
    cases h
    exact ret_q1 rfl (p_slices_Index_int_int_rt p_slices_Index_int_int_tf.down trivial)
/-! slices.Contains[[]int,int] -/
theorem p_slices_Contains_int_int_pv {F C A : Prop} (hF : F) (hC : C) (h : F → C → A := by intro hF hC; first | exact cl_by hF | (refine st_by hF ?_; repeat' (first | exact trivial | apply And.intro); all_goals (clear hF; first | rfl | (simp only [hC, List.length_append, List.length_cons, List.length_nil, List.append_nil, List.nil_append, List.cons_append, List.length_set, List.append_assoc, Nat.zero_add, List.length_replicate, esInt_app, esInt_cons, esInt_nil, eInt_eq]; done) | (simp [hC, List.length_append, List.length_cons, List.length_nil, List.append_nil, List.nil_append, List.cons_append, List.length_set, List.append_assoc, Nat.zero_add, List.length_replicate, esInt_app, esInt_cons, esInt_nil, eInt_eq]; done) | omega))) : A := h hF hC
theorem p_slices_Contains_int_int_sa {F C A : Prop} (hF : F) (hC : C) (h : F → C → A := by intro hF hC; first | exact ca_by hF | (refine sa_by hF ?_; repeat' (first | exact trivial | apply And.intro); all_goals (clear hF; first | rfl | (simp only [hC, List.length_append, List.length_cons, List.length_nil, List.append_nil, List.nil_append, List.cons_append, List.length_set, List.append_assoc, Nat.zero_add, List.length_replicate, esInt_app, esInt_cons, esInt_nil, eInt_eq]; done) | (simp [hC, List.length_append, List.length_cons, List.length_nil, List.append_nil, List.nil_append, List.cons_append, List.length_set, List.append_assoc, Nat.zero_add, List.length_replicate, esInt_app, esInt_cons, esInt_nil, eInt_eq]; done) | omega))) : A := h hF hC
theorem p_slices_Contains_int_int_rt {F C A : Prop} (hF : F) (hC : C) (h : F → C → A := by intro hF hC; first | (refine sr_by hF ?_; repeat' (first | exact trivial | apply And.intro); all_goals (clear hF; first | rfl | (simp only [hC, List.length_append, List.length_cons, List.length_nil, List.append_nil, List.nil_append, List.cons_append, List.length_set, List.append_assoc, Nat.zero_add, List.length_replicate, esInt_app, esInt_cons, esInt_nil, eInt_eq]; done) | (simp [hC, List.length_append, List.length_cons, List.length_nil, List.append_nil, List.nil_append, List.cons_append, List.length_set, List.append_assoc, Nat.zero_add, List.length_replicate, esInt_app, esInt_cons, esInt_nil, eInt_eq]; done) | omega)) | (first | rfl | (simp only [hC, List.length_append, List.length_cons, List.length_nil, List.append_nil, List.nil_append, List.cons_append, List.length_set, List.append_assoc, Nat.zero_add, List.length_replicate, esInt_app, esInt_cons, esInt_nil, eInt_eq]; done) | (simp [hC, List.length_append, List.length_cons, List.length_nil, List.append_nil, List.nil_append, List.cons_append, List.length_set, List.append_assoc, Nat.zero_add, List.length_replicate, esInt_app, esInt_cons, esInt_nil, eInt_eq]; done) | omega)) : A := h hF hC
def p_slices_Contains_int_int_tf := PLift.up (And.intro @eInt_eq (And.intro @esInt_len (And.intro @esInt_nil (And.intro @esInt_share (And.intro @esInt_pure (And.intro @str_beq @trivial))))))
def p_slices_Contains_int_int (s_0 : List Int) (v_1 : Int) : Option (Bool) := ((p_slices_Index_int_int s_0 v_1).bind fun v1 => some (decide (v1 ≥ 0)))
theorem p_slices_Contains_int_int_does (s_0 : List Int) (v_1 : Int) (r : Bool) (h : p_slices_Contains_int_int s_0 v_1 = some r) : Does Try.prog 78 [.row false 1 s_0.length (esInt s_0), I v_1] (B r) := by
  rw [p_slices_Contains_int_int] at h
  refine Does.bnd (fun hb => ?_)
  have hb2 : s_0.length ≤ 9223372036854775807 := by simpa [AV.fitNs, AV.fitN] using hb
  have hl0 := hb2
  refine Does.walk (nt := 9) Try.func78 rfl rfl (by simp) (by decide) rfl (fun G0 X w0 pv => ?_)
  obtain ⟨v1, ev1, h⟩ := Option.bind_eq_some_iff.1 h
  try dsimp only at h
  have ff := p_slices_Contains_int_int_tf.down
  try refine st_by ff ?_
  repeat' (first | exact trivial | refine And.intro sd ?_)
  first
  | (refine cq_call (p_slices_Index_int_int_does s_0 v_1 v1 ev1) (hf_by ff) kr ⟨p_slices_Contains_int_int_sa ff trivial, ?_⟩; clear ff)
  have ff := p_slices_Contains_int_int_tf.down
  try refine st_by ff ?_
  repeat' (first | exact trivial | refine And.intro sd ?_)
  try clear ff
  cases h
  exact ret_q1 rfl (p_slices_Contains_int_int_rt p_slices_Contains_int_int_tf.down trivial)
/-! impl.GoodSpans -/
def p_impl_GoodSpans_l1 (x_0 : GSpan) : List GSpan → Nat → Option (LR (Bool) (Unit))
  | [], i_1 => some (.out ())
  | x_1 :: r_1, i_1 => (if x_1.Up = x_0.Up then (if x_0.From < x_1.To then some (.ret false) else p_impl_GoodSpans_l1 x_0 r_1 (i_1 + 1)) else p_impl_GoodSpans_l1 x_0 r_1 (i_1 + 1))
def p_impl_GoodSpans_j1 (N : Nat) (l_0 : List GSpan) (x_0 : GSpan) (i_0 : Nat) (rec_0 : Nat → Option (LR (Bool) (Unit))) (b_88 : Bool) : Option (LR (Bool) (Unit)) := (if b_88 = true then some (.ret false) else ((slc l_0 0 (i_0 : Int)).bind fun m90 => ((p_impl_GoodSpans_l1 x_0 m90 0).bind fun q_1 => match q_1 with | .ret r_ => some (.ret r_) | .out _ => (if (i_0 : Int) > 0 then (if x_0.Up ≥ 0 then ((p_impl_above N l_0 (IntKind.i64.wrap ((i_0 : Int) - 1))).bind fun v107 => ((p_slices_Contains_int_int v107 x_0.Up).bind fun v108 => (if v108 = true then ((p_impl_above N l_0 (i_0 : Int)).bind fun v110 => (if (v110.length : Int) > 12 then some (.ret false) else rec_0 (i_0 + 1))) else some (.ret false)))) else ((p_impl_above N l_0 (i_0 : Int)).bind fun v112 => (if (v112.length : Int) > 12 then some (.ret false) else rec_0 (i_0 + 1)))) else ((p_impl_above N l_0 (i_0 : Int)).bind fun v114 => (if (v114.length : Int) > 12 then some (.ret false) else rec_0 (i_0 + 1)))))))
def p_impl_GoodSpans_j0 (N : Nat) (l_0 : List GSpan) (x_0 : GSpan) (i_0 : Nat) (rec_0 : Nat → Option (LR (Bool) (Unit))) (b_86 : Bool) : Option (LR (Bool) (Unit)) := (if b_86 = true then some (.ret false) else (if x_0.Up ≥ 0 then ((idx l_0 x_0.Up).bind fun x117 => (if x_0.From < x117.From then p_impl_GoodSpans_j1 N l_0 x_0 i_0 (rec_0) true else p_impl_GoodSpans_j1 N l_0 x_0 i_0 (rec_0) (decide (x_0.To > x117.To)))) else p_impl_GoodSpans_j1 N l_0 x_0 i_0 (rec_0) false))
def p_impl_GoodSpans_l0 (N : Nat) (l_0 : List GSpan) : List GSpan → Nat → Option (LR (Bool) (Unit))
  | [], i_0 => some (.out ())
  | x_0 :: r_0, i_0 => (if x_0.Name.size ≤ 9223372036854775807 then (if (goodName x_0.Name) = true then (if (rng x_0.From 0 100000) = true then (if (rng x_0.To 0 100000) = true then (if x_0.From > x_0.To then p_impl_GoodSpans_j0 N l_0 x_0 i_0 (p_impl_GoodSpans_l0 N l_0 r_0) true else p_impl_GoodSpans_j0 N l_0 x_0 i_0 (p_impl_GoodSpans_l0 N l_0 r_0) (!(rng x_0.Up (-1) (IntKind.i64.wrap ((i_0 : Int) - 1))))) else p_impl_GoodSpans_j0 N l_0 x_0 i_0 (p_impl_GoodSpans_l0 N l_0 r_0) true) else p_impl_GoodSpans_j0 N l_0 x_0 i_0 (p_impl_GoodSpans_l0 N l_0 r_0) true) else p_impl_GoodSpans_j0 N l_0 x_0 i_0 (p_impl_GoodSpans_l0 N l_0 r_0) true) else none)
theorem p_impl_GoodSpans_pv {F C A : Prop} (hF : F) (hC : C) (h : F → C → A := by intro hF hC; first | exact cl_by hF | (refine st_by hF ?_; repeat' (first | exact trivial | apply And.intro); all_goals (clear hF; first | rfl | (simp only [hC, List.length_append, List.length_cons, List.length_nil, List.append_nil, List.nil_append, List.cons_append, List.length_set, List.append_assoc, Nat.zero_add, List.length_replicate, esInt_app, esInt_cons, esInt_nil, eInt_eq, esSpan_app, esSpan_cons, esSpan_nil, eSpan_eq]; done) | (simp [hC, List.length_append, List.length_cons, List.length_nil, List.append_nil, List.nil_append, List.cons_append, List.length_set, List.append_assoc, Nat.zero_add, List.length_replicate, esInt_app, esInt_cons, esInt_nil, eInt_eq, esSpan_app, esSpan_cons, esSpan_nil, eSpan_eq]; done) | omega))) : A := h hF hC
theorem p_impl_GoodSpans_sa {F C A : Prop} (hF : F) (hC : C) (h : F → C → A := by intro hF hC; first | exact ca_by hF | (refine sa_by hF ?_; repeat' (first | exact trivial | apply And.intro); all_goals (clear hF; first | rfl | (simp only [hC, List.length_append, List.length_cons, List.length_nil, List.append_nil, List.nil_append, List.cons_append, List.length_set, List.append_assoc, Nat.zero_add, List.length_replicate, esInt_app, esInt_cons, esInt_nil, eInt_eq, esSpan_app, esSpan_cons, esSpan_nil, eSpan_eq]; done) | (simp [hC, List.length_append, List.length_cons, List.length_nil, List.append_nil, List.nil_append, List.cons_append, List.length_set, List.append_assoc, Nat.zero_add, List.length_replicate, esInt_app, esInt_cons, esInt_nil, eInt_eq, esSpan_app, esSpan_cons, esSpan_nil, eSpan_eq]; done) | omega))) : A := h hF hC
theorem p_impl_GoodSpans_rt {F C A : Prop} (hF : F) (hC : C) (h : F → C → A := by intro hF hC; first | (refine sr_by hF ?_; repeat' (first | exact trivial | apply And.intro); all_goals (clear hF; first | rfl | (simp only [hC, List.length_append, List.length_cons, List.length_nil, List.append_nil, List.nil_append, List.cons_append, List.length_set, List.append_assoc, Nat.zero_add, List.length_replicate, esInt_app, esInt_cons, esInt_nil, eInt_eq, esSpan_app, esSpan_cons, esSpan_nil, eSpan_eq]; done) | (simp [hC, List.length_append, List.length_cons, List.length_nil, List.append_nil, List.nil_append, List.cons_append, List.length_set, List.append_assoc, Nat.zero_add, List.length_replicate, esInt_app, esInt_cons, esInt_nil, eInt_eq, esSpan_app, esSpan_cons, esSpan_nil, eSpan_eq]; done) | omega)) | (first | rfl | (simp only [hC, List.length_append, List.length_cons, List.length_nil, List.append_nil, List.nil_append, List.cons_append, List.length_set, List.append_assoc, Nat.zero_add, List.length_replicate, esInt_app, esInt_cons, esInt_nil, eInt_eq, esSpan_app, esSpan_cons, esSpan_nil, eSpan_eq]; done) | (simp [hC, List.length_append, List.length_cons, List.length_nil, List.append_nil, List.nil_append, List.cons_append, List.length_set, List.append_assoc, Nat.zero_add, List.length_replicate, esInt_app, esInt_cons, esInt_nil, eInt_eq, esSpan_app, esSpan_cons, esSpan_nil, eSpan_eq]; done) | omega)) : A := h hF hC
def p_impl_GoodSpans_tf := PLift.up (And.intro @eInt_eq (And.intro @esInt_len (And.intro @esInt_nil (And.intro @eSpan_eq (And.intro @esSpan_len (And.intro @esSpan_nil (And.intro @esInt_share (And.intro @esInt_pure (And.intro @esSpan_share (And.intro @esSpan_pure (And.intro @str_beq (And.intro @Ty.sl38 (And.intro @Ty.slz38 (And.intro @Ty.ldA91 (And.intro @Ty.sz91 (And.intro @Ty.szn91 (And.intro @Ty.ldA9 (And.intro @Ty.ldS9 (And.intro @Ty.sz9 (And.intro @Ty.szn9 (And.intro @Ty.ldA3 (And.intro @Ty.ldS3 (And.intro @Ty.sz3 (And.intro @Ty.szn3 (And.intro @Ty.fo91_0 (And.intro @Ty.fk91_0 (And.intro @Ty.fs91_0 (And.intro @Ty.fn91_0 (And.intro @Ty.fo91_1 (And.intro @Ty.fk91_1 (And.intro @Ty.fs91_1 (And.intro @Ty.fn91_1 (And.intro @Ty.fo91_2 (And.intro @Ty.fk91_2 (And.intro @Ty.fs91_2 (And.intro @Ty.fn91_2 (And.intro @Ty.fo91_3 (And.intro @Ty.fk91_3 (And.intro @Ty.fs91_3 (And.intro @Ty.fn91_3 (And.intro @Ty.sl22 (And.intro @Ty.zok38 (And.intro @Ty.by38 (And.intro @Ty.zs38 (And.intro @Ty.zv91 @trivial)))))))))))))))))))))))))))))))))))))))))))))
def p_impl_GoodSpans (N : Nat) (l_0 : List GSpan) : Option (Bool) := ((p_impl_GoodSpans_l0 N l_0 l_0 0).bind fun q_0 => match q_0 with | .ret r_ => some r_ | .out _ => some (decide ((l_0.length : Int) ≤ 200)))
theorem p_impl_GoodSpans_does (N : Nat) (l_0 : List GSpan) (r : Bool) (h : p_impl_GoodSpans N l_0 = some r) : Does Try.prog 26 [.row false 4 l_0.length (esSpan l_0)] (B r) := by
  rw [p_impl_GoodSpans] at h
  refine Does.bnd (fun hb => ?_)
  have hb2 : l_0.length ≤ 9223372036854775807 := by simpa [AV.fitNs, AV.fitN] using hb
  have hl0 := hb2
  refine Does.walk (nt := 119) Try.func26 rfl rfl (by simp) (by decide) rfl (fun G0 X w0 pv => ?_)
  have hL_0 : l_0.length ≤ 9223372036854775807 := by first | assumption | omega
  obtain ⟨q_0, eq_0, h⟩ := Option.bind_eq_some_iff.1 h
  have ff := p_impl_GoodSpans_tf.down
  try refine st_by ff ?_
  repeat' (first | exact trivial | refine And.intro sd ?_)
  try clear ff
  obtain ⟨I_0, hI_0⟩ : ∃ I_ : (Nat) → ASt → Prop, I_ = (fun (i_0 : Nat) σ => (i_0 ≤ l_0.length ∧ p_impl_GoodSpans_l0 N l_0 (l_0.drop i_0) i_0 = some q_0) ∧ σ.t 0 = .row false 4 l_0.length (esSpan l_0) ∧ σ.t 7 = .row false 4 l_0.length (esSpan l_0) ∧ σ.t 8 = I (l_0.length : Int) ∧ σ.t 9 = I (i_0 : Int)) := ⟨_, rfl⟩
  obtain ⟨M_0, hM_0⟩ : ∃ M_ : (Nat) → Nat, M_ = (fun (i_0 : Nat) => l_0.length - i_0) := ⟨_, rfl⟩
  obtain ⟨J_0, hJ_0⟩ : ∃ J_ : ASt → Prop, J_ = (fun σ => (some (.out ()) = some q_0) ∧ σ.t 0 = .row false 4 l_0.length (esSpan l_0)) := ⟨_, rfl⟩
  refine aw_loopC (id := 0) I_0 M_0 J_0 (0) ?_ ?_ ?_
  · rw [hI_0]
    refine ⟨⟨Nat.zero_le _, eq_0⟩, ?_⟩
    exact p_impl_GoodSpans_pv p_impl_GoodSpans_tf.down trivial
  · rintro i_0 σ hg_0
    rw [hI_0] at hg_0
    obtain ⟨⟨hi_0, h_0⟩, g0_0, g1_0, g2_0, g3_0⟩ := hg_0
    cases hr_0 : l_0.drop i_0 with
    | nil =>
      rw [hr_0] at h_0
      rw [p_impl_GoodSpans_l0] at h_0
      have hn_0 := drop_nil hr_0
      have dr_0 : decide ((i_0 : Int) < (l_0.length : Int)) = false := decide_eq_false (by omega)
      have ff := And.intro @dr_0 (And.intro @g0_0 (And.intro @g1_0 (And.intro @g2_0 (And.intro @g3_0 p_impl_GoodSpans_tf.down))))
      try refine st_by ff ?_
      repeat' (first | exact trivial | refine And.intro sd ?_)
      try clear ff
      refine JW.intro ?_
      rw [hJ_0]
      refine ⟨h_0, ?_⟩
      exact p_impl_GoodSpans_pv (And.intro @dr_0 (And.intro @g0_0 (And.intro @g1_0 (And.intro @g2_0 (And.intro @g3_0 p_impl_GoodSpans_tf.down))))) trivial
    | cons x_0 r_0 =>
      rw [hr_0] at h_0
      rw [p_impl_GoodSpans_l0] at h_0
      obtain ⟨ht_0, hg_0, hd_0⟩ := drop_cons hr_0
      have dr_0 : decide ((i_0 : Int) < (l_0.length : Int)) = true := decide_eq_true (by omega)
      have w_0 : IntKind.i64.wrap ((i_0 : Int) + 1) = ((i_0 + 1 : Nat) : Int) := wI _ (by omega) (by omega)
      have kk0c : (esSpan l_0).drop (i_0 * 4) = eSpan x_0 ++ esSpan (l_0.drop (i_0 + 1)) := drop_enc (fun _ => rfl) (hg_0)
      have ff := And.intro @dr_0 (And.intro @w_0 (And.intro @g0_0 (And.intro @g1_0 (And.intro @g2_0 (And.intro @g3_0 (And.intro @kk0c p_impl_GoodSpans_tf.down))))))
      try refine st_by ff ?_
      repeat' (first | exact trivial | refine And.intro sd ?_)
      try clear ff
      generalize hk_0 : thenK _ _ = kk_0
      have key_0 : ∀ σ, (∃ b_86 : Bool, (p_impl_GoodSpans_j0 N l_0 x_0 i_0 (p_impl_GoodSpans_l0 N l_0 r_0) b_86 = some q_0) ∧ σ.t 0 = .row false 4 l_0.length (esSpan l_0) ∧ σ.t 3 = I (i_0 : Int) ∧ σ.t 4 = .ptr 4 [] 0 ∧ σ.t 7 = .row false 4 l_0.length (esSpan l_0) ∧ σ.t 8 = I (l_0.length : Int) ∧ σ.t 9 = I (i_0 : Int) ∧ σ.t 44 = B b_86 ∧ σ.m 4 = some (.box true [S x_0.Name, I x_0.From, I x_0.To, I x_0.Up])) → kk_0 .nm σ := by
        rintro σ ⟨b_86, h_0, g0_j0, g1_j0, g2_j0, g3_j0, g4_j0, g5_j0, g6_j0, g7_j0⟩
        rw [← hk_0]
        rw [p_impl_GoodSpans_j0] at h_0
        by_cases c87 : b_86 = true
        · rw [if_pos c87] at h_0
          have dc87 := c87
          cases h_0
          try dsimp only at h
          have ff := And.intro @dr_0 (And.intro @w_0 (And.intro @kk0c (And.intro @g0_j0 (And.intro @g1_j0 (And.intro @g2_j0 (And.intro @g3_j0 (And.intro @g4_j0 (And.intro @g5_j0 (And.intro @g6_j0 (And.intro @g7_j0 (And.intro @dc87 p_impl_GoodSpans_tf.down)))))))))))
          try refine st_by ff ?_
          repeat' (first | exact trivial | refine And.intro sd ?_)
          try clear ff
          cases h
          exact ret_q1 rfl (p_impl_GoodSpans_rt (And.intro @dr_0 (And.intro @w_0 (And.intro @kk0c (And.intro @g0_j0 (And.intro @g1_j0 (And.intro @g2_j0 (And.intro @g3_j0 (And.intro @g4_j0 (And.intro @g5_j0 (And.intro @g6_j0 (And.intro @g7_j0 (And.intro @dc87 p_impl_GoodSpans_tf.down)))))))))))) trivial)
        rw [if_neg c87] at h_0
        have dc87 := eq_false_of_ne_true c87
        have ff := And.intro @dr_0 (And.intro @w_0 (And.intro @kk0c (And.intro @g0_j0 (And.intro @g1_j0 (And.intro @g2_j0 (And.intro @g3_j0 (And.intro @g4_j0 (And.intro @g5_j0 (And.intro @g6_j0 (And.intro @g7_j0 (And.intro @dc87 p_impl_GoodSpans_tf.down)))))))))))
        try refine st_by ff ?_
        repeat' (first | exact trivial | refine And.intro sd ?_ | (refine aw_drawn (id := 6) ?_ [[], [0], [0, 1], [0, 1, 2], [0, 1, 2, 3], [0, 1, 2, 3, 4], [0, 1, 2, 3], [0, 1, 2, 3], [0, 1, 2, 3, 7], [0, 1, 2, 3, 6, 7, 8], [0, 1, 2, 3, 6, 7, 8, 9], [0, 1, 2, 3, 6, 7, 8, 9, 10], [0, 1, 2, 3, 4, 5, 6, 7, 8, 9, 10, 11], [0, 1, 2, 3, 4, 5, 6, 7, 8, 9, 10, 11, 12], [0, 1, 2, 3, 4, 5, 6, 7, 8, 9, 10, 11, 12, 13], [0, 1, 2, 3, 4, 5, 6, 7, 8, 9, 10, 11, 12, 13, 14], [0, 1, 2, 3, 4, 5, 6, 7, 8, 9, 10, 11, 12, 13], [0, 1, 2, 3, 4, 5, 6, 7, 8, 9, 10, 11, 12, 13], [0, 1, 2, 3, 4, 5, 6, 7, 8, 9, 10, 11, 12, 13, 17], [0, 1, 2, 3, 4, 5, 6, 7, 8, 9, 10, 11, 12, 13, 16, 17, 18], [0, 1, 2, 3, 4, 5, 6, 7, 8, 9, 10, 11, 12, 13, 16, 17, 18, 19], [0, 1, 2, 3, 4, 5, 6, 7, 8, 9, 10, 11, 12, 13, 16, 17, 18, 19, 20], [0, 1, 2, 3, 4, 5, 6, 7, 8, 9, 10, 11, 12, 13, 14, 15, 16, 17, 18, 19, 20, 21], [0, 1, 2, 3, 4, 5, 6, 7, 8, 9, 10, 11, 12, 13, 14, 15, 16, 17, 18, 19, 20, 21, 22], [0, 1, 2, 3, 4, 5, 6, 7, 8, 9, 10, 11, 12, 13, 14, 15, 16, 17, 18, 19, 20, 21, 22, 23]] 22 ?_ ?_; (· kernel_rfl); (· kernel_rfl); refine st_by ff ?_))
        try clear ff
        generalize hk_1 : thenK _ _ = kk_1
        have key_1 : ∀ σ, (∃ b_88 : Bool, (p_impl_GoodSpans_j1 N l_0 x_0 i_0 (p_impl_GoodSpans_l0 N l_0 r_0) b_88 = some q_0) ∧ σ.t 0 = .row false 4 l_0.length (esSpan l_0) ∧ σ.t 3 = I (i_0 : Int) ∧ σ.t 4 = .ptr 4 [] 0 ∧ σ.t 7 = .row false 4 l_0.length (esSpan l_0) ∧ σ.t 8 = I (l_0.length : Int) ∧ σ.t 9 = I (i_0 : Int) ∧ σ.t 69 = B b_88 ∧ σ.m 4 = some (.box true [S x_0.Name, I x_0.From, I x_0.To, I x_0.Up])) → kk_1 .nm σ := by
          rintro σ ⟨b_88, h_0, g0_j1, g1_j1, g2_j1, g3_j1, g4_j1, g5_j1, g6_j1, g7_j1⟩
          rw [← hk_1]
          rw [p_impl_GoodSpans_j1] at h_0
          by_cases c89 : b_88 = true
          · rw [if_pos c89] at h_0
            have dc89 := c89
            cases h_0
            try dsimp only at h
            have ff := And.intro @dr_0 (And.intro @w_0 (And.intro @kk0c (And.intro @dc87 (And.intro @g0_j1 (And.intro @g1_j1 (And.intro @g2_j1 (And.intro @g3_j1 (And.intro @g4_j1 (And.intro @g5_j1 (And.intro @g6_j1 (And.intro @g7_j1 (And.intro @dc89 p_impl_GoodSpans_tf.down))))))))))))
            try refine st_by ff ?_
            repeat' (first | exact trivial | refine And.intro sd ?_ | (refine aw_drawn (id := 6) ?_ [[], [0], [0, 1], [0, 1, 2], [0, 1, 2, 3], [0, 1, 2, 3, 4], [0, 1, 2, 3], [0, 1, 2, 3], [0, 1, 2, 3, 7], [0, 1, 2, 3, 6, 7, 8], [0, 1, 2, 3, 6, 7, 8, 9], [0, 1, 2, 3, 6, 7, 8, 9, 10], [0, 1, 2, 3, 4, 5, 6, 7, 8, 9, 10, 11], [0, 1, 2, 3, 4, 5, 6, 7, 8, 9, 10, 11, 12], [0, 1, 2, 3, 4, 5, 6, 7, 8, 9, 10, 11, 12, 13], [0, 1, 2, 3, 4, 5, 6, 7, 8, 9, 10, 11, 12, 13, 14], [0, 1, 2, 3, 4, 5, 6, 7, 8, 9, 10, 11, 12, 13], [0, 1, 2, 3, 4, 5, 6, 7, 8, 9, 10, 11, 12, 13], [0, 1, 2, 3, 4, 5, 6, 7, 8, 9, 10, 11, 12, 13, 17], [0, 1, 2, 3, 4, 5, 6, 7, 8, 9, 10, 11, 12, 13, 16, 17, 18], [0, 1, 2, 3, 4, 5, 6, 7, 8, 9, 10, 11, 12, 13, 16, 17, 18, 19], [0, 1, 2, 3, 4, 5, 6, 7, 8, 9, 10, 11, 12, 13, 16, 17, 18, 19, 20], [0, 1, 2, 3, 4, 5, 6, 7, 8, 9, 10, 11, 12, 13, 14, 15, 16, 17, 18, 19, 20, 21], [0, 1, 2, 3, 4, 5, 6, 7, 8, 9, 10, 11, 12, 13, 14, 15, 16, 17, 18, 19, 20, 21, 22], [0, 1, 2, 3, 4, 5, 6, 7, 8, 9, 10, 11, 12, 13, 14, 15, 16, 17, 18, 19, 20, 21, 22, 23]] 22 ?_ ?_; (· kernel_rfl); (· kernel_rfl); refine st_by ff ?_))
            try clear ff
            cases h
            exact ret_q1 rfl (p_impl_GoodSpans_rt (And.intro @dr_0 (And.intro @w_0 (And.intro @kk0c (And.intro @dc87 (And.intro @g0_j1 (And.intro @g1_j1 (And.intro @g2_j1 (And.intro @g3_j1 (And.intro @g4_j1 (And.intro @g5_j1 (And.intro @g6_j1 (And.intro @g7_j1 (And.intro @dc89 p_impl_GoodSpans_tf.down))))))))))))) trivial)
          rw [if_neg c89] at h_0
          have dc89 := eq_false_of_ne_true c89
          obtain ⟨m90, em90, h_0⟩ := Option.bind_eq_some_iff.1 h_0
          try dsimp only at h_0
          obtain ⟨f91a, f91b⟩ := slc_ok em90
          have f91c : (esSpan l_0).take (i_0 * 4) = esSpan m90 := slc_encL (enc := eSpan) (fun _ => rfl) em90
          have f91d : m90.length = i_0 := (slc_lenL em90).symm
          have hL_1 : m90.length ≤ 9223372036854775807 := by first | assumption | omega
          obtain ⟨q_1, eq_1, h_0⟩ := Option.bind_eq_some_iff.1 h_0
          have ff := And.intro @dr_0 (And.intro @w_0 (And.intro @kk0c (And.intro @dc87 (And.intro @g0_j1 (And.intro @g1_j1 (And.intro @g2_j1 (And.intro @g3_j1 (And.intro @g4_j1 (And.intro @g5_j1 (And.intro @g6_j1 (And.intro @g7_j1 (And.intro @dc89 (And.intro @f91c p_impl_GoodSpans_tf.down)))))))))))))
          try refine st_by ff ?_
          repeat' (first | exact trivial | refine And.intro sd ?_ | (refine aw_drawn (id := 6) ?_ [[], [0], [0, 1], [0, 1, 2], [0, 1, 2, 3], [0, 1, 2, 3, 4], [0, 1, 2, 3], [0, 1, 2, 3], [0, 1, 2, 3, 7], [0, 1, 2, 3, 6, 7, 8], [0, 1, 2, 3, 6, 7, 8, 9], [0, 1, 2, 3, 6, 7, 8, 9, 10], [0, 1, 2, 3, 4, 5, 6, 7, 8, 9, 10, 11], [0, 1, 2, 3, 4, 5, 6, 7, 8, 9, 10, 11, 12], [0, 1, 2, 3, 4, 5, 6, 7, 8, 9, 10, 11, 12, 13], [0, 1, 2, 3, 4, 5, 6, 7, 8, 9, 10, 11, 12, 13, 14], [0, 1, 2, 3, 4, 5, 6, 7, 8, 9, 10, 11, 12, 13], [0, 1, 2, 3, 4, 5, 6, 7, 8, 9, 10, 11, 12, 13], [0, 1, 2, 3, 4, 5, 6, 7, 8, 9, 10, 11, 12, 13, 17], [0, 1, 2, 3, 4, 5, 6, 7, 8, 9, 10, 11, 12, 13, 16, 17, 18], [0, 1, 2, 3, 4, 5, 6, 7, 8, 9, 10, 11, 12, 13, 16, 17, 18, 19], [0, 1, 2, 3, 4, 5, 6, 7, 8, 9, 10, 11, 12, 13, 16, 17, 18, 19, 20], [0, 1, 2, 3, 4, 5, 6, 7, 8, 9, 10, 11, 12, 13, 14, 15, 16, 17, 18, 19, 20, 21], [0, 1, 2, 3, 4, 5, 6, 7, 8, 9, 10, 11, 12, 13, 14, 15, 16, 17, 18, 19, 20, 21, 22], [0, 1, 2, 3, 4, 5, 6, 7, 8, 9, 10, 11, 12, 13, 14, 15, 16, 17, 18, 19, 20, 21, 22, 23]] 22 ?_ ?_; (· kernel_rfl); (· kernel_rfl); refine st_by ff ?_))
          try clear ff
          obtain ⟨I_1, hI_1⟩ : ∃ I_ : (Nat) → ASt → Prop, I_ = (fun (i_1 : Nat) σ => (i_1 ≤ m90.length ∧ p_impl_GoodSpans_l1 x_0 (m90.drop i_1) i_1 = some q_1) ∧ σ.t 0 = .row false 4 l_0.length (esSpan l_0) ∧ σ.t 3 = I (i_0 : Int) ∧ σ.t 4 = .ptr 4 [] 0 ∧ σ.t 7 = .row false 4 l_0.length (esSpan l_0) ∧ σ.t 8 = I (l_0.length : Int) ∧ σ.t 9 = I (i_0 : Int) ∧ σ.t 72 = .row false 4 m90.length (esSpan m90) ∧ σ.t 73 = I (m90.length : Int) ∧ σ.t 74 = I (i_1 : Int) ∧ σ.m 4 = some (.box true [S x_0.Name, I x_0.From, I x_0.To, I x_0.Up])) := ⟨_, rfl⟩
          obtain ⟨M_1, hM_1⟩ : ∃ M_ : (Nat) → Nat, M_ = (fun (i_1 : Nat) => m90.length - i_1) := ⟨_, rfl⟩
          obtain ⟨J_1, hJ_1⟩ : ∃ J_ : ASt → Prop, J_ = (fun σ => (some (.out ()) = some q_1) ∧ σ.t 0 = .row false 4 l_0.length (esSpan l_0) ∧ σ.t 3 = I (i_0 : Int) ∧ σ.t 4 = .ptr 4 [] 0 ∧ σ.t 7 = .row false 4 l_0.length (esSpan l_0) ∧ σ.t 8 = I (l_0.length : Int) ∧ σ.t 9 = I (i_0 : Int) ∧ σ.m 4 = some (.box true [S x_0.Name, I x_0.From, I x_0.To, I x_0.Up])) := ⟨_, rfl⟩
          refine aw_loopC (id := 2) I_1 M_1 J_1 (0) ?_ ?_ ?_
          · rw [hI_1]
            refine ⟨⟨Nat.zero_le _, eq_1⟩, ?_⟩
            exact p_impl_GoodSpans_pv (And.intro @dr_0 (And.intro @w_0 (And.intro @kk0c (And.intro @dc87 (And.intro @g0_j1 (And.intro @g1_j1 (And.intro @g2_j1 (And.intro @g3_j1 (And.intro @g4_j1 (And.intro @g5_j1 (And.intro @g6_j1 (And.intro @g7_j1 (And.intro @dc89 (And.intro @f91c p_impl_GoodSpans_tf.down)))))))))))))) @f91d
          · rintro i_1 σ hg_1
            rw [hI_1] at hg_1
            obtain ⟨⟨hi_1, h_1⟩, g0_1, g1_1, g2_1, g3_1, g4_1, g5_1, g6_1, g7_1, g8_1, g9_1⟩ := hg_1
            cases hr_1 : m90.drop i_1 with
            | nil =>
              rw [hr_1] at h_1
              rw [p_impl_GoodSpans_l1] at h_1
              have hn_1 := drop_nil hr_1
              have dr_1 : decide ((i_1 : Int) < (m90.length : Int)) = false := decide_eq_false (by omega)
              have ff := And.intro @dr_0 (And.intro @w_0 (And.intro @kk0c (And.intro @dc87 (And.intro @dc89 (And.intro @f91c (And.intro @dr_1 (And.intro @g0_1 (And.intro @g1_1 (And.intro @g2_1 (And.intro @g3_1 (And.intro @g4_1 (And.intro @g5_1 (And.intro @g6_1 (And.intro @g7_1 (And.intro @g8_1 (And.intro @g9_1 p_impl_GoodSpans_tf.down))))))))))))))))
              try refine st_by ff ?_
              repeat' (first | exact trivial | refine And.intro sd ?_ | (refine aw_drawn (id := 6) ?_ [[], [0], [0, 1], [0, 1, 2], [0, 1, 2, 3], [0, 1, 2, 3, 4], [0, 1, 2, 3], [0, 1, 2, 3], [0, 1, 2, 3, 7], [0, 1, 2, 3, 6, 7, 8], [0, 1, 2, 3, 6, 7, 8, 9], [0, 1, 2, 3, 6, 7, 8, 9, 10], [0, 1, 2, 3, 4, 5, 6, 7, 8, 9, 10, 11], [0, 1, 2, 3, 4, 5, 6, 7, 8, 9, 10, 11, 12], [0, 1, 2, 3, 4, 5, 6, 7, 8, 9, 10, 11, 12, 13], [0, 1, 2, 3, 4, 5, 6, 7, 8, 9, 10, 11, 12, 13, 14], [0, 1, 2, 3, 4, 5, 6, 7, 8, 9, 10, 11, 12, 13], [0, 1, 2, 3, 4, 5, 6, 7, 8, 9, 10, 11, 12, 13], [0, 1, 2, 3, 4, 5, 6, 7, 8, 9, 10, 11, 12, 13, 17], [0, 1, 2, 3, 4, 5, 6, 7, 8, 9, 10, 11, 12, 13, 16, 17, 18], [0, 1, 2, 3, 4, 5, 6, 7, 8, 9, 10, 11, 12, 13, 16, 17, 18, 19], [0, 1, 2, 3, 4, 5, 6, 7, 8, 9, 10, 11, 12, 13, 16, 17, 18, 19, 20], [0, 1, 2, 3, 4, 5, 6, 7, 8, 9, 10, 11, 12, 13, 14, 15, 16, 17, 18, 19, 20, 21], [0, 1, 2, 3, 4, 5, 6, 7, 8, 9, 10, 11, 12, 13, 14, 15, 16, 17, 18, 19, 20, 21, 22], [0, 1, 2, 3, 4, 5, 6, 7, 8, 9, 10, 11, 12, 13, 14, 15, 16, 17, 18, 19, 20, 21, 22, 23]] 22 ?_ ?_; (· kernel_rfl); (· kernel_rfl); refine st_by ff ?_))
              try clear ff
              refine JW.intro ?_
              rw [hJ_1]
              refine ⟨h_1, ?_⟩
              exact p_impl_GoodSpans_pv (And.intro @dr_0 (And.intro @w_0 (And.intro @kk0c (And.intro @dc87 (And.intro @dc89 (And.intro @f91c (And.intro @dr_1 (And.intro @g0_1 (And.intro @g1_1 (And.intro @g2_1 (And.intro @g3_1 (And.intro @g4_1 (And.intro @g5_1 (And.intro @g6_1 (And.intro @g7_1 (And.intro @g8_1 (And.intro @g9_1 p_impl_GoodSpans_tf.down))))))))))))))))) @f91d
            | cons x_1 r_1 =>
              rw [hr_1] at h_1
              rw [p_impl_GoodSpans_l1] at h_1
              obtain ⟨ht_1, hg_1, hd_1⟩ := drop_cons hr_1
              have dr_1 : decide ((i_1 : Int) < (m90.length : Int)) = true := decide_eq_true (by omega)
              have w_1 : IntKind.i64.wrap ((i_1 : Int) + 1) = ((i_1 + 1 : Nat) : Int) := wI _ (by omega) (by omega)
              have kk1c : (esSpan m90).drop (i_1 * 4) = eSpan x_1 ++ esSpan (m90.drop (i_1 + 1)) := drop_enc (fun _ => rfl) (hg_1)
              by_cases c103 : x_1.Up = x_0.Up
              case neg =>
               rw [if_neg c103] at h_1
               have dc103 := beq_no c103
               have ff := And.intro @dr_0 (And.intro @w_0 (And.intro @kk0c (And.intro @dc87 (And.intro @dc89 (And.intro @f91c (And.intro @dr_1 (And.intro @w_1 (And.intro @g0_1 (And.intro @g1_1 (And.intro @g2_1 (And.intro @g3_1 (And.intro @g4_1 (And.intro @g5_1 (And.intro @g6_1 (And.intro @g7_1 (And.intro @g8_1 (And.intro @g9_1 (And.intro @kk1c (And.intro @dc103 p_impl_GoodSpans_tf.down)))))))))))))))))))
               try refine st_by ff ?_
               repeat' (first | exact trivial | refine And.intro sd ?_ | (refine aw_drawn (id := 6) ?_ [[], [0], [0, 1], [0, 1, 2], [0, 1, 2, 3], [0, 1, 2, 3, 4], [0, 1, 2, 3], [0, 1, 2, 3], [0, 1, 2, 3, 7], [0, 1, 2, 3, 6, 7, 8], [0, 1, 2, 3, 6, 7, 8, 9], [0, 1, 2, 3, 6, 7, 8, 9, 10], [0, 1, 2, 3, 4, 5, 6, 7, 8, 9, 10, 11], [0, 1, 2, 3, 4, 5, 6, 7, 8, 9, 10, 11, 12], [0, 1, 2, 3, 4, 5, 6, 7, 8, 9, 10, 11, 12, 13], [0, 1, 2, 3, 4, 5, 6, 7, 8, 9, 10, 11, 12, 13, 14], [0, 1, 2, 3, 4, 5, 6, 7, 8, 9, 10, 11, 12, 13], [0, 1, 2, 3, 4, 5, 6, 7, 8, 9, 10, 11, 12, 13], [0, 1, 2, 3, 4, 5, 6, 7, 8, 9, 10, 11, 12, 13, 17], [0, 1, 2, 3, 4, 5, 6, 7, 8, 9, 10, 11, 12, 13, 16, 17, 18], [0, 1, 2, 3, 4, 5, 6, 7, 8, 9, 10, 11, 12, 13, 16, 17, 18, 19], [0, 1, 2, 3, 4, 5, 6, 7, 8, 9, 10, 11, 12, 13, 16, 17, 18, 19, 20], [0, 1, 2, 3, 4, 5, 6, 7, 8, 9, 10, 11, 12, 13, 14, 15, 16, 17, 18, 19, 20, 21], [0, 1, 2, 3, 4, 5, 6, 7, 8, 9, 10, 11, 12, 13, 14, 15, 16, 17, 18, 19, 20, 21, 22], [0, 1, 2, 3, 4, 5, 6, 7, 8, 9, 10, 11, 12, 13, 14, 15, 16, 17, 18, 19, 20, 21, 22, 23]] 22 ?_ ?_; (· kernel_rfl); (· kernel_rfl); refine st_by ff ?_))
               try clear ff
               refine Back.intro (i_1 + 1) ?_ ?_
               · rw [hM_1]; show m90.length - (i_1 + 1) < m90.length - i_1; omega
               rw [hI_1]
               refine ⟨⟨by show i_1 + 1 ≤ m90.length; omega, by show p_impl_GoodSpans_l1 x_0 (m90.drop (i_1 + 1)) (i_1 + 1) = some q_1; rw [hd_1]; exact h_1⟩, ?_⟩
               exact p_impl_GoodSpans_pv (And.intro @dr_0 (And.intro @w_0 (And.intro @kk0c (And.intro @dc87 (And.intro @dc89 (And.intro @f91c (And.intro @dr_1 (And.intro @w_1 (And.intro @g0_1 (And.intro @g1_1 (And.intro @g2_1 (And.intro @g3_1 (And.intro @g4_1 (And.intro @g5_1 (And.intro @g6_1 (And.intro @g7_1 (And.intro @g8_1 (And.intro @g9_1 (And.intro @kk1c (And.intro @dc103 p_impl_GoodSpans_tf.down)))))))))))))))))))) @f91d
              rw [if_pos c103] at h_1
              have dc103 := beq_yes c103
              by_cases c104 : x_0.From < x_1.To
              case neg =>
               rw [if_neg c104] at h_1
               have dc104 := decide_eq_false c104
               have ff := And.intro @dr_0 (And.intro @w_0 (And.intro @kk0c (And.intro @dc87 (And.intro @dc89 (And.intro @f91c (And.intro @dr_1 (And.intro @w_1 (And.intro @g0_1 (And.intro @g1_1 (And.intro @g2_1 (And.intro @g3_1 (And.intro @g4_1 (And.intro @g5_1 (And.intro @g6_1 (And.intro @g7_1 (And.intro @g8_1 (And.intro @g9_1 (And.intro @kk1c (And.intro @dc103 (And.intro @dc104 p_impl_GoodSpans_tf.down))))))))))))))))))))
               try refine st_by ff ?_
               repeat' (first | exact trivial | refine And.intro sd ?_ | (refine aw_drawn (id := 6) ?_ [[], [0], [0, 1], [0, 1, 2], [0, 1, 2, 3], [0, 1, 2, 3, 4], [0, 1, 2, 3], [0, 1, 2, 3], [0, 1, 2, 3, 7], [0, 1, 2, 3, 6, 7, 8], [0, 1, 2, 3, 6, 7, 8, 9], [0, 1, 2, 3, 6, 7, 8, 9, 10], [0, 1, 2, 3, 4, 5, 6, 7, 8, 9, 10, 11], [0, 1, 2, 3, 4, 5, 6, 7, 8, 9, 10, 11, 12], [0, 1, 2, 3, 4, 5, 6, 7, 8, 9, 10, 11, 12, 13], [0, 1, 2, 3, 4, 5, 6, 7, 8, 9, 10, 11, 12, 13, 14], [0, 1, 2, 3, 4, 5, 6, 7, 8, 9, 10, 11, 12, 13], [0, 1, 2, 3, 4, 5, 6, 7, 8, 9, 10, 11, 12, 13], [0, 1, 2, 3, 4, 5, 6, 7, 8, 9, 10, 11, 12, 13, 17], [0, 1, 2, 3, 4, 5, 6, 7, 8, 9, 10, 11, 12, 13, 16, 17, 18], [0, 1, 2, 3, 4, 5, 6, 7, 8, 9, 10, 11, 12, 13, 16, 17, 18, 19], [0, 1, 2, 3, 4, 5, 6, 7, 8, 9, 10, 11, 12, 13, 16, 17, 18, 19, 20], [0, 1, 2, 3, 4, 5, 6, 7, 8, 9, 10, 11, 12, 13, 14, 15, 16, 17, 18, 19, 20, 21], [0, 1, 2, 3, 4, 5, 6, 7, 8, 9, 10, 11, 12, 13, 14, 15, 16, 17, 18, 19, 20, 21, 22], [0, 1, 2, 3, 4, 5, 6, 7, 8, 9, 10, 11, 12, 13, 14, 15, 16, 17, 18, 19, 20, 21, 22, 23]] 22 ?_ ?_; (· kernel_rfl); (· kernel_rfl); refine st_by ff ?_))
               try clear ff
               refine Back.intro (i_1 + 1) ?_ ?_
               · rw [hM_1]; show m90.length - (i_1 + 1) < m90.length - i_1; omega
               rw [hI_1]
               refine ⟨⟨by show i_1 + 1 ≤ m90.length; omega, by show p_impl_GoodSpans_l1 x_0 (m90.drop (i_1 + 1)) (i_1 + 1) = some q_1; rw [hd_1]; exact h_1⟩, ?_⟩
               exact p_impl_GoodSpans_pv (And.intro @dr_0 (And.intro @w_0 (And.intro @kk0c (And.intro @dc87 (And.intro @dc89 (And.intro @f91c (And.intro @dr_1 (And.intro @w_1 (And.intro @g0_1 (And.intro @g1_1 (And.intro @g2_1 (And.intro @g3_1 (And.intro @g4_1 (And.intro @g5_1 (And.intro @g6_1 (And.intro @g7_1 (And.intro @g8_1 (And.intro @g9_1 (And.intro @kk1c (And.intro @dc103 (And.intro @dc104 p_impl_GoodSpans_tf.down))))))))))))))))))))) @f91d
              rw [if_pos c104] at h_1
              have dc104 := decide_eq_true c104
              cases h_1
              try dsimp only at h_0
              cases h_0
              try dsimp only at h
              have ff := And.intro @dr_0 (And.intro @w_0 (And.intro @kk0c (And.intro @dc87 (And.intro @dc89 (And.intro @f91c (And.intro @dr_1 (And.intro @w_1 (And.intro @g0_1 (And.intro @g1_1 (And.intro @g2_1 (And.intro @g3_1 (And.intro @g4_1 (And.intro @g5_1 (And.intro @g6_1 (And.intro @g7_1 (And.intro @g8_1 (And.intro @g9_1 (And.intro @kk1c (And.intro @dc103 (And.intro @dc104 p_impl_GoodSpans_tf.down))))))))))))))))))))
              try refine st_by ff ?_
              repeat' (first | exact trivial | refine And.intro sd ?_ | (refine aw_drawn (id := 6) ?_ [[], [0], [0, 1], [0, 1, 2], [0, 1, 2, 3], [0, 1, 2, 3, 4], [0, 1, 2, 3], [0, 1, 2, 3], [0, 1, 2, 3, 7], [0, 1, 2, 3, 6, 7, 8], [0, 1, 2, 3, 6, 7, 8, 9], [0, 1, 2, 3, 6, 7, 8, 9, 10], [0, 1, 2, 3, 4, 5, 6, 7, 8, 9, 10, 11], [0, 1, 2, 3, 4, 5, 6, 7, 8, 9, 10, 11, 12], [0, 1, 2, 3, 4, 5, 6, 7, 8, 9, 10, 11, 12, 13], [0, 1, 2, 3, 4, 5, 6, 7, 8, 9, 10, 11, 12, 13, 14], [0, 1, 2, 3, 4, 5, 6, 7, 8, 9, 10, 11, 12, 13], [0, 1, 2, 3, 4, 5, 6, 7, 8, 9, 10, 11, 12, 13], [0, 1, 2, 3, 4, 5, 6, 7, 8, 9, 10, 11, 12, 13, 17], [0, 1, 2, 3, 4, 5, 6, 7, 8, 9, 10, 11, 12, 13, 16, 17, 18], [0, 1, 2, 3, 4, 5, 6, 7, 8, 9, 10, 11, 12, 13, 16, 17, 18, 19], [0, 1, 2, 3, 4, 5, 6, 7, 8, 9, 10, 11, 12, 13, 16, 17, 18, 19, 20], [0, 1, 2, 3, 4, 5, 6, 7, 8, 9, 10, 11, 12, 13, 14, 15, 16, 17, 18, 19, 20, 21], [0, 1, 2, 3, 4, 5, 6, 7, 8, 9, 10, 11, 12, 13, 14, 15, 16, 17, 18, 19, 20, 21, 22], [0, 1, 2, 3, 4, 5, 6, 7, 8, 9, 10, 11, 12, 13, 14, 15, 16, 17, 18, 19, 20, 21, 22, 23]] 22 ?_ ?_; (· kernel_rfl); (· kernel_rfl); refine st_by ff ?_))
              try clear ff
              cases h
              exact ret_q1 rfl (p_impl_GoodSpans_rt (And.intro @dr_0 (And.intro @w_0 (And.intro @kk0c (And.intro @dc87 (And.intro @dc89 (And.intro @f91c (And.intro @dr_1 (And.intro @w_1 (And.intro @g0_1 (And.intro @g1_1 (And.intro @g2_1 (And.intro @g3_1 (And.intro @g4_1 (And.intro @g5_1 (And.intro @g6_1 (And.intro @g7_1 (And.intro @g8_1 (And.intro @g9_1 (And.intro @kk1c (And.intro @dc103 (And.intro @dc104 p_impl_GoodSpans_tf.down))))))))))))))))))))) @f91d)
          · rintro σ hg_1
            rw [hJ_1] at hg_1
            obtain ⟨hj_1, g0_1a, g1_1a, g2_1a, g3_1a, g4_1a, g5_1a, g6_1a⟩ := hg_1
            cases hj_1
            try dsimp only at h_0
            by_cases c105 : (i_0 : Int) > 0
            case neg =>
             rw [if_neg c105] at h_0
             have dc105 := decide_eq_false c105
             obtain ⟨v114, ev114, h_0⟩ := Option.bind_eq_some_iff.1 h_0
             try dsimp only at h_0
             have ff := And.intro @dr_0 (And.intro @w_0 (And.intro @kk0c (And.intro @dc87 (And.intro @dc89 (And.intro @f91c (And.intro @g0_1a (And.intro @g1_1a (And.intro @g2_1a (And.intro @g3_1a (And.intro @g4_1a (And.intro @g5_1a (And.intro @g6_1a (And.intro @dc105 p_impl_GoodSpans_tf.down)))))))))))))
             try refine st_by ff ?_
             repeat' (first | exact trivial | refine And.intro sd ?_ | (refine aw_drawn (id := 6) ?_ [[], [0], [0, 1], [0, 1, 2], [0, 1, 2, 3], [0, 1, 2, 3, 4], [0, 1, 2, 3], [0, 1, 2, 3], [0, 1, 2, 3, 7], [0, 1, 2, 3, 6, 7, 8], [0, 1, 2, 3, 6, 7, 8, 9], [0, 1, 2, 3, 6, 7, 8, 9, 10], [0, 1, 2, 3, 4, 5, 6, 7, 8, 9, 10, 11], [0, 1, 2, 3, 4, 5, 6, 7, 8, 9, 10, 11, 12], [0, 1, 2, 3, 4, 5, 6, 7, 8, 9, 10, 11, 12, 13], [0, 1, 2, 3, 4, 5, 6, 7, 8, 9, 10, 11, 12, 13, 14], [0, 1, 2, 3, 4, 5, 6, 7, 8, 9, 10, 11, 12, 13], [0, 1, 2, 3, 4, 5, 6, 7, 8, 9, 10, 11, 12, 13], [0, 1, 2, 3, 4, 5, 6, 7, 8, 9, 10, 11, 12, 13, 17], [0, 1, 2, 3, 4, 5, 6, 7, 8, 9, 10, 11, 12, 13, 16, 17, 18], [0, 1, 2, 3, 4, 5, 6, 7, 8, 9, 10, 11, 12, 13, 16, 17, 18, 19], [0, 1, 2, 3, 4, 5, 6, 7, 8, 9, 10, 11, 12, 13, 16, 17, 18, 19, 20], [0, 1, 2, 3, 4, 5, 6, 7, 8, 9, 10, 11, 12, 13, 14, 15, 16, 17, 18, 19, 20, 21], [0, 1, 2, 3, 4, 5, 6, 7, 8, 9, 10, 11, 12, 13, 14, 15, 16, 17, 18, 19, 20, 21, 22], [0, 1, 2, 3, 4, 5, 6, 7, 8, 9, 10, 11, 12, 13, 14, 15, 16, 17, 18, 19, 20, 21, 22, 23]] 22 ?_ ?_; (· kernel_rfl); (· kernel_rfl); refine st_by ff ?_) | (refine aw_drawn (id := 14) ?_ [[], [0], [0, 1], [0, 1, 2], [0, 1, 2, 3], [0, 1, 2, 3, 4], [0, 1, 2, 3, 4, 5], [0, 1, 2, 3, 4, 5, 6], [0, 1, 2, 3, 4, 5, 6, 7], [0, 1, 2, 3, 4, 5, 6, 7], [0, 1, 2, 3, 4, 5, 6, 7, 9], [0, 1, 2, 3, 4, 5, 6, 7, 8, 9, 10], [0, 1, 2, 3, 4, 5, 6, 7], [0, 1, 2, 3, 4, 5, 6, 7, 12], [0, 1, 2, 3, 4, 5, 6, 7, 8, 9, 10, 11, 12, 13], [0, 1, 2, 3, 4, 5, 6, 7, 8, 9, 10, 11, 12, 13, 14], [0, 1, 2, 3, 4, 5, 6, 7, 8, 9, 10, 11, 12, 13, 14, 15], [0, 1, 2, 3, 4, 5, 6, 7, 8, 9, 10, 11, 12, 13, 14, 15, 16], [0, 1, 2, 3, 4, 5, 6, 7, 8, 9, 10, 11, 12, 13, 14, 15, 16, 17], [0, 1, 2, 3, 4, 5, 6, 7, 8, 9, 10, 11, 12, 13, 14, 15, 16, 17], [0, 1, 2, 3, 4, 5, 6, 7, 8, 9, 10, 11, 12, 13, 14, 15, 16, 17, 18, 19], [0, 1, 2, 3, 4, 5, 6, 7, 8, 9, 10, 11, 12, 13, 14, 15, 16, 17, 18, 19, 20], [0, 1, 2, 3, 4, 5, 6, 7, 8, 9, 10, 11, 12, 13, 14, 15, 16, 17, 18, 19, 20, 21], [0, 1, 2, 3, 4, 5, 6, 7, 8, 9, 10, 11, 12, 13, 14, 15, 16, 17, 18, 19, 20, 21, 22]] 20 ?_ ?_; (· kernel_rfl); (· kernel_rfl); refine st_by ff ?_))
             first
             | (refine cq_own (p_impl_above_does N l_0 (i_0 : Int) v114 ev114) (hf_by ff) kr ⟨p_impl_GoodSpans_sa ff @f91d, ?_⟩; clear ff)
             | (refine cq_down (p_impl_above_does N l_0 (i_0 : Int) v114 ev114) (hf_by ff) kr ⟨p_impl_GoodSpans_sa ff @f91d, ?_⟩; clear ff)
             by_cases c115 : (v114.length : Int) > 12
             · rw [if_pos c115] at h_0
               have dc115 := decide_eq_true c115
               cases h_0
               try dsimp only at h
               have ff := And.intro @dr_0 (And.intro @w_0 (And.intro @kk0c (And.intro @dc87 (And.intro @dc89 (And.intro @f91c (And.intro @g0_1a (And.intro @g1_1a (And.intro @g2_1a (And.intro @g3_1a (And.intro @g4_1a (And.intro @g5_1a (And.intro @g6_1a (And.intro @dc105 (And.intro @dc115 p_impl_GoodSpans_tf.down))))))))))))))
               try refine st_by ff ?_
               repeat' (first | exact trivial | refine And.intro sd ?_)
               try clear ff
               cases h
               exact ret_q1 rfl (p_impl_GoodSpans_rt (And.intro @dr_0 (And.intro @w_0 (And.intro @kk0c (And.intro @dc87 (And.intro @dc89 (And.intro @f91c (And.intro @g0_1a (And.intro @g1_1a (And.intro @g2_1a (And.intro @g3_1a (And.intro @g4_1a (And.intro @g5_1a (And.intro @g6_1a (And.intro @dc105 (And.intro @dc115 p_impl_GoodSpans_tf.down))))))))))))))) @f91d)
             rw [if_neg c115] at h_0
             have dc115 := decide_eq_false c115
             have ff := And.intro @dr_0 (And.intro @w_0 (And.intro @kk0c (And.intro @dc87 (And.intro @dc89 (And.intro @f91c (And.intro @g0_1a (And.intro @g1_1a (And.intro @g2_1a (And.intro @g3_1a (And.intro @g4_1a (And.intro @g5_1a (And.intro @g6_1a (And.intro @dc105 (And.intro @dc115 p_impl_GoodSpans_tf.down))))))))))))))
             try refine st_by ff ?_
             repeat' (first | exact trivial | refine And.intro sd ?_)
             try clear ff
             refine Back.intro (i_0 + 1) ?_ ?_
             · rw [hM_0]; show l_0.length - (i_0 + 1) < l_0.length - i_0; omega
             rw [hI_0]
             refine ⟨⟨by show i_0 + 1 ≤ l_0.length; omega, by show p_impl_GoodSpans_l0 N l_0 (l_0.drop (i_0 + 1)) (i_0 + 1) = some q_0; rw [hd_0]; exact h_0⟩, ?_⟩
             exact p_impl_GoodSpans_pv (And.intro @dr_0 (And.intro @w_0 (And.intro @kk0c (And.intro @dc87 (And.intro @dc89 (And.intro @f91c (And.intro @g0_1a (And.intro @g1_1a (And.intro @g2_1a (And.intro @g3_1a (And.intro @g4_1a (And.intro @g5_1a (And.intro @g6_1a (And.intro @dc105 (And.intro @dc115 p_impl_GoodSpans_tf.down))))))))))))))) @f91d
            rw [if_pos c105] at h_0
            have dc105 := decide_eq_true c105
            by_cases c106 : x_0.Up ≥ 0
            case neg =>
             rw [if_neg c106] at h_0
             have dc106 := decide_eq_false c106
             obtain ⟨v112, ev112, h_0⟩ := Option.bind_eq_some_iff.1 h_0
             try dsimp only at h_0
             have ff := And.intro @dr_0 (And.intro @w_0 (And.intro @kk0c (And.intro @dc87 (And.intro @dc89 (And.intro @f91c (And.intro @g0_1a (And.intro @g1_1a (And.intro @g2_1a (And.intro @g3_1a (And.intro @g4_1a (And.intro @g5_1a (And.intro @g6_1a (And.intro @dc105 (And.intro @dc106 p_impl_GoodSpans_tf.down))))))))))))))
             try refine st_by ff ?_
             repeat' (first | exact trivial | refine And.intro sd ?_ | (refine aw_drawn (id := 6) ?_ [[], [0], [0, 1], [0, 1, 2], [0, 1, 2, 3], [0, 1, 2, 3, 4], [0, 1, 2, 3], [0, 1, 2, 3], [0, 1, 2, 3, 7], [0, 1, 2, 3, 6, 7, 8], [0, 1, 2, 3, 6, 7, 8, 9], [0, 1, 2, 3, 6, 7, 8, 9, 10], [0, 1, 2, 3, 4, 5, 6, 7, 8, 9, 10, 11], [0, 1, 2, 3, 4, 5, 6, 7, 8, 9, 10, 11, 12], [0, 1, 2, 3, 4, 5, 6, 7, 8, 9, 10, 11, 12, 13], [0, 1, 2, 3, 4, 5, 6, 7, 8, 9, 10, 11, 12, 13, 14], [0, 1, 2, 3, 4, 5, 6, 7, 8, 9, 10, 11, 12, 13], [0, 1, 2, 3, 4, 5, 6, 7, 8, 9, 10, 11, 12, 13], [0, 1, 2, 3, 4, 5, 6, 7, 8, 9, 10, 11, 12, 13, 17], [0, 1, 2, 3, 4, 5, 6, 7, 8, 9, 10, 11, 12, 13, 16, 17, 18], [0, 1, 2, 3, 4, 5, 6, 7, 8, 9, 10, 11, 12, 13, 16, 17, 18, 19], [0, 1, 2, 3, 4, 5, 6, 7, 8, 9, 10, 11, 12, 13, 16, 17, 18, 19, 20], [0, 1, 2, 3, 4, 5, 6, 7, 8, 9, 10, 11, 12, 13, 14, 15, 16, 17, 18, 19, 20, 21], [0, 1, 2, 3, 4, 5, 6, 7, 8, 9, 10, 11, 12, 13, 14, 15, 16, 17, 18, 19, 20, 21, 22], [0, 1, 2, 3, 4, 5, 6, 7, 8, 9, 10, 11, 12, 13, 14, 15, 16, 17, 18, 19, 20, 21, 22, 23]] 22 ?_ ?_; (· kernel_rfl); (· kernel_rfl); refine st_by ff ?_) | (refine aw_drawn (id := 14) ?_ [[], [0], [0, 1], [0, 1, 2], [0, 1, 2, 3], [0, 1, 2, 3, 4], [0, 1, 2, 3, 4, 5], [0, 1, 2, 3, 4, 5, 6], [0, 1, 2, 3, 4, 5, 6, 7], [0, 1, 2, 3, 4, 5, 6, 7], [0, 1, 2, 3, 4, 5, 6, 7, 9], [0, 1, 2, 3, 4, 5, 6, 7, 8, 9, 10], [0, 1, 2, 3, 4, 5, 6, 7], [0, 1, 2, 3, 4, 5, 6, 7, 12], [0, 1, 2, 3, 4, 5, 6, 7, 8, 9, 10, 11, 12, 13], [0, 1, 2, 3, 4, 5, 6, 7, 8, 9, 10, 11, 12, 13, 14], [0, 1, 2, 3, 4, 5, 6, 7, 8, 9, 10, 11, 12, 13, 14, 15], [0, 1, 2, 3, 4, 5, 6, 7, 8, 9, 10, 11, 12, 13, 14, 15, 16], [0, 1, 2, 3, 4, 5, 6, 7, 8, 9, 10, 11, 12, 13, 14, 15, 16, 17], [0, 1, 2, 3, 4, 5, 6, 7, 8, 9, 10, 11, 12, 13, 14, 15, 16, 17], [0, 1, 2, 3, 4, 5, 6, 7, 8, 9, 10, 11, 12, 13, 14, 15, 16, 17, 18, 19], [0, 1, 2, 3, 4, 5, 6, 7, 8, 9, 10, 11, 12, 13, 14, 15, 16, 17, 18, 19, 20], [0, 1, 2, 3, 4, 5, 6, 7, 8, 9, 10, 11, 12, 13, 14, 15, 16, 17, 18, 19, 20, 21], [0, 1, 2, 3, 4, 5, 6, 7, 8, 9, 10, 11, 12, 13, 14, 15, 16, 17, 18, 19, 20, 21, 22]] 20 ?_ ?_; (· kernel_rfl); (· kernel_rfl); refine st_by ff ?_))
             first
             | (refine cq_own (p_impl_above_does N l_0 (i_0 : Int) v112 ev112) (hf_by ff) kr ⟨p_impl_GoodSpans_sa ff @f91d, ?_⟩; clear ff)
             | (refine cq_down (p_impl_above_does N l_0 (i_0 : Int) v112 ev112) (hf_by ff) kr ⟨p_impl_GoodSpans_sa ff @f91d, ?_⟩; clear ff)
             by_cases c113 : (v112.length : Int) > 12
             · rw [if_pos c113] at h_0
               have dc113 := decide_eq_true c113
               cases h_0
               try dsimp only at h
               have ff := And.intro @dr_0 (And.intro @w_0 (And.intro @kk0c (And.intro @dc87 (And.intro @dc89 (And.intro @f91c (And.intro @g0_1a (And.intro @g1_1a (And.intro @g2_1a (And.intro @g3_1a (And.intro @g4_1a (And.intro @g5_1a (And.intro @g6_1a (And.intro @dc105 (And.intro @dc106 (And.intro @dc113 p_impl_GoodSpans_tf.down)))))))))))))))
               try refine st_by ff ?_
               repeat' (first | exact trivial | refine And.intro sd ?_)
               try clear ff
               cases h
               exact ret_q1 rfl (p_impl_GoodSpans_rt (And.intro @dr_0 (And.intro @w_0 (And.intro @kk0c (And.intro @dc87 (And.intro @dc89 (And.intro @f91c (And.intro @g0_1a (And.intro @g1_1a (And.intro @g2_1a (And.intro @g3_1a (And.intro @g4_1a (And.intro @g5_1a (And.intro @g6_1a (And.intro @dc105 (And.intro @dc106 (And.intro @dc113 p_impl_GoodSpans_tf.down)))))))))))))))) @f91d)
             rw [if_neg c113] at h_0
             have dc113 := decide_eq_false c113
             have ff := And.intro @dr_0 (And.intro @w_0 (And.intro @kk0c (And.intro @dc87 (And.intro @dc89 (And.intro @f91c (And.intro @g0_1a (And.intro @g1_1a (And.intro @g2_1a (And.intro @g3_1a (And.intro @g4_1a (And.intro @g5_1a (And.intro @g6_1a (And.intro @dc105 (And.intro @dc106 (And.intro @dc113 p_impl_GoodSpans_tf.down)))))))))))))))
             try refine st_by ff ?_
             repeat' (first | exact trivial | refine And.intro sd ?_)
             try clear ff
             refine Back.intro (i_0 + 1) ?_ ?_
             · rw [hM_0]; show l_0.length - (i_0 + 1) < l_0.length - i_0; omega
             rw [hI_0]
             refine ⟨⟨by show i_0 + 1 ≤ l_0.length; omega, by show p_impl_GoodSpans_l0 N l_0 (l_0.drop (i_0 + 1)) (i_0 + 1) = some q_0; rw [hd_0]; exact h_0⟩, ?_⟩
             exact p_impl_GoodSpans_pv (And.intro @dr_0 (And.intro @w_0 (And.intro @kk0c (And.intro @dc87 (And.intro @dc89 (And.intro @f91c (And.intro @g0_1a (And.intro @g1_1a (And.intro @g2_1a (And.intro @g3_1a (And.intro @g4_1a (And.intro @g5_1a (And.intro @g6_1a (And.intro @dc105 (And.intro @dc106 (And.intro @dc113 p_impl_GoodSpans_tf.down)))))))))))))))) @f91d
            rw [if_pos c106] at h_0
            have dc106 := decide_eq_true c106
            obtain ⟨v107, ev107, h_0⟩ := Option.bind_eq_some_iff.1 h_0
            try dsimp only at h_0
            have ff := And.intro @dr_0 (And.intro @w_0 (And.intro @kk0c (And.intro @dc87 (And.intro @dc89 (And.intro @f91c (And.intro @g0_1a (And.intro @g1_1a (And.intro @g2_1a (And.intro @g3_1a (And.intro @g4_1a (And.intro @g5_1a (And.intro @g6_1a (And.intro @dc105 (And.intro @dc106 p_impl_GoodSpans_tf.down))))))))))))))
            try refine st_by ff ?_
            repeat' (first | exact trivial | refine And.intro sd ?_ | (refine aw_drawn (id := 6) ?_ [[], [0], [0, 1], [0, 1, 2], [0, 1, 2, 3], [0, 1, 2, 3, 4], [0, 1, 2, 3], [0, 1, 2, 3], [0, 1, 2, 3, 7], [0, 1, 2, 3, 6, 7, 8], [0, 1, 2, 3, 6, 7, 8, 9], [0, 1, 2, 3, 6, 7, 8, 9, 10], [0, 1, 2, 3, 4, 5, 6, 7, 8, 9, 10, 11], [0, 1, 2, 3, 4, 5, 6, 7, 8, 9, 10, 11, 12], [0, 1, 2, 3, 4, 5, 6, 7, 8, 9, 10, 11, 12, 13], [0, 1, 2, 3, 4, 5, 6, 7, 8, 9, 10, 11, 12, 13, 14], [0, 1, 2, 3, 4, 5, 6, 7, 8, 9, 10, 11, 12, 13], [0, 1, 2, 3, 4, 5, 6, 7, 8, 9, 10, 11, 12, 13], [0, 1, 2, 3, 4, 5, 6, 7, 8, 9, 10, 11, 12, 13, 17], [0, 1, 2, 3, 4, 5, 6, 7, 8, 9, 10, 11, 12, 13, 16, 17, 18], [0, 1, 2, 3, 4, 5, 6, 7, 8, 9, 10, 11, 12, 13, 16, 17, 18, 19], [0, 1, 2, 3, 4, 5, 6, 7, 8, 9, 10, 11, 12, 13, 16, 17, 18, 19, 20], [0, 1, 2, 3, 4, 5, 6, 7, 8, 9, 10, 11, 12, 13, 14, 15, 16, 17, 18, 19, 20, 21], [0, 1, 2, 3, 4, 5, 6, 7, 8, 9, 10, 11, 12, 13, 14, 15, 16, 17, 18, 19, 20, 21, 22], [0, 1, 2, 3, 4, 5, 6, 7, 8, 9, 10, 11, 12, 13, 14, 15, 16, 17, 18, 19, 20, 21, 22, 23]] 22 ?_ ?_; (· kernel_rfl); (· kernel_rfl); refine st_by ff ?_) | (refine aw_drawn (id := 14) ?_ [[], [0], [0, 1], [0, 1, 2], [0, 1, 2, 3], [0, 1, 2, 3, 4], [0, 1, 2, 3, 4, 5], [0, 1, 2, 3, 4, 5, 6], [0, 1, 2, 3, 4, 5, 6, 7], [0, 1, 2, 3, 4, 5, 6, 7], [0, 1, 2, 3, 4, 5, 6, 7, 9], [0, 1, 2, 3, 4, 5, 6, 7, 8, 9, 10], [0, 1, 2, 3, 4, 5, 6, 7], [0, 1, 2, 3, 4, 5, 6, 7, 12], [0, 1, 2, 3, 4, 5, 6, 7, 8, 9, 10, 11, 12, 13], [0, 1, 2, 3, 4, 5, 6, 7, 8, 9, 10, 11, 12, 13, 14], [0, 1, 2, 3, 4, 5, 6, 7, 8, 9, 10, 11, 12, 13, 14, 15], [0, 1, 2, 3, 4, 5, 6, 7, 8, 9, 10, 11, 12, 13, 14, 15, 16], [0, 1, 2, 3, 4, 5, 6, 7, 8, 9, 10, 11, 12, 13, 14, 15, 16, 17], [0, 1, 2, 3, 4, 5, 6, 7, 8, 9, 10, 11, 12, 13, 14, 15, 16, 17], [0, 1, 2, 3, 4, 5, 6, 7, 8, 9, 10, 11, 12, 13, 14, 15, 16, 17, 18, 19], [0, 1, 2, 3, 4, 5, 6, 7, 8, 9, 10, 11, 12, 13, 14, 15, 16, 17, 18, 19, 20], [0, 1, 2, 3, 4, 5, 6, 7, 8, 9, 10, 11, 12, 13, 14, 15, 16, 17, 18, 19, 20, 21], [0, 1, 2, 3, 4, 5, 6, 7, 8, 9, 10, 11, 12, 13, 14, 15, 16, 17, 18, 19, 20, 21, 22]] 20 ?_ ?_; (· kernel_rfl); (· kernel_rfl); refine st_by ff ?_))
            first
            | (refine cq_own (p_impl_above_does N l_0 (IntKind.i64.wrap ((i_0 : Int) - 1)) v107 ev107) (hf_by ff) kr ⟨p_impl_GoodSpans_sa ff @f91d, ?_⟩; clear ff)
            | (refine cq_down (p_impl_above_does N l_0 (IntKind.i64.wrap ((i_0 : Int) - 1)) v107 ev107) (hf_by ff) kr ⟨p_impl_GoodSpans_sa ff @f91d, ?_⟩; clear ff)
            obtain ⟨v108, ev108, h_0⟩ := Option.bind_eq_some_iff.1 h_0
            try dsimp only at h_0
            have ff := And.intro @dr_0 (And.intro @w_0 (And.intro @kk0c (And.intro @dc87 (And.intro @dc89 (And.intro @f91c (And.intro @g0_1a (And.intro @g1_1a (And.intro @g2_1a (And.intro @g3_1a (And.intro @g4_1a (And.intro @g5_1a (And.intro @g6_1a (And.intro @dc105 (And.intro @dc106 p_impl_GoodSpans_tf.down))))))))))))))
            try refine st_by ff ?_
            repeat' (first | exact trivial | refine And.intro sd ?_)
            first
            | (refine cq_lend (p_slices_Contains_int_int_does v107 x_0.Up v108 ev108) (hf_by ff) kr ⟨p_impl_GoodSpans_sa ff @f91d, ?_⟩; clear ff)
            | (refine cq_dlend (p_slices_Contains_int_int_does v107 x_0.Up v108 ev108) (hf_by ff) kr ⟨p_impl_GoodSpans_sa ff @f91d, ?_⟩; clear ff)
            by_cases c109 : v108 = true
            case neg =>
             rw [if_neg c109] at h_0
             have dc109 := eq_false_of_ne_true c109
             cases h_0
             try dsimp only at h
             have ff := And.intro @dr_0 (And.intro @w_0 (And.intro @kk0c (And.intro @dc87 (And.intro @dc89 (And.intro @f91c (And.intro @g0_1a (And.intro @g1_1a (And.intro @g2_1a (And.intro @g3_1a (And.intro @g4_1a (And.intro @g5_1a (And.intro @g6_1a (And.intro @dc105 (And.intro @dc106 (And.intro @dc109 p_impl_GoodSpans_tf.down)))))))))))))))
             try refine st_by ff ?_
             repeat' (first | exact trivial | refine And.intro sd ?_)
             try clear ff
             cases h
             exact ret_q1 rfl (p_impl_GoodSpans_rt (And.intro @dr_0 (And.intro @w_0 (And.intro @kk0c (And.intro @dc87 (And.intro @dc89 (And.intro @f91c (And.intro @g0_1a (And.intro @g1_1a (And.intro @g2_1a (And.intro @g3_1a (And.intro @g4_1a (And.intro @g5_1a (And.intro @g6_1a (And.intro @dc105 (And.intro @dc106 (And.intro @dc109 p_impl_GoodSpans_tf.down)))))))))))))))) @f91d)
            rw [if_pos c109] at h_0
            have dc109 := c109
            obtain ⟨v110, ev110, h_0⟩ := Option.bind_eq_some_iff.1 h_0
            try dsimp only at h_0
            have ff := And.intro @dr_0 (And.intro @w_0 (And.intro @kk0c (And.intro @dc87 (And.intro @dc89 (And.intro @f91c (And.intro @g0_1a (And.intro @g1_1a (And.intro @g2_1a (And.intro @g3_1a (And.intro @g4_1a (And.intro @g5_1a (And.intro @g6_1a (And.intro @dc105 (And.intro @dc106 (And.intro @dc109 p_impl_GoodSpans_tf.down)))))))))))))))
            try refine st_by ff ?_
            repeat' (first | exact trivial | refine And.intro sd ?_)
            first
            | (refine cq_own (p_impl_above_does N l_0 (i_0 : Int) v110 ev110) (hf_by ff) kr ⟨p_impl_GoodSpans_sa ff @f91d, ?_⟩; clear ff)
            | (refine cq_down (p_impl_above_does N l_0 (i_0 : Int) v110 ev110) (hf_by ff) kr ⟨p_impl_GoodSpans_sa ff @f91d, ?_⟩; clear ff)
            by_cases c111 : (v110.length : Int) > 12
            · rw [if_pos c111] at h_0
              have dc111 := decide_eq_true c111
              cases h_0
              try dsimp only at h
              have ff := And.intro @dr_0 (And.intro @w_0 (And.intro @kk0c (And.intro @dc87 (And.intro @dc89 (And.intro @f91c (And.intro @g0_1a (And.intro @g1_1a (And.intro @g2_1a (And.intro @g3_1a (And.intro @g4_1a (And.intro @g5_1a (And.intro @g6_1a (And.intro @dc105 (And.intro @dc106 (And.intro @dc109 (And.intro @dc111 p_impl_GoodSpans_tf.down))))))))))))))))
              try refine st_by ff ?_
              repeat' (first | exact trivial | refine And.intro sd ?_)
              try clear ff
              cases h
              exact ret_q1 rfl (p_impl_GoodSpans_rt (And.intro @dr_0 (And.intro @w_0 (And.intro @kk0c (And.intro @dc87 (And.intro @dc89 (And.intro @f91c (And.intro @g0_1a (And.intro @g1_1a (And.intro @g2_1a (And.intro @g3_1a (And.intro @g4_1a (And.intro @g5_1a (And.intro @g6_1a (And.intro @dc105 (And.intro @dc106 (And.intro @dc109 (And.intro @dc111 p_impl_GoodSpans_tf.down))))))))))))))))) @f91d)
            rw [if_neg c111] at h_0
            have dc111 := decide_eq_false c111
            have ff := And.intro @dr_0 (And.intro @w_0 (And.intro @kk0c (And.intro @dc87 (And.intro @dc89 (And.intro @f91c (And.intro @g0_1a (And.intro @g1_1a (And.intro @g2_1a (And.intro @g3_1a (And.intro @g4_1a (And.intro @g5_1a (And.intro @g6_1a (And.intro @dc105 (And.intro @dc106 (And.intro @dc109 (And.intro @dc111 p_impl_GoodSpans_tf.down))))))))))))))))
            try refine st_by ff ?_
            repeat' (first | exact trivial | refine And.intro sd ?_)
            try clear ff
            refine Back.intro (i_0 + 1) ?_ ?_
            · rw [hM_0]; show l_0.length - (i_0 + 1) < l_0.length - i_0; omega
            rw [hI_0]
            refine ⟨⟨by show i_0 + 1 ≤ l_0.length; omega, by show p_impl_GoodSpans_l0 N l_0 (l_0.drop (i_0 + 1)) (i_0 + 1) = some q_0; rw [hd_0]; exact h_0⟩, ?_⟩
            exact p_impl_GoodSpans_pv (And.intro @dr_0 (And.intro @w_0 (And.intro @kk0c (And.intro @dc87 (And.intro @dc89 (And.intro @f91c (And.intro @g0_1a (And.intro @g1_1a (And.intro @g2_1a (And.intro @g3_1a (And.intro @g4_1a (And.intro @g5_1a (And.intro @g6_1a (And.intro @dc105 (And.intro @dc106 (And.intro @dc109 (And.intro @dc111 p_impl_GoodSpans_tf.down))))))))))))))))) @f91d
        have hrt_1 := fun σ : ASt => congrFun (congrFun hk_1.symm AX.rt) σ
        have hex_1 := fun (i : Nat) (σ : ASt) => congrFun (congrFun hk_1.symm (AX.ex i)) σ
        by_cases c116 : x_0.Up ≥ 0
        case neg =>
         rw [if_neg c116] at h_0
         have dc116 := decide_eq_false c116
         have ff := And.intro @dr_0 (And.intro @w_0 (And.intro @kk0c (And.intro @g0_j0 (And.intro @g1_j0 (And.intro @g2_j0 (And.intro @g3_j0 (And.intro @g4_j0 (And.intro @g5_j0 (And.intro @g6_j0 (And.intro @g7_j0 (And.intro @dc87 (And.intro @hrt_1 (And.intro @hex_1 (And.intro @dc116 p_impl_GoodSpans_tf.down))))))))))))))
         try refine st_by ff ?_
         repeat' (first | exact trivial | refine And.intro sd ?_ | (refine aw_drawn (id := 6) ?_ [[], [0], [0, 1], [0, 1, 2], [0, 1, 2, 3], [0, 1, 2, 3, 4], [0, 1, 2, 3], [0, 1, 2, 3], [0, 1, 2, 3, 7], [0, 1, 2, 3, 6, 7, 8], [0, 1, 2, 3, 6, 7, 8, 9], [0, 1, 2, 3, 6, 7, 8, 9, 10], [0, 1, 2, 3, 4, 5, 6, 7, 8, 9, 10, 11], [0, 1, 2, 3, 4, 5, 6, 7, 8, 9, 10, 11, 12], [0, 1, 2, 3, 4, 5, 6, 7, 8, 9, 10, 11, 12, 13], [0, 1, 2, 3, 4, 5, 6, 7, 8, 9, 10, 11, 12, 13, 14], [0, 1, 2, 3, 4, 5, 6, 7, 8, 9, 10, 11, 12, 13], [0, 1, 2, 3, 4, 5, 6, 7, 8, 9, 10, 11, 12, 13], [0, 1, 2, 3, 4, 5, 6, 7, 8, 9, 10, 11, 12, 13, 17], [0, 1, 2, 3, 4, 5, 6, 7, 8, 9, 10, 11, 12, 13, 16, 17, 18], [0, 1, 2, 3, 4, 5, 6, 7, 8, 9, 10, 11, 12, 13, 16, 17, 18, 19], [0, 1, 2, 3, 4, 5, 6, 7, 8, 9, 10, 11, 12, 13, 16, 17, 18, 19, 20], [0, 1, 2, 3, 4, 5, 6, 7, 8, 9, 10, 11, 12, 13, 14, 15, 16, 17, 18, 19, 20, 21], [0, 1, 2, 3, 4, 5, 6, 7, 8, 9, 10, 11, 12, 13, 14, 15, 16, 17, 18, 19, 20, 21, 22], [0, 1, 2, 3, 4, 5, 6, 7, 8, 9, 10, 11, 12, 13, 14, 15, 16, 17, 18, 19, 20, 21, 22, 23]] 22 ?_ ?_; (· kernel_rfl); (· kernel_rfl); refine st_by ff ?_))
         try clear ff
         refine key_1 _ ?_
         refine ⟨false, h_0, ?_⟩
         exact p_impl_GoodSpans_pv (And.intro @dr_0 (And.intro @w_0 (And.intro @kk0c (And.intro @g0_j0 (And.intro @g1_j0 (And.intro @g2_j0 (And.intro @g3_j0 (And.intro @g4_j0 (And.intro @g5_j0 (And.intro @g6_j0 (And.intro @g7_j0 (And.intro @dc87 (And.intro @hrt_1 (And.intro @hex_1 (And.intro @dc116 p_impl_GoodSpans_tf.down))))))))))))))) trivial
        rw [if_pos c116] at h_0
        have dc116 := decide_eq_true c116
        obtain ⟨x117, ex117, h_0⟩ := Option.bind_eq_some_iff.1 h_0
        try dsimp only at h_0
        have f118a := idx_lo ex117
        have f118b := idx_hi ex117
        have f118c : (esSpan l_0).drop (x_0.Up.toNat * 4) = eSpan x117 ++ esSpan (l_0.drop (x_0.Up.toNat + 1)) := drop_enc (fun _ => rfl) (idx_get ex117)
        by_cases c119 : x_0.From < x117.From
        case neg =>
         rw [if_neg c119] at h_0
         have dc119 := decide_eq_false c119
         have ff := And.intro @dr_0 (And.intro @w_0 (And.intro @kk0c (And.intro @g0_j0 (And.intro @g1_j0 (And.intro @g2_j0 (And.intro @g3_j0 (And.intro @g4_j0 (And.intro @g5_j0 (And.intro @g6_j0 (And.intro @g7_j0 (And.intro @dc87 (And.intro @hrt_1 (And.intro @hex_1 (And.intro @dc116 (And.intro @f118c (And.intro @dc119 p_impl_GoodSpans_tf.down))))))))))))))))
         try refine st_by ff ?_
         repeat' (first | exact trivial | refine And.intro sd ?_ | (refine aw_drawn (id := 6) ?_ [[], [0], [0, 1], [0, 1, 2], [0, 1, 2, 3], [0, 1, 2, 3, 4], [0, 1, 2, 3], [0, 1, 2, 3], [0, 1, 2, 3, 7], [0, 1, 2, 3, 6, 7, 8], [0, 1, 2, 3, 6, 7, 8, 9], [0, 1, 2, 3, 6, 7, 8, 9, 10], [0, 1, 2, 3, 4, 5, 6, 7, 8, 9, 10, 11], [0, 1, 2, 3, 4, 5, 6, 7, 8, 9, 10, 11, 12], [0, 1, 2, 3, 4, 5, 6, 7, 8, 9, 10, 11, 12, 13], [0, 1, 2, 3, 4, 5, 6, 7, 8, 9, 10, 11, 12, 13, 14], [0, 1, 2, 3, 4, 5, 6, 7, 8, 9, 10, 11, 12, 13], [0, 1, 2, 3, 4, 5, 6, 7, 8, 9, 10, 11, 12, 13], [0, 1, 2, 3, 4, 5, 6, 7, 8, 9, 10, 11, 12, 13, 17], [0, 1, 2, 3, 4, 5, 6, 7, 8, 9, 10, 11, 12, 13, 16, 17, 18], [0, 1, 2, 3, 4, 5, 6, 7, 8, 9, 10, 11, 12, 13, 16, 17, 18, 19], [0, 1, 2, 3, 4, 5, 6, 7, 8, 9, 10, 11, 12, 13, 16, 17, 18, 19, 20], [0, 1, 2, 3, 4, 5, 6, 7, 8, 9, 10, 11, 12, 13, 14, 15, 16, 17, 18, 19, 20, 21], [0, 1, 2, 3, 4, 5, 6, 7, 8, 9, 10, 11, 12, 13, 14, 15, 16, 17, 18, 19, 20, 21, 22], [0, 1, 2, 3, 4, 5, 6, 7, 8, 9, 10, 11, 12, 13, 14, 15, 16, 17, 18, 19, 20, 21, 22, 23]] 22 ?_ ?_; (· kernel_rfl); (· kernel_rfl); refine st_by ff ?_))
         try clear ff
         refine key_1 _ ?_
         refine ⟨decide (x_0.To > x117.To), h_0, ?_⟩
         exact p_impl_GoodSpans_pv (And.intro @dr_0 (And.intro @w_0 (And.intro @kk0c (And.intro @g0_j0 (And.intro @g1_j0 (And.intro @g2_j0 (And.intro @g3_j0 (And.intro @g4_j0 (And.intro @g5_j0 (And.intro @g6_j0 (And.intro @g7_j0 (And.intro @dc87 (And.intro @hrt_1 (And.intro @hex_1 (And.intro @dc116 (And.intro @f118c (And.intro @dc119 p_impl_GoodSpans_tf.down))))))))))))))))) trivial
        rw [if_pos c119] at h_0
        have dc119 := decide_eq_true c119
        have ff := And.intro @dr_0 (And.intro @w_0 (And.intro @kk0c (And.intro @g0_j0 (And.intro @g1_j0 (And.intro @g2_j0 (And.intro @g3_j0 (And.intro @g4_j0 (And.intro @g5_j0 (And.intro @g6_j0 (And.intro @g7_j0 (And.intro @dc87 (And.intro @hrt_1 (And.intro @hex_1 (And.intro @dc116 (And.intro @f118c (And.intro @dc119 p_impl_GoodSpans_tf.down))))))))))))))))
        try refine st_by ff ?_
        repeat' (first | exact trivial | refine And.intro sd ?_ | (refine aw_drawn (id := 6) ?_ [[], [0], [0, 1], [0, 1, 2], [0, 1, 2, 3], [0, 1, 2, 3, 4], [0, 1, 2, 3], [0, 1, 2, 3], [0, 1, 2, 3, 7], [0, 1, 2, 3, 6, 7, 8], [0, 1, 2, 3, 6, 7, 8, 9], [0, 1, 2, 3, 6, 7, 8, 9, 10], [0, 1, 2, 3, 4, 5, 6, 7, 8, 9, 10, 11], [0, 1, 2, 3, 4, 5, 6, 7, 8, 9, 10, 11, 12], [0, 1, 2, 3, 4, 5, 6, 7, 8, 9, 10, 11, 12, 13], [0, 1, 2, 3, 4, 5, 6, 7, 8, 9, 10, 11, 12, 13, 14], [0, 1, 2, 3, 4, 5, 6, 7, 8, 9, 10, 11, 12, 13], [0, 1, 2, 3, 4, 5, 6, 7, 8, 9, 10, 11, 12, 13], [0, 1, 2, 3, 4, 5, 6, 7, 8, 9, 10, 11, 12, 13, 17], [0, 1, 2, 3, 4, 5, 6, 7, 8, 9, 10, 11, 12, 13, 16, 17, 18], [0, 1, 2, 3, 4, 5, 6, 7, 8, 9, 10, 11, 12, 13, 16, 17, 18, 19], [0, 1, 2, 3, 4, 5, 6, 7, 8, 9, 10, 11, 12, 13, 16, 17, 18, 19, 20], [0, 1, 2, 3, 4, 5, 6, 7, 8, 9, 10, 11, 12, 13, 14, 15, 16, 17, 18, 19, 20, 21], [0, 1, 2, 3, 4, 5, 6, 7, 8, 9, 10, 11, 12, 13, 14, 15, 16, 17, 18, 19, 20, 21, 22], [0, 1, 2, 3, 4, 5, 6, 7, 8, 9, 10, 11, 12, 13, 14, 15, 16, 17, 18, 19, 20, 21, 22, 23]] 22 ?_ ?_; (· kernel_rfl); (· kernel_rfl); refine st_by ff ?_))
        try clear ff
        refine key_1 _ ?_
        refine ⟨true, h_0, ?_⟩
        exact p_impl_GoodSpans_pv (And.intro @dr_0 (And.intro @w_0 (And.intro @kk0c (And.intro @g0_j0 (And.intro @g1_j0 (And.intro @g2_j0 (And.intro @g3_j0 (And.intro @g4_j0 (And.intro @g5_j0 (And.intro @g6_j0 (And.intro @g7_j0 (And.intro @dc87 (And.intro @hrt_1 (And.intro @hex_1 (And.intro @dc116 (And.intro @f118c (And.intro @dc119 p_impl_GoodSpans_tf.down))))))))))))))))) trivial
      have hrt_0 := fun σ : ASt => congrFun (congrFun hk_0.symm AX.rt) σ
      have hex_0 := fun (i : Nat) (σ : ASt) => congrFun (congrFun hk_0.symm (AX.ex i)) σ
      by_cases c120 : x_0.Name.size ≤ 9223372036854775807
      case neg => rw [if_neg c120] at h_0; cases h_0
      rw [if_pos c120] at h_0
      have ff := And.intro @dr_0 (And.intro @w_0 (And.intro @g0_0 (And.intro @g1_0 (And.intro @g2_0 (And.intro @g3_0 (And.intro @kk0c (And.intro @hrt_0 (And.intro @hex_0 p_impl_GoodSpans_tf.down))))))))
      try refine st_by ff ?_
      repeat' (first | exact trivial | refine And.intro sd ?_)
      first
      | (refine cq_call (implGoodName_does x_0.Name (by first | assumption | omega)) (hf_by ff) kr ⟨p_impl_GoodSpans_sa ff trivial, ?_⟩; clear ff)
      | (refine cq_dcall (implGoodName_does x_0.Name (by first | assumption | omega)) (hf_by ff) kr ⟨p_impl_GoodSpans_sa ff trivial, ?_⟩; clear ff)
      by_cases c121 : (goodName x_0.Name) = true
      case neg =>
       rw [if_neg c121] at h_0
       have dc121 := eq_false_of_ne_true c121
       have ff := And.intro @dr_0 (And.intro @w_0 (And.intro @g0_0 (And.intro @g1_0 (And.intro @g2_0 (And.intro @g3_0 (And.intro @kk0c (And.intro @hrt_0 (And.intro @hex_0 (And.intro @dc121 p_impl_GoodSpans_tf.down)))))))))
       try refine st_by ff ?_
       repeat' (first | exact trivial | refine And.intro sd ?_)
       try clear ff
       refine key_0 _ ?_
       refine ⟨true, h_0, ?_⟩
       exact p_impl_GoodSpans_pv (And.intro @dr_0 (And.intro @w_0 (And.intro @g0_0 (And.intro @g1_0 (And.intro @g2_0 (And.intro @g3_0 (And.intro @kk0c (And.intro @hrt_0 (And.intro @hex_0 (And.intro @dc121 p_impl_GoodSpans_tf.down)))))))))) trivial
      rw [if_pos c121] at h_0
      have dc121 := c121
      have ff := And.intro @dr_0 (And.intro @w_0 (And.intro @g0_0 (And.intro @g1_0 (And.intro @g2_0 (And.intro @g3_0 (And.intro @kk0c (And.intro @hrt_0 (And.intro @hex_0 (And.intro @dc121 p_impl_GoodSpans_tf.down)))))))))
      try refine st_by ff ?_
      repeat' (first | exact trivial | refine And.intro sd ?_)
      first
      | (refine cq_call (isTime_does x_0.From) (hf_by ff) kr ⟨p_impl_GoodSpans_sa ff trivial, ?_⟩; clear ff)
      | (refine cq_dcall (isTime_does x_0.From) (hf_by ff) kr ⟨p_impl_GoodSpans_sa ff trivial, ?_⟩; clear ff)
      by_cases c122 : (rng x_0.From 0 100000) = true
      case neg =>
       rw [if_neg c122] at h_0
       have dc122 := eq_false_of_ne_true c122
       have ff := And.intro @dr_0 (And.intro @w_0 (And.intro @g0_0 (And.intro @g1_0 (And.intro @g2_0 (And.intro @g3_0 (And.intro @kk0c (And.intro @hrt_0 (And.intro @hex_0 (And.intro @dc121 (And.intro @dc122 p_impl_GoodSpans_tf.down))))))))))
       try refine st_by ff ?_
       repeat' (first | exact trivial | refine And.intro sd ?_)
       try clear ff
       refine key_0 _ ?_
       refine ⟨true, h_0, ?_⟩
       exact p_impl_GoodSpans_pv (And.intro @dr_0 (And.intro @w_0 (And.intro @g0_0 (And.intro @g1_0 (And.intro @g2_0 (And.intro @g3_0 (And.intro @kk0c (And.intro @hrt_0 (And.intro @hex_0 (And.intro @dc121 (And.intro @dc122 p_impl_GoodSpans_tf.down))))))))))) trivial
      rw [if_pos c122] at h_0
      have dc122 := c122
      have ff := And.intro @dr_0 (And.intro @w_0 (And.intro @g0_0 (And.intro @g1_0 (And.intro @g2_0 (And.intro @g3_0 (And.intro @kk0c (And.intro @hrt_0 (And.intro @hex_0 (And.intro @dc121 (And.intro @dc122 p_impl_GoodSpans_tf.down))))))))))
      try refine st_by ff ?_
      repeat' (first | exact trivial | refine And.intro sd ?_)
      first
      | (refine cq_call (isTime_does x_0.To) (hf_by ff) kr ⟨p_impl_GoodSpans_sa ff trivial, ?_⟩; clear ff)
      | (refine cq_dcall (isTime_does x_0.To) (hf_by ff) kr ⟨p_impl_GoodSpans_sa ff trivial, ?_⟩; clear ff)
      by_cases c123 : (rng x_0.To 0 100000) = true
      case neg =>
       rw [if_neg c123] at h_0
       have dc123 := eq_false_of_ne_true c123
       have ff := And.intro @dr_0 (And.intro @w_0 (And.intro @g0_0 (And.intro @g1_0 (And.intro @g2_0 (And.intro @g3_0 (And.intro @kk0c (And.intro @hrt_0 (And.intro @hex_0 (And.intro @dc121 (And.intro @dc122 (And.intro @dc123 p_impl_GoodSpans_tf.down)))))))))))
       try refine st_by ff ?_
       repeat' (first | exact trivial | refine And.intro sd ?_)
       try clear ff
       refine key_0 _ ?_
       refine ⟨true, h_0, ?_⟩
       exact p_impl_GoodSpans_pv (And.intro @dr_0 (And.intro @w_0 (And.intro @g0_0 (And.intro @g1_0 (And.intro @g2_0 (And.intro @g3_0 (And.intro @kk0c (And.intro @hrt_0 (And.intro @hex_0 (And.intro @dc121 (And.intro @dc122 (And.intro @dc123 p_impl_GoodSpans_tf.down)))))))))))) trivial
      rw [if_pos c123] at h_0
      have dc123 := c123
      by_cases c124 : x_0.From > x_0.To
      · rw [if_pos c124] at h_0
        have dc124 := decide_eq_true c124
        have ff := And.intro @dr_0 (And.intro @w_0 (And.intro @g0_0 (And.intro @g1_0 (And.intro @g2_0 (And.intro @g3_0 (And.intro @kk0c (And.intro @hrt_0 (And.intro @hex_0 (And.intro @dc121 (And.intro @dc122 (And.intro @dc123 (And.intro @dc124 p_impl_GoodSpans_tf.down))))))))))))
        try refine st_by ff ?_
        repeat' (first | exact trivial | refine And.intro sd ?_)
        try clear ff
        refine key_0 _ ?_
        refine ⟨true, h_0, ?_⟩
        exact p_impl_GoodSpans_pv (And.intro @dr_0 (And.intro @w_0 (And.intro @g0_0 (And.intro @g1_0 (And.intro @g2_0 (And.intro @g3_0 (And.intro @kk0c (And.intro @hrt_0 (And.intro @hex_0 (And.intro @dc121 (And.intro @dc122 (And.intro @dc123 (And.intro @dc124 p_impl_GoodSpans_tf.down))))))))))))) trivial
      rw [if_neg c124] at h_0
      have dc124 := decide_eq_false c124
      have ff := And.intro @dr_0 (And.intro @w_0 (And.intro @g0_0 (And.intro @g1_0 (And.intro @g2_0 (And.intro @g3_0 (And.intro @kk0c (And.intro @hrt_0 (And.intro @hex_0 (And.intro @dc121 (And.intro @dc122 (And.intro @dc123 (And.intro @dc124 p_impl_GoodSpans_tf.down))))))))))))
      try refine st_by ff ?_
      repeat' (first | exact trivial | refine And.intro sd ?_)
      first
      | (refine cq_call (inRange_does x_0.Up (-1) (IntKind.i64.wrap ((i_0 : Int) - 1))) (hf_by ff) kr ⟨p_impl_GoodSpans_sa ff trivial, ?_⟩; clear ff)
      | (refine cq_dcall (inRange_does x_0.Up (-1) (IntKind.i64.wrap ((i_0 : Int) - 1))) (hf_by ff) kr ⟨p_impl_GoodSpans_sa ff trivial, ?_⟩; clear ff)
      have ff := And.intro @dr_0 (And.intro @w_0 (And.intro @g0_0 (And.intro @g1_0 (And.intro @g2_0 (And.intro @g3_0 (And.intro @kk0c (And.intro @hrt_0 (And.intro @hex_0 (And.intro @dc121 (And.intro @dc122 (And.intro @dc123 (And.intro @dc124 p_impl_GoodSpans_tf.down))))))))))))
      try refine st_by ff ?_
      repeat' (first | exact trivial | refine And.intro sd ?_)
      try clear ff
      refine key_0 _ ?_
      refine ⟨!(rng x_0.Up (-1) (IntKind.i64.wrap ((i_0 : Int) - 1))), h_0, ?_⟩
      exact p_impl_GoodSpans_pv (And.intro @dr_0 (And.intro @w_0 (And.intro @g0_0 (And.intro @g1_0 (And.intro @g2_0 (And.intro @g3_0 (And.intro @kk0c (And.intro @hrt_0 (And.intro @hex_0 (And.intro @dc121 (And.intro @dc122 (And.intro @dc123 (And.intro @dc124 p_impl_GoodSpans_tf.down))))))))))))) trivial
  · rintro σ hg_0
    rw [hJ_0] at hg_0
    obtain ⟨hj_0, g0_0a⟩ := hg_0
    cases hj_0
    try dsimp only at h
    have ff := And.intro @g0_0a p_impl_GoodSpans_tf.down
    try refine st_by ff ?_
    repeat' (first | exact trivial | refine And.intro sd ?_)
    try clear ff
    cases h
    exact ret_q1 rfl (p_impl_GoodSpans_rt (And.intro @g0_0a p_impl_GoodSpans_tf.down) trivial)
/-! spec.HottestWay -/
def p_spec_HottestWay_l1 (l_0 : List GSpan) (at_29 : Int) : List GSpan → Nat → Int → Option (Int)
  | [], i_1, best_67 => some best_67
  | x_1 :: r_1, i_1, best_67 => (if x_1.Up = at_29 then (if best_67 < 0 then p_spec_HottestWay_l1 l_0 at_29 r_1 (i_1 + 1) (i_1 : Int) else ((idx l_0 best_67).bind fun x79 => (if (IntKind.i64.wrap (x_1.To - x_1.From)) > (IntKind.i64.wrap (x79.To - x79.From)) then p_spec_HottestWay_l1 l_0 at_29 r_1 (i_1 + 1) (i_1 : Int) else p_spec_HottestWay_l1 l_0 at_29 r_1 (i_1 + 1) best_67))) else p_spec_HottestWay_l1 l_0 at_29 r_1 (i_1 + 1) best_67)
def p_spec_HottestWay_l0 (l_0 : List GSpan) : Nat → Int → (List ByteArray) → Option (List ByteArray × Bool)
  | 0, _, _ => none
  | n_0 + 1, at_29, out_30 => ((p_spec_HottestWay_l1 l_0 at_29 l_0 0 (-1)).bind fun q_1 => match q_1 with | best_67 => (if best_67 < 0 then some (out_30, true) else ((idx l_0 best_67).bind fun x83 => (if out_30.length < 4294967296 then p_spec_HottestWay_l0 l_0 n_0 best_67 (out_30 ++ [x83.Name]) else none))))
theorem p_spec_HottestWay_pv {F C A : Prop} (hF : F) (hC : C) (h : F → C → A := by intro hF hC; first | exact cl_by hF | (refine st_by hF ?_; repeat' (first | exact trivial | apply And.intro); all_goals (clear hF; first | rfl | (simp only [hC, List.length_append, List.length_cons, List.length_nil, List.append_nil, List.nil_append, List.cons_append, List.length_set, List.append_assoc, Nat.zero_add, List.length_replicate, esStr_app, esStr_cons, esStr_nil, eStr_eq, esSpan_app, esSpan_cons, esSpan_nil, eSpan_eq]; done) | (simp [hC, List.length_append, List.length_cons, List.length_nil, List.append_nil, List.nil_append, List.cons_append, List.length_set, List.append_assoc, Nat.zero_add, List.length_replicate, esStr_app, esStr_cons, esStr_nil, eStr_eq, esSpan_app, esSpan_cons, esSpan_nil, eSpan_eq]; done) | omega))) : A := h hF hC
theorem p_spec_HottestWay_sa {F C A : Prop} (hF : F) (hC : C) (h : F → C → A := by intro hF hC; first | exact ca_by hF | (refine sa_by hF ?_; repeat' (first | exact trivial | apply And.intro); all_goals (clear hF; first | rfl | (simp only [hC, List.length_append, List.length_cons, List.length_nil, List.append_nil, List.nil_append, List.cons_append, List.length_set, List.append_assoc, Nat.zero_add, List.length_replicate, esStr_app, esStr_cons, esStr_nil, eStr_eq, esSpan_app, esSpan_cons, esSpan_nil, eSpan_eq]; done) | (simp [hC, List.length_append, List.length_cons, List.length_nil, List.append_nil, List.nil_append, List.cons_append, List.length_set, List.append_assoc, Nat.zero_add, List.length_replicate, esStr_app, esStr_cons, esStr_nil, eStr_eq, esSpan_app, esSpan_cons, esSpan_nil, eSpan_eq]; done) | omega))) : A := h hF hC
theorem p_spec_HottestWay_rt {F C A : Prop} (hF : F) (hC : C) (h : F → C → A := by intro hF hC; first | (refine sr_by hF ?_; repeat' (first | exact trivial | apply And.intro); all_goals (clear hF; first | rfl | (simp only [hC, List.length_append, List.length_cons, List.length_nil, List.append_nil, List.nil_append, List.cons_append, List.length_set, List.append_assoc, Nat.zero_add, List.length_replicate, esStr_app, esStr_cons, esStr_nil, eStr_eq, esSpan_app, esSpan_cons, esSpan_nil, eSpan_eq]; done) | (simp [hC, List.length_append, List.length_cons, List.length_nil, List.append_nil, List.nil_append, List.cons_append, List.length_set, List.append_assoc, Nat.zero_add, List.length_replicate, esStr_app, esStr_cons, esStr_nil, eStr_eq, esSpan_app, esSpan_cons, esSpan_nil, eSpan_eq]; done) | omega)) | (first | rfl | (simp only [hC, List.length_append, List.length_cons, List.length_nil, List.append_nil, List.nil_append, List.cons_append, List.length_set, List.append_assoc, Nat.zero_add, List.length_replicate, esStr_app, esStr_cons, esStr_nil, eStr_eq, esSpan_app, esSpan_cons, esSpan_nil, eSpan_eq]; done) | (simp [hC, List.length_append, List.length_cons, List.length_nil, List.append_nil, List.nil_append, List.cons_append, List.length_set, List.append_assoc, Nat.zero_add, List.length_replicate, esStr_app, esStr_cons, esStr_nil, eStr_eq, esSpan_app, esSpan_cons, esSpan_nil, eSpan_eq]; done) | omega)) : A := h hF hC
def p_spec_HottestWay_tf := PLift.up (And.intro @eStr_eq (And.intro @esStr_len (And.intro @esStr_nil (And.intro @eSpan_eq (And.intro @esSpan_len (And.intro @esSpan_nil (And.intro @esStr_share (And.intro @esStr_pure (And.intro @esSpan_share (And.intro @esSpan_pure (And.intro @str_beq (And.intro @Ty.sl38 (And.intro @Ty.slz38 (And.intro @Ty.ldA91 (And.intro @Ty.sz91 (And.intro @Ty.szn91 (And.intro @Ty.ldA3 (And.intro @Ty.ldS3 (And.intro @Ty.sz3 (And.intro @Ty.szn3 (And.intro @Ty.ldA9 (And.intro @Ty.ldS9 (And.intro @Ty.sz9 (And.intro @Ty.szn9 (And.intro @Ty.fo91_3 (And.intro @Ty.fk91_3 (And.intro @Ty.fs91_3 (And.intro @Ty.fn91_3 (And.intro @Ty.fo91_2 (And.intro @Ty.fk91_2 (And.intro @Ty.fs91_2 (And.intro @Ty.fn91_2 (And.intro @Ty.fo91_1 (And.intro @Ty.fk91_1 (And.intro @Ty.fs91_1 (And.intro @Ty.fn91_1 (And.intro @Ty.fo91_0 (And.intro @Ty.fk91_0 (And.intro @Ty.fs91_0 (And.intro @Ty.fn91_0 (And.intro @Ty.sl74 (And.intro @Ty.slz74 (And.intro @Ty.zok74 (And.intro @Ty.by74 (And.intro @Ty.zs74 (And.intro @Ty.zv91 @trivial))))))))))))))))))))))))))))))))))))))))))))))
def p_spec_HottestWay (N : Nat) (l_0 : List GSpan) : Option (List ByteArray × Bool) := ((p_spec_GoodSpans N l_0).bind fun v1 => (if v1 = true then ((p_spec_HottestWay_l0 l_0 N (-1) ([] : List ByteArray)).bind fun q_0 => some q_0) else some (([] : List ByteArray), false)))
theorem p_spec_HottestWay_does (N : Nat) (l_0 : List GSpan) (r : List ByteArray × Bool) (h : p_spec_HottestWay N l_0 = some r) : Does Try.prog 49 [.row false 4 l_0.length (esSpan l_0)] (.tup [.row true 1 r.1.length (esStr r.1), B r.2]) := by
  rw [p_spec_HottestWay] at h
  refine Does.bnd (fun hb => ?_)
  have hb2 : l_0.length ≤ 9223372036854775807 := by simpa [AV.fitNs, AV.fitN] using hb
  have hl0 := hb2
  refine Does.walk (nt := 60) Try.func49 rfl rfl (by simp) (by decide) rfl (fun G0 X w0 pv => ?_)
  obtain ⟨v1, ev1, h⟩ := Option.bind_eq_some_iff.1 h
  try dsimp only at h
  have ff := p_spec_HottestWay_tf.down
  try refine st_by ff ?_
  repeat' (first | exact trivial | refine And.intro sd ?_)
  first
  | (refine cq_call (p_spec_GoodSpans_does N l_0 v1 ev1) (hf_by ff) kr ⟨p_spec_HottestWay_sa ff trivial, ?_⟩; clear ff)
  | (refine cq_dcall (p_spec_GoodSpans_does N l_0 v1 ev1) (hf_by ff) kr ⟨p_spec_HottestWay_sa ff trivial, ?_⟩; clear ff)
  by_cases c2 : v1 = true
  case neg =>
   rw [if_neg c2] at h
   have dc2 := eq_false_of_ne_true c2
   have ff := And.intro @dc2 p_spec_HottestWay_tf.down
   try refine st_by ff ?_
   repeat' (first | exact trivial | refine And.intro sd ?_)
   try clear ff
   cases h
   exact ret_q2 rfl (p_spec_HottestWay_rt (And.intro @dc2 p_spec_HottestWay_tf.down) trivial)
  rw [if_pos c2] at h
  have dc2 := c2
  obtain ⟨q_0, eq_0, h⟩ := Option.bind_eq_some_iff.1 h
  have ff := And.intro @dc2 p_spec_HottestWay_tf.down
  try refine st_by ff ?_
  repeat' (first | exact trivial | refine And.intro sd ?_)
  try clear ff
  obtain ⟨I_0, hI_0⟩ : ∃ I_ : (Nat × Int × (List ByteArray)) → ASt → Prop, I_ = (fun (a : Nat × Int × (List ByteArray)) σ => match a with | (n_0, at_29, out_30) => (p_spec_HottestWay_l0 l_0 n_0 at_29 out_30 = some q_0) ∧ σ.t 0 = .row false 4 l_0.length (esSpan l_0) ∧ σ.t 4 = .sl 4 [] 0 out_30.length ∧ σ.t 5 = I at_29 ∧ σ.m 4 = some (.row true 1 out_30.length (esStr out_30))) := ⟨_, rfl⟩
  obtain ⟨M_0, hM_0⟩ : ∃ M_ : (Nat × Int × (List ByteArray)) → Nat, M_ = (fun (a : Nat × Int × (List ByteArray)) => match a with | (n_0, at_29, out_30) => n_0) := ⟨_, rfl⟩
  refine aw_loopB I_0 M_0 (N, (-1), ([] : List ByteArray)) ?_ ?_
  · rw [hI_0]
    refine ⟨eq_0, ?_⟩
    exact p_spec_HottestWay_pv (And.intro @dc2 p_spec_HottestWay_tf.down) trivial
  · rintro ⟨n_0, at_29, out_30⟩ σ hg_0
    rw [hI_0] at hg_0
    obtain ⟨h_0, g0_0, g1_0, g2_0, g3_0⟩ := hg_0
    cases n_0 with
    | zero => rw [p_spec_HottestWay_l0] at h_0; cases h_0
    | succ n_0 =>
      rw [p_spec_HottestWay_l0] at h_0
      have hL_1 : l_0.length ≤ 9223372036854775807 := by first | assumption | omega
      obtain ⟨q_1, eq_1, h_0⟩ := Option.bind_eq_some_iff.1 h_0
      have ff := And.intro @dc2 (And.intro @g0_0 (And.intro @g1_0 (And.intro @g2_0 (And.intro @g3_0 p_spec_HottestWay_tf.down))))
      try refine st_by ff ?_
      repeat' (first | exact trivial | refine And.intro sd ?_)
      try clear ff
      obtain ⟨I_1, hI_1⟩ : ∃ I_ : (Nat × Int) → ASt → Prop, I_ = (fun (a : Nat × Int) σ => match a with | (i_1, best_67) => (i_1 ≤ l_0.length ∧ p_spec_HottestWay_l1 l_0 at_29 (l_0.drop i_1) i_1 best_67 = some q_1) ∧ σ.t 0 = .row false 4 l_0.length (esSpan l_0) ∧ σ.t 4 = .sl 4 [] 0 out_30.length ∧ σ.t 5 = I at_29 ∧ σ.t 6 = I best_67 ∧ σ.t 12 = .row false 4 l_0.length (esSpan l_0) ∧ σ.t 13 = I (l_0.length : Int) ∧ σ.t 14 = I (i_1 : Int) ∧ σ.m 4 = some (.row true 1 out_30.length (esStr out_30))) := ⟨_, rfl⟩
      obtain ⟨M_1, hM_1⟩ : ∃ M_ : (Nat × Int) → Nat, M_ = (fun (a : Nat × Int) => match a with | (i_1, best_67) => l_0.length - i_1) := ⟨_, rfl⟩
      obtain ⟨J_1, hJ_1⟩ : ∃ J_ : ASt → Prop, J_ = (fun σ => ∃ best_67 : Int, (some best_67 = some q_1) ∧ σ.t 0 = .row false 4 l_0.length (esSpan l_0) ∧ σ.t 4 = .sl 4 [] 0 out_30.length ∧ σ.t 6 = I best_67 ∧ σ.m 4 = some (.row true 1 out_30.length (esStr out_30))) := ⟨_, rfl⟩
      refine aw_loopC (id := 2) I_1 M_1 J_1 (0, (-1)) ?_ ?_ ?_
      · rw [hI_1]
        refine ⟨⟨Nat.zero_le _, eq_1⟩, ?_⟩
        exact p_spec_HottestWay_pv (And.intro @dc2 (And.intro @g0_0 (And.intro @g1_0 (And.intro @g2_0 (And.intro @g3_0 p_spec_HottestWay_tf.down))))) trivial
      · rintro ⟨i_1, best_67⟩ σ hg_1
        rw [hI_1] at hg_1
        obtain ⟨⟨hi_1, h_1⟩, g0_1, g1_1, g2_1, g3_1, g4_1, g5_1, g6_1, g7_1⟩ := hg_1
        cases hr_1 : l_0.drop i_1 with
        | nil =>
          rw [hr_1] at h_1
          rw [p_spec_HottestWay_l1] at h_1
          have hn_1 := drop_nil hr_1
          have dr_1 : decide ((i_1 : Int) < (l_0.length : Int)) = false := decide_eq_false (by omega)
          have ff := And.intro @dc2 (And.intro @dr_1 (And.intro @g0_1 (And.intro @g1_1 (And.intro @g2_1 (And.intro @g3_1 (And.intro @g4_1 (And.intro @g5_1 (And.intro @g6_1 (And.intro @g7_1 p_spec_HottestWay_tf.down)))))))))
          try refine st_by ff ?_
          repeat' (first | exact trivial | refine And.intro sd ?_)
          try clear ff
          refine JW.intro ?_
          rw [hJ_1]
          refine ⟨best_67, h_1, ?_⟩
          exact p_spec_HottestWay_pv (And.intro @dc2 (And.intro @dr_1 (And.intro @g0_1 (And.intro @g1_1 (And.intro @g2_1 (And.intro @g3_1 (And.intro @g4_1 (And.intro @g5_1 (And.intro @g6_1 (And.intro @g7_1 p_spec_HottestWay_tf.down)))))))))) trivial
        | cons x_1 r_1 =>
          rw [hr_1] at h_1
          rw [p_spec_HottestWay_l1] at h_1
          obtain ⟨ht_1, hg_1, hd_1⟩ := drop_cons hr_1
          have dr_1 : decide ((i_1 : Int) < (l_0.length : Int)) = true := decide_eq_true (by omega)
          have w_1 : IntKind.i64.wrap ((i_1 : Int) + 1) = ((i_1 + 1 : Nat) : Int) := wI _ (by omega) (by omega)
          have kk1c : (esSpan l_0).drop (i_1 * 4) = eSpan x_1 ++ esSpan (l_0.drop (i_1 + 1)) := drop_enc (fun _ => rfl) (hg_1)
          by_cases c77 : x_1.Up = at_29
          case neg =>
           rw [if_neg c77] at h_1
           have dc77 := beq_no c77
           have ff := And.intro @dc2 (And.intro @dr_1 (And.intro @w_1 (And.intro @g0_1 (And.intro @g1_1 (And.intro @g2_1 (And.intro @g3_1 (And.intro @g4_1 (And.intro @g5_1 (And.intro @g6_1 (And.intro @g7_1 (And.intro @kk1c (And.intro @dc77 p_spec_HottestWay_tf.down))))))))))))
           try refine st_by ff ?_
           repeat' (first | exact trivial | refine And.intro sd ?_ | (refine aw_drawn (id := 9) ?_ [[], [0], [], [0, 1, 2], [0, 1, 2, 3], [0, 1, 2, 3, 4], [0, 1, 2, 3, 4, 5], [0, 1, 2, 3, 4, 5, 6], [0, 1, 2, 3, 4, 5, 6, 7], [0, 1, 2, 3, 4, 5, 6, 7, 8], [0, 1, 2, 3, 4, 5, 6, 7], [0, 1, 2, 3, 4, 5, 6, 7, 10], [0, 1, 2, 3, 4, 5, 6, 7, 8, 9, 10, 11], [0, 1, 2, 3, 4, 5, 6, 7], [0, 1, 2, 3, 4, 5, 6, 7], [0, 1, 2, 3, 4, 5, 6, 7, 13, 14], [0, 1, 2, 3, 4, 5, 6, 7, 13, 14, 15], [0, 1, 2, 3, 4, 5, 6, 7, 13, 14, 15, 16], [0, 1, 2, 3, 4, 5, 6, 7], [0, 1, 2, 3, 4, 5, 6, 7], [0, 1, 2, 3, 4, 5, 6, 7, 18, 19], [0, 1, 2, 3, 4, 5, 6, 7, 18, 19, 20], [0, 1, 2, 3, 4, 5, 6, 7, 18, 19, 20, 21], [0, 1, 2, 3, 4, 5, 6, 7, 13, 14, 15, 16, 17, 18, 19, 20, 21, 22], [0, 1, 2, 3, 4, 5, 6, 7, 8, 9, 10, 11, 12, 13, 14, 15, 16, 17, 18, 19, 20, 21, 22, 23], [0, 1, 2, 3, 4, 5, 6, 7, 8, 9, 10, 11, 12, 13, 14, 15, 16, 17, 18, 19, 20, 21, 22, 23, 24], [0, 1, 2, 3, 4, 5, 6, 7, 8, 9, 10, 11, 12, 13, 14, 15, 16, 17, 18, 19, 20, 21, 22, 23, 24, 25]] 24 ?_ ?_; (· kernel_rfl); (· kernel_rfl); refine st_by ff ?_))
           try clear ff
           refine Back.intro (i_1 + 1, best_67) ?_ ?_
           · rw [hM_1]; show l_0.length - (i_1 + 1) < l_0.length - i_1; omega
           rw [hI_1]
           refine ⟨⟨by show i_1 + 1 ≤ l_0.length; omega, by show p_spec_HottestWay_l1 l_0 at_29 (l_0.drop (i_1 + 1)) (i_1 + 1) best_67 = some q_1; rw [hd_1]; exact h_1⟩, ?_⟩
           exact p_spec_HottestWay_pv (And.intro @dc2 (And.intro @dr_1 (And.intro @w_1 (And.intro @g0_1 (And.intro @g1_1 (And.intro @g2_1 (And.intro @g3_1 (And.intro @g4_1 (And.intro @g5_1 (And.intro @g6_1 (And.intro @g7_1 (And.intro @kk1c (And.intro @dc77 p_spec_HottestWay_tf.down))))))))))))) trivial
          rw [if_pos c77] at h_1
          have dc77 := beq_yes c77
          by_cases c78 : best_67 < 0
          · rw [if_pos c78] at h_1
            have dc78 := decide_eq_true c78
            have ff := And.intro @dc2 (And.intro @dr_1 (And.intro @w_1 (And.intro @g0_1 (And.intro @g1_1 (And.intro @g2_1 (And.intro @g3_1 (And.intro @g4_1 (And.intro @g5_1 (And.intro @g6_1 (And.intro @g7_1 (And.intro @kk1c (And.intro @dc77 (And.intro @dc78 p_spec_HottestWay_tf.down)))))))))))))
            try refine st_by ff ?_
            repeat' (first | exact trivial | refine And.intro sd ?_ | (refine aw_drawn (id := 9) ?_ [[], [0], [], [0, 1, 2], [0, 1, 2, 3], [0, 1, 2, 3, 4], [0, 1, 2, 3, 4, 5], [0, 1, 2, 3, 4, 5, 6], [0, 1, 2, 3, 4, 5, 6, 7], [0, 1, 2, 3, 4, 5, 6, 7, 8], [0, 1, 2, 3, 4, 5, 6, 7], [0, 1, 2, 3, 4, 5, 6, 7, 10], [0, 1, 2, 3, 4, 5, 6, 7, 8, 9, 10, 11], [0, 1, 2, 3, 4, 5, 6, 7], [0, 1, 2, 3, 4, 5, 6, 7], [0, 1, 2, 3, 4, 5, 6, 7, 13, 14], [0, 1, 2, 3, 4, 5, 6, 7, 13, 14, 15], [0, 1, 2, 3, 4, 5, 6, 7, 13, 14, 15, 16], [0, 1, 2, 3, 4, 5, 6, 7], [0, 1, 2, 3, 4, 5, 6, 7], [0, 1, 2, 3, 4, 5, 6, 7, 18, 19], [0, 1, 2, 3, 4, 5, 6, 7, 18, 19, 20], [0, 1, 2, 3, 4, 5, 6, 7, 18, 19, 20, 21], [0, 1, 2, 3, 4, 5, 6, 7, 13, 14, 15, 16, 17, 18, 19, 20, 21, 22], [0, 1, 2, 3, 4, 5, 6, 7, 8, 9, 10, 11, 12, 13, 14, 15, 16, 17, 18, 19, 20, 21, 22, 23], [0, 1, 2, 3, 4, 5, 6, 7, 8, 9, 10, 11, 12, 13, 14, 15, 16, 17, 18, 19, 20, 21, 22, 23, 24], [0, 1, 2, 3, 4, 5, 6, 7, 8, 9, 10, 11, 12, 13, 14, 15, 16, 17, 18, 19, 20, 21, 22, 23, 24, 25]] 24 ?_ ?_; (· kernel_rfl); (· kernel_rfl); refine st_by ff ?_))
            try clear ff
            refine Back.intro (i_1 + 1, (i_1 : Int)) ?_ ?_
            · rw [hM_1]; show l_0.length - (i_1 + 1) < l_0.length - i_1; omega
            rw [hI_1]
            refine ⟨⟨by show i_1 + 1 ≤ l_0.length; omega, by show p_spec_HottestWay_l1 l_0 at_29 (l_0.drop (i_1 + 1)) (i_1 + 1) (i_1 : Int) = some q_1; rw [hd_1]; exact h_1⟩, ?_⟩
            exact p_spec_HottestWay_pv (And.intro @dc2 (And.intro @dr_1 (And.intro @w_1 (And.intro @g0_1 (And.intro @g1_1 (And.intro @g2_1 (And.intro @g3_1 (And.intro @g4_1 (And.intro @g5_1 (And.intro @g6_1 (And.intro @g7_1 (And.intro @kk1c (And.intro @dc77 (And.intro @dc78 p_spec_HottestWay_tf.down)))))))))))))) trivial
          rw [if_neg c78] at h_1
          have dc78 := decide_eq_false c78
          obtain ⟨x79, ex79, h_1⟩ := Option.bind_eq_some_iff.1 h_1
          try dsimp only at h_1
          have f80a := idx_lo ex79
          have f80b := idx_hi ex79
          have f80c : (esSpan l_0).drop (best_67.toNat * 4) = eSpan x79 ++ esSpan (l_0.drop (best_67.toNat + 1)) := drop_enc (fun _ => rfl) (idx_get ex79)
          by_cases c81 : (IntKind.i64.wrap (x_1.To - x_1.From)) > (IntKind.i64.wrap (x79.To - x79.From))
          case neg =>
           rw [if_neg c81] at h_1
           have dc81 := decide_eq_false c81
           have ff := And.intro @dc2 (And.intro @dr_1 (And.intro @w_1 (And.intro @g0_1 (And.intro @g1_1 (And.intro @g2_1 (And.intro @g3_1 (And.intro @g4_1 (And.intro @g5_1 (And.intro @g6_1 (And.intro @g7_1 (And.intro @kk1c (And.intro @dc77 (And.intro @dc78 (And.intro @f80c (And.intro @dc81 p_spec_HottestWay_tf.down)))))))))))))))
           try refine st_by ff ?_
           repeat' (first | exact trivial | refine And.intro sd ?_ | (refine aw_drawn (id := 9) ?_ [[], [0], [], [0, 1, 2], [0, 1, 2, 3], [0, 1, 2, 3, 4], [0, 1, 2, 3, 4, 5], [0, 1, 2, 3, 4, 5, 6], [0, 1, 2, 3, 4, 5, 6, 7], [0, 1, 2, 3, 4, 5, 6, 7, 8], [0, 1, 2, 3, 4, 5, 6, 7], [0, 1, 2, 3, 4, 5, 6, 7, 10], [0, 1, 2, 3, 4, 5, 6, 7, 8, 9, 10, 11], [0, 1, 2, 3, 4, 5, 6, 7], [0, 1, 2, 3, 4, 5, 6, 7], [0, 1, 2, 3, 4, 5, 6, 7, 13, 14], [0, 1, 2, 3, 4, 5, 6, 7, 13, 14, 15], [0, 1, 2, 3, 4, 5, 6, 7, 13, 14, 15, 16], [0, 1, 2, 3, 4, 5, 6, 7], [0, 1, 2, 3, 4, 5, 6, 7], [0, 1, 2, 3, 4, 5, 6, 7, 18, 19], [0, 1, 2, 3, 4, 5, 6, 7, 18, 19, 20], [0, 1, 2, 3, 4, 5, 6, 7, 18, 19, 20, 21], [0, 1, 2, 3, 4, 5, 6, 7, 13, 14, 15, 16, 17, 18, 19, 20, 21, 22], [0, 1, 2, 3, 4, 5, 6, 7, 8, 9, 10, 11, 12, 13, 14, 15, 16, 17, 18, 19, 20, 21, 22, 23], [0, 1, 2, 3, 4, 5, 6, 7, 8, 9, 10, 11, 12, 13, 14, 15, 16, 17, 18, 19, 20, 21, 22, 23, 24], [0, 1, 2, 3, 4, 5, 6, 7, 8, 9, 10, 11, 12, 13, 14, 15, 16, 17, 18, 19, 20, 21, 22, 23, 24, 25]] 24 ?_ ?_; (· kernel_rfl); (· kernel_rfl); refine st_by ff ?_))
           try clear ff
           refine Back.intro (i_1 + 1, best_67) ?_ ?_
           · rw [hM_1]; show l_0.length - (i_1 + 1) < l_0.length - i_1; omega
           rw [hI_1]
           refine ⟨⟨by show i_1 + 1 ≤ l_0.length; omega, by show p_spec_HottestWay_l1 l_0 at_29 (l_0.drop (i_1 + 1)) (i_1 + 1) best_67 = some q_1; rw [hd_1]; exact h_1⟩, ?_⟩
           exact p_spec_HottestWay_pv (And.intro @dc2 (And.intro @dr_1 (And.intro @w_1 (And.intro @g0_1 (And.intro @g1_1 (And.intro @g2_1 (And.intro @g3_1 (And.intro @g4_1 (And.intro @g5_1 (And.intro @g6_1 (And.intro @g7_1 (And.intro @kk1c (And.intro @dc77 (And.intro @dc78 (And.intro @f80c (And.intro @dc81 p_spec_HottestWay_tf.down)))))))))))))))) trivial
          rw [if_pos c81] at h_1
          have dc81 := decide_eq_true c81
          have ff := And.intro @dc2 (And.intro @dr_1 (And.intro @w_1 (And.intro @g0_1 (And.intro @g1_1 (And.intro @g2_1 (And.intro @g3_1 (And.intro @g4_1 (And.intro @g5_1 (And.intro @g6_1 (And.intro @g7_1 (And.intro @kk1c (And.intro @dc77 (And.intro @dc78 (And.intro @f80c (And.intro @dc81 p_spec_HottestWay_tf.down)))))))))))))))
          try refine st_by ff ?_
          repeat' (first | exact trivial | refine And.intro sd ?_ | (refine aw_drawn (id := 9) ?_ [[], [0], [], [0, 1, 2], [0, 1, 2, 3], [0, 1, 2, 3, 4], [0, 1, 2, 3, 4, 5], [0, 1, 2, 3, 4, 5, 6], [0, 1, 2, 3, 4, 5, 6, 7], [0, 1, 2, 3, 4, 5, 6, 7, 8], [0, 1, 2, 3, 4, 5, 6, 7], [0, 1, 2, 3, 4, 5, 6, 7, 10], [0, 1, 2, 3, 4, 5, 6, 7, 8, 9, 10, 11], [0, 1, 2, 3, 4, 5, 6, 7], [0, 1, 2, 3, 4, 5, 6, 7], [0, 1, 2, 3, 4, 5, 6, 7, 13, 14], [0, 1, 2, 3, 4, 5, 6, 7, 13, 14, 15], [0, 1, 2, 3, 4, 5, 6, 7, 13, 14, 15, 16], [0, 1, 2, 3, 4, 5, 6, 7], [0, 1, 2, 3, 4, 5, 6, 7], [0, 1, 2, 3, 4, 5, 6, 7, 18, 19], [0, 1, 2, 3, 4, 5, 6, 7, 18, 19, 20], [0, 1, 2, 3, 4, 5, 6, 7, 18, 19, 20, 21], [0, 1, 2, 3, 4, 5, 6, 7, 13, 14, 15, 16, 17, 18, 19, 20, 21, 22], [0, 1, 2, 3, 4, 5, 6, 7, 8, 9, 10, 11, 12, 13, 14, 15, 16, 17, 18, 19, 20, 21, 22, 23], [0, 1, 2, 3, 4, 5, 6, 7, 8, 9, 10, 11, 12, 13, 14, 15, 16, 17, 18, 19, 20, 21, 22, 23, 24], [0, 1, 2, 3, 4, 5, 6, 7, 8, 9, 10, 11, 12, 13, 14, 15, 16, 17, 18, 19, 20, 21, 22, 23, 24, 25]] 24 ?_ ?_; (· kernel_rfl); (· kernel_rfl); refine st_by ff ?_))
          try clear ff
          refine Back.intro (i_1 + 1, (i_1 : Int)) ?_ ?_
          · rw [hM_1]; show l_0.length - (i_1 + 1) < l_0.length - i_1; omega
          rw [hI_1]
          refine ⟨⟨by show i_1 + 1 ≤ l_0.length; omega, by show p_spec_HottestWay_l1 l_0 at_29 (l_0.drop (i_1 + 1)) (i_1 + 1) (i_1 : Int) = some q_1; rw [hd_1]; exact h_1⟩, ?_⟩
          exact p_spec_HottestWay_pv (And.intro @dc2 (And.intro @dr_1 (And.intro @w_1 (And.intro @g0_1 (And.intro @g1_1 (And.intro @g2_1 (And.intro @g3_1 (And.intro @g4_1 (And.intro @g5_1 (And.intro @g6_1 (And.intro @g7_1 (And.intro @kk1c (And.intro @dc77 (And.intro @dc78 (And.intro @f80c (And.intro @dc81 p_spec_HottestWay_tf.down)))))))))))))))) trivial
      · rintro σ hg_1
        rw [hJ_1] at hg_1
        obtain ⟨best_67, hj_1, g0_1a, g1_1a, g2_1a, g3_1a⟩ := hg_1
        have hjj_1 := Option.some.inj hj_1
        subst hjj_1
        try dsimp only at h_0
        by_cases c82 : best_67 < 0
        · rw [if_pos c82] at h_0
          have dc82 := decide_eq_true c82
          cases h_0
          try dsimp only at h
          have ff := And.intro @dc2 (And.intro @g0_1a (And.intro @g1_1a (And.intro @g2_1a (And.intro @g3_1a (And.intro @dc82 p_spec_HottestWay_tf.down)))))
          try refine st_by ff ?_
          repeat' (first | exact trivial | refine And.intro sd ?_)
          try clear ff
          cases h
          exact ret_q2 rfl (p_spec_HottestWay_rt (And.intro @dc2 (And.intro @g0_1a (And.intro @g1_1a (And.intro @g2_1a (And.intro @g3_1a (And.intro @dc82 p_spec_HottestWay_tf.down)))))) trivial)
        rw [if_neg c82] at h_0
        have dc82 := decide_eq_false c82
        obtain ⟨x83, ex83, h_0⟩ := Option.bind_eq_some_iff.1 h_0
        try dsimp only at h_0
        have f84a := idx_lo ex83
        have f84b := idx_hi ex83
        have f84c : (esSpan l_0).drop (best_67.toNat * 4) = eSpan x83 ++ esSpan (l_0.drop (best_67.toNat + 1)) := drop_enc (fun _ => rfl) (idx_get ex83)
        by_cases c85 : out_30.length < 4294967296
        case neg => rw [if_neg c85] at h_0; cases h_0
        rw [if_pos c85] at h_0
        have a86a : esStr out_30 ++ [S x83.Name] = esStr (out_30 ++ [x83.Name]) := by simp [esStr_app, esStr_cons, esStr_nil, eStr_eq]
        have a86b : out_30.length + 1 = (out_30 ++ [x83.Name]).length := by simp
        have ff := And.intro @dc2 (And.intro @g0_1a (And.intro @g1_1a (And.intro @g2_1a (And.intro @g3_1a (And.intro @dc82 (And.intro @f84c (And.intro @a86a (And.intro @a86b p_spec_HottestWay_tf.down))))))))
        try refine st_by ff ?_
        repeat' (first | exact trivial | refine And.intro sd ?_)
        try clear ff
        refine Back.intro (n_0, best_67, (out_30 ++ [x83.Name])) ?_ ?_
        · rw [hM_0]; exact Nat.lt_succ_self _
        rw [hI_0]
        refine ⟨h_0, ?_⟩
        exact p_spec_HottestWay_pv (And.intro @dc2 (And.intro @g0_1a (And.intro @g1_1a (And.intro @g2_1a (And.intro @g3_1a (And.intro @dc82 (And.intro @f84c (And.intro @a86a (And.intro @a86b p_spec_HottestWay_tf.down))))))))) trivial
/-! (impl.Span).long -/
theorem p_impl_Span_long_pv {F C A : Prop} (hF : F) (hC : C) (h : F → C → A := by intro hF hC; first | exact cl_by hF | (refine st_by hF ?_; repeat' (first | exact trivial | apply And.intro); all_goals (clear hF; first | rfl | (simp only [hC, List.length_append, List.length_cons, List.length_nil, List.append_nil, List.nil_append, List.cons_append, List.length_set, List.append_assoc, Nat.zero_add, List.length_replicate, esSpan_app, esSpan_cons, esSpan_nil, eSpan_eq]; done) | (simp [hC, List.length_append, List.length_cons, List.length_nil, List.append_nil, List.nil_append, List.cons_append, List.length_set, List.append_assoc, Nat.zero_add, List.length_replicate, esSpan_app, esSpan_cons, esSpan_nil, eSpan_eq]; done) | omega))) : A := h hF hC
theorem p_impl_Span_long_sa {F C A : Prop} (hF : F) (hC : C) (h : F → C → A := by intro hF hC; first | exact ca_by hF | (refine sa_by hF ?_; repeat' (first | exact trivial | apply And.intro); all_goals (clear hF; first | rfl | (simp only [hC, List.length_append, List.length_cons, List.length_nil, List.append_nil, List.nil_append, List.cons_append, List.length_set, List.append_assoc, Nat.zero_add, List.length_replicate, esSpan_app, esSpan_cons, esSpan_nil, eSpan_eq]; done) | (simp [hC, List.length_append, List.length_cons, List.length_nil, List.append_nil, List.nil_append, List.cons_append, List.length_set, List.append_assoc, Nat.zero_add, List.length_replicate, esSpan_app, esSpan_cons, esSpan_nil, eSpan_eq]; done) | omega))) : A := h hF hC
theorem p_impl_Span_long_rt {F C A : Prop} (hF : F) (hC : C) (h : F → C → A := by intro hF hC; first | (refine sr_by hF ?_; repeat' (first | exact trivial | apply And.intro); all_goals (clear hF; first | rfl | (simp only [hC, List.length_append, List.length_cons, List.length_nil, List.append_nil, List.nil_append, List.cons_append, List.length_set, List.append_assoc, Nat.zero_add, List.length_replicate, esSpan_app, esSpan_cons, esSpan_nil, eSpan_eq]; done) | (simp [hC, List.length_append, List.length_cons, List.length_nil, List.append_nil, List.nil_append, List.cons_append, List.length_set, List.append_assoc, Nat.zero_add, List.length_replicate, esSpan_app, esSpan_cons, esSpan_nil, eSpan_eq]; done) | omega)) | (first | rfl | (simp only [hC, List.length_append, List.length_cons, List.length_nil, List.append_nil, List.nil_append, List.cons_append, List.length_set, List.append_assoc, Nat.zero_add, List.length_replicate, esSpan_app, esSpan_cons, esSpan_nil, eSpan_eq]; done) | (simp [hC, List.length_append, List.length_cons, List.length_nil, List.append_nil, List.nil_append, List.cons_append, List.length_set, List.append_assoc, Nat.zero_add, List.length_replicate, esSpan_app, esSpan_cons, esSpan_nil, eSpan_eq]; done) | omega)) : A := h hF hC
def p_impl_Span_long_tf := PLift.up (And.intro @eSpan_eq (And.intro @esSpan_len (And.intro @esSpan_nil (And.intro @esSpan_share (And.intro @esSpan_pure (And.intro @str_beq (And.intro @Ty.ldA3 (And.intro @Ty.ldS3 (And.intro @Ty.sz3 (And.intro @Ty.szn3 (And.intro @Ty.fo91_2 (And.intro @Ty.fk91_2 (And.intro @Ty.fs91_2 (And.intro @Ty.fn91_2 (And.intro @Ty.fo91_1 (And.intro @Ty.fk91_1 (And.intro @Ty.fs91_1 (And.intro @Ty.fn91_1 @trivial))))))))))))))))))
def p_impl_Span_long (s_0 : GSpan) : Option (Int) := some (IntKind.i64.wrap (s_0.To - s_0.From))
theorem p_impl_Span_long_does (s_0 : GSpan) (r : Int) (h : p_impl_Span_long s_0 = some r) : Does Try.prog 103 [.agg (eSpan s_0)] (I r) := by
  rw [p_impl_Span_long] at h
  refine Does.walk (nt := 8) Try.func103 rfl rfl (by simp) (by decide) rfl (fun G0 X w0 pv => ?_)
  have ff := p_impl_Span_long_tf.down
  try refine st_by ff ?_
  repeat' (first | exact trivial | refine And.intro sd ?_)
  try clear ff
  cases h
  exact ret_q1 rfl (p_impl_Span_long_rt p_impl_Span_long_tf.down trivial)
/-! impl.HottestWay -/
def p_impl_HottestWay_l1 (l_0 : List GSpan) (up_35 : Int) : List GSpan → Nat → Int → Option (Int)
  | [], i_1, next_81 => some next_81
  | x_1 :: r_1, i_1, next_81 => (if x_1.Up = up_35 then (if next_81 < 0 then p_impl_HottestWay_l1 l_0 up_35 r_1 (i_1 + 1) (i_1 : Int) else ((p_impl_Span_long x_1).bind fun v95 => ((idx l_0 next_81).bind fun x96 => ((p_impl_Span_long x96).bind fun v98 => (if v95 > v98 then p_impl_HottestWay_l1 l_0 up_35 r_1 (i_1 + 1) (i_1 : Int) else p_impl_HottestWay_l1 l_0 up_35 r_1 (i_1 + 1) next_81))))) else p_impl_HottestWay_l1 l_0 up_35 r_1 (i_1 + 1) next_81)
def p_impl_HottestWay_l0 (l_0 : List GSpan) : Nat → Int → (List ByteArray) → Option (List ByteArray × Bool)
  | 0, _, _ => none
  | n_0 + 1, up_35, out_36 => ((p_impl_HottestWay_l1 l_0 up_35 l_0 0 (-1)).bind fun q_1 => match q_1 with | next_81 => (if next_81 < 0 then some (out_36, true) else ((idx l_0 next_81).bind fun x101 => (if out_36.length < 4294967296 then p_impl_HottestWay_l0 l_0 n_0 next_81 (out_36 ++ [x101.Name]) else none))))
theorem p_impl_HottestWay_pv {F C A : Prop} (hF : F) (hC : C) (h : F → C → A := by intro hF hC; first | exact cl_by hF | (refine st_by hF ?_; repeat' (first | exact trivial | apply And.intro); all_goals (clear hF; first | rfl | (simp only [hC, List.length_append, List.length_cons, List.length_nil, List.append_nil, List.nil_append, List.cons_append, List.length_set, List.append_assoc, Nat.zero_add, List.length_replicate, esStr_app, esStr_cons, esStr_nil, eStr_eq, esSpan_app, esSpan_cons, esSpan_nil, eSpan_eq]; done) | (simp [hC, List.length_append, List.length_cons, List.length_nil, List.append_nil, List.nil_append, List.cons_append, List.length_set, List.append_assoc, Nat.zero_add, List.length_replicate, esStr_app, esStr_cons, esStr_nil, eStr_eq, esSpan_app, esSpan_cons, esSpan_nil, eSpan_eq]; done) | omega))) : A := h hF hC
theorem p_impl_HottestWay_sa {F C A : Prop} (hF : F) (hC : C) (h : F → C → A := by intro hF hC; first | exact ca_by hF | (refine sa_by hF ?_; repeat' (first | exact trivial | apply And.intro); all_goals (clear hF; first | rfl | (simp only [hC, List.length_append, List.length_cons, List.length_nil, List.append_nil, List.nil_append, List.cons_append, List.length_set, List.append_assoc, Nat.zero_add, List.length_replicate, esStr_app, esStr_cons, esStr_nil, eStr_eq, esSpan_app, esSpan_cons, esSpan_nil, eSpan_eq]; done) | (simp [hC, List.length_append, List.length_cons, List.length_nil, List.append_nil, List.nil_append, List.cons_append, List.length_set, List.append_assoc, Nat.zero_add, List.length_replicate, esStr_app, esStr_cons, esStr_nil, eStr_eq, esSpan_app, esSpan_cons, esSpan_nil, eSpan_eq]; done) | omega))) : A := h hF hC
theorem p_impl_HottestWay_rt {F C A : Prop} (hF : F) (hC : C) (h : F → C → A := by intro hF hC; first | (refine sr_by hF ?_; repeat' (first | exact trivial | apply And.intro); all_goals (clear hF; first | rfl | (simp only [hC, List.length_append, List.length_cons, List.length_nil, List.append_nil, List.nil_append, List.cons_append, List.length_set, List.append_assoc, Nat.zero_add, List.length_replicate, esStr_app, esStr_cons, esStr_nil, eStr_eq, esSpan_app, esSpan_cons, esSpan_nil, eSpan_eq]; done) | (simp [hC, List.length_append, List.length_cons, List.length_nil, List.append_nil, List.nil_append, List.cons_append, List.length_set, List.append_assoc, Nat.zero_add, List.length_replicate, esStr_app, esStr_cons, esStr_nil, eStr_eq, esSpan_app, esSpan_cons, esSpan_nil, eSpan_eq]; done) | omega)) | (first | rfl | (simp only [hC, List.length_append, List.length_cons, List.length_nil, List.append_nil, List.nil_append, List.cons_append, List.length_set, List.append_assoc, Nat.zero_add, List.length_replicate, esStr_app, esStr_cons, esStr_nil, eStr_eq, esSpan_app, esSpan_cons, esSpan_nil, eSpan_eq]; done) | (simp [hC, List.length_append, List.length_cons, List.length_nil, List.append_nil, List.nil_append, List.cons_append, List.length_set, List.append_assoc, Nat.zero_add, List.length_replicate, esStr_app, esStr_cons, esStr_nil, eStr_eq, esSpan_app, esSpan_cons, esSpan_nil, eSpan_eq]; done) | omega)) : A := h hF hC
def p_impl_HottestWay_tf := PLift.up (And.intro @eStr_eq (And.intro @esStr_len (And.intro @esStr_nil (And.intro @eSpan_eq (And.intro @esSpan_len (And.intro @esSpan_nil (And.intro @esStr_share (And.intro @esStr_pure (And.intro @esSpan_share (And.intro @esSpan_pure (And.intro @str_beq (And.intro @Ty.sl38 (And.intro @Ty.slz38 (And.intro @Ty.ldA91 (And.intro @Ty.sz91 (And.intro @Ty.szn91 (And.intro @Ty.ldA3 (And.intro @Ty.ldS3 (And.intro @Ty.sz3 (And.intro @Ty.szn3 (And.intro @Ty.ldA9 (And.intro @Ty.ldS9 (And.intro @Ty.sz9 (And.intro @Ty.szn9 (And.intro @Ty.fo91_3 (And.intro @Ty.fk91_3 (And.intro @Ty.fs91_3 (And.intro @Ty.fn91_3 (And.intro @Ty.fo91_0 (And.intro @Ty.fk91_0 (And.intro @Ty.fs91_0 (And.intro @Ty.fn91_0 (And.intro @Ty.sl74 (And.intro @Ty.slz74 (And.intro @Ty.zok74 (And.intro @Ty.by74 (And.intro @Ty.zs74 (And.intro @Ty.zv91 @trivial))))))))))))))))))))))))))))))))))))))
def p_impl_HottestWay (N : Nat) (l_0 : List GSpan) : Option (List ByteArray × Bool) := ((p_impl_GoodSpans N l_0).bind fun v1 => (if v1 = true then ((p_impl_HottestWay_l0 l_0 N (-1) ([] : List ByteArray)).bind fun q_0 => some q_0) else some (([] : List ByteArray), false)))
theorem p_impl_HottestWay_does (N : Nat) (l_0 : List GSpan) (r : List ByteArray × Bool) (h : p_impl_HottestWay N l_0 = some r) : Does Try.prog 50 [.row false 4 l_0.length (esSpan l_0)] (.tup [.row true 1 r.1.length (esStr r.1), B r.2]) := by
  rw [p_impl_HottestWay] at h
  refine Does.bnd (fun hb => ?_)
  have hb2 : l_0.length ≤ 9223372036854775807 := by simpa [AV.fitNs, AV.fitN] using hb
  have hl0 := hb2
  refine Does.walk (nt := 52) Try.func50 rfl rfl (by simp) (by decide) rfl (fun G0 X w0 pv => ?_)
  obtain ⟨v1, ev1, h⟩ := Option.bind_eq_some_iff.1 h
  try dsimp only at h
  have ff := p_impl_HottestWay_tf.down
  try refine st_by ff ?_
  repeat' (first | exact trivial | refine And.intro sd ?_)
  first
  | (refine cq_call (p_impl_GoodSpans_does N l_0 v1 ev1) (hf_by ff) kr ⟨p_impl_HottestWay_sa ff trivial, ?_⟩; clear ff)
  | (refine cq_dcall (p_impl_GoodSpans_does N l_0 v1 ev1) (hf_by ff) kr ⟨p_impl_HottestWay_sa ff trivial, ?_⟩; clear ff)
  by_cases c2 : v1 = true
  case neg =>
   rw [if_neg c2] at h
   have dc2 := eq_false_of_ne_true c2
   have ff := And.intro @dc2 p_impl_HottestWay_tf.down
   try refine st_by ff ?_
   repeat' (first | exact trivial | refine And.intro sd ?_)
   try clear ff
   cases h
   exact ret_q2 rfl (p_impl_HottestWay_rt (And.intro @dc2 p_impl_HottestWay_tf.down) trivial)
  rw [if_pos c2] at h
  have dc2 := c2
  obtain ⟨q_0, eq_0, h⟩ := Option.bind_eq_some_iff.1 h
  have ff := And.intro @dc2 p_impl_HottestWay_tf.down
  try refine st_by ff ?_
  repeat' (first | exact trivial | refine And.intro sd ?_)
  try clear ff
  obtain ⟨I_0, hI_0⟩ : ∃ I_ : (Nat × Int × (List ByteArray)) → ASt → Prop, I_ = (fun (a : Nat × Int × (List ByteArray)) σ => match a with | (n_0, up_35, out_36) => (p_impl_HottestWay_l0 l_0 n_0 up_35 out_36 = some q_0) ∧ σ.t 0 = .row false 4 l_0.length (esSpan l_0) ∧ σ.t 4 = .sl 4 [] 0 out_36.length ∧ σ.t 5 = I up_35 ∧ σ.m 4 = some (.row true 1 out_36.length (esStr out_36))) := ⟨_, rfl⟩
  obtain ⟨M_0, hM_0⟩ : ∃ M_ : (Nat × Int × (List ByteArray)) → Nat, M_ = (fun (a : Nat × Int × (List ByteArray)) => match a with | (n_0, up_35, out_36) => n_0) := ⟨_, rfl⟩
  refine aw_loopB I_0 M_0 (N, (-1), ([] : List ByteArray)) ?_ ?_
  · rw [hI_0]
    refine ⟨eq_0, ?_⟩
    exact p_impl_HottestWay_pv (And.intro @dc2 p_impl_HottestWay_tf.down) trivial
  · rintro ⟨n_0, up_35, out_36⟩ σ hg_0
    rw [hI_0] at hg_0
    obtain ⟨h_0, g0_0, g1_0, g2_0, g3_0⟩ := hg_0
    cases n_0 with
    | zero => rw [p_impl_HottestWay_l0] at h_0; cases h_0
    | succ n_0 =>
      rw [p_impl_HottestWay_l0] at h_0
      have hL_1 : l_0.length ≤ 9223372036854775807 := by first | assumption | omega
      obtain ⟨q_1, eq_1, h_0⟩ := Option.bind_eq_some_iff.1 h_0
      have ff := And.intro @dc2 (And.intro @g0_0 (And.intro @g1_0 (And.intro @g2_0 (And.intro @g3_0 p_impl_HottestWay_tf.down))))
      try refine st_by ff ?_
      repeat' (first | exact trivial | refine And.intro sd ?_)
      try clear ff
      obtain ⟨I_1, hI_1⟩ : ∃ I_ : (Nat × Int) → ASt → Prop, I_ = (fun (a : Nat × Int) σ => match a with | (i_1, next_81) => (i_1 ≤ l_0.length ∧ p_impl_HottestWay_l1 l_0 up_35 (l_0.drop i_1) i_1 next_81 = some q_1) ∧ σ.t 0 = .row false 4 l_0.length (esSpan l_0) ∧ σ.t 4 = .sl 4 [] 0 out_36.length ∧ σ.t 5 = I up_35 ∧ σ.t 6 = I next_81 ∧ σ.t 13 = .row false 4 l_0.length (esSpan l_0) ∧ σ.t 14 = I (l_0.length : Int) ∧ σ.t 15 = I (i_1 : Int) ∧ σ.m 4 = some (.row true 1 out_36.length (esStr out_36))) := ⟨_, rfl⟩
      obtain ⟨M_1, hM_1⟩ : ∃ M_ : (Nat × Int) → Nat, M_ = (fun (a : Nat × Int) => match a with | (i_1, next_81) => l_0.length - i_1) := ⟨_, rfl⟩
      obtain ⟨J_1, hJ_1⟩ : ∃ J_ : ASt → Prop, J_ = (fun σ => ∃ next_81 : Int, (some next_81 = some q_1) ∧ σ.t 0 = .row false 4 l_0.length (esSpan l_0) ∧ σ.t 4 = .sl 4 [] 0 out_36.length ∧ σ.t 6 = I next_81 ∧ σ.m 4 = some (.row true 1 out_36.length (esStr out_36))) := ⟨_, rfl⟩
      refine aw_loopC (id := 2) I_1 M_1 J_1 (0, (-1)) ?_ ?_ ?_
      · rw [hI_1]
        refine ⟨⟨Nat.zero_le _, eq_1⟩, ?_⟩
        exact p_impl_HottestWay_pv (And.intro @dc2 (And.intro @g0_0 (And.intro @g1_0 (And.intro @g2_0 (And.intro @g3_0 p_impl_HottestWay_tf.down))))) trivial
      · rintro ⟨i_1, next_81⟩ σ hg_1
        rw [hI_1] at hg_1
        obtain ⟨⟨hi_1, h_1⟩, g0_1, g1_1, g2_1, g3_1, g4_1, g5_1, g6_1, g7_1⟩ := hg_1
        cases hr_1 : l_0.drop i_1 with
        | nil =>
          rw [hr_1] at h_1
          rw [p_impl_HottestWay_l1] at h_1
          have hn_1 := drop_nil hr_1
          have dr_1 : decide ((i_1 : Int) < (l_0.length : Int)) = false := decide_eq_false (by omega)
          have ff := And.intro @dc2 (And.intro @dr_1 (And.intro @g0_1 (And.intro @g1_1 (And.intro @g2_1 (And.intro @g3_1 (And.intro @g4_1 (And.intro @g5_1 (And.intro @g6_1 (And.intro @g7_1 p_impl_HottestWay_tf.down)))))))))
          try refine st_by ff ?_
          repeat' (first | exact trivial | refine And.intro sd ?_)
          try clear ff
          refine JW.intro ?_
          rw [hJ_1]
          refine ⟨next_81, h_1, ?_⟩
          exact p_impl_HottestWay_pv (And.intro @dc2 (And.intro @dr_1 (And.intro @g0_1 (And.intro @g1_1 (And.intro @g2_1 (And.intro @g3_1 (And.intro @g4_1 (And.intro @g5_1 (And.intro @g6_1 (And.intro @g7_1 p_impl_HottestWay_tf.down)))))))))) trivial
        | cons x_1 r_1 =>
          rw [hr_1] at h_1
          rw [p_impl_HottestWay_l1] at h_1
          obtain ⟨ht_1, hg_1, hd_1⟩ := drop_cons hr_1
          have dr_1 : decide ((i_1 : Int) < (l_0.length : Int)) = true := decide_eq_true (by omega)
          have w_1 : IntKind.i64.wrap ((i_1 : Int) + 1) = ((i_1 + 1 : Nat) : Int) := wI _ (by omega) (by omega)
          have kk1c : (esSpan l_0).drop (i_1 * 4) = eSpan x_1 ++ esSpan (l_0.drop (i_1 + 1)) := drop_enc (fun _ => rfl) (hg_1)
          by_cases c93 : x_1.Up = up_35
          case neg =>
           rw [if_neg c93] at h_1
           have dc93 := beq_no c93
           have ff := And.intro @dc2 (And.intro @dr_1 (And.intro @w_1 (And.intro @g0_1 (And.intro @g1_1 (And.intro @g2_1 (And.intro @g3_1 (And.intro @g4_1 (And.intro @g5_1 (And.intro @g6_1 (And.intro @g7_1 (And.intro @kk1c (And.intro @dc93 p_impl_HottestWay_tf.down))))))))))))
           try refine st_by ff ?_
           repeat' (first | exact trivial | refine And.intro sd ?_ | (refine aw_drawn (id := 8) ?_ [[], [0], [], [0, 1, 2], [0, 1, 2, 3], [0, 1, 2, 3, 4], [0, 1, 2, 3, 4, 5], [0, 1, 2, 3, 4, 5, 6], [0, 1, 2, 3, 4, 5, 6, 7], [0, 1, 2, 3, 4, 5, 6, 7, 8], [0, 1, 2, 3, 4, 5, 6, 7], [0, 1, 2, 3, 4, 5, 6, 7], [0, 1, 2, 3, 4, 5, 6, 7, 10, 11], [0, 1, 2, 3, 4, 5, 6, 7, 10, 11, 12], [0, 1, 2, 3, 4, 5, 6, 7, 8, 9, 10, 11, 12, 13], [0, 1, 2, 3, 4, 5, 6, 7, 8, 9, 10, 11, 12, 13, 14], [0, 1, 2, 3, 4, 5, 6, 7, 8, 9, 10, 11, 12, 13, 14, 15], [0, 1, 2, 3, 4, 5, 6, 7, 8, 9, 10, 11, 12, 13, 14, 15, 16]] 14 ?_ ?_; (· kernel_rfl); (· kernel_rfl); refine st_by ff ?_))
           try clear ff
           refine Back.intro (i_1 + 1, next_81) ?_ ?_
           · rw [hM_1]; show l_0.length - (i_1 + 1) < l_0.length - i_1; omega
           rw [hI_1]
           refine ⟨⟨by show i_1 + 1 ≤ l_0.length; omega, by show p_impl_HottestWay_l1 l_0 up_35 (l_0.drop (i_1 + 1)) (i_1 + 1) next_81 = some q_1; rw [hd_1]; exact h_1⟩, ?_⟩
           exact p_impl_HottestWay_pv (And.intro @dc2 (And.intro @dr_1 (And.intro @w_1 (And.intro @g0_1 (And.intro @g1_1 (And.intro @g2_1 (And.intro @g3_1 (And.intro @g4_1 (And.intro @g5_1 (And.intro @g6_1 (And.intro @g7_1 (And.intro @kk1c (And.intro @dc93 p_impl_HottestWay_tf.down))))))))))))) trivial
          rw [if_pos c93] at h_1
          have dc93 := beq_yes c93
          by_cases c94 : next_81 < 0
          · rw [if_pos c94] at h_1
            have dc94 := decide_eq_true c94
            have ff := And.intro @dc2 (And.intro @dr_1 (And.intro @w_1 (And.intro @g0_1 (And.intro @g1_1 (And.intro @g2_1 (And.intro @g3_1 (And.intro @g4_1 (And.intro @g5_1 (And.intro @g6_1 (And.intro @g7_1 (And.intro @kk1c (And.intro @dc93 (And.intro @dc94 p_impl_HottestWay_tf.down)))))))))))))
            try refine st_by ff ?_
            repeat' (first | exact trivial | refine And.intro sd ?_ | (refine aw_drawn (id := 8) ?_ [[], [0], [], [0, 1, 2], [0, 1, 2, 3], [0, 1, 2, 3, 4], [0, 1, 2, 3, 4, 5], [0, 1, 2, 3, 4, 5, 6], [0, 1, 2, 3, 4, 5, 6, 7], [0, 1, 2, 3, 4, 5, 6, 7, 8], [0, 1, 2, 3, 4, 5, 6, 7], [0, 1, 2, 3, 4, 5, 6, 7], [0, 1, 2, 3, 4, 5, 6, 7, 10, 11], [0, 1, 2, 3, 4, 5, 6, 7, 10, 11, 12], [0, 1, 2, 3, 4, 5, 6, 7, 8, 9, 10, 11, 12, 13], [0, 1, 2, 3, 4, 5, 6, 7, 8, 9, 10, 11, 12, 13, 14], [0, 1, 2, 3, 4, 5, 6, 7, 8, 9, 10, 11, 12, 13, 14, 15], [0, 1, 2, 3, 4, 5, 6, 7, 8, 9, 10, 11, 12, 13, 14, 15, 16]] 14 ?_ ?_; (· kernel_rfl); (· kernel_rfl); refine st_by ff ?_))
            try clear ff
            refine Back.intro (i_1 + 1, (i_1 : Int)) ?_ ?_
            · rw [hM_1]; show l_0.length - (i_1 + 1) < l_0.length - i_1; omega
            rw [hI_1]
            refine ⟨⟨by show i_1 + 1 ≤ l_0.length; omega, by show p_impl_HottestWay_l1 l_0 up_35 (l_0.drop (i_1 + 1)) (i_1 + 1) (i_1 : Int) = some q_1; rw [hd_1]; exact h_1⟩, ?_⟩
            exact p_impl_HottestWay_pv (And.intro @dc2 (And.intro @dr_1 (And.intro @w_1 (And.intro @g0_1 (And.intro @g1_1 (And.intro @g2_1 (And.intro @g3_1 (And.intro @g4_1 (And.intro @g5_1 (And.intro @g6_1 (And.intro @g7_1 (And.intro @kk1c (And.intro @dc93 (And.intro @dc94 p_impl_HottestWay_tf.down)))))))))))))) trivial
          rw [if_neg c94] at h_1
          have dc94 := decide_eq_false c94
          obtain ⟨v95, ev95, h_1⟩ := Option.bind_eq_some_iff.1 h_1
          try dsimp only at h_1
          have ff := And.intro @dc2 (And.intro @dr_1 (And.intro @w_1 (And.intro @g0_1 (And.intro @g1_1 (And.intro @g2_1 (And.intro @g3_1 (And.intro @g4_1 (And.intro @g5_1 (And.intro @g6_1 (And.intro @g7_1 (And.intro @kk1c (And.intro @dc93 (And.intro @dc94 p_impl_HottestWay_tf.down)))))))))))))
          try refine st_by ff ?_
          repeat' (first | exact trivial | refine And.intro sd ?_ | (refine aw_drawn (id := 8) ?_ [[], [0], [], [0, 1, 2], [0, 1, 2, 3], [0, 1, 2, 3, 4], [0, 1, 2, 3, 4, 5], [0, 1, 2, 3, 4, 5, 6], [0, 1, 2, 3, 4, 5, 6, 7], [0, 1, 2, 3, 4, 5, 6, 7, 8], [0, 1, 2, 3, 4, 5, 6, 7], [0, 1, 2, 3, 4, 5, 6, 7], [0, 1, 2, 3, 4, 5, 6, 7, 10, 11], [0, 1, 2, 3, 4, 5, 6, 7, 10, 11, 12], [0, 1, 2, 3, 4, 5, 6, 7, 8, 9, 10, 11, 12, 13], [0, 1, 2, 3, 4, 5, 6, 7, 8, 9, 10, 11, 12, 13, 14], [0, 1, 2, 3, 4, 5, 6, 7, 8, 9, 10, 11, 12, 13, 14, 15], [0, 1, 2, 3, 4, 5, 6, 7, 8, 9, 10, 11, 12, 13, 14, 15, 16]] 14 ?_ ?_; (· kernel_rfl); (· kernel_rfl); refine st_by ff ?_))
          first
          | (refine cq_call (p_impl_Span_long_does x_1 v95 ev95) (hf_by ff) kr ⟨p_impl_HottestWay_sa ff trivial, ?_⟩; clear ff)
          | (refine cq_dcall (p_impl_Span_long_does x_1 v95 ev95) (hf_by ff) kr ⟨p_impl_HottestWay_sa ff trivial, ?_⟩; clear ff)
          obtain ⟨x96, ex96, h_1⟩ := Option.bind_eq_some_iff.1 h_1
          try dsimp only at h_1
          have f97a := idx_lo ex96
          have f97b := idx_hi ex96
          have f97c : (esSpan l_0).drop (next_81.toNat * 4) = eSpan x96 ++ esSpan (l_0.drop (next_81.toNat + 1)) := drop_enc (fun _ => rfl) (idx_get ex96)
          obtain ⟨v98, ev98, h_1⟩ := Option.bind_eq_some_iff.1 h_1
          try dsimp only at h_1
          have ff := And.intro @dc2 (And.intro @dr_1 (And.intro @w_1 (And.intro @g0_1 (And.intro @g1_1 (And.intro @g2_1 (And.intro @g3_1 (And.intro @g4_1 (And.intro @g5_1 (And.intro @g6_1 (And.intro @g7_1 (And.intro @kk1c (And.intro @dc93 (And.intro @dc94 (And.intro @f97c p_impl_HottestWay_tf.down))))))))))))))
          try refine st_by ff ?_
          repeat' (first | exact trivial | refine And.intro sd ?_)
          first
          | (refine cq_call (p_impl_Span_long_does x96 v98 ev98) (hf_by ff) kr ⟨p_impl_HottestWay_sa ff trivial, ?_⟩; clear ff)
          | (refine cq_dcall (p_impl_Span_long_does x96 v98 ev98) (hf_by ff) kr ⟨p_impl_HottestWay_sa ff trivial, ?_⟩; clear ff)
          by_cases c99 : v95 > v98
          case neg =>
           rw [if_neg c99] at h_1
           have dc99 := decide_eq_false c99
           have ff := And.intro @dc2 (And.intro @dr_1 (And.intro @w_1 (And.intro @g0_1 (And.intro @g1_1 (And.intro @g2_1 (And.intro @g3_1 (And.intro @g4_1 (And.intro @g5_1 (And.intro @g6_1 (And.intro @g7_1 (And.intro @kk1c (And.intro @dc93 (And.intro @dc94 (And.intro @f97c (And.intro @dc99 p_impl_HottestWay_tf.down)))))))))))))))
           try refine st_by ff ?_
           repeat' (first | exact trivial | refine And.intro sd ?_)
           try clear ff
           refine Back.intro (i_1 + 1, next_81) ?_ ?_
           · rw [hM_1]; show l_0.length - (i_1 + 1) < l_0.length - i_1; omega
           rw [hI_1]
           refine ⟨⟨by show i_1 + 1 ≤ l_0.length; omega, by show p_impl_HottestWay_l1 l_0 up_35 (l_0.drop (i_1 + 1)) (i_1 + 1) next_81 = some q_1; rw [hd_1]; exact h_1⟩, ?_⟩
           exact p_impl_HottestWay_pv (And.intro @dc2 (And.intro @dr_1 (And.intro @w_1 (And.intro @g0_1 (And.intro @g1_1 (And.intro @g2_1 (And.intro @g3_1 (And.intro @g4_1 (And.intro @g5_1 (And.intro @g6_1 (And.intro @g7_1 (And.intro @kk1c (And.intro @dc93 (And.intro @dc94 (And.intro @f97c (And.intro @dc99 p_impl_HottestWay_tf.down)))))))))))))))) trivial
          rw [if_pos c99] at h_1
          have dc99 := decide_eq_true c99
          have ff := And.intro @dc2 (And.intro @dr_1 (And.intro @w_1 (And.intro @g0_1 (And.intro @g1_1 (And.intro @g2_1 (And.intro @g3_1 (And.intro @g4_1 (And.intro @g5_1 (And.intro @g6_1 (And.intro @g7_1 (And.intro @kk1c (And.intro @dc93 (And.intro @dc94 (And.intro @f97c (And.intro @dc99 p_impl_HottestWay_tf.down)))))))))))))))
          try refine st_by ff ?_
          repeat' (first | exact trivial | refine And.intro sd ?_)
          try clear ff
          refine Back.intro (i_1 + 1, (i_1 : Int)) ?_ ?_
          · rw [hM_1]; show l_0.length - (i_1 + 1) < l_0.length - i_1; omega
          rw [hI_1]
          refine ⟨⟨by show i_1 + 1 ≤ l_0.length; omega, by show p_impl_HottestWay_l1 l_0 up_35 (l_0.drop (i_1 + 1)) (i_1 + 1) (i_1 : Int) = some q_1; rw [hd_1]; exact h_1⟩, ?_⟩
          exact p_impl_HottestWay_pv (And.intro @dc2 (And.intro @dr_1 (And.intro @w_1 (And.intro @g0_1 (And.intro @g1_1 (And.intro @g2_1 (And.intro @g3_1 (And.intro @g4_1 (And.intro @g5_1 (And.intro @g6_1 (And.intro @g7_1 (And.intro @kk1c (And.intro @dc93 (And.intro @dc94 (And.intro @f97c (And.intro @dc99 p_impl_HottestWay_tf.down)))))))))))))))) trivial
      · rintro σ hg_1
        rw [hJ_1] at hg_1
        obtain ⟨next_81, hj_1, g0_1a, g1_1a, g2_1a, g3_1a⟩ := hg_1
        have hjj_1 := Option.some.inj hj_1
        subst hjj_1
        try dsimp only at h_0
        by_cases c100 : next_81 < 0
        · rw [if_pos c100] at h_0
          have dc100 := decide_eq_true c100
          cases h_0
          try dsimp only at h
          have ff := And.intro @dc2 (And.intro @g0_1a (And.intro @g1_1a (And.intro @g2_1a (And.intro @g3_1a (And.intro @dc100 p_impl_HottestWay_tf.down)))))
          try refine st_by ff ?_
          repeat' (first | exact trivial | refine And.intro sd ?_)
          try clear ff
          cases h
          exact ret_q2 rfl (p_impl_HottestWay_rt (And.intro @dc2 (And.intro @g0_1a (And.intro @g1_1a (And.intro @g2_1a (And.intro @g3_1a (And.intro @dc100 p_impl_HottestWay_tf.down)))))) trivial)
        rw [if_neg c100] at h_0
        have dc100 := decide_eq_false c100
        obtain ⟨x101, ex101, h_0⟩ := Option.bind_eq_some_iff.1 h_0
        try dsimp only at h_0
        have f102a := idx_lo ex101
        have f102b := idx_hi ex101
        have f102c : (esSpan l_0).drop (next_81.toNat * 4) = eSpan x101 ++ esSpan (l_0.drop (next_81.toNat + 1)) := drop_enc (fun _ => rfl) (idx_get ex101)
        by_cases c103 : out_36.length < 4294967296
        case neg => rw [if_neg c103] at h_0; cases h_0
        rw [if_pos c103] at h_0
        have a104a : esStr out_36 ++ [S x101.Name] = esStr (out_36 ++ [x101.Name]) := by simp [esStr_app, esStr_cons, esStr_nil, eStr_eq]
        have a104b : out_36.length + 1 = (out_36 ++ [x101.Name]).length := by simp
        have ff := And.intro @dc2 (And.intro @g0_1a (And.intro @g1_1a (And.intro @g2_1a (And.intro @g3_1a (And.intro @dc100 (And.intro @f102c (And.intro @a104a (And.intro @a104b p_impl_HottestWay_tf.down))))))))
        try refine st_by ff ?_
        repeat' (first | exact trivial | refine And.intro sd ?_)
        try clear ff
        refine Back.intro (n_0, next_81, (out_36 ++ [x101.Name])) ?_ ?_
        · rw [hM_0]; exact Nat.lt_succ_self _
        rw [hI_0]
        refine ⟨h_0, ?_⟩
        exact p_impl_HottestWay_pv (And.intro @dc2 (And.intro @g0_1a (And.intro @g1_1a (And.intro @g2_1a (And.intro @g3_1a (And.intro @dc100 (And.intro @f102c (And.intro @a104a (And.intro @a104b p_impl_HottestWay_tf.down))))))))) trivial
end Go.Av
