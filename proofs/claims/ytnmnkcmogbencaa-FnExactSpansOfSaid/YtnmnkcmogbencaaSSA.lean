/- impl.SpansOf -/
import Derived.Test.YtnmnkcmogbencaaSLA
import Derived.Test.YtnmnkcmogbencaaSG3
set_option linter.unusedSimpArgs false
set_option linter.unusedVariables false
set_option maxRecDepth 100000
set_option maxHeartbeats 1000000
namespace Go.Av
open Go.Proofs
/-! impl.SpansOf -/
def p_impl_SpansOf_j1 (out_35 : List GSpan) (open_36 : List Int) (x_0 : GTick27) (i_0 : Nat) (rec_0 : Nat → (List GSpan) → (List Int) → Option (LR (List GSpan × Bool) ((List GSpan) × (List Int)))) (up_76 : Int) : Option (LR (List GSpan × Bool) ((List GSpan) × (List Int))) := (if open_36.length < 4294967296 then (if out_35.length < 4294967296 then (if ((open_36 ++ [(out_35.length : Int)]).length : Int) > 12 then some (.ret (([] : List GSpan), false)) else rec_0 (i_0 + 1) (out_35 ++ [(⟨x_0.Name, x_0.Time, 0, up_76⟩ : GSpan)]) (open_36 ++ [(out_35.length : Int)])) else none) else none)
def p_impl_SpansOf_j2 (out_35 : List GSpan) (open_36 : List Int) (x_0 : GTick27) (i_0 : Nat) (rec_0 : Nat → (List GSpan) → (List Int) → Option (LR (List GSpan × Bool) ((List GSpan) × (List Int)))) (b_85 : Bool) : Option (LR (List GSpan × Bool) ((List GSpan) × (List Int))) := (if b_85 = true then some (.ret (([] : List GSpan), false)) else ((idx open_36 (IntKind.i64.wrap ((open_36.length : Int) - 1))).bind fun x87 => ((idx out_35 x87).bind fun x89 => ((slc open_36 0 (IntKind.i64.wrap ((open_36.length : Int) - 1))).bind fun m93 => rec_0 (i_0 + 1) (out_35.set x87.toNat (⟨x89.Name, x89.From, x_0.Time, x89.Up⟩ : GSpan)) m93))))
def p_impl_SpansOf_j0 (out_35 : List GSpan) (open_36 : List Int) (x_0 : GTick27) (i_0 : Nat) (rec_0 : Nat → (List GSpan) → (List Int) → Option (LR (List GSpan × Bool) ((List GSpan) × (List Int)))) (b_73 : Bool) : Option (LR (List GSpan × Bool) ((List GSpan) × (List Int))) := (if b_73 = true then some (.ret (([] : List GSpan), false)) else (if x_0.Open = true then (if (open_36.length : Int) > 0 then ((idx open_36 (IntKind.i64.wrap ((open_36.length : Int) - 1))).bind fun x83 => p_impl_SpansOf_j1 out_35 open_36 x_0 i_0 (rec_0) x83) else p_impl_SpansOf_j1 out_35 open_36 x_0 i_0 (rec_0) (-1)) else (if (open_36.length : Int) = 0 then p_impl_SpansOf_j2 out_35 open_36 x_0 i_0 (rec_0) true else ((idx open_36 (IntKind.i64.wrap ((open_36.length : Int) - 1))).bind fun x96 => ((idx out_35 x96).bind fun x98 => p_impl_SpansOf_j2 out_35 open_36 x_0 i_0 (rec_0) (!(decide (x98.Name = x_0.Name))))))))
def p_impl_SpansOf_l0 (l_0 : List GTick27) : List GTick27 → Nat → (List GSpan) → (List Int) → Option (LR (List GSpan × Bool) ((List GSpan) × (List Int)))
  | [], i_0, out_35, open_36 => some (.out (out_35, open_36))
  | x_0 :: r_0, i_0, out_35, open_36 => (if (rng x_0.Time 0 100000) = true then (if x_0.Name.size ≤ 9223372036854775807 then (if (goodName x_0.Name) = true then (if (i_0 : Int) > 0 then ((idx l_0 (IntKind.i64.wrap ((i_0 : Int) - 1))).bind fun x104 => p_impl_SpansOf_j0 out_35 open_36 x_0 i_0 (p_impl_SpansOf_l0 l_0 r_0) (decide (x104.Time > x_0.Time))) else p_impl_SpansOf_j0 out_35 open_36 x_0 i_0 (p_impl_SpansOf_l0 l_0 r_0) false) else p_impl_SpansOf_j0 out_35 open_36 x_0 i_0 (p_impl_SpansOf_l0 l_0 r_0) true) else none) else p_impl_SpansOf_j0 out_35 open_36 x_0 i_0 (p_impl_SpansOf_l0 l_0 r_0) true)
theorem p_impl_SpansOf_pv {F C A : Prop} (hF : F) (hC : C) (h : F → C → A := by intro hF hC; first | exact cl_by hF | (refine st_by hF ?_; repeat' (first | exact trivial | apply And.intro); all_goals (clear hF; first | rfl | (simp only [hC, List.length_append, List.length_cons, List.length_nil, List.append_nil, List.nil_append, List.cons_append, List.length_set, List.append_assoc, Nat.zero_add, List.length_replicate, esInt_app, esInt_cons, esInt_nil, eInt_eq, esSpan_app, esSpan_cons, esSpan_nil, eSpan_eq, esTick27_app, esTick27_cons, esTick27_nil, eTick27_eq]; done) | (simp [hC, List.length_append, List.length_cons, List.length_nil, List.append_nil, List.nil_append, List.cons_append, List.length_set, List.append_assoc, Nat.zero_add, List.length_replicate, esInt_app, esInt_cons, esInt_nil, eInt_eq, esSpan_app, esSpan_cons, esSpan_nil, eSpan_eq, esTick27_app, esTick27_cons, esTick27_nil, eTick27_eq]; done) | omega))) : A := h hF hC
theorem p_impl_SpansOf_sa {F C A : Prop} (hF : F) (hC : C) (h : F → C → A := by intro hF hC; first | exact ca_by hF | (refine sa_by hF ?_; repeat' (first | exact trivial | apply And.intro); all_goals (clear hF; first | rfl | (simp only [hC, List.length_append, List.length_cons, List.length_nil, List.append_nil, List.nil_append, List.cons_append, List.length_set, List.append_assoc, Nat.zero_add, List.length_replicate, esInt_app, esInt_cons, esInt_nil, eInt_eq, esSpan_app, esSpan_cons, esSpan_nil, eSpan_eq, esTick27_app, esTick27_cons, esTick27_nil, eTick27_eq]; done) | (simp [hC, List.length_append, List.length_cons, List.length_nil, List.append_nil, List.nil_append, List.cons_append, List.length_set, List.append_assoc, Nat.zero_add, List.length_replicate, esInt_app, esInt_cons, esInt_nil, eInt_eq, esSpan_app, esSpan_cons, esSpan_nil, eSpan_eq, esTick27_app, esTick27_cons, esTick27_nil, eTick27_eq]; done) | omega))) : A := h hF hC
theorem p_impl_SpansOf_rt {F C A : Prop} (hF : F) (hC : C) (h : F → C → A := by intro hF hC; first | (refine sr_by hF ?_; repeat' (first | exact trivial | apply And.intro); all_goals (clear hF; first | rfl | (simp only [hC, List.length_append, List.length_cons, List.length_nil, List.append_nil, List.nil_append, List.cons_append, List.length_set, List.append_assoc, Nat.zero_add, List.length_replicate, esInt_app, esInt_cons, esInt_nil, eInt_eq, esSpan_app, esSpan_cons, esSpan_nil, eSpan_eq, esTick27_app, esTick27_cons, esTick27_nil, eTick27_eq]; done) | (simp [hC, List.length_append, List.length_cons, List.length_nil, List.append_nil, List.nil_append, List.cons_append, List.length_set, List.append_assoc, Nat.zero_add, List.length_replicate, esInt_app, esInt_cons, esInt_nil, eInt_eq, esSpan_app, esSpan_cons, esSpan_nil, eSpan_eq, esTick27_app, esTick27_cons, esTick27_nil, eTick27_eq]; done) | omega)) | (first | rfl | (simp only [hC, List.length_append, List.length_cons, List.length_nil, List.append_nil, List.nil_append, List.cons_append, List.length_set, List.append_assoc, Nat.zero_add, List.length_replicate, esInt_app, esInt_cons, esInt_nil, eInt_eq, esSpan_app, esSpan_cons, esSpan_nil, eSpan_eq, esTick27_app, esTick27_cons, esTick27_nil, eTick27_eq]; done) | (simp [hC, List.length_append, List.length_cons, List.length_nil, List.append_nil, List.nil_append, List.cons_append, List.length_set, List.append_assoc, Nat.zero_add, List.length_replicate, esInt_app, esInt_cons, esInt_nil, eInt_eq, esSpan_app, esSpan_cons, esSpan_nil, eSpan_eq, esTick27_app, esTick27_cons, esTick27_nil, eTick27_eq]; done) | omega)) : A := h hF hC
def p_impl_SpansOf_tf := PLift.up (And.intro @eInt_eq (And.intro @esInt_len (And.intro @esInt_nil (And.intro @eSpan_eq (And.intro @esSpan_len (And.intro @esSpan_nil (And.intro @eTick27_eq (And.intro @esTick27_len (And.intro @esTick27_nil (And.intro @esInt_share (And.intro @esInt_pure (And.intro @esSpan_share (And.intro @esSpan_pure (And.intro @esTick27_share (And.intro @esTick27_pure (And.intro @str_beq (And.intro @Ty.sl68 (And.intro @Ty.slz68 (And.intro @Ty.sl22 (And.intro @Ty.slz22 (And.intro @Ty.sl38 (And.intro @Ty.slz38 (And.intro @Ty.ldA125 (And.intro @Ty.sz125 (And.intro @Ty.szn125 (And.intro @Ty.ldA3 (And.intro @Ty.ldS3 (And.intro @Ty.sz3 (And.intro @Ty.szn3 (And.intro @Ty.ldA9 (And.intro @Ty.ldS9 (And.intro @Ty.sz9 (And.intro @Ty.szn9 (And.intro @Ty.ldA4 (And.intro @Ty.ldS4 (And.intro @Ty.sz4 (And.intro @Ty.szn4 (And.intro @Ty.fo125_0 (And.intro @Ty.fk125_0 (And.intro @Ty.fs125_0 (And.intro @Ty.fn125_0 (And.intro @Ty.fo125_1 (And.intro @Ty.fk125_1 (And.intro @Ty.fs125_1 (And.intro @Ty.fn125_1 (And.intro @Ty.fo125_2 (And.intro @Ty.fk125_2 (And.intro @Ty.fs125_2 (And.intro @Ty.fn125_2 (And.intro @Ty.fo91_0 (And.intro @Ty.fk91_0 (And.intro @Ty.fs91_0 (And.intro @Ty.fn91_0 (And.intro @Ty.fo91_2 (And.intro @Ty.fk91_2 (And.intro @Ty.fs91_2 (And.intro @Ty.fn91_2 (And.intro @Ty.zok38 (And.intro @Ty.by38 (And.intro @Ty.zs38 (And.intro @Ty.zok22 (And.intro @Ty.by22 (And.intro @Ty.zs22 (And.intro @Ty.zv125 (And.intro @Ty.bd91 (And.intro @Ty.zv91 (And.intro @Ty.pl91_0 (And.intro @Ty.pl91_1 (And.intro @Ty.pl91_3 @trivial)))))))))))))))))))))))))))))))))))))))))))))))))))))))))))))))))))))
def p_impl_SpansOf (l_0 : List GTick27) : Option (List GSpan × Bool) := (if (l_0.length : Int) > 200 then some (([] : List GSpan), false) else ((p_impl_SpansOf_l0 l_0 l_0 0 ([] : List GSpan) ([] : List Int)).bind fun q_0 => match q_0 with | .ret r_ => some r_ | .out (out_35, open_36) => (if (open_36.length : Int) > 0 then some (([] : List GSpan), false) else some (out_35, true))))
theorem p_impl_SpansOf_does (l_0 : List GTick27) (r : List GSpan × Bool) (h : p_impl_SpansOf l_0 = some r) : Does Try.prog 44 [.row false 3 l_0.length (esTick27 l_0)] (.tup [.row true 4 r.1.length (esSpan r.1), B r.2]) := by
  rw [p_impl_SpansOf] at h
  refine Does.bnd (fun hb => ?_)
  have hb2 : l_0.length ≤ 9223372036854775807 := by simpa [AV.fitNs, AV.fitN] using hb
  have hl0 := hb2
  refine Does.walk (nt := 113) Try.func44 rfl rfl (by simp) (by decide) rfl (fun G0 X w0 pv => ?_)
  by_cases c1 : (l_0.length : Int) > 200
  · rw [if_pos c1] at h
    have dc1 := decide_eq_true c1
    have ff := And.intro @dc1 p_impl_SpansOf_tf.down
    try refine st_by ff ?_
    repeat' (first | exact trivial | refine And.intro sd ?_)
    try clear ff
    cases h
    exact ret_q2 rfl (p_impl_SpansOf_rt (And.intro @dc1 p_impl_SpansOf_tf.down) trivial)
  rw [if_neg c1] at h
  have dc1 := decide_eq_false c1
  have hL_0 : l_0.length ≤ 9223372036854775807 := by first | assumption | omega
  obtain ⟨q_0, eq_0, h⟩ := Option.bind_eq_some_iff.1 h
  have ff := And.intro @dc1 p_impl_SpansOf_tf.down
  try refine st_by ff ?_
  repeat' (first | exact trivial | refine And.intro sd ?_)
  try clear ff
  obtain ⟨I_0, hI_0⟩ : ∃ I_ : (Nat × (List GSpan) × (List Int)) → ASt → Prop, I_ = (fun (a : Nat × (List GSpan) × (List Int)) σ => match a with | (i_0, out_35, open_36) => (i_0 ≤ l_0.length ∧ p_impl_SpansOf_l0 l_0 (l_0.drop i_0) i_0 out_35 open_36 = some q_0) ∧ σ.t 0 = .row false 3 l_0.length (esTick27 l_0) ∧ σ.t 4 = .sl 4 [] 0 out_35.length ∧ σ.t 5 = .sl 5 [] 0 open_36.length ∧ σ.t 14 = .row false 3 l_0.length (esTick27 l_0) ∧ σ.t 15 = I (l_0.length : Int) ∧ σ.t 16 = I (i_0 : Int) ∧ σ.m 4 = some (.row true 4 out_35.length (esSpan out_35)) ∧ σ.m 5 = some (.row true 1 open_36.length (esInt open_36))) := ⟨_, rfl⟩
  obtain ⟨M_0, hM_0⟩ : ∃ M_ : (Nat × (List GSpan) × (List Int)) → Nat, M_ = (fun (a : Nat × (List GSpan) × (List Int)) => match a with | (i_0, out_35, open_36) => l_0.length - i_0) := ⟨_, rfl⟩
  obtain ⟨J_0, hJ_0⟩ : ∃ J_ : ASt → Prop, J_ = (fun σ => ∃ out_35 : List GSpan, ∃ open_36 : List Int, (some (.out (out_35, open_36)) = some q_0) ∧ σ.t 4 = .sl 4 [] 0 out_35.length ∧ σ.t 5 = .sl 5 [] 0 open_36.length ∧ σ.m 4 = some (.row true 4 out_35.length (esSpan out_35)) ∧ σ.m 5 = some (.row true 1 open_36.length (esInt open_36))) := ⟨_, rfl⟩
  refine aw_loopC (id := 0) I_0 M_0 J_0 (0, ([] : List GSpan), ([] : List Int)) ?_ ?_ ?_
  · rw [hI_0]
    refine ⟨⟨Nat.zero_le _, eq_0⟩, ?_⟩
    exact p_impl_SpansOf_pv (And.intro @dc1 p_impl_SpansOf_tf.down) trivial
  · rintro ⟨i_0, out_35, open_36⟩ σ hg_0
    rw [hI_0] at hg_0
    obtain ⟨⟨hi_0, h_0⟩, g0_0, g1_0, g2_0, g3_0, g4_0, g5_0, g6_0, g7_0⟩ := hg_0
    cases hr_0 : l_0.drop i_0 with
    | nil =>
      rw [hr_0] at h_0
      rw [p_impl_SpansOf_l0] at h_0
      have hn_0 := drop_nil hr_0
      have dr_0 : decide ((i_0 : Int) < (l_0.length : Int)) = false := decide_eq_false (by omega)
      have ff := And.intro @dc1 (And.intro @dr_0 (And.intro @g0_0 (And.intro @g1_0 (And.intro @g2_0 (And.intro @g3_0 (And.intro @g4_0 (And.intro @g5_0 (And.intro @g6_0 (And.intro @g7_0 p_impl_SpansOf_tf.down)))))))))
      try refine st_by ff ?_
      repeat' (first | exact trivial | refine And.intro sd ?_)
      try clear ff
      refine JW.intro ?_
      rw [hJ_0]
      refine ⟨out_35, open_36, h_0, ?_⟩
      exact p_impl_SpansOf_pv (And.intro @dc1 (And.intro @dr_0 (And.intro @g0_0 (And.intro @g1_0 (And.intro @g2_0 (And.intro @g3_0 (And.intro @g4_0 (And.intro @g5_0 (And.intro @g6_0 (And.intro @g7_0 p_impl_SpansOf_tf.down)))))))))) trivial
    | cons x_0 r_0 =>
      rw [hr_0] at h_0
      rw [p_impl_SpansOf_l0] at h_0
      obtain ⟨ht_0, hg_0, hd_0⟩ := drop_cons hr_0
      have dr_0 : decide ((i_0 : Int) < (l_0.length : Int)) = true := decide_eq_true (by omega)
      have w_0 : IntKind.i64.wrap ((i_0 : Int) + 1) = ((i_0 + 1 : Nat) : Int) := wI _ (by omega) (by omega)
      have kk0c : (esTick27 l_0).drop (i_0 * 3) = eTick27 x_0 ++ esTick27 (l_0.drop (i_0 + 1)) := drop_enc (fun _ => rfl) (hg_0)
      have ff := And.intro @dc1 (And.intro @dr_0 (And.intro @w_0 (And.intro @g0_0 (And.intro @g1_0 (And.intro @g2_0 (And.intro @g3_0 (And.intro @g4_0 (And.intro @g5_0 (And.intro @g6_0 (And.intro @g7_0 (And.intro @kk0c p_impl_SpansOf_tf.down)))))))))))
      try refine st_by ff ?_
      repeat' (first | exact trivial | refine And.intro sd ?_ | (refine aw_drawn (id := 7) ?_ [[], [0], [0, 1], [0, 1, 2], [0, 1, 2, 3], [0, 1, 2, 3, 4], [0, 1, 2, 3, 4, 5], [0, 1, 2, 3, 4, 5, 6], [0, 1, 2, 3, 4, 5, 6, 7], [0, 1, 2, 3, 4, 5, 6, 7, 8], [0, 1, 2, 3, 4, 5, 6, 7, 8, 9], [0, 1, 2, 3, 4, 5, 6, 7, 8, 9, 10], [0, 1, 2, 3, 4, 5, 6, 7, 8, 9, 10, 11], [0, 1, 2, 3, 4, 5, 6, 7, 8, 9, 10, 11, 12], [0, 1, 2, 3, 4, 5, 6, 7, 8, 9, 10, 11, 12, 13], [0, 1, 2, 3, 4, 5, 6, 7, 8, 9, 10, 11, 12, 13], [0, 1, 2, 3, 4, 5, 6, 7, 8, 9, 10, 11, 12, 13, 15], [0, 1, 2, 3, 4, 5, 6, 7, 8, 9, 10, 11, 12, 13, 14, 15, 16], [0, 1, 2, 3, 4, 5, 6, 7, 8, 9, 10, 11, 12, 13, 14, 15, 16, 17], [0, 1, 2, 3, 4, 5, 6, 7, 8, 9, 10, 11, 12, 13, 14, 15, 16, 17, 18], [0, 1, 2, 3, 4, 5, 6, 7, 8, 9, 10, 11, 12, 13], [0, 1, 2, 3, 4, 5, 6, 7, 8, 9, 10, 11, 12, 13, 20], [0, 1, 2, 3, 4, 5, 6, 7, 8, 9, 10, 11, 12, 13, 14, 15, 16, 17, 18, 19, 20, 21], [0, 1, 2, 3, 4, 5, 6, 7, 8, 9, 10, 11, 12, 13, 14, 15, 16, 17, 18, 19, 20, 21, 22], [0, 1, 2, 3, 4, 5, 6, 7, 8, 9, 10, 11, 12, 13, 14, 15, 16, 17, 18, 19, 20, 21, 22, 23]] 22 ?_ ?_; (· kernel_rfl); (· kernel_rfl); refine st_by ff ?_))
      try clear ff
      generalize hk_0 : thenK _ _ = kk_0
      have key_0 : ∀ σ, (∃ b_73 : Bool, (p_impl_SpansOf_j0 out_35 open_36 x_0 i_0 (p_impl_SpansOf_l0 l_0 r_0) b_73 = some q_0) ∧ σ.t 0 = .row false 3 l_0.length (esTick27 l_0) ∧ σ.t 4 = .sl 4 [] 0 out_35.length ∧ σ.t 5 = .sl 5 [] 0 open_36.length ∧ σ.t 7 = .ptr 7 [] 0 ∧ σ.t 14 = .row false 3 l_0.length (esTick27 l_0) ∧ σ.t 15 = I (l_0.length : Int) ∧ σ.t 16 = I (i_0 : Int) ∧ σ.t 45 = B b_73 ∧ σ.m 4 = some (.row true 4 out_35.length (esSpan out_35)) ∧ σ.m 5 = some (.row true 1 open_36.length (esInt open_36)) ∧ σ.m 7 = some (.box true [I x_0.Time, S x_0.Name, B x_0.Open])) → kk_0 .nm σ := by
        rintro σ ⟨b_73, h_0, g0_j0, g1_j0, g2_j0, g3_j0, g4_j0, g5_j0, g6_j0, g7_j0, g8_j0, g9_j0, g10_j0⟩
        rw [← hk_0]
        rw [p_impl_SpansOf_j0] at h_0
        by_cases c74 : b_73 = true
        · rw [if_pos c74] at h_0
          have dc74 := c74
          cases h_0
          try dsimp only at h
          have ff := And.intro @dc1 (And.intro @dr_0 (And.intro @w_0 (And.intro @kk0c (And.intro @g0_j0 (And.intro @g1_j0 (And.intro @g2_j0 (And.intro @g3_j0 (And.intro @g4_j0 (And.intro @g5_j0 (And.intro @g6_j0 (And.intro @g7_j0 (And.intro @g8_j0 (And.intro @g9_j0 (And.intro @g10_j0 (And.intro @dc74 p_impl_SpansOf_tf.down)))))))))))))))
          try refine st_by ff ?_
          repeat' (first | exact trivial | refine And.intro sd ?_)
          try clear ff
          cases h
          exact ret_q2 rfl (p_impl_SpansOf_rt (And.intro @dc1 (And.intro @dr_0 (And.intro @w_0 (And.intro @kk0c (And.intro @g0_j0 (And.intro @g1_j0 (And.intro @g2_j0 (And.intro @g3_j0 (And.intro @g4_j0 (And.intro @g5_j0 (And.intro @g6_j0 (And.intro @g7_j0 (And.intro @g8_j0 (And.intro @g9_j0 (And.intro @g10_j0 (And.intro @dc74 p_impl_SpansOf_tf.down)))))))))))))))) trivial)
        rw [if_neg c74] at h_0
        have dc74 := eq_false_of_ne_true c74
        by_cases c75 : x_0.Open = true
        · rw [if_pos c75] at h_0
          have dc75 := c75
          have ff := And.intro @dc1 (And.intro @dr_0 (And.intro @w_0 (And.intro @kk0c (And.intro @g0_j0 (And.intro @g1_j0 (And.intro @g2_j0 (And.intro @g3_j0 (And.intro @g4_j0 (And.intro @g5_j0 (And.intro @g6_j0 (And.intro @g7_j0 (And.intro @g8_j0 (And.intro @g9_j0 (And.intro @g10_j0 (And.intro @dc74 (And.intro @dc75 p_impl_SpansOf_tf.down))))))))))))))))
          try refine st_by ff ?_
          repeat' (first | exact trivial | refine And.intro sd ?_)
          try clear ff
          generalize hk_1 : thenK _ _ = kk_1
          have key_1 : ∀ σ, (∃ up_76 : Int, (p_impl_SpansOf_j1 out_35 open_36 x_0 i_0 (p_impl_SpansOf_l0 l_0 r_0) up_76 = some q_0) ∧ σ.t 0 = .row false 3 l_0.length (esTick27 l_0) ∧ σ.t 4 = .sl 4 [] 0 out_35.length ∧ σ.t 5 = .sl 5 [] 0 open_36.length ∧ σ.t 7 = .ptr 7 [] 0 ∧ σ.t 8 = I up_76 ∧ σ.t 14 = .row false 3 l_0.length (esTick27 l_0) ∧ σ.t 15 = I (l_0.length : Int) ∧ σ.t 16 = I (i_0 : Int) ∧ σ.m 4 = some (.row true 4 out_35.length (esSpan out_35)) ∧ σ.m 5 = some (.row true 1 open_36.length (esInt open_36)) ∧ σ.m 7 = some (.box true [I x_0.Time, S x_0.Name, B x_0.Open])) → kk_1 .nm σ := by
            rintro σ ⟨up_76, h_0, g0_j1, g1_j1, g2_j1, g3_j1, g4_j1, g5_j1, g6_j1, g7_j1, g8_j1, g9_j1, g10_j1⟩
            rw [← hk_1]
            rw [p_impl_SpansOf_j1] at h_0
            by_cases c77 : open_36.length < 4294967296
            case neg => rw [if_neg c77] at h_0; cases h_0
            rw [if_pos c77] at h_0
            have a78a : esInt open_36 ++ [I (out_35.length : Int)] = esInt (open_36 ++ [(out_35.length : Int)]) := by simp [esInt_app, esInt_cons, esInt_nil, eInt_eq]
            have a78b : open_36.length + 1 = (open_36 ++ [(out_35.length : Int)]).length := by simp
            by_cases c79 : out_35.length < 4294967296
            case neg => rw [if_neg c79] at h_0; cases h_0
            rw [if_pos c79] at h_0
            have a80a : esSpan out_35 ++ [S x_0.Name, I x_0.Time, I 0, I up_76] = esSpan (out_35 ++ [(⟨x_0.Name, x_0.Time, 0, up_76⟩ : GSpan)]) := by simp [esSpan_app, esSpan_cons, esSpan_nil, eSpan_eq]
            have a80b : out_35.length + 1 = (out_35 ++ [(⟨x_0.Name, x_0.Time, 0, up_76⟩ : GSpan)]).length := by simp
            by_cases c81 : ((open_36 ++ [(out_35.length : Int)]).length : Int) > 12
            · rw [if_pos c81] at h_0
              have dc81 := decide_eq_true c81
              cases h_0
              try dsimp only at h
              have ff := And.intro @dc1 (And.intro @dr_0 (And.intro @w_0 (And.intro @kk0c (And.intro @dc74 (And.intro @dc75 (And.intro @g0_j1 (And.intro @g1_j1 (And.intro @g2_j1 (And.intro @g3_j1 (And.intro @g4_j1 (And.intro @g5_j1 (And.intro @g6_j1 (And.intro @g7_j1 (And.intro @g8_j1 (And.intro @g9_j1 (And.intro @g10_j1 (And.intro @a78a (And.intro @a78b (And.intro @a80a (And.intro @a80b (And.intro @dc81 p_impl_SpansOf_tf.down)))))))))))))))))))))
              try refine st_by ff ?_
              repeat' (first | exact trivial | refine And.intro sd ?_)
              try clear ff
              cases h
              exact ret_q2 rfl (p_impl_SpansOf_rt (And.intro @dc1 (And.intro @dr_0 (And.intro @w_0 (And.intro @kk0c (And.intro @dc74 (And.intro @dc75 (And.intro @g0_j1 (And.intro @g1_j1 (And.intro @g2_j1 (And.intro @g3_j1 (And.intro @g4_j1 (And.intro @g5_j1 (And.intro @g6_j1 (And.intro @g7_j1 (And.intro @g8_j1 (And.intro @g9_j1 (And.intro @g10_j1 (And.intro @a78a (And.intro @a78b (And.intro @a80a (And.intro @a80b (And.intro @dc81 p_impl_SpansOf_tf.down)))))))))))))))))))))) trivial)
            rw [if_neg c81] at h_0
            have dc81 := decide_eq_false c81
            have ff := And.intro @dc1 (And.intro @dr_0 (And.intro @w_0 (And.intro @kk0c (And.intro @dc74 (And.intro @dc75 (And.intro @g0_j1 (And.intro @g1_j1 (And.intro @g2_j1 (And.intro @g3_j1 (And.intro @g4_j1 (And.intro @g5_j1 (And.intro @g6_j1 (And.intro @g7_j1 (And.intro @g8_j1 (And.intro @g9_j1 (And.intro @g10_j1 (And.intro @a78a (And.intro @a78b (And.intro @a80a (And.intro @a80b (And.intro @dc81 p_impl_SpansOf_tf.down)))))))))))))))))))))
            try refine st_by ff ?_
            repeat' (first | exact trivial | refine And.intro sd ?_)
            try clear ff
            refine Back.intro (i_0 + 1, (out_35 ++ [(⟨x_0.Name, x_0.Time, 0, up_76⟩ : GSpan)]), (open_36 ++ [(out_35.length : Int)])) ?_ ?_
            · rw [hM_0]; show l_0.length - (i_0 + 1) < l_0.length - i_0; omega
            rw [hI_0]
            refine ⟨⟨by show i_0 + 1 ≤ l_0.length; omega, by show p_impl_SpansOf_l0 l_0 (l_0.drop (i_0 + 1)) (i_0 + 1) (out_35 ++ [(⟨x_0.Name, x_0.Time, 0, up_76⟩ : GSpan)]) (open_36 ++ [(out_35.length : Int)]) = some q_0; rw [hd_0]; exact h_0⟩, ?_⟩
            exact p_impl_SpansOf_pv (And.intro @dc1 (And.intro @dr_0 (And.intro @w_0 (And.intro @kk0c (And.intro @dc74 (And.intro @dc75 (And.intro @g0_j1 (And.intro @g1_j1 (And.intro @g2_j1 (And.intro @g3_j1 (And.intro @g4_j1 (And.intro @g5_j1 (And.intro @g6_j1 (And.intro @g7_j1 (And.intro @g8_j1 (And.intro @g9_j1 (And.intro @g10_j1 (And.intro @a78a (And.intro @a78b (And.intro @a80a (And.intro @a80b (And.intro @dc81 p_impl_SpansOf_tf.down)))))))))))))))))))))) trivial
          have hrt_1 := fun σ : ASt => congrFun (congrFun hk_1.symm AX.rt) σ
          have hex_1 := fun (i : Nat) (σ : ASt) => congrFun (congrFun hk_1.symm (AX.ex i)) σ
          by_cases c82 : (open_36.length : Int) > 0
          case neg =>
           rw [if_neg c82] at h_0
           have dc82 := decide_eq_false c82
           have ff := And.intro @dc1 (And.intro @dr_0 (And.intro @w_0 (And.intro @kk0c (And.intro @g0_j0 (And.intro @g1_j0 (And.intro @g2_j0 (And.intro @g3_j0 (And.intro @g4_j0 (And.intro @g5_j0 (And.intro @g6_j0 (And.intro @g7_j0 (And.intro @g8_j0 (And.intro @g9_j0 (And.intro @g10_j0 (And.intro @dc74 (And.intro @dc75 (And.intro @hrt_1 (And.intro @hex_1 (And.intro @dc82 p_impl_SpansOf_tf.down)))))))))))))))))))
           try refine st_by ff ?_
           repeat' (first | exact trivial | refine And.intro sd ?_)
           try clear ff
           refine key_1 _ ?_
           refine ⟨(-1), h_0, ?_⟩
           exact p_impl_SpansOf_pv (And.intro @dc1 (And.intro @dr_0 (And.intro @w_0 (And.intro @kk0c (And.intro @g0_j0 (And.intro @g1_j0 (And.intro @g2_j0 (And.intro @g3_j0 (And.intro @g4_j0 (And.intro @g5_j0 (And.intro @g6_j0 (And.intro @g7_j0 (And.intro @g8_j0 (And.intro @g9_j0 (And.intro @g10_j0 (And.intro @dc74 (And.intro @dc75 (And.intro @hrt_1 (And.intro @hex_1 (And.intro @dc82 p_impl_SpansOf_tf.down)))))))))))))))))))) trivial
          rw [if_pos c82] at h_0
          have dc82 := decide_eq_true c82
          obtain ⟨x83, ex83, h_0⟩ := Option.bind_eq_some_iff.1 h_0
          try dsimp only at h_0
          have f84a := idx_lo ex83
          have f84b := idx_hi ex83
          have f84c : (esInt open_36).drop (((IntKind.i64.wrap ((open_36.length : Int) - 1)).toNat) * 1) = eInt x83 ++ esInt (open_36.drop ((IntKind.i64.wrap ((open_36.length : Int) - 1)).toNat + 1)) := drop_enc (fun _ => rfl) (idx_get ex83)
          have f84d := f84c
          rw [Nat.mul_one] at f84d
          have f84g0 : (esInt open_36).getD (((IntKind.i64.wrap ((open_36.length : Int) - 1)).toNat) * 1) .junk = (eInt x83).getD 0 .junk := getD_enc0 (enc := eInt) (sz := 1) (fun _ => rfl) (idx_get ex83) (by decide)
          rw [Nat.mul_one] at f84g0
          have ff := And.intro @dc1 (And.intro @dr_0 (And.intro @w_0 (And.intro @kk0c (And.intro @g0_j0 (And.intro @g1_j0 (And.intro @g2_j0 (And.intro @g3_j0 (And.intro @g4_j0 (And.intro @g5_j0 (And.intro @g6_j0 (And.intro @g7_j0 (And.intro @g8_j0 (And.intro @g9_j0 (And.intro @g10_j0 (And.intro @dc74 (And.intro @dc75 (And.intro @hrt_1 (And.intro @hex_1 (And.intro @dc82 (And.intro @f84c (And.intro @f84d (And.intro @f84g0 p_impl_SpansOf_tf.down))))))))))))))))))))))
          try refine st_by ff ?_
          repeat' (first | exact trivial | refine And.intro sd ?_)
          try clear ff
          refine key_1 _ ?_
          refine ⟨x83, h_0, ?_⟩
          exact p_impl_SpansOf_pv (And.intro @dc1 (And.intro @dr_0 (And.intro @w_0 (And.intro @kk0c (And.intro @g0_j0 (And.intro @g1_j0 (And.intro @g2_j0 (And.intro @g3_j0 (And.intro @g4_j0 (And.intro @g5_j0 (And.intro @g6_j0 (And.intro @g7_j0 (And.intro @g8_j0 (And.intro @g9_j0 (And.intro @g10_j0 (And.intro @dc74 (And.intro @dc75 (And.intro @hrt_1 (And.intro @hex_1 (And.intro @dc82 (And.intro @f84c (And.intro @f84d (And.intro @f84g0 p_impl_SpansOf_tf.down))))))))))))))))))))))) trivial
        rw [if_neg c75] at h_0
        have dc75 := eq_false_of_ne_true c75
        have ff := And.intro @dc1 (And.intro @dr_0 (And.intro @w_0 (And.intro @kk0c (And.intro @g0_j0 (And.intro @g1_j0 (And.intro @g2_j0 (And.intro @g3_j0 (And.intro @g4_j0 (And.intro @g5_j0 (And.intro @g6_j0 (And.intro @g7_j0 (And.intro @g8_j0 (And.intro @g9_j0 (And.intro @g10_j0 (And.intro @dc74 (And.intro @dc75 p_impl_SpansOf_tf.down))))))))))))))))
        try refine st_by ff ?_
        repeat' (first | exact trivial | refine And.intro sd ?_ | (refine aw_drawn (id := 17) ?_ [[], [0], [0, 1], [0, 1, 2], [0, 1, 2, 3], [0, 1, 2, 3], [0, 1, 2, 3], [0, 1, 2, 3, 6], [0, 1, 2, 3, 6, 7], [0, 1, 2, 3, 5, 6, 7, 8], [0, 1, 2, 3, 5, 6, 7, 8, 9], [0, 1, 2, 3, 4, 5, 6, 7, 8, 9, 10], [0, 1, 2, 3, 4, 5, 6, 7, 8, 9, 10, 11], [0, 1, 2, 3, 4, 5, 6, 7, 8, 9, 10, 11, 12], [0, 1, 2, 3], [0, 1, 2, 3, 14], [0, 1, 2, 3, 4, 5, 6, 7, 8, 9, 10, 11, 12, 13, 14, 15], [0, 1, 2, 3, 4, 5, 6, 7, 8, 9, 10, 11, 12, 13, 14, 15, 16]] 16 ?_ ?_; (· kernel_rfl); (· kernel_rfl); refine st_by ff ?_))
        try clear ff
        generalize hk_2 : thenK _ _ = kk_2
        have key_2 : ∀ σ, (∃ b_85 : Bool, (p_impl_SpansOf_j2 out_35 open_36 x_0 i_0 (p_impl_SpansOf_l0 l_0 r_0) b_85 = some q_0) ∧ σ.t 0 = .row false 3 l_0.length (esTick27 l_0) ∧ σ.t 4 = .sl 4 [] 0 out_35.length ∧ σ.t 5 = .sl 5 [] 0 open_36.length ∧ σ.t 7 = .ptr 7 [] 0 ∧ σ.t 14 = .row false 3 l_0.length (esTick27 l_0) ∧ σ.t 15 = I (l_0.length : Int) ∧ σ.t 16 = I (i_0 : Int) ∧ σ.t 91 = B b_85 ∧ σ.m 4 = some (.row true 4 out_35.length (esSpan out_35)) ∧ σ.m 5 = some (.row true 1 open_36.length (esInt open_36)) ∧ σ.m 7 = some (.box true [I x_0.Time, S x_0.Name, B x_0.Open])) → kk_2 .nm σ := by
          rintro σ ⟨b_85, h_0, g0_j2, g1_j2, g2_j2, g3_j2, g4_j2, g5_j2, g6_j2, g7_j2, g8_j2, g9_j2, g10_j2⟩
          rw [← hk_2]
          rw [p_impl_SpansOf_j2] at h_0
          by_cases c86 : b_85 = true
          · rw [if_pos c86] at h_0
            have dc86 := c86
            cases h_0
            try dsimp only at h
            have ff := And.intro @dc1 (And.intro @dr_0 (And.intro @w_0 (And.intro @kk0c (And.intro @dc74 (And.intro @dc75 (And.intro @g0_j2 (And.intro @g1_j2 (And.intro @g2_j2 (And.intro @g3_j2 (And.intro @g4_j2 (And.intro @g5_j2 (And.intro @g6_j2 (And.intro @g7_j2 (And.intro @g8_j2 (And.intro @g9_j2 (And.intro @g10_j2 (And.intro @dc86 p_impl_SpansOf_tf.down)))))))))))))))))
            try refine st_by ff ?_
            repeat' (first | exact trivial | refine And.intro sd ?_ | (refine aw_drawn (id := 17) ?_ [[], [0], [0, 1], [0, 1, 2], [0, 1, 2, 3], [0, 1, 2, 3], [0, 1, 2, 3], [0, 1, 2, 3, 6], [0, 1, 2, 3, 6, 7], [0, 1, 2, 3, 5, 6, 7, 8], [0, 1, 2, 3, 5, 6, 7, 8, 9], [0, 1, 2, 3, 4, 5, 6, 7, 8, 9, 10], [0, 1, 2, 3, 4, 5, 6, 7, 8, 9, 10, 11], [0, 1, 2, 3, 4, 5, 6, 7, 8, 9, 10, 11, 12], [0, 1, 2, 3], [0, 1, 2, 3, 14], [0, 1, 2, 3, 4, 5, 6, 7, 8, 9, 10, 11, 12, 13, 14, 15], [0, 1, 2, 3, 4, 5, 6, 7, 8, 9, 10, 11, 12, 13, 14, 15, 16]] 16 ?_ ?_; (· kernel_rfl); (· kernel_rfl); refine st_by ff ?_))
            try clear ff
            cases h
            exact ret_q2 rfl (p_impl_SpansOf_rt (And.intro @dc1 (And.intro @dr_0 (And.intro @w_0 (And.intro @kk0c (And.intro @dc74 (And.intro @dc75 (And.intro @g0_j2 (And.intro @g1_j2 (And.intro @g2_j2 (And.intro @g3_j2 (And.intro @g4_j2 (And.intro @g5_j2 (And.intro @g6_j2 (And.intro @g7_j2 (And.intro @g8_j2 (And.intro @g9_j2 (And.intro @g10_j2 (And.intro @dc86 p_impl_SpansOf_tf.down)))))))))))))))))) trivial)
          rw [if_neg c86] at h_0
          have dc86 := eq_false_of_ne_true c86
          obtain ⟨x87, ex87, h_0⟩ := Option.bind_eq_some_iff.1 h_0
          try dsimp only at h_0
          have f88a := idx_lo ex87
          have f88b := idx_hi ex87
          have f88c : (esInt open_36).drop (((IntKind.i64.wrap ((open_36.length : Int) - 1)).toNat) * 1) = eInt x87 ++ esInt (open_36.drop ((IntKind.i64.wrap ((open_36.length : Int) - 1)).toNat + 1)) := drop_enc (fun _ => rfl) (idx_get ex87)
          have f88d := f88c
          rw [Nat.mul_one] at f88d
          have f88g0 : (esInt open_36).getD (((IntKind.i64.wrap ((open_36.length : Int) - 1)).toNat) * 1) .junk = (eInt x87).getD 0 .junk := getD_enc0 (enc := eInt) (sz := 1) (fun _ => rfl) (idx_get ex87) (by decide)
          rw [Nat.mul_one] at f88g0
          obtain ⟨x89, ex89, h_0⟩ := Option.bind_eq_some_iff.1 h_0
          try dsimp only at h_0
          have f90a := idx_lo ex89
          have f90b := idx_hi ex89
          have f90c : (esSpan out_35).drop (x87.toNat * 4) = eSpan x89 ++ esSpan (out_35.drop (x87.toNat + 1)) := drop_enc (fun _ => rfl) (idx_get ex89)
          have f90g0 : (esSpan out_35).getD (x87.toNat * 4) .junk = (eSpan x89).getD 0 .junk := getD_enc0 (enc := eSpan) (sz := 4) (fun _ => rfl) (idx_get ex89) (by decide)
          have f90g1 : (esSpan out_35).getD (x87.toNat * 4 + 1) .junk = (eSpan x89).getD 1 .junk := getD_enc (enc := eSpan) (sz := 4) (fun _ => rfl) (idx_get ex89) (by decide)
          have f90g2 : (esSpan out_35).getD (x87.toNat * 4 + 2) .junk = (eSpan x89).getD 2 .junk := getD_enc (enc := eSpan) (sz := 4) (fun _ => rfl) (idx_get ex89) (by decide)
          have f90g3 : (esSpan out_35).getD (x87.toNat * 4 + 3) .junk = (eSpan x89).getD 3 .junk := getD_enc (enc := eSpan) (sz := 4) (fun _ => rfl) (idx_get ex89) (by decide)
          have w91l : x87.toNat < out_35.length := (List.getElem?_eq_some_iff.1 (idx_get ex89)).1
          have w91a : (esSpan out_35).set (x87.toNat * 4 + 2) (I x_0.Time) = esSpan (out_35.set x87.toNat (⟨x89.Name, x89.From, x_0.Time, x89.Up⟩ : GSpan)) := set_enc (enc := eSpan) (sz := 4) (fun _ => rfl) (idx_get ex89) (by decide) rfl
          have w91b : (out_35.set x87.toNat (⟨x89.Name, x89.From, x_0.Time, x89.Up⟩ : GSpan)).length = out_35.length := List.length_set
          obtain ⟨m93, em93, h_0⟩ := Option.bind_eq_some_iff.1 h_0
          try dsimp only at h_0
          obtain ⟨f94a, f94b⟩ := slc_ok em93
          have f94c : (esInt open_36).take (((IntKind.i64.wrap ((open_36.length : Int) - 1)).toNat) * 1) = esInt m93 := slc_encL (enc := eInt) (fun _ => rfl) em93
          have f94d : m93.length = (IntKind.i64.wrap ((open_36.length : Int) - 1)).toNat := (slc_lenL em93).symm
          rw [Nat.mul_one] at f94c
          have ff := And.intro @dc1 (And.intro @dr_0 (And.intro @w_0 (And.intro @kk0c (And.intro @dc74 (And.intro @dc75 (And.intro @g0_j2 (And.intro @g1_j2 (And.intro @g2_j2 (And.intro @g3_j2 (And.intro @g4_j2 (And.intro @g5_j2 (And.intro @g6_j2 (And.intro @g7_j2 (And.intro @g8_j2 (And.intro @g9_j2 (And.intro @g10_j2 (And.intro @dc86 (And.intro @f88c (And.intro @f88d (And.intro @f88g0 (And.intro @f90c (And.intro @f90g0 (And.intro @f90g1 (And.intro @f90g2 (And.intro @f90g3 (And.intro @w91a (And.intro @f94c p_impl_SpansOf_tf.down)))))))))))))))))))))))))))
          try refine st_by ff ?_
          repeat' (first | exact trivial | refine And.intro sd ?_ | (refine aw_drawn (id := 17) ?_ [[], [0], [0, 1], [0, 1, 2], [0, 1, 2, 3], [0, 1, 2, 3], [0, 1, 2, 3], [0, 1, 2, 3, 6], [0, 1, 2, 3, 6, 7], [0, 1, 2, 3, 5, 6, 7, 8], [0, 1, 2, 3, 5, 6, 7, 8, 9], [0, 1, 2, 3, 4, 5, 6, 7, 8, 9, 10], [0, 1, 2, 3, 4, 5, 6, 7, 8, 9, 10, 11], [0, 1, 2, 3, 4, 5, 6, 7, 8, 9, 10, 11, 12], [0, 1, 2, 3], [0, 1, 2, 3, 14], [0, 1, 2, 3, 4, 5, 6, 7, 8, 9, 10, 11, 12, 13, 14, 15], [0, 1, 2, 3, 4, 5, 6, 7, 8, 9, 10, 11, 12, 13, 14, 15, 16]] 16 ?_ ?_; (· kernel_rfl); (· kernel_rfl); refine st_by ff ?_) | (refine aw_drawn (id := 19) ?_ [[], [], [], [2], [2, 3], [1, 2, 3, 4], [1, 2, 3, 4, 5], [], [7], [0, 1, 2, 3, 4, 5, 6, 7, 8], [0, 1, 2, 3, 4, 5, 6, 7, 8, 9], [0, 1, 2, 3, 4, 5, 6, 7, 8, 9, 10]] 9 ?_ ?_; (· kernel_rfl); (· kernel_rfl); refine st_by ff ?_))
          try clear ff
          refine Back.introW (i_0 + 1, (out_35.set x87.toNat (⟨x89.Name, x89.From, x_0.Time, x89.Up⟩ : GSpan)), m93) ?_ (Weak.shrink (r := 5) (sz := 1) (n := open_36.length) (k := (IntKind.i64.wrap ((open_36.length : Int) - 1)).toNat) (cs := esInt open_36) (by decide) (p_impl_SpansOf_pv (And.intro @dc1 (And.intro @dr_0 (And.intro @w_0 (And.intro @kk0c (And.intro @dc74 (And.intro @dc75 (And.intro @g0_j2 (And.intro @g1_j2 (And.intro @g2_j2 (And.intro @g3_j2 (And.intro @g4_j2 (And.intro @g5_j2 (And.intro @g6_j2 (And.intro @g7_j2 (And.intro @g8_j2 (And.intro @g9_j2 (And.intro @g10_j2 (And.intro @dc86 (And.intro @f88c (And.intro @f88d (And.intro @f88g0 (And.intro @f90c (And.intro @f90g0 (And.intro @f90g1 (And.intro @f90g2 (And.intro @f90g3 (And.intro @w91a (And.intro @f94c p_impl_SpansOf_tf.down)))))))))))))))))))))))))))) @f94d) sd) ?_
          · rw [hM_0]; show l_0.length - (i_0 + 1) < l_0.length - i_0; omega
          rw [hI_0]
          refine ⟨⟨by show i_0 + 1 ≤ l_0.length; omega, by show p_impl_SpansOf_l0 l_0 (l_0.drop (i_0 + 1)) (i_0 + 1) (out_35.set x87.toNat (⟨x89.Name, x89.From, x_0.Time, x89.Up⟩ : GSpan)) m93 = some q_0; rw [hd_0]; exact h_0⟩, ?_⟩
          exact p_impl_SpansOf_pv (And.intro @dc1 (And.intro @dr_0 (And.intro @w_0 (And.intro @kk0c (And.intro @dc74 (And.intro @dc75 (And.intro @g0_j2 (And.intro @g1_j2 (And.intro @g2_j2 (And.intro @g3_j2 (And.intro @g4_j2 (And.intro @g5_j2 (And.intro @g6_j2 (And.intro @g7_j2 (And.intro @g8_j2 (And.intro @g9_j2 (And.intro @g10_j2 (And.intro @dc86 (And.intro @f88c (And.intro @f88d (And.intro @f88g0 (And.intro @f90c (And.intro @f90g0 (And.intro @f90g1 (And.intro @f90g2 (And.intro @f90g3 (And.intro @w91a (And.intro @f94c p_impl_SpansOf_tf.down)))))))))))))))))))))))))))) @f94d
        have hrt_2 := fun σ : ASt => congrFun (congrFun hk_2.symm AX.rt) σ
        have hex_2 := fun (i : Nat) (σ : ASt) => congrFun (congrFun hk_2.symm (AX.ex i)) σ
        by_cases c95 : (open_36.length : Int) = 0
        · rw [if_pos c95] at h_0
          have dc95 := beq_yes c95
          have ff := And.intro @dc1 (And.intro @dr_0 (And.intro @w_0 (And.intro @kk0c (And.intro @g0_j0 (And.intro @g1_j0 (And.intro @g2_j0 (And.intro @g3_j0 (And.intro @g4_j0 (And.intro @g5_j0 (And.intro @g6_j0 (And.intro @g7_j0 (And.intro @g8_j0 (And.intro @g9_j0 (And.intro @g10_j0 (And.intro @dc74 (And.intro @dc75 (And.intro @hrt_2 (And.intro @hex_2 (And.intro @dc95 p_impl_SpansOf_tf.down)))))))))))))))))))
          try refine st_by ff ?_
          repeat' (first | exact trivial | refine And.intro sd ?_ | (refine aw_drawn (id := 17) ?_ [[], [0], [0, 1], [0, 1, 2], [0, 1, 2, 3], [0, 1, 2, 3], [0, 1, 2, 3], [0, 1, 2, 3, 6], [0, 1, 2, 3, 6, 7], [0, 1, 2, 3, 5, 6, 7, 8], [0, 1, 2, 3, 5, 6, 7, 8, 9], [0, 1, 2, 3, 4, 5, 6, 7, 8, 9, 10], [0, 1, 2, 3, 4, 5, 6, 7, 8, 9, 10, 11], [0, 1, 2, 3, 4, 5, 6, 7, 8, 9, 10, 11, 12], [0, 1, 2, 3], [0, 1, 2, 3, 14], [0, 1, 2, 3, 4, 5, 6, 7, 8, 9, 10, 11, 12, 13, 14, 15], [0, 1, 2, 3, 4, 5, 6, 7, 8, 9, 10, 11, 12, 13, 14, 15, 16]] 16 ?_ ?_; (· kernel_rfl); (· kernel_rfl); refine st_by ff ?_))
          try clear ff
          refine key_2 _ ?_
          refine ⟨true, h_0, ?_⟩
          exact p_impl_SpansOf_pv (And.intro @dc1 (And.intro @dr_0 (And.intro @w_0 (And.intro @kk0c (And.intro @g0_j0 (And.intro @g1_j0 (And.intro @g2_j0 (And.intro @g3_j0 (And.intro @g4_j0 (And.intro @g5_j0 (And.intro @g6_j0 (And.intro @g7_j0 (And.intro @g8_j0 (And.intro @g9_j0 (And.intro @g10_j0 (And.intro @dc74 (And.intro @dc75 (And.intro @hrt_2 (And.intro @hex_2 (And.intro @dc95 p_impl_SpansOf_tf.down)))))))))))))))))))) trivial
        rw [if_neg c95] at h_0
        have dc95 := beq_no c95
        obtain ⟨x96, ex96, h_0⟩ := Option.bind_eq_some_iff.1 h_0
        try dsimp only at h_0
        have f97a := idx_lo ex96
        have f97b := idx_hi ex96
        have f97c : (esInt open_36).drop (((IntKind.i64.wrap ((open_36.length : Int) - 1)).toNat) * 1) = eInt x96 ++ esInt (open_36.drop ((IntKind.i64.wrap ((open_36.length : Int) - 1)).toNat + 1)) := drop_enc (fun _ => rfl) (idx_get ex96)
        have f97d := f97c
        rw [Nat.mul_one] at f97d
        have f97g0 : (esInt open_36).getD (((IntKind.i64.wrap ((open_36.length : Int) - 1)).toNat) * 1) .junk = (eInt x96).getD 0 .junk := getD_enc0 (enc := eInt) (sz := 1) (fun _ => rfl) (idx_get ex96) (by decide)
        rw [Nat.mul_one] at f97g0
        obtain ⟨x98, ex98, h_0⟩ := Option.bind_eq_some_iff.1 h_0
        try dsimp only at h_0
        have f99a := idx_lo ex98
        have f99b := idx_hi ex98
        have f99c : (esSpan out_35).drop (x96.toNat * 4) = eSpan x98 ++ esSpan (out_35.drop (x96.toNat + 1)) := drop_enc (fun _ => rfl) (idx_get ex98)
        have f99g0 : (esSpan out_35).getD (x96.toNat * 4) .junk = (eSpan x98).getD 0 .junk := getD_enc0 (enc := eSpan) (sz := 4) (fun _ => rfl) (idx_get ex98) (by decide)
        have f99g1 : (esSpan out_35).getD (x96.toNat * 4 + 1) .junk = (eSpan x98).getD 1 .junk := getD_enc (enc := eSpan) (sz := 4) (fun _ => rfl) (idx_get ex98) (by decide)
        have f99g2 : (esSpan out_35).getD (x96.toNat * 4 + 2) .junk = (eSpan x98).getD 2 .junk := getD_enc (enc := eSpan) (sz := 4) (fun _ => rfl) (idx_get ex98) (by decide)
        have f99g3 : (esSpan out_35).getD (x96.toNat * 4 + 3) .junk = (eSpan x98).getD 3 .junk := getD_enc (enc := eSpan) (sz := 4) (fun _ => rfl) (idx_get ex98) (by decide)
        have ff := And.intro @dc1 (And.intro @dr_0 (And.intro @w_0 (And.intro @kk0c (And.intro @g0_j0 (And.intro @g1_j0 (And.intro @g2_j0 (And.intro @g3_j0 (And.intro @g4_j0 (And.intro @g5_j0 (And.intro @g6_j0 (And.intro @g7_j0 (And.intro @g8_j0 (And.intro @g9_j0 (And.intro @g10_j0 (And.intro @dc74 (And.intro @dc75 (And.intro @hrt_2 (And.intro @hex_2 (And.intro @dc95 (And.intro @f97c (And.intro @f97d (And.intro @f97g0 (And.intro @f99c (And.intro @f99g0 (And.intro @f99g1 (And.intro @f99g2 (And.intro @f99g3 p_impl_SpansOf_tf.down)))))))))))))))))))))))))))
        try refine st_by ff ?_
        repeat' (first | exact trivial | refine And.intro sd ?_ | (refine aw_drawn (id := 17) ?_ [[], [0], [0, 1], [0, 1, 2], [0, 1, 2, 3], [0, 1, 2, 3], [0, 1, 2, 3], [0, 1, 2, 3, 6], [0, 1, 2, 3, 6, 7], [0, 1, 2, 3, 5, 6, 7, 8], [0, 1, 2, 3, 5, 6, 7, 8, 9], [0, 1, 2, 3, 4, 5, 6, 7, 8, 9, 10], [0, 1, 2, 3, 4, 5, 6, 7, 8, 9, 10, 11], [0, 1, 2, 3, 4, 5, 6, 7, 8, 9, 10, 11, 12], [0, 1, 2, 3], [0, 1, 2, 3, 14], [0, 1, 2, 3, 4, 5, 6, 7, 8, 9, 10, 11, 12, 13, 14, 15], [0, 1, 2, 3, 4, 5, 6, 7, 8, 9, 10, 11, 12, 13, 14, 15, 16]] 16 ?_ ?_; (· kernel_rfl); (· kernel_rfl); refine st_by ff ?_))
        try clear ff
        refine key_2 _ ?_
        refine ⟨!(decide (x98.Name = x_0.Name)), h_0, ?_⟩
        exact p_impl_SpansOf_pv (And.intro @dc1 (And.intro @dr_0 (And.intro @w_0 (And.intro @kk0c (And.intro @g0_j0 (And.intro @g1_j0 (And.intro @g2_j0 (And.intro @g3_j0 (And.intro @g4_j0 (And.intro @g5_j0 (And.intro @g6_j0 (And.intro @g7_j0 (And.intro @g8_j0 (And.intro @g9_j0 (And.intro @g10_j0 (And.intro @dc74 (And.intro @dc75 (And.intro @hrt_2 (And.intro @hex_2 (And.intro @dc95 (And.intro @f97c (And.intro @f97d (And.intro @f97g0 (And.intro @f99c (And.intro @f99g0 (And.intro @f99g1 (And.intro @f99g2 (And.intro @f99g3 p_impl_SpansOf_tf.down)))))))))))))))))))))))))))) trivial
      have hrt_0 := fun σ : ASt => congrFun (congrFun hk_0.symm AX.rt) σ
      have hex_0 := fun (i : Nat) (σ : ASt) => congrFun (congrFun hk_0.symm (AX.ex i)) σ
      have ff := And.intro @dc1 (And.intro @dr_0 (And.intro @w_0 (And.intro @g0_0 (And.intro @g1_0 (And.intro @g2_0 (And.intro @g3_0 (And.intro @g4_0 (And.intro @g5_0 (And.intro @g6_0 (And.intro @g7_0 (And.intro @kk0c (And.intro @hrt_0 (And.intro @hex_0 p_impl_SpansOf_tf.down)))))))))))))
      try refine st_by ff ?_
      repeat' (first | exact trivial | refine And.intro sd ?_ | (refine aw_drawn (id := 7) ?_ [[], [0], [0, 1], [0, 1, 2], [0, 1, 2, 3], [0, 1, 2, 3, 4], [0, 1, 2, 3, 4, 5], [0, 1, 2, 3, 4, 5, 6], [0, 1, 2, 3, 4, 5, 6, 7], [0, 1, 2, 3, 4, 5, 6, 7, 8], [0, 1, 2, 3, 4, 5, 6, 7, 8, 9], [0, 1, 2, 3, 4, 5, 6, 7, 8, 9, 10], [0, 1, 2, 3, 4, 5, 6, 7, 8, 9, 10, 11], [0, 1, 2, 3, 4, 5, 6, 7, 8, 9, 10, 11, 12], [0, 1, 2, 3, 4, 5, 6, 7, 8, 9, 10, 11, 12, 13], [0, 1, 2, 3, 4, 5, 6, 7, 8, 9, 10, 11, 12, 13], [0, 1, 2, 3, 4, 5, 6, 7, 8, 9, 10, 11, 12, 13, 15], [0, 1, 2, 3, 4, 5, 6, 7, 8, 9, 10, 11, 12, 13, 14, 15, 16], [0, 1, 2, 3, 4, 5, 6, 7, 8, 9, 10, 11, 12, 13, 14, 15, 16, 17], [0, 1, 2, 3, 4, 5, 6, 7, 8, 9, 10, 11, 12, 13, 14, 15, 16, 17, 18], [0, 1, 2, 3, 4, 5, 6, 7, 8, 9, 10, 11, 12, 13], [0, 1, 2, 3, 4, 5, 6, 7, 8, 9, 10, 11, 12, 13, 20], [0, 1, 2, 3, 4, 5, 6, 7, 8, 9, 10, 11, 12, 13, 14, 15, 16, 17, 18, 19, 20, 21], [0, 1, 2, 3, 4, 5, 6, 7, 8, 9, 10, 11, 12, 13, 14, 15, 16, 17, 18, 19, 20, 21, 22], [0, 1, 2, 3, 4, 5, 6, 7, 8, 9, 10, 11, 12, 13, 14, 15, 16, 17, 18, 19, 20, 21, 22, 23]] 22 ?_ ?_; (· kernel_rfl); (· kernel_rfl); refine st_by ff ?_))
      first
      | (refine cq_call (isTime_does x_0.Time) (hf_by ff) kr ⟨p_impl_SpansOf_sa ff trivial, ?_⟩; clear ff)
      | (refine cq_dcall (isTime_does x_0.Time) (hf_by ff) kr ⟨p_impl_SpansOf_sa ff trivial, ?_⟩; clear ff)
      by_cases c100 : (rng x_0.Time 0 100000) = true
      case neg =>
       rw [if_neg c100] at h_0
       have dc100 := eq_false_of_ne_true c100
       have ff := And.intro @dc1 (And.intro @dr_0 (And.intro @w_0 (And.intro @g0_0 (And.intro @g1_0 (And.intro @g2_0 (And.intro @g3_0 (And.intro @g4_0 (And.intro @g5_0 (And.intro @g6_0 (And.intro @g7_0 (And.intro @kk0c (And.intro @hrt_0 (And.intro @hex_0 (And.intro @dc100 p_impl_SpansOf_tf.down))))))))))))))
       try refine st_by ff ?_
       repeat' (first | exact trivial | refine And.intro sd ?_)
       try clear ff
       refine key_0 _ ?_
       refine ⟨true, h_0, ?_⟩
       exact p_impl_SpansOf_pv (And.intro @dc1 (And.intro @dr_0 (And.intro @w_0 (And.intro @g0_0 (And.intro @g1_0 (And.intro @g2_0 (And.intro @g3_0 (And.intro @g4_0 (And.intro @g5_0 (And.intro @g6_0 (And.intro @g7_0 (And.intro @kk0c (And.intro @hrt_0 (And.intro @hex_0 (And.intro @dc100 p_impl_SpansOf_tf.down))))))))))))))) trivial
      rw [if_pos c100] at h_0
      have dc100 := c100
      by_cases c101 : x_0.Name.size ≤ 9223372036854775807
      case neg => rw [if_neg c101] at h_0; cases h_0
      rw [if_pos c101] at h_0
      have ff := And.intro @dc1 (And.intro @dr_0 (And.intro @w_0 (And.intro @g0_0 (And.intro @g1_0 (And.intro @g2_0 (And.intro @g3_0 (And.intro @g4_0 (And.intro @g5_0 (And.intro @g6_0 (And.intro @g7_0 (And.intro @kk0c (And.intro @hrt_0 (And.intro @hex_0 (And.intro @dc100 p_impl_SpansOf_tf.down))))))))))))))
      try refine st_by ff ?_
      repeat' (first | exact trivial | refine And.intro sd ?_)
      first
      | (refine cq_call (implGoodName_does x_0.Name (by first | assumption | omega)) (hf_by ff) kr ⟨p_impl_SpansOf_sa ff trivial, ?_⟩; clear ff)
      | (refine cq_dcall (implGoodName_does x_0.Name (by first | assumption | omega)) (hf_by ff) kr ⟨p_impl_SpansOf_sa ff trivial, ?_⟩; clear ff)
      by_cases c102 : (goodName x_0.Name) = true
      case neg =>
       rw [if_neg c102] at h_0
       have dc102 := eq_false_of_ne_true c102
       have ff := And.intro @dc1 (And.intro @dr_0 (And.intro @w_0 (And.intro @g0_0 (And.intro @g1_0 (And.intro @g2_0 (And.intro @g3_0 (And.intro @g4_0 (And.intro @g5_0 (And.intro @g6_0 (And.intro @g7_0 (And.intro @kk0c (And.intro @hrt_0 (And.intro @hex_0 (And.intro @dc100 (And.intro @dc102 p_impl_SpansOf_tf.down)))))))))))))))
       try refine st_by ff ?_
       repeat' (first | exact trivial | refine And.intro sd ?_)
       try clear ff
       refine key_0 _ ?_
       refine ⟨true, h_0, ?_⟩
       exact p_impl_SpansOf_pv (And.intro @dc1 (And.intro @dr_0 (And.intro @w_0 (And.intro @g0_0 (And.intro @g1_0 (And.intro @g2_0 (And.intro @g3_0 (And.intro @g4_0 (And.intro @g5_0 (And.intro @g6_0 (And.intro @g7_0 (And.intro @kk0c (And.intro @hrt_0 (And.intro @hex_0 (And.intro @dc100 (And.intro @dc102 p_impl_SpansOf_tf.down)))))))))))))))) trivial
      rw [if_pos c102] at h_0
      have dc102 := c102
      by_cases c103 : (i_0 : Int) > 0
      case neg =>
       rw [if_neg c103] at h_0
       have dc103 := decide_eq_false c103
       have ff := And.intro @dc1 (And.intro @dr_0 (And.intro @w_0 (And.intro @g0_0 (And.intro @g1_0 (And.intro @g2_0 (And.intro @g3_0 (And.intro @g4_0 (And.intro @g5_0 (And.intro @g6_0 (And.intro @g7_0 (And.intro @kk0c (And.intro @hrt_0 (And.intro @hex_0 (And.intro @dc100 (And.intro @dc102 (And.intro @dc103 p_impl_SpansOf_tf.down))))))))))))))))
       try refine st_by ff ?_
       repeat' (first | exact trivial | refine And.intro sd ?_)
       try clear ff
       refine key_0 _ ?_
       refine ⟨false, h_0, ?_⟩
       exact p_impl_SpansOf_pv (And.intro @dc1 (And.intro @dr_0 (And.intro @w_0 (And.intro @g0_0 (And.intro @g1_0 (And.intro @g2_0 (And.intro @g3_0 (And.intro @g4_0 (And.intro @g5_0 (And.intro @g6_0 (And.intro @g7_0 (And.intro @kk0c (And.intro @hrt_0 (And.intro @hex_0 (And.intro @dc100 (And.intro @dc102 (And.intro @dc103 p_impl_SpansOf_tf.down))))))))))))))))) trivial
      rw [if_pos c103] at h_0
      have dc103 := decide_eq_true c103
      obtain ⟨x104, ex104, h_0⟩ := Option.bind_eq_some_iff.1 h_0
      try dsimp only at h_0
      have f105a := idx_lo ex104
      have f105b := idx_hi ex104
      have f105c : (esTick27 l_0).drop (((IntKind.i64.wrap ((i_0 : Int) - 1)).toNat) * 3) = eTick27 x104 ++ esTick27 (l_0.drop ((IntKind.i64.wrap ((i_0 : Int) - 1)).toNat + 1)) := drop_enc (fun _ => rfl) (idx_get ex104)
      have ff := And.intro @dc1 (And.intro @dr_0 (And.intro @w_0 (And.intro @g0_0 (And.intro @g1_0 (And.intro @g2_0 (And.intro @g3_0 (And.intro @g4_0 (And.intro @g5_0 (And.intro @g6_0 (And.intro @g7_0 (And.intro @kk0c (And.intro @hrt_0 (And.intro @hex_0 (And.intro @dc100 (And.intro @dc102 (And.intro @dc103 (And.intro @f105c p_impl_SpansOf_tf.down)))))))))))))))))
      try refine st_by ff ?_
      repeat' (first | exact trivial | refine And.intro sd ?_)
      try clear ff
      refine key_0 _ ?_
      refine ⟨decide (x104.Time > x_0.Time), h_0, ?_⟩
      exact p_impl_SpansOf_pv (And.intro @dc1 (And.intro @dr_0 (And.intro @w_0 (And.intro @g0_0 (And.intro @g1_0 (And.intro @g2_0 (And.intro @g3_0 (And.intro @g4_0 (And.intro @g5_0 (And.intro @g6_0 (And.intro @g7_0 (And.intro @kk0c (And.intro @hrt_0 (And.intro @hex_0 (And.intro @dc100 (And.intro @dc102 (And.intro @dc103 (And.intro @f105c p_impl_SpansOf_tf.down)))))))))))))))))) trivial
  · rintro σ hg_0
    rw [hJ_0] at hg_0
    obtain ⟨out_35, open_36, hj_0, g0_0a, g1_0a, g2_0a, g3_0a⟩ := hg_0
    cases hj_0
    try dsimp only at h
    by_cases c106 : (open_36.length : Int) > 0
    case neg =>
     rw [if_neg c106] at h
     have dc106 := decide_eq_false c106
     have ff := And.intro @dc1 (And.intro @g0_0a (And.intro @g1_0a (And.intro @g2_0a (And.intro @g3_0a (And.intro @dc106 p_impl_SpansOf_tf.down)))))
     try refine st_by ff ?_
     repeat' (first | exact trivial | refine And.intro sd ?_)
     try clear ff
     cases h
     exact ret_q2 rfl (p_impl_SpansOf_rt (And.intro @dc1 (And.intro @g0_0a (And.intro @g1_0a (And.intro @g2_0a (And.intro @g3_0a (And.intro @dc106 p_impl_SpansOf_tf.down)))))) trivial)
    rw [if_pos c106] at h
    have dc106 := decide_eq_true c106
    have ff := And.intro @dc1 (And.intro @g0_0a (And.intro @g1_0a (And.intro @g2_0a (And.intro @g3_0a (And.intro @dc106 p_impl_SpansOf_tf.down)))))
    try refine st_by ff ?_
    repeat' (first | exact trivial | refine And.intro sd ?_)
    try clear ff
    cases h
    exact ret_q2 rfl (p_impl_SpansOf_rt (And.intro @dc1 (And.intro @g0_0a (And.intro @g1_0a (And.intro @g2_0a (And.intro @g3_0a (And.intro @dc106 p_impl_SpansOf_tf.down)))))) trivial)
/-! spec.SpansOf -/
def p_spec_SpansOf_j1 (out_35 : List GSpan) (open_36 : List Int) (x_0 : GTick27) (i_0 : Nat) (rec_0 : Nat → (List GSpan) → (List Int) → Option (LR (List GSpan × Bool) ((List GSpan) × (List Int)))) (up_77 : Int) : Option (LR (List GSpan × Bool) ((List GSpan) × (List Int))) := (if open_36.length < 4294967296 then (if out_35.length < 4294967296 then rec_0 (i_0 + 1) (out_35 ++ [(⟨x_0.Name, x_0.Time, 0, up_77⟩ : GSpan)]) (open_36 ++ [(out_35.length : Int)]) else none) else none)
def p_spec_SpansOf_j2 (out_35 : List GSpan) (open_36 : List Int) (x_0 : GTick27) (i_0 : Nat) (rec_0 : Nat → (List GSpan) → (List Int) → Option (LR (List GSpan × Bool) ((List GSpan) × (List Int)))) (b_85 : Bool) : Option (LR (List GSpan × Bool) ((List GSpan) × (List Int))) := (if b_85 = true then some (.ret (([] : List GSpan), false)) else ((idx open_36 (IntKind.i64.wrap ((open_36.length : Int) - 1))).bind fun x87 => ((idx out_35 x87).bind fun x89 => ((slc open_36 0 (IntKind.i64.wrap ((open_36.length : Int) - 1))).bind fun m93 => rec_0 (i_0 + 1) (out_35.set x87.toNat (⟨x89.Name, x89.From, x_0.Time, x89.Up⟩ : GSpan)) m93))))
def p_spec_SpansOf_j0 (out_35 : List GSpan) (open_36 : List Int) (x_0 : GTick27) (i_0 : Nat) (rec_0 : Nat → (List GSpan) → (List Int) → Option (LR (List GSpan × Bool) ((List GSpan) × (List Int)))) (b_73 : Bool) : Option (LR (List GSpan × Bool) ((List GSpan) × (List Int))) := (if b_73 = true then some (.ret (([] : List GSpan), false)) else (if x_0.Open = true then (if (open_36.length : Int) = 12 then some (.ret (([] : List GSpan), false)) else (if (open_36.length : Int) > 0 then ((idx open_36 (IntKind.i64.wrap ((open_36.length : Int) - 1))).bind fun x83 => p_spec_SpansOf_j1 out_35 open_36 x_0 i_0 (rec_0) x83) else p_spec_SpansOf_j1 out_35 open_36 x_0 i_0 (rec_0) (-1))) else (if (open_36.length : Int) = 0 then p_spec_SpansOf_j2 out_35 open_36 x_0 i_0 (rec_0) true else ((idx open_36 (IntKind.i64.wrap ((open_36.length : Int) - 1))).bind fun x96 => ((idx out_35 x96).bind fun x98 => p_spec_SpansOf_j2 out_35 open_36 x_0 i_0 (rec_0) (!(decide (x98.Name = x_0.Name))))))))
def p_spec_SpansOf_l0 (l_0 : List GTick27) : List GTick27 → Nat → (List GSpan) → (List Int) → Option (LR (List GSpan × Bool) ((List GSpan) × (List Int)))
  | [], i_0, out_35, open_36 => some (.out (out_35, open_36))
  | x_0 :: r_0, i_0, out_35, open_36 => (if x_0.Name.size ≤ 9223372036854775807 then (if (goodName x_0.Name) = true then (if (rng x_0.Time 0 100000) = true then (if (i_0 : Int) > 0 then ((idx l_0 (IntKind.i64.wrap ((i_0 : Int) - 1))).bind fun x104 => p_spec_SpansOf_j0 out_35 open_36 x_0 i_0 (p_spec_SpansOf_l0 l_0 r_0) (decide (x104.Time > x_0.Time))) else p_spec_SpansOf_j0 out_35 open_36 x_0 i_0 (p_spec_SpansOf_l0 l_0 r_0) false) else p_spec_SpansOf_j0 out_35 open_36 x_0 i_0 (p_spec_SpansOf_l0 l_0 r_0) true) else p_spec_SpansOf_j0 out_35 open_36 x_0 i_0 (p_spec_SpansOf_l0 l_0 r_0) true) else none)
theorem p_spec_SpansOf_pv {F C A : Prop} (hF : F) (hC : C) (h : F → C → A := by intro hF hC; first | exact cl_by hF | (refine st_by hF ?_; repeat' (first | exact trivial | apply And.intro); all_goals (clear hF; first | rfl | (simp only [hC, List.length_append, List.length_cons, List.length_nil, List.append_nil, List.nil_append, List.cons_append, List.length_set, List.append_assoc, Nat.zero_add, List.length_replicate, esInt_app, esInt_cons, esInt_nil, eInt_eq, esSpan_app, esSpan_cons, esSpan_nil, eSpan_eq, esTick27_app, esTick27_cons, esTick27_nil, eTick27_eq]; done) | (simp [hC, List.length_append, List.length_cons, List.length_nil, List.append_nil, List.nil_append, List.cons_append, List.length_set, List.append_assoc, Nat.zero_add, List.length_replicate, esInt_app, esInt_cons, esInt_nil, eInt_eq, esSpan_app, esSpan_cons, esSpan_nil, eSpan_eq, esTick27_app, esTick27_cons, esTick27_nil, eTick27_eq]; done) | omega))) : A := h hF hC
theorem p_spec_SpansOf_sa {F C A : Prop} (hF : F) (hC : C) (h : F → C → A := by intro hF hC; first | exact ca_by hF | (refine sa_by hF ?_; repeat' (first | exact trivial | apply And.intro); all_goals (clear hF; first | rfl | (simp only [hC, List.length_append, List.length_cons, List.length_nil, List.append_nil, List.nil_append, List.cons_append, List.length_set, List.append_assoc, Nat.zero_add, List.length_replicate, esInt_app, esInt_cons, esInt_nil, eInt_eq, esSpan_app, esSpan_cons, esSpan_nil, eSpan_eq, esTick27_app, esTick27_cons, esTick27_nil, eTick27_eq]; done) | (simp [hC, List.length_append, List.length_cons, List.length_nil, List.append_nil, List.nil_append, List.cons_append, List.length_set, List.append_assoc, Nat.zero_add, List.length_replicate, esInt_app, esInt_cons, esInt_nil, eInt_eq, esSpan_app, esSpan_cons, esSpan_nil, eSpan_eq, esTick27_app, esTick27_cons, esTick27_nil, eTick27_eq]; done) | omega))) : A := h hF hC
theorem p_spec_SpansOf_rt {F C A : Prop} (hF : F) (hC : C) (h : F → C → A := by intro hF hC; first | (refine sr_by hF ?_; repeat' (first | exact trivial | apply And.intro); all_goals (clear hF; first | rfl | (simp only [hC, List.length_append, List.length_cons, List.length_nil, List.append_nil, List.nil_append, List.cons_append, List.length_set, List.append_assoc, Nat.zero_add, List.length_replicate, esInt_app, esInt_cons, esInt_nil, eInt_eq, esSpan_app, esSpan_cons, esSpan_nil, eSpan_eq, esTick27_app, esTick27_cons, esTick27_nil, eTick27_eq]; done) | (simp [hC, List.length_append, List.length_cons, List.length_nil, List.append_nil, List.nil_append, List.cons_append, List.length_set, List.append_assoc, Nat.zero_add, List.length_replicate, esInt_app, esInt_cons, esInt_nil, eInt_eq, esSpan_app, esSpan_cons, esSpan_nil, eSpan_eq, esTick27_app, esTick27_cons, esTick27_nil, eTick27_eq]; done) | omega)) | (first | rfl | (simp only [hC, List.length_append, List.length_cons, List.length_nil, List.append_nil, List.nil_append, List.cons_append, List.length_set, List.append_assoc, Nat.zero_add, List.length_replicate, esInt_app, esInt_cons, esInt_nil, eInt_eq, esSpan_app, esSpan_cons, esSpan_nil, eSpan_eq, esTick27_app, esTick27_cons, esTick27_nil, eTick27_eq]; done) | (simp [hC, List.length_append, List.length_cons, List.length_nil, List.append_nil, List.nil_append, List.cons_append, List.length_set, List.append_assoc, Nat.zero_add, List.length_replicate, esInt_app, esInt_cons, esInt_nil, eInt_eq, esSpan_app, esSpan_cons, esSpan_nil, eSpan_eq, esTick27_app, esTick27_cons, esTick27_nil, eTick27_eq]; done) | omega)) : A := h hF hC
def p_spec_SpansOf_tf := PLift.up (And.intro @eInt_eq (And.intro @esInt_len (And.intro @esInt_nil (And.intro @eSpan_eq (And.intro @esSpan_len (And.intro @esSpan_nil (And.intro @eTick27_eq (And.intro @esTick27_len (And.intro @esTick27_nil (And.intro @esInt_share (And.intro @esInt_pure (And.intro @esSpan_share (And.intro @esSpan_pure (And.intro @esTick27_share (And.intro @esTick27_pure (And.intro @str_beq (And.intro @Ty.sl68 (And.intro @Ty.slz68 (And.intro @Ty.sl22 (And.intro @Ty.slz22 (And.intro @Ty.sl38 (And.intro @Ty.slz38 (And.intro @Ty.ldA125 (And.intro @Ty.sz125 (And.intro @Ty.szn125 (And.intro @Ty.ldA9 (And.intro @Ty.ldS9 (And.intro @Ty.sz9 (And.intro @Ty.szn9 (And.intro @Ty.ldA3 (And.intro @Ty.ldS3 (And.intro @Ty.sz3 (And.intro @Ty.szn3 (And.intro @Ty.ldA4 (And.intro @Ty.ldS4 (And.intro @Ty.sz4 (And.intro @Ty.szn4 (And.intro @Ty.fo125_1 (And.intro @Ty.fk125_1 (And.intro @Ty.fs125_1 (And.intro @Ty.fn125_1 (And.intro @Ty.fo125_0 (And.intro @Ty.fk125_0 (And.intro @Ty.fs125_0 (And.intro @Ty.fn125_0 (And.intro @Ty.fo125_2 (And.intro @Ty.fk125_2 (And.intro @Ty.fs125_2 (And.intro @Ty.fn125_2 (And.intro @Ty.fo91_0 (And.intro @Ty.fk91_0 (And.intro @Ty.fs91_0 (And.intro @Ty.fn91_0 (And.intro @Ty.fo91_2 (And.intro @Ty.fk91_2 (And.intro @Ty.fs91_2 (And.intro @Ty.fn91_2 (And.intro @Ty.zok22 (And.intro @Ty.by22 (And.intro @Ty.zs22 (And.intro @Ty.zok38 (And.intro @Ty.by38 (And.intro @Ty.zs38 (And.intro @Ty.zv125 (And.intro @Ty.bd91 (And.intro @Ty.zv91 (And.intro @Ty.pl91_0 (And.intro @Ty.pl91_1 (And.intro @Ty.pl91_3 @trivial)))))))))))))))))))))))))))))))))))))))))))))))))))))))))))))))))))))
def p_spec_SpansOf (l_0 : List GTick27) : Option (List GSpan × Bool) := (if (l_0.length : Int) > 200 then some (([] : List GSpan), false) else ((p_spec_SpansOf_l0 l_0 l_0 0 ([] : List GSpan) ([] : List Int)).bind fun q_0 => match q_0 with | .ret r_ => some r_ | .out (out_35, open_36) => (if (open_36.length : Int) > 0 then some (([] : List GSpan), false) else some (out_35, true))))
theorem p_spec_SpansOf_does (l_0 : List GTick27) (r : List GSpan × Bool) (h : p_spec_SpansOf l_0 = some r) : Does Try.prog 42 [.row false 3 l_0.length (esTick27 l_0)] (.tup [.row true 4 r.1.length (esSpan r.1), B r.2]) := by
  rw [p_spec_SpansOf] at h
  refine Does.bnd (fun hb => ?_)
  have hb2 : l_0.length ≤ 9223372036854775807 := by simpa [AV.fitNs, AV.fitN] using hb
  have hl0 := hb2
  refine Does.walk (nt := 107) Try.func42 rfl rfl (by simp) (by decide) rfl (fun G0 X w0 pv => ?_)
  by_cases c1 : (l_0.length : Int) > 200
  · rw [if_pos c1] at h
    have dc1 := decide_eq_true c1
    have ff := And.intro @dc1 p_spec_SpansOf_tf.down
    try refine st_by ff ?_
    repeat' (first | exact trivial | refine And.intro sd ?_)
    try clear ff
    cases h
    exact ret_q2 rfl (p_spec_SpansOf_rt (And.intro @dc1 p_spec_SpansOf_tf.down) trivial)
  rw [if_neg c1] at h
  have dc1 := decide_eq_false c1
  have hL_0 : l_0.length ≤ 9223372036854775807 := by first | assumption | omega
  obtain ⟨q_0, eq_0, h⟩ := Option.bind_eq_some_iff.1 h
  have ff := And.intro @dc1 p_spec_SpansOf_tf.down
  try refine st_by ff ?_
  repeat' (first | exact trivial | refine And.intro sd ?_)
  try clear ff
  obtain ⟨I_0, hI_0⟩ : ∃ I_ : (Nat × (List GSpan) × (List Int)) → ASt → Prop, I_ = (fun (a : Nat × (List GSpan) × (List Int)) σ => match a with | (i_0, out_35, open_36) => (i_0 ≤ l_0.length ∧ p_spec_SpansOf_l0 l_0 (l_0.drop i_0) i_0 out_35 open_36 = some q_0) ∧ σ.t 0 = .row false 3 l_0.length (esTick27 l_0) ∧ σ.t 4 = .sl 4 [] 0 out_35.length ∧ σ.t 5 = .sl 5 [] 0 open_36.length ∧ σ.t 13 = .row false 3 l_0.length (esTick27 l_0) ∧ σ.t 14 = I (l_0.length : Int) ∧ σ.t 15 = I (i_0 : Int) ∧ σ.m 4 = some (.row true 4 out_35.length (esSpan out_35)) ∧ σ.m 5 = some (.row true 1 open_36.length (esInt open_36))) := ⟨_, rfl⟩
  obtain ⟨M_0, hM_0⟩ : ∃ M_ : (Nat × (List GSpan) × (List Int)) → Nat, M_ = (fun (a : Nat × (List GSpan) × (List Int)) => match a with | (i_0, out_35, open_36) => l_0.length - i_0) := ⟨_, rfl⟩
  obtain ⟨J_0, hJ_0⟩ : ∃ J_ : ASt → Prop, J_ = (fun σ => ∃ out_35 : List GSpan, ∃ open_36 : List Int, (some (.out (out_35, open_36)) = some q_0) ∧ σ.t 4 = .sl 4 [] 0 out_35.length ∧ σ.t 5 = .sl 5 [] 0 open_36.length ∧ σ.m 4 = some (.row true 4 out_35.length (esSpan out_35)) ∧ σ.m 5 = some (.row true 1 open_36.length (esInt open_36))) := ⟨_, rfl⟩
  refine aw_loopC (id := 0) I_0 M_0 J_0 (0, ([] : List GSpan), ([] : List Int)) ?_ ?_ ?_
  · rw [hI_0]
    refine ⟨⟨Nat.zero_le _, eq_0⟩, ?_⟩
    exact p_spec_SpansOf_pv (And.intro @dc1 p_spec_SpansOf_tf.down) trivial
  · rintro ⟨i_0, out_35, open_36⟩ σ hg_0
    rw [hI_0] at hg_0
    obtain ⟨⟨hi_0, h_0⟩, g0_0, g1_0, g2_0, g3_0, g4_0, g5_0, g6_0, g7_0⟩ := hg_0
    cases hr_0 : l_0.drop i_0 with
    | nil =>
      rw [hr_0] at h_0
      rw [p_spec_SpansOf_l0] at h_0
      have hn_0 := drop_nil hr_0
      have dr_0 : decide ((i_0 : Int) < (l_0.length : Int)) = false := decide_eq_false (by omega)
      have ff := And.intro @dc1 (And.intro @dr_0 (And.intro @g0_0 (And.intro @g1_0 (And.intro @g2_0 (And.intro @g3_0 (And.intro @g4_0 (And.intro @g5_0 (And.intro @g6_0 (And.intro @g7_0 p_spec_SpansOf_tf.down)))))))))
      try refine st_by ff ?_
      repeat' (first | exact trivial | refine And.intro sd ?_)
      try clear ff
      refine JW.intro ?_
      rw [hJ_0]
      refine ⟨out_35, open_36, h_0, ?_⟩
      exact p_spec_SpansOf_pv (And.intro @dc1 (And.intro @dr_0 (And.intro @g0_0 (And.intro @g1_0 (And.intro @g2_0 (And.intro @g3_0 (And.intro @g4_0 (And.intro @g5_0 (And.intro @g6_0 (And.intro @g7_0 p_spec_SpansOf_tf.down)))))))))) trivial
    | cons x_0 r_0 =>
      rw [hr_0] at h_0
      rw [p_spec_SpansOf_l0] at h_0
      obtain ⟨ht_0, hg_0, hd_0⟩ := drop_cons hr_0
      have dr_0 : decide ((i_0 : Int) < (l_0.length : Int)) = true := decide_eq_true (by omega)
      have w_0 : IntKind.i64.wrap ((i_0 : Int) + 1) = ((i_0 + 1 : Nat) : Int) := wI _ (by omega) (by omega)
      have kk0c : (esTick27 l_0).drop (i_0 * 3) = eTick27 x_0 ++ esTick27 (l_0.drop (i_0 + 1)) := drop_enc (fun _ => rfl) (hg_0)
      have ff := And.intro @dc1 (And.intro @dr_0 (And.intro @w_0 (And.intro @g0_0 (And.intro @g1_0 (And.intro @g2_0 (And.intro @g3_0 (And.intro @g4_0 (And.intro @g5_0 (And.intro @g6_0 (And.intro @g7_0 (And.intro @kk0c p_spec_SpansOf_tf.down)))))))))))
      try refine st_by ff ?_
      repeat' (first | exact trivial | refine And.intro sd ?_ | (refine aw_drawn (id := 8) ?_ [[], [0], [0, 1], [0, 1, 2], [0, 1, 2, 3], [0, 1, 2, 3, 4], [0, 1, 2, 3, 4, 5], [0, 1, 2, 3, 4, 5, 6], [0, 1, 2, 3, 4, 5, 6, 7], [0, 1, 2, 3, 4, 5, 6, 7, 8], [0, 1, 2, 3, 4, 5, 6, 7, 8, 9], [0, 1, 2, 3, 4, 5, 6, 7, 8, 9, 10], [0, 1, 2, 3, 4, 5, 6, 7, 8, 9, 10, 11], [0, 1, 2, 3, 4, 5, 6, 7, 8, 9, 10, 11, 12], [0, 1, 2, 3, 4, 5, 6, 7, 8, 9, 10, 11, 12, 13], [0, 1, 2, 3, 4, 5, 6, 7, 8, 9, 10, 11, 12, 13], [0, 1, 2, 3, 4, 5, 6, 7, 8, 9, 10, 11, 12, 13, 15], [0, 1, 2, 3, 4, 5, 6, 7, 8, 9, 10, 11, 12, 13, 14, 15, 16], [0, 1, 2, 3, 4, 5, 6, 7, 8, 9, 10, 11, 12, 13, 14, 15, 16, 17], [0, 1, 2, 3, 4, 5, 6, 7, 8, 9, 10, 11, 12, 13, 14, 15, 16, 17, 18], [0, 1, 2, 3, 4, 5, 6, 7, 8, 9, 10, 11, 12, 13], [0, 1, 2, 3, 4, 5, 6, 7, 8, 9, 10, 11, 12, 13, 20], [0, 1, 2, 3, 4, 5, 6, 7, 8, 9, 10, 11, 12, 13, 14, 15, 16, 17, 18, 19, 20, 21], [0, 1, 2, 3, 4, 5, 6, 7, 8, 9, 10, 11, 12, 13, 14, 15, 16, 17, 18, 19, 20, 21, 22], [0, 1, 2, 3, 4, 5, 6, 7, 8, 9, 10, 11, 12, 13, 14, 15, 16, 17, 18, 19, 20, 21, 22, 23]] 22 ?_ ?_; (· kernel_rfl); (· kernel_rfl); refine st_by ff ?_))
      try clear ff
      generalize hk_0 : thenK _ _ = kk_0
      have key_0 : ∀ σ, (∃ b_73 : Bool, (p_spec_SpansOf_j0 out_35 open_36 x_0 i_0 (p_spec_SpansOf_l0 l_0 r_0) b_73 = some q_0) ∧ σ.t 0 = .row false 3 l_0.length (esTick27 l_0) ∧ σ.t 4 = .sl 4 [] 0 out_35.length ∧ σ.t 5 = .sl 5 [] 0 open_36.length ∧ σ.t 7 = .ptr 7 [] 0 ∧ σ.t 13 = .row false 3 l_0.length (esTick27 l_0) ∧ σ.t 14 = I (l_0.length : Int) ∧ σ.t 15 = I (i_0 : Int) ∧ σ.t 44 = B b_73 ∧ σ.m 4 = some (.row true 4 out_35.length (esSpan out_35)) ∧ σ.m 5 = some (.row true 1 open_36.length (esInt open_36)) ∧ σ.m 7 = some (.box true [I x_0.Time, S x_0.Name, B x_0.Open])) → kk_0 .nm σ := by
        rintro σ ⟨b_73, h_0, g0_j0, g1_j0, g2_j0, g3_j0, g4_j0, g5_j0, g6_j0, g7_j0, g8_j0, g9_j0, g10_j0⟩
        rw [← hk_0]
        rw [p_spec_SpansOf_j0] at h_0
        by_cases c74 : b_73 = true
        · rw [if_pos c74] at h_0
          have dc74 := c74
          cases h_0
          try dsimp only at h
          have ff := And.intro @dc1 (And.intro @dr_0 (And.intro @w_0 (And.intro @kk0c (And.intro @g0_j0 (And.intro @g1_j0 (And.intro @g2_j0 (And.intro @g3_j0 (And.intro @g4_j0 (And.intro @g5_j0 (And.intro @g6_j0 (And.intro @g7_j0 (And.intro @g8_j0 (And.intro @g9_j0 (And.intro @g10_j0 (And.intro @dc74 p_spec_SpansOf_tf.down)))))))))))))))
          try refine st_by ff ?_
          repeat' (first | exact trivial | refine And.intro sd ?_)
          try clear ff
          cases h
          exact ret_q2 rfl (p_spec_SpansOf_rt (And.intro @dc1 (And.intro @dr_0 (And.intro @w_0 (And.intro @kk0c (And.intro @g0_j0 (And.intro @g1_j0 (And.intro @g2_j0 (And.intro @g3_j0 (And.intro @g4_j0 (And.intro @g5_j0 (And.intro @g6_j0 (And.intro @g7_j0 (And.intro @g8_j0 (And.intro @g9_j0 (And.intro @g10_j0 (And.intro @dc74 p_spec_SpansOf_tf.down)))))))))))))))) trivial)
        rw [if_neg c74] at h_0
        have dc74 := eq_false_of_ne_true c74
        by_cases c75 : x_0.Open = true
        · rw [if_pos c75] at h_0
          have dc75 := c75
          by_cases c76 : (open_36.length : Int) = 12
          · rw [if_pos c76] at h_0
            have dc76 := beq_yes c76
            cases h_0
            try dsimp only at h
            have ff := And.intro @dc1 (And.intro @dr_0 (And.intro @w_0 (And.intro @kk0c (And.intro @g0_j0 (And.intro @g1_j0 (And.intro @g2_j0 (And.intro @g3_j0 (And.intro @g4_j0 (And.intro @g5_j0 (And.intro @g6_j0 (And.intro @g7_j0 (And.intro @g8_j0 (And.intro @g9_j0 (And.intro @g10_j0 (And.intro @dc74 (And.intro @dc75 (And.intro @dc76 p_spec_SpansOf_tf.down)))))))))))))))))
            try refine st_by ff ?_
            repeat' (first | exact trivial | refine And.intro sd ?_)
            try clear ff
            cases h
            exact ret_q2 rfl (p_spec_SpansOf_rt (And.intro @dc1 (And.intro @dr_0 (And.intro @w_0 (And.intro @kk0c (And.intro @g0_j0 (And.intro @g1_j0 (And.intro @g2_j0 (And.intro @g3_j0 (And.intro @g4_j0 (And.intro @g5_j0 (And.intro @g6_j0 (And.intro @g7_j0 (And.intro @g8_j0 (And.intro @g9_j0 (And.intro @g10_j0 (And.intro @dc74 (And.intro @dc75 (And.intro @dc76 p_spec_SpansOf_tf.down)))))))))))))))))) trivial)
          rw [if_neg c76] at h_0
          have dc76 := beq_no c76
          have ff := And.intro @dc1 (And.intro @dr_0 (And.intro @w_0 (And.intro @kk0c (And.intro @g0_j0 (And.intro @g1_j0 (And.intro @g2_j0 (And.intro @g3_j0 (And.intro @g4_j0 (And.intro @g5_j0 (And.intro @g6_j0 (And.intro @g7_j0 (And.intro @g8_j0 (And.intro @g9_j0 (And.intro @g10_j0 (And.intro @dc74 (And.intro @dc75 (And.intro @dc76 p_spec_SpansOf_tf.down)))))))))))))))))
          try refine st_by ff ?_
          repeat' (first | exact trivial | refine And.intro sd ?_)
          try clear ff
          generalize hk_1 : thenK _ _ = kk_1
          have key_1 : ∀ σ, (∃ up_77 : Int, (p_spec_SpansOf_j1 out_35 open_36 x_0 i_0 (p_spec_SpansOf_l0 l_0 r_0) up_77 = some q_0) ∧ σ.t 0 = .row false 3 l_0.length (esTick27 l_0) ∧ σ.t 4 = .sl 4 [] 0 out_35.length ∧ σ.t 5 = .sl 5 [] 0 open_36.length ∧ σ.t 7 = .ptr 7 [] 0 ∧ σ.t 9 = I up_77 ∧ σ.t 13 = .row false 3 l_0.length (esTick27 l_0) ∧ σ.t 14 = I (l_0.length : Int) ∧ σ.t 15 = I (i_0 : Int) ∧ σ.m 4 = some (.row true 4 out_35.length (esSpan out_35)) ∧ σ.m 5 = some (.row true 1 open_36.length (esInt open_36)) ∧ σ.m 7 = some (.box true [I x_0.Time, S x_0.Name, B x_0.Open])) → kk_1 .nm σ := by
            rintro σ ⟨up_77, h_0, g0_j1, g1_j1, g2_j1, g3_j1, g4_j1, g5_j1, g6_j1, g7_j1, g8_j1, g9_j1, g10_j1⟩
            rw [← hk_1]
            rw [p_spec_SpansOf_j1] at h_0
            by_cases c78 : open_36.length < 4294967296
            case neg => rw [if_neg c78] at h_0; cases h_0
            rw [if_pos c78] at h_0
            have a79a : esInt open_36 ++ [I (out_35.length : Int)] = esInt (open_36 ++ [(out_35.length : Int)]) := by simp [esInt_app, esInt_cons, esInt_nil, eInt_eq]
            have a79b : open_36.length + 1 = (open_36 ++ [(out_35.length : Int)]).length := by simp
            by_cases c80 : out_35.length < 4294967296
            case neg => rw [if_neg c80] at h_0; cases h_0
            rw [if_pos c80] at h_0
            have a81a : esSpan out_35 ++ [S x_0.Name, I x_0.Time, I 0, I up_77] = esSpan (out_35 ++ [(⟨x_0.Name, x_0.Time, 0, up_77⟩ : GSpan)]) := by simp [esSpan_app, esSpan_cons, esSpan_nil, eSpan_eq]
            have a81b : out_35.length + 1 = (out_35 ++ [(⟨x_0.Name, x_0.Time, 0, up_77⟩ : GSpan)]).length := by simp
            have ff := And.intro @dc1 (And.intro @dr_0 (And.intro @w_0 (And.intro @kk0c (And.intro @dc74 (And.intro @dc75 (And.intro @dc76 (And.intro @g0_j1 (And.intro @g1_j1 (And.intro @g2_j1 (And.intro @g3_j1 (And.intro @g4_j1 (And.intro @g5_j1 (And.intro @g6_j1 (And.intro @g7_j1 (And.intro @g8_j1 (And.intro @g9_j1 (And.intro @g10_j1 (And.intro @a79a (And.intro @a79b (And.intro @a81a (And.intro @a81b p_spec_SpansOf_tf.down)))))))))))))))))))))
            try refine st_by ff ?_
            repeat' (first | exact trivial | refine And.intro sd ?_)
            try clear ff
            refine Back.intro (i_0 + 1, (out_35 ++ [(⟨x_0.Name, x_0.Time, 0, up_77⟩ : GSpan)]), (open_36 ++ [(out_35.length : Int)])) ?_ ?_
            · rw [hM_0]; show l_0.length - (i_0 + 1) < l_0.length - i_0; omega
            rw [hI_0]
            refine ⟨⟨by show i_0 + 1 ≤ l_0.length; omega, by show p_spec_SpansOf_l0 l_0 (l_0.drop (i_0 + 1)) (i_0 + 1) (out_35 ++ [(⟨x_0.Name, x_0.Time, 0, up_77⟩ : GSpan)]) (open_36 ++ [(out_35.length : Int)]) = some q_0; rw [hd_0]; exact h_0⟩, ?_⟩
            exact p_spec_SpansOf_pv (And.intro @dc1 (And.intro @dr_0 (And.intro @w_0 (And.intro @kk0c (And.intro @dc74 (And.intro @dc75 (And.intro @dc76 (And.intro @g0_j1 (And.intro @g1_j1 (And.intro @g2_j1 (And.intro @g3_j1 (And.intro @g4_j1 (And.intro @g5_j1 (And.intro @g6_j1 (And.intro @g7_j1 (And.intro @g8_j1 (And.intro @g9_j1 (And.intro @g10_j1 (And.intro @a79a (And.intro @a79b (And.intro @a81a (And.intro @a81b p_spec_SpansOf_tf.down)))))))))))))))))))))) trivial
          have hrt_1 := fun σ : ASt => congrFun (congrFun hk_1.symm AX.rt) σ
          have hex_1 := fun (i : Nat) (σ : ASt) => congrFun (congrFun hk_1.symm (AX.ex i)) σ
          by_cases c82 : (open_36.length : Int) > 0
          case neg =>
           rw [if_neg c82] at h_0
           have dc82 := decide_eq_false c82
           have ff := And.intro @dc1 (And.intro @dr_0 (And.intro @w_0 (And.intro @kk0c (And.intro @g0_j0 (And.intro @g1_j0 (And.intro @g2_j0 (And.intro @g3_j0 (And.intro @g4_j0 (And.intro @g5_j0 (And.intro @g6_j0 (And.intro @g7_j0 (And.intro @g8_j0 (And.intro @g9_j0 (And.intro @g10_j0 (And.intro @dc74 (And.intro @dc75 (And.intro @dc76 (And.intro @hrt_1 (And.intro @hex_1 (And.intro @dc82 p_spec_SpansOf_tf.down))))))))))))))))))))
           try refine st_by ff ?_
           repeat' (first | exact trivial | refine And.intro sd ?_)
           try clear ff
           refine key_1 _ ?_
           refine ⟨(-1), h_0, ?_⟩
           exact p_spec_SpansOf_pv (And.intro @dc1 (And.intro @dr_0 (And.intro @w_0 (And.intro @kk0c (And.intro @g0_j0 (And.intro @g1_j0 (And.intro @g2_j0 (And.intro @g3_j0 (And.intro @g4_j0 (And.intro @g5_j0 (And.intro @g6_j0 (And.intro @g7_j0 (And.intro @g8_j0 (And.intro @g9_j0 (And.intro @g10_j0 (And.intro @dc74 (And.intro @dc75 (And.intro @dc76 (And.intro @hrt_1 (And.intro @hex_1 (And.intro @dc82 p_spec_SpansOf_tf.down))))))))))))))))))))) trivial
          rw [if_pos c82] at h_0
          have dc82 := decide_eq_true c82
          obtain ⟨x83, ex83, h_0⟩ := Option.bind_eq_some_iff.1 h_0
          try dsimp only at h_0
          have f84a := idx_lo ex83
          have f84b := idx_hi ex83
          have f84c : (esInt open_36).drop (((IntKind.i64.wrap ((open_36.length : Int) - 1)).toNat) * 1) = eInt x83 ++ esInt (open_36.drop ((IntKind.i64.wrap ((open_36.length : Int) - 1)).toNat + 1)) := drop_enc (fun _ => rfl) (idx_get ex83)
          have f84d := f84c
          rw [Nat.mul_one] at f84d
          have f84g0 : (esInt open_36).getD (((IntKind.i64.wrap ((open_36.length : Int) - 1)).toNat) * 1) .junk = (eInt x83).getD 0 .junk := getD_enc0 (enc := eInt) (sz := 1) (fun _ => rfl) (idx_get ex83) (by decide)
          rw [Nat.mul_one] at f84g0
          have ff := And.intro @dc1 (And.intro @dr_0 (And.intro @w_0 (And.intro @kk0c (And.intro @g0_j0 (And.intro @g1_j0 (And.intro @g2_j0 (And.intro @g3_j0 (And.intro @g4_j0 (And.intro @g5_j0 (And.intro @g6_j0 (And.intro @g7_j0 (And.intro @g8_j0 (And.intro @g9_j0 (And.intro @g10_j0 (And.intro @dc74 (And.intro @dc75 (And.intro @dc76 (And.intro @hrt_1 (And.intro @hex_1 (And.intro @dc82 (And.intro @f84c (And.intro @f84d (And.intro @f84g0 p_spec_SpansOf_tf.down)))))))))))))))))))))))
          try refine st_by ff ?_
          repeat' (first | exact trivial | refine And.intro sd ?_)
          try clear ff
          refine key_1 _ ?_
          refine ⟨x83, h_0, ?_⟩
          exact p_spec_SpansOf_pv (And.intro @dc1 (And.intro @dr_0 (And.intro @w_0 (And.intro @kk0c (And.intro @g0_j0 (And.intro @g1_j0 (And.intro @g2_j0 (And.intro @g3_j0 (And.intro @g4_j0 (And.intro @g5_j0 (And.intro @g6_j0 (And.intro @g7_j0 (And.intro @g8_j0 (And.intro @g9_j0 (And.intro @g10_j0 (And.intro @dc74 (And.intro @dc75 (And.intro @dc76 (And.intro @hrt_1 (And.intro @hex_1 (And.intro @dc82 (And.intro @f84c (And.intro @f84d (And.intro @f84g0 p_spec_SpansOf_tf.down)))))))))))))))))))))))) trivial
        rw [if_neg c75] at h_0
        have dc75 := eq_false_of_ne_true c75
        have ff := And.intro @dc1 (And.intro @dr_0 (And.intro @w_0 (And.intro @kk0c (And.intro @g0_j0 (And.intro @g1_j0 (And.intro @g2_j0 (And.intro @g3_j0 (And.intro @g4_j0 (And.intro @g5_j0 (And.intro @g6_j0 (And.intro @g7_j0 (And.intro @g8_j0 (And.intro @g9_j0 (And.intro @g10_j0 (And.intro @dc74 (And.intro @dc75 p_spec_SpansOf_tf.down))))))))))))))))
        try refine st_by ff ?_
        repeat' (first | exact trivial | refine And.intro sd ?_ | (refine aw_drawn (id := 19) ?_ [[], [0], [0, 1], [0, 1, 2], [0, 1, 2], [0, 1, 2], [0, 1, 2, 5], [0, 1, 2, 4, 5, 6], [0, 1, 2, 4, 5, 6, 7], [0, 1, 2, 3, 4, 5, 6, 7, 8], [0, 1, 2, 3, 4, 5, 6, 7, 8, 9], [0, 1, 2, 3, 4, 5, 6, 7, 8, 9, 10], [0, 1, 2], [0, 1, 2, 12], [0, 1, 2, 3, 4, 5, 6, 7, 8, 9, 10, 11, 12, 13], [0, 1, 2, 3, 4, 5, 6, 7, 8, 9, 10, 11, 12, 13, 14]] 14 ?_ ?_; (· kernel_rfl); (· kernel_rfl); refine st_by ff ?_))
        try clear ff
        generalize hk_2 : thenK _ _ = kk_2
        have key_2 : ∀ σ, (∃ b_85 : Bool, (p_spec_SpansOf_j2 out_35 open_36 x_0 i_0 (p_spec_SpansOf_l0 l_0 r_0) b_85 = some q_0) ∧ σ.t 0 = .row false 3 l_0.length (esTick27 l_0) ∧ σ.t 4 = .sl 4 [] 0 out_35.length ∧ σ.t 5 = .sl 5 [] 0 open_36.length ∧ σ.t 7 = .ptr 7 [] 0 ∧ σ.t 8 = I (open_36.length : Int) ∧ σ.t 13 = .row false 3 l_0.length (esTick27 l_0) ∧ σ.t 14 = I (l_0.length : Int) ∧ σ.t 15 = I (i_0 : Int) ∧ σ.t 87 = B b_85 ∧ σ.m 4 = some (.row true 4 out_35.length (esSpan out_35)) ∧ σ.m 5 = some (.row true 1 open_36.length (esInt open_36)) ∧ σ.m 7 = some (.box true [I x_0.Time, S x_0.Name, B x_0.Open])) → kk_2 .nm σ := by
          rintro σ ⟨b_85, h_0, g0_j2, g1_j2, g2_j2, g3_j2, g4_j2, g5_j2, g6_j2, g7_j2, g8_j2, g9_j2, g10_j2, g11_j2⟩
          rw [← hk_2]
          rw [p_spec_SpansOf_j2] at h_0
          by_cases c86 : b_85 = true
          · rw [if_pos c86] at h_0
            have dc86 := c86
            cases h_0
            try dsimp only at h
            have ff := And.intro @dc1 (And.intro @dr_0 (And.intro @w_0 (And.intro @kk0c (And.intro @dc74 (And.intro @dc75 (And.intro @g0_j2 (And.intro @g1_j2 (And.intro @g2_j2 (And.intro @g3_j2 (And.intro @g4_j2 (And.intro @g5_j2 (And.intro @g6_j2 (And.intro @g7_j2 (And.intro @g8_j2 (And.intro @g9_j2 (And.intro @g10_j2 (And.intro @g11_j2 (And.intro @dc86 p_spec_SpansOf_tf.down))))))))))))))))))
            try refine st_by ff ?_
            repeat' (first | exact trivial | refine And.intro sd ?_ | (refine aw_drawn (id := 19) ?_ [[], [0], [0, 1], [0, 1, 2], [0, 1, 2], [0, 1, 2], [0, 1, 2, 5], [0, 1, 2, 4, 5, 6], [0, 1, 2, 4, 5, 6, 7], [0, 1, 2, 3, 4, 5, 6, 7, 8], [0, 1, 2, 3, 4, 5, 6, 7, 8, 9], [0, 1, 2, 3, 4, 5, 6, 7, 8, 9, 10], [0, 1, 2], [0, 1, 2, 12], [0, 1, 2, 3, 4, 5, 6, 7, 8, 9, 10, 11, 12, 13], [0, 1, 2, 3, 4, 5, 6, 7, 8, 9, 10, 11, 12, 13, 14]] 14 ?_ ?_; (· kernel_rfl); (· kernel_rfl); refine st_by ff ?_))
            try clear ff
            cases h
            exact ret_q2 rfl (p_spec_SpansOf_rt (And.intro @dc1 (And.intro @dr_0 (And.intro @w_0 (And.intro @kk0c (And.intro @dc74 (And.intro @dc75 (And.intro @g0_j2 (And.intro @g1_j2 (And.intro @g2_j2 (And.intro @g3_j2 (And.intro @g4_j2 (And.intro @g5_j2 (And.intro @g6_j2 (And.intro @g7_j2 (And.intro @g8_j2 (And.intro @g9_j2 (And.intro @g10_j2 (And.intro @g11_j2 (And.intro @dc86 p_spec_SpansOf_tf.down))))))))))))))))))) trivial)
          rw [if_neg c86] at h_0
          have dc86 := eq_false_of_ne_true c86
          obtain ⟨x87, ex87, h_0⟩ := Option.bind_eq_some_iff.1 h_0
          try dsimp only at h_0
          have f88a := idx_lo ex87
          have f88b := idx_hi ex87
          have f88c : (esInt open_36).drop (((IntKind.i64.wrap ((open_36.length : Int) - 1)).toNat) * 1) = eInt x87 ++ esInt (open_36.drop ((IntKind.i64.wrap ((open_36.length : Int) - 1)).toNat + 1)) := drop_enc (fun _ => rfl) (idx_get ex87)
          have f88d := f88c
          rw [Nat.mul_one] at f88d
          have f88g0 : (esInt open_36).getD (((IntKind.i64.wrap ((open_36.length : Int) - 1)).toNat) * 1) .junk = (eInt x87).getD 0 .junk := getD_enc0 (enc := eInt) (sz := 1) (fun _ => rfl) (idx_get ex87) (by decide)
          rw [Nat.mul_one] at f88g0
          obtain ⟨x89, ex89, h_0⟩ := Option.bind_eq_some_iff.1 h_0
          try dsimp only at h_0
          have f90a := idx_lo ex89
          have f90b := idx_hi ex89
          have f90c : (esSpan out_35).drop (x87.toNat * 4) = eSpan x89 ++ esSpan (out_35.drop (x87.toNat + 1)) := drop_enc (fun _ => rfl) (idx_get ex89)
          have f90g0 : (esSpan out_35).getD (x87.toNat * 4) .junk = (eSpan x89).getD 0 .junk := getD_enc0 (enc := eSpan) (sz := 4) (fun _ => rfl) (idx_get ex89) (by decide)
          have f90g1 : (esSpan out_35).getD (x87.toNat * 4 + 1) .junk = (eSpan x89).getD 1 .junk := getD_enc (enc := eSpan) (sz := 4) (fun _ => rfl) (idx_get ex89) (by decide)
          have f90g2 : (esSpan out_35).getD (x87.toNat * 4 + 2) .junk = (eSpan x89).getD 2 .junk := getD_enc (enc := eSpan) (sz := 4) (fun _ => rfl) (idx_get ex89) (by decide)
          have f90g3 : (esSpan out_35).getD (x87.toNat * 4 + 3) .junk = (eSpan x89).getD 3 .junk := getD_enc (enc := eSpan) (sz := 4) (fun _ => rfl) (idx_get ex89) (by decide)
          have w91l : x87.toNat < out_35.length := (List.getElem?_eq_some_iff.1 (idx_get ex89)).1
          have w91a : (esSpan out_35).set (x87.toNat * 4 + 2) (I x_0.Time) = esSpan (out_35.set x87.toNat (⟨x89.Name, x89.From, x_0.Time, x89.Up⟩ : GSpan)) := set_enc (enc := eSpan) (sz := 4) (fun _ => rfl) (idx_get ex89) (by decide) rfl
          have w91b : (out_35.set x87.toNat (⟨x89.Name, x89.From, x_0.Time, x89.Up⟩ : GSpan)).length = out_35.length := List.length_set
          obtain ⟨m93, em93, h_0⟩ := Option.bind_eq_some_iff.1 h_0
          try dsimp only at h_0
          obtain ⟨f94a, f94b⟩ := slc_ok em93
          have f94c : (esInt open_36).take (((IntKind.i64.wrap ((open_36.length : Int) - 1)).toNat) * 1) = esInt m93 := slc_encL (enc := eInt) (fun _ => rfl) em93
          have f94d : m93.length = (IntKind.i64.wrap ((open_36.length : Int) - 1)).toNat := (slc_lenL em93).symm
          rw [Nat.mul_one] at f94c
          have ff := And.intro @dc1 (And.intro @dr_0 (And.intro @w_0 (And.intro @kk0c (And.intro @dc74 (And.intro @dc75 (And.intro @g0_j2 (And.intro @g1_j2 (And.intro @g2_j2 (And.intro @g3_j2 (And.intro @g4_j2 (And.intro @g5_j2 (And.intro @g6_j2 (And.intro @g7_j2 (And.intro @g8_j2 (And.intro @g9_j2 (And.intro @g10_j2 (And.intro @g11_j2 (And.intro @dc86 (And.intro @f88c (And.intro @f88d (And.intro @f88g0 (And.intro @f90c (And.intro @f90g0 (And.intro @f90g1 (And.intro @f90g2 (And.intro @f90g3 (And.intro @w91a (And.intro @f94c p_spec_SpansOf_tf.down))))))))))))))))))))))))))))
          try refine st_by ff ?_
          repeat' (first | exact trivial | refine And.intro sd ?_ | (refine aw_drawn (id := 19) ?_ [[], [0], [0, 1], [0, 1, 2], [0, 1, 2], [0, 1, 2], [0, 1, 2, 5], [0, 1, 2, 4, 5, 6], [0, 1, 2, 4, 5, 6, 7], [0, 1, 2, 3, 4, 5, 6, 7, 8], [0, 1, 2, 3, 4, 5, 6, 7, 8, 9], [0, 1, 2, 3, 4, 5, 6, 7, 8, 9, 10], [0, 1, 2], [0, 1, 2, 12], [0, 1, 2, 3, 4, 5, 6, 7, 8, 9, 10, 11, 12, 13], [0, 1, 2, 3, 4, 5, 6, 7, 8, 9, 10, 11, 12, 13, 14]] 14 ?_ ?_; (· kernel_rfl); (· kernel_rfl); refine st_by ff ?_) | (refine aw_drawn (id := 21) ?_ [[], [], [], [2], [1, 2, 3], [1, 2, 3, 4], [], [6], [0, 1, 2, 3, 4, 5, 6, 7], [0, 1, 2, 3, 4, 5, 6, 7, 8], [0, 1, 2, 3, 4, 5, 6, 7, 8, 9]] 8 ?_ ?_; (· kernel_rfl); (· kernel_rfl); refine st_by ff ?_))
          try clear ff
          refine Back.introW (i_0 + 1, (out_35.set x87.toNat (⟨x89.Name, x89.From, x_0.Time, x89.Up⟩ : GSpan)), m93) ?_ (Weak.shrink (r := 5) (sz := 1) (n := open_36.length) (k := (IntKind.i64.wrap ((open_36.length : Int) - 1)).toNat) (cs := esInt open_36) (by decide) (p_spec_SpansOf_pv (And.intro @dc1 (And.intro @dr_0 (And.intro @w_0 (And.intro @kk0c (And.intro @dc74 (And.intro @dc75 (And.intro @g0_j2 (And.intro @g1_j2 (And.intro @g2_j2 (And.intro @g3_j2 (And.intro @g4_j2 (And.intro @g5_j2 (And.intro @g6_j2 (And.intro @g7_j2 (And.intro @g8_j2 (And.intro @g9_j2 (And.intro @g10_j2 (And.intro @g11_j2 (And.intro @dc86 (And.intro @f88c (And.intro @f88d (And.intro @f88g0 (And.intro @f90c (And.intro @f90g0 (And.intro @f90g1 (And.intro @f90g2 (And.intro @f90g3 (And.intro @w91a (And.intro @f94c p_spec_SpansOf_tf.down))))))))))))))))))))))))))))) @f94d) sd) ?_
          · rw [hM_0]; show l_0.length - (i_0 + 1) < l_0.length - i_0; omega
          rw [hI_0]
          refine ⟨⟨by show i_0 + 1 ≤ l_0.length; omega, by show p_spec_SpansOf_l0 l_0 (l_0.drop (i_0 + 1)) (i_0 + 1) (out_35.set x87.toNat (⟨x89.Name, x89.From, x_0.Time, x89.Up⟩ : GSpan)) m93 = some q_0; rw [hd_0]; exact h_0⟩, ?_⟩
          exact p_spec_SpansOf_pv (And.intro @dc1 (And.intro @dr_0 (And.intro @w_0 (And.intro @kk0c (And.intro @dc74 (And.intro @dc75 (And.intro @g0_j2 (And.intro @g1_j2 (And.intro @g2_j2 (And.intro @g3_j2 (And.intro @g4_j2 (And.intro @g5_j2 (And.intro @g6_j2 (And.intro @g7_j2 (And.intro @g8_j2 (And.intro @g9_j2 (And.intro @g10_j2 (And.intro @g11_j2 (And.intro @dc86 (And.intro @f88c (And.intro @f88d (And.intro @f88g0 (And.intro @f90c (And.intro @f90g0 (And.intro @f90g1 (And.intro @f90g2 (And.intro @f90g3 (And.intro @w91a (And.intro @f94c p_spec_SpansOf_tf.down))))))))))))))))))))))))))))) @f94d
        have hrt_2 := fun σ : ASt => congrFun (congrFun hk_2.symm AX.rt) σ
        have hex_2 := fun (i : Nat) (σ : ASt) => congrFun (congrFun hk_2.symm (AX.ex i)) σ
        by_cases c95 : (open_36.length : Int) = 0
        · rw [if_pos c95] at h_0
          have dc95 := beq_yes c95
          have ff := And.intro @dc1 (And.intro @dr_0 (And.intro @w_0 (And.intro @kk0c (And.intro @g0_j0 (And.intro @g1_j0 (And.intro @g2_j0 (And.intro @g3_j0 (And.intro @g4_j0 (And.intro @g5_j0 (And.intro @g6_j0 (And.intro @g7_j0 (And.intro @g8_j0 (And.intro @g9_j0 (And.intro @g10_j0 (And.intro @dc74 (And.intro @dc75 (And.intro @hrt_2 (And.intro @hex_2 (And.intro @dc95 p_spec_SpansOf_tf.down)))))))))))))))))))
          try refine st_by ff ?_
          repeat' (first | exact trivial | refine And.intro sd ?_ | (refine aw_drawn (id := 19) ?_ [[], [0], [0, 1], [0, 1, 2], [0, 1, 2], [0, 1, 2], [0, 1, 2, 5], [0, 1, 2, 4, 5, 6], [0, 1, 2, 4, 5, 6, 7], [0, 1, 2, 3, 4, 5, 6, 7, 8], [0, 1, 2, 3, 4, 5, 6, 7, 8, 9], [0, 1, 2, 3, 4, 5, 6, 7, 8, 9, 10], [0, 1, 2], [0, 1, 2, 12], [0, 1, 2, 3, 4, 5, 6, 7, 8, 9, 10, 11, 12, 13], [0, 1, 2, 3, 4, 5, 6, 7, 8, 9, 10, 11, 12, 13, 14]] 14 ?_ ?_; (· kernel_rfl); (· kernel_rfl); refine st_by ff ?_))
          try clear ff
          refine key_2 _ ?_
          refine ⟨true, h_0, ?_⟩
          exact p_spec_SpansOf_pv (And.intro @dc1 (And.intro @dr_0 (And.intro @w_0 (And.intro @kk0c (And.intro @g0_j0 (And.intro @g1_j0 (And.intro @g2_j0 (And.intro @g3_j0 (And.intro @g4_j0 (And.intro @g5_j0 (And.intro @g6_j0 (And.intro @g7_j0 (And.intro @g8_j0 (And.intro @g9_j0 (And.intro @g10_j0 (And.intro @dc74 (And.intro @dc75 (And.intro @hrt_2 (And.intro @hex_2 (And.intro @dc95 p_spec_SpansOf_tf.down)))))))))))))))))))) trivial
        rw [if_neg c95] at h_0
        have dc95 := beq_no c95
        obtain ⟨x96, ex96, h_0⟩ := Option.bind_eq_some_iff.1 h_0
        try dsimp only at h_0
        have f97a := idx_lo ex96
        have f97b := idx_hi ex96
        have f97c : (esInt open_36).drop (((IntKind.i64.wrap ((open_36.length : Int) - 1)).toNat) * 1) = eInt x96 ++ esInt (open_36.drop ((IntKind.i64.wrap ((open_36.length : Int) - 1)).toNat + 1)) := drop_enc (fun _ => rfl) (idx_get ex96)
        have f97d := f97c
        rw [Nat.mul_one] at f97d
        have f97g0 : (esInt open_36).getD (((IntKind.i64.wrap ((open_36.length : Int) - 1)).toNat) * 1) .junk = (eInt x96).getD 0 .junk := getD_enc0 (enc := eInt) (sz := 1) (fun _ => rfl) (idx_get ex96) (by decide)
        rw [Nat.mul_one] at f97g0
        obtain ⟨x98, ex98, h_0⟩ := Option.bind_eq_some_iff.1 h_0
        try dsimp only at h_0
        have f99a := idx_lo ex98
        have f99b := idx_hi ex98
        have f99c : (esSpan out_35).drop (x96.toNat * 4) = eSpan x98 ++ esSpan (out_35.drop (x96.toNat + 1)) := drop_enc (fun _ => rfl) (idx_get ex98)
        have f99g0 : (esSpan out_35).getD (x96.toNat * 4) .junk = (eSpan x98).getD 0 .junk := getD_enc0 (enc := eSpan) (sz := 4) (fun _ => rfl) (idx_get ex98) (by decide)
        have f99g1 : (esSpan out_35).getD (x96.toNat * 4 + 1) .junk = (eSpan x98).getD 1 .junk := getD_enc (enc := eSpan) (sz := 4) (fun _ => rfl) (idx_get ex98) (by decide)
        have f99g2 : (esSpan out_35).getD (x96.toNat * 4 + 2) .junk = (eSpan x98).getD 2 .junk := getD_enc (enc := eSpan) (sz := 4) (fun _ => rfl) (idx_get ex98) (by decide)
        have f99g3 : (esSpan out_35).getD (x96.toNat * 4 + 3) .junk = (eSpan x98).getD 3 .junk := getD_enc (enc := eSpan) (sz := 4) (fun _ => rfl) (idx_get ex98) (by decide)
        have ff := And.intro @dc1 (And.intro @dr_0 (And.intro @w_0 (And.intro @kk0c (And.intro @g0_j0 (And.intro @g1_j0 (And.intro @g2_j0 (And.intro @g3_j0 (And.intro @g4_j0 (And.intro @g5_j0 (And.intro @g6_j0 (And.intro @g7_j0 (And.intro @g8_j0 (And.intro @g9_j0 (And.intro @g10_j0 (And.intro @dc74 (And.intro @dc75 (And.intro @hrt_2 (And.intro @hex_2 (And.intro @dc95 (And.intro @f97c (And.intro @f97d (And.intro @f97g0 (And.intro @f99c (And.intro @f99g0 (And.intro @f99g1 (And.intro @f99g2 (And.intro @f99g3 p_spec_SpansOf_tf.down)))))))))))))))))))))))))))
        try refine st_by ff ?_
        repeat' (first | exact trivial | refine And.intro sd ?_ | (refine aw_drawn (id := 19) ?_ [[], [0], [0, 1], [0, 1, 2], [0, 1, 2], [0, 1, 2], [0, 1, 2, 5], [0, 1, 2, 4, 5, 6], [0, 1, 2, 4, 5, 6, 7], [0, 1, 2, 3, 4, 5, 6, 7, 8], [0, 1, 2, 3, 4, 5, 6, 7, 8, 9], [0, 1, 2, 3, 4, 5, 6, 7, 8, 9, 10], [0, 1, 2], [0, 1, 2, 12], [0, 1, 2, 3, 4, 5, 6, 7, 8, 9, 10, 11, 12, 13], [0, 1, 2, 3, 4, 5, 6, 7, 8, 9, 10, 11, 12, 13, 14]] 14 ?_ ?_; (· kernel_rfl); (· kernel_rfl); refine st_by ff ?_))
        try clear ff
        refine key_2 _ ?_
        refine ⟨!(decide (x98.Name = x_0.Name)), h_0, ?_⟩
        exact p_spec_SpansOf_pv (And.intro @dc1 (And.intro @dr_0 (And.intro @w_0 (And.intro @kk0c (And.intro @g0_j0 (And.intro @g1_j0 (And.intro @g2_j0 (And.intro @g3_j0 (And.intro @g4_j0 (And.intro @g5_j0 (And.intro @g6_j0 (And.intro @g7_j0 (And.intro @g8_j0 (And.intro @g9_j0 (And.intro @g10_j0 (And.intro @dc74 (And.intro @dc75 (And.intro @hrt_2 (And.intro @hex_2 (And.intro @dc95 (And.intro @f97c (And.intro @f97d (And.intro @f97g0 (And.intro @f99c (And.intro @f99g0 (And.intro @f99g1 (And.intro @f99g2 (And.intro @f99g3 p_spec_SpansOf_tf.down)))))))))))))))))))))))))))) trivial
      have hrt_0 := fun σ : ASt => congrFun (congrFun hk_0.symm AX.rt) σ
      have hex_0 := fun (i : Nat) (σ : ASt) => congrFun (congrFun hk_0.symm (AX.ex i)) σ
      by_cases c100 : x_0.Name.size ≤ 9223372036854775807
      case neg => rw [if_neg c100] at h_0; cases h_0
      rw [if_pos c100] at h_0
      have ff := And.intro @dc1 (And.intro @dr_0 (And.intro @w_0 (And.intro @g0_0 (And.intro @g1_0 (And.intro @g2_0 (And.intro @g3_0 (And.intro @g4_0 (And.intro @g5_0 (And.intro @g6_0 (And.intro @g7_0 (And.intro @kk0c (And.intro @hrt_0 (And.intro @hex_0 p_spec_SpansOf_tf.down)))))))))))))
      try refine st_by ff ?_
      repeat' (first | exact trivial | refine And.intro sd ?_ | (refine aw_drawn (id := 8) ?_ [[], [0], [0, 1], [0, 1, 2], [0, 1, 2, 3], [0, 1, 2, 3, 4], [0, 1, 2, 3, 4, 5], [0, 1, 2, 3, 4, 5, 6], [0, 1, 2, 3, 4, 5, 6, 7], [0, 1, 2, 3, 4, 5, 6, 7, 8], [0, 1, 2, 3, 4, 5, 6, 7, 8, 9], [0, 1, 2, 3, 4, 5, 6, 7, 8, 9, 10], [0, 1, 2, 3, 4, 5, 6, 7, 8, 9, 10, 11], [0, 1, 2, 3, 4, 5, 6, 7, 8, 9, 10, 11, 12], [0, 1, 2, 3, 4, 5, 6, 7, 8, 9, 10, 11, 12, 13], [0, 1, 2, 3, 4, 5, 6, 7, 8, 9, 10, 11, 12, 13], [0, 1, 2, 3, 4, 5, 6, 7, 8, 9, 10, 11, 12, 13, 15], [0, 1, 2, 3, 4, 5, 6, 7, 8, 9, 10, 11, 12, 13, 14, 15, 16], [0, 1, 2, 3, 4, 5, 6, 7, 8, 9, 10, 11, 12, 13, 14, 15, 16, 17], [0, 1, 2, 3, 4, 5, 6, 7, 8, 9, 10, 11, 12, 13, 14, 15, 16, 17, 18], [0, 1, 2, 3, 4, 5, 6, 7, 8, 9, 10, 11, 12, 13], [0, 1, 2, 3, 4, 5, 6, 7, 8, 9, 10, 11, 12, 13, 20], [0, 1, 2, 3, 4, 5, 6, 7, 8, 9, 10, 11, 12, 13, 14, 15, 16, 17, 18, 19, 20, 21], [0, 1, 2, 3, 4, 5, 6, 7, 8, 9, 10, 11, 12, 13, 14, 15, 16, 17, 18, 19, 20, 21, 22], [0, 1, 2, 3, 4, 5, 6, 7, 8, 9, 10, 11, 12, 13, 14, 15, 16, 17, 18, 19, 20, 21, 22, 23]] 22 ?_ ?_; (· kernel_rfl); (· kernel_rfl); refine st_by ff ?_))
      first
      | (refine cq_call (specGoodName_does x_0.Name (by first | assumption | omega)) (hf_by ff) kr ⟨p_spec_SpansOf_sa ff trivial, ?_⟩; clear ff)
      | (refine cq_dcall (specGoodName_does x_0.Name (by first | assumption | omega)) (hf_by ff) kr ⟨p_spec_SpansOf_sa ff trivial, ?_⟩; clear ff)
      by_cases c101 : (goodName x_0.Name) = true
      case neg =>
       rw [if_neg c101] at h_0
       have dc101 := eq_false_of_ne_true c101
       have ff := And.intro @dc1 (And.intro @dr_0 (And.intro @w_0 (And.intro @g0_0 (And.intro @g1_0 (And.intro @g2_0 (And.intro @g3_0 (And.intro @g4_0 (And.intro @g5_0 (And.intro @g6_0 (And.intro @g7_0 (And.intro @kk0c (And.intro @hrt_0 (And.intro @hex_0 (And.intro @dc101 p_spec_SpansOf_tf.down))))))))))))))
       try refine st_by ff ?_
       repeat' (first | exact trivial | refine And.intro sd ?_)
       try clear ff
       refine key_0 _ ?_
       refine ⟨true, h_0, ?_⟩
       exact p_spec_SpansOf_pv (And.intro @dc1 (And.intro @dr_0 (And.intro @w_0 (And.intro @g0_0 (And.intro @g1_0 (And.intro @g2_0 (And.intro @g3_0 (And.intro @g4_0 (And.intro @g5_0 (And.intro @g6_0 (And.intro @g7_0 (And.intro @kk0c (And.intro @hrt_0 (And.intro @hex_0 (And.intro @dc101 p_spec_SpansOf_tf.down))))))))))))))) trivial
      rw [if_pos c101] at h_0
      have dc101 := c101
      have ff := And.intro @dc1 (And.intro @dr_0 (And.intro @w_0 (And.intro @g0_0 (And.intro @g1_0 (And.intro @g2_0 (And.intro @g3_0 (And.intro @g4_0 (And.intro @g5_0 (And.intro @g6_0 (And.intro @g7_0 (And.intro @kk0c (And.intro @hrt_0 (And.intro @hex_0 (And.intro @dc101 p_spec_SpansOf_tf.down))))))))))))))
      try refine st_by ff ?_
      repeat' (first | exact trivial | refine And.intro sd ?_)
      first
      | (refine cq_call (l1In_does x_0.Time 0 100000) (hf_by ff) kr ⟨p_spec_SpansOf_sa ff trivial, ?_⟩; clear ff)
      | (refine cq_dcall (l1In_does x_0.Time 0 100000) (hf_by ff) kr ⟨p_spec_SpansOf_sa ff trivial, ?_⟩; clear ff)
      by_cases c102 : (rng x_0.Time 0 100000) = true
      case neg =>
       rw [if_neg c102] at h_0
       have dc102 := eq_false_of_ne_true c102
       have ff := And.intro @dc1 (And.intro @dr_0 (And.intro @w_0 (And.intro @g0_0 (And.intro @g1_0 (And.intro @g2_0 (And.intro @g3_0 (And.intro @g4_0 (And.intro @g5_0 (And.intro @g6_0 (And.intro @g7_0 (And.intro @kk0c (And.intro @hrt_0 (And.intro @hex_0 (And.intro @dc101 (And.intro @dc102 p_spec_SpansOf_tf.down)))))))))))))))
       try refine st_by ff ?_
       repeat' (first | exact trivial | refine And.intro sd ?_)
       try clear ff
       refine key_0 _ ?_
       refine ⟨true, h_0, ?_⟩
       exact p_spec_SpansOf_pv (And.intro @dc1 (And.intro @dr_0 (And.intro @w_0 (And.intro @g0_0 (And.intro @g1_0 (And.intro @g2_0 (And.intro @g3_0 (And.intro @g4_0 (And.intro @g5_0 (And.intro @g6_0 (And.intro @g7_0 (And.intro @kk0c (And.intro @hrt_0 (And.intro @hex_0 (And.intro @dc101 (And.intro @dc102 p_spec_SpansOf_tf.down)))))))))))))))) trivial
      rw [if_pos c102] at h_0
      have dc102 := c102
      by_cases c103 : (i_0 : Int) > 0
      case neg =>
       rw [if_neg c103] at h_0
       have dc103 := decide_eq_false c103
       have ff := And.intro @dc1 (And.intro @dr_0 (And.intro @w_0 (And.intro @g0_0 (And.intro @g1_0 (And.intro @g2_0 (And.intro @g3_0 (And.intro @g4_0 (And.intro @g5_0 (And.intro @g6_0 (And.intro @g7_0 (And.intro @kk0c (And.intro @hrt_0 (And.intro @hex_0 (And.intro @dc101 (And.intro @dc102 (And.intro @dc103 p_spec_SpansOf_tf.down))))))))))))))))
       try refine st_by ff ?_
       repeat' (first | exact trivial | refine And.intro sd ?_)
       try clear ff
       refine key_0 _ ?_
       refine ⟨false, h_0, ?_⟩
       exact p_spec_SpansOf_pv (And.intro @dc1 (And.intro @dr_0 (And.intro @w_0 (And.intro @g0_0 (And.intro @g1_0 (And.intro @g2_0 (And.intro @g3_0 (And.intro @g4_0 (And.intro @g5_0 (And.intro @g6_0 (And.intro @g7_0 (And.intro @kk0c (And.intro @hrt_0 (And.intro @hex_0 (And.intro @dc101 (And.intro @dc102 (And.intro @dc103 p_spec_SpansOf_tf.down))))))))))))))))) trivial
      rw [if_pos c103] at h_0
      have dc103 := decide_eq_true c103
      obtain ⟨x104, ex104, h_0⟩ := Option.bind_eq_some_iff.1 h_0
      try dsimp only at h_0
      have f105a := idx_lo ex104
      have f105b := idx_hi ex104
      have f105c : (esTick27 l_0).drop (((IntKind.i64.wrap ((i_0 : Int) - 1)).toNat) * 3) = eTick27 x104 ++ esTick27 (l_0.drop ((IntKind.i64.wrap ((i_0 : Int) - 1)).toNat + 1)) := drop_enc (fun _ => rfl) (idx_get ex104)
      have ff := And.intro @dc1 (And.intro @dr_0 (And.intro @w_0 (And.intro @g0_0 (And.intro @g1_0 (And.intro @g2_0 (And.intro @g3_0 (And.intro @g4_0 (And.intro @g5_0 (And.intro @g6_0 (And.intro @g7_0 (And.intro @kk0c (And.intro @hrt_0 (And.intro @hex_0 (And.intro @dc101 (And.intro @dc102 (And.intro @dc103 (And.intro @f105c p_spec_SpansOf_tf.down)))))))))))))))))
      try refine st_by ff ?_
      repeat' (first | exact trivial | refine And.intro sd ?_)
      try clear ff
      refine key_0 _ ?_
      refine ⟨decide (x104.Time > x_0.Time), h_0, ?_⟩
      exact p_spec_SpansOf_pv (And.intro @dc1 (And.intro @dr_0 (And.intro @w_0 (And.intro @g0_0 (And.intro @g1_0 (And.intro @g2_0 (And.intro @g3_0 (And.intro @g4_0 (And.intro @g5_0 (And.intro @g6_0 (And.intro @g7_0 (And.intro @kk0c (And.intro @hrt_0 (And.intro @hex_0 (And.intro @dc101 (And.intro @dc102 (And.intro @dc103 (And.intro @f105c p_spec_SpansOf_tf.down)))))))))))))))))) trivial
  · rintro σ hg_0
    rw [hJ_0] at hg_0
    obtain ⟨out_35, open_36, hj_0, g0_0a, g1_0a, g2_0a, g3_0a⟩ := hg_0
    cases hj_0
    try dsimp only at h
    by_cases c106 : (open_36.length : Int) > 0
    case neg =>
     rw [if_neg c106] at h
     have dc106 := decide_eq_false c106
     have ff := And.intro @dc1 (And.intro @g0_0a (And.intro @g1_0a (And.intro @g2_0a (And.intro @g3_0a (And.intro @dc106 p_spec_SpansOf_tf.down)))))
     try refine st_by ff ?_
     repeat' (first | exact trivial | refine And.intro sd ?_)
     try clear ff
     cases h
     exact ret_q2 rfl (p_spec_SpansOf_rt (And.intro @dc1 (And.intro @g0_0a (And.intro @g1_0a (And.intro @g2_0a (And.intro @g3_0a (And.intro @dc106 p_spec_SpansOf_tf.down)))))) trivial)
    rw [if_pos c106] at h
    have dc106 := decide_eq_true c106
    have ff := And.intro @dc1 (And.intro @g0_0a (And.intro @g1_0a (And.intro @g2_0a (And.intro @g3_0a (And.intro @dc106 p_spec_SpansOf_tf.down)))))
    try refine st_by ff ?_
    repeat' (first | exact trivial | refine And.intro sd ?_)
    try clear ff
    cases h
    exact ret_q2 rfl (p_spec_SpansOf_rt (And.intro @dc1 (And.intro @g0_0a (And.intro @g1_0a (And.intro @g2_0a (And.intro @g3_0a (And.intro @dc106 p_spec_SpansOf_tf.down)))))) trivial)
end Go.Av
