/- spec.FairTeams -/
import Derived.Test.YtbldpkglmjajlaaBYh
import Derived.Test.YtbldpkglmjajlaaBNB2
set_option linter.unusedSimpArgs false
set_option linter.unusedVariables false
set_option maxRecDepth 100000
set_option maxHeartbeats 1000000
namespace Go.Av
open Go.Proofs
/-! spec.FairTeams -/
def p_spec_FairTeams_l0 : List GPlayer → Nat → Int → Option (Int)
  | [], i_0, all_7 => some all_7
  | x_0 :: r_0, i_0, all_7 => p_spec_FairTeams_l0 r_0 (i_0 + 1) (IntKind.i64.wrap (all_7 + x_0.Rating))
def p_spec_FairTeams_l2 (l_a0 : List GPlayer) (mask_36 : Int) : List GPlayer → Nat → Int → Int → Option (Int × Int)
  | [], i_2, many_65, sum_66 => some (many_65, sum_66)
  | x_2 :: r_2, i_2, many_65, sum_66 => (if 0 ≤ (IntKind.u64.wrap (IntKind.i64.wrap ((IntKind.i64.wrap ((l_a0.length : Int) - 1)) - (i_2 : Int)))) then (if (IntKind.i64.wrap (((BitVec.ofInt (IntKind.i64.bits) (Int.fdiv mask_36 (2 ^ (min (IntKind.u64.wrap (IntKind.i64.wrap ((IntKind.i64.wrap ((l_a0.length : Int) - 1)) - (i_2 : Int)))).toNat IntKind.i64.bits)))) &&& (BitVec.ofInt (IntKind.i64.bits) 1)).toNat : Int)) = 1 then p_spec_FairTeams_l2 l_a0 mask_36 r_2 (i_2 + 1) (IntKind.i64.wrap (many_65 + 1)) (IntKind.i64.wrap (sum_66 + x_2.Rating)) else p_spec_FairTeams_l2 l_a0 mask_36 r_2 (i_2 + 1) many_65 sum_66) else none)
def p_spec_FairTeams_l1 (l_a0 : List GPlayer) (all_7 : Int) : Nat → Int → Int → Int → Option (Int × Int × Int)
  | 0, _, _, _ => none
  | n_1 + 1, best_34, least_35, mask_36 => (if 0 ≤ (IntKind.u64.wrap (IntKind.i64.wrap ((l_a0.length : Int) - 1))) then (if mask_36 ≥ (IntKind.i64.wrap ((1 : Int) * 2 ^ (min (IntKind.u64.wrap (IntKind.i64.wrap ((l_a0.length : Int) - 1))).toNat IntKind.i64.bits))) then ((p_spec_FairTeams_l2 l_a0 mask_36 l_a0 0 0 0).bind fun q_2 => match q_2 with | (many_65, sum_66) => ((p_spec_l1Abs (IntKind.i64.wrap (all_7 - (IntKind.i64.wrap (2 * sum_66))))).bind fun v75 => (if many_65 = (IntKind.i64.wrap (Int.tdiv (l_a0.length : Int) 2)) then (if best_34 < 0 then p_spec_FairTeams_l1 l_a0 all_7 n_1 mask_36 v75 (IntKind.i64.wrap (mask_36 - 1)) else (if v75 < least_35 then p_spec_FairTeams_l1 l_a0 all_7 n_1 mask_36 v75 (IntKind.i64.wrap (mask_36 - 1)) else p_spec_FairTeams_l1 l_a0 all_7 n_1 best_34 least_35 (IntKind.i64.wrap (mask_36 - 1)))) else p_spec_FairTeams_l1 l_a0 all_7 n_1 best_34 least_35 (IntKind.i64.wrap (mask_36 - 1))))) else some (best_34, least_35, mask_36)) else none)
def p_spec_FairTeams_l3 (l_a0 : List GPlayer) (best_34 : Int) : List GPlayer → Nat → (List GTeam) → Option ((List GTeam))
  | [], i_3, out_93 => some out_93
  | x_3 :: r_3, i_3, out_93 => (if 0 ≤ (IntKind.u64.wrap (IntKind.i64.wrap ((IntKind.i64.wrap ((l_a0.length : Int) - 1)) - (i_3 : Int)))) then ((idx out_93 (IntKind.i64.wrap (1 - (IntKind.i64.wrap (((BitVec.ofInt (IntKind.i64.bits) (Int.fdiv best_34 (2 ^ (min (IntKind.u64.wrap (IntKind.i64.wrap ((IntKind.i64.wrap ((l_a0.length : Int) - 1)) - (i_3 : Int)))).toNat IntKind.i64.bits)))) &&& (BitVec.ofInt (IntKind.i64.bits) 1)).toNat : Int))))).bind fun x106 => (if x106.Names.length < 4294967296 then p_spec_FairTeams_l3 l_a0 best_34 r_3 (i_3 + 1) ((out_93.set ((IntKind.i64.wrap (1 - (IntKind.i64.wrap (((BitVec.ofInt (IntKind.i64.bits) (Int.fdiv best_34 (2 ^ (min (IntKind.u64.wrap (IntKind.i64.wrap ((IntKind.i64.wrap ((l_a0.length : Int) - 1)) - (i_3 : Int)))).toNat IntKind.i64.bits)))) &&& (BitVec.ofInt (IntKind.i64.bits) 1)).toNat : Int)))).toNat) (⟨(x106.Names ++ [x_3.Name]), x106.Sum⟩ : GTeam)).set ((IntKind.i64.wrap (1 - (IntKind.i64.wrap (((BitVec.ofInt (IntKind.i64.bits) (Int.fdiv best_34 (2 ^ (min (IntKind.u64.wrap (IntKind.i64.wrap ((IntKind.i64.wrap ((l_a0.length : Int) - 1)) - (i_3 : Int)))).toNat IntKind.i64.bits)))) &&& (BitVec.ofInt (IntKind.i64.bits) 1)).toNat : Int)))).toNat) (⟨(⟨(x106.Names ++ [x_3.Name]), x106.Sum⟩ : GTeam).Names, (IntKind.i64.wrap (((⟨(x106.Names ++ [x_3.Name]), x106.Sum⟩ : GTeam).Sum) + x_3.Rating))⟩ : GTeam)) else none)) else none)
def p_spec_FairTeams_j0 (N : Nat) (l_a0 : List GPlayer) (b_2 : Bool) : Option (List GTeam × Bool) := (if b_2 = true then some (([] : List GTeam), false) else ((p_spec_FairTeams_l0 l_a0 0 0).bind fun q_0 => match q_0 with | all_7 => (if 0 ≤ (IntKind.u64.wrap (l_a0.length : Int)) then ((p_spec_FairTeams_l1 l_a0 all_7 N (-1) 0 (IntKind.i64.wrap ((IntKind.i64.wrap ((1 : Int) * 2 ^ (min (IntKind.u64.wrap (l_a0.length : Int)).toNat IntKind.i64.bits))) - 1))).bind fun q_1 => match q_1 with | (best_34, least_35, mask_36) => ((mkl 2 ((⟨([] : List ByteArray), 0⟩ : GTeam) : GTeam)).bind fun m79 => ((p_spec_FairTeams_l3 l_a0 best_34 l_a0 0 m79).bind fun q_3 => match q_3 with | out_93 => some (out_93, true)))) else none)))
theorem p_spec_FairTeams_pv {F C A : Prop} (hF : F) (hC : C) (h : F → C → A := by intro hF hC; first | exact cl_by hF | (refine st_by hF ?_; (repeat' (first | exact trivial | apply And.intro)); all_goals (clear hF; first | rfl | (simp only [hC, List.length_append, List.length_cons, List.length_nil, List.append_nil, List.nil_append, List.cons_append, List.length_set, List.append_assoc, Nat.zero_add, List.length_replicate, esStr_app, esStr_cons, esStr_nil, eStr_eq, esPlayer_app, esPlayer_cons, esPlayer_nil, ePlayer_eq, esTeam_app, esTeam_cons, esTeam_nil, eTeam_eq, esTeamo_app, esTeamo_cons, esTeamo_nil, eTeamo_eq]; done) | (simp [hC, List.length_append, List.length_cons, List.length_nil, List.append_nil, List.nil_append, List.cons_append, List.length_set, List.append_assoc, Nat.zero_add, List.length_replicate, esStr_app, esStr_cons, esStr_nil, eStr_eq, esPlayer_app, esPlayer_cons, esPlayer_nil, ePlayer_eq, esTeam_app, esTeam_cons, esTeam_nil, eTeam_eq, esTeamo_app, esTeamo_cons, esTeamo_nil, eTeamo_eq]; done) | omega))) : A := h hF hC
theorem p_spec_FairTeams_sa {F C A : Prop} (hF : F) (hC : C) (h : F → C → A := by intro hF hC; first | exact ca_by hF | (refine sa_by hF ?_; (repeat' (first | exact trivial | apply And.intro)); all_goals (clear hF; first | rfl | (simp only [hC, List.length_append, List.length_cons, List.length_nil, List.append_nil, List.nil_append, List.cons_append, List.length_set, List.append_assoc, Nat.zero_add, List.length_replicate, esStr_app, esStr_cons, esStr_nil, eStr_eq, esPlayer_app, esPlayer_cons, esPlayer_nil, ePlayer_eq, esTeam_app, esTeam_cons, esTeam_nil, eTeam_eq, esTeamo_app, esTeamo_cons, esTeamo_nil, eTeamo_eq]; done) | (simp [hC, List.length_append, List.length_cons, List.length_nil, List.append_nil, List.nil_append, List.cons_append, List.length_set, List.append_assoc, Nat.zero_add, List.length_replicate, esStr_app, esStr_cons, esStr_nil, eStr_eq, esPlayer_app, esPlayer_cons, esPlayer_nil, ePlayer_eq, esTeam_app, esTeam_cons, esTeam_nil, eTeam_eq, esTeamo_app, esTeamo_cons, esTeamo_nil, eTeamo_eq]; done) | omega))) : A := h hF hC
theorem p_spec_FairTeams_rt {F C A : Prop} (hF : F) (hC : C) (h : F → C → A := by intro hF hC; first | (refine sr_by hF ?_; (repeat' (first | exact trivial | apply And.intro)); all_goals (clear hF; first | rfl | (simp only [hC, List.length_append, List.length_cons, List.length_nil, List.append_nil, List.nil_append, List.cons_append, List.length_set, List.append_assoc, Nat.zero_add, List.length_replicate, esStr_app, esStr_cons, esStr_nil, eStr_eq, esPlayer_app, esPlayer_cons, esPlayer_nil, ePlayer_eq, esTeam_app, esTeam_cons, esTeam_nil, eTeam_eq, esTeamo_app, esTeamo_cons, esTeamo_nil, eTeamo_eq]; done) | (simp [hC, List.length_append, List.length_cons, List.length_nil, List.append_nil, List.nil_append, List.cons_append, List.length_set, List.append_assoc, Nat.zero_add, List.length_replicate, esStr_app, esStr_cons, esStr_nil, eStr_eq, esPlayer_app, esPlayer_cons, esPlayer_nil, ePlayer_eq, esTeam_app, esTeam_cons, esTeam_nil, eTeam_eq, esTeamo_app, esTeamo_cons, esTeamo_nil, eTeamo_eq]; done) | omega)) | (first | rfl | (simp only [hC, List.length_append, List.length_cons, List.length_nil, List.append_nil, List.nil_append, List.cons_append, List.length_set, List.append_assoc, Nat.zero_add, List.length_replicate, esStr_app, esStr_cons, esStr_nil, eStr_eq, esPlayer_app, esPlayer_cons, esPlayer_nil, ePlayer_eq, esTeam_app, esTeam_cons, esTeam_nil, eTeam_eq, esTeamo_app, esTeamo_cons, esTeamo_nil, eTeamo_eq]; done) | (simp [hC, List.length_append, List.length_cons, List.length_nil, List.append_nil, List.nil_append, List.cons_append, List.length_set, List.append_assoc, Nat.zero_add, List.length_replicate, esStr_app, esStr_cons, esStr_nil, eStr_eq, esPlayer_app, esPlayer_cons, esPlayer_nil, ePlayer_eq, esTeam_app, esTeam_cons, esTeam_nil, eTeam_eq, esTeamo_app, esTeamo_cons, esTeamo_nil, eTeamo_eq]; done) | omega)) : A := h hF hC
def p_spec_FairTeams_tf := PLift.up (And.intro @eStr_eq (And.intro @esStr_len (And.intro @esStr_nil (And.intro @esStr_leaf (And.intro @esStr_fit (And.intro @ePlayer_eq (And.intro @esPlayer_len (And.intro @esPlayer_nil (And.intro @esPlayer_leaf (And.intro @esPlayer_fit (And.intro @eTeam_eq (And.intro @esTeam_len (And.intro @esTeam_nil (And.intro @esTeam_leaf (And.intro @esTeam_fit (And.intro @eTeamo_eq (And.intro @esTeamo_len (And.intro @esTeamo_nil (And.intro @esStr_share (And.intro @esStr_pure (And.intro @esPlayer_share (And.intro @esPlayer_pure (And.intro @esTeamo_share (And.intro @esTeamo_pure (And.intro @str_beq (And.intro @avset_len (And.intro @Ty.sl27 (And.intro @Ty.slz27 (And.intro @Ty.sl34 (And.intro @Ty.slz34 (And.intro @Ty.nz45 (And.intro @Ty.ldA45 (And.intro @Ty.sz45 (And.intro @Ty.szn45 (And.intro @Ty.nz3 (And.intro @Ty.ldA3 (And.intro @Ty.ldS3 (And.intro @Ty.sz3 (And.intro @Ty.szn3 (And.intro @Ty.nz24 (And.intro @Ty.ldA24 (And.intro @Ty.ldS24 (And.intro @Ty.sz24 (And.intro @Ty.szn24 (And.intro @Ty.nz9 (And.intro @Ty.ldA9 (And.intro @Ty.ldS9 (And.intro @Ty.sz9 (And.intro @Ty.szn9 (And.intro @Ty.fo45_1 (And.intro @Ty.fk45_1 (And.intro @Ty.fs45_1 (And.intro @Ty.fn45_1 (And.intro @Ty.fo58_0 (And.intro @Ty.fk58_0 (And.intro @Ty.fs58_0 (And.intro @Ty.fn58_0 (And.intro @Ty.fo45_0 (And.intro @Ty.fk45_0 (And.intro @Ty.fs45_0 (And.intro @Ty.fn45_0 (And.intro @Ty.fo58_1 (And.intro @Ty.fk58_1 (And.intro @Ty.fs58_1 (And.intro @Ty.fn58_1 (And.intro @Ty.nze34 (And.intro @Ty.zok34 (And.intro @Ty.by34 (And.intro @Ty.zs34 (And.intro @Ty.nze24 (And.intro @Ty.sl24 (And.intro @Ty.slz24 (And.intro @Ty.zok24 (And.intro @Ty.by24 (And.intro @Ty.zs24 (And.intro @Ty.zv45 (And.intro @Ty.int3 (And.intro @Ty.int56 @trivial))))))))))))))))))))))))))))))))))))))))))))))))))))))))))))))))))))))))))))))
def p_spec_FairTeams (N : Nat) (l_a0 : List GPlayer) : Option (List GTeam × Bool) := ((p_spec_GoodPlayers l_a0).bind fun v1 => (if v1 = true then (if (l_a0.length : Int) < 2 then p_spec_FairTeams_j0 N l_a0 true else p_spec_FairTeams_j0 N l_a0 ((Int.tmod (l_a0.length : Int) 2) == 1)) else p_spec_FairTeams_j0 N l_a0 true))
theorem p_spec_FairTeams_does (N : Nat) (l_a0 : List GPlayer) (r : List GTeam × Bool) (h : p_spec_FairTeams N l_a0 = some r) : Does Try.prog 14 [.row false 3 l_a0.length (esPlayer l_a0)] (.tup [.row true 2 r.1.length (esTeamo r.1), B r.2]) := by
  rw [p_spec_FairTeams] at h
  refine Does.bnd (fun hb => ?_)
  have hb2 : l_a0.length ≤ 9223372036854775807 := by simpa [AV.fitNs, AV.fitN] using hb
  have hl0 := hb2
  refine Does.walk (nt := 146) Try.func14 rfl rfl (by simp) (by decide) rfl (fun G0 X w0 pv => ?_)
  obtain ⟨v1, ev1, h⟩ := Option.bind_eq_some_iff.1 h
  try dsimp only at h
  have ff := p_spec_FairTeams_tf.down
  try refine st_by ff ?_
  repeat' (first | exact trivial | refine And.intro sd ?_)
  first
  | (refine cq_call (p_spec_GoodPlayers_does l_a0 v1 ev1) (hf_by ff) kr ⟨p_spec_FairTeams_sa ff trivial, ?_⟩; clear ff)
  | (refine cq_dcall (p_spec_GoodPlayers_does l_a0 v1 ev1) (hf_by ff) kr ⟨p_spec_FairTeams_sa ff trivial, ?_⟩; clear ff)
  have ff := p_spec_FairTeams_tf.down
  try refine st_by ff ?_
  repeat' (first | exact trivial | refine And.intro sd ?_)
  try clear ff
  generalize hk_0 : thenK _ _ = kk_0
  have key_0 : ∀ σ, (∃ b_2 : Bool, (p_spec_FairTeams_j0 N l_a0 b_2 = some r) ∧ σ.t 0 = .row false 3 l_a0.length (esPlayer l_a0) ∧ σ.t 32 = B b_2) → kk_0 .nm σ := by
    rintro σ ⟨b_2, h, g0_j0, g1_j0⟩
    rw [← hk_0]
    rw [p_spec_FairTeams_j0] at h
    by_cases c3 : b_2 = true
    · rw [if_pos c3] at h
      have dc3 := c3
      have ff := And.intro @g0_j0 (And.intro @g1_j0 (And.intro @dc3 p_spec_FairTeams_tf.down))
      try refine st_by ff ?_
      repeat' (first | exact trivial | refine And.intro sd ?_)
      cases h
      exact ret_q2 rfl (p_spec_FairTeams_rt ff trivial)
    rw [if_neg c3] at h
    have dc3 := eq_false_of_ne_true c3
    have hL_0 : l_a0.length ≤ 9223372036854775807 := by first | assumption | omega
    obtain ⟨q_0, eq_0, h⟩ := Option.bind_eq_some_iff.1 h
    have ff := And.intro @g0_j0 (And.intro @g1_j0 (And.intro @dc3 p_spec_FairTeams_tf.down))
    try refine st_by ff ?_
    repeat' (first | exact trivial | refine And.intro sd ?_)
    obtain ⟨I_0, hI_0⟩ : ∃ I_ : (Nat × Int) → ASt → Prop, I_ = (fun (a : Nat × Int) σ => match a with | (i_0, all_7) => (i_0 ≤ l_a0.length ∧ p_spec_FairTeams_l0 (l_a0.drop i_0) i_0 all_7 = some q_0) ∧ σ.t 0 = .row false 3 l_a0.length (esPlayer l_a0) ∧ σ.t 4 = I all_7 ∧ σ.t 33 = .row false 3 l_a0.length (esPlayer l_a0) ∧ σ.t 34 = I (l_a0.length : Int) ∧ σ.t 35 = I (i_0 : Int)) := ⟨_, rfl⟩
    obtain ⟨M_0, hM_0⟩ : ∃ M_ : (Nat × Int) → Nat, M_ = (fun (a : Nat × Int) => match a with | (i_0, all_7) => l_a0.length - i_0) := ⟨_, rfl⟩
    obtain ⟨J_0, hJ_0⟩ : ∃ J_ : ASt → Prop, J_ = (fun σ => ∃ all_7 : Int, (some all_7 = some q_0) ∧ σ.t 0 = .row false 3 l_a0.length (esPlayer l_a0) ∧ σ.t 4 = I all_7) := ⟨_, rfl⟩
    refine aw_loopC (id := 0) I_0 M_0 J_0 (0, 0) ?_ ?_ ?_
    · rw [hI_0]
      refine ⟨⟨Nat.zero_le _, eq_0⟩, ?_⟩
      exact p_spec_FairTeams_pv ff trivial
    · try clear ff
      rintro ⟨i_0, all_7⟩ σ hg_0
      rw [hI_0] at hg_0
      obtain ⟨⟨hi_0, h_0⟩, g0_0, g1_0, g2_0, g3_0, g4_0⟩ := hg_0
      cases hr_0 : l_a0.drop i_0 with
      | nil =>
        rw [hr_0] at h_0
        rw [p_spec_FairTeams_l0] at h_0
        have hn_0 := drop_nil hr_0
        have dr_0 : decide ((i_0 : Int) < (l_a0.length : Int)) = false := decide_eq_false (by omega)
        have ff := And.intro @dc3 (And.intro @dr_0 (And.intro @g0_0 (And.intro @g1_0 (And.intro @g2_0 (And.intro @g3_0 (And.intro @g4_0 p_spec_FairTeams_tf.down))))))
        try refine st_by ff ?_
        repeat' (first | exact trivial | refine And.intro sd ?_)
        refine JW.intro ?_
        rw [hJ_0]
        refine ⟨all_7, h_0, ?_⟩
        exact p_spec_FairTeams_pv ff trivial
      | cons x_0 r_0 =>
        rw [hr_0] at h_0
        rw [p_spec_FairTeams_l0] at h_0
        obtain ⟨ht_0, hg_0, hd_0⟩ := drop_cons hr_0
        have dr_0 : decide ((i_0 : Int) < (l_a0.length : Int)) = true := decide_eq_true (by omega)
        have w_0 : IntKind.i64.wrap ((i_0 : Int) + 1) = ((i_0 + 1 : Nat) : Int) := wI _ (by omega) (by omega)
        have kk0c : (esPlayer l_a0).drop (i_0 * 3) = ePlayer x_0 ++ esPlayer (l_a0.drop (i_0 + 1)) := drop_enc (fun _ => rfl) (hg_0)
        have ff := And.intro @dc3 (And.intro @dr_0 (And.intro @w_0 (And.intro @g0_0 (And.intro @g1_0 (And.intro @g2_0 (And.intro @g3_0 (And.intro @g4_0 (And.intro @kk0c p_spec_FairTeams_tf.down))))))))
        try refine st_by ff ?_
        repeat' (first | exact trivial | refine And.intro sd ?_)
        refine Back.intro (i_0 + 1, (IntKind.i64.wrap (all_7 + x_0.Rating))) ?_ ?_
        · clear ff; rw [hM_0]; show l_a0.length - (i_0 + 1) < l_a0.length - i_0; omega
        rw [hI_0]
        refine ⟨⟨by clear ff; show i_0 + 1 ≤ l_a0.length; omega, by show p_spec_FairTeams_l0 (l_a0.drop (i_0 + 1)) (i_0 + 1) (IntKind.i64.wrap (all_7 + x_0.Rating)) = some q_0; rw [hd_0]; exact h_0⟩, ?_⟩
        exact p_spec_FairTeams_pv ff trivial
    · try clear ff
      rintro σ hg_0
      rw [hJ_0] at hg_0
      obtain ⟨all_7, hj_0, g0_0a, g1_0a⟩ := hg_0
      have hjj_0 := Option.some.inj hj_0
      subst hjj_0
      try dsimp only at h
      by_cases c12 : 0 ≤ (IntKind.u64.wrap (l_a0.length : Int))
      case neg => rw [if_neg c12] at h; cases h
      rw [if_pos c12] at h
      obtain ⟨q_1, eq_1, h⟩ := Option.bind_eq_some_iff.1 h
      have ff := And.intro @dc3 (And.intro @g0_0a (And.intro @g1_0a p_spec_FairTeams_tf.down))
      try refine st_by ff ?_
      repeat' (first | exact trivial | refine And.intro sd ?_)
      obtain ⟨I_1, hI_1⟩ : ∃ I_ : (Nat × Int × Int × Int) → ASt → Prop, I_ = (fun (a : Nat × Int × Int × Int) σ => match a with | (n_1, best_34, least_35, mask_36) => (p_spec_FairTeams_l1 l_a0 all_7 n_1 best_34 least_35 mask_36 = some q_1) ∧ σ.t 0 = .row false 3 l_a0.length (esPlayer l_a0) ∧ σ.t 4 = I all_7 ∧ σ.t 7 = I best_34 ∧ σ.t 8 = I least_35 ∧ σ.t 9 = I mask_36) := ⟨_, rfl⟩
      obtain ⟨M_1, hM_1⟩ : ∃ M_ : (Nat × Int × Int × Int) → Nat, M_ = (fun (a : Nat × Int × Int × Int) => match a with | (n_1, best_34, least_35, mask_36) => n_1) := ⟨_, rfl⟩
      obtain ⟨J_1, hJ_1⟩ : ∃ J_ : ASt → Prop, J_ = (fun σ => ∃ best_34 : Int, ∃ least_35 : Int, ∃ mask_36 : Int, (some (best_34, least_35, mask_36) = some q_1) ∧ σ.t 0 = .row false 3 l_a0.length (esPlayer l_a0) ∧ σ.t 7 = I best_34) := ⟨_, rfl⟩
      refine aw_loopC (id := 2) I_1 M_1 J_1 (N, (-1), 0, (IntKind.i64.wrap ((IntKind.i64.wrap ((1 : Int) * 2 ^ (min (IntKind.u64.wrap (l_a0.length : Int)).toNat IntKind.i64.bits))) - 1))) ?_ ?_ ?_
      · rw [hI_1]
        refine ⟨eq_1, ?_⟩
        exact p_spec_FairTeams_pv ff trivial
      · try clear ff
        rintro ⟨n_1, best_34, least_35, mask_36⟩ σ hg_1
        rw [hI_1] at hg_1
        obtain ⟨h_1, g0_1, g1_1, g2_1, g3_1, g4_1⟩ := hg_1
        cases n_1 with
        | zero => rw [p_spec_FairTeams_l1] at h_1; cases h_1
        | succ n_1 =>
          rw [p_spec_FairTeams_l1] at h_1
          by_cases c58 : 0 ≤ (IntKind.u64.wrap (IntKind.i64.wrap ((l_a0.length : Int) - 1)))
          case neg => rw [if_neg c58] at h_1; cases h_1
          rw [if_pos c58] at h_1
          by_cases c59 : mask_36 ≥ (IntKind.i64.wrap ((1 : Int) * 2 ^ (min (IntKind.u64.wrap (IntKind.i64.wrap ((l_a0.length : Int) - 1))).toNat IntKind.i64.bits)))
          case neg =>
           rw [if_neg c59] at h_1
           have dc59 := decide_eq_false c59
           have ff := And.intro @dc3 (And.intro @g0_1 (And.intro @g1_1 (And.intro @g2_1 (And.intro @g3_1 (And.intro @g4_1 (And.intro @dc59 p_spec_FairTeams_tf.down))))))
           try refine st_by ff ?_
           repeat' (first | exact trivial | refine And.intro sd ?_)
           refine JW.intro ?_
           rw [hJ_1]
           refine ⟨best_34, least_35, mask_36, h_1, ?_⟩
           exact p_spec_FairTeams_pv ff trivial
          rw [if_pos c59] at h_1
          have dc59 := decide_eq_true c59
          have hL_2 : l_a0.length ≤ 9223372036854775807 := by first | assumption | omega
          obtain ⟨q_2, eq_2, h_1⟩ := Option.bind_eq_some_iff.1 h_1
          have ff := And.intro @dc3 (And.intro @g0_1 (And.intro @g1_1 (And.intro @g2_1 (And.intro @g3_1 (And.intro @g4_1 (And.intro @dc59 p_spec_FairTeams_tf.down))))))
          try refine st_by ff ?_
          repeat' (first | exact trivial | refine And.intro sd ?_)
          obtain ⟨I_2, hI_2⟩ : ∃ I_ : (Nat × Int × Int) → ASt → Prop, I_ = (fun (a : Nat × Int × Int) σ => match a with | (i_2, many_65, sum_66) => (i_2 ≤ l_a0.length ∧ p_spec_FairTeams_l2 l_a0 mask_36 (l_a0.drop i_2) i_2 many_65 sum_66 = some q_2) ∧ σ.t 0 = .row false 3 l_a0.length (esPlayer l_a0) ∧ σ.t 4 = I all_7 ∧ σ.t 7 = I best_34 ∧ σ.t 8 = I least_35 ∧ σ.t 9 = I mask_36 ∧ σ.t 10 = I many_65 ∧ σ.t 11 = I sum_66 ∧ σ.t 58 = .row false 3 l_a0.length (esPlayer l_a0) ∧ σ.t 59 = I (l_a0.length : Int) ∧ σ.t 60 = I (i_2 : Int)) := ⟨_, rfl⟩
          obtain ⟨M_2, hM_2⟩ : ∃ M_ : (Nat × Int × Int) → Nat, M_ = (fun (a : Nat × Int × Int) => match a with | (i_2, many_65, sum_66) => l_a0.length - i_2) := ⟨_, rfl⟩
          obtain ⟨J_2, hJ_2⟩ : ∃ J_ : ASt → Prop, J_ = (fun σ => ∃ many_65 : Int, ∃ sum_66 : Int, (some (many_65, sum_66) = some q_2) ∧ σ.t 0 = .row false 3 l_a0.length (esPlayer l_a0) ∧ σ.t 4 = I all_7 ∧ σ.t 7 = I best_34 ∧ σ.t 8 = I least_35 ∧ σ.t 9 = I mask_36 ∧ σ.t 10 = I many_65 ∧ σ.t 11 = I sum_66) := ⟨_, rfl⟩
          refine aw_loopC (id := 4) I_2 M_2 J_2 (0, 0, 0) ?_ ?_ ?_
          · rw [hI_2]
            refine ⟨⟨Nat.zero_le _, eq_2⟩, ?_⟩
            exact p_spec_FairTeams_pv ff trivial
          · try clear ff
            rintro ⟨i_2, many_65, sum_66⟩ σ hg_2
            rw [hI_2] at hg_2
            obtain ⟨⟨hi_2, h_2⟩, g0_2, g1_2, g2_2, g3_2, g4_2, g5_2, g6_2, g7_2, g8_2, g9_2⟩ := hg_2
            cases hr_2 : l_a0.drop i_2 with
            | nil =>
              rw [hr_2] at h_2
              rw [p_spec_FairTeams_l2] at h_2
              have hn_2 := drop_nil hr_2
              have dr_2 : decide ((i_2 : Int) < (l_a0.length : Int)) = false := decide_eq_false (by omega)
              have ff := And.intro @dc3 (And.intro @dc59 (And.intro @dr_2 (And.intro @g0_2 (And.intro @g1_2 (And.intro @g2_2 (And.intro @g3_2 (And.intro @g4_2 (And.intro @g5_2 (And.intro @g6_2 (And.intro @g7_2 (And.intro @g8_2 (And.intro @g9_2 p_spec_FairTeams_tf.down))))))))))))
              try refine st_by ff ?_
              repeat' (first | exact trivial | refine And.intro sd ?_)
              refine JW.intro ?_
              rw [hJ_2]
              refine ⟨many_65, sum_66, h_2, ?_⟩
              exact p_spec_FairTeams_pv ff trivial
            | cons x_2 r_2 =>
              rw [hr_2] at h_2
              rw [p_spec_FairTeams_l2] at h_2
              obtain ⟨ht_2, hg_2, hd_2⟩ := drop_cons hr_2
              have dr_2 : decide ((i_2 : Int) < (l_a0.length : Int)) = true := decide_eq_true (by omega)
              have w_2 : IntKind.i64.wrap ((i_2 : Int) + 1) = ((i_2 + 1 : Nat) : Int) := wI _ (by omega) (by omega)
              have kk2c : (esPlayer l_a0).drop (i_2 * 3) = ePlayer x_2 ++ esPlayer (l_a0.drop (i_2 + 1)) := drop_enc (fun _ => rfl) (hg_2)
              by_cases c73 : 0 ≤ (IntKind.u64.wrap (IntKind.i64.wrap ((IntKind.i64.wrap ((l_a0.length : Int) - 1)) - (i_2 : Int))))
              case neg => rw [if_neg c73] at h_2; cases h_2
              rw [if_pos c73] at h_2
              by_cases c74 : (IntKind.i64.wrap (((BitVec.ofInt (IntKind.i64.bits) (Int.fdiv mask_36 (2 ^ (min (IntKind.u64.wrap (IntKind.i64.wrap ((IntKind.i64.wrap ((l_a0.length : Int) - 1)) - (i_2 : Int)))).toNat IntKind.i64.bits)))) &&& (BitVec.ofInt (IntKind.i64.bits) 1)).toNat : Int)) = 1
              case neg =>
               rw [if_neg c74] at h_2
               have dc74 := beq_no c74
               have ff := And.intro @dc3 (And.intro @dc59 (And.intro @dr_2 (And.intro @w_2 (And.intro @g0_2 (And.intro @g1_2 (And.intro @g2_2 (And.intro @g3_2 (And.intro @g4_2 (And.intro @g5_2 (And.intro @g6_2 (And.intro @g7_2 (And.intro @g8_2 (And.intro @g9_2 (And.intro @kk2c (And.intro @dc74 p_spec_FairTeams_tf.down)))))))))))))))
               try refine st_by ff ?_
               repeat' (first | exact trivial | refine And.intro sd ?_)
               refine Back.intro (i_2 + 1, many_65, sum_66) ?_ ?_
               · clear ff; rw [hM_2]; show l_a0.length - (i_2 + 1) < l_a0.length - i_2; omega
               rw [hI_2]
               refine ⟨⟨by clear ff; show i_2 + 1 ≤ l_a0.length; omega, by show p_spec_FairTeams_l2 l_a0 mask_36 (l_a0.drop (i_2 + 1)) (i_2 + 1) many_65 sum_66 = some q_2; rw [hd_2]; exact h_2⟩, ?_⟩
               exact p_spec_FairTeams_pv ff trivial
              rw [if_pos c74] at h_2
              have dc74 := beq_yes c74
              have ff := And.intro @dc3 (And.intro @dc59 (And.intro @dr_2 (And.intro @w_2 (And.intro @g0_2 (And.intro @g1_2 (And.intro @g2_2 (And.intro @g3_2 (And.intro @g4_2 (And.intro @g5_2 (And.intro @g6_2 (And.intro @g7_2 (And.intro @g8_2 (And.intro @g9_2 (And.intro @kk2c (And.intro @dc74 p_spec_FairTeams_tf.down)))))))))))))))
              try refine st_by ff ?_
              repeat' (first | exact trivial | refine And.intro sd ?_)
              refine Back.intro (i_2 + 1, (IntKind.i64.wrap (many_65 + 1)), (IntKind.i64.wrap (sum_66 + x_2.Rating))) ?_ ?_
              · clear ff; rw [hM_2]; show l_a0.length - (i_2 + 1) < l_a0.length - i_2; omega
              rw [hI_2]
              refine ⟨⟨by clear ff; show i_2 + 1 ≤ l_a0.length; omega, by show p_spec_FairTeams_l2 l_a0 mask_36 (l_a0.drop (i_2 + 1)) (i_2 + 1) (IntKind.i64.wrap (many_65 + 1)) (IntKind.i64.wrap (sum_66 + x_2.Rating)) = some q_2; rw [hd_2]; exact h_2⟩, ?_⟩
              exact p_spec_FairTeams_pv ff trivial
          · try clear ff
            rintro σ hg_2
            rw [hJ_2] at hg_2
            obtain ⟨many_65, sum_66, hj_2, g0_2a, g1_2a, g2_2a, g3_2a, g4_2a, g5_2a, g6_2a⟩ := hg_2
            cases hj_2
            try dsimp only at h_1
            obtain ⟨v75, ev75, h_1⟩ := Option.bind_eq_some_iff.1 h_1
            try dsimp only at h_1
            have ff := And.intro @dc3 (And.intro @dc59 (And.intro @g0_2a (And.intro @g1_2a (And.intro @g2_2a (And.intro @g3_2a (And.intro @g4_2a (And.intro @g5_2a (And.intro @g6_2a p_spec_FairTeams_tf.down))))))))
            try refine st_by ff ?_
            repeat' (first | exact trivial | refine And.intro sd ?_)
            first
            | (refine cq_call (p_spec_l1Abs_does (IntKind.i64.wrap (all_7 - (IntKind.i64.wrap (2 * sum_66)))) v75 ev75) (hf_by ff) kr ⟨p_spec_FairTeams_sa ff trivial, ?_⟩; clear ff)
            | (refine cq_dcall (p_spec_l1Abs_does (IntKind.i64.wrap (all_7 - (IntKind.i64.wrap (2 * sum_66)))) v75 ev75) (hf_by ff) kr ⟨p_spec_FairTeams_sa ff trivial, ?_⟩; clear ff)
            by_cases c76 : many_65 = (IntKind.i64.wrap (Int.tdiv (l_a0.length : Int) 2))
            case neg =>
             rw [if_neg c76] at h_1
             have dc76 := beq_no c76
             have ff := And.intro @dc3 (And.intro @dc59 (And.intro @g0_2a (And.intro @g1_2a (And.intro @g2_2a (And.intro @g3_2a (And.intro @g4_2a (And.intro @g5_2a (And.intro @g6_2a (And.intro @dc76 p_spec_FairTeams_tf.down)))))))))
             try refine st_by ff ?_
             repeat' (first | exact trivial | refine And.intro sd ?_)
             refine Back.intro (n_1, best_34, least_35, (IntKind.i64.wrap (mask_36 - 1))) ?_ ?_
             · rw [hM_1]; exact Nat.lt_succ_self _
             rw [hI_1]
             refine ⟨h_1, ?_⟩
             exact p_spec_FairTeams_pv ff trivial
            rw [if_pos c76] at h_1
            have dc76 := beq_yes c76
            by_cases c77 : best_34 < 0
            · rw [if_pos c77] at h_1
              have dc77 := decide_eq_true c77
              have ff := And.intro @dc3 (And.intro @dc59 (And.intro @g0_2a (And.intro @g1_2a (And.intro @g2_2a (And.intro @g3_2a (And.intro @g4_2a (And.intro @g5_2a (And.intro @g6_2a (And.intro @dc76 (And.intro @dc77 p_spec_FairTeams_tf.down))))))))))
              try refine st_by ff ?_
              repeat' (first | exact trivial | refine And.intro sd ?_)
              refine Back.intro (n_1, mask_36, v75, (IntKind.i64.wrap (mask_36 - 1))) ?_ ?_
              · rw [hM_1]; exact Nat.lt_succ_self _
              rw [hI_1]
              refine ⟨h_1, ?_⟩
              exact p_spec_FairTeams_pv ff trivial
            rw [if_neg c77] at h_1
            have dc77 := decide_eq_false c77
            by_cases c78 : v75 < least_35
            case neg =>
             rw [if_neg c78] at h_1
             have dc78 := decide_eq_false c78
             have ff := And.intro @dc3 (And.intro @dc59 (And.intro @g0_2a (And.intro @g1_2a (And.intro @g2_2a (And.intro @g3_2a (And.intro @g4_2a (And.intro @g5_2a (And.intro @g6_2a (And.intro @dc76 (And.intro @dc77 (And.intro @dc78 p_spec_FairTeams_tf.down)))))))))))
             try refine st_by ff ?_
             repeat' (first | exact trivial | refine And.intro sd ?_)
             refine Back.intro (n_1, best_34, least_35, (IntKind.i64.wrap (mask_36 - 1))) ?_ ?_
             · rw [hM_1]; exact Nat.lt_succ_self _
             rw [hI_1]
             refine ⟨h_1, ?_⟩
             exact p_spec_FairTeams_pv ff trivial
            rw [if_pos c78] at h_1
            have dc78 := decide_eq_true c78
            have ff := And.intro @dc3 (And.intro @dc59 (And.intro @g0_2a (And.intro @g1_2a (And.intro @g2_2a (And.intro @g3_2a (And.intro @g4_2a (And.intro @g5_2a (And.intro @g6_2a (And.intro @dc76 (And.intro @dc77 (And.intro @dc78 p_spec_FairTeams_tf.down)))))))))))
            try refine st_by ff ?_
            repeat' (first | exact trivial | refine And.intro sd ?_)
            refine Back.intro (n_1, mask_36, v75, (IntKind.i64.wrap (mask_36 - 1))) ?_ ?_
            · rw [hM_1]; exact Nat.lt_succ_self _
            rw [hI_1]
            refine ⟨h_1, ?_⟩
            exact p_spec_FairTeams_pv ff trivial
      · try clear ff
        rintro σ hg_1
        rw [hJ_1] at hg_1
        obtain ⟨best_34, least_35, mask_36, hj_1, g0_1a, g1_1a⟩ := hg_1
        cases hj_1
        try dsimp only at h
        obtain ⟨m79, em79, h⟩ := Option.bind_eq_some_iff.1 h
        try dsimp only at h
        obtain ⟨f80b, f80c, f80d⟩ := mkl_ok em79
        have f80a : nilRs [some 1, none] (2 : Int).toNat ((zCells [.slice none 0 0, .int .i64 0] (2 : Int).toNat).map AV.lit) = esTeamo m79 := mkl_encO (enc := eTeamo) (by decide) rfl rfl em79
        have hL_3 : l_a0.length ≤ 9223372036854775807 := by first | assumption | omega
        obtain ⟨q_3, eq_3, h⟩ := Option.bind_eq_some_iff.1 h
        have ff := And.intro @dc3 (And.intro @g0_1a (And.intro @g1_1a (And.intro @f80a p_spec_FairTeams_tf.down)))
        try refine st_by ff ?_
        repeat' (first | exact trivial | refine And.intro sd ?_)
        obtain ⟨I_3, hI_3⟩ : ∃ I_ : (Nat × (List GTeam)) → ASt → Prop, I_ = (fun (a : Nat × (List GTeam)) σ => match a with | (i_3, out_93) => (i_3 ≤ l_a0.length ∧ p_spec_FairTeams_l3 l_a0 best_34 (l_a0.drop i_3) i_3 out_93 = some q_3) ∧ σ.t 0 = .row false 3 l_a0.length (esPlayer l_a0) ∧ σ.t 7 = I best_34 ∧ σ.t 15 = .sl 15 [] 0 out_93.length ∧ σ.t 104 = .row false 3 l_a0.length (esPlayer l_a0) ∧ σ.t 105 = I (l_a0.length : Int) ∧ σ.t 106 = I (i_3 : Int) ∧ σ.m 15 = some (.row true 2 out_93.length (esTeamo out_93))) := ⟨_, rfl⟩
        obtain ⟨M_3, hM_3⟩ : ∃ M_ : (Nat × (List GTeam)) → Nat, M_ = (fun (a : Nat × (List GTeam)) => match a with | (i_3, out_93) => l_a0.length - i_3) := ⟨_, rfl⟩
        obtain ⟨J_3, hJ_3⟩ : ∃ J_ : ASt → Prop, J_ = (fun σ => ∃ out_93 : List GTeam, (some out_93 = some q_3) ∧ σ.t 15 = .sl 15 [] 0 out_93.length ∧ σ.m 15 = some (.row true 2 out_93.length (esTeamo out_93))) := ⟨_, rfl⟩
        refine aw_loopC (id := 6) I_3 M_3 J_3 (0, m79) ?_ ?_ ?_
        · rw [hI_3]
          refine ⟨⟨Nat.zero_le _, eq_3⟩, ?_⟩
          exact p_spec_FairTeams_pv ff @f80c
        · try clear ff
          rintro ⟨i_3, out_93⟩ σ hg_3
          rw [hI_3] at hg_3
          obtain ⟨⟨hi_3, h_3⟩, g0_3, g1_3, g2_3, g3_3, g4_3, g5_3, g6_3⟩ := hg_3
          cases hr_3 : l_a0.drop i_3 with
          | nil =>
            rw [hr_3] at h_3
            rw [p_spec_FairTeams_l3] at h_3
            have hn_3 := drop_nil hr_3
            have dr_3 : decide ((i_3 : Int) < (l_a0.length : Int)) = false := decide_eq_false (by omega)
            have ff := And.intro @dc3 (And.intro @f80a (And.intro @dr_3 (And.intro @g0_3 (And.intro @g1_3 (And.intro @g2_3 (And.intro @g3_3 (And.intro @g4_3 (And.intro @g5_3 (And.intro @g6_3 p_spec_FairTeams_tf.down)))))))))
            try refine st_by ff ?_
            repeat' (first | exact trivial | refine And.intro sd ?_)
            refine JW.intro ?_
            rw [hJ_3]
            refine ⟨out_93, h_3, ?_⟩
            exact p_spec_FairTeams_pv ff @f80c
          | cons x_3 r_3 =>
            rw [hr_3] at h_3
            rw [p_spec_FairTeams_l3] at h_3
            obtain ⟨ht_3, hg_3, hd_3⟩ := drop_cons hr_3
            have dr_3 : decide ((i_3 : Int) < (l_a0.length : Int)) = true := decide_eq_true (by omega)
            have w_3 : IntKind.i64.wrap ((i_3 : Int) + 1) = ((i_3 + 1 : Nat) : Int) := wI _ (by omega) (by omega)
            have kk3c : (esPlayer l_a0).drop (i_3 * 3) = ePlayer x_3 ++ esPlayer (l_a0.drop (i_3 + 1)) := drop_enc (fun _ => rfl) (hg_3)
            by_cases c105 : 0 ≤ (IntKind.u64.wrap (IntKind.i64.wrap ((IntKind.i64.wrap ((l_a0.length : Int) - 1)) - (i_3 : Int))))
            case neg => rw [if_neg c105] at h_3; cases h_3
            rw [if_pos c105] at h_3
            obtain ⟨x106, ex106, h_3⟩ := Option.bind_eq_some_iff.1 h_3
            try dsimp only at h_3
            have f107a := idx_lo ex106
            have f107b := idx_hi ex106
            have f107c : (esTeamo out_93).drop (((IntKind.i64.wrap (1 - (IntKind.i64.wrap (((BitVec.ofInt (IntKind.i64.bits) (Int.fdiv best_34 (2 ^ (min (IntKind.u64.wrap (IntKind.i64.wrap ((IntKind.i64.wrap ((l_a0.length : Int) - 1)) - (i_3 : Int)))).toNat IntKind.i64.bits)))) &&& (BitVec.ofInt (IntKind.i64.bits) 1)).toNat : Int)))).toNat) * 2) = eTeamo x106 ++ esTeamo (out_93.drop ((IntKind.i64.wrap (1 - (IntKind.i64.wrap (((BitVec.ofInt (IntKind.i64.bits) (Int.fdiv best_34 (2 ^ (min (IntKind.u64.wrap (IntKind.i64.wrap ((IntKind.i64.wrap ((l_a0.length : Int) - 1)) - (i_3 : Int)))).toNat IntKind.i64.bits)))) &&& (BitVec.ofInt (IntKind.i64.bits) 1)).toNat : Int)))).toNat + 1)) := drop_enc (fun _ => rfl) (idx_get ex106)
            have f107g0 : (esTeamo out_93).getD (((IntKind.i64.wrap (1 - (IntKind.i64.wrap (((BitVec.ofInt (IntKind.i64.bits) (Int.fdiv best_34 (2 ^ (min (IntKind.u64.wrap (IntKind.i64.wrap ((IntKind.i64.wrap ((l_a0.length : Int) - 1)) - (i_3 : Int)))).toNat IntKind.i64.bits)))) &&& (BitVec.ofInt (IntKind.i64.bits) 1)).toNat : Int)))).toNat) * 2) .junk = (eTeamo x106).getD 0 .junk := getD_enc0 (enc := eTeamo) (sz := 2) (fun _ => rfl) (idx_get ex106) (by decide)
            have f107g1 : (esTeamo out_93).getD (((IntKind.i64.wrap (1 - (IntKind.i64.wrap (((BitVec.ofInt (IntKind.i64.bits) (Int.fdiv best_34 (2 ^ (min (IntKind.u64.wrap (IntKind.i64.wrap ((IntKind.i64.wrap ((l_a0.length : Int) - 1)) - (i_3 : Int)))).toNat IntKind.i64.bits)))) &&& (BitVec.ofInt (IntKind.i64.bits) 1)).toNat : Int)))).toNat) * 2 + 1) .junk = (eTeamo x106).getD 1 .junk := getD_enc (enc := eTeamo) (sz := 2) (fun _ => rfl) (idx_get ex106) (by decide)
            have f107h0 : (esTeamo out_93)[((IntKind.i64.wrap (1 - (IntKind.i64.wrap (((BitVec.ofInt (IntKind.i64.bits) (Int.fdiv best_34 (2 ^ (min (IntKind.u64.wrap (IntKind.i64.wrap ((IntKind.i64.wrap ((l_a0.length : Int) - 1)) - (i_3 : Int)))).toNat IntKind.i64.bits)))) &&& (BitVec.ofInt (IntKind.i64.bits) 1)).toNat : Int)))).toNat) * 2]? = some (.row true 1 x106.Names.length (esStr x106.Names)) := get_enc0 (enc := eTeamo) (sz := 2) (fun _ => rfl) (idx_get ex106) (by decide)
            by_cases c108 : x106.Names.length < 4294967296
            case neg => rw [if_neg c108] at h_3; cases h_3
            rw [if_pos c108] at h_3
            have a109a : esStr x106.Names ++ [S x_3.Name] = esStr (x106.Names ++ [x_3.Name]) := by simp [esStr_app, esStr_cons, esStr_nil, eStr_eq, esStr_nil, esPlayer_nil, esTeam_nil]
            have a109b : x106.Names.length + 1 = (x106.Names ++ [x_3.Name]).length := by simp
            have w110l : ((IntKind.i64.wrap (1 - (IntKind.i64.wrap (((BitVec.ofInt (IntKind.i64.bits) (Int.fdiv best_34 (2 ^ (min (IntKind.u64.wrap (IntKind.i64.wrap ((IntKind.i64.wrap ((l_a0.length : Int) - 1)) - (i_3 : Int)))).toNat IntKind.i64.bits)))) &&& (BitVec.ofInt (IntKind.i64.bits) 1)).toNat : Int)))).toNat) < out_93.length := (List.getElem?_eq_some_iff.1 (idx_get ex106)).1
            have w110a : setL ((esTeamo out_93).set (((IntKind.i64.wrap (1 - (IntKind.i64.wrap (((BitVec.ofInt (IntKind.i64.bits) (Int.fdiv best_34 (2 ^ (min (IntKind.u64.wrap (IntKind.i64.wrap ((IntKind.i64.wrap ((l_a0.length : Int) - 1)) - (i_3 : Int)))).toNat IntKind.i64.bits)))) &&& (BitVec.ofInt (IntKind.i64.bits) 1)).toNat : Int)))).toNat) * 2) .junk) (((IntKind.i64.wrap (1 - (IntKind.i64.wrap (((BitVec.ofInt (IntKind.i64.bits) (Int.fdiv best_34 (2 ^ (min (IntKind.u64.wrap (IntKind.i64.wrap ((IntKind.i64.wrap ((l_a0.length : Int) - 1)) - (i_3 : Int)))).toNat IntKind.i64.bits)))) &&& (BitVec.ofInt (IntKind.i64.bits) 1)).toNat : Int)))).toNat) * 2) [.row true 1 (x106.Names ++ [x_3.Name]).length (esStr (x106.Names ++ [x_3.Name]))] = esTeamo (out_93.set ((IntKind.i64.wrap (1 - (IntKind.i64.wrap (((BitVec.ofInt (IntKind.i64.bits) (Int.fdiv best_34 (2 ^ (min (IntKind.u64.wrap (IntKind.i64.wrap ((IntKind.i64.wrap ((l_a0.length : Int) - 1)) - (i_3 : Int)))).toNat IntKind.i64.bits)))) &&& (BitVec.ofInt (IntKind.i64.bits) 1)).toNat : Int)))).toNat) (⟨(x106.Names ++ [x_3.Name]), x106.Sum⟩ : GTeam)) := setL_hole0 (enc := eTeamo) (sz := 2) (fun _ => rfl) (idx_get ex106) (by decide) rfl
            have w110n : (esTeamo out_93).length = out_93.length * 2 := esTeamo_len _
            have w110e : ¬ esTeamo out_93 = [] := fun e_ => by have h_ := congrArg List.length e_; rw [w110n] at h_; simp only [List.length_nil] at h_; omega
            have w110u := w110a; simp only [setL, List.length_cons, List.length_nil, Nat.zero_add, List.cons_append, List.nil_append] at w110u
            have w110b : (out_93.set ((IntKind.i64.wrap (1 - (IntKind.i64.wrap (((BitVec.ofInt (IntKind.i64.bits) (Int.fdiv best_34 (2 ^ (min (IntKind.u64.wrap (IntKind.i64.wrap ((IntKind.i64.wrap ((l_a0.length : Int) - 1)) - (i_3 : Int)))).toNat IntKind.i64.bits)))) &&& (BitVec.ofInt (IntKind.i64.bits) 1)).toNat : Int)))).toNat) (⟨(x106.Names ++ [x_3.Name]), x106.Sum⟩ : GTeam)).length = out_93.length := List.length_set
            have f111c : (esTeamo (out_93.set ((IntKind.i64.wrap (1 - (IntKind.i64.wrap (((BitVec.ofInt (IntKind.i64.bits) (Int.fdiv best_34 (2 ^ (min (IntKind.u64.wrap (IntKind.i64.wrap ((IntKind.i64.wrap ((l_a0.length : Int) - 1)) - (i_3 : Int)))).toNat IntKind.i64.bits)))) &&& (BitVec.ofInt (IntKind.i64.bits) 1)).toNat : Int)))).toNat) (⟨(x106.Names ++ [x_3.Name]), x106.Sum⟩ : GTeam))).drop (((IntKind.i64.wrap (1 - (IntKind.i64.wrap (((BitVec.ofInt (IntKind.i64.bits) (Int.fdiv best_34 (2 ^ (min (IntKind.u64.wrap (IntKind.i64.wrap ((IntKind.i64.wrap ((l_a0.length : Int) - 1)) - (i_3 : Int)))).toNat IntKind.i64.bits)))) &&& (BitVec.ofInt (IntKind.i64.bits) 1)).toNat : Int)))).toNat) * 2) = eTeamo (⟨(x106.Names ++ [x_3.Name]), x106.Sum⟩ : GTeam) ++ esTeamo ((out_93.set ((IntKind.i64.wrap (1 - (IntKind.i64.wrap (((BitVec.ofInt (IntKind.i64.bits) (Int.fdiv best_34 (2 ^ (min (IntKind.u64.wrap (IntKind.i64.wrap ((IntKind.i64.wrap ((l_a0.length : Int) - 1)) - (i_3 : Int)))).toNat IntKind.i64.bits)))) &&& (BitVec.ofInt (IntKind.i64.bits) 1)).toNat : Int)))).toNat) (⟨(x106.Names ++ [x_3.Name]), x106.Sum⟩ : GTeam)).drop ((IntKind.i64.wrap (1 - (IntKind.i64.wrap (((BitVec.ofInt (IntKind.i64.bits) (Int.fdiv best_34 (2 ^ (min (IntKind.u64.wrap (IntKind.i64.wrap ((IntKind.i64.wrap ((l_a0.length : Int) - 1)) - (i_3 : Int)))).toNat IntKind.i64.bits)))) &&& (BitVec.ofInt (IntKind.i64.bits) 1)).toNat : Int)))).toNat + 1)) := drop_enc (fun _ => rfl) (List.getElem?_set_self w110l)
            have f111g0 : (esTeamo (out_93.set ((IntKind.i64.wrap (1 - (IntKind.i64.wrap (((BitVec.ofInt (IntKind.i64.bits) (Int.fdiv best_34 (2 ^ (min (IntKind.u64.wrap (IntKind.i64.wrap ((IntKind.i64.wrap ((l_a0.length : Int) - 1)) - (i_3 : Int)))).toNat IntKind.i64.bits)))) &&& (BitVec.ofInt (IntKind.i64.bits) 1)).toNat : Int)))).toNat) (⟨(x106.Names ++ [x_3.Name]), x106.Sum⟩ : GTeam))).getD (((IntKind.i64.wrap (1 - (IntKind.i64.wrap (((BitVec.ofInt (IntKind.i64.bits) (Int.fdiv best_34 (2 ^ (min (IntKind.u64.wrap (IntKind.i64.wrap ((IntKind.i64.wrap ((l_a0.length : Int) - 1)) - (i_3 : Int)))).toNat IntKind.i64.bits)))) &&& (BitVec.ofInt (IntKind.i64.bits) 1)).toNat : Int)))).toNat) * 2) .junk = (eTeamo (⟨(x106.Names ++ [x_3.Name]), x106.Sum⟩ : GTeam)).getD 0 .junk := getD_enc0 (enc := eTeamo) (sz := 2) (fun _ => rfl) (List.getElem?_set_self w110l) (by decide)
            have f111g1 : (esTeamo (out_93.set ((IntKind.i64.wrap (1 - (IntKind.i64.wrap (((BitVec.ofInt (IntKind.i64.bits) (Int.fdiv best_34 (2 ^ (min (IntKind.u64.wrap (IntKind.i64.wrap ((IntKind.i64.wrap ((l_a0.length : Int) - 1)) - (i_3 : Int)))).toNat IntKind.i64.bits)))) &&& (BitVec.ofInt (IntKind.i64.bits) 1)).toNat : Int)))).toNat) (⟨(x106.Names ++ [x_3.Name]), x106.Sum⟩ : GTeam))).getD (((IntKind.i64.wrap (1 - (IntKind.i64.wrap (((BitVec.ofInt (IntKind.i64.bits) (Int.fdiv best_34 (2 ^ (min (IntKind.u64.wrap (IntKind.i64.wrap ((IntKind.i64.wrap ((l_a0.length : Int) - 1)) - (i_3 : Int)))).toNat IntKind.i64.bits)))) &&& (BitVec.ofInt (IntKind.i64.bits) 1)).toNat : Int)))).toNat) * 2 + 1) .junk = (eTeamo (⟨(x106.Names ++ [x_3.Name]), x106.Sum⟩ : GTeam)).getD 1 .junk := getD_enc (enc := eTeamo) (sz := 2) (fun _ => rfl) (List.getElem?_set_self w110l) (by decide)
            have f111h0 : (esTeamo (out_93.set ((IntKind.i64.wrap (1 - (IntKind.i64.wrap (((BitVec.ofInt (IntKind.i64.bits) (Int.fdiv best_34 (2 ^ (min (IntKind.u64.wrap (IntKind.i64.wrap ((IntKind.i64.wrap ((l_a0.length : Int) - 1)) - (i_3 : Int)))).toNat IntKind.i64.bits)))) &&& (BitVec.ofInt (IntKind.i64.bits) 1)).toNat : Int)))).toNat) (⟨(x106.Names ++ [x_3.Name]), x106.Sum⟩ : GTeam)))[((IntKind.i64.wrap (1 - (IntKind.i64.wrap (((BitVec.ofInt (IntKind.i64.bits) (Int.fdiv best_34 (2 ^ (min (IntKind.u64.wrap (IntKind.i64.wrap ((IntKind.i64.wrap ((l_a0.length : Int) - 1)) - (i_3 : Int)))).toNat IntKind.i64.bits)))) &&& (BitVec.ofInt (IntKind.i64.bits) 1)).toNat : Int)))).toNat) * 2]? = some (.row true 1 ((⟨(x106.Names ++ [x_3.Name]), x106.Sum⟩ : GTeam).Names).length (esStr ((⟨(x106.Names ++ [x_3.Name]), x106.Sum⟩ : GTeam).Names))) := get_enc0 (enc := eTeamo) (sz := 2) (fun _ => rfl) (List.getElem?_set_self w110l) (by decide)
            have w112l : (IntKind.i64.wrap (1 - (IntKind.i64.wrap (((BitVec.ofInt (IntKind.i64.bits) (Int.fdiv best_34 (2 ^ (min (IntKind.u64.wrap (IntKind.i64.wrap ((IntKind.i64.wrap ((l_a0.length : Int) - 1)) - (i_3 : Int)))).toNat IntKind.i64.bits)))) &&& (BitVec.ofInt (IntKind.i64.bits) 1)).toNat : Int)))).toNat < (out_93.set ((IntKind.i64.wrap (1 - (IntKind.i64.wrap (((BitVec.ofInt (IntKind.i64.bits) (Int.fdiv best_34 (2 ^ (min (IntKind.u64.wrap (IntKind.i64.wrap ((IntKind.i64.wrap ((l_a0.length : Int) - 1)) - (i_3 : Int)))).toNat IntKind.i64.bits)))) &&& (BitVec.ofInt (IntKind.i64.bits) 1)).toNat : Int)))).toNat) (⟨(x106.Names ++ [x_3.Name]), x106.Sum⟩ : GTeam)).length := (List.getElem?_eq_some_iff.1 (List.getElem?_set_self w110l)).1
            have w112a : (esTeamo (out_93.set ((IntKind.i64.wrap (1 - (IntKind.i64.wrap (((BitVec.ofInt (IntKind.i64.bits) (Int.fdiv best_34 (2 ^ (min (IntKind.u64.wrap (IntKind.i64.wrap ((IntKind.i64.wrap ((l_a0.length : Int) - 1)) - (i_3 : Int)))).toNat IntKind.i64.bits)))) &&& (BitVec.ofInt (IntKind.i64.bits) 1)).toNat : Int)))).toNat) (⟨(x106.Names ++ [x_3.Name]), x106.Sum⟩ : GTeam))).set (((IntKind.i64.wrap (1 - (IntKind.i64.wrap (((BitVec.ofInt (IntKind.i64.bits) (Int.fdiv best_34 (2 ^ (min (IntKind.u64.wrap (IntKind.i64.wrap ((IntKind.i64.wrap ((l_a0.length : Int) - 1)) - (i_3 : Int)))).toNat IntKind.i64.bits)))) &&& (BitVec.ofInt (IntKind.i64.bits) 1)).toNat : Int)))).toNat) * 2 + 1) (I (IntKind.i64.wrap (((⟨(x106.Names ++ [x_3.Name]), x106.Sum⟩ : GTeam).Sum) + x_3.Rating))) = esTeamo ((out_93.set ((IntKind.i64.wrap (1 - (IntKind.i64.wrap (((BitVec.ofInt (IntKind.i64.bits) (Int.fdiv best_34 (2 ^ (min (IntKind.u64.wrap (IntKind.i64.wrap ((IntKind.i64.wrap ((l_a0.length : Int) - 1)) - (i_3 : Int)))).toNat IntKind.i64.bits)))) &&& (BitVec.ofInt (IntKind.i64.bits) 1)).toNat : Int)))).toNat) (⟨(x106.Names ++ [x_3.Name]), x106.Sum⟩ : GTeam)).set ((IntKind.i64.wrap (1 - (IntKind.i64.wrap (((BitVec.ofInt (IntKind.i64.bits) (Int.fdiv best_34 (2 ^ (min (IntKind.u64.wrap (IntKind.i64.wrap ((IntKind.i64.wrap ((l_a0.length : Int) - 1)) - (i_3 : Int)))).toNat IntKind.i64.bits)))) &&& (BitVec.ofInt (IntKind.i64.bits) 1)).toNat : Int)))).toNat) (⟨(⟨(x106.Names ++ [x_3.Name]), x106.Sum⟩ : GTeam).Names, (IntKind.i64.wrap (((⟨(x106.Names ++ [x_3.Name]), x106.Sum⟩ : GTeam).Sum) + x_3.Rating))⟩ : GTeam)) := set_enc (enc := eTeamo) (sz := 2) (fun _ => rfl) (List.getElem?_set_self w110l) (by decide) rfl
            have w112b : ((out_93.set ((IntKind.i64.wrap (1 - (IntKind.i64.wrap (((BitVec.ofInt (IntKind.i64.bits) (Int.fdiv best_34 (2 ^ (min (IntKind.u64.wrap (IntKind.i64.wrap ((IntKind.i64.wrap ((l_a0.length : Int) - 1)) - (i_3 : Int)))).toNat IntKind.i64.bits)))) &&& (BitVec.ofInt (IntKind.i64.bits) 1)).toNat : Int)))).toNat) (⟨(x106.Names ++ [x_3.Name]), x106.Sum⟩ : GTeam)).set ((IntKind.i64.wrap (1 - (IntKind.i64.wrap (((BitVec.ofInt (IntKind.i64.bits) (Int.fdiv best_34 (2 ^ (min (IntKind.u64.wrap (IntKind.i64.wrap ((IntKind.i64.wrap ((l_a0.length : Int) - 1)) - (i_3 : Int)))).toNat IntKind.i64.bits)))) &&& (BitVec.ofInt (IntKind.i64.bits) 1)).toNat : Int)))).toNat) (⟨(⟨(x106.Names ++ [x_3.Name]), x106.Sum⟩ : GTeam).Names, (IntKind.i64.wrap (((⟨(x106.Names ++ [x_3.Name]), x106.Sum⟩ : GTeam).Sum) + x_3.Rating))⟩ : GTeam)).length = (out_93.set ((IntKind.i64.wrap (1 - (IntKind.i64.wrap (((BitVec.ofInt (IntKind.i64.bits) (Int.fdiv best_34 (2 ^ (min (IntKind.u64.wrap (IntKind.i64.wrap ((IntKind.i64.wrap ((l_a0.length : Int) - 1)) - (i_3 : Int)))).toNat IntKind.i64.bits)))) &&& (BitVec.ofInt (IntKind.i64.bits) 1)).toNat : Int)))).toNat) (⟨(x106.Names ++ [x_3.Name]), x106.Sum⟩ : GTeam)).length := List.length_set
            have ff := And.intro @dc3 (And.intro @f80a (And.intro @dr_3 (And.intro @w_3 (And.intro @g0_3 (And.intro @g1_3 (And.intro @g2_3 (And.intro @g3_3 (And.intro @g4_3 (And.intro @g5_3 (And.intro @g6_3 (And.intro @kk3c (And.intro @f107c (And.intro @f107g0 (And.intro @f107g1 (And.intro @f107h0 (And.intro @a109a (And.intro @a109b (And.intro @w110u (And.intro @w110a (And.intro @f111c (And.intro @f111g0 (And.intro @f111g1 (And.intro @f111h0 (And.intro @w112a p_spec_FairTeams_tf.down))))))))))))))))))))))))
            try refine st_by ff ?_
            repeat' (first | exact trivial | refine And.intro sd ?_ | (refine aw_drawnX (id := 32) ?_ [[], [], [], [], [2, 3], [2, 3, 4], [2, 3, 4, 5], [], [7], [7, 8], [2, 3, 4, 5, 6, 7, 8, 9], [0, 1, 2, 3, 4, 5, 6, 7, 8, 9, 10], [0, 1, 2, 3, 4, 5, 6, 7, 8, 9, 10, 11], [0, 1, 2, 3, 4, 5, 6, 7, 8, 9, 10, 11, 12]] 11 10 [] ?_ ?_; (· kernel_rfl); (· kernel_rfl); refine st_by ff ?_) | (refine aw_drawn (id := 33) ?_ [[], [], [0, 1], [0, 1, 2], [0, 1, 2, 3], [], [5], [0, 1, 2, 3, 4, 5, 6], [0, 1, 2, 3, 4, 5, 6, 7], [0, 1, 2, 3, 4, 5, 6, 7, 8], [0, 1, 2, 3, 4, 5, 6, 7, 8, 9]] 7 ?_ ?_; (· kernel_rfl); (· kernel_rfl); refine st_by ff ?_))
            refine Back.intro (i_3 + 1, ((out_93.set ((IntKind.i64.wrap (1 - (IntKind.i64.wrap (((BitVec.ofInt (IntKind.i64.bits) (Int.fdiv best_34 (2 ^ (min (IntKind.u64.wrap (IntKind.i64.wrap ((IntKind.i64.wrap ((l_a0.length : Int) - 1)) - (i_3 : Int)))).toNat IntKind.i64.bits)))) &&& (BitVec.ofInt (IntKind.i64.bits) 1)).toNat : Int)))).toNat) (⟨(x106.Names ++ [x_3.Name]), x106.Sum⟩ : GTeam)).set ((IntKind.i64.wrap (1 - (IntKind.i64.wrap (((BitVec.ofInt (IntKind.i64.bits) (Int.fdiv best_34 (2 ^ (min (IntKind.u64.wrap (IntKind.i64.wrap ((IntKind.i64.wrap ((l_a0.length : Int) - 1)) - (i_3 : Int)))).toNat IntKind.i64.bits)))) &&& (BitVec.ofInt (IntKind.i64.bits) 1)).toNat : Int)))).toNat) (⟨(⟨(x106.Names ++ [x_3.Name]), x106.Sum⟩ : GTeam).Names, (IntKind.i64.wrap (((⟨(x106.Names ++ [x_3.Name]), x106.Sum⟩ : GTeam).Sum) + x_3.Rating))⟩ : GTeam))) ?_ ?_
            · clear ff; rw [hM_3]; show l_a0.length - (i_3 + 1) < l_a0.length - i_3; omega
            rw [hI_3]
            refine ⟨⟨by clear ff; show i_3 + 1 ≤ l_a0.length; omega, by show p_spec_FairTeams_l3 l_a0 best_34 (l_a0.drop (i_3 + 1)) (i_3 + 1) ((out_93.set ((IntKind.i64.wrap (1 - (IntKind.i64.wrap (((BitVec.ofInt (IntKind.i64.bits) (Int.fdiv best_34 (2 ^ (min (IntKind.u64.wrap (IntKind.i64.wrap ((IntKind.i64.wrap ((l_a0.length : Int) - 1)) - (i_3 : Int)))).toNat IntKind.i64.bits)))) &&& (BitVec.ofInt (IntKind.i64.bits) 1)).toNat : Int)))).toNat) (⟨(x106.Names ++ [x_3.Name]), x106.Sum⟩ : GTeam)).set ((IntKind.i64.wrap (1 - (IntKind.i64.wrap (((BitVec.ofInt (IntKind.i64.bits) (Int.fdiv best_34 (2 ^ (min (IntKind.u64.wrap (IntKind.i64.wrap ((IntKind.i64.wrap ((l_a0.length : Int) - 1)) - (i_3 : Int)))).toNat IntKind.i64.bits)))) &&& (BitVec.ofInt (IntKind.i64.bits) 1)).toNat : Int)))).toNat) (⟨(⟨(x106.Names ++ [x_3.Name]), x106.Sum⟩ : GTeam).Names, (IntKind.i64.wrap (((⟨(x106.Names ++ [x_3.Name]), x106.Sum⟩ : GTeam).Sum) + x_3.Rating))⟩ : GTeam)) = some q_3; rw [hd_3]; exact h_3⟩, ?_⟩
            exact p_spec_FairTeams_pv ff @f80c
        · try clear ff
          rintro σ hg_3
          rw [hJ_3] at hg_3
          obtain ⟨out_93, hj_3, g0_3a, g1_3a⟩ := hg_3
          have hjj_3 := Option.some.inj hj_3
          subst hjj_3
          try dsimp only at h
          have ff := And.intro @dc3 (And.intro @f80a (And.intro @g0_3a (And.intro @g1_3a p_spec_FairTeams_tf.down)))
          try refine st_by ff ?_
          repeat' (first | exact trivial | refine And.intro sd ?_)
          cases h
          exact ret_q2 rfl (p_spec_FairTeams_rt ff @f80c)
  have hrt_0 := fun σ : ASt => congrFun (congrFun hk_0.symm AX.rt) σ
  have hex_0 := fun (i : Nat) (σ : ASt) => congrFun (congrFun hk_0.symm (AX.ex i)) σ
  by_cases c113 : v1 = true
  case neg =>
   rw [if_neg c113] at h
   have dc113 := eq_false_of_ne_true c113
   have ff := And.intro @hrt_0 (And.intro @hex_0 (And.intro @dc113 p_spec_FairTeams_tf.down))
   try refine st_by ff ?_
   repeat' (first | exact trivial | refine And.intro sd ?_)
   refine key_0 _ ?_
   refine ⟨true, h, ?_⟩
   exact p_spec_FairTeams_pv ff trivial
  rw [if_pos c113] at h
  have dc113 := c113
  by_cases c114 : (l_a0.length : Int) < 2
  case neg =>
   rw [if_neg c114] at h
   have dc114 := decide_eq_false c114
   have ff := And.intro @hrt_0 (And.intro @hex_0 (And.intro @dc113 (And.intro @dc114 p_spec_FairTeams_tf.down)))
   try refine st_by ff ?_
   repeat' (first | exact trivial | refine And.intro sd ?_)
   refine key_0 _ ?_
   refine ⟨((Int.tmod (l_a0.length : Int) 2) == 1), h, ?_⟩
   exact p_spec_FairTeams_pv ff trivial
  rw [if_pos c114] at h
  have dc114 := decide_eq_true c114
  have ff := And.intro @hrt_0 (And.intro @hex_0 (And.intro @dc113 (And.intro @dc114 p_spec_FairTeams_tf.down)))
  try refine st_by ff ?_
  repeat' (first | exact trivial | refine And.intro sd ?_)
  refine key_0 _ ?_
  refine ⟨true, h, ?_⟩
  exact p_spec_FairTeams_pv ff trivial
/-! math/bits.OnesCount64 -/
theorem p_math_bits_OnesCount64_pv {F C A : Prop} (hF : F) (hC : C) (h : F → C → A := by intro hF hC; first | exact cl_by hF | (refine st_by hF ?_; (repeat' (first | exact trivial | apply And.intro)); all_goals (clear hF; first | rfl | (simp only [hC, List.length_append, List.length_cons, List.length_nil, List.append_nil, List.nil_append, List.cons_append, List.length_set, List.append_assoc, Nat.zero_add, List.length_replicate]; done) | (simp [hC, List.length_append, List.length_cons, List.length_nil, List.append_nil, List.nil_append, List.cons_append, List.length_set, List.append_assoc, Nat.zero_add, List.length_replicate]; done) | omega))) : A := h hF hC
theorem p_math_bits_OnesCount64_sa {F C A : Prop} (hF : F) (hC : C) (h : F → C → A := by intro hF hC; first | exact ca_by hF | (refine sa_by hF ?_; (repeat' (first | exact trivial | apply And.intro)); all_goals (clear hF; first | rfl | (simp only [hC, List.length_append, List.length_cons, List.length_nil, List.append_nil, List.nil_append, List.cons_append, List.length_set, List.append_assoc, Nat.zero_add, List.length_replicate]; done) | (simp [hC, List.length_append, List.length_cons, List.length_nil, List.append_nil, List.nil_append, List.cons_append, List.length_set, List.append_assoc, Nat.zero_add, List.length_replicate]; done) | omega))) : A := h hF hC
theorem p_math_bits_OnesCount64_rt {F C A : Prop} (hF : F) (hC : C) (h : F → C → A := by intro hF hC; first | (refine sr_by hF ?_; (repeat' (first | exact trivial | apply And.intro)); all_goals (clear hF; first | rfl | (simp only [hC, List.length_append, List.length_cons, List.length_nil, List.append_nil, List.nil_append, List.cons_append, List.length_set, List.append_assoc, Nat.zero_add, List.length_replicate]; done) | (simp [hC, List.length_append, List.length_cons, List.length_nil, List.append_nil, List.nil_append, List.cons_append, List.length_set, List.append_assoc, Nat.zero_add, List.length_replicate]; done) | omega)) | (first | rfl | (simp only [hC, List.length_append, List.length_cons, List.length_nil, List.append_nil, List.nil_append, List.cons_append, List.length_set, List.append_assoc, Nat.zero_add, List.length_replicate]; done) | (simp [hC, List.length_append, List.length_cons, List.length_nil, List.append_nil, List.nil_append, List.cons_append, List.length_set, List.append_assoc, Nat.zero_add, List.length_replicate]; done) | omega)) : A := h hF hC
def p_math_bits_OnesCount64_tf := PLift.up (And.intro @str_beq (And.intro @Ty.int68 (And.intro @Ty.int3 @trivial)))
def p_math_bits_OnesCount64 (x_a0 : Int) : Option (Int) := some (IntKind.i64.wrap (((BitVec.ofInt (IntKind.i64.bits) (IntKind.i64.wrap (IntKind.u64.wrap ((IntKind.u64.wrap ((IntKind.u64.wrap ((IntKind.u64.wrap (((BitVec.ofInt (IntKind.u64.bits) (IntKind.u64.wrap ((Int.fdiv (IntKind.u64.wrap ((IntKind.u64.wrap (((BitVec.ofInt (IntKind.u64.bits) (Int.fdiv (IntKind.u64.wrap ((IntKind.u64.wrap (((BitVec.ofInt (IntKind.u64.bits) (Int.fdiv x_a0 (2 ^ (min (1 : Int).toNat IntKind.u64.bits)))) &&& (BitVec.ofInt (IntKind.u64.bits) 6148914691236517205)).toNat : Int)) + (IntKind.u64.wrap (((BitVec.ofInt (IntKind.u64.bits) x_a0) &&& (BitVec.ofInt (IntKind.u64.bits) 6148914691236517205)).toNat : Int)))) (2 ^ (min (2 : Int).toNat IntKind.u64.bits)))) &&& (BitVec.ofInt (IntKind.u64.bits) 3689348814741910323)).toNat : Int)) + (IntKind.u64.wrap (((BitVec.ofInt (IntKind.u64.bits) (IntKind.u64.wrap ((IntKind.u64.wrap (((BitVec.ofInt (IntKind.u64.bits) (Int.fdiv x_a0 (2 ^ (min (1 : Int).toNat IntKind.u64.bits)))) &&& (BitVec.ofInt (IntKind.u64.bits) 6148914691236517205)).toNat : Int)) + (IntKind.u64.wrap (((BitVec.ofInt (IntKind.u64.bits) x_a0) &&& (BitVec.ofInt (IntKind.u64.bits) 6148914691236517205)).toNat : Int))))) &&& (BitVec.ofInt (IntKind.u64.bits) 3689348814741910323)).toNat : Int)))) (2 ^ (min (4 : Int).toNat IntKind.u64.bits))) + (IntKind.u64.wrap ((IntKind.u64.wrap (((BitVec.ofInt (IntKind.u64.bits) (Int.fdiv (IntKind.u64.wrap ((IntKind.u64.wrap (((BitVec.ofInt (IntKind.u64.bits) (Int.fdiv x_a0 (2 ^ (min (1 : Int).toNat IntKind.u64.bits)))) &&& (BitVec.ofInt (IntKind.u64.bits) 6148914691236517205)).toNat : Int)) + (IntKind.u64.wrap (((BitVec.ofInt (IntKind.u64.bits) x_a0) &&& (BitVec.ofInt (IntKind.u64.bits) 6148914691236517205)).toNat : Int)))) (2 ^ (min (2 : Int).toNat IntKind.u64.bits)))) &&& (BitVec.ofInt (IntKind.u64.bits) 3689348814741910323)).toNat : Int)) + (IntKind.u64.wrap (((BitVec.ofInt (IntKind.u64.bits) (IntKind.u64.wrap ((IntKind.u64.wrap (((BitVec.ofInt (IntKind.u64.bits) (Int.fdiv x_a0 (2 ^ (min (1 : Int).toNat IntKind.u64.bits)))) &&& (BitVec.ofInt (IntKind.u64.bits) 6148914691236517205)).toNat : Int)) + (IntKind.u64.wrap (((BitVec.ofInt (IntKind.u64.bits) x_a0) &&& (BitVec.ofInt (IntKind.u64.bits) 6148914691236517205)).toNat : Int))))) &&& (BitVec.ofInt (IntKind.u64.bits) 3689348814741910323)).toNat : Int))))))) &&& (BitVec.ofInt (IntKind.u64.bits) 1085102592571150095)).toNat : Int)) + (Int.fdiv (IntKind.u64.wrap (((BitVec.ofInt (IntKind.u64.bits) (IntKind.u64.wrap ((Int.fdiv (IntKind.u64.wrap ((IntKind.u64.wrap (((BitVec.ofInt (IntKind.u64.bits) (Int.fdiv (IntKind.u64.wrap ((IntKind.u64.wrap (((BitVec.ofInt (IntKind.u64.bits) (Int.fdiv x_a0 (2 ^ (min (1 : Int).toNat IntKind.u64.bits)))) &&& (BitVec.ofInt (IntKind.u64.bits) 6148914691236517205)).toNat : Int)) + (IntKind.u64.wrap (((BitVec.ofInt (IntKind.u64.bits) x_a0) &&& (BitVec.ofInt (IntKind.u64.bits) 6148914691236517205)).toNat : Int)))) (2 ^ (min (2 : Int).toNat IntKind.u64.bits)))) &&& (BitVec.ofInt (IntKind.u64.bits) 3689348814741910323)).toNat : Int)) + (IntKind.u64.wrap (((BitVec.ofInt (IntKind.u64.bits) (IntKind.u64.wrap ((IntKind.u64.wrap (((BitVec.ofInt (IntKind.u64.bits) (Int.fdiv x_a0 (2 ^ (min (1 : Int).toNat IntKind.u64.bits)))) &&& (BitVec.ofInt (IntKind.u64.bits) 6148914691236517205)).toNat : Int)) + (IntKind.u64.wrap (((BitVec.ofInt (IntKind.u64.bits) x_a0) &&& (BitVec.ofInt (IntKind.u64.bits) 6148914691236517205)).toNat : Int))))) &&& (BitVec.ofInt (IntKind.u64.bits) 3689348814741910323)).toNat : Int)))) (2 ^ (min (4 : Int).toNat IntKind.u64.bits))) + (IntKind.u64.wrap ((IntKind.u64.wrap (((BitVec.ofInt (IntKind.u64.bits) (Int.fdiv (IntKind.u64.wrap ((IntKind.u64.wrap (((BitVec.ofInt (IntKind.u64.bits) (Int.fdiv x_a0 (2 ^ (min (1 : Int).toNat IntKind.u64.bits)))) &&& (BitVec.ofInt (IntKind.u64.bits) 6148914691236517205)).toNat : Int)) + (IntKind.u64.wrap (((BitVec.ofInt (IntKind.u64.bits) x_a0) &&& (BitVec.ofInt (IntKind.u64.bits) 6148914691236517205)).toNat : Int)))) (2 ^ (min (2 : Int).toNat IntKind.u64.bits)))) &&& (BitVec.ofInt (IntKind.u64.bits) 3689348814741910323)).toNat : Int)) + (IntKind.u64.wrap (((BitVec.ofInt (IntKind.u64.bits) (IntKind.u64.wrap ((IntKind.u64.wrap (((BitVec.ofInt (IntKind.u64.bits) (Int.fdiv x_a0 (2 ^ (min (1 : Int).toNat IntKind.u64.bits)))) &&& (BitVec.ofInt (IntKind.u64.bits) 6148914691236517205)).toNat : Int)) + (IntKind.u64.wrap (((BitVec.ofInt (IntKind.u64.bits) x_a0) &&& (BitVec.ofInt (IntKind.u64.bits) 6148914691236517205)).toNat : Int))))) &&& (BitVec.ofInt (IntKind.u64.bits) 3689348814741910323)).toNat : Int))))))) &&& (BitVec.ofInt (IntKind.u64.bits) 1085102592571150095)).toNat : Int)) (2 ^ (min (8 : Int).toNat IntKind.u64.bits))))) + (Int.fdiv (IntKind.u64.wrap ((IntKind.u64.wrap (((BitVec.ofInt (IntKind.u64.bits) (IntKind.u64.wrap ((Int.fdiv (IntKind.u64.wrap ((IntKind.u64.wrap (((BitVec.ofInt (IntKind.u64.bits) (Int.fdiv (IntKind.u64.wrap ((IntKind.u64.wrap (((BitVec.ofInt (IntKind.u64.bits) (Int.fdiv x_a0 (2 ^ (min (1 : Int).toNat IntKind.u64.bits)))) &&& (BitVec.ofInt (IntKind.u64.bits) 6148914691236517205)).toNat : Int)) + (IntKind.u64.wrap (((BitVec.ofInt (IntKind.u64.bits) x_a0) &&& (BitVec.ofInt (IntKind.u64.bits) 6148914691236517205)).toNat : Int)))) (2 ^ (min (2 : Int).toNat IntKind.u64.bits)))) &&& (BitVec.ofInt (IntKind.u64.bits) 3689348814741910323)).toNat : Int)) + (IntKind.u64.wrap (((BitVec.ofInt (IntKind.u64.bits) (IntKind.u64.wrap ((IntKind.u64.wrap (((BitVec.ofInt (IntKind.u64.bits) (Int.fdiv x_a0 (2 ^ (min (1 : Int).toNat IntKind.u64.bits)))) &&& (BitVec.ofInt (IntKind.u64.bits) 6148914691236517205)).toNat : Int)) + (IntKind.u64.wrap (((BitVec.ofInt (IntKind.u64.bits) x_a0) &&& (BitVec.ofInt (IntKind.u64.bits) 6148914691236517205)).toNat : Int))))) &&& (BitVec.ofInt (IntKind.u64.bits) 3689348814741910323)).toNat : Int)))) (2 ^ (min (4 : Int).toNat IntKind.u64.bits))) + (IntKind.u64.wrap ((IntKind.u64.wrap (((BitVec.ofInt (IntKind.u64.bits) (Int.fdiv (IntKind.u64.wrap ((IntKind.u64.wrap (((BitVec.ofInt (IntKind.u64.bits) (Int.fdiv x_a0 (2 ^ (min (1 : Int).toNat IntKind.u64.bits)))) &&& (BitVec.ofInt (IntKind.u64.bits) 6148914691236517205)).toNat : Int)) + (IntKind.u64.wrap (((BitVec.ofInt (IntKind.u64.bits) x_a0) &&& (BitVec.ofInt (IntKind.u64.bits) 6148914691236517205)).toNat : Int)))) (2 ^ (min (2 : Int).toNat IntKind.u64.bits)))) &&& (BitVec.ofInt (IntKind.u64.bits) 3689348814741910323)).toNat : Int)) + (IntKind.u64.wrap (((BitVec.ofInt (IntKind.u64.bits) (IntKind.u64.wrap ((IntKind.u64.wrap (((BitVec.ofInt (IntKind.u64.bits) (Int.fdiv x_a0 (2 ^ (min (1 : Int).toNat IntKind.u64.bits)))) &&& (BitVec.ofInt (IntKind.u64.bits) 6148914691236517205)).toNat : Int)) + (IntKind.u64.wrap (((BitVec.ofInt (IntKind.u64.bits) x_a0) &&& (BitVec.ofInt (IntKind.u64.bits) 6148914691236517205)).toNat : Int))))) &&& (BitVec.ofInt (IntKind.u64.bits) 3689348814741910323)).toNat : Int))))))) &&& (BitVec.ofInt (IntKind.u64.bits) 1085102592571150095)).toNat : Int)) + (Int.fdiv (IntKind.u64.wrap (((BitVec.ofInt (IntKind.u64.bits) (IntKind.u64.wrap ((Int.fdiv (IntKind.u64.wrap ((IntKind.u64.wrap (((BitVec.ofInt (IntKind.u64.bits) (Int.fdiv (IntKind.u64.wrap ((IntKind.u64.wrap (((BitVec.ofInt (IntKind.u64.bits) (Int.fdiv x_a0 (2 ^ (min (1 : Int).toNat IntKind.u64.bits)))) &&& (BitVec.ofInt (IntKind.u64.bits) 6148914691236517205)).toNat : Int)) + (IntKind.u64.wrap (((BitVec.ofInt (IntKind.u64.bits) x_a0) &&& (BitVec.ofInt (IntKind.u64.bits) 6148914691236517205)).toNat : Int)))) (2 ^ (min (2 : Int).toNat IntKind.u64.bits)))) &&& (BitVec.ofInt (IntKind.u64.bits) 3689348814741910323)).toNat : Int)) + (IntKind.u64.wrap (((BitVec.ofInt (IntKind.u64.bits) (IntKind.u64.wrap ((IntKind.u64.wrap (((BitVec.ofInt (IntKind.u64.bits) (Int.fdiv x_a0 (2 ^ (min (1 : Int).toNat IntKind.u64.bits)))) &&& (BitVec.ofInt (IntKind.u64.bits) 6148914691236517205)).toNat : Int)) + (IntKind.u64.wrap (((BitVec.ofInt (IntKind.u64.bits) x_a0) &&& (BitVec.ofInt (IntKind.u64.bits) 6148914691236517205)).toNat : Int))))) &&& (BitVec.ofInt (IntKind.u64.bits) 3689348814741910323)).toNat : Int)))) (2 ^ (min (4 : Int).toNat IntKind.u64.bits))) + (IntKind.u64.wrap ((IntKind.u64.wrap (((BitVec.ofInt (IntKind.u64.bits) (Int.fdiv (IntKind.u64.wrap ((IntKind.u64.wrap (((BitVec.ofInt (IntKind.u64.bits) (Int.fdiv x_a0 (2 ^ (min (1 : Int).toNat IntKind.u64.bits)))) &&& (BitVec.ofInt (IntKind.u64.bits) 6148914691236517205)).toNat : Int)) + (IntKind.u64.wrap (((BitVec.ofInt (IntKind.u64.bits) x_a0) &&& (BitVec.ofInt (IntKind.u64.bits) 6148914691236517205)).toNat : Int)))) (2 ^ (min (2 : Int).toNat IntKind.u64.bits)))) &&& (BitVec.ofInt (IntKind.u64.bits) 3689348814741910323)).toNat : Int)) + (IntKind.u64.wrap (((BitVec.ofInt (IntKind.u64.bits) (IntKind.u64.wrap ((IntKind.u64.wrap (((BitVec.ofInt (IntKind.u64.bits) (Int.fdiv x_a0 (2 ^ (min (1 : Int).toNat IntKind.u64.bits)))) &&& (BitVec.ofInt (IntKind.u64.bits) 6148914691236517205)).toNat : Int)) + (IntKind.u64.wrap (((BitVec.ofInt (IntKind.u64.bits) x_a0) &&& (BitVec.ofInt (IntKind.u64.bits) 6148914691236517205)).toNat : Int))))) &&& (BitVec.ofInt (IntKind.u64.bits) 3689348814741910323)).toNat : Int))))))) &&& (BitVec.ofInt (IntKind.u64.bits) 1085102592571150095)).toNat : Int)) (2 ^ (min (8 : Int).toNat IntKind.u64.bits))))) (2 ^ (min (16 : Int).toNat IntKind.u64.bits))))) + (Int.fdiv (IntKind.u64.wrap ((IntKind.u64.wrap ((IntKind.u64.wrap (((BitVec.ofInt (IntKind.u64.bits) (IntKind.u64.wrap ((Int.fdiv (IntKind.u64.wrap ((IntKind.u64.wrap (((BitVec.ofInt (IntKind.u64.bits) (Int.fdiv (IntKind.u64.wrap ((IntKind.u64.wrap (((BitVec.ofInt (IntKind.u64.bits) (Int.fdiv x_a0 (2 ^ (min (1 : Int).toNat IntKind.u64.bits)))) &&& (BitVec.ofInt (IntKind.u64.bits) 6148914691236517205)).toNat : Int)) + (IntKind.u64.wrap (((BitVec.ofInt (IntKind.u64.bits) x_a0) &&& (BitVec.ofInt (IntKind.u64.bits) 6148914691236517205)).toNat : Int)))) (2 ^ (min (2 : Int).toNat IntKind.u64.bits)))) &&& (BitVec.ofInt (IntKind.u64.bits) 3689348814741910323)).toNat : Int)) + (IntKind.u64.wrap (((BitVec.ofInt (IntKind.u64.bits) (IntKind.u64.wrap ((IntKind.u64.wrap (((BitVec.ofInt (IntKind.u64.bits) (Int.fdiv x_a0 (2 ^ (min (1 : Int).toNat IntKind.u64.bits)))) &&& (BitVec.ofInt (IntKind.u64.bits) 6148914691236517205)).toNat : Int)) + (IntKind.u64.wrap (((BitVec.ofInt (IntKind.u64.bits) x_a0) &&& (BitVec.ofInt (IntKind.u64.bits) 6148914691236517205)).toNat : Int))))) &&& (BitVec.ofInt (IntKind.u64.bits) 3689348814741910323)).toNat : Int)))) (2 ^ (min (4 : Int).toNat IntKind.u64.bits))) + (IntKind.u64.wrap ((IntKind.u64.wrap (((BitVec.ofInt (IntKind.u64.bits) (Int.fdiv (IntKind.u64.wrap ((IntKind.u64.wrap (((BitVec.ofInt (IntKind.u64.bits) (Int.fdiv x_a0 (2 ^ (min (1 : Int).toNat IntKind.u64.bits)))) &&& (BitVec.ofInt (IntKind.u64.bits) 6148914691236517205)).toNat : Int)) + (IntKind.u64.wrap (((BitVec.ofInt (IntKind.u64.bits) x_a0) &&& (BitVec.ofInt (IntKind.u64.bits) 6148914691236517205)).toNat : Int)))) (2 ^ (min (2 : Int).toNat IntKind.u64.bits)))) &&& (BitVec.ofInt (IntKind.u64.bits) 3689348814741910323)).toNat : Int)) + (IntKind.u64.wrap (((BitVec.ofInt (IntKind.u64.bits) (IntKind.u64.wrap ((IntKind.u64.wrap (((BitVec.ofInt (IntKind.u64.bits) (Int.fdiv x_a0 (2 ^ (min (1 : Int).toNat IntKind.u64.bits)))) &&& (BitVec.ofInt (IntKind.u64.bits) 6148914691236517205)).toNat : Int)) + (IntKind.u64.wrap (((BitVec.ofInt (IntKind.u64.bits) x_a0) &&& (BitVec.ofInt (IntKind.u64.bits) 6148914691236517205)).toNat : Int))))) &&& (BitVec.ofInt (IntKind.u64.bits) 3689348814741910323)).toNat : Int))))))) &&& (BitVec.ofInt (IntKind.u64.bits) 1085102592571150095)).toNat : Int)) + (Int.fdiv (IntKind.u64.wrap (((BitVec.ofInt (IntKind.u64.bits) (IntKind.u64.wrap ((Int.fdiv (IntKind.u64.wrap ((IntKind.u64.wrap (((BitVec.ofInt (IntKind.u64.bits) (Int.fdiv (IntKind.u64.wrap ((IntKind.u64.wrap (((BitVec.ofInt (IntKind.u64.bits) (Int.fdiv x_a0 (2 ^ (min (1 : Int).toNat IntKind.u64.bits)))) &&& (BitVec.ofInt (IntKind.u64.bits) 6148914691236517205)).toNat : Int)) + (IntKind.u64.wrap (((BitVec.ofInt (IntKind.u64.bits) x_a0) &&& (BitVec.ofInt (IntKind.u64.bits) 6148914691236517205)).toNat : Int)))) (2 ^ (min (2 : Int).toNat IntKind.u64.bits)))) &&& (BitVec.ofInt (IntKind.u64.bits) 3689348814741910323)).toNat : Int)) + (IntKind.u64.wrap (((BitVec.ofInt (IntKind.u64.bits) (IntKind.u64.wrap ((IntKind.u64.wrap (((BitVec.ofInt (IntKind.u64.bits) (Int.fdiv x_a0 (2 ^ (min (1 : Int).toNat IntKind.u64.bits)))) &&& (BitVec.ofInt (IntKind.u64.bits) 6148914691236517205)).toNat : Int)) + (IntKind.u64.wrap (((BitVec.ofInt (IntKind.u64.bits) x_a0) &&& (BitVec.ofInt (IntKind.u64.bits) 6148914691236517205)).toNat : Int))))) &&& (BitVec.ofInt (IntKind.u64.bits) 3689348814741910323)).toNat : Int)))) (2 ^ (min (4 : Int).toNat IntKind.u64.bits))) + (IntKind.u64.wrap ((IntKind.u64.wrap (((BitVec.ofInt (IntKind.u64.bits) (Int.fdiv (IntKind.u64.wrap ((IntKind.u64.wrap (((BitVec.ofInt (IntKind.u64.bits) (Int.fdiv x_a0 (2 ^ (min (1 : Int).toNat IntKind.u64.bits)))) &&& (BitVec.ofInt (IntKind.u64.bits) 6148914691236517205)).toNat : Int)) + (IntKind.u64.wrap (((BitVec.ofInt (IntKind.u64.bits) x_a0) &&& (BitVec.ofInt (IntKind.u64.bits) 6148914691236517205)).toNat : Int)))) (2 ^ (min (2 : Int).toNat IntKind.u64.bits)))) &&& (BitVec.ofInt (IntKind.u64.bits) 3689348814741910323)).toNat : Int)) + (IntKind.u64.wrap (((BitVec.ofInt (IntKind.u64.bits) (IntKind.u64.wrap ((IntKind.u64.wrap (((BitVec.ofInt (IntKind.u64.bits) (Int.fdiv x_a0 (2 ^ (min (1 : Int).toNat IntKind.u64.bits)))) &&& (BitVec.ofInt (IntKind.u64.bits) 6148914691236517205)).toNat : Int)) + (IntKind.u64.wrap (((BitVec.ofInt (IntKind.u64.bits) x_a0) &&& (BitVec.ofInt (IntKind.u64.bits) 6148914691236517205)).toNat : Int))))) &&& (BitVec.ofInt (IntKind.u64.bits) 3689348814741910323)).toNat : Int))))))) &&& (BitVec.ofInt (IntKind.u64.bits) 1085102592571150095)).toNat : Int)) (2 ^ (min (8 : Int).toNat IntKind.u64.bits))))) + (Int.fdiv (IntKind.u64.wrap ((IntKind.u64.wrap (((BitVec.ofInt (IntKind.u64.bits) (IntKind.u64.wrap ((Int.fdiv (IntKind.u64.wrap ((IntKind.u64.wrap (((BitVec.ofInt (IntKind.u64.bits) (Int.fdiv (IntKind.u64.wrap ((IntKind.u64.wrap (((BitVec.ofInt (IntKind.u64.bits) (Int.fdiv x_a0 (2 ^ (min (1 : Int).toNat IntKind.u64.bits)))) &&& (BitVec.ofInt (IntKind.u64.bits) 6148914691236517205)).toNat : Int)) + (IntKind.u64.wrap (((BitVec.ofInt (IntKind.u64.bits) x_a0) &&& (BitVec.ofInt (IntKind.u64.bits) 6148914691236517205)).toNat : Int)))) (2 ^ (min (2 : Int).toNat IntKind.u64.bits)))) &&& (BitVec.ofInt (IntKind.u64.bits) 3689348814741910323)).toNat : Int)) + (IntKind.u64.wrap (((BitVec.ofInt (IntKind.u64.bits) (IntKind.u64.wrap ((IntKind.u64.wrap (((BitVec.ofInt (IntKind.u64.bits) (Int.fdiv x_a0 (2 ^ (min (1 : Int).toNat IntKind.u64.bits)))) &&& (BitVec.ofInt (IntKind.u64.bits) 6148914691236517205)).toNat : Int)) + (IntKind.u64.wrap (((BitVec.ofInt (IntKind.u64.bits) x_a0) &&& (BitVec.ofInt (IntKind.u64.bits) 6148914691236517205)).toNat : Int))))) &&& (BitVec.ofInt (IntKind.u64.bits) 3689348814741910323)).toNat : Int)))) (2 ^ (min (4 : Int).toNat IntKind.u64.bits))) + (IntKind.u64.wrap ((IntKind.u64.wrap (((BitVec.ofInt (IntKind.u64.bits) (Int.fdiv (IntKind.u64.wrap ((IntKind.u64.wrap (((BitVec.ofInt (IntKind.u64.bits) (Int.fdiv x_a0 (2 ^ (min (1 : Int).toNat IntKind.u64.bits)))) &&& (BitVec.ofInt (IntKind.u64.bits) 6148914691236517205)).toNat : Int)) + (IntKind.u64.wrap (((BitVec.ofInt (IntKind.u64.bits) x_a0) &&& (BitVec.ofInt (IntKind.u64.bits) 6148914691236517205)).toNat : Int)))) (2 ^ (min (2 : Int).toNat IntKind.u64.bits)))) &&& (BitVec.ofInt (IntKind.u64.bits) 3689348814741910323)).toNat : Int)) + (IntKind.u64.wrap (((BitVec.ofInt (IntKind.u64.bits) (IntKind.u64.wrap ((IntKind.u64.wrap (((BitVec.ofInt (IntKind.u64.bits) (Int.fdiv x_a0 (2 ^ (min (1 : Int).toNat IntKind.u64.bits)))) &&& (BitVec.ofInt (IntKind.u64.bits) 6148914691236517205)).toNat : Int)) + (IntKind.u64.wrap (((BitVec.ofInt (IntKind.u64.bits) x_a0) &&& (BitVec.ofInt (IntKind.u64.bits) 6148914691236517205)).toNat : Int))))) &&& (BitVec.ofInt (IntKind.u64.bits) 3689348814741910323)).toNat : Int))))))) &&& (BitVec.ofInt (IntKind.u64.bits) 1085102592571150095)).toNat : Int)) + (Int.fdiv (IntKind.u64.wrap (((BitVec.ofInt (IntKind.u64.bits) (IntKind.u64.wrap ((Int.fdiv (IntKind.u64.wrap ((IntKind.u64.wrap (((BitVec.ofInt (IntKind.u64.bits) (Int.fdiv (IntKind.u64.wrap ((IntKind.u64.wrap (((BitVec.ofInt (IntKind.u64.bits) (Int.fdiv x_a0 (2 ^ (min (1 : Int).toNat IntKind.u64.bits)))) &&& (BitVec.ofInt (IntKind.u64.bits) 6148914691236517205)).toNat : Int)) + (IntKind.u64.wrap (((BitVec.ofInt (IntKind.u64.bits) x_a0) &&& (BitVec.ofInt (IntKind.u64.bits) 6148914691236517205)).toNat : Int)))) (2 ^ (min (2 : Int).toNat IntKind.u64.bits)))) &&& (BitVec.ofInt (IntKind.u64.bits) 3689348814741910323)).toNat : Int)) + (IntKind.u64.wrap (((BitVec.ofInt (IntKind.u64.bits) (IntKind.u64.wrap ((IntKind.u64.wrap (((BitVec.ofInt (IntKind.u64.bits) (Int.fdiv x_a0 (2 ^ (min (1 : Int).toNat IntKind.u64.bits)))) &&& (BitVec.ofInt (IntKind.u64.bits) 6148914691236517205)).toNat : Int)) + (IntKind.u64.wrap (((BitVec.ofInt (IntKind.u64.bits) x_a0) &&& (BitVec.ofInt (IntKind.u64.bits) 6148914691236517205)).toNat : Int))))) &&& (BitVec.ofInt (IntKind.u64.bits) 3689348814741910323)).toNat : Int)))) (2 ^ (min (4 : Int).toNat IntKind.u64.bits))) + (IntKind.u64.wrap ((IntKind.u64.wrap (((BitVec.ofInt (IntKind.u64.bits) (Int.fdiv (IntKind.u64.wrap ((IntKind.u64.wrap (((BitVec.ofInt (IntKind.u64.bits) (Int.fdiv x_a0 (2 ^ (min (1 : Int).toNat IntKind.u64.bits)))) &&& (BitVec.ofInt (IntKind.u64.bits) 6148914691236517205)).toNat : Int)) + (IntKind.u64.wrap (((BitVec.ofInt (IntKind.u64.bits) x_a0) &&& (BitVec.ofInt (IntKind.u64.bits) 6148914691236517205)).toNat : Int)))) (2 ^ (min (2 : Int).toNat IntKind.u64.bits)))) &&& (BitVec.ofInt (IntKind.u64.bits) 3689348814741910323)).toNat : Int)) + (IntKind.u64.wrap (((BitVec.ofInt (IntKind.u64.bits) (IntKind.u64.wrap ((IntKind.u64.wrap (((BitVec.ofInt (IntKind.u64.bits) (Int.fdiv x_a0 (2 ^ (min (1 : Int).toNat IntKind.u64.bits)))) &&& (BitVec.ofInt (IntKind.u64.bits) 6148914691236517205)).toNat : Int)) + (IntKind.u64.wrap (((BitVec.ofInt (IntKind.u64.bits) x_a0) &&& (BitVec.ofInt (IntKind.u64.bits) 6148914691236517205)).toNat : Int))))) &&& (BitVec.ofInt (IntKind.u64.bits) 3689348814741910323)).toNat : Int))))))) &&& (BitVec.ofInt (IntKind.u64.bits) 1085102592571150095)).toNat : Int)) (2 ^ (min (8 : Int).toNat IntKind.u64.bits))))) (2 ^ (min (16 : Int).toNat IntKind.u64.bits))))) (2 ^ (min (32 : Int).toNat IntKind.u64.bits))))))) &&& (BitVec.ofInt (IntKind.i64.bits) 127)).toNat : Int))
theorem p_math_bits_OnesCount64_does (x_a0 : Int) (r : Int) (h : p_math_bits_OnesCount64 x_a0 = some r) : Does Try.prog 44 [.lit (.int .u64 x_a0)] (I r) := by
  rw [p_math_bits_OnesCount64] at h
  refine Does.walk (nt := 35) Try.func44 rfl rfl (by simp) (by decide) rfl (fun G0 X w0 pv => ?_)
  have ff := p_math_bits_OnesCount64_tf.down
  try refine st_by ff ?_
  repeat' (first | exact trivial | refine And.intro sd ?_)
  cases h
  exact ret_q1 rfl (p_math_bits_OnesCount64_rt ff trivial)
/-! math/bits.OnesCount -/
theorem p_math_bits_OnesCount_pv {F C A : Prop} (hF : F) (hC : C) (h : F → C → A := by intro hF hC; first | exact cl_by hF | (refine st_by hF ?_; (repeat' (first | exact trivial | apply And.intro)); all_goals (clear hF; first | rfl | (simp only [hC, List.length_append, List.length_cons, List.length_nil, List.append_nil, List.nil_append, List.cons_append, List.length_set, List.append_assoc, Nat.zero_add, List.length_replicate]; done) | (simp [hC, List.length_append, List.length_cons, List.length_nil, List.append_nil, List.nil_append, List.cons_append, List.length_set, List.append_assoc, Nat.zero_add, List.length_replicate]; done) | omega))) : A := h hF hC
theorem p_math_bits_OnesCount_sa {F C A : Prop} (hF : F) (hC : C) (h : F → C → A := by intro hF hC; first | exact ca_by hF | (refine sa_by hF ?_; (repeat' (first | exact trivial | apply And.intro)); all_goals (clear hF; first | rfl | (simp only [hC, List.length_append, List.length_cons, List.length_nil, List.append_nil, List.nil_append, List.cons_append, List.length_set, List.append_assoc, Nat.zero_add, List.length_replicate]; done) | (simp [hC, List.length_append, List.length_cons, List.length_nil, List.append_nil, List.nil_append, List.cons_append, List.length_set, List.append_assoc, Nat.zero_add, List.length_replicate]; done) | omega))) : A := h hF hC
theorem p_math_bits_OnesCount_rt {F C A : Prop} (hF : F) (hC : C) (h : F → C → A := by intro hF hC; first | (refine sr_by hF ?_; (repeat' (first | exact trivial | apply And.intro)); all_goals (clear hF; first | rfl | (simp only [hC, List.length_append, List.length_cons, List.length_nil, List.append_nil, List.nil_append, List.cons_append, List.length_set, List.append_assoc, Nat.zero_add, List.length_replicate]; done) | (simp [hC, List.length_append, List.length_cons, List.length_nil, List.append_nil, List.nil_append, List.cons_append, List.length_set, List.append_assoc, Nat.zero_add, List.length_replicate]; done) | omega)) | (first | rfl | (simp only [hC, List.length_append, List.length_cons, List.length_nil, List.append_nil, List.nil_append, List.cons_append, List.length_set, List.append_assoc, Nat.zero_add, List.length_replicate]; done) | (simp [hC, List.length_append, List.length_cons, List.length_nil, List.append_nil, List.nil_append, List.cons_append, List.length_set, List.append_assoc, Nat.zero_add, List.length_replicate]; done) | omega)) : A := h hF hC
def p_math_bits_OnesCount_tf := PLift.up (And.intro @str_beq (And.intro @Ty.int56 (And.intro @Ty.int66 @trivial)))
def p_math_bits_OnesCount (x_a0 : Int) : Option (Int) := ((p_math_bits_OnesCount64 x_a0).bind fun v1 => some v1)
theorem p_math_bits_OnesCount_does (x_a0 : Int) (r : Int) (h : p_math_bits_OnesCount x_a0 = some r) : Does Try.prog 35 [.lit (.int .u64 x_a0)] (I r) := by
  rw [p_math_bits_OnesCount] at h
  refine Does.walk (nt := 8) Try.func35 rfl rfl (by simp) (by decide) rfl (fun G0 X w0 pv => ?_)
  obtain ⟨v1, ev1, h⟩ := Option.bind_eq_some_iff.1 h
  try dsimp only at h
  have ff := p_math_bits_OnesCount_tf.down
  try refine st_by ff ?_
  repeat' (first | exact trivial | refine And.intro sd ?_)
  first
  | (refine cq_call (p_math_bits_OnesCount64_does x_a0 v1 ev1) (hf_by ff) kr ⟨p_math_bits_OnesCount_sa ff trivial, ?_⟩; clear ff)
  have ff := p_math_bits_OnesCount_tf.down
  try refine st_by ff ?_
  repeat' (first | exact trivial | refine And.intro sd ?_)
  cases h
  exact ret_q1 rfl (p_math_bits_OnesCount_rt ff trivial)
/-! impl.team -/
def p_impl_team_l0 (l_a0 : List GPlayer) (mask_a1 : Int) : List GPlayer → Nat → (List ByteArray) → Int → Option ((List ByteArray) × Int)
  | [], i_0, out_7, out_8 => some (out_7, out_8)
  | x_0 :: r_0, i_0, out_7, out_8 => (if 0 ≤ (IntKind.i64.wrap ((IntKind.i64.wrap ((l_a0.length : Int) - 1)) - (i_0 : Int))) then (if (IntKind.i64.wrap (((BitVec.ofInt (IntKind.i64.bits) (Int.fdiv mask_a1 (2 ^ (min (IntKind.i64.wrap ((IntKind.i64.wrap ((l_a0.length : Int) - 1)) - (i_0 : Int))).toNat IntKind.i64.bits)))) &&& (BitVec.ofInt (IntKind.i64.bits) 1)).toNat : Int)) = 1 then (if out_7.length < 4294967296 then p_impl_team_l0 l_a0 mask_a1 r_0 (i_0 + 1) (out_7 ++ [x_0.Name]) (IntKind.i64.wrap (out_8 + x_0.Rating)) else none) else p_impl_team_l0 l_a0 mask_a1 r_0 (i_0 + 1) out_7 out_8) else none)
theorem p_impl_team_pv {F C A : Prop} (hF : F) (hC : C) (h : F → C → A := by intro hF hC; first | exact cl_by hF | (refine st_by hF ?_; (repeat' (first | exact trivial | apply And.intro)); all_goals (clear hF; first | rfl | (simp only [hC, List.length_append, List.length_cons, List.length_nil, List.append_nil, List.nil_append, List.cons_append, List.length_set, List.append_assoc, Nat.zero_add, List.length_replicate, esStr_app, esStr_cons, esStr_nil, eStr_eq, esPlayer_app, esPlayer_cons, esPlayer_nil, ePlayer_eq, esTeam_app, esTeam_cons, esTeam_nil, eTeam_eq, esTeamo_app, esTeamo_cons, esTeamo_nil, eTeamo_eq]; done) | (simp [hC, List.length_append, List.length_cons, List.length_nil, List.append_nil, List.nil_append, List.cons_append, List.length_set, List.append_assoc, Nat.zero_add, List.length_replicate, esStr_app, esStr_cons, esStr_nil, eStr_eq, esPlayer_app, esPlayer_cons, esPlayer_nil, ePlayer_eq, esTeam_app, esTeam_cons, esTeam_nil, eTeam_eq, esTeamo_app, esTeamo_cons, esTeamo_nil, eTeamo_eq]; done) | omega))) : A := h hF hC
theorem p_impl_team_sa {F C A : Prop} (hF : F) (hC : C) (h : F → C → A := by intro hF hC; first | exact ca_by hF | (refine sa_by hF ?_; (repeat' (first | exact trivial | apply And.intro)); all_goals (clear hF; first | rfl | (simp only [hC, List.length_append, List.length_cons, List.length_nil, List.append_nil, List.nil_append, List.cons_append, List.length_set, List.append_assoc, Nat.zero_add, List.length_replicate, esStr_app, esStr_cons, esStr_nil, eStr_eq, esPlayer_app, esPlayer_cons, esPlayer_nil, ePlayer_eq, esTeam_app, esTeam_cons, esTeam_nil, eTeam_eq, esTeamo_app, esTeamo_cons, esTeamo_nil, eTeamo_eq]; done) | (simp [hC, List.length_append, List.length_cons, List.length_nil, List.append_nil, List.nil_append, List.cons_append, List.length_set, List.append_assoc, Nat.zero_add, List.length_replicate, esStr_app, esStr_cons, esStr_nil, eStr_eq, esPlayer_app, esPlayer_cons, esPlayer_nil, ePlayer_eq, esTeam_app, esTeam_cons, esTeam_nil, eTeam_eq, esTeamo_app, esTeamo_cons, esTeamo_nil, eTeamo_eq]; done) | omega))) : A := h hF hC
theorem p_impl_team_rt {F C A : Prop} (hF : F) (hC : C) (h : F → C → A := by intro hF hC; first | (refine sr_by hF ?_; (repeat' (first | exact trivial | apply And.intro)); all_goals (clear hF; first | rfl | (simp only [hC, List.length_append, List.length_cons, List.length_nil, List.append_nil, List.nil_append, List.cons_append, List.length_set, List.append_assoc, Nat.zero_add, List.length_replicate, esStr_app, esStr_cons, esStr_nil, eStr_eq, esPlayer_app, esPlayer_cons, esPlayer_nil, ePlayer_eq, esTeam_app, esTeam_cons, esTeam_nil, eTeam_eq, esTeamo_app, esTeamo_cons, esTeamo_nil, eTeamo_eq]; done) | (simp [hC, List.length_append, List.length_cons, List.length_nil, List.append_nil, List.nil_append, List.cons_append, List.length_set, List.append_assoc, Nat.zero_add, List.length_replicate, esStr_app, esStr_cons, esStr_nil, eStr_eq, esPlayer_app, esPlayer_cons, esPlayer_nil, ePlayer_eq, esTeam_app, esTeam_cons, esTeam_nil, eTeam_eq, esTeamo_app, esTeamo_cons, esTeamo_nil, eTeamo_eq]; done) | omega)) | (first | rfl | (simp only [hC, List.length_append, List.length_cons, List.length_nil, List.append_nil, List.nil_append, List.cons_append, List.length_set, List.append_assoc, Nat.zero_add, List.length_replicate, esStr_app, esStr_cons, esStr_nil, eStr_eq, esPlayer_app, esPlayer_cons, esPlayer_nil, ePlayer_eq, esTeam_app, esTeam_cons, esTeam_nil, eTeam_eq, esTeamo_app, esTeamo_cons, esTeamo_nil, eTeamo_eq]; done) | (simp [hC, List.length_append, List.length_cons, List.length_nil, List.append_nil, List.nil_append, List.cons_append, List.length_set, List.append_assoc, Nat.zero_add, List.length_replicate, esStr_app, esStr_cons, esStr_nil, eStr_eq, esPlayer_app, esPlayer_cons, esPlayer_nil, ePlayer_eq, esTeam_app, esTeam_cons, esTeam_nil, eTeam_eq, esTeamo_app, esTeamo_cons, esTeamo_nil, eTeamo_eq]; done) | omega)) : A := h hF hC
def p_impl_team_tf := PLift.up (And.intro @eStr_eq (And.intro @esStr_len (And.intro @esStr_nil (And.intro @esStr_leaf (And.intro @esStr_fit (And.intro @ePlayer_eq (And.intro @esPlayer_len (And.intro @esPlayer_nil (And.intro @esPlayer_leaf (And.intro @esPlayer_fit (And.intro @eTeam_eq (And.intro @esTeam_len (And.intro @esTeam_nil (And.intro @esTeam_leaf (And.intro @esTeam_fit (And.intro @eTeamo_eq (And.intro @esTeamo_len (And.intro @esTeamo_nil (And.intro @esStr_share (And.intro @esStr_pure (And.intro @esPlayer_share (And.intro @esPlayer_pure (And.intro @esTeamo_share (And.intro @esTeamo_pure (And.intro @str_beq (And.intro @Ty.sl27 (And.intro @Ty.slz27 (And.intro @Ty.nz58 (And.intro @Ty.ldA58 (And.intro @Ty.sz58 (And.intro @Ty.szn58 (And.intro @Ty.nz45 (And.intro @Ty.ldA45 (And.intro @Ty.sz45 (And.intro @Ty.szn45 (And.intro @Ty.nz24 (And.intro @Ty.ldA24 (And.intro @Ty.ldS24 (And.intro @Ty.sz24 (And.intro @Ty.szn24 (And.intro @Ty.nz9 (And.intro @Ty.ldA9 (And.intro @Ty.ldS9 (And.intro @Ty.sz9 (And.intro @Ty.szn9 (And.intro @Ty.nz3 (And.intro @Ty.ldA3 (And.intro @Ty.ldS3 (And.intro @Ty.sz3 (And.intro @Ty.szn3 (And.intro @Ty.fo58_0 (And.intro @Ty.fk58_0 (And.intro @Ty.fs58_0 (And.intro @Ty.fn58_0 (And.intro @Ty.fo45_0 (And.intro @Ty.fk45_0 (And.intro @Ty.fs45_0 (And.intro @Ty.fn45_0 (And.intro @Ty.fo58_1 (And.intro @Ty.fk58_1 (And.intro @Ty.fs58_1 (And.intro @Ty.fn58_1 (And.intro @Ty.fo45_1 (And.intro @Ty.fk45_1 (And.intro @Ty.fs45_1 (And.intro @Ty.fn45_1 (And.intro @Ty.nze24 (And.intro @Ty.sl24 (And.intro @Ty.slz24 (And.intro @Ty.zok24 (And.intro @Ty.by24 (And.intro @Ty.zs24 (And.intro @Ty.zv58 (And.intro @Ty.zv45 (And.intro @Ty.bd58 (And.intro @Ty.ag58 @trivial))))))))))))))))))))))))))))))))))))))))))))))))))))))))))))))))))))))))))))
def p_impl_team (l_a0 : List GPlayer) (mask_a1 : Int) : Option (GTeam) := ((p_impl_team_l0 l_a0 mask_a1 l_a0 0 ([] : List ByteArray) 0).bind fun q_0 => match q_0 with | (out_7, out_8) => some (⟨out_7, out_8⟩ : GTeam))
theorem p_impl_team_does (l_a0 : List GPlayer) (mask_a1 : Int) (r : GTeam) (h : p_impl_team l_a0 mask_a1 = some r) : Does Try.prog 36 [.row false 3 l_a0.length (esPlayer l_a0), I mask_a1] (.agg (eTeamo r)) := by
  rw [p_impl_team] at h
  refine Does.bnd (fun hb => ?_)
  have hb2 : l_a0.length ≤ 9223372036854775807 := by simpa [AV.fitNs, AV.fitN] using hb
  have hl0 := hb2
  refine Does.walk (nt := 40) Try.func36 rfl rfl (by simp) (by decide) rfl (fun G0 X w0 pv => ?_)
  have hL_0 : l_a0.length ≤ 9223372036854775807 := by first | assumption | omega
  obtain ⟨q_0, eq_0, h⟩ := Option.bind_eq_some_iff.1 h
  have ff := p_impl_team_tf.down
  try refine st_by ff ?_
  repeat' (first | exact trivial | refine And.intro sd ?_)
  obtain ⟨I_0, hI_0⟩ : ∃ I_ : (Nat × (List ByteArray) × Int) → ASt → Prop, I_ = (fun (a : Nat × (List ByteArray) × Int) σ => match a with | (i_0, out_7, out_8) => (i_0 ≤ l_a0.length ∧ p_impl_team_l0 l_a0 mask_a1 (l_a0.drop i_0) i_0 out_7 out_8 = some q_0) ∧ σ.t 0 = .row false 3 l_a0.length (esPlayer l_a0) ∧ σ.t 1 = I mask_a1 ∧ σ.t 4 = .ptr 4 [] 0 ∧ σ.t 5 = .ptr 5 [] 0 ∧ σ.t 9 = .row false 3 l_a0.length (esPlayer l_a0) ∧ σ.t 10 = I (l_a0.length : Int) ∧ σ.t 11 = I (i_0 : Int) ∧ σ.m 4 = some (.box true [.row true 1 0 [], I 0]) ∧ σ.m 5 = some (.box true [.row true 1 out_7.length (esStr out_7), I out_8])) := ⟨_, rfl⟩
  obtain ⟨M_0, hM_0⟩ : ∃ M_ : (Nat × (List ByteArray) × Int) → Nat, M_ = (fun (a : Nat × (List ByteArray) × Int) => match a with | (i_0, out_7, out_8) => l_a0.length - i_0) := ⟨_, rfl⟩
  obtain ⟨J_0, hJ_0⟩ : ∃ J_ : ASt → Prop, J_ = (fun σ => ∃ out_7 : List ByteArray, ∃ out_8 : Int, (some (out_7, out_8) = some q_0) ∧ σ.t 4 = .ptr 4 [] 0 ∧ σ.t 5 = .ptr 5 [] 0 ∧ σ.m 4 = some (.box true [.row true 1 0 [], I 0]) ∧ σ.m 5 = some (.box true [.row true 1 out_7.length (esStr out_7), I out_8])) := ⟨_, rfl⟩
  refine aw_loopC (id := 0) I_0 M_0 J_0 (0, ([] : List ByteArray), 0) ?_ ?_ ?_
  · rw [hI_0]
    refine ⟨⟨Nat.zero_le _, eq_0⟩, ?_⟩
    exact p_impl_team_pv ff trivial
  · try clear ff
    rintro ⟨i_0, out_7, out_8⟩ σ hg_0
    rw [hI_0] at hg_0
    obtain ⟨⟨hi_0, h_0⟩, g0_0, g1_0, g2_0, g3_0, g4_0, g5_0, g6_0, g7_0, g8_0⟩ := hg_0
    cases hr_0 : l_a0.drop i_0 with
    | nil =>
      rw [hr_0] at h_0
      rw [p_impl_team_l0] at h_0
      have hn_0 := drop_nil hr_0
      have dr_0 : decide ((i_0 : Int) < (l_a0.length : Int)) = false := decide_eq_false (by omega)
      have ff := And.intro @dr_0 (And.intro @g0_0 (And.intro @g1_0 (And.intro @g2_0 (And.intro @g3_0 (And.intro @g4_0 (And.intro @g5_0 (And.intro @g6_0 (And.intro @g7_0 (And.intro @g8_0 p_impl_team_tf.down)))))))))
      try refine st_by ff ?_
      repeat' (first | exact trivial | refine And.intro sd ?_)
      refine JW.intro ?_
      rw [hJ_0]
      refine ⟨out_7, out_8, h_0, ?_⟩
      exact p_impl_team_pv ff trivial
    | cons x_0 r_0 =>
      rw [hr_0] at h_0
      rw [p_impl_team_l0] at h_0
      obtain ⟨ht_0, hg_0, hd_0⟩ := drop_cons hr_0
      have dr_0 : decide ((i_0 : Int) < (l_a0.length : Int)) = true := decide_eq_true (by omega)
      have w_0 : IntKind.i64.wrap ((i_0 : Int) + 1) = ((i_0 + 1 : Nat) : Int) := wI _ (by omega) (by omega)
      have kk0c : (esPlayer l_a0).drop (i_0 * 3) = ePlayer x_0 ++ esPlayer (l_a0.drop (i_0 + 1)) := drop_enc (fun _ => rfl) (hg_0)
      by_cases c16 : 0 ≤ (IntKind.i64.wrap ((IntKind.i64.wrap ((l_a0.length : Int) - 1)) - (i_0 : Int)))
      case neg => rw [if_neg c16] at h_0; cases h_0
      rw [if_pos c16] at h_0
      by_cases c17 : (IntKind.i64.wrap (((BitVec.ofInt (IntKind.i64.bits) (Int.fdiv mask_a1 (2 ^ (min (IntKind.i64.wrap ((IntKind.i64.wrap ((l_a0.length : Int) - 1)) - (i_0 : Int))).toNat IntKind.i64.bits)))) &&& (BitVec.ofInt (IntKind.i64.bits) 1)).toNat : Int)) = 1
      case neg =>
       rw [if_neg c17] at h_0
       have dc17 := beq_no c17
       have ff := And.intro @dr_0 (And.intro @w_0 (And.intro @g0_0 (And.intro @g1_0 (And.intro @g2_0 (And.intro @g3_0 (And.intro @g4_0 (And.intro @g5_0 (And.intro @g6_0 (And.intro @g7_0 (And.intro @g8_0 (And.intro @kk0c (And.intro @dc17 p_impl_team_tf.down))))))))))))
       try refine st_by ff ?_
       repeat' (first | exact trivial | refine And.intro sd ?_)
       refine Back.intro (i_0 + 1, out_7, out_8) ?_ ?_
       · clear ff; rw [hM_0]; show l_a0.length - (i_0 + 1) < l_a0.length - i_0; omega
       rw [hI_0]
       refine ⟨⟨by clear ff; show i_0 + 1 ≤ l_a0.length; omega, by show p_impl_team_l0 l_a0 mask_a1 (l_a0.drop (i_0 + 1)) (i_0 + 1) out_7 out_8 = some q_0; rw [hd_0]; exact h_0⟩, ?_⟩
       exact p_impl_team_pv ff trivial
      rw [if_pos c17] at h_0
      have dc17 := beq_yes c17
      by_cases c18 : out_7.length < 4294967296
      case neg => rw [if_neg c18] at h_0; cases h_0
      rw [if_pos c18] at h_0
      have a19a : esStr out_7 ++ [S x_0.Name] = esStr (out_7 ++ [x_0.Name]) := by simp [esStr_app, esStr_cons, esStr_nil, eStr_eq, esStr_nil, esPlayer_nil, esTeam_nil]
      have a19b : out_7.length + 1 = (out_7 ++ [x_0.Name]).length := by simp
      have ff := And.intro @dr_0 (And.intro @w_0 (And.intro @g0_0 (And.intro @g1_0 (And.intro @g2_0 (And.intro @g3_0 (And.intro @g4_0 (And.intro @g5_0 (And.intro @g6_0 (And.intro @g7_0 (And.intro @g8_0 (And.intro @kk0c (And.intro @dc17 (And.intro @a19a (And.intro @a19b p_impl_team_tf.down))))))))))))))
      try refine st_by ff ?_
      repeat' (first | exact trivial | refine And.intro sd ?_)
      refine Back.intro (i_0 + 1, (out_7 ++ [x_0.Name]), (IntKind.i64.wrap (out_8 + x_0.Rating))) ?_ ?_
      · clear ff; rw [hM_0]; show l_a0.length - (i_0 + 1) < l_a0.length - i_0; omega
      rw [hI_0]
      refine ⟨⟨by clear ff; show i_0 + 1 ≤ l_a0.length; omega, by show p_impl_team_l0 l_a0 mask_a1 (l_a0.drop (i_0 + 1)) (i_0 + 1) (out_7 ++ [x_0.Name]) (IntKind.i64.wrap (out_8 + x_0.Rating)) = some q_0; rw [hd_0]; exact h_0⟩, ?_⟩
      exact p_impl_team_pv ff trivial
  · try clear ff
    rintro σ hg_0
    rw [hJ_0] at hg_0
    obtain ⟨out_7, out_8, hj_0, g0_0a, g1_0a, g2_0a, g3_0a⟩ := hg_0
    cases hj_0
    try dsimp only at h
    have ff := And.intro @g0_0a (And.intro @g1_0a (And.intro @g2_0a (And.intro @g3_0a p_impl_team_tf.down)))
    try refine st_by ff ?_
    repeat' (first | exact trivial | refine And.intro sd ?_)
    cases h
    exact ret_q1 rfl (p_impl_team_rt ff trivial)
/-! impl.FairTeams -/
def p_impl_FairTeams_l0 (l_a0 : List GPlayer) : Nat → Int → Int → (List GTeam) → Option (Int × Int × (List GTeam))
  | 0, _, _, _ => none
  | n_0 + 1, least_14, mask_15, best_16 => (if 0 ≤ (IntKind.i64.wrap ((l_a0.length : Int) - 1)) then (if mask_15 ≥ (IntKind.i64.wrap ((1 : Int) * 2 ^ (min (IntKind.i64.wrap ((l_a0.length : Int) - 1)).toNat IntKind.i64.bits))) then ((p_math_bits_OnesCount (IntKind.u64.wrap mask_15)).bind fun v28 => (if v28 = (IntKind.i64.wrap (Int.tdiv (l_a0.length : Int) 2)) then ((p_impl_team l_a0 mask_15).bind fun v30 => ((p_impl_team l_a0 (IntKind.i64.wrap ((IntKind.i64.wrap ((IntKind.i64.wrap ((1 : Int) * 2 ^ (min (l_a0.length : Int).toNat IntKind.i64.bits))) - 1)) - mask_15))).bind fun v31 => ((p_impl_size (IntKind.i64.wrap (((⟨v30.Names, v30.Sum⟩ : GTeam).Sum) - ((⟨v31.Names, v31.Sum⟩ : GTeam).Sum)))).bind fun v32 => (if best_16.length = 0 then p_impl_FairTeams_l0 l_a0 n_0 v32 (IntKind.i64.wrap (mask_15 - 1)) ([(⟨v30.Names, v30.Sum⟩ : GTeam), (⟨v31.Names, v31.Sum⟩ : GTeam)] : List GTeam) else (if v32 < least_14 then p_impl_FairTeams_l0 l_a0 n_0 v32 (IntKind.i64.wrap (mask_15 - 1)) ([(⟨v30.Names, v30.Sum⟩ : GTeam), (⟨v31.Names, v31.Sum⟩ : GTeam)] : List GTeam) else p_impl_FairTeams_l0 l_a0 n_0 least_14 (IntKind.i64.wrap (mask_15 - 1)) best_16))))) else p_impl_FairTeams_l0 l_a0 n_0 least_14 (IntKind.i64.wrap (mask_15 - 1)) best_16)) else some (least_14, mask_15, best_16)) else none)
def p_impl_FairTeams_j0 (N : Nat) (l_a0 : List GPlayer) (b_2 : Bool) : Option (List GTeam × Bool) := (if b_2 = true then some (([] : List GTeam), false) else (if 0 ≤ (l_a0.length : Int) then ((p_impl_FairTeams_l0 l_a0 N 0 (IntKind.i64.wrap ((IntKind.i64.wrap ((1 : Int) * 2 ^ (min (l_a0.length : Int).toNat IntKind.i64.bits))) - 1)) ([] : List GTeam)).bind fun q_0 => match q_0 with | (least_14, mask_15, best_16) => some (best_16, true)) else none))
theorem p_impl_FairTeams_pv {F C A : Prop} (hF : F) (hC : C) (h : F → C → A := by intro hF hC; first | exact cl_by hF | (refine st_by hF ?_; (repeat' (first | exact trivial | apply And.intro)); all_goals (clear hF; first | rfl | (simp only [hC, List.length_append, List.length_cons, List.length_nil, List.append_nil, List.nil_append, List.cons_append, List.length_set, List.append_assoc, Nat.zero_add, List.length_replicate, nsz_succ, nsz_zero, esPlayer_app, esPlayer_cons, esPlayer_nil, ePlayer_eq, esTeam_app, esTeam_cons, esTeam_nil, eTeam_eq, esTeamo_app, esTeamo_cons, esTeamo_nil, eTeamo_eq]; done) | (simp [hC, List.length_append, List.length_cons, List.length_nil, List.append_nil, List.nil_append, List.cons_append, List.length_set, List.append_assoc, Nat.zero_add, List.length_replicate, nsz_succ, nsz_zero, esPlayer_app, esPlayer_cons, esPlayer_nil, ePlayer_eq, esTeam_app, esTeam_cons, esTeam_nil, eTeam_eq, esTeamo_app, esTeamo_cons, esTeamo_nil, eTeamo_eq]; done) | omega))) : A := h hF hC
theorem p_impl_FairTeams_sa {F C A : Prop} (hF : F) (hC : C) (h : F → C → A := by intro hF hC; first | exact ca_by hF | (refine sa_by hF ?_; (repeat' (first | exact trivial | apply And.intro)); all_goals (clear hF; first | rfl | (simp only [hC, List.length_append, List.length_cons, List.length_nil, List.append_nil, List.nil_append, List.cons_append, List.length_set, List.append_assoc, Nat.zero_add, List.length_replicate, nsz_succ, nsz_zero, esPlayer_app, esPlayer_cons, esPlayer_nil, ePlayer_eq, esTeam_app, esTeam_cons, esTeam_nil, eTeam_eq, esTeamo_app, esTeamo_cons, esTeamo_nil, eTeamo_eq]; done) | (simp [hC, List.length_append, List.length_cons, List.length_nil, List.append_nil, List.nil_append, List.cons_append, List.length_set, List.append_assoc, Nat.zero_add, List.length_replicate, nsz_succ, nsz_zero, esPlayer_app, esPlayer_cons, esPlayer_nil, ePlayer_eq, esTeam_app, esTeam_cons, esTeam_nil, eTeam_eq, esTeamo_app, esTeamo_cons, esTeamo_nil, eTeamo_eq]; done) | omega))) : A := h hF hC
theorem p_impl_FairTeams_rt {F C A : Prop} (hF : F) (hC : C) (h : F → C → A := by intro hF hC; first | (refine sr_by hF ?_; (repeat' (first | exact trivial | apply And.intro)); all_goals (clear hF; first | rfl | (simp only [hC, List.length_append, List.length_cons, List.length_nil, List.append_nil, List.nil_append, List.cons_append, List.length_set, List.append_assoc, Nat.zero_add, List.length_replicate, nsz_succ, nsz_zero, esPlayer_app, esPlayer_cons, esPlayer_nil, ePlayer_eq, esTeam_app, esTeam_cons, esTeam_nil, eTeam_eq, esTeamo_app, esTeamo_cons, esTeamo_nil, eTeamo_eq]; done) | (simp [hC, List.length_append, List.length_cons, List.length_nil, List.append_nil, List.nil_append, List.cons_append, List.length_set, List.append_assoc, Nat.zero_add, List.length_replicate, nsz_succ, nsz_zero, esPlayer_app, esPlayer_cons, esPlayer_nil, ePlayer_eq, esTeam_app, esTeam_cons, esTeam_nil, eTeam_eq, esTeamo_app, esTeamo_cons, esTeamo_nil, eTeamo_eq]; done) | omega)) | (first | rfl | (simp only [hC, List.length_append, List.length_cons, List.length_nil, List.append_nil, List.nil_append, List.cons_append, List.length_set, List.append_assoc, Nat.zero_add, List.length_replicate, nsz_succ, nsz_zero, esPlayer_app, esPlayer_cons, esPlayer_nil, ePlayer_eq, esTeam_app, esTeam_cons, esTeam_nil, eTeam_eq, esTeamo_app, esTeamo_cons, esTeamo_nil, eTeamo_eq]; done) | (simp [hC, List.length_append, List.length_cons, List.length_nil, List.append_nil, List.nil_append, List.cons_append, List.length_set, List.append_assoc, Nat.zero_add, List.length_replicate, nsz_succ, nsz_zero, esPlayer_app, esPlayer_cons, esPlayer_nil, ePlayer_eq, esTeam_app, esTeam_cons, esTeam_nil, eTeam_eq, esTeamo_app, esTeamo_cons, esTeamo_nil, eTeamo_eq]; done) | omega)) : A := h hF hC
def p_impl_FairTeams_tf := PLift.up (And.intro @ePlayer_eq (And.intro @esPlayer_len (And.intro @esPlayer_nil (And.intro @esPlayer_leaf (And.intro @esPlayer_fit (And.intro @eTeam_eq (And.intro @esTeam_len (And.intro @esTeam_nil (And.intro @esTeam_leaf (And.intro @esTeam_fit (And.intro @eTeamo_eq (And.intro @esTeamo_len (And.intro @esTeamo_nil (And.intro @esPlayer_share (And.intro @esPlayer_pure (And.intro @esTeamo_share (And.intro @esTeamo_pure (And.intro @str_beq (And.intro @Int.toNat_one (And.intro @Ty.sl34 (And.intro @Ty.slz34 (And.intro @Ty.nz3 (And.intro @Ty.ldA3 (And.intro @Ty.ldS3 (And.intro @Ty.sz3 (And.intro @Ty.szn3 (And.intro @Ty.fo58_1 (And.intro @Ty.fk58_1 (And.intro @Ty.fs58_1 (And.intro @Ty.fn58_1 (And.intro @Ty.sl27 (And.intro @Ty.nze34 (And.intro @Ty.zok34 (And.intro @Ty.by34 (And.intro @Ty.zs34 (And.intro @Ty.int3 (And.intro @Ty.int56 @trivial)))))))))))))))))))))))))))))))))))))
def p_impl_FairTeams (N : Nat) (l_a0 : List GPlayer) : Option (List GTeam × Bool) := ((p_impl_GoodPlayers l_a0).bind fun v1 => (if v1 = true then (if (l_a0.length : Int) = 0 then p_impl_FairTeams_j0 N l_a0 true else p_impl_FairTeams_j0 N l_a0 ((Int.tmod (l_a0.length : Int) 2) == 1)) else p_impl_FairTeams_j0 N l_a0 true))
theorem p_impl_FairTeams_does (N : Nat) (l_a0 : List GPlayer) (r : List GTeam × Bool) (h : p_impl_FairTeams N l_a0 = some r) : Does Try.prog 15 [.row false 3 l_a0.length (esPlayer l_a0)] (.tup [.row true 2 r.1.length (esTeamo r.1), B r.2]) := by
  rw [p_impl_FairTeams] at h
  refine Does.bnd (fun hb => ?_)
  have hb2 : l_a0.length ≤ 9223372036854775807 := by simpa [AV.fitNs, AV.fitN] using hb
  have hl0 := hb2
  refine Does.walkA (nt := 71) Try.func15 rfl rfl (by simp) (by decide) rfl (fun G0 X w0 pv => ?_)
  have ff := p_impl_FairTeams_tf.down
  refine AWP.seq (aw_sound ?_)
  try refine st_by ff ?_
  repeat' (first | exact trivial | refine And.intro sd ?_)
  refine AWP.seq (aw_sound ?_)
  try refine st_by ff ?_
  repeat' (first | exact trivial | refine And.intro sd ?_)
  clear ff
  refine AWP.seq (aw_sound ?_)
  obtain ⟨v1, ev1, h⟩ := Option.bind_eq_some_iff.1 h
  try dsimp only at h
  have ff := p_impl_FairTeams_tf.down
  try refine st_by ff ?_
  repeat' (first | exact trivial | refine And.intro sd ?_)
  first
  | (refine cq_call (p_impl_GoodPlayers_does l_a0 v1 ev1) (hf_by ff) kr ⟨p_impl_FairTeams_sa ff trivial, ?_⟩; clear ff)
  | (refine cq_dcall (p_impl_GoodPlayers_does l_a0 v1 ev1) (hf_by ff) kr ⟨p_impl_FairTeams_sa ff trivial, ?_⟩; clear ff)
  have ff := p_impl_FairTeams_tf.down
  try refine st_by ff ?_
  repeat' (first | exact trivial | refine And.intro sd ?_)
  try clear ff
  generalize hk_0 : thenK _ _ = kk_0
  have key_0 : ∀ σ, (∃ b_2 : Bool, (p_impl_FairTeams_j0 N l_a0 b_2 = some r) ∧ σ.t 0 = .row false 3 l_a0.length (esPlayer l_a0) ∧ σ.t 4 = I (l_a0.length : Int) ∧ σ.t 23 = B b_2) → kk_0 .nm σ := by
    rintro σ ⟨b_2, h, g0_j0, g1_j0, g2_j0⟩
    rw [← hk_0, thenK_nm]
    rw [p_impl_FairTeams_j0] at h
    by_cases c3 : b_2 = true
    · rw [if_pos c3] at h
      have dc3 := c3
      have ff := And.intro @g0_j0 (And.intro @g1_j0 (And.intro @g2_j0 (And.intro @dc3 p_impl_FairTeams_tf.down)))
      try refine st_by ff ?_
      repeat' (first | exact trivial | refine And.intro sd ?_)
      cases h
      exact ret_q2 rfl (p_impl_FairTeams_rt ff trivial)
    rw [if_neg c3] at h
    have dc3 := eq_false_of_ne_true c3
    by_cases c4 : 0 ≤ (l_a0.length : Int)
    case neg => rw [if_neg c4] at h; cases h
    rw [if_pos c4] at h
    obtain ⟨q_0, eq_0, h⟩ := Option.bind_eq_some_iff.1 h
    have ff := And.intro @g0_j0 (And.intro @g1_j0 (And.intro @g2_j0 (And.intro @dc3 p_impl_FairTeams_tf.down)))
    try refine st_by ff ?_
    repeat' (first | exact trivial | refine And.intro sd ?_)
    refine AWP.seq (AWP.region ?_)
    refine seq_lj rfl (l_assignNil (sz := 0) (by show 5 < 71; decide) rfl ?_)
    refine Seq.nil ?_
    rw [thenK_nm]
    refine AWP.seq (aw_sound ?_)
    try refine st_by ff ?_
    repeat' (first | exact trivial | refine And.intro sd ?_)
    refine AWP.seq (aw_sound ?_)
    try refine st_by ff ?_
    repeat' (first | exact trivial | refine And.intro sd ?_)
    obtain ⟨I_0, hI_0⟩ : ∃ I_ : (Nat × Int × Int × (List GTeam)) → ASt → Prop, I_ = (fun (a : Nat × Int × Int × (List GTeam)) σ => match a with | (n_0, least_14, mask_15, best_16) => (p_impl_FairTeams_l0 l_a0 n_0 least_14 mask_15 best_16 = some q_0) ∧ σ.t 0 = .row false 3 l_a0.length (esPlayer l_a0) ∧ σ.t 4 = I (l_a0.length : Int) ∧ σ.t 5 = .sl 5 [] 0 best_16.length ∧ σ.t 6 = I least_14 ∧ σ.t 7 = I mask_15 ∧ σ.m 5 = some (.row true (nsz best_16.length 2) best_16.length (esTeamo best_16))) := ⟨_, rfl⟩
    obtain ⟨M_0, hM_0⟩ : ∃ M_ : (Nat × Int × Int × (List GTeam)) → Nat, M_ = (fun (a : Nat × Int × Int × (List GTeam)) => match a with | (n_0, least_14, mask_15, best_16) => n_0) := ⟨_, rfl⟩
    obtain ⟨J_0, hJ_0⟩ : ∃ J_ : ASt → Prop, J_ = (fun σ => ∃ least_14 : Int, ∃ mask_15 : Int, ∃ best_16 : List GTeam, (some (least_14, mask_15, best_16) = some q_0) ∧ σ.t 5 = .sl 5 [] 0 best_16.length ∧ σ.m 5 = some (.row true (nsz best_16.length 2) best_16.length (esTeamo best_16))) := ⟨_, rfl⟩
    refine aw_loopC (id := 0) I_0 M_0 J_0 (N, 0, (IntKind.i64.wrap ((IntKind.i64.wrap ((1 : Int) * 2 ^ (min (l_a0.length : Int).toNat IntKind.i64.bits))) - 1)), ([] : List GTeam)) ?_ ?_ ?_
    · rw [hI_0]
      refine ⟨eq_0, ?_⟩
      exact p_impl_FairTeams_pv ff trivial
    · try clear ff
      rintro ⟨n_0, least_14, mask_15, best_16⟩ σ hg_0
      rw [hI_0] at hg_0
      obtain ⟨h_0, g0_0, g1_0, g2_0, g3_0, g4_0, g5_0⟩ := hg_0
      cases n_0 with
      | zero => rw [p_impl_FairTeams_l0] at h_0; cases h_0
      | succ n_0 =>
        rw [p_impl_FairTeams_l0] at h_0
        by_cases c26 : 0 ≤ (IntKind.i64.wrap ((l_a0.length : Int) - 1))
        case neg => rw [if_neg c26] at h_0; cases h_0
        rw [if_pos c26] at h_0
        by_cases c27 : mask_15 ≥ (IntKind.i64.wrap ((1 : Int) * 2 ^ (min (IntKind.i64.wrap ((l_a0.length : Int) - 1)).toNat IntKind.i64.bits)))
        case neg =>
         rw [if_neg c27] at h_0
         have dc27 := decide_eq_false c27
         have ff := And.intro @dc3 (And.intro @g0_0 (And.intro @g1_0 (And.intro @g2_0 (And.intro @g3_0 (And.intro @g4_0 (And.intro @g5_0 (And.intro @dc27 p_impl_FairTeams_tf.down)))))))
         try refine st_by ff ?_
         repeat' (first | exact trivial | refine And.intro sd ?_)
         refine JW.intro ?_
         rw [hJ_0]
         refine ⟨least_14, mask_15, best_16, h_0, ?_⟩
         exact p_impl_FairTeams_pv ff trivial
        rw [if_pos c27] at h_0
        have dc27 := decide_eq_true c27
        obtain ⟨v28, ev28, h_0⟩ := Option.bind_eq_some_iff.1 h_0
        try dsimp only at h_0
        have ff := And.intro @dc3 (And.intro @g0_0 (And.intro @g1_0 (And.intro @g2_0 (And.intro @g3_0 (And.intro @g4_0 (And.intro @g5_0 (And.intro @dc27 p_impl_FairTeams_tf.down)))))))
        try refine st_by ff ?_
        repeat' (first | exact trivial | refine And.intro sd ?_)
        first
        | (refine cq_call (p_math_bits_OnesCount_does (IntKind.u64.wrap mask_15) v28 ev28) (hf_by ff) kr ⟨p_impl_FairTeams_sa ff trivial, ?_⟩; clear ff)
        | (refine cq_dcall (p_math_bits_OnesCount_does (IntKind.u64.wrap mask_15) v28 ev28) (hf_by ff) kr ⟨p_impl_FairTeams_sa ff trivial, ?_⟩; clear ff)
        by_cases c29 : v28 = (IntKind.i64.wrap (Int.tdiv (l_a0.length : Int) 2))
        case neg =>
         rw [if_neg c29] at h_0
         have dc29 := beq_no c29
         have ff := And.intro @dc3 (And.intro @g0_0 (And.intro @g1_0 (And.intro @g2_0 (And.intro @g3_0 (And.intro @g4_0 (And.intro @g5_0 (And.intro @dc27 (And.intro @dc29 p_impl_FairTeams_tf.down))))))))
         try refine st_by ff ?_
         repeat' (first | exact trivial | refine And.intro sd ?_)
         refine Back.intro (n_0, least_14, (IntKind.i64.wrap (mask_15 - 1)), best_16) ?_ ?_
         · rw [hM_0]; exact Nat.lt_succ_self _
         rw [hI_0]
         refine ⟨h_0, ?_⟩
         exact p_impl_FairTeams_pv ff trivial
        rw [if_pos c29] at h_0
        have dc29 := beq_yes c29
        obtain ⟨v30, ev30, h_0⟩ := Option.bind_eq_some_iff.1 h_0
        try dsimp only at h_0
        have ff := And.intro @dc3 (And.intro @g0_0 (And.intro @g1_0 (And.intro @g2_0 (And.intro @g3_0 (And.intro @g4_0 (And.intro @g5_0 (And.intro @dc27 (And.intro @dc29 p_impl_FairTeams_tf.down))))))))
        try refine st_by ff ?_
        repeat' (first | exact trivial | refine And.intro sd ?_ | (refine aw_drawn (id := 10) ?_ [[], [], [0, 1], [], [], [4], [4, 5], [], [4, 5, 6, 7], [0, 1, 2, 3, 4, 5, 6, 7, 8], [0, 1, 2, 3, 4, 5, 6, 7, 8, 9], [0, 1, 2, 3, 4, 5, 6, 7, 8, 9, 10]] 9 ?_ ?_; (· kernel_rfl); (· kernel_rfl); refine st_by ff ?_))
        first
        | (refine cq_own (p_impl_team_does l_a0 mask_15 v30 ev30) (hf_by ff) kr ⟨p_impl_FairTeams_sa ff trivial, ?_⟩; clear ff)
        | (refine cq_down (p_impl_team_does l_a0 mask_15 v30 ev30) (hf_by ff) kr ⟨p_impl_FairTeams_sa ff trivial, ?_⟩; clear ff)
        obtain ⟨v31, ev31, h_0⟩ := Option.bind_eq_some_iff.1 h_0
        try dsimp only at h_0
        have ff := And.intro @dc3 (And.intro @g0_0 (And.intro @g1_0 (And.intro @g2_0 (And.intro @g3_0 (And.intro @g4_0 (And.intro @g5_0 (And.intro @dc27 (And.intro @dc29 p_impl_FairTeams_tf.down))))))))
        try refine st_by ff ?_
        repeat' (first | exact trivial | refine And.intro sd ?_)
        first
        | (refine cq_own (p_impl_team_does l_a0 (IntKind.i64.wrap ((IntKind.i64.wrap ((IntKind.i64.wrap ((1 : Int) * 2 ^ (min (l_a0.length : Int).toNat IntKind.i64.bits))) - 1)) - mask_15)) v31 ev31) (hf_by ff) kr ⟨p_impl_FairTeams_sa ff trivial, ?_⟩; clear ff)
        | (refine cq_down (p_impl_team_does l_a0 (IntKind.i64.wrap ((IntKind.i64.wrap ((IntKind.i64.wrap ((1 : Int) * 2 ^ (min (l_a0.length : Int).toNat IntKind.i64.bits))) - 1)) - mask_15)) v31 ev31) (hf_by ff) kr ⟨p_impl_FairTeams_sa ff trivial, ?_⟩; clear ff)
        obtain ⟨v32, ev32, h_0⟩ := Option.bind_eq_some_iff.1 h_0
        try dsimp only at h_0
        have ff := And.intro @dc3 (And.intro @g0_0 (And.intro @g1_0 (And.intro @g2_0 (And.intro @g3_0 (And.intro @g4_0 (And.intro @g5_0 (And.intro @dc27 (And.intro @dc29 p_impl_FairTeams_tf.down))))))))
        try refine st_by ff ?_
        repeat' (first | exact trivial | refine And.intro sd ?_ | (refine aw_drawn (id := 11) ?_ [[], [0], [0, 1], [0, 1, 2], [], [4], [4, 5], [4, 5, 6], [0, 1, 2, 3, 4, 5, 6, 7], [0, 1, 2, 3, 4, 5, 6, 7, 8], [0, 1, 2, 3, 4, 5, 6, 7, 8, 9]] 8 ?_ ?_; (· kernel_rfl); (· kernel_rfl); refine st_by ff ?_))
        first
        | (refine cq_call (p_impl_size_does (IntKind.i64.wrap (((⟨v30.Names, v30.Sum⟩ : GTeam).Sum) - ((⟨v31.Names, v31.Sum⟩ : GTeam).Sum))) v32 ev32) (hf_by ff) kr ⟨p_impl_FairTeams_sa ff trivial, ?_⟩; clear ff)
        | (refine cq_dcall (p_impl_size_does (IntKind.i64.wrap (((⟨v30.Names, v30.Sum⟩ : GTeam).Sum) - ((⟨v31.Names, v31.Sum⟩ : GTeam).Sum))) v32 ev32) (hf_by ff) kr ⟨p_impl_FairTeams_sa ff trivial, ?_⟩; clear ff)
        by_cases c33 : best_16.length = 0
        · rw [if_pos c33] at h_0
          have dc33 := decide_eq_true c33
          have ff := And.intro @dc3 (And.intro @g0_0 (And.intro @g1_0 (And.intro @g2_0 (And.intro @g3_0 (And.intro @g4_0 (And.intro @g5_0 (And.intro @dc27 (And.intro @dc29 (And.intro @dc33 p_impl_FairTeams_tf.down)))))))))
          try refine st_by ff ?_
          repeat' (first | exact trivial | refine And.intro sd ?_)
          refine Back.intro (n_0, v32, (IntKind.i64.wrap (mask_15 - 1)), ([(⟨v30.Names, v30.Sum⟩ : GTeam), (⟨v31.Names, v31.Sum⟩ : GTeam)] : List GTeam)) ?_ ?_
          · rw [hM_0]; exact Nat.lt_succ_self _
          rw [hI_0]
          refine ⟨h_0, ?_⟩
          exact p_impl_FairTeams_pv ff trivial
        rw [if_neg c33] at h_0
        have dc33 := decide_eq_false c33
        by_cases c34 : v32 < least_14
        case neg =>
         rw [if_neg c34] at h_0
         have dc34 := decide_eq_false c34
         have ff := And.intro @dc3 (And.intro @g0_0 (And.intro @g1_0 (And.intro @g2_0 (And.intro @g3_0 (And.intro @g4_0 (And.intro @g5_0 (And.intro @dc27 (And.intro @dc29 (And.intro @dc33 (And.intro @dc34 p_impl_FairTeams_tf.down))))))))))
         try refine st_by ff ?_
         repeat' (first | exact trivial | refine And.intro sd ?_)
         refine Back.intro (n_0, least_14, (IntKind.i64.wrap (mask_15 - 1)), best_16) ?_ ?_
         · rw [hM_0]; exact Nat.lt_succ_self _
         rw [hI_0]
         refine ⟨h_0, ?_⟩
         exact p_impl_FairTeams_pv ff trivial
        rw [if_pos c34] at h_0
        have dc34 := decide_eq_true c34
        have ff := And.intro @dc3 (And.intro @g0_0 (And.intro @g1_0 (And.intro @g2_0 (And.intro @g3_0 (And.intro @g4_0 (And.intro @g5_0 (And.intro @dc27 (And.intro @dc29 (And.intro @dc33 (And.intro @dc34 p_impl_FairTeams_tf.down))))))))))
        try refine st_by ff ?_
        repeat' (first | exact trivial | refine And.intro sd ?_)
        refine Back.intro (n_0, v32, (IntKind.i64.wrap (mask_15 - 1)), ([(⟨v30.Names, v30.Sum⟩ : GTeam), (⟨v31.Names, v31.Sum⟩ : GTeam)] : List GTeam)) ?_ ?_
        · rw [hM_0]; exact Nat.lt_succ_self _
        rw [hI_0]
        refine ⟨h_0, ?_⟩
        exact p_impl_FairTeams_pv ff trivial
    · try clear ff
      rintro σ hg_0
      rw [hJ_0] at hg_0
      obtain ⟨least_14, mask_15, best_16, hj_0, g0_0a, g1_0a⟩ := hg_0
      cases hj_0
      try dsimp only at h
      refine AWP.seq (aw_sound ?_)
      have ff := And.intro @dc3 (And.intro @g0_0a (And.intro @g1_0a p_impl_FairTeams_tf.down))
      try refine st_by ff ?_
      repeat' (first | exact trivial | refine And.intro sd ?_)
      cases h
      refine AWP.ret ?_
      rw [retK_rt]
      refine RetJ.deN ?_
      exact ret_q2 rfl (p_impl_FairTeams_rt ff trivial)
  have hrt_0 := fun σ : ASt => congrFun (congrFun hk_0.symm AX.rt) σ
  have hex_0 := fun (i : Nat) (σ : ASt) => congrFun (congrFun hk_0.symm (AX.ex i)) σ
  by_cases c35 : v1 = true
  case neg =>
   rw [if_neg c35] at h
   have dc35 := eq_false_of_ne_true c35
   have ff := And.intro @hrt_0 (And.intro @hex_0 (And.intro @dc35 p_impl_FairTeams_tf.down))
   try refine st_by ff ?_
   repeat' (first | exact trivial | refine And.intro sd ?_)
   refine key_0 _ ?_
   refine ⟨true, h, ?_⟩
   exact p_impl_FairTeams_pv ff trivial
  rw [if_pos c35] at h
  have dc35 := c35
  by_cases c36 : (l_a0.length : Int) = 0
  case neg =>
   rw [if_neg c36] at h
   have dc36 := beq_no c36
   have ff := And.intro @hrt_0 (And.intro @hex_0 (And.intro @dc35 (And.intro @dc36 p_impl_FairTeams_tf.down)))
   try refine st_by ff ?_
   repeat' (first | exact trivial | refine And.intro sd ?_)
   refine key_0 _ ?_
   refine ⟨((Int.tmod (l_a0.length : Int) 2) == 1), h, ?_⟩
   exact p_impl_FairTeams_pv ff trivial
  rw [if_pos c36] at h
  have dc36 := beq_yes c36
  have ff := And.intro @hrt_0 (And.intro @hex_0 (And.intro @dc35 (And.intro @dc36 p_impl_FairTeams_tf.down)))
  try refine st_by ff ?_
  repeat' (first | exact trivial | refine And.intro sd ?_)
  refine key_0 _ ?_
  refine ⟨true, h, ?_⟩
  exact p_impl_FairTeams_pv ff trivial
end Go.Av
