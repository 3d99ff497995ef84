/- spec.l25Player -/
import Derived.Test.YtbldpkglmjajlaaBYh
import Derived.Test.YtbldpkglmjajlaaBL0
import Derived.Test.YtbldpkglmjajlaaBG3
set_option linter.unusedSimpArgs false
set_option linter.unusedVariables false
set_option maxRecDepth 100000
set_option maxHeartbeats 1000000
namespace Go.Av
open Go.Proofs
/-! spec.l25Player -/
theorem p_spec_l25Player_pv {F C A : Prop} (hF : F) (hC : C) (h : F → C → A := by intro hF hC; first | exact cl_by hF | (refine st_by hF ?_; (repeat' (first | exact trivial | apply And.intro)); all_goals (clear hF; first | rfl | (simp only [hC, List.length_append, List.length_cons, List.length_nil, List.append_nil, List.nil_append, List.cons_append, List.length_set, List.append_assoc, Nat.zero_add, List.length_replicate, esPlayer_app, esPlayer_cons, esPlayer_nil, ePlayer_eq]; done) | (simp [hC, List.length_append, List.length_cons, List.length_nil, List.append_nil, List.nil_append, List.cons_append, List.length_set, List.append_assoc, Nat.zero_add, List.length_replicate, esPlayer_app, esPlayer_cons, esPlayer_nil, ePlayer_eq]; done) | omega))) : A := h hF hC
theorem p_spec_l25Player_sa {F C A : Prop} (hF : F) (hC : C) (h : F → C → A := by intro hF hC; first | exact ca_by hF | (refine sa_by hF ?_; (repeat' (first | exact trivial | apply And.intro)); all_goals (clear hF; first | rfl | (simp only [hC, List.length_append, List.length_cons, List.length_nil, List.append_nil, List.nil_append, List.cons_append, List.length_set, List.append_assoc, Nat.zero_add, List.length_replicate, esPlayer_app, esPlayer_cons, esPlayer_nil, ePlayer_eq]; done) | (simp [hC, List.length_append, List.length_cons, List.length_nil, List.append_nil, List.nil_append, List.cons_append, List.length_set, List.append_assoc, Nat.zero_add, List.length_replicate, esPlayer_app, esPlayer_cons, esPlayer_nil, ePlayer_eq]; done) | omega))) : A := h hF hC
theorem p_spec_l25Player_rt {F C A : Prop} (hF : F) (hC : C) (h : F → C → A := by intro hF hC; first | (refine sr_by hF ?_; (repeat' (first | exact trivial | apply And.intro)); all_goals (clear hF; first | rfl | (simp only [hC, List.length_append, List.length_cons, List.length_nil, List.append_nil, List.nil_append, List.cons_append, List.length_set, List.append_assoc, Nat.zero_add, List.length_replicate, esPlayer_app, esPlayer_cons, esPlayer_nil, ePlayer_eq]; done) | (simp [hC, List.length_append, List.length_cons, List.length_nil, List.append_nil, List.nil_append, List.cons_append, List.length_set, List.append_assoc, Nat.zero_add, List.length_replicate, esPlayer_app, esPlayer_cons, esPlayer_nil, ePlayer_eq]; done) | omega)) | (first | rfl | (simp only [hC, List.length_append, List.length_cons, List.length_nil, List.append_nil, List.nil_append, List.cons_append, List.length_set, List.append_assoc, Nat.zero_add, List.length_replicate, esPlayer_app, esPlayer_cons, esPlayer_nil, ePlayer_eq]; done) | (simp [hC, List.length_append, List.length_cons, List.length_nil, List.append_nil, List.nil_append, List.cons_append, List.length_set, List.append_assoc, Nat.zero_add, List.length_replicate, esPlayer_app, esPlayer_cons, esPlayer_nil, ePlayer_eq]; done) | omega)) : A := h hF hC
def p_spec_l25Player_tf := PLift.up (And.intro @ePlayer_eq (And.intro @esPlayer_len (And.intro @esPlayer_nil (And.intro @esPlayer_leaf (And.intro @esPlayer_fit (And.intro @esPlayer_share (And.intro @esPlayer_pure (And.intro @str_beq (And.intro @Ty.nz9 (And.intro @Ty.ldA9 (And.intro @Ty.ldS9 (And.intro @Ty.sz9 (And.intro @Ty.szn9 (And.intro @Ty.nz3 (And.intro @Ty.ldA3 (And.intro @Ty.ldS3 (And.intro @Ty.sz3 (And.intro @Ty.szn3 (And.intro @Ty.fo45_0 (And.intro @Ty.fk45_0 (And.intro @Ty.fs45_0 (And.intro @Ty.fn45_0 (And.intro @Ty.fo45_1 (And.intro @Ty.fk45_1 (And.intro @Ty.fs45_1 (And.intro @Ty.fn45_1 (And.intro @Ty.fo45_2 (And.intro @Ty.fk45_2 (And.intro @Ty.fs45_2 (And.intro @Ty.fn45_2 @trivial))))))))))))))))))))))))))))))
def p_spec_l25Player (p_a0 : GPlayer) : Option (Bool) := (if p_a0.Name.size ≤ 9223372036854775807 then (if (goodName p_a0.Name) = true then (if (rng p_a0.Rating 0 4000) = true then some (rng p_a0.Since 0 100000) else some false) else some false) else none)
theorem p_spec_l25Player_does (p_a0 : GPlayer) (r : Bool) (h : p_spec_l25Player p_a0 = some r) : Does Try.prog 38 [.agg (ePlayer p_a0)] (B r) := by
  rw [p_spec_l25Player] at h
  refine Does.walk (nt := 16) Try.func38 rfl rfl (by simp) (by decide) rfl (fun G0 X w0 pv => ?_)
  by_cases c1 : p_a0.Name.size ≤ 9223372036854775807
  case neg => rw [if_neg c1] at h; cases h
  rw [if_pos c1] at h
  have ff := p_spec_l25Player_tf.down
  try refine st_by ff ?_
  repeat' (first | exact trivial | refine And.intro sd ?_)
  first
  | (refine cq_call (specGoodName_does p_a0.Name (by first | assumption | omega)) (hf_by ff) kr ⟨p_spec_l25Player_sa ff trivial, ?_⟩; clear ff)
  by_cases c2 : (goodName p_a0.Name) = true
  case neg =>
   rw [if_neg c2] at h
   have dc2 := eq_false_of_ne_true c2
   have ff := And.intro @dc2 p_spec_l25Player_tf.down
   try refine st_by ff ?_
   repeat' (first | exact trivial | refine And.intro sd ?_)
   cases h
   exact ret_q1 rfl (p_spec_l25Player_rt ff trivial)
  rw [if_pos c2] at h
  have dc2 := c2
  have ff := And.intro @dc2 p_spec_l25Player_tf.down
  try refine st_by ff ?_
  repeat' (first | exact trivial | refine And.intro sd ?_)
  first
  | (refine cq_call (l1In_does p_a0.Rating 0 4000) (hf_by ff) kr ⟨p_spec_l25Player_sa ff trivial, ?_⟩; clear ff)
  by_cases c3 : (rng p_a0.Rating 0 4000) = true
  case neg =>
   rw [if_neg c3] at h
   have dc3 := eq_false_of_ne_true c3
   have ff := And.intro @dc2 (And.intro @dc3 p_spec_l25Player_tf.down)
   try refine st_by ff ?_
   repeat' (first | exact trivial | refine And.intro sd ?_)
   cases h
   exact ret_q1 rfl (p_spec_l25Player_rt ff trivial)
  rw [if_pos c3] at h
  have dc3 := c3
  have ff := And.intro @dc2 (And.intro @dc3 p_spec_l25Player_tf.down)
  try refine st_by ff ?_
  repeat' (first | exact trivial | refine And.intro sd ?_)
  first
  | (refine cq_call (l1In_does p_a0.Since 0 100000) (hf_by ff) kr ⟨p_spec_l25Player_sa ff trivial, ?_⟩; clear ff)
  have ff := And.intro @dc2 (And.intro @dc3 p_spec_l25Player_tf.down)
  try refine st_by ff ?_
  repeat' (first | exact trivial | refine And.intro sd ?_)
  cases h
  exact ret_q1 rfl (p_spec_l25Player_rt ff trivial)
/-! spec.GoodPlayers -/
def p_spec_GoodPlayers_l0 (l_a0 : List GPlayer) : List GPlayer → Nat → Option (LR (Bool) (Unit))
  | [], i_0 => some (.out ())
  | x_0 :: r_0, i_0 => ((p_spec_l25Player x_0).bind fun v21 => (if v21 = true then (if (i_0 : Int) > 0 then ((idx l_a0 (IntKind.i64.wrap ((i_0 : Int) - 1))).bind fun x24 => (if (Op.bytesLess x24.Name.toList x_0.Name.toList) = true then p_spec_GoodPlayers_l0 l_a0 r_0 (i_0 + 1) else some (.ret false))) else p_spec_GoodPlayers_l0 l_a0 r_0 (i_0 + 1)) else some (.ret false)))
theorem p_spec_GoodPlayers_pv {F C A : Prop} (hF : F) (hC : C) (h : F → C → A := by intro hF hC; first | exact cl_by hF | (refine st_by hF ?_; (repeat' (first | exact trivial | apply And.intro)); all_goals (clear hF; first | rfl | (simp only [hC, List.length_append, List.length_cons, List.length_nil, List.append_nil, List.nil_append, List.cons_append, List.length_set, List.append_assoc, Nat.zero_add, List.length_replicate, esPlayer_app, esPlayer_cons, esPlayer_nil, ePlayer_eq]; done) | (simp [hC, List.length_append, List.length_cons, List.length_nil, List.append_nil, List.nil_append, List.cons_append, List.length_set, List.append_assoc, Nat.zero_add, List.length_replicate, esPlayer_app, esPlayer_cons, esPlayer_nil, ePlayer_eq]; done) | omega))) : A := h hF hC
theorem p_spec_GoodPlayers_sa {F C A : Prop} (hF : F) (hC : C) (h : F → C → A := by intro hF hC; first | exact ca_by hF | (refine sa_by hF ?_; (repeat' (first | exact trivial | apply And.intro)); all_goals (clear hF; first | rfl | (simp only [hC, List.length_append, List.length_cons, List.length_nil, List.append_nil, List.nil_append, List.cons_append, List.length_set, List.append_assoc, Nat.zero_add, List.length_replicate, esPlayer_app, esPlayer_cons, esPlayer_nil, ePlayer_eq]; done) | (simp [hC, List.length_append, List.length_cons, List.length_nil, List.append_nil, List.nil_append, List.cons_append, List.length_set, List.append_assoc, Nat.zero_add, List.length_replicate, esPlayer_app, esPlayer_cons, esPlayer_nil, ePlayer_eq]; done) | omega))) : A := h hF hC
theorem p_spec_GoodPlayers_rt {F C A : Prop} (hF : F) (hC : C) (h : F → C → A := by intro hF hC; first | (refine sr_by hF ?_; (repeat' (first | exact trivial | apply And.intro)); all_goals (clear hF; first | rfl | (simp only [hC, List.length_append, List.length_cons, List.length_nil, List.append_nil, List.nil_append, List.cons_append, List.length_set, List.append_assoc, Nat.zero_add, List.length_replicate, esPlayer_app, esPlayer_cons, esPlayer_nil, ePlayer_eq]; done) | (simp [hC, List.length_append, List.length_cons, List.length_nil, List.append_nil, List.nil_append, List.cons_append, List.length_set, List.append_assoc, Nat.zero_add, List.length_replicate, esPlayer_app, esPlayer_cons, esPlayer_nil, ePlayer_eq]; done) | omega)) | (first | rfl | (simp only [hC, List.length_append, List.length_cons, List.length_nil, List.append_nil, List.nil_append, List.cons_append, List.length_set, List.append_assoc, Nat.zero_add, List.length_replicate, esPlayer_app, esPlayer_cons, esPlayer_nil, ePlayer_eq]; done) | (simp [hC, List.length_append, List.length_cons, List.length_nil, List.append_nil, List.nil_append, List.cons_append, List.length_set, List.append_assoc, Nat.zero_add, List.length_replicate, esPlayer_app, esPlayer_cons, esPlayer_nil, ePlayer_eq]; done) | omega)) : A := h hF hC
def p_spec_GoodPlayers_tf := PLift.up (And.intro @ePlayer_eq (And.intro @esPlayer_len (And.intro @esPlayer_nil (And.intro @esPlayer_leaf (And.intro @esPlayer_fit (And.intro @esPlayer_share (And.intro @esPlayer_pure (And.intro @str_beq (And.intro @Ty.sl27 (And.intro @Ty.slz27 (And.intro @Ty.nz45 (And.intro @Ty.ldA45 (And.intro @Ty.sz45 (And.intro @Ty.szn45 (And.intro @Ty.nz9 (And.intro @Ty.ldA9 (And.intro @Ty.ldS9 (And.intro @Ty.sz9 (And.intro @Ty.szn9 (And.intro @Ty.fo45_0 (And.intro @Ty.fk45_0 (And.intro @Ty.fs45_0 (And.intro @Ty.fn45_0 (And.intro @Ty.zv45 @trivial))))))))))))))))))))))))
def p_spec_GoodPlayers (l_a0 : List GPlayer) : Option (Bool) := (if (l_a0.length : Int) > 12 then some false else ((p_spec_GoodPlayers_l0 l_a0 l_a0 0).bind fun q_0 => match q_0 with | .ret r_ => some r_ | .out _ => some true))
theorem p_spec_GoodPlayers_does (l_a0 : List GPlayer) (r : Bool) (h : p_spec_GoodPlayers l_a0 = some r) : Does Try.prog 20 [.row false 3 l_a0.length (esPlayer l_a0)] (B r) := by
  rw [p_spec_GoodPlayers] at h
  refine Does.bnd (fun hb => ?_)
  have hb2 : l_a0.length ≤ 9223372036854775807 := by simpa [AV.fitNs, AV.fitN] using hb
  have hl0 := hb2
  refine Does.walk (nt := 34) Try.func20 rfl rfl (by simp) (by decide) rfl (fun G0 X w0 pv => ?_)
  by_cases c1 : (l_a0.length : Int) > 12
  · rw [if_pos c1] at h
    have dc1 := decide_eq_true c1
    have ff := And.intro @dc1 p_spec_GoodPlayers_tf.down
    try refine st_by ff ?_
    repeat' (first | exact trivial | refine And.intro sd ?_)
    cases h
    exact ret_q1 rfl (p_spec_GoodPlayers_rt ff trivial)
  rw [if_neg c1] at h
  have dc1 := decide_eq_false c1
  have hL_0 : l_a0.length ≤ 9223372036854775807 := by first | assumption | omega
  obtain ⟨q_0, eq_0, h⟩ := Option.bind_eq_some_iff.1 h
  have ff := And.intro @dc1 p_spec_GoodPlayers_tf.down
  try refine st_by ff ?_
  repeat' (first | exact trivial | refine And.intro sd ?_)
  obtain ⟨I_0, hI_0⟩ : ∃ I_ : (Nat) → ASt → Prop, I_ = (fun (i_0 : Nat) σ => (i_0 ≤ l_a0.length ∧ p_spec_GoodPlayers_l0 l_a0 (l_a0.drop i_0) i_0 = some q_0) ∧ σ.t 0 = .row false 3 l_a0.length (esPlayer l_a0) ∧ σ.t 8 = .row false 3 l_a0.length (esPlayer l_a0) ∧ σ.t 9 = I (l_a0.length : Int) ∧ σ.t 10 = I (i_0 : Int)) := ⟨_, rfl⟩
  obtain ⟨M_0, hM_0⟩ : ∃ M_ : (Nat) → Nat, M_ = (fun (i_0 : Nat) => l_a0.length - i_0) := ⟨_, rfl⟩
  obtain ⟨J_0, hJ_0⟩ : ∃ J_ : ASt → Prop, J_ = (fun σ => (some (.out ()) = some q_0) ∧ True) := ⟨_, rfl⟩
  refine aw_loopC (id := 0) I_0 M_0 J_0 (0) ?_ ?_ ?_
  · rw [hI_0]
    refine ⟨⟨Nat.zero_le _, eq_0⟩, ?_⟩
    exact p_spec_GoodPlayers_pv ff trivial
  · try clear ff
    rintro i_0 σ hg_0
    rw [hI_0] at hg_0
    obtain ⟨⟨hi_0, h_0⟩, g0_0, g1_0, g2_0, g3_0⟩ := hg_0
    cases hr_0 : l_a0.drop i_0 with
    | nil =>
      rw [hr_0] at h_0
      rw [p_spec_GoodPlayers_l0] at h_0
      have hn_0 := drop_nil hr_0
      have dr_0 : decide ((i_0 : Int) < (l_a0.length : Int)) = false := decide_eq_false (by omega)
      have ff := And.intro @dc1 (And.intro @dr_0 (And.intro @g0_0 (And.intro @g1_0 (And.intro @g2_0 (And.intro @g3_0 p_spec_GoodPlayers_tf.down)))))
      try refine st_by ff ?_
      repeat' (first | exact trivial | refine And.intro sd ?_)
      refine JW.intro ?_
      rw [hJ_0]
      refine ⟨h_0, ?_⟩
      exact p_spec_GoodPlayers_pv ff trivial
    | cons x_0 r_0 =>
      rw [hr_0] at h_0
      rw [p_spec_GoodPlayers_l0] at h_0
      obtain ⟨ht_0, hg_0, hd_0⟩ := drop_cons hr_0
      have dr_0 : decide ((i_0 : Int) < (l_a0.length : Int)) = true := decide_eq_true (by omega)
      have w_0 : IntKind.i64.wrap ((i_0 : Int) + 1) = ((i_0 + 1 : Nat) : Int) := wI _ (by omega) (by omega)
      have kk0c : (esPlayer l_a0).drop (i_0 * 3) = ePlayer x_0 ++ esPlayer (l_a0.drop (i_0 + 1)) := drop_enc (fun _ => rfl) (hg_0)
      obtain ⟨v21, ev21, h_0⟩ := Option.bind_eq_some_iff.1 h_0
      try dsimp only at h_0
      have ff := And.intro @dc1 (And.intro @dr_0 (And.intro @w_0 (And.intro @g0_0 (And.intro @g1_0 (And.intro @g2_0 (And.intro @g3_0 (And.intro @kk0c p_spec_GoodPlayers_tf.down)))))))
      try refine st_by ff ?_
      repeat' (first | exact trivial | refine And.intro sd ?_ | (refine aw_drawn (id := 6) ?_ [[], [0], [0, 1], [0, 1, 2], [0, 1, 2, 3], [0, 1, 2, 3, 4], [0, 1, 2, 3, 4, 5], [0, 1, 2, 3, 4, 5, 6], [0, 1, 2, 3, 4, 5, 6], [0, 1, 2, 3, 4, 5, 6, 8], [0, 1, 2, 3, 4, 5, 6, 7, 8, 9], [0, 1, 2, 3, 4, 5, 6, 7, 8, 9, 10], [0, 1, 2, 3, 4, 5, 6, 7, 8, 9, 10, 11], [0, 1, 2, 3, 4, 5, 6], [0, 1, 2, 3, 4, 5, 6, 13], [0, 1, 2, 3, 4, 5, 6, 7, 8, 9, 10, 11, 12, 13, 14], [0, 1, 2, 3, 4, 5, 6, 7, 8, 9, 10, 11, 12, 13, 14, 15], [0, 1, 2, 3, 4, 5, 6, 7, 8, 9, 10, 11, 12, 13, 14, 15, 16]] 15 ?_ ?_; (· kernel_rfl); (· kernel_rfl); refine st_by ff ?_))
      first
      | (refine cq_call (p_spec_l25Player_does x_0 v21 ev21) (hf_by ff) kr ⟨p_spec_GoodPlayers_sa ff trivial, ?_⟩; clear ff)
      | (refine cq_dcall (p_spec_l25Player_does x_0 v21 ev21) (hf_by ff) kr ⟨p_spec_GoodPlayers_sa ff trivial, ?_⟩; clear ff)
      by_cases c22 : v21 = true
      case neg =>
       rw [if_neg c22] at h_0
       have dc22 := eq_false_of_ne_true c22
       cases h_0
       try dsimp only at h
       have ff := And.intro @dc1 (And.intro @dr_0 (And.intro @w_0 (And.intro @g0_0 (And.intro @g1_0 (And.intro @g2_0 (And.intro @g3_0 (And.intro @kk0c (And.intro @dc22 p_spec_GoodPlayers_tf.down))))))))
       try refine st_by ff ?_
       repeat' (first | exact trivial | refine And.intro sd ?_)
       cases h
       exact ret_q1 rfl (p_spec_GoodPlayers_rt ff trivial)
      rw [if_pos c22] at h_0
      have dc22 := c22
      by_cases c23 : (i_0 : Int) > 0
      case neg =>
       rw [if_neg c23] at h_0
       have dc23 := decide_eq_false c23
       have ff := And.intro @dc1 (And.intro @dr_0 (And.intro @w_0 (And.intro @g0_0 (And.intro @g1_0 (And.intro @g2_0 (And.intro @g3_0 (And.intro @kk0c (And.intro @dc22 (And.intro @dc23 p_spec_GoodPlayers_tf.down)))))))))
       try refine st_by ff ?_
       repeat' (first | exact trivial | refine And.intro sd ?_)
       refine Back.intro (i_0 + 1) ?_ ?_
       · clear ff; rw [hM_0]; show l_a0.length - (i_0 + 1) < l_a0.length - i_0; omega
       rw [hI_0]
       refine ⟨⟨by clear ff; show i_0 + 1 ≤ l_a0.length; omega, by show p_spec_GoodPlayers_l0 l_a0 (l_a0.drop (i_0 + 1)) (i_0 + 1) = some q_0; rw [hd_0]; exact h_0⟩, ?_⟩
       exact p_spec_GoodPlayers_pv ff trivial
      rw [if_pos c23] at h_0
      have dc23 := decide_eq_true c23
      obtain ⟨x24, ex24, h_0⟩ := Option.bind_eq_some_iff.1 h_0
      try dsimp only at h_0
      have f25a := idx_lo ex24
      have f25b := idx_hi ex24
      have f25c : (esPlayer l_a0).drop (((IntKind.i64.wrap ((i_0 : Int) - 1)).toNat) * 3) = ePlayer x24 ++ esPlayer (l_a0.drop ((IntKind.i64.wrap ((i_0 : Int) - 1)).toNat + 1)) := drop_enc (fun _ => rfl) (idx_get ex24)
      by_cases c26 : (Op.bytesLess x24.Name.toList x_0.Name.toList) = true
      case neg =>
       rw [if_neg c26] at h_0
       have dc26 := eq_false_of_ne_true c26
       cases h_0
       try dsimp only at h
       have ff := And.intro @dc1 (And.intro @dr_0 (And.intro @w_0 (And.intro @g0_0 (And.intro @g1_0 (And.intro @g2_0 (And.intro @g3_0 (And.intro @kk0c (And.intro @dc22 (And.intro @dc23 (And.intro @f25c (And.intro @dc26 p_spec_GoodPlayers_tf.down)))))))))))
       try refine st_by ff ?_
       repeat' (first | exact trivial | refine And.intro sd ?_)
       cases h
       exact ret_q1 rfl (p_spec_GoodPlayers_rt ff trivial)
      rw [if_pos c26] at h_0
      have dc26 := c26
      have ff := And.intro @dc1 (And.intro @dr_0 (And.intro @w_0 (And.intro @g0_0 (And.intro @g1_0 (And.intro @g2_0 (And.intro @g3_0 (And.intro @kk0c (And.intro @dc22 (And.intro @dc23 (And.intro @f25c (And.intro @dc26 p_spec_GoodPlayers_tf.down)))))))))))
      try refine st_by ff ?_
      repeat' (first | exact trivial | refine And.intro sd ?_)
      refine Back.intro (i_0 + 1) ?_ ?_
      · clear ff; rw [hM_0]; show l_a0.length - (i_0 + 1) < l_a0.length - i_0; omega
      rw [hI_0]
      refine ⟨⟨by clear ff; show i_0 + 1 ≤ l_a0.length; omega, by show p_spec_GoodPlayers_l0 l_a0 (l_a0.drop (i_0 + 1)) (i_0 + 1) = some q_0; rw [hd_0]; exact h_0⟩, ?_⟩
      exact p_spec_GoodPlayers_pv ff trivial
  · try clear ff
    rintro σ hg_0
    rw [hJ_0] at hg_0
    obtain ⟨hj_0, _⟩ := hg_0
    cases hj_0
    try dsimp only at h
    have ff := And.intro @dc1 p_spec_GoodPlayers_tf.down
    try refine st_by ff ?_
    repeat' (first | exact trivial | refine And.intro sd ?_)
    cases h
    exact ret_q1 rfl (p_spec_GoodPlayers_rt ff trivial)
/-! spec.l1Abs -/
theorem p_spec_l1Abs_pv {F C A : Prop} (hF : F) (hC : C) (h : F → C → A := by intro hF hC; first | exact cl_by hF | (refine st_by hF ?_; (repeat' (first | exact trivial | apply And.intro)); all_goals (clear hF; first | rfl | (simp only [hC, List.length_append, List.length_cons, List.length_nil, List.append_nil, List.nil_append, List.cons_append, List.length_set, List.append_assoc, Nat.zero_add, List.length_replicate]; done) | (simp [hC, List.length_append, List.length_cons, List.length_nil, List.append_nil, List.nil_append, List.cons_append, List.length_set, List.append_assoc, Nat.zero_add, List.length_replicate]; done) | omega))) : A := h hF hC
theorem p_spec_l1Abs_sa {F C A : Prop} (hF : F) (hC : C) (h : F → C → A := by intro hF hC; first | exact ca_by hF | (refine sa_by hF ?_; (repeat' (first | exact trivial | apply And.intro)); all_goals (clear hF; first | rfl | (simp only [hC, List.length_append, List.length_cons, List.length_nil, List.append_nil, List.nil_append, List.cons_append, List.length_set, List.append_assoc, Nat.zero_add, List.length_replicate]; done) | (simp [hC, List.length_append, List.length_cons, List.length_nil, List.append_nil, List.nil_append, List.cons_append, List.length_set, List.append_assoc, Nat.zero_add, List.length_replicate]; done) | omega))) : A := h hF hC
theorem p_spec_l1Abs_rt {F C A : Prop} (hF : F) (hC : C) (h : F → C → A := by intro hF hC; first | (refine sr_by hF ?_; (repeat' (first | exact trivial | apply And.intro)); all_goals (clear hF; first | rfl | (simp only [hC, List.length_append, List.length_cons, List.length_nil, List.append_nil, List.nil_append, List.cons_append, List.length_set, List.append_assoc, Nat.zero_add, List.length_replicate]; done) | (simp [hC, List.length_append, List.length_cons, List.length_nil, List.append_nil, List.nil_append, List.cons_append, List.length_set, List.append_assoc, Nat.zero_add, List.length_replicate]; done) | omega)) | (first | rfl | (simp only [hC, List.length_append, List.length_cons, List.length_nil, List.append_nil, List.nil_append, List.cons_append, List.length_set, List.append_assoc, Nat.zero_add, List.length_replicate]; done) | (simp [hC, List.length_append, List.length_cons, List.length_nil, List.append_nil, List.nil_append, List.cons_append, List.length_set, List.append_assoc, Nat.zero_add, List.length_replicate]; done) | omega)) : A := h hF hC
def p_spec_l1Abs_tf := PLift.up (And.intro @str_beq @trivial)
def p_spec_l1Abs (n_a0 : Int) : Option (Int) := (if n_a0 < 0 then some (IntKind.i64.wrap (0 - n_a0)) else some n_a0)
theorem p_spec_l1Abs_does (n_a0 : Int) (r : Int) (h : p_spec_l1Abs n_a0 = some r) : Does Try.prog 22 [I n_a0] (I r) := by
  rw [p_spec_l1Abs] at h
  refine Does.walk (nt := 8) Try.func22 rfl rfl (by simp) (by decide) rfl (fun G0 X w0 pv => ?_)
  by_cases c1 : n_a0 < 0
  case neg =>
   rw [if_neg c1] at h
   have dc1 := decide_eq_false c1
   have ff := And.intro @dc1 p_spec_l1Abs_tf.down
   try refine st_by ff ?_
   repeat' (first | exact trivial | refine And.intro sd ?_)
   cases h
   exact ret_q1 rfl (p_spec_l1Abs_rt ff trivial)
  rw [if_pos c1] at h
  have dc1 := decide_eq_true c1
  have ff := And.intro @dc1 p_spec_l1Abs_tf.down
  try refine st_by ff ?_
  repeat' (first | exact trivial | refine And.intro sd ?_)
  cases h
  exact ret_q1 rfl (p_spec_l1Abs_rt ff trivial)
/-! spec.l25Wide -/
theorem p_spec_l25Wide_pv {F C A : Prop} (hF : F) (hC : C) (h : F → C → A := by intro hF hC; first | exact cl_by hF | (refine st_by hF ?_; (repeat' (first | exact trivial | apply And.intro)); all_goals (clear hF; first | rfl | (simp only [hC, List.length_append, List.length_cons, List.length_nil, List.append_nil, List.nil_append, List.cons_append, List.length_set, List.append_assoc, Nat.zero_add, List.length_replicate, esPlayer_app, esPlayer_cons, esPlayer_nil, ePlayer_eq]; done) | (simp [hC, List.length_append, List.length_cons, List.length_nil, List.append_nil, List.nil_append, List.cons_append, List.length_set, List.append_assoc, Nat.zero_add, List.length_replicate, esPlayer_app, esPlayer_cons, esPlayer_nil, ePlayer_eq]; done) | omega))) : A := h hF hC
theorem p_spec_l25Wide_sa {F C A : Prop} (hF : F) (hC : C) (h : F → C → A := by intro hF hC; first | exact ca_by hF | (refine sa_by hF ?_; (repeat' (first | exact trivial | apply And.intro)); all_goals (clear hF; first | rfl | (simp only [hC, List.length_append, List.length_cons, List.length_nil, List.append_nil, List.nil_append, List.cons_append, List.length_set, List.append_assoc, Nat.zero_add, List.length_replicate, esPlayer_app, esPlayer_cons, esPlayer_nil, ePlayer_eq]; done) | (simp [hC, List.length_append, List.length_cons, List.length_nil, List.append_nil, List.nil_append, List.cons_append, List.length_set, List.append_assoc, Nat.zero_add, List.length_replicate, esPlayer_app, esPlayer_cons, esPlayer_nil, ePlayer_eq]; done) | omega))) : A := h hF hC
theorem p_spec_l25Wide_rt {F C A : Prop} (hF : F) (hC : C) (h : F → C → A := by intro hF hC; first | (refine sr_by hF ?_; (repeat' (first | exact trivial | apply And.intro)); all_goals (clear hF; first | rfl | (simp only [hC, List.length_append, List.length_cons, List.length_nil, List.append_nil, List.nil_append, List.cons_append, List.length_set, List.append_assoc, Nat.zero_add, List.length_replicate, esPlayer_app, esPlayer_cons, esPlayer_nil, ePlayer_eq]; done) | (simp [hC, List.length_append, List.length_cons, List.length_nil, List.append_nil, List.nil_append, List.cons_append, List.length_set, List.append_assoc, Nat.zero_add, List.length_replicate, esPlayer_app, esPlayer_cons, esPlayer_nil, ePlayer_eq]; done) | omega)) | (first | rfl | (simp only [hC, List.length_append, List.length_cons, List.length_nil, List.append_nil, List.nil_append, List.cons_append, List.length_set, List.append_assoc, Nat.zero_add, List.length_replicate, esPlayer_app, esPlayer_cons, esPlayer_nil, ePlayer_eq]; done) | (simp [hC, List.length_append, List.length_cons, List.length_nil, List.append_nil, List.nil_append, List.cons_append, List.length_set, List.append_assoc, Nat.zero_add, List.length_replicate, esPlayer_app, esPlayer_cons, esPlayer_nil, ePlayer_eq]; done) | omega)) : A := h hF hC
def p_spec_l25Wide_tf := PLift.up (And.intro @ePlayer_eq (And.intro @esPlayer_len (And.intro @esPlayer_nil (And.intro @esPlayer_leaf (And.intro @esPlayer_fit (And.intro @esPlayer_share (And.intro @esPlayer_pure (And.intro @str_beq (And.intro @Ty.nz3 (And.intro @Ty.ldA3 (And.intro @Ty.ldS3 (And.intro @Ty.sz3 (And.intro @Ty.szn3 (And.intro @Ty.fo45_2 (And.intro @Ty.fk45_2 (And.intro @Ty.fs45_2 (And.intro @Ty.fn45_2 @trivial)))))))))))))))))
def p_spec_l25Wide (p_a0 : GPlayer) (now_a1 : Int) : Option (Int) := (if (IntKind.i64.wrap (50 + (IntKind.i64.wrap (Int.tdiv (IntKind.i64.wrap (now_a1 - p_a0.Since)) 10)))) > 1000 then some 1000 else some (IntKind.i64.wrap (50 + (IntKind.i64.wrap (Int.tdiv (IntKind.i64.wrap (now_a1 - p_a0.Since)) 10)))))
theorem p_spec_l25Wide_does (p_a0 : GPlayer) (now_a1 : Int) (r : Int) (h : p_spec_l25Wide p_a0 now_a1 = some r) : Does Try.prog 23 [.agg (ePlayer p_a0), I now_a1] (I r) := by
  rw [p_spec_l25Wide] at h
  refine Does.walk (nt := 15) Try.func23 rfl rfl (by simp) (by decide) rfl (fun G0 X w0 pv => ?_)
  by_cases c1 : (IntKind.i64.wrap (50 + (IntKind.i64.wrap (Int.tdiv (IntKind.i64.wrap (now_a1 - p_a0.Since)) 10)))) > 1000
  case neg =>
   rw [if_neg c1] at h
   have dc1 := decide_eq_false c1
   have ff := And.intro @dc1 p_spec_l25Wide_tf.down
   try refine st_by ff ?_
   repeat' (first | exact trivial | refine And.intro sd ?_)
   cases h
   exact ret_q1 rfl (p_spec_l25Wide_rt ff trivial)
  rw [if_pos c1] at h
  have dc1 := decide_eq_true c1
  have ff := And.intro @dc1 p_spec_l25Wide_tf.down
  try refine st_by ff ?_
  repeat' (first | exact trivial | refine And.intro sd ?_)
  cases h
  exact ret_q1 rfl (p_spec_l25Wide_rt ff trivial)
/-! spec.NextMatch -/
def p_spec_NextMatch_l0 (now_a1 : Int) : List GPlayer → Nat → Option (LR (List ByteArray × Bool) (Unit))
  | [], i_0 => some (.out ())
  | x_0 :: r_0, i_0 => (if x_0.Since > now_a1 then some (.ret (([] : List ByteArray), false)) else p_spec_NextMatch_l0 now_a1 r_0 (i_0 + 1))
def p_spec_NextMatch_j2 (x_1 : GPlayer) (since_131 : Int) (least_132 : Int) (out_133 : List ByteArray) (x_2 : GPlayer) (i_2 : Nat) (v148 : Int) (rec_1 : Nat → Int → Int → (List ByteArray) → Option (Int × Int × (List ByteArray))) (b_152 : Bool) : Option (Int × Int × (List ByteArray)) := (if b_152 = true then rec_1 (i_2 + 1) (IntKind.i64.wrap (x_1.Since + x_2.Since)) v148 ([x_1.Name, x_2.Name] : List ByteArray) else rec_1 (i_2 + 1) since_131 least_132 out_133)
def p_spec_NextMatch_j1 (x_1 : GPlayer) (since_131 : Int) (least_132 : Int) (out_133 : List ByteArray) (x_2 : GPlayer) (i_2 : Nat) (v148 : Int) (rec_1 : Nat → Int → Int → (List ByteArray) → Option (Int × Int × (List ByteArray))) (b_150 : Bool) : Option (Int × Int × (List ByteArray)) := (if b_150 = true then rec_1 (i_2 + 1) since_131 least_132 out_133 else (if (out_133.length : Int) = 0 then p_spec_NextMatch_j2 x_1 since_131 least_132 out_133 x_2 i_2 v148 (rec_1) true else (if (IntKind.i64.wrap (x_1.Since + x_2.Since)) < since_131 then p_spec_NextMatch_j2 x_1 since_131 least_132 out_133 x_2 i_2 v148 (rec_1) true else (if (IntKind.i64.wrap (x_1.Since + x_2.Since)) = since_131 then p_spec_NextMatch_j2 x_1 since_131 least_132 out_133 x_2 i_2 v148 (rec_1) (decide (v148 < least_132)) else p_spec_NextMatch_j2 x_1 since_131 least_132 out_133 x_2 i_2 v148 (rec_1) false))))
def p_spec_NextMatch_l2 (now_a1 : Int) (x_1 : GPlayer) : List GPlayer → Nat → Int → Int → (List ByteArray) → Option (Int × Int × (List ByteArray))
  | [], i_2, since_131, least_132, out_133 => some (since_131, least_132, out_133)
  | x_2 :: r_2, i_2, since_131, least_132, out_133 => ((p_spec_l1Abs (IntKind.i64.wrap (x_1.Rating - x_2.Rating))).bind fun v148 => ((p_spec_l25Wide x_1 now_a1).bind fun v149 => (if v148 > v149 then p_spec_NextMatch_j1 x_1 since_131 least_132 out_133 x_2 i_2 v148 (p_spec_NextMatch_l2 now_a1 x_1 r_2) true else ((p_spec_l25Wide x_2 now_a1).bind fun v158 => p_spec_NextMatch_j1 x_1 since_131 least_132 out_133 x_2 i_2 v148 (p_spec_NextMatch_l2 now_a1 x_1 r_2) (decide (v148 > v158))))))
def p_spec_NextMatch_l1 (l_a0 : List GPlayer) (now_a1 : Int) : List GPlayer → Nat → Int → Int → (List ByteArray) → Option (Int × Int × (List ByteArray))
  | [], i_1, since_62, least_63, out_65 => some (since_62, least_63, out_65)
  | x_1 :: r_1, i_1, since_62, least_63, out_65 => ((slc l_a0 ((i_1 + 1 : Nat) : Int) (l_a0.length : Int)).bind fun m114 => ((p_spec_NextMatch_l2 now_a1 x_1 m114 0 since_62 least_63 out_65).bind fun q_2 => match q_2 with | (since_131, least_132, out_133) => p_spec_NextMatch_l1 l_a0 now_a1 r_1 (i_1 + 1) since_131 least_132 out_133))
def p_spec_NextMatch_j0 (l_a0 : List GPlayer) (now_a1 : Int) (b_2 : Bool) : Option (List ByteArray × Bool) := (if b_2 = true then some (([] : List ByteArray), false) else ((p_spec_NextMatch_l0 now_a1 l_a0 0).bind fun q_0 => match q_0 with | .ret r_ => some r_ | .out _ => ((p_spec_NextMatch_l1 l_a0 now_a1 l_a0 0 0 0 ([] : List ByteArray)).bind fun q_1 => match q_1 with | (since_62, least_63, out_65) => some (out_65, true))))
theorem p_spec_NextMatch_pv {F C A : Prop} (hF : F) (hC : C) (h : F → C → A := by intro hF hC; first | exact cl_by hF | (refine st_by hF ?_; (repeat' (first | exact trivial | apply And.intro)); all_goals (clear hF; first | rfl | (simp only [hC, List.length_append, List.length_cons, List.length_nil, List.append_nil, List.nil_append, List.cons_append, List.length_set, List.append_assoc, Nat.zero_add, List.length_replicate, esStr_app, esStr_cons, esStr_nil, eStr_eq, esPlayer_app, esPlayer_cons, esPlayer_nil, ePlayer_eq]; done) | (simp [hC, List.length_append, List.length_cons, List.length_nil, List.append_nil, List.nil_append, List.cons_append, List.length_set, List.append_assoc, Nat.zero_add, List.length_replicate, esStr_app, esStr_cons, esStr_nil, eStr_eq, esPlayer_app, esPlayer_cons, esPlayer_nil, ePlayer_eq]; done) | omega))) : A := h hF hC
theorem p_spec_NextMatch_sa {F C A : Prop} (hF : F) (hC : C) (h : F → C → A := by intro hF hC; first | exact ca_by hF | (refine sa_by hF ?_; (repeat' (first | exact trivial | apply And.intro)); all_goals (clear hF; first | rfl | (simp only [hC, List.length_append, List.length_cons, List.length_nil, List.append_nil, List.nil_append, List.cons_append, List.length_set, List.append_assoc, Nat.zero_add, List.length_replicate, esStr_app, esStr_cons, esStr_nil, eStr_eq, esPlayer_app, esPlayer_cons, esPlayer_nil, ePlayer_eq]; done) | (simp [hC, List.length_append, List.length_cons, List.length_nil, List.append_nil, List.nil_append, List.cons_append, List.length_set, List.append_assoc, Nat.zero_add, List.length_replicate, esStr_app, esStr_cons, esStr_nil, eStr_eq, esPlayer_app, esPlayer_cons, esPlayer_nil, ePlayer_eq]; done) | omega))) : A := h hF hC
theorem p_spec_NextMatch_rt {F C A : Prop} (hF : F) (hC : C) (h : F → C → A := by intro hF hC; first | (refine sr_by hF ?_; (repeat' (first | exact trivial | apply And.intro)); all_goals (clear hF; first | rfl | (simp only [hC, List.length_append, List.length_cons, List.length_nil, List.append_nil, List.nil_append, List.cons_append, List.length_set, List.append_assoc, Nat.zero_add, List.length_replicate, esStr_app, esStr_cons, esStr_nil, eStr_eq, esPlayer_app, esPlayer_cons, esPlayer_nil, ePlayer_eq]; done) | (simp [hC, List.length_append, List.length_cons, List.length_nil, List.append_nil, List.nil_append, List.cons_append, List.length_set, List.append_assoc, Nat.zero_add, List.length_replicate, esStr_app, esStr_cons, esStr_nil, eStr_eq, esPlayer_app, esPlayer_cons, esPlayer_nil, ePlayer_eq]; done) | omega)) | (first | rfl | (simp only [hC, List.length_append, List.length_cons, List.length_nil, List.append_nil, List.nil_append, List.cons_append, List.length_set, List.append_assoc, Nat.zero_add, List.length_replicate, esStr_app, esStr_cons, esStr_nil, eStr_eq, esPlayer_app, esPlayer_cons, esPlayer_nil, ePlayer_eq]; done) | (simp [hC, List.length_append, List.length_cons, List.length_nil, List.append_nil, List.nil_append, List.cons_append, List.length_set, List.append_assoc, Nat.zero_add, List.length_replicate, esStr_app, esStr_cons, esStr_nil, eStr_eq, esPlayer_app, esPlayer_cons, esPlayer_nil, ePlayer_eq]; done) | omega)) : A := h hF hC
def p_spec_NextMatch_tf := PLift.up (And.intro @eStr_eq (And.intro @esStr_len (And.intro @esStr_nil (And.intro @esStr_leaf (And.intro @esStr_fit (And.intro @ePlayer_eq (And.intro @esPlayer_len (And.intro @esPlayer_nil (And.intro @esPlayer_leaf (And.intro @esPlayer_fit (And.intro @esStr_share (And.intro @esStr_pure (And.intro @esPlayer_share (And.intro @esPlayer_pure (And.intro @str_beq (And.intro @Ty.sl27 (And.intro @Ty.slz27 (And.intro @Ty.nz45 (And.intro @Ty.ldA45 (And.intro @Ty.sz45 (And.intro @Ty.szn45 (And.intro @Ty.nz3 (And.intro @Ty.ldA3 (And.intro @Ty.ldS3 (And.intro @Ty.sz3 (And.intro @Ty.szn3 (And.intro @Ty.nz9 (And.intro @Ty.ldA9 (And.intro @Ty.ldS9 (And.intro @Ty.sz9 (And.intro @Ty.szn9 (And.intro @Ty.fo45_2 (And.intro @Ty.fk45_2 (And.intro @Ty.fs45_2 (And.intro @Ty.fn45_2 (And.intro @Ty.fo45_1 (And.intro @Ty.fk45_1 (And.intro @Ty.fs45_1 (And.intro @Ty.fn45_1 (And.intro @Ty.fo45_0 (And.intro @Ty.fk45_0 (And.intro @Ty.fs45_0 (And.intro @Ty.fn45_0 (And.intro @Ty.sl24 (And.intro @Ty.nze27 (And.intro @Ty.zok27 (And.intro @Ty.by27 (And.intro @Ty.zs27 (And.intro @Ty.nze24 (And.intro @Ty.slz24 (And.intro @Ty.zok24 (And.intro @Ty.by24 (And.intro @Ty.zs24 (And.intro @Ty.zv45 @trivial))))))))))))))))))))))))))))))))))))))))))))))))))))))
def p_spec_NextMatch (l_a0 : List GPlayer) (now_a1 : Int) : Option (List ByteArray × Bool) := ((p_spec_GoodPlayers l_a0).bind fun v1 => (if v1 = true then p_spec_NextMatch_j0 l_a0 now_a1 (!(rng now_a1 0 100000)) else p_spec_NextMatch_j0 l_a0 now_a1 true))
theorem p_spec_NextMatch_does (l_a0 : List GPlayer) (now_a1 : Int) (r : List ByteArray × Bool) (h : p_spec_NextMatch l_a0 now_a1 = some r) : Does Try.prog 6 [.row false 3 l_a0.length (esPlayer l_a0), I now_a1] (.tup [.row true 1 r.1.length (esStr r.1), B r.2]) := by
  rw [p_spec_NextMatch] at h
  refine Does.bnd (fun hb => ?_)
  have hb2 : l_a0.length ≤ 9223372036854775807 := by simpa [AV.fitNs, AV.fitN] using hb
  have hl0 := hb2
  refine Does.walk (nt := 103) Try.func6 rfl rfl (by simp) (by decide) rfl (fun G0 X w0 pv => ?_)
  obtain ⟨v1, ev1, h⟩ := Option.bind_eq_some_iff.1 h
  try dsimp only at h
  have ff := p_spec_NextMatch_tf.down
  try refine st_by ff ?_
  repeat' (first | exact trivial | refine And.intro sd ?_)
  first
  | (refine cq_call (p_spec_GoodPlayers_does l_a0 v1 ev1) (hf_by ff) kr ⟨p_spec_NextMatch_sa ff trivial, ?_⟩; clear ff)
  have ff := p_spec_NextMatch_tf.down
  try refine st_by ff ?_
  repeat' (first | exact trivial | refine And.intro sd ?_)
  try clear ff
  generalize hk_0 : thenK _ _ = kk_0
  have key_0 : ∀ σ, (∃ b_2 : Bool, (p_spec_NextMatch_j0 l_a0 now_a1 b_2 = some r) ∧ σ.t 0 = .row false 3 l_a0.length (esPlayer l_a0) ∧ σ.t 1 = I now_a1 ∧ σ.t 24 = B b_2) → kk_0 .nm σ := by
    rintro σ ⟨b_2, h, g0_j0, g1_j0, g2_j0⟩
    rw [← hk_0]
    rw [p_spec_NextMatch_j0] at h
    by_cases c3 : b_2 = true
    · rw [if_pos c3] at h
      have dc3 := c3
      have ff := And.intro @g0_j0 (And.intro @g1_j0 (And.intro @g2_j0 (And.intro @dc3 p_spec_NextMatch_tf.down)))
      try refine st_by ff ?_
      repeat' (first | exact trivial | refine And.intro sd ?_)
      cases h
      exact ret_q2 rfl (p_spec_NextMatch_rt ff trivial)
    rw [if_neg c3] at h
    have dc3 := eq_false_of_ne_true c3
    have hL_0 : l_a0.length ≤ 9223372036854775807 := by first | assumption | omega
    obtain ⟨q_0, eq_0, h⟩ := Option.bind_eq_some_iff.1 h
    have ff := And.intro @g0_j0 (And.intro @g1_j0 (And.intro @g2_j0 (And.intro @dc3 p_spec_NextMatch_tf.down)))
    try refine st_by ff ?_
    repeat' (first | exact trivial | refine And.intro sd ?_)
    obtain ⟨I_0, hI_0⟩ : ∃ I_ : (Nat) → ASt → Prop, I_ = (fun (i_0 : Nat) σ => (i_0 ≤ l_a0.length ∧ p_spec_NextMatch_l0 now_a1 (l_a0.drop i_0) i_0 = some q_0) ∧ σ.t 0 = .row false 3 l_a0.length (esPlayer l_a0) ∧ σ.t 1 = I now_a1 ∧ σ.t 25 = .row false 3 l_a0.length (esPlayer l_a0) ∧ σ.t 26 = I (l_a0.length : Int) ∧ σ.t 27 = I (i_0 : Int)) := ⟨_, rfl⟩
    obtain ⟨M_0, hM_0⟩ : ∃ M_ : (Nat) → Nat, M_ = (fun (i_0 : Nat) => l_a0.length - i_0) := ⟨_, rfl⟩
    obtain ⟨J_0, hJ_0⟩ : ∃ J_ : ASt → Prop, J_ = (fun σ => (some (.out ()) = some q_0) ∧ σ.t 0 = .row false 3 l_a0.length (esPlayer l_a0) ∧ σ.t 1 = I now_a1) := ⟨_, rfl⟩
    refine aw_loopC (id := 0) I_0 M_0 J_0 (0) ?_ ?_ ?_
    · rw [hI_0]
      refine ⟨⟨Nat.zero_le _, eq_0⟩, ?_⟩
      exact p_spec_NextMatch_pv ff trivial
    · try clear ff
      rintro i_0 σ hg_0
      rw [hI_0] at hg_0
      obtain ⟨⟨hi_0, h_0⟩, g0_0, g1_0, g2_0, g3_0, g4_0⟩ := hg_0
      cases hr_0 : l_a0.drop i_0 with
      | nil =>
        rw [hr_0] at h_0
        rw [p_spec_NextMatch_l0] at h_0
        have hn_0 := drop_nil hr_0
        have dr_0 : decide ((i_0 : Int) < (l_a0.length : Int)) = false := decide_eq_false (by omega)
        have ff := And.intro @dc3 (And.intro @dr_0 (And.intro @g0_0 (And.intro @g1_0 (And.intro @g2_0 (And.intro @g3_0 (And.intro @g4_0 p_spec_NextMatch_tf.down))))))
        try refine st_by ff ?_
        repeat' (first | exact trivial | refine And.intro sd ?_)
        refine JW.intro ?_
        rw [hJ_0]
        refine ⟨h_0, ?_⟩
        exact p_spec_NextMatch_pv ff trivial
      | cons x_0 r_0 =>
        rw [hr_0] at h_0
        rw [p_spec_NextMatch_l0] at h_0
        obtain ⟨ht_0, hg_0, hd_0⟩ := drop_cons hr_0
        have dr_0 : decide ((i_0 : Int) < (l_a0.length : Int)) = true := decide_eq_true (by omega)
        have w_0 : IntKind.i64.wrap ((i_0 : Int) + 1) = ((i_0 + 1 : Nat) : Int) := wI _ (by omega) (by omega)
        have kk0c : (esPlayer l_a0).drop (i_0 * 3) = ePlayer x_0 ++ esPlayer (l_a0.drop (i_0 + 1)) := drop_enc (fun _ => rfl) (hg_0)
        by_cases c13 : x_0.Since > now_a1
        · rw [if_pos c13] at h_0
          have dc13 := decide_eq_true c13
          cases h_0
          try dsimp only at h
          have ff := And.intro @dc3 (And.intro @dr_0 (And.intro @w_0 (And.intro @g0_0 (And.intro @g1_0 (And.intro @g2_0 (And.intro @g3_0 (And.intro @g4_0 (And.intro @kk0c (And.intro @dc13 p_spec_NextMatch_tf.down)))))))))
          try refine st_by ff ?_
          repeat' (first | exact trivial | refine And.intro sd ?_)
          cases h
          exact ret_q2 rfl (p_spec_NextMatch_rt ff trivial)
        rw [if_neg c13] at h_0
        have dc13 := decide_eq_false c13
        have ff := And.intro @dc3 (And.intro @dr_0 (And.intro @w_0 (And.intro @g0_0 (And.intro @g1_0 (And.intro @g2_0 (And.intro @g3_0 (And.intro @g4_0 (And.intro @kk0c (And.intro @dc13 p_spec_NextMatch_tf.down)))))))))
        try refine st_by ff ?_
        repeat' (first | exact trivial | refine And.intro sd ?_)
        refine Back.intro (i_0 + 1) ?_ ?_
        · clear ff; rw [hM_0]; show l_a0.length - (i_0 + 1) < l_a0.length - i_0; omega
        rw [hI_0]
        refine ⟨⟨by clear ff; show i_0 + 1 ≤ l_a0.length; omega, by show p_spec_NextMatch_l0 now_a1 (l_a0.drop (i_0 + 1)) (i_0 + 1) = some q_0; rw [hd_0]; exact h_0⟩, ?_⟩
        exact p_spec_NextMatch_pv ff trivial
    · try clear ff
      rintro σ hg_0
      rw [hJ_0] at hg_0
      obtain ⟨hj_0, g0_0a, g1_0a⟩ := hg_0
      cases hj_0
      try dsimp only at h
      have hL_1 : l_a0.length ≤ 9223372036854775807 := by first | assumption | omega
      obtain ⟨q_1, eq_1, h⟩ := Option.bind_eq_some_iff.1 h
      have ff := And.intro @dc3 (And.intro @g0_0a (And.intro @g1_0a p_spec_NextMatch_tf.down))
      try refine st_by ff ?_
      repeat' (first | exact trivial | refine And.intro sd ?_)
      obtain ⟨I_1, hI_1⟩ : ∃ I_ : (Nat × Int × Int × (List ByteArray)) → ASt → Prop, I_ = (fun (a : Nat × Int × Int × (List ByteArray)) σ => match a with | (i_1, since_62, least_63, out_65) => (i_1 ≤ l_a0.length ∧ p_spec_NextMatch_l1 l_a0 now_a1 (l_a0.drop i_1) i_1 since_62 least_63 out_65 = some q_1) ∧ σ.t 0 = .row false 3 l_a0.length (esPlayer l_a0) ∧ σ.t 1 = I now_a1 ∧ σ.t 8 = .sl 8 [] 0 out_65.length ∧ σ.t 9 = I since_62 ∧ σ.t 10 = I least_63 ∧ σ.t 36 = .row false 3 l_a0.length (esPlayer l_a0) ∧ σ.t 37 = I (l_a0.length : Int) ∧ σ.t 38 = I (i_1 : Int) ∧ σ.m 8 = some (.row true 1 out_65.length (esStr out_65))) := ⟨_, rfl⟩
      obtain ⟨M_1, hM_1⟩ : ∃ M_ : (Nat × Int × Int × (List ByteArray)) → Nat, M_ = (fun (a : Nat × Int × Int × (List ByteArray)) => match a with | (i_1, since_62, least_63, out_65) => l_a0.length - i_1) := ⟨_, rfl⟩
      obtain ⟨J_1, hJ_1⟩ : ∃ J_ : ASt → Prop, J_ = (fun σ => ∃ since_62 : Int, ∃ least_63 : Int, ∃ out_65 : List ByteArray, (some (since_62, least_63, out_65) = some q_1) ∧ σ.t 8 = .sl 8 [] 0 out_65.length ∧ σ.m 8 = some (.row true 1 out_65.length (esStr out_65))) := ⟨_, rfl⟩
      refine aw_loopC (id := 2) I_1 M_1 J_1 (0, 0, 0, ([] : List ByteArray)) ?_ ?_ ?_
      · rw [hI_1]
        refine ⟨⟨Nat.zero_le _, eq_1⟩, ?_⟩
        exact p_spec_NextMatch_pv ff trivial
      · try clear ff
        rintro ⟨i_1, since_62, least_63, out_65⟩ σ hg_1
        rw [hI_1] at hg_1
        obtain ⟨⟨hi_1, h_1⟩, g0_1, g1_1, g2_1, g3_1, g4_1, g5_1, g6_1, g7_1, g8_1⟩ := hg_1
        cases hr_1 : l_a0.drop i_1 with
        | nil =>
          rw [hr_1] at h_1
          rw [p_spec_NextMatch_l1] at h_1
          have hn_1 := drop_nil hr_1
          have dr_1 : decide ((i_1 : Int) < (l_a0.length : Int)) = false := decide_eq_false (by omega)
          have ff := And.intro @dc3 (And.intro @dr_1 (And.intro @g0_1 (And.intro @g1_1 (And.intro @g2_1 (And.intro @g3_1 (And.intro @g4_1 (And.intro @g5_1 (And.intro @g6_1 (And.intro @g7_1 (And.intro @g8_1 p_spec_NextMatch_tf.down))))))))))
          try refine st_by ff ?_
          repeat' (first | exact trivial | refine And.intro sd ?_)
          refine JW.intro ?_
          rw [hJ_1]
          refine ⟨since_62, least_63, out_65, h_1, ?_⟩
          exact p_spec_NextMatch_pv ff trivial
        | cons x_1 r_1 =>
          rw [hr_1] at h_1
          rw [p_spec_NextMatch_l1] at h_1
          obtain ⟨ht_1, hg_1, hd_1⟩ := drop_cons hr_1
          have dr_1 : decide ((i_1 : Int) < (l_a0.length : Int)) = true := decide_eq_true (by omega)
          have w_1 : IntKind.i64.wrap ((i_1 : Int) + 1) = ((i_1 + 1 : Nat) : Int) := wI _ (by omega) (by omega)
          have kk1c : (esPlayer l_a0).drop (i_1 * 3) = ePlayer x_1 ++ esPlayer (l_a0.drop (i_1 + 1)) := drop_enc (fun _ => rfl) (hg_1)
          obtain ⟨m114, em114, h_1⟩ := Option.bind_eq_some_iff.1 h_1
          try dsimp only at h_1
          obtain ⟨f115a, f115b⟩ := slc_ok em114
          have f115c : ((esPlayer l_a0).drop ((i_1 + 1 : Nat) * 3)).take (m114.length * 3) = esPlayer m114 := slc_encM (enc := ePlayer) (fun _ => rfl) em114
          have f115d : l_a0.length - (i_1 + 1 : Nat) = m114.length := slc_lenH em114
          have hL_2 : m114.length ≤ 9223372036854775807 := by first | assumption | omega
          obtain ⟨q_2, eq_2, h_1⟩ := Option.bind_eq_some_iff.1 h_1
          have ff := And.intro @dc3 (And.intro @dr_1 (And.intro @w_1 (And.intro @g0_1 (And.intro @g1_1 (And.intro @g2_1 (And.intro @g3_1 (And.intro @g4_1 (And.intro @g5_1 (And.intro @g6_1 (And.intro @g7_1 (And.intro @g8_1 (And.intro @kk1c (And.intro @f115c (And.intro @f115d p_spec_NextMatch_tf.down))))))))))))))
          try refine st_by ff ?_
          repeat' (first | exact trivial | refine And.intro sd ?_)
          obtain ⟨I_2, hI_2⟩ : ∃ I_ : (Nat × Int × Int × (List ByteArray)) → ASt → Prop, I_ = (fun (a : Nat × Int × Int × (List ByteArray)) σ => match a with | (i_2, since_131, least_132, out_133) => (i_2 ≤ m114.length ∧ p_spec_NextMatch_l2 now_a1 x_1 (m114.drop i_2) i_2 since_131 least_132 out_133 = some q_2) ∧ σ.t 0 = .row false 3 l_a0.length (esPlayer l_a0) ∧ σ.t 1 = I now_a1 ∧ σ.t 8 = .sl 8 [] 0 out_133.length ∧ σ.t 9 = I since_131 ∧ σ.t 10 = I least_132 ∧ σ.t 12 = .ptr 12 [] 0 ∧ σ.t 36 = .row false 3 l_a0.length (esPlayer l_a0) ∧ σ.t 37 = I (l_a0.length : Int) ∧ σ.t 38 = I (i_1 : Int) ∧ σ.t 46 = .row false 3 m114.length (esPlayer m114) ∧ σ.t 47 = I (m114.length : Int) ∧ σ.t 48 = I (i_2 : Int) ∧ σ.m 8 = some (.row true 1 out_133.length (esStr out_133)) ∧ σ.m 12 = some (.box true [S x_1.Name, I x_1.Rating, I x_1.Since])) := ⟨_, rfl⟩
          obtain ⟨M_2, hM_2⟩ : ∃ M_ : (Nat × Int × Int × (List ByteArray)) → Nat, M_ = (fun (a : Nat × Int × Int × (List ByteArray)) => match a with | (i_2, since_131, least_132, out_133) => m114.length - i_2) := ⟨_, rfl⟩
          obtain ⟨J_2, hJ_2⟩ : ∃ J_ : ASt → Prop, J_ = (fun σ => ∃ since_131 : Int, ∃ least_132 : Int, ∃ out_133 : List ByteArray, (some (since_131, least_132, out_133) = some q_2) ∧ σ.t 0 = .row false 3 l_a0.length (esPlayer l_a0) ∧ σ.t 1 = I now_a1 ∧ σ.t 8 = .sl 8 [] 0 out_133.length ∧ σ.t 9 = I since_131 ∧ σ.t 10 = I least_132 ∧ σ.t 36 = .row false 3 l_a0.length (esPlayer l_a0) ∧ σ.t 37 = I (l_a0.length : Int) ∧ σ.t 38 = I (i_1 : Int) ∧ σ.m 8 = some (.row true 1 out_133.length (esStr out_133))) := ⟨_, rfl⟩
          refine aw_loopC (id := 4) I_2 M_2 J_2 (0, since_62, least_63, out_65) ?_ ?_ ?_
          · rw [hI_2]
            refine ⟨⟨Nat.zero_le _, eq_2⟩, ?_⟩
            exact p_spec_NextMatch_pv ff trivial
          · try clear ff
            rintro ⟨i_2, since_131, least_132, out_133⟩ σ hg_2
            rw [hI_2] at hg_2
            obtain ⟨⟨hi_2, h_2⟩, g0_2, g1_2, g2_2, g3_2, g4_2, g5_2, g6_2, g7_2, g8_2, g9_2, g10_2, g11_2, g12_2, g13_2⟩ := hg_2
            cases hr_2 : m114.drop i_2 with
            | nil =>
              rw [hr_2] at h_2
              rw [p_spec_NextMatch_l2] at h_2
              have hn_2 := drop_nil hr_2
              have dr_2 : decide ((i_2 : Int) < (m114.length : Int)) = false := decide_eq_false (by omega)
              have ff := And.intro @dc3 (And.intro @dr_1 (And.intro @w_1 (And.intro @kk1c (And.intro @f115c (And.intro @f115d (And.intro @dr_2 (And.intro @g0_2 (And.intro @g1_2 (And.intro @g2_2 (And.intro @g3_2 (And.intro @g4_2 (And.intro @g5_2 (And.intro @g6_2 (And.intro @g7_2 (And.intro @g8_2 (And.intro @g9_2 (And.intro @g10_2 (And.intro @g11_2 (And.intro @g12_2 (And.intro @g13_2 p_spec_NextMatch_tf.down))))))))))))))))))))
              try refine st_by ff ?_
              repeat' (first | exact trivial | refine And.intro sd ?_)
              refine JW.intro ?_
              rw [hJ_2]
              refine ⟨since_131, least_132, out_133, h_2, ?_⟩
              exact p_spec_NextMatch_pv ff trivial
            | cons x_2 r_2 =>
              rw [hr_2] at h_2
              rw [p_spec_NextMatch_l2] at h_2
              obtain ⟨ht_2, hg_2, hd_2⟩ := drop_cons hr_2
              have dr_2 : decide ((i_2 : Int) < (m114.length : Int)) = true := decide_eq_true (by omega)
              have w_2 : IntKind.i64.wrap ((i_2 : Int) + 1) = ((i_2 + 1 : Nat) : Int) := wI _ (by omega) (by omega)
              have kk2c : (esPlayer m114).drop (i_2 * 3) = ePlayer x_2 ++ esPlayer (m114.drop (i_2 + 1)) := drop_enc (fun _ => rfl) (hg_2)
              obtain ⟨v148, ev148, h_2⟩ := Option.bind_eq_some_iff.1 h_2
              try dsimp only at h_2
              have ff := And.intro @dc3 (And.intro @dr_1 (And.intro @w_1 (And.intro @kk1c (And.intro @f115c (And.intro @f115d (And.intro @dr_2 (And.intro @w_2 (And.intro @g0_2 (And.intro @g1_2 (And.intro @g2_2 (And.intro @g3_2 (And.intro @g4_2 (And.intro @g5_2 (And.intro @g6_2 (And.intro @g7_2 (And.intro @g8_2 (And.intro @g9_2 (And.intro @g10_2 (And.intro @g11_2 (And.intro @g12_2 (And.intro @g13_2 (And.intro @kk2c p_spec_NextMatch_tf.down))))))))))))))))))))))
              try refine st_by ff ?_
              repeat' (first | exact trivial | refine And.intro sd ?_)
              first
              | (refine cq_call (p_spec_l1Abs_does (IntKind.i64.wrap (x_1.Rating - x_2.Rating)) v148 ev148) (hf_by ff) kr ⟨p_spec_NextMatch_sa ff trivial, ?_⟩; clear ff)
              obtain ⟨v149, ev149, h_2⟩ := Option.bind_eq_some_iff.1 h_2
              try dsimp only at h_2
              have ff := And.intro @dc3 (And.intro @dr_1 (And.intro @w_1 (And.intro @kk1c (And.intro @f115c (And.intro @f115d (And.intro @dr_2 (And.intro @w_2 (And.intro @g0_2 (And.intro @g1_2 (And.intro @g2_2 (And.intro @g3_2 (And.intro @g4_2 (And.intro @g5_2 (And.intro @g6_2 (And.intro @g7_2 (And.intro @g8_2 (And.intro @g9_2 (And.intro @g10_2 (And.intro @g11_2 (And.intro @g12_2 (And.intro @g13_2 (And.intro @kk2c p_spec_NextMatch_tf.down))))))))))))))))))))))
              try refine st_by ff ?_
              repeat' (first | exact trivial | refine And.intro sd ?_)
              first
              | (refine cq_call (p_spec_l25Wide_does x_1 now_a1 v149 ev149) (hf_by ff) kr ⟨p_spec_NextMatch_sa ff trivial, ?_⟩; clear ff)
              have ff := And.intro @dc3 (And.intro @dr_1 (And.intro @w_1 (And.intro @kk1c (And.intro @f115c (And.intro @f115d (And.intro @dr_2 (And.intro @w_2 (And.intro @g0_2 (And.intro @g1_2 (And.intro @g2_2 (And.intro @g3_2 (And.intro @g4_2 (And.intro @g5_2 (And.intro @g6_2 (And.intro @g7_2 (And.intro @g8_2 (And.intro @g9_2 (And.intro @g10_2 (And.intro @g11_2 (And.intro @g12_2 (And.intro @g13_2 (And.intro @kk2c p_spec_NextMatch_tf.down))))))))))))))))))))))
              try refine st_by ff ?_
              repeat' (first | exact trivial | refine And.intro sd ?_)
              try clear ff
              generalize hk_1 : thenK _ _ = kk_1
              have key_1 : ∀ σ, (∃ b_150 : Bool, (p_spec_NextMatch_j1 x_1 since_131 least_132 out_133 x_2 i_2 v148 (p_spec_NextMatch_l2 now_a1 x_1 r_2) b_150 = some q_2) ∧ σ.t 0 = .row false 3 l_a0.length (esPlayer l_a0) ∧ σ.t 1 = I now_a1 ∧ σ.t 8 = .sl 8 [] 0 out_133.length ∧ σ.t 9 = I since_131 ∧ σ.t 10 = I least_132 ∧ σ.t 12 = .ptr 12 [] 0 ∧ σ.t 14 = .ptr 14 [] 0 ∧ σ.t 15 = I v148 ∧ σ.t 16 = I (IntKind.i64.wrap (x_1.Since + x_2.Since)) ∧ σ.t 36 = .row false 3 l_a0.length (esPlayer l_a0) ∧ σ.t 37 = I (l_a0.length : Int) ∧ σ.t 38 = I (i_1 : Int) ∧ σ.t 46 = .row false 3 m114.length (esPlayer m114) ∧ σ.t 47 = I (m114.length : Int) ∧ σ.t 48 = I (i_2 : Int) ∧ σ.t 74 = B b_150 ∧ σ.m 8 = some (.row true 1 out_133.length (esStr out_133)) ∧ σ.m 12 = some (.box true [S x_1.Name, I x_1.Rating, I x_1.Since]) ∧ σ.m 14 = some (.box true [S x_2.Name, I x_2.Rating, I x_2.Since])) → kk_1 .nm σ := by
                rintro σ ⟨b_150, h_2, g0_j1, g1_j1, g2_j1, g3_j1, g4_j1, g5_j1, g6_j1, g7_j1, g8_j1, g9_j1, g10_j1, g11_j1, g12_j1, g13_j1, g14_j1, g15_j1, g16_j1, g17_j1, g18_j1⟩
                rw [← hk_1]
                rw [p_spec_NextMatch_j1] at h_2
                by_cases c151 : b_150 = true
                · rw [if_pos c151] at h_2
                  have dc151 := c151
                  have ff := And.intro @dc3 (And.intro @dr_1 (And.intro @w_1 (And.intro @kk1c (And.intro @f115c (And.intro @f115d (And.intro @dr_2 (And.intro @w_2 (And.intro @kk2c (And.intro @g0_j1 (And.intro @g1_j1 (And.intro @g2_j1 (And.intro @g3_j1 (And.intro @g4_j1 (And.intro @g5_j1 (And.intro @g6_j1 (And.intro @g7_j1 (And.intro @g8_j1 (And.intro @g9_j1 (And.intro @g10_j1 (And.intro @g11_j1 (And.intro @g12_j1 (And.intro @g13_j1 (And.intro @g14_j1 (And.intro @g15_j1 (And.intro @g16_j1 (And.intro @g17_j1 (And.intro @g18_j1 (And.intro @dc151 p_spec_NextMatch_tf.down))))))))))))))))))))))))))))
                  try refine st_by ff ?_
                  repeat' (first | exact trivial | refine And.intro sd ?_)
                  refine Back.intro (i_2 + 1, since_131, least_132, out_133) ?_ ?_
                  · clear ff; rw [hM_2]; show m114.length - (i_2 + 1) < m114.length - i_2; omega
                  rw [hI_2]
                  refine ⟨⟨by clear ff; show i_2 + 1 ≤ m114.length; omega, by show p_spec_NextMatch_l2 now_a1 x_1 (m114.drop (i_2 + 1)) (i_2 + 1) since_131 least_132 out_133 = some q_2; rw [hd_2]; exact h_2⟩, ?_⟩
                  exact p_spec_NextMatch_pv ff trivial
                rw [if_neg c151] at h_2
                have dc151 := eq_false_of_ne_true c151
                have ff := And.intro @dc3 (And.intro @dr_1 (And.intro @w_1 (And.intro @kk1c (And.intro @f115c (And.intro @f115d (And.intro @dr_2 (And.intro @w_2 (And.intro @kk2c (And.intro @g0_j1 (And.intro @g1_j1 (And.intro @g2_j1 (And.intro @g3_j1 (And.intro @g4_j1 (And.intro @g5_j1 (And.intro @g6_j1 (And.intro @g7_j1 (And.intro @g8_j1 (And.intro @g9_j1 (And.intro @g10_j1 (And.intro @g11_j1 (And.intro @g12_j1 (And.intro @g13_j1 (And.intro @g14_j1 (And.intro @g15_j1 (And.intro @g16_j1 (And.intro @g17_j1 (And.intro @g18_j1 (And.intro @dc151 p_spec_NextMatch_tf.down))))))))))))))))))))))))))))
                try refine st_by ff ?_
                repeat' (first | exact trivial | refine And.intro sd ?_)
                try clear ff
                generalize hk_2 : thenK _ _ = kk_2
                have key_2 : ∀ σ, (∃ b_152 : Bool, (p_spec_NextMatch_j2 x_1 since_131 least_132 out_133 x_2 i_2 v148 (p_spec_NextMatch_l2 now_a1 x_1 r_2) b_152 = some q_2) ∧ σ.t 0 = .row false 3 l_a0.length (esPlayer l_a0) ∧ σ.t 1 = I now_a1 ∧ σ.t 8 = .sl 8 [] 0 out_133.length ∧ σ.t 9 = I since_131 ∧ σ.t 10 = I least_132 ∧ σ.t 12 = .ptr 12 [] 0 ∧ σ.t 14 = .ptr 14 [] 0 ∧ σ.t 15 = I v148 ∧ σ.t 16 = I (IntKind.i64.wrap (x_1.Since + x_2.Since)) ∧ σ.t 36 = .row false 3 l_a0.length (esPlayer l_a0) ∧ σ.t 37 = I (l_a0.length : Int) ∧ σ.t 38 = I (i_1 : Int) ∧ σ.t 46 = .row false 3 m114.length (esPlayer m114) ∧ σ.t 47 = I (m114.length : Int) ∧ σ.t 48 = I (i_2 : Int) ∧ σ.t 92 = B b_152 ∧ σ.m 8 = some (.row true 1 out_133.length (esStr out_133)) ∧ σ.m 12 = some (.box true [S x_1.Name, I x_1.Rating, I x_1.Since]) ∧ σ.m 14 = some (.box true [S x_2.Name, I x_2.Rating, I x_2.Since])) → kk_2 .nm σ := by
                  rintro σ ⟨b_152, h_2, g0_j2, g1_j2, g2_j2, g3_j2, g4_j2, g5_j2, g6_j2, g7_j2, g8_j2, g9_j2, g10_j2, g11_j2, g12_j2, g13_j2, g14_j2, g15_j2, g16_j2, g17_j2, g18_j2⟩
                  rw [← hk_2]
                  rw [p_spec_NextMatch_j2] at h_2
                  by_cases c153 : b_152 = true
                  case neg =>
                   rw [if_neg c153] at h_2
                   have dc153 := eq_false_of_ne_true c153
                   have ff := And.intro @dc3 (And.intro @dr_1 (And.intro @w_1 (And.intro @kk1c (And.intro @f115c (And.intro @f115d (And.intro @dr_2 (And.intro @w_2 (And.intro @kk2c (And.intro @dc151 (And.intro @g0_j2 (And.intro @g1_j2 (And.intro @g2_j2 (And.intro @g3_j2 (And.intro @g4_j2 (And.intro @g5_j2 (And.intro @g6_j2 (And.intro @g7_j2 (And.intro @g8_j2 (And.intro @g9_j2 (And.intro @g10_j2 (And.intro @g11_j2 (And.intro @g12_j2 (And.intro @g13_j2 (And.intro @g14_j2 (And.intro @g15_j2 (And.intro @g16_j2 (And.intro @g17_j2 (And.intro @g18_j2 (And.intro @dc153 p_spec_NextMatch_tf.down)))))))))))))))))))))))))))))
                   try refine st_by ff ?_
                   repeat' (first | exact trivial | refine And.intro sd ?_)
                   refine Back.intro (i_2 + 1, since_131, least_132, out_133) ?_ ?_
                   · clear ff; rw [hM_2]; show m114.length - (i_2 + 1) < m114.length - i_2; omega
                   rw [hI_2]
                   refine ⟨⟨by clear ff; show i_2 + 1 ≤ m114.length; omega, by show p_spec_NextMatch_l2 now_a1 x_1 (m114.drop (i_2 + 1)) (i_2 + 1) since_131 least_132 out_133 = some q_2; rw [hd_2]; exact h_2⟩, ?_⟩
                   exact p_spec_NextMatch_pv ff trivial
                  rw [if_pos c153] at h_2
                  have dc153 := c153
                  have ff := And.intro @dc3 (And.intro @dr_1 (And.intro @w_1 (And.intro @kk1c (And.intro @f115c (And.intro @f115d (And.intro @dr_2 (And.intro @w_2 (And.intro @kk2c (And.intro @dc151 (And.intro @g0_j2 (And.intro @g1_j2 (And.intro @g2_j2 (And.intro @g3_j2 (And.intro @g4_j2 (And.intro @g5_j2 (And.intro @g6_j2 (And.intro @g7_j2 (And.intro @g8_j2 (And.intro @g9_j2 (And.intro @g10_j2 (And.intro @g11_j2 (And.intro @g12_j2 (And.intro @g13_j2 (And.intro @g14_j2 (And.intro @g15_j2 (And.intro @g16_j2 (And.intro @g17_j2 (And.intro @g18_j2 (And.intro @dc153 p_spec_NextMatch_tf.down)))))))))))))))))))))))))))))
                  try refine st_by ff ?_
                  repeat' (first | exact trivial | refine And.intro sd ?_)
                  refine Back.intro (i_2 + 1, (IntKind.i64.wrap (x_1.Since + x_2.Since)), v148, ([x_1.Name, x_2.Name] : List ByteArray)) ?_ ?_
                  · clear ff; rw [hM_2]; show m114.length - (i_2 + 1) < m114.length - i_2; omega
                  rw [hI_2]
                  refine ⟨⟨by clear ff; show i_2 + 1 ≤ m114.length; omega, by show p_spec_NextMatch_l2 now_a1 x_1 (m114.drop (i_2 + 1)) (i_2 + 1) (IntKind.i64.wrap (x_1.Since + x_2.Since)) v148 ([x_1.Name, x_2.Name] : List ByteArray) = some q_2; rw [hd_2]; exact h_2⟩, ?_⟩
                  exact p_spec_NextMatch_pv ff trivial
                have hrt_2 := fun σ : ASt => congrFun (congrFun hk_2.symm AX.rt) σ
                have hex_2 := fun (i : Nat) (σ : ASt) => congrFun (congrFun hk_2.symm (AX.ex i)) σ
                by_cases c154 : (out_133.length : Int) = 0
                · rw [if_pos c154] at h_2
                  have dc154 := beq_yes c154
                  have ff := And.intro @dc3 (And.intro @dr_1 (And.intro @w_1 (And.intro @kk1c (And.intro @f115c (And.intro @f115d (And.intro @dr_2 (And.intro @w_2 (And.intro @kk2c (And.intro @g0_j1 (And.intro @g1_j1 (And.intro @g2_j1 (And.intro @g3_j1 (And.intro @g4_j1 (And.intro @g5_j1 (And.intro @g6_j1 (And.intro @g7_j1 (And.intro @g8_j1 (And.intro @g9_j1 (And.intro @g10_j1 (And.intro @g11_j1 (And.intro @g12_j1 (And.intro @g13_j1 (And.intro @g14_j1 (And.intro @g15_j1 (And.intro @g16_j1 (And.intro @g17_j1 (And.intro @g18_j1 (And.intro @dc151 (And.intro @hrt_2 (And.intro @hex_2 (And.intro @dc154 p_spec_NextMatch_tf.down)))))))))))))))))))))))))))))))
                  try refine st_by ff ?_
                  repeat' (first | exact trivial | refine And.intro sd ?_)
                  refine key_2 _ ?_
                  refine ⟨true, h_2, ?_⟩
                  exact p_spec_NextMatch_pv ff trivial
                rw [if_neg c154] at h_2
                have dc154 := beq_no c154
                by_cases c155 : (IntKind.i64.wrap (x_1.Since + x_2.Since)) < since_131
                · rw [if_pos c155] at h_2
                  have dc155 := decide_eq_true c155
                  have ff := And.intro @dc3 (And.intro @dr_1 (And.intro @w_1 (And.intro @kk1c (And.intro @f115c (And.intro @f115d (And.intro @dr_2 (And.intro @w_2 (And.intro @kk2c (And.intro @g0_j1 (And.intro @g1_j1 (And.intro @g2_j1 (And.intro @g3_j1 (And.intro @g4_j1 (And.intro @g5_j1 (And.intro @g6_j1 (And.intro @g7_j1 (And.intro @g8_j1 (And.intro @g9_j1 (And.intro @g10_j1 (And.intro @g11_j1 (And.intro @g12_j1 (And.intro @g13_j1 (And.intro @g14_j1 (And.intro @g15_j1 (And.intro @g16_j1 (And.intro @g17_j1 (And.intro @g18_j1 (And.intro @dc151 (And.intro @hrt_2 (And.intro @hex_2 (And.intro @dc154 (And.intro @dc155 p_spec_NextMatch_tf.down))))))))))))))))))))))))))))))))
                  try refine st_by ff ?_
                  repeat' (first | exact trivial | refine And.intro sd ?_)
                  refine key_2 _ ?_
                  refine ⟨true, h_2, ?_⟩
                  exact p_spec_NextMatch_pv ff trivial
                rw [if_neg c155] at h_2
                have dc155 := decide_eq_false c155
                by_cases c156 : (IntKind.i64.wrap (x_1.Since + x_2.Since)) = since_131
                case neg =>
                 rw [if_neg c156] at h_2
                 have dc156 := beq_no c156
                 have ff := And.intro @dc3 (And.intro @dr_1 (And.intro @w_1 (And.intro @kk1c (And.intro @f115c (And.intro @f115d (And.intro @dr_2 (And.intro @w_2 (And.intro @kk2c (And.intro @g0_j1 (And.intro @g1_j1 (And.intro @g2_j1 (And.intro @g3_j1 (And.intro @g4_j1 (And.intro @g5_j1 (And.intro @g6_j1 (And.intro @g7_j1 (And.intro @g8_j1 (And.intro @g9_j1 (And.intro @g10_j1 (And.intro @g11_j1 (And.intro @g12_j1 (And.intro @g13_j1 (And.intro @g14_j1 (And.intro @g15_j1 (And.intro @g16_j1 (And.intro @g17_j1 (And.intro @g18_j1 (And.intro @dc151 (And.intro @hrt_2 (And.intro @hex_2 (And.intro @dc154 (And.intro @dc155 (And.intro @dc156 p_spec_NextMatch_tf.down)))))))))))))))))))))))))))))))))
                 try refine st_by ff ?_
                 repeat' (first | exact trivial | refine And.intro sd ?_)
                 refine key_2 _ ?_
                 refine ⟨false, h_2, ?_⟩
                 exact p_spec_NextMatch_pv ff trivial
                rw [if_pos c156] at h_2
                have dc156 := beq_yes c156
                have ff := And.intro @dc3 (And.intro @dr_1 (And.intro @w_1 (And.intro @kk1c (And.intro @f115c (And.intro @f115d (And.intro @dr_2 (And.intro @w_2 (And.intro @kk2c (And.intro @g0_j1 (And.intro @g1_j1 (And.intro @g2_j1 (And.intro @g3_j1 (And.intro @g4_j1 (And.intro @g5_j1 (And.intro @g6_j1 (And.intro @g7_j1 (And.intro @g8_j1 (And.intro @g9_j1 (And.intro @g10_j1 (And.intro @g11_j1 (And.intro @g12_j1 (And.intro @g13_j1 (And.intro @g14_j1 (And.intro @g15_j1 (And.intro @g16_j1 (And.intro @g17_j1 (And.intro @g18_j1 (And.intro @dc151 (And.intro @hrt_2 (And.intro @hex_2 (And.intro @dc154 (And.intro @dc155 (And.intro @dc156 p_spec_NextMatch_tf.down)))))))))))))))))))))))))))))))))
                try refine st_by ff ?_
                repeat' (first | exact trivial | refine And.intro sd ?_)
                refine key_2 _ ?_
                refine ⟨decide (v148 < least_132), h_2, ?_⟩
                exact p_spec_NextMatch_pv ff trivial
              have hrt_1 := fun σ : ASt => congrFun (congrFun hk_1.symm AX.rt) σ
              have hex_1 := fun (i : Nat) (σ : ASt) => congrFun (congrFun hk_1.symm (AX.ex i)) σ
              by_cases c157 : v148 > v149
              · rw [if_pos c157] at h_2
                have dc157 := decide_eq_true c157
                have ff := And.intro @dc3 (And.intro @dr_1 (And.intro @w_1 (And.intro @kk1c (And.intro @f115c (And.intro @f115d (And.intro @dr_2 (And.intro @w_2 (And.intro @g0_2 (And.intro @g1_2 (And.intro @g2_2 (And.intro @g3_2 (And.intro @g4_2 (And.intro @g5_2 (And.intro @g6_2 (And.intro @g7_2 (And.intro @g8_2 (And.intro @g9_2 (And.intro @g10_2 (And.intro @g11_2 (And.intro @g12_2 (And.intro @g13_2 (And.intro @kk2c (And.intro @hrt_1 (And.intro @hex_1 (And.intro @dc157 p_spec_NextMatch_tf.down)))))))))))))))))))))))))
                try refine st_by ff ?_
                repeat' (first | exact trivial | refine And.intro sd ?_)
                refine key_1 _ ?_
                refine ⟨true, h_2, ?_⟩
                exact p_spec_NextMatch_pv ff trivial
              rw [if_neg c157] at h_2
              have dc157 := decide_eq_false c157
              obtain ⟨v158, ev158, h_2⟩ := Option.bind_eq_some_iff.1 h_2
              try dsimp only at h_2
              have ff := And.intro @dc3 (And.intro @dr_1 (And.intro @w_1 (And.intro @kk1c (And.intro @f115c (And.intro @f115d (And.intro @dr_2 (And.intro @w_2 (And.intro @g0_2 (And.intro @g1_2 (And.intro @g2_2 (And.intro @g3_2 (And.intro @g4_2 (And.intro @g5_2 (And.intro @g6_2 (And.intro @g7_2 (And.intro @g8_2 (And.intro @g9_2 (And.intro @g10_2 (And.intro @g11_2 (And.intro @g12_2 (And.intro @g13_2 (And.intro @kk2c (And.intro @hrt_1 (And.intro @hex_1 (And.intro @dc157 p_spec_NextMatch_tf.down)))))))))))))))))))))))))
              try refine st_by ff ?_
              repeat' (first | exact trivial | refine And.intro sd ?_)
              first
              | (refine cq_call (p_spec_l25Wide_does x_2 now_a1 v158 ev158) (hf_by ff) kr ⟨p_spec_NextMatch_sa ff trivial, ?_⟩; clear ff)
              have ff := And.intro @dc3 (And.intro @dr_1 (And.intro @w_1 (And.intro @kk1c (And.intro @f115c (And.intro @f115d (And.intro @dr_2 (And.intro @w_2 (And.intro @g0_2 (And.intro @g1_2 (And.intro @g2_2 (And.intro @g3_2 (And.intro @g4_2 (And.intro @g5_2 (And.intro @g6_2 (And.intro @g7_2 (And.intro @g8_2 (And.intro @g9_2 (And.intro @g10_2 (And.intro @g11_2 (And.intro @g12_2 (And.intro @g13_2 (And.intro @kk2c (And.intro @hrt_1 (And.intro @hex_1 (And.intro @dc157 p_spec_NextMatch_tf.down)))))))))))))))))))))))))
              try refine st_by ff ?_
              repeat' (first | exact trivial | refine And.intro sd ?_)
              refine key_1 _ ?_
              refine ⟨decide (v148 > v158), h_2, ?_⟩
              exact p_spec_NextMatch_pv ff trivial
          · try clear ff
            rintro σ hg_2
            rw [hJ_2] at hg_2
            obtain ⟨since_131, least_132, out_133, hj_2, g0_2a, g1_2a, g2_2a, g3_2a, g4_2a, g5_2a, g6_2a, g7_2a, g8_2a⟩ := hg_2
            cases hj_2
            try dsimp only at h_1
            have ff := And.intro @dc3 (And.intro @dr_1 (And.intro @w_1 (And.intro @kk1c (And.intro @f115c (And.intro @f115d (And.intro @g0_2a (And.intro @g1_2a (And.intro @g2_2a (And.intro @g3_2a (And.intro @g4_2a (And.intro @g5_2a (And.intro @g6_2a (And.intro @g7_2a (And.intro @g8_2a p_spec_NextMatch_tf.down))))))))))))))
            try refine st_by ff ?_
            repeat' (first | exact trivial | refine And.intro sd ?_)
            refine Back.intro (i_1 + 1, since_131, least_132, out_133) ?_ ?_
            · clear ff; rw [hM_1]; show l_a0.length - (i_1 + 1) < l_a0.length - i_1; omega
            rw [hI_1]
            refine ⟨⟨by clear ff; show i_1 + 1 ≤ l_a0.length; omega, by show p_spec_NextMatch_l1 l_a0 now_a1 (l_a0.drop (i_1 + 1)) (i_1 + 1) since_131 least_132 out_133 = some q_1; rw [hd_1]; exact h_1⟩, ?_⟩
            exact p_spec_NextMatch_pv ff trivial
      · try clear ff
        rintro σ hg_1
        rw [hJ_1] at hg_1
        obtain ⟨since_62, least_63, out_65, hj_1, g0_1a, g1_1a⟩ := hg_1
        cases hj_1
        try dsimp only at h
        have ff := And.intro @dc3 (And.intro @g0_1a (And.intro @g1_1a p_spec_NextMatch_tf.down))
        try refine st_by ff ?_
        repeat' (first | exact trivial | refine And.intro sd ?_)
        cases h
        exact ret_q2 rfl (p_spec_NextMatch_rt ff trivial)
  have hrt_0 := fun σ : ASt => congrFun (congrFun hk_0.symm AX.rt) σ
  have hex_0 := fun (i : Nat) (σ : ASt) => congrFun (congrFun hk_0.symm (AX.ex i)) σ
  by_cases c159 : v1 = true
  case neg =>
   rw [if_neg c159] at h
   have dc159 := eq_false_of_ne_true c159
   have ff := And.intro @hrt_0 (And.intro @hex_0 (And.intro @dc159 p_spec_NextMatch_tf.down))
   try refine st_by ff ?_
   repeat' (first | exact trivial | refine And.intro sd ?_)
   refine key_0 _ ?_
   refine ⟨true, h, ?_⟩
   exact p_spec_NextMatch_pv ff trivial
  rw [if_pos c159] at h
  have dc159 := c159
  have ff := And.intro @hrt_0 (And.intro @hex_0 (And.intro @dc159 p_spec_NextMatch_tf.down))
  try refine st_by ff ?_
  repeat' (first | exact trivial | refine And.intro sd ?_)
  first
  | (refine cq_call (l1In_does now_a1 0 100000) (hf_by ff) kr ⟨p_spec_NextMatch_sa ff trivial, ?_⟩; clear ff)
  have ff := And.intro @hrt_0 (And.intro @hex_0 (And.intro @dc159 p_spec_NextMatch_tf.down))
  try refine st_by ff ?_
  repeat' (first | exact trivial | refine And.intro sd ?_)
  refine key_0 _ ?_
  refine ⟨!(rng now_a1 0 100000), h, ?_⟩
  exact p_spec_NextMatch_pv ff trivial
/-! impl.isPlayer -/
theorem p_impl_isPlayer_pv {F C A : Prop} (hF : F) (hC : C) (h : F → C → A := by intro hF hC; first | exact cl_by hF | (refine st_by hF ?_; (repeat' (first | exact trivial | apply And.intro)); all_goals (clear hF; first | rfl | (simp only [hC, List.length_append, List.length_cons, List.length_nil, List.append_nil, List.nil_append, List.cons_append, List.length_set, List.append_assoc, Nat.zero_add, List.length_replicate, esPlayer_app, esPlayer_cons, esPlayer_nil, ePlayer_eq]; done) | (simp [hC, List.length_append, List.length_cons, List.length_nil, List.append_nil, List.nil_append, List.cons_append, List.length_set, List.append_assoc, Nat.zero_add, List.length_replicate, esPlayer_app, esPlayer_cons, esPlayer_nil, ePlayer_eq]; done) | omega))) : A := h hF hC
theorem p_impl_isPlayer_sa {F C A : Prop} (hF : F) (hC : C) (h : F → C → A := by intro hF hC; first | exact ca_by hF | (refine sa_by hF ?_; (repeat' (first | exact trivial | apply And.intro)); all_goals (clear hF; first | rfl | (simp only [hC, List.length_append, List.length_cons, List.length_nil, List.append_nil, List.nil_append, List.cons_append, List.length_set, List.append_assoc, Nat.zero_add, List.length_replicate, esPlayer_app, esPlayer_cons, esPlayer_nil, ePlayer_eq]; done) | (simp [hC, List.length_append, List.length_cons, List.length_nil, List.append_nil, List.nil_append, List.cons_append, List.length_set, List.append_assoc, Nat.zero_add, List.length_replicate, esPlayer_app, esPlayer_cons, esPlayer_nil, ePlayer_eq]; done) | omega))) : A := h hF hC
theorem p_impl_isPlayer_rt {F C A : Prop} (hF : F) (hC : C) (h : F → C → A := by intro hF hC; first | (refine sr_by hF ?_; (repeat' (first | exact trivial | apply And.intro)); all_goals (clear hF; first | rfl | (simp only [hC, List.length_append, List.length_cons, List.length_nil, List.append_nil, List.nil_append, List.cons_append, List.length_set, List.append_assoc, Nat.zero_add, List.length_replicate, esPlayer_app, esPlayer_cons, esPlayer_nil, ePlayer_eq]; done) | (simp [hC, List.length_append, List.length_cons, List.length_nil, List.append_nil, List.nil_append, List.cons_append, List.length_set, List.append_assoc, Nat.zero_add, List.length_replicate, esPlayer_app, esPlayer_cons, esPlayer_nil, ePlayer_eq]; done) | omega)) | (first | rfl | (simp only [hC, List.length_append, List.length_cons, List.length_nil, List.append_nil, List.nil_append, List.cons_append, List.length_set, List.append_assoc, Nat.zero_add, List.length_replicate, esPlayer_app, esPlayer_cons, esPlayer_nil, ePlayer_eq]; done) | (simp [hC, List.length_append, List.length_cons, List.length_nil, List.append_nil, List.nil_append, List.cons_append, List.length_set, List.append_assoc, Nat.zero_add, List.length_replicate, esPlayer_app, esPlayer_cons, esPlayer_nil, ePlayer_eq]; done) | omega)) : A := h hF hC
def p_impl_isPlayer_tf := PLift.up (And.intro @ePlayer_eq (And.intro @esPlayer_len (And.intro @esPlayer_nil (And.intro @esPlayer_leaf (And.intro @esPlayer_fit (And.intro @esPlayer_share (And.intro @esPlayer_pure (And.intro @str_beq (And.intro @Ty.nz9 (And.intro @Ty.ldA9 (And.intro @Ty.ldS9 (And.intro @Ty.sz9 (And.intro @Ty.szn9 (And.intro @Ty.nz3 (And.intro @Ty.ldA3 (And.intro @Ty.ldS3 (And.intro @Ty.sz3 (And.intro @Ty.szn3 (And.intro @Ty.fo45_0 (And.intro @Ty.fk45_0 (And.intro @Ty.fs45_0 (And.intro @Ty.fn45_0 (And.intro @Ty.fo45_1 (And.intro @Ty.fk45_1 (And.intro @Ty.fs45_1 (And.intro @Ty.fn45_1 (And.intro @Ty.fo45_2 (And.intro @Ty.fk45_2 (And.intro @Ty.fs45_2 (And.intro @Ty.fn45_2 @trivial))))))))))))))))))))))))))))))
def p_impl_isPlayer (p_a0 : GPlayer) : Option (Bool) := (if p_a0.Name.size ≤ 9223372036854775807 then (if (goodName p_a0.Name) = true then (if (rng p_a0.Rating 0 4000) = true then some (rng p_a0.Since 0 100000) else some false) else some false) else none)
theorem p_impl_isPlayer_does (p_a0 : GPlayer) (r : Bool) (h : p_impl_isPlayer p_a0 = some r) : Does Try.prog 39 [.agg (ePlayer p_a0)] (B r) := by
  rw [p_impl_isPlayer] at h
  refine Does.walk (nt := 16) Try.func39 rfl rfl (by simp) (by decide) rfl (fun G0 X w0 pv => ?_)
  by_cases c1 : p_a0.Name.size ≤ 9223372036854775807
  case neg => rw [if_neg c1] at h; cases h
  rw [if_pos c1] at h
  have ff := p_impl_isPlayer_tf.down
  try refine st_by ff ?_
  repeat' (first | exact trivial | refine And.intro sd ?_)
  first
  | (refine cq_call (implGoodName_does p_a0.Name (by first | assumption | omega)) (hf_by ff) kr ⟨p_impl_isPlayer_sa ff trivial, ?_⟩; clear ff)
  by_cases c2 : (goodName p_a0.Name) = true
  case neg =>
   rw [if_neg c2] at h
   have dc2 := eq_false_of_ne_true c2
   have ff := And.intro @dc2 p_impl_isPlayer_tf.down
   try refine st_by ff ?_
   repeat' (first | exact trivial | refine And.intro sd ?_)
   cases h
   exact ret_q1 rfl (p_impl_isPlayer_rt ff trivial)
  rw [if_pos c2] at h
  have dc2 := c2
  have ff := And.intro @dc2 p_impl_isPlayer_tf.down
  try refine st_by ff ?_
  repeat' (first | exact trivial | refine And.intro sd ?_)
  first
  | (refine cq_call (inRange_does p_a0.Rating 0 4000) (hf_by ff) kr ⟨p_impl_isPlayer_sa ff trivial, ?_⟩; clear ff)
  by_cases c3 : (rng p_a0.Rating 0 4000) = true
  case neg =>
   rw [if_neg c3] at h
   have dc3 := eq_false_of_ne_true c3
   have ff := And.intro @dc2 (And.intro @dc3 p_impl_isPlayer_tf.down)
   try refine st_by ff ?_
   repeat' (first | exact trivial | refine And.intro sd ?_)
   cases h
   exact ret_q1 rfl (p_impl_isPlayer_rt ff trivial)
  rw [if_pos c3] at h
  have dc3 := c3
  have ff := And.intro @dc2 (And.intro @dc3 p_impl_isPlayer_tf.down)
  try refine st_by ff ?_
  repeat' (first | exact trivial | refine And.intro sd ?_)
  first
  | (refine cq_call (isTime_does p_a0.Since) (hf_by ff) kr ⟨p_impl_isPlayer_sa ff trivial, ?_⟩; clear ff)
  have ff := And.intro @dc2 (And.intro @dc3 p_impl_isPlayer_tf.down)
  try refine st_by ff ?_
  repeat' (first | exact trivial | refine And.intro sd ?_)
  cases h
  exact ret_q1 rfl (p_impl_isPlayer_rt ff trivial)
/-! impl.GoodPlayers -/
def p_impl_GoodPlayers_l0 (l_a0 : List GPlayer) : List GPlayer → Nat → Option (LR (Bool) (Unit))
  | [], i_0 => some (.out ())
  | x_0 :: r_0, i_0 => ((p_impl_isPlayer x_0).bind fun v20 => (if v20 = true then (if (i_0 : Int) > 0 then ((idx l_a0 (IntKind.i64.wrap ((i_0 : Int) - 1))).bind fun x23 => (if (Op.bytesLess x23.Name.toList x_0.Name.toList) = true then p_impl_GoodPlayers_l0 l_a0 r_0 (i_0 + 1) else some (.ret false))) else p_impl_GoodPlayers_l0 l_a0 r_0 (i_0 + 1)) else some (.ret false)))
theorem p_impl_GoodPlayers_pv {F C A : Prop} (hF : F) (hC : C) (h : F → C → A := by intro hF hC; first | exact cl_by hF | (refine st_by hF ?_; (repeat' (first | exact trivial | apply And.intro)); all_goals (clear hF; first | rfl | (simp only [hC, List.length_append, List.length_cons, List.length_nil, List.append_nil, List.nil_append, List.cons_append, List.length_set, List.append_assoc, Nat.zero_add, List.length_replicate, esPlayer_app, esPlayer_cons, esPlayer_nil, ePlayer_eq]; done) | (simp [hC, List.length_append, List.length_cons, List.length_nil, List.append_nil, List.nil_append, List.cons_append, List.length_set, List.append_assoc, Nat.zero_add, List.length_replicate, esPlayer_app, esPlayer_cons, esPlayer_nil, ePlayer_eq]; done) | omega))) : A := h hF hC
theorem p_impl_GoodPlayers_sa {F C A : Prop} (hF : F) (hC : C) (h : F → C → A := by intro hF hC; first | exact ca_by hF | (refine sa_by hF ?_; (repeat' (first | exact trivial | apply And.intro)); all_goals (clear hF; first | rfl | (simp only [hC, List.length_append, List.length_cons, List.length_nil, List.append_nil, List.nil_append, List.cons_append, List.length_set, List.append_assoc, Nat.zero_add, List.length_replicate, esPlayer_app, esPlayer_cons, esPlayer_nil, ePlayer_eq]; done) | (simp [hC, List.length_append, List.length_cons, List.length_nil, List.append_nil, List.nil_append, List.cons_append, List.length_set, List.append_assoc, Nat.zero_add, List.length_replicate, esPlayer_app, esPlayer_cons, esPlayer_nil, ePlayer_eq]; done) | omega))) : A := h hF hC
theorem p_impl_GoodPlayers_rt {F C A : Prop} (hF : F) (hC : C) (h : F → C → A := by intro hF hC; first | (refine sr_by hF ?_; (repeat' (first | exact trivial | apply And.intro)); all_goals (clear hF; first | rfl | (simp only [hC, List.length_append, List.length_cons, List.length_nil, List.append_nil, List.nil_append, List.cons_append, List.length_set, List.append_assoc, Nat.zero_add, List.length_replicate, esPlayer_app, esPlayer_cons, esPlayer_nil, ePlayer_eq]; done) | (simp [hC, List.length_append, List.length_cons, List.length_nil, List.append_nil, List.nil_append, List.cons_append, List.length_set, List.append_assoc, Nat.zero_add, List.length_replicate, esPlayer_app, esPlayer_cons, esPlayer_nil, ePlayer_eq]; done) | omega)) | (first | rfl | (simp only [hC, List.length_append, List.length_cons, List.length_nil, List.append_nil, List.nil_append, List.cons_append, List.length_set, List.append_assoc, Nat.zero_add, List.length_replicate, esPlayer_app, esPlayer_cons, esPlayer_nil, ePlayer_eq]; done) | (simp [hC, List.length_append, List.length_cons, List.length_nil, List.append_nil, List.nil_append, List.cons_append, List.length_set, List.append_assoc, Nat.zero_add, List.length_replicate, esPlayer_app, esPlayer_cons, esPlayer_nil, ePlayer_eq]; done) | omega)) : A := h hF hC
def p_impl_GoodPlayers_tf := PLift.up (And.intro @ePlayer_eq (And.intro @esPlayer_len (And.intro @esPlayer_nil (And.intro @esPlayer_leaf (And.intro @esPlayer_fit (And.intro @esPlayer_share (And.intro @esPlayer_pure (And.intro @str_beq (And.intro @Ty.sl27 (And.intro @Ty.slz27 (And.intro @Ty.nz45 (And.intro @Ty.ldA45 (And.intro @Ty.sz45 (And.intro @Ty.szn45 (And.intro @Ty.nz9 (And.intro @Ty.ldA9 (And.intro @Ty.ldS9 (And.intro @Ty.sz9 (And.intro @Ty.szn9 (And.intro @Ty.fo45_0 (And.intro @Ty.fk45_0 (And.intro @Ty.fs45_0 (And.intro @Ty.fn45_0 (And.intro @Ty.zv45 @trivial))))))))))))))))))))))))
def p_impl_GoodPlayers (l_a0 : List GPlayer) : Option (Bool) := ((p_impl_GoodPlayers_l0 l_a0 l_a0 0).bind fun q_0 => match q_0 with | .ret r_ => some r_ | .out _ => some (decide ((l_a0.length : Int) ≤ 12)))
theorem p_impl_GoodPlayers_does (l_a0 : List GPlayer) (r : Bool) (h : p_impl_GoodPlayers l_a0 = some r) : Does Try.prog 25 [.row false 3 l_a0.length (esPlayer l_a0)] (B r) := by
  rw [p_impl_GoodPlayers] at h
  refine Does.bnd (fun hb => ?_)
  have hb2 : l_a0.length ≤ 9223372036854775807 := by simpa [AV.fitNs, AV.fitN] using hb
  have hl0 := hb2
  refine Does.walk (nt := 34) Try.func25 rfl rfl (by simp) (by decide) rfl (fun G0 X w0 pv => ?_)
  have hL_0 : l_a0.length ≤ 9223372036854775807 := by first | assumption | omega
  obtain ⟨q_0, eq_0, h⟩ := Option.bind_eq_some_iff.1 h
  have ff := p_impl_GoodPlayers_tf.down
  try refine st_by ff ?_
  repeat' (first | exact trivial | refine And.intro sd ?_)
  obtain ⟨I_0, hI_0⟩ : ∃ I_ : (Nat) → ASt → Prop, I_ = (fun (i_0 : Nat) σ => (i_0 ≤ l_a0.length ∧ p_impl_GoodPlayers_l0 l_a0 (l_a0.drop i_0) i_0 = some q_0) ∧ σ.t 0 = .row false 3 l_a0.length (esPlayer l_a0) ∧ σ.t 5 = .row false 3 l_a0.length (esPlayer l_a0) ∧ σ.t 6 = I (l_a0.length : Int) ∧ σ.t 7 = I (i_0 : Int)) := ⟨_, rfl⟩
  obtain ⟨M_0, hM_0⟩ : ∃ M_ : (Nat) → Nat, M_ = (fun (i_0 : Nat) => l_a0.length - i_0) := ⟨_, rfl⟩
  obtain ⟨J_0, hJ_0⟩ : ∃ J_ : ASt → Prop, J_ = (fun σ => (some (.out ()) = some q_0) ∧ σ.t 0 = .row false 3 l_a0.length (esPlayer l_a0)) := ⟨_, rfl⟩
  refine aw_loopC (id := 0) I_0 M_0 J_0 (0) ?_ ?_ ?_
  · rw [hI_0]
    refine ⟨⟨Nat.zero_le _, eq_0⟩, ?_⟩
    exact p_impl_GoodPlayers_pv ff trivial
  · try clear ff
    rintro i_0 σ hg_0
    rw [hI_0] at hg_0
    obtain ⟨⟨hi_0, h_0⟩, g0_0, g1_0, g2_0, g3_0⟩ := hg_0
    cases hr_0 : l_a0.drop i_0 with
    | nil =>
      rw [hr_0] at h_0
      rw [p_impl_GoodPlayers_l0] at h_0
      have hn_0 := drop_nil hr_0
      have dr_0 : decide ((i_0 : Int) < (l_a0.length : Int)) = false := decide_eq_false (by omega)
      have ff := And.intro @dr_0 (And.intro @g0_0 (And.intro @g1_0 (And.intro @g2_0 (And.intro @g3_0 p_impl_GoodPlayers_tf.down))))
      try refine st_by ff ?_
      repeat' (first | exact trivial | refine And.intro sd ?_)
      refine JW.intro ?_
      rw [hJ_0]
      refine ⟨h_0, ?_⟩
      exact p_impl_GoodPlayers_pv ff trivial
    | cons x_0 r_0 =>
      rw [hr_0] at h_0
      rw [p_impl_GoodPlayers_l0] at h_0
      obtain ⟨ht_0, hg_0, hd_0⟩ := drop_cons hr_0
      have dr_0 : decide ((i_0 : Int) < (l_a0.length : Int)) = true := decide_eq_true (by omega)
      have w_0 : IntKind.i64.wrap ((i_0 : Int) + 1) = ((i_0 + 1 : Nat) : Int) := wI _ (by omega) (by omega)
      have kk0c : (esPlayer l_a0).drop (i_0 * 3) = ePlayer x_0 ++ esPlayer (l_a0.drop (i_0 + 1)) := drop_enc (fun _ => rfl) (hg_0)
      obtain ⟨v20, ev20, h_0⟩ := Option.bind_eq_some_iff.1 h_0
      try dsimp only at h_0
      have ff := And.intro @dr_0 (And.intro @w_0 (And.intro @g0_0 (And.intro @g1_0 (And.intro @g2_0 (And.intro @g3_0 (And.intro @kk0c p_impl_GoodPlayers_tf.down))))))
      try refine st_by ff ?_
      repeat' (first | exact trivial | refine And.intro sd ?_ | (refine aw_drawn (id := 4) ?_ [[], [0], [0, 1], [0, 1, 2], [0, 1, 2, 3], [0, 1, 2, 3, 4], [0, 1, 2, 3, 4, 5], [0, 1, 2, 3, 4, 5, 6], [0, 1, 2, 3, 4, 5, 6], [0, 1, 2, 3, 4, 5, 6, 8], [0, 1, 2, 3, 4, 5, 6, 7, 8, 9], [0, 1, 2, 3, 4, 5, 6, 7, 8, 9, 10], [0, 1, 2, 3, 4, 5, 6, 7, 8, 9, 10, 11], [0, 1, 2, 3, 4, 5, 6], [0, 1, 2, 3, 4, 5, 6, 13], [0, 1, 2, 3, 4, 5, 6, 7, 8, 9, 10, 11, 12, 13, 14], [0, 1, 2, 3, 4, 5, 6, 7, 8, 9, 10, 11, 12, 13, 14, 15], [0, 1, 2, 3, 4, 5, 6, 7, 8, 9, 10, 11, 12, 13, 14, 15, 16]] 15 ?_ ?_; (· kernel_rfl); (· kernel_rfl); refine st_by ff ?_))
      first
      | (refine cq_call (p_impl_isPlayer_does x_0 v20 ev20) (hf_by ff) kr ⟨p_impl_GoodPlayers_sa ff trivial, ?_⟩; clear ff)
      | (refine cq_dcall (p_impl_isPlayer_does x_0 v20 ev20) (hf_by ff) kr ⟨p_impl_GoodPlayers_sa ff trivial, ?_⟩; clear ff)
      by_cases c21 : v20 = true
      case neg =>
       rw [if_neg c21] at h_0
       have dc21 := eq_false_of_ne_true c21
       cases h_0
       try dsimp only at h
       have ff := And.intro @dr_0 (And.intro @w_0 (And.intro @g0_0 (And.intro @g1_0 (And.intro @g2_0 (And.intro @g3_0 (And.intro @kk0c (And.intro @dc21 p_impl_GoodPlayers_tf.down)))))))
       try refine st_by ff ?_
       repeat' (first | exact trivial | refine And.intro sd ?_)
       cases h
       exact ret_q1 rfl (p_impl_GoodPlayers_rt ff trivial)
      rw [if_pos c21] at h_0
      have dc21 := c21
      by_cases c22 : (i_0 : Int) > 0
      case neg =>
       rw [if_neg c22] at h_0
       have dc22 := decide_eq_false c22
       have ff := And.intro @dr_0 (And.intro @w_0 (And.intro @g0_0 (And.intro @g1_0 (And.intro @g2_0 (And.intro @g3_0 (And.intro @kk0c (And.intro @dc21 (And.intro @dc22 p_impl_GoodPlayers_tf.down))))))))
       try refine st_by ff ?_
       repeat' (first | exact trivial | refine And.intro sd ?_)
       refine Back.intro (i_0 + 1) ?_ ?_
       · clear ff; rw [hM_0]; show l_a0.length - (i_0 + 1) < l_a0.length - i_0; omega
       rw [hI_0]
       refine ⟨⟨by clear ff; show i_0 + 1 ≤ l_a0.length; omega, by show p_impl_GoodPlayers_l0 l_a0 (l_a0.drop (i_0 + 1)) (i_0 + 1) = some q_0; rw [hd_0]; exact h_0⟩, ?_⟩
       exact p_impl_GoodPlayers_pv ff trivial
      rw [if_pos c22] at h_0
      have dc22 := decide_eq_true c22
      obtain ⟨x23, ex23, h_0⟩ := Option.bind_eq_some_iff.1 h_0
      try dsimp only at h_0
      have f24a := idx_lo ex23
      have f24b := idx_hi ex23
      have f24c : (esPlayer l_a0).drop (((IntKind.i64.wrap ((i_0 : Int) - 1)).toNat) * 3) = ePlayer x23 ++ esPlayer (l_a0.drop ((IntKind.i64.wrap ((i_0 : Int) - 1)).toNat + 1)) := drop_enc (fun _ => rfl) (idx_get ex23)
      by_cases c25 : (Op.bytesLess x23.Name.toList x_0.Name.toList) = true
      case neg =>
       rw [if_neg c25] at h_0
       have dc25 := eq_false_of_ne_true c25
       cases h_0
       try dsimp only at h
       have ff := And.intro @dr_0 (And.intro @w_0 (And.intro @g0_0 (And.intro @g1_0 (And.intro @g2_0 (And.intro @g3_0 (And.intro @kk0c (And.intro @dc21 (And.intro @dc22 (And.intro @f24c (And.intro @dc25 p_impl_GoodPlayers_tf.down))))))))))
       try refine st_by ff ?_
       repeat' (first | exact trivial | refine And.intro sd ?_)
       cases h
       exact ret_q1 rfl (p_impl_GoodPlayers_rt ff trivial)
      rw [if_pos c25] at h_0
      have dc25 := c25
      have ff := And.intro @dr_0 (And.intro @w_0 (And.intro @g0_0 (And.intro @g1_0 (And.intro @g2_0 (And.intro @g3_0 (And.intro @kk0c (And.intro @dc21 (And.intro @dc22 (And.intro @f24c (And.intro @dc25 p_impl_GoodPlayers_tf.down))))))))))
      try refine st_by ff ?_
      repeat' (first | exact trivial | refine And.intro sd ?_)
      refine Back.intro (i_0 + 1) ?_ ?_
      · clear ff; rw [hM_0]; show l_a0.length - (i_0 + 1) < l_a0.length - i_0; omega
      rw [hI_0]
      refine ⟨⟨by clear ff; show i_0 + 1 ≤ l_a0.length; omega, by show p_impl_GoodPlayers_l0 l_a0 (l_a0.drop (i_0 + 1)) (i_0 + 1) = some q_0; rw [hd_0]; exact h_0⟩, ?_⟩
      exact p_impl_GoodPlayers_pv ff trivial
  · try clear ff
    rintro σ hg_0
    rw [hJ_0] at hg_0
    obtain ⟨hj_0, g0_0a⟩ := hg_0
    cases hj_0
    try dsimp only at h
    have ff := And.intro @g0_0a p_impl_GoodPlayers_tf.down
    try refine st_by ff ?_
    repeat' (first | exact trivial | refine And.intro sd ?_)
    cases h
    exact ret_q1 rfl (p_impl_GoodPlayers_rt ff trivial)
/-! impl.NextMatch$1 -/
theorem p_impl_NextMatch_1_pv {F C A : Prop} (hF : F) (hC : C) (h : F → C → A := by intro hF hC; first | exact cl_by hF | (refine st_by hF ?_; (repeat' (first | exact trivial | apply And.intro)); all_goals (clear hF; first | rfl | (simp only [hC, List.length_append, List.length_cons, List.length_nil, List.append_nil, List.nil_append, List.cons_append, List.length_set, List.append_assoc, Nat.zero_add, List.length_replicate, esInt_app, esInt_cons, esInt_nil, eInt_eq, esPlayer_app, esPlayer_cons, esPlayer_nil, ePlayer_eq]; done) | (simp [hC, List.length_append, List.length_cons, List.length_nil, List.append_nil, List.nil_append, List.cons_append, List.length_set, List.append_assoc, Nat.zero_add, List.length_replicate, esInt_app, esInt_cons, esInt_nil, eInt_eq, esPlayer_app, esPlayer_cons, esPlayer_nil, ePlayer_eq]; done) | omega))) : A := h hF hC
theorem p_impl_NextMatch_1_sa {F C A : Prop} (hF : F) (hC : C) (h : F → C → A := by intro hF hC; first | exact ca_by hF | (refine sa_by hF ?_; (repeat' (first | exact trivial | apply And.intro)); all_goals (clear hF; first | rfl | (simp only [hC, List.length_append, List.length_cons, List.length_nil, List.append_nil, List.nil_append, List.cons_append, List.length_set, List.append_assoc, Nat.zero_add, List.length_replicate, esInt_app, esInt_cons, esInt_nil, eInt_eq, esPlayer_app, esPlayer_cons, esPlayer_nil, ePlayer_eq]; done) | (simp [hC, List.length_append, List.length_cons, List.length_nil, List.append_nil, List.nil_append, List.cons_append, List.length_set, List.append_assoc, Nat.zero_add, List.length_replicate, esInt_app, esInt_cons, esInt_nil, eInt_eq, esPlayer_app, esPlayer_cons, esPlayer_nil, ePlayer_eq]; done) | omega))) : A := h hF hC
theorem p_impl_NextMatch_1_rt {F C A : Prop} (hF : F) (hC : C) (h : F → C → A := by intro hF hC; first | (refine sr_by hF ?_; (repeat' (first | exact trivial | apply And.intro)); all_goals (clear hF; first | rfl | (simp only [hC, List.length_append, List.length_cons, List.length_nil, List.append_nil, List.nil_append, List.cons_append, List.length_set, List.append_assoc, Nat.zero_add, List.length_replicate, esInt_app, esInt_cons, esInt_nil, eInt_eq, esPlayer_app, esPlayer_cons, esPlayer_nil, ePlayer_eq]; done) | (simp [hC, List.length_append, List.length_cons, List.length_nil, List.append_nil, List.nil_append, List.cons_append, List.length_set, List.append_assoc, Nat.zero_add, List.length_replicate, esInt_app, esInt_cons, esInt_nil, eInt_eq, esPlayer_app, esPlayer_cons, esPlayer_nil, ePlayer_eq]; done) | omega)) | (first | rfl | (simp only [hC, List.length_append, List.length_cons, List.length_nil, List.append_nil, List.nil_append, List.cons_append, List.length_set, List.append_assoc, Nat.zero_add, List.length_replicate, esInt_app, esInt_cons, esInt_nil, eInt_eq, esPlayer_app, esPlayer_cons, esPlayer_nil, ePlayer_eq]; done) | (simp [hC, List.length_append, List.length_cons, List.length_nil, List.append_nil, List.nil_append, List.cons_append, List.length_set, List.append_assoc, Nat.zero_add, List.length_replicate, esInt_app, esInt_cons, esInt_nil, eInt_eq, esPlayer_app, esPlayer_cons, esPlayer_nil, ePlayer_eq]; done) | omega)) : A := h hF hC
def p_impl_NextMatch_1_tf := PLift.up (And.intro @eInt_eq (And.intro @esInt_len (And.intro @esInt_nil (And.intro @esInt_leaf (And.intro @esInt_fit (And.intro @ePlayer_eq (And.intro @esPlayer_len (And.intro @esPlayer_nil (And.intro @esPlayer_leaf (And.intro @esPlayer_fit (And.intro @esInt_share (And.intro @esInt_pure (And.intro @esPlayer_share (And.intro @esPlayer_pure (And.intro @str_beq (And.intro @Ty.nz3 (And.intro @Ty.ldA3 (And.intro @Ty.ldS3 (And.intro @Ty.sz3 (And.intro @Ty.szn3 (And.intro @Ty.fo45_2 (And.intro @Ty.fk45_2 (And.intro @Ty.fs45_2 (And.intro @Ty.fn45_2 @trivial))))))))))))))))))))))))
def p_impl_NextMatch_1 (p_a0 : GPlayer) (k0_ : Int) : Option (Bool) := some (decide (p_a0.Since > k0_))
theorem p_impl_NextMatch_1_does (p_a0 : GPlayer) (k0_ : Int) (r : Bool) (h : p_impl_NextMatch_1 p_a0 k0_ = some r) : Does Try.prog 28 [.agg (ePlayer p_a0), .box false (eInt k0_)] (B r) := by
  rw [p_impl_NextMatch_1] at h
  refine Does.walk (nt := 8) Try.func28 rfl rfl (by simp) (by decide) rfl (fun G0 X w0 pv => ?_)
  have ff := p_impl_NextMatch_1_tf.down
  try refine st_by ff ?_
  repeat' (first | exact trivial | refine And.intro sd ?_)
  cases h
  exact ret_q1 rfl (p_impl_NextMatch_1_rt ff trivial)
/-! slices.IndexFunc[[]impl.Player,impl.Player] -/
def p_slices_IndexFunc_impl_Player_impl_Player_l0 (f_a1 : GPlayer → Option Bool) : List GPlayer → Nat → Option (LR (Int) (Unit))
  | [], i_0 => some (.out ())
  | x_0 :: r_0, i_0 => ((f_a1 x_0).bind fun v12 => (if v12 = true then some (.ret (i_0 : Int)) else p_slices_IndexFunc_impl_Player_impl_Player_l0 f_a1 r_0 (i_0 + 1)))
theorem p_slices_IndexFunc_impl_Player_impl_Player_pv {F C A : Prop} (hF : F) (hC : C) (h : F → C → A := by intro hF hC; first | exact cl_by hF | (refine st_by hF ?_; (repeat' (first | exact trivial | apply And.intro)); all_goals (clear hF; first | rfl | (simp only [hC, List.length_append, List.length_cons, List.length_nil, List.append_nil, List.nil_append, List.cons_append, List.length_set, List.append_assoc, Nat.zero_add, List.length_replicate, esPlayer_app, esPlayer_cons, esPlayer_nil, ePlayer_eq]; done) | (simp [hC, List.length_append, List.length_cons, List.length_nil, List.append_nil, List.nil_append, List.cons_append, List.length_set, List.append_assoc, Nat.zero_add, List.length_replicate, esPlayer_app, esPlayer_cons, esPlayer_nil, ePlayer_eq]; done) | omega))) : A := h hF hC
theorem p_slices_IndexFunc_impl_Player_impl_Player_sa {F C A : Prop} (hF : F) (hC : C) (h : F → C → A := by intro hF hC; first | exact ca_by hF | (refine sa_by hF ?_; (repeat' (first | exact trivial | apply And.intro)); all_goals (clear hF; first | rfl | (simp only [hC, List.length_append, List.length_cons, List.length_nil, List.append_nil, List.nil_append, List.cons_append, List.length_set, List.append_assoc, Nat.zero_add, List.length_replicate, esPlayer_app, esPlayer_cons, esPlayer_nil, ePlayer_eq]; done) | (simp [hC, List.length_append, List.length_cons, List.length_nil, List.append_nil, List.nil_append, List.cons_append, List.length_set, List.append_assoc, Nat.zero_add, List.length_replicate, esPlayer_app, esPlayer_cons, esPlayer_nil, ePlayer_eq]; done) | omega))) : A := h hF hC
theorem p_slices_IndexFunc_impl_Player_impl_Player_rt {F C A : Prop} (hF : F) (hC : C) (h : F → C → A := by intro hF hC; first | (refine sr_by hF ?_; (repeat' (first | exact trivial | apply And.intro)); all_goals (clear hF; first | rfl | (simp only [hC, List.length_append, List.length_cons, List.length_nil, List.append_nil, List.nil_append, List.cons_append, List.length_set, List.append_assoc, Nat.zero_add, List.length_replicate, esPlayer_app, esPlayer_cons, esPlayer_nil, ePlayer_eq]; done) | (simp [hC, List.length_append, List.length_cons, List.length_nil, List.append_nil, List.nil_append, List.cons_append, List.length_set, List.append_assoc, Nat.zero_add, List.length_replicate, esPlayer_app, esPlayer_cons, esPlayer_nil, ePlayer_eq]; done) | omega)) | (first | rfl | (simp only [hC, List.length_append, List.length_cons, List.length_nil, List.append_nil, List.nil_append, List.cons_append, List.length_set, List.append_assoc, Nat.zero_add, List.length_replicate, esPlayer_app, esPlayer_cons, esPlayer_nil, ePlayer_eq]; done) | (simp [hC, List.length_append, List.length_cons, List.length_nil, List.append_nil, List.nil_append, List.cons_append, List.length_set, List.append_assoc, Nat.zero_add, List.length_replicate, esPlayer_app, esPlayer_cons, esPlayer_nil, ePlayer_eq]; done) | omega)) : A := h hF hC
def p_slices_IndexFunc_impl_Player_impl_Player_tf := PLift.up (And.intro @ePlayer_eq (And.intro @esPlayer_len (And.intro @esPlayer_nil (And.intro @esPlayer_leaf (And.intro @esPlayer_fit (And.intro @esPlayer_share (And.intro @esPlayer_pure (And.intro @str_beq (And.intro @Ty.sl27 (And.intro @Ty.slz27 (And.intro @Ty.nz45 (And.intro @Ty.ldA45 (And.intro @Ty.sz45 (And.intro @Ty.szn45 @trivial))))))))))))))
def p_slices_IndexFunc_impl_Player_impl_Player (s_a0 : List GPlayer) (f_a1 : GPlayer → Option Bool) : Option (Int) := ((p_slices_IndexFunc_impl_Player_impl_Player_l0 f_a1 s_a0 0).bind fun q_0 => match q_0 with | .ret r_ => some r_ | .out _ => some (-1))
theorem p_slices_IndexFunc_impl_Player_impl_Player_does (s_a0 : List GPlayer) (f1 : FuncId) (caps1 : List AV) (hc1 : AV.noRefs caps1 = true) (he1 : entB Try.prog f1 = true) (f_a1 : GPlayer → Option Bool) (hp1 : ∀ (x0_ : GPlayer) (y_ : Bool), f_a1 x0_ = some y_ → Does Try.prog f1 ([.agg (ePlayer x0_)] ++ caps1) (B y_)) (r : Int) (h : p_slices_IndexFunc_impl_Player_impl_Player s_a0 f_a1 = some r) : Does Try.prog 41 [.row false 3 s_a0.length (esPlayer s_a0), .fn f1 caps1] (I r) := by
  rw [p_slices_IndexFunc_impl_Player_impl_Player] at h
  refine Does.bnd (fun hb => ?_)
  have hb2 : s_a0.length ≤ 9223372036854775807 := by simpa [AV.fitNs, AV.fitN] using hb
  have hl0 := hb2
  refine Does.walk (nt := 19) Try.func41 rfl rfl (by simp) (by decide) (by simp [AV.noRefs, AV.noRef, hc1]) (fun G0 X w0 pv => ?_)
  have hL_0 : s_a0.length ≤ 9223372036854775807 := by first | assumption | omega
  obtain ⟨q_0, eq_0, h⟩ := Option.bind_eq_some_iff.1 h
  have ff := And.intro @hc1 p_slices_IndexFunc_impl_Player_impl_Player_tf.down
  try refine st_by ff ?_
  repeat' (first | exact trivial | refine And.intro sd ?_)
  obtain ⟨I_0, hI_0⟩ : ∃ I_ : (Nat) → ASt → Prop, I_ = (fun (i_0 : Nat) σ => (i_0 ≤ s_a0.length ∧ p_slices_IndexFunc_impl_Player_impl_Player_l0 f_a1 (s_a0.drop i_0) i_0 = some q_0) ∧ σ.t 0 = .row false 3 s_a0.length (esPlayer s_a0) ∧ σ.t 1 = .fn f1 caps1 ∧ σ.t 7 = I (s_a0.length : Int) ∧ σ.t 8 = I (i_0 : Int)) := ⟨_, rfl⟩
  obtain ⟨M_0, hM_0⟩ : ∃ M_ : (Nat) → Nat, M_ = (fun (i_0 : Nat) => s_a0.length - i_0) := ⟨_, rfl⟩
  obtain ⟨J_0, hJ_0⟩ : ∃ J_ : ASt → Prop, J_ = (fun σ => (some (.out ()) = some q_0) ∧ True) := ⟨_, rfl⟩
  refine aw_loopC (id := 0) I_0 M_0 J_0 (0) ?_ ?_ ?_
  · rw [hI_0]
    refine ⟨⟨Nat.zero_le _, eq_0⟩, ?_⟩
    exact p_slices_IndexFunc_impl_Player_impl_Player_pv ff trivial
  · try clear ff
    rintro i_0 σ hg_0
    rw [hI_0] at hg_0
    obtain ⟨⟨hi_0, h_0⟩, g0_0, g1_0, g2_0, g3_0⟩ := hg_0
    cases hr_0 : s_a0.drop i_0 with
    | nil =>
      rw [hr_0] at h_0
      rw [p_slices_IndexFunc_impl_Player_impl_Player_l0] at h_0
      have hn_0 := drop_nil hr_0
      have dr_0 : decide ((i_0 : Int) < (s_a0.length : Int)) = false := decide_eq_false (by omega)
      have ff := And.intro @hc1 (And.intro @dr_0 (And.intro @g0_0 (And.intro @g1_0 (And.intro @g2_0 (And.intro @g3_0 p_slices_IndexFunc_impl_Player_impl_Player_tf.down)))))
      try refine st_by ff ?_
      repeat' (first | exact trivial | refine And.intro sd ?_)
      refine JW.intro ?_
      rw [hJ_0]
      refine ⟨h_0, ?_⟩
      exact p_slices_IndexFunc_impl_Player_impl_Player_pv ff trivial
    | cons x_0 r_0 =>
      rw [hr_0] at h_0
      rw [p_slices_IndexFunc_impl_Player_impl_Player_l0] at h_0
      obtain ⟨ht_0, hg_0, hd_0⟩ := drop_cons hr_0
      have dr_0 : decide ((i_0 : Int) < (s_a0.length : Int)) = true := decide_eq_true (by omega)
      have w_0 : IntKind.i64.wrap ((i_0 : Int) + 1) = ((i_0 + 1 : Nat) : Int) := wI _ (by omega) (by omega)
      have kk0c : (esPlayer s_a0).drop (i_0 * 3) = ePlayer x_0 ++ esPlayer (s_a0.drop (i_0 + 1)) := drop_enc (fun _ => rfl) (hg_0)
      obtain ⟨v12, ev12, h_0⟩ := Option.bind_eq_some_iff.1 h_0
      try dsimp only at h_0
      have ff := And.intro @hc1 (And.intro @dr_0 (And.intro @w_0 (And.intro @g0_0 (And.intro @g1_0 (And.intro @g2_0 (And.intro @g3_0 (And.intro @kk0c p_slices_IndexFunc_impl_Player_impl_Player_tf.down)))))))
      try refine st_by ff ?_
      repeat' (first | exact trivial | refine And.intro sd ?_)
      first
      | (refine cq_call (hp1 x_0 v12 ev12) (hf_by ff) he1 ⟨p_slices_IndexFunc_impl_Player_impl_Player_sa ff trivial, ?_⟩; clear ff)
      by_cases c13 : v12 = true
      · rw [if_pos c13] at h_0
        have dc13 := c13
        cases h_0
        try dsimp only at h
        have ff := And.intro @hc1 (And.intro @dr_0 (And.intro @w_0 (And.intro @g0_0 (And.intro @g1_0 (And.intro @g2_0 (And.intro @g3_0 (And.intro @kk0c (And.intro @dc13 p_slices_IndexFunc_impl_Player_impl_Player_tf.down))))))))
        try refine st_by ff ?_
        repeat' (first | exact trivial | refine And.intro sd ?_)
        cases h
        exact ret_q1 rfl (p_slices_IndexFunc_impl_Player_impl_Player_rt ff trivial)
      rw [if_neg c13] at h_0
      have dc13 := eq_false_of_ne_true c13
      have ff := And.intro @hc1 (And.intro @dr_0 (And.intro @w_0 (And.intro @g0_0 (And.intro @g1_0 (And.intro @g2_0 (And.intro @g3_0 (And.intro @kk0c (And.intro @dc13 p_slices_IndexFunc_impl_Player_impl_Player_tf.down))))))))
      try refine st_by ff ?_
      repeat' (first | exact trivial | refine And.intro sd ?_)
      refine Back.intro (i_0 + 1) ?_ ?_
      · clear ff; rw [hM_0]; show s_a0.length - (i_0 + 1) < s_a0.length - i_0; omega
      rw [hI_0]
      refine ⟨⟨by clear ff; show i_0 + 1 ≤ s_a0.length; omega, by show p_slices_IndexFunc_impl_Player_impl_Player_l0 f_a1 (s_a0.drop (i_0 + 1)) (i_0 + 1) = some q_0; rw [hd_0]; exact h_0⟩, ?_⟩
      exact p_slices_IndexFunc_impl_Player_impl_Player_pv ff trivial
  · try clear ff
    rintro σ hg_0
    rw [hJ_0] at hg_0
    obtain ⟨hj_0, _⟩ := hg_0
    cases hj_0
    try dsimp only at h
    have ff := And.intro @hc1 p_slices_IndexFunc_impl_Player_impl_Player_tf.down
    try refine st_by ff ?_
    repeat' (first | exact trivial | refine And.intro sd ?_)
    cases h
    exact ret_q1 rfl (p_slices_IndexFunc_impl_Player_impl_Player_rt ff trivial)
/-! slices.ContainsFunc[[]impl.Player,impl.Player] -/
theorem p_slices_ContainsFunc_impl_Player_impl_Player_pv {F C A : Prop} (hF : F) (hC : C) (h : F → C → A := by intro hF hC; first | exact cl_by hF | (refine st_by hF ?_; (repeat' (first | exact trivial | apply And.intro)); all_goals (clear hF; first | rfl | (simp only [hC, List.length_append, List.length_cons, List.length_nil, List.append_nil, List.nil_append, List.cons_append, List.length_set, List.append_assoc, Nat.zero_add, List.length_replicate, esPlayer_app, esPlayer_cons, esPlayer_nil, ePlayer_eq]; done) | (simp [hC, List.length_append, List.length_cons, List.length_nil, List.append_nil, List.nil_append, List.cons_append, List.length_set, List.append_assoc, Nat.zero_add, List.length_replicate, esPlayer_app, esPlayer_cons, esPlayer_nil, ePlayer_eq]; done) | omega))) : A := h hF hC
theorem p_slices_ContainsFunc_impl_Player_impl_Player_sa {F C A : Prop} (hF : F) (hC : C) (h : F → C → A := by intro hF hC; first | exact ca_by hF | (refine sa_by hF ?_; (repeat' (first | exact trivial | apply And.intro)); all_goals (clear hF; first | rfl | (simp only [hC, List.length_append, List.length_cons, List.length_nil, List.append_nil, List.nil_append, List.cons_append, List.length_set, List.append_assoc, Nat.zero_add, List.length_replicate, esPlayer_app, esPlayer_cons, esPlayer_nil, ePlayer_eq]; done) | (simp [hC, List.length_append, List.length_cons, List.length_nil, List.append_nil, List.nil_append, List.cons_append, List.length_set, List.append_assoc, Nat.zero_add, List.length_replicate, esPlayer_app, esPlayer_cons, esPlayer_nil, ePlayer_eq]; done) | omega))) : A := h hF hC
theorem p_slices_ContainsFunc_impl_Player_impl_Player_rt {F C A : Prop} (hF : F) (hC : C) (h : F → C → A := by intro hF hC; first | (refine sr_by hF ?_; (repeat' (first | exact trivial | apply And.intro)); all_goals (clear hF; first | rfl | (simp only [hC, List.length_append, List.length_cons, List.length_nil, List.append_nil, List.nil_append, List.cons_append, List.length_set, List.append_assoc, Nat.zero_add, List.length_replicate, esPlayer_app, esPlayer_cons, esPlayer_nil, ePlayer_eq]; done) | (simp [hC, List.length_append, List.length_cons, List.length_nil, List.append_nil, List.nil_append, List.cons_append, List.length_set, List.append_assoc, Nat.zero_add, List.length_replicate, esPlayer_app, esPlayer_cons, esPlayer_nil, ePlayer_eq]; done) | omega)) | (first | rfl | (simp only [hC, List.length_append, List.length_cons, List.length_nil, List.append_nil, List.nil_append, List.cons_append, List.length_set, List.append_assoc, Nat.zero_add, List.length_replicate, esPlayer_app, esPlayer_cons, esPlayer_nil, ePlayer_eq]; done) | (simp [hC, List.length_append, List.length_cons, List.length_nil, List.append_nil, List.nil_append, List.cons_append, List.length_set, List.append_assoc, Nat.zero_add, List.length_replicate, esPlayer_app, esPlayer_cons, esPlayer_nil, ePlayer_eq]; done) | omega)) : A := h hF hC
def p_slices_ContainsFunc_impl_Player_impl_Player_tf := PLift.up (And.intro @ePlayer_eq (And.intro @esPlayer_len (And.intro @esPlayer_nil (And.intro @esPlayer_leaf (And.intro @esPlayer_fit (And.intro @esPlayer_share (And.intro @esPlayer_pure (And.intro @str_beq @trivial))))))))
def p_slices_ContainsFunc_impl_Player_impl_Player (s_a0 : List GPlayer) (f_a1 : GPlayer → Option Bool) : Option (Bool) := ((p_slices_IndexFunc_impl_Player_impl_Player s_a0 f_a1).bind fun v1 => some (decide (v1 ≥ 0)))
theorem p_slices_ContainsFunc_impl_Player_impl_Player_does (s_a0 : List GPlayer) (f1 : FuncId) (caps1 : List AV) (hc1 : AV.noRefs caps1 = true) (he1 : entB Try.prog f1 = true) (f_a1 : GPlayer → Option Bool) (hp1 : ∀ (x0_ : GPlayer) (y_ : Bool), f_a1 x0_ = some y_ → Does Try.prog f1 ([.agg (ePlayer x0_)] ++ caps1) (B y_)) (r : Bool) (h : p_slices_ContainsFunc_impl_Player_impl_Player s_a0 f_a1 = some r) : Does Try.prog 27 [.row false 3 s_a0.length (esPlayer s_a0), .fn f1 caps1] (B r) := by
  rw [p_slices_ContainsFunc_impl_Player_impl_Player] at h
  refine Does.bnd (fun hb => ?_)
  have hb2 : s_a0.length ≤ 9223372036854775807 := by simpa [AV.fitNs, AV.fitN] using hb
  have hl0 := hb2
  refine Does.walk (nt := 9) Try.func27 rfl rfl (by simp) (by decide) (by simp [AV.noRefs, AV.noRef, hc1]) (fun G0 X w0 pv => ?_)
  obtain ⟨v1, ev1, h⟩ := Option.bind_eq_some_iff.1 h
  try dsimp only at h
  have ff := And.intro @hc1 p_slices_ContainsFunc_impl_Player_impl_Player_tf.down
  try refine st_by ff ?_
  repeat' (first | exact trivial | refine And.intro sd ?_)
  first
  | (refine cq_call (p_slices_IndexFunc_impl_Player_impl_Player_does s_a0 f1 caps1 hc1 he1 f_a1 hp1 v1 ev1) (hf_by ff) kr ⟨p_slices_ContainsFunc_impl_Player_impl_Player_sa ff trivial, ?_⟩; clear ff)
  have ff := And.intro @hc1 p_slices_ContainsFunc_impl_Player_impl_Player_tf.down
  try refine st_by ff ?_
  repeat' (first | exact trivial | refine And.intro sd ?_)
  cases h
  exact ret_q1 rfl (p_slices_ContainsFunc_impl_Player_impl_Player_rt ff trivial)
/-! impl.size -/
theorem p_impl_size_pv {F C A : Prop} (hF : F) (hC : C) (h : F → C → A := by intro hF hC; first | exact cl_by hF | (refine st_by hF ?_; (repeat' (first | exact trivial | apply And.intro)); all_goals (clear hF; first | rfl | (simp only [hC, List.length_append, List.length_cons, List.length_nil, List.append_nil, List.nil_append, List.cons_append, List.length_set, List.append_assoc, Nat.zero_add, List.length_replicate]; done) | (simp [hC, List.length_append, List.length_cons, List.length_nil, List.append_nil, List.nil_append, List.cons_append, List.length_set, List.append_assoc, Nat.zero_add, List.length_replicate]; done) | omega))) : A := h hF hC
theorem p_impl_size_sa {F C A : Prop} (hF : F) (hC : C) (h : F → C → A := by intro hF hC; first | exact ca_by hF | (refine sa_by hF ?_; (repeat' (first | exact trivial | apply And.intro)); all_goals (clear hF; first | rfl | (simp only [hC, List.length_append, List.length_cons, List.length_nil, List.append_nil, List.nil_append, List.cons_append, List.length_set, List.append_assoc, Nat.zero_add, List.length_replicate]; done) | (simp [hC, List.length_append, List.length_cons, List.length_nil, List.append_nil, List.nil_append, List.cons_append, List.length_set, List.append_assoc, Nat.zero_add, List.length_replicate]; done) | omega))) : A := h hF hC
theorem p_impl_size_rt {F C A : Prop} (hF : F) (hC : C) (h : F → C → A := by intro hF hC; first | (refine sr_by hF ?_; (repeat' (first | exact trivial | apply And.intro)); all_goals (clear hF; first | rfl | (simp only [hC, List.length_append, List.length_cons, List.length_nil, List.append_nil, List.nil_append, List.cons_append, List.length_set, List.append_assoc, Nat.zero_add, List.length_replicate]; done) | (simp [hC, List.length_append, List.length_cons, List.length_nil, List.append_nil, List.nil_append, List.cons_append, List.length_set, List.append_assoc, Nat.zero_add, List.length_replicate]; done) | omega)) | (first | rfl | (simp only [hC, List.length_append, List.length_cons, List.length_nil, List.append_nil, List.nil_append, List.cons_append, List.length_set, List.append_assoc, Nat.zero_add, List.length_replicate]; done) | (simp [hC, List.length_append, List.length_cons, List.length_nil, List.append_nil, List.nil_append, List.cons_append, List.length_set, List.append_assoc, Nat.zero_add, List.length_replicate]; done) | omega)) : A := h hF hC
def p_impl_size_tf := PLift.up (And.intro @str_beq @trivial)
def p_impl_size (n_a0 : Int) : Option (Int) := some (if (IntKind.i64.wrap (0 - n_a0)) > n_a0 then (IntKind.i64.wrap (0 - n_a0)) else n_a0)
theorem p_impl_size_does (n_a0 : Int) (r : Int) (h : p_impl_size n_a0 = some r) : Does Try.prog 29 [I n_a0] (I r) := by
  rw [p_impl_size] at h
  refine Does.walk (nt := 7) Try.func29 rfl rfl (by simp) (by decide) rfl (fun G0 X w0 pv => ?_)
  have ff := p_impl_size_tf.down
  try refine st_by ff ?_
  repeat' (first | exact trivial | refine And.intro sd ?_)
  cases h
  exact ret_q1 rfl (p_impl_size_rt ff trivial)
/-! (impl.Player).wide -/
theorem p_impl_Player_wide_pv {F C A : Prop} (hF : F) (hC : C) (h : F → C → A := by intro hF hC; first | exact cl_by hF | (refine st_by hF ?_; (repeat' (first | exact trivial | apply And.intro)); all_goals (clear hF; first | rfl | (simp only [hC, List.length_append, List.length_cons, List.length_nil, List.append_nil, List.nil_append, List.cons_append, List.length_set, List.append_assoc, Nat.zero_add, List.length_replicate, esPlayer_app, esPlayer_cons, esPlayer_nil, ePlayer_eq]; done) | (simp [hC, List.length_append, List.length_cons, List.length_nil, List.append_nil, List.nil_append, List.cons_append, List.length_set, List.append_assoc, Nat.zero_add, List.length_replicate, esPlayer_app, esPlayer_cons, esPlayer_nil, ePlayer_eq]; done) | omega))) : A := h hF hC
theorem p_impl_Player_wide_sa {F C A : Prop} (hF : F) (hC : C) (h : F → C → A := by intro hF hC; first | exact ca_by hF | (refine sa_by hF ?_; (repeat' (first | exact trivial | apply And.intro)); all_goals (clear hF; first | rfl | (simp only [hC, List.length_append, List.length_cons, List.length_nil, List.append_nil, List.nil_append, List.cons_append, List.length_set, List.append_assoc, Nat.zero_add, List.length_replicate, esPlayer_app, esPlayer_cons, esPlayer_nil, ePlayer_eq]; done) | (simp [hC, List.length_append, List.length_cons, List.length_nil, List.append_nil, List.nil_append, List.cons_append, List.length_set, List.append_assoc, Nat.zero_add, List.length_replicate, esPlayer_app, esPlayer_cons, esPlayer_nil, ePlayer_eq]; done) | omega))) : A := h hF hC
theorem p_impl_Player_wide_rt {F C A : Prop} (hF : F) (hC : C) (h : F → C → A := by intro hF hC; first | (refine sr_by hF ?_; (repeat' (first | exact trivial | apply And.intro)); all_goals (clear hF; first | rfl | (simp only [hC, List.length_append, List.length_cons, List.length_nil, List.append_nil, List.nil_append, List.cons_append, List.length_set, List.append_assoc, Nat.zero_add, List.length_replicate, esPlayer_app, esPlayer_cons, esPlayer_nil, ePlayer_eq]; done) | (simp [hC, List.length_append, List.length_cons, List.length_nil, List.append_nil, List.nil_append, List.cons_append, List.length_set, List.append_assoc, Nat.zero_add, List.length_replicate, esPlayer_app, esPlayer_cons, esPlayer_nil, ePlayer_eq]; done) | omega)) | (first | rfl | (simp only [hC, List.length_append, List.length_cons, List.length_nil, List.append_nil, List.nil_append, List.cons_append, List.length_set, List.append_assoc, Nat.zero_add, List.length_replicate, esPlayer_app, esPlayer_cons, esPlayer_nil, ePlayer_eq]; done) | (simp [hC, List.length_append, List.length_cons, List.length_nil, List.append_nil, List.nil_append, List.cons_append, List.length_set, List.append_assoc, Nat.zero_add, List.length_replicate, esPlayer_app, esPlayer_cons, esPlayer_nil, ePlayer_eq]; done) | omega)) : A := h hF hC
def p_impl_Player_wide_tf := PLift.up (And.intro @ePlayer_eq (And.intro @esPlayer_len (And.intro @esPlayer_nil (And.intro @esPlayer_leaf (And.intro @esPlayer_fit (And.intro @esPlayer_share (And.intro @esPlayer_pure (And.intro @str_beq (And.intro @Ty.nz3 (And.intro @Ty.ldA3 (And.intro @Ty.ldS3 (And.intro @Ty.sz3 (And.intro @Ty.szn3 (And.intro @Ty.fo45_2 (And.intro @Ty.fk45_2 (And.intro @Ty.fs45_2 (And.intro @Ty.fn45_2 @trivial)))))))))))))))))
def p_impl_Player_wide (p_a0 : GPlayer) (now_a1 : Int) : Option (Int) := some (if (1000 : Int) < (IntKind.i64.wrap (50 + (IntKind.i64.wrap (Int.tdiv (IntKind.i64.wrap (now_a1 - p_a0.Since)) 10)))) then 1000 else (IntKind.i64.wrap (50 + (IntKind.i64.wrap (Int.tdiv (IntKind.i64.wrap (now_a1 - p_a0.Since)) 10)))))
theorem p_impl_Player_wide_does (p_a0 : GPlayer) (now_a1 : Int) (r : Int) (h : p_impl_Player_wide p_a0 now_a1 = some r) : Does Try.prog 30 [.agg (ePlayer p_a0), I now_a1] (I r) := by
  rw [p_impl_Player_wide] at h
  refine Does.walk (nt := 12) Try.func30 rfl rfl (by simp) (by decide) rfl (fun G0 X w0 pv => ?_)
  have ff := p_impl_Player_wide_tf.down
  try refine st_by ff ?_
  repeat' (first | exact trivial | refine And.intro sd ?_)
  cases h
  exact ret_q1 rfl (p_impl_Player_wide_rt ff trivial)
/-! cmp.isNaN[int] -/
theorem p_cmp_isNaN_int_pv {F C A : Prop} (hF : F) (hC : C) (h : F → C → A := by intro hF hC; first | exact cl_by hF | (refine st_by hF ?_; (repeat' (first | exact trivial | apply And.intro)); all_goals (clear hF; first | rfl | (simp only [hC, List.length_append, List.length_cons, List.length_nil, List.append_nil, List.nil_append, List.cons_append, List.length_set, List.append_assoc, Nat.zero_add, List.length_replicate]; done) | (simp [hC, List.length_append, List.length_cons, List.length_nil, List.append_nil, List.nil_append, List.cons_append, List.length_set, List.append_assoc, Nat.zero_add, List.length_replicate]; done) | omega))) : A := h hF hC
theorem p_cmp_isNaN_int_sa {F C A : Prop} (hF : F) (hC : C) (h : F → C → A := by intro hF hC; first | exact ca_by hF | (refine sa_by hF ?_; (repeat' (first | exact trivial | apply And.intro)); all_goals (clear hF; first | rfl | (simp only [hC, List.length_append, List.length_cons, List.length_nil, List.append_nil, List.nil_append, List.cons_append, List.length_set, List.append_assoc, Nat.zero_add, List.length_replicate]; done) | (simp [hC, List.length_append, List.length_cons, List.length_nil, List.append_nil, List.nil_append, List.cons_append, List.length_set, List.append_assoc, Nat.zero_add, List.length_replicate]; done) | omega))) : A := h hF hC
theorem p_cmp_isNaN_int_rt {F C A : Prop} (hF : F) (hC : C) (h : F → C → A := by intro hF hC; first | (refine sr_by hF ?_; (repeat' (first | exact trivial | apply And.intro)); all_goals (clear hF; first | rfl | (simp only [hC, List.length_append, List.length_cons, List.length_nil, List.append_nil, List.nil_append, List.cons_append, List.length_set, List.append_assoc, Nat.zero_add, List.length_replicate]; done) | (simp [hC, List.length_append, List.length_cons, List.length_nil, List.append_nil, List.nil_append, List.cons_append, List.length_set, List.append_assoc, Nat.zero_add, List.length_replicate]; done) | omega)) | (first | rfl | (simp only [hC, List.length_append, List.length_cons, List.length_nil, List.append_nil, List.nil_append, List.cons_append, List.length_set, List.append_assoc, Nat.zero_add, List.length_replicate]; done) | (simp [hC, List.length_append, List.length_cons, List.length_nil, List.append_nil, List.nil_append, List.cons_append, List.length_set, List.append_assoc, Nat.zero_add, List.length_replicate]; done) | omega)) : A := h hF hC
def p_cmp_isNaN_int_tf := PLift.up (And.intro @str_beq @trivial)
def p_cmp_isNaN_int (x_a0 : Int) : Option (Bool) := some (!(x_a0 == x_a0))
theorem p_cmp_isNaN_int_does (x_a0 : Int) (r : Bool) (h : p_cmp_isNaN_int x_a0 = some r) : Does Try.prog 42 [I x_a0] (B r) := by
  rw [p_cmp_isNaN_int] at h
  refine Does.walk (nt := 6) Try.func42 rfl rfl (by simp) (by decide) rfl (fun G0 X w0 pv => ?_)
  have ff := p_cmp_isNaN_int_tf.down
  try refine st_by ff ?_
  repeat' (first | exact trivial | refine And.intro sd ?_)
  cases h
  exact ret_q1 rfl (p_cmp_isNaN_int_rt ff trivial)
/-! cmp.Compare[int] -/
theorem p_cmp_Compare_int_pv {F C A : Prop} (hF : F) (hC : C) (h : F → C → A := by intro hF hC; first | exact cl_by hF | (refine st_by hF ?_; (repeat' (first | exact trivial | apply And.intro)); all_goals (clear hF; first | rfl | (simp only [hC, List.length_append, List.length_cons, List.length_nil, List.append_nil, List.nil_append, List.cons_append, List.length_set, List.append_assoc, Nat.zero_add, List.length_replicate]; done) | (simp [hC, List.length_append, List.length_cons, List.length_nil, List.append_nil, List.nil_append, List.cons_append, List.length_set, List.append_assoc, Nat.zero_add, List.length_replicate]; done) | omega))) : A := h hF hC
theorem p_cmp_Compare_int_sa {F C A : Prop} (hF : F) (hC : C) (h : F → C → A := by intro hF hC; first | exact ca_by hF | (refine sa_by hF ?_; (repeat' (first | exact trivial | apply And.intro)); all_goals (clear hF; first | rfl | (simp only [hC, List.length_append, List.length_cons, List.length_nil, List.append_nil, List.nil_append, List.cons_append, List.length_set, List.append_assoc, Nat.zero_add, List.length_replicate]; done) | (simp [hC, List.length_append, List.length_cons, List.length_nil, List.append_nil, List.nil_append, List.cons_append, List.length_set, List.append_assoc, Nat.zero_add, List.length_replicate]; done) | omega))) : A := h hF hC
theorem p_cmp_Compare_int_rt {F C A : Prop} (hF : F) (hC : C) (h : F → C → A := by intro hF hC; first | (refine sr_by hF ?_; (repeat' (first | exact trivial | apply And.intro)); all_goals (clear hF; first | rfl | (simp only [hC, List.length_append, List.length_cons, List.length_nil, List.append_nil, List.nil_append, List.cons_append, List.length_set, List.append_assoc, Nat.zero_add, List.length_replicate]; done) | (simp [hC, List.length_append, List.length_cons, List.length_nil, List.append_nil, List.nil_append, List.cons_append, List.length_set, List.append_assoc, Nat.zero_add, List.length_replicate]; done) | omega)) | (first | rfl | (simp only [hC, List.length_append, List.length_cons, List.length_nil, List.append_nil, List.nil_append, List.cons_append, List.length_set, List.append_assoc, Nat.zero_add, List.length_replicate]; done) | (simp [hC, List.length_append, List.length_cons, List.length_nil, List.append_nil, List.nil_append, List.cons_append, List.length_set, List.append_assoc, Nat.zero_add, List.length_replicate]; done) | omega)) : A := h hF hC
def p_cmp_Compare_int_tf := PLift.up (And.intro @str_beq @trivial)
def p_cmp_Compare_int (x_a0 : Int) (y_a1 : Int) : Option (Int) := ((p_cmp_isNaN_int x_a0).bind fun v1 => ((p_cmp_isNaN_int y_a1).bind fun v2 => (if v1 = true then (if v2 = true then some 0 else some (-1)) else (if v2 = true then some 1 else (if x_a0 < y_a1 then some (-1) else (if x_a0 > y_a1 then some 1 else some 0))))))
theorem p_cmp_Compare_int_does (x_a0 : Int) (y_a1 : Int) (r : Int) (h : p_cmp_Compare_int x_a0 y_a1 = some r) : Does Try.prog 32 [I x_a0, I y_a1] (I r) := by
  rw [p_cmp_Compare_int] at h
  refine Does.walk (nt := 20) Try.func32 rfl rfl (by simp) (by decide) rfl (fun G0 X w0 pv => ?_)
  obtain ⟨v1, ev1, h⟩ := Option.bind_eq_some_iff.1 h
  try dsimp only at h
  have ff := p_cmp_Compare_int_tf.down
  try refine st_by ff ?_
  repeat' (first | exact trivial | refine And.intro sd ?_)
  first
  | (refine cq_call (p_cmp_isNaN_int_does x_a0 v1 ev1) (hf_by ff) kr ⟨p_cmp_Compare_int_sa ff trivial, ?_⟩; clear ff)
  obtain ⟨v2, ev2, h⟩ := Option.bind_eq_some_iff.1 h
  try dsimp only at h
  have ff := p_cmp_Compare_int_tf.down
  try refine st_by ff ?_
  repeat' (first | exact trivial | refine And.intro sd ?_)
  first
  | (refine cq_call (p_cmp_isNaN_int_does y_a1 v2 ev2) (hf_by ff) kr ⟨p_cmp_Compare_int_sa ff trivial, ?_⟩; clear ff)
  by_cases c3 : v1 = true
  · rw [if_pos c3] at h
    have dc3 := c3
    by_cases c4 : v2 = true
    case neg =>
     rw [if_neg c4] at h
     have dc4 := eq_false_of_ne_true c4
     have ff := And.intro @dc3 (And.intro @dc4 p_cmp_Compare_int_tf.down)
     try refine st_by ff ?_
     repeat' (first | exact trivial | refine And.intro sd ?_)
     cases h
     exact ret_q1 rfl (p_cmp_Compare_int_rt ff trivial)
    rw [if_pos c4] at h
    have dc4 := c4
    have ff := And.intro @dc3 (And.intro @dc4 p_cmp_Compare_int_tf.down)
    try refine st_by ff ?_
    repeat' (first | exact trivial | refine And.intro sd ?_)
    cases h
    exact ret_q1 rfl (p_cmp_Compare_int_rt ff trivial)
  rw [if_neg c3] at h
  have dc3 := eq_false_of_ne_true c3
  by_cases c5 : v2 = true
  · rw [if_pos c5] at h
    have dc5 := c5
    have ff := And.intro @dc3 (And.intro @dc5 p_cmp_Compare_int_tf.down)
    try refine st_by ff ?_
    repeat' (first | exact trivial | refine And.intro sd ?_)
    cases h
    exact ret_q1 rfl (p_cmp_Compare_int_rt ff trivial)
  rw [if_neg c5] at h
  have dc5 := eq_false_of_ne_true c5
  by_cases c6 : x_a0 < y_a1
  · rw [if_pos c6] at h
    have dc6 := decide_eq_true c6
    have ff := And.intro @dc3 (And.intro @dc5 (And.intro @dc6 p_cmp_Compare_int_tf.down))
    try refine st_by ff ?_
    repeat' (first | exact trivial | refine And.intro sd ?_)
    cases h
    exact ret_q1 rfl (p_cmp_Compare_int_rt ff trivial)
  rw [if_neg c6] at h
  have dc6 := decide_eq_false c6
  by_cases c7 : x_a0 > y_a1
  case neg =>
   rw [if_neg c7] at h
   have dc7 := decide_eq_false c7
   have ff := And.intro @dc3 (And.intro @dc5 (And.intro @dc6 (And.intro @dc7 p_cmp_Compare_int_tf.down)))
   try refine st_by ff ?_
   repeat' (first | exact trivial | refine And.intro sd ?_)
   cases h
   exact ret_q1 rfl (p_cmp_Compare_int_rt ff trivial)
  rw [if_pos c7] at h
  have dc7 := decide_eq_true c7
  have ff := And.intro @dc3 (And.intro @dc5 (And.intro @dc6 (And.intro @dc7 p_cmp_Compare_int_tf.down)))
  try refine st_by ff ?_
  repeat' (first | exact trivial | refine And.intro sd ?_)
  cases h
  exact ret_q1 rfl (p_cmp_Compare_int_rt ff trivial)
/-! cmp.Or[int] -/
def p_cmp_Or_int_l0 : List Int → Nat → Option (LR (Int) (Unit))
  | [], i_0 => some (.out ())
  | x_0 :: r_0, i_0 => (if x_0 = 0 then p_cmp_Or_int_l0 r_0 (i_0 + 1) else some (.ret x_0))
theorem p_cmp_Or_int_pv {F C A : Prop} (hF : F) (hC : C) (h : F → C → A := by intro hF hC; first | exact cl_by hF | (refine st_by hF ?_; (repeat' (first | exact trivial | apply And.intro)); all_goals (clear hF; first | rfl | (simp only [hC, List.length_append, List.length_cons, List.length_nil, List.append_nil, List.nil_append, List.cons_append, List.length_set, List.append_assoc, Nat.zero_add, List.length_replicate, esInt_app, esInt_cons, esInt_nil, eInt_eq]; done) | (simp [hC, List.length_append, List.length_cons, List.length_nil, List.append_nil, List.nil_append, List.cons_append, List.length_set, List.append_assoc, Nat.zero_add, List.length_replicate, esInt_app, esInt_cons, esInt_nil, eInt_eq]; done) | omega))) : A := h hF hC
theorem p_cmp_Or_int_sa {F C A : Prop} (hF : F) (hC : C) (h : F → C → A := by intro hF hC; first | exact ca_by hF | (refine sa_by hF ?_; (repeat' (first | exact trivial | apply And.intro)); all_goals (clear hF; first | rfl | (simp only [hC, List.length_append, List.length_cons, List.length_nil, List.append_nil, List.nil_append, List.cons_append, List.length_set, List.append_assoc, Nat.zero_add, List.length_replicate, esInt_app, esInt_cons, esInt_nil, eInt_eq]; done) | (simp [hC, List.length_append, List.length_cons, List.length_nil, List.append_nil, List.nil_append, List.cons_append, List.length_set, List.append_assoc, Nat.zero_add, List.length_replicate, esInt_app, esInt_cons, esInt_nil, eInt_eq]; done) | omega))) : A := h hF hC
theorem p_cmp_Or_int_rt {F C A : Prop} (hF : F) (hC : C) (h : F → C → A := by intro hF hC; first | (refine sr_by hF ?_; (repeat' (first | exact trivial | apply And.intro)); all_goals (clear hF; first | rfl | (simp only [hC, List.length_append, List.length_cons, List.length_nil, List.append_nil, List.nil_append, List.cons_append, List.length_set, List.append_assoc, Nat.zero_add, List.length_replicate, esInt_app, esInt_cons, esInt_nil, eInt_eq]; done) | (simp [hC, List.length_append, List.length_cons, List.length_nil, List.append_nil, List.nil_append, List.cons_append, List.length_set, List.append_assoc, Nat.zero_add, List.length_replicate, esInt_app, esInt_cons, esInt_nil, eInt_eq]; done) | omega)) | (first | rfl | (simp only [hC, List.length_append, List.length_cons, List.length_nil, List.append_nil, List.nil_append, List.cons_append, List.length_set, List.append_assoc, Nat.zero_add, List.length_replicate, esInt_app, esInt_cons, esInt_nil, eInt_eq]; done) | (simp [hC, List.length_append, List.length_cons, List.length_nil, List.append_nil, List.nil_append, List.cons_append, List.length_set, List.append_assoc, Nat.zero_add, List.length_replicate, esInt_app, esInt_cons, esInt_nil, eInt_eq]; done) | omega)) : A := h hF hC
def p_cmp_Or_int_tf := PLift.up (And.intro @eInt_eq (And.intro @esInt_len (And.intro @esInt_nil (And.intro @esInt_leaf (And.intro @esInt_fit (And.intro @esInt_share (And.intro @esInt_pure (And.intro @str_beq (And.intro @Ty.sl63 (And.intro @Ty.slz63 (And.intro @Ty.nz3 (And.intro @Ty.ldA3 (And.intro @Ty.ldS3 (And.intro @Ty.sz3 (And.intro @Ty.szn3 @trivial)))))))))))))))
def p_cmp_Or_int (vals_a0 : List Int) : Option (Int) := ((p_cmp_Or_int_l0 vals_a0 0).bind fun q_0 => match q_0 with | .ret r_ => some r_ | .out _ => some 0)
theorem p_cmp_Or_int_does (vals_a0 : List Int) (r : Int) (h : p_cmp_Or_int vals_a0 = some r) : Does Try.prog 31 [.row false 1 vals_a0.length (esInt vals_a0)] (I r) := by
  rw [p_cmp_Or_int] at h
  refine Does.bnd (fun hb => ?_)
  have hb2 : vals_a0.length ≤ 9223372036854775807 := by simpa [AV.fitNs, AV.fitN] using hb
  have hl0 := hb2
  refine Does.walk (nt := 18) Try.func31 rfl rfl (by simp) (by decide) rfl (fun G0 X w0 pv => ?_)
  have hL_0 : vals_a0.length ≤ 9223372036854775807 := by first | assumption | omega
  obtain ⟨q_0, eq_0, h⟩ := Option.bind_eq_some_iff.1 h
  have ff := p_cmp_Or_int_tf.down
  try refine st_by ff ?_
  repeat' (first | exact trivial | refine And.intro sd ?_)
  obtain ⟨I_0, hI_0⟩ : ∃ I_ : (Nat) → ASt → Prop, I_ = (fun (i_0 : Nat) σ => (i_0 ≤ vals_a0.length ∧ p_cmp_Or_int_l0 (vals_a0.drop i_0) i_0 = some q_0) ∧ σ.t 3 = I 0 ∧ σ.t 6 = .row false 1 vals_a0.length (esInt vals_a0) ∧ σ.t 7 = I (vals_a0.length : Int) ∧ σ.t 8 = I (i_0 : Int)) := ⟨_, rfl⟩
  obtain ⟨M_0, hM_0⟩ : ∃ M_ : (Nat) → Nat, M_ = (fun (i_0 : Nat) => vals_a0.length - i_0) := ⟨_, rfl⟩
  obtain ⟨J_0, hJ_0⟩ : ∃ J_ : ASt → Prop, J_ = (fun σ => (some (.out ()) = some q_0) ∧ σ.t 3 = I 0) := ⟨_, rfl⟩
  refine aw_loopC (id := 0) I_0 M_0 J_0 (0) ?_ ?_ ?_
  · rw [hI_0]
    refine ⟨⟨Nat.zero_le _, eq_0⟩, ?_⟩
    exact p_cmp_Or_int_pv ff trivial
  · try clear ff
    rintro i_0 σ hg_0
    rw [hI_0] at hg_0
    obtain ⟨⟨hi_0, h_0⟩, g0_0, g1_0, g2_0, g3_0⟩ := hg_0
    cases hr_0 : vals_a0.drop i_0 with
    | nil =>
      rw [hr_0] at h_0
      rw [p_cmp_Or_int_l0] at h_0
      have hn_0 := drop_nil hr_0
      have dr_0 : decide ((i_0 : Int) < (vals_a0.length : Int)) = false := decide_eq_false (by omega)
      have ff := And.intro @dr_0 (And.intro @g0_0 (And.intro @g1_0 (And.intro @g2_0 (And.intro @g3_0 p_cmp_Or_int_tf.down))))
      try refine st_by ff ?_
      repeat' (first | exact trivial | refine And.intro sd ?_)
      refine JW.intro ?_
      rw [hJ_0]
      refine ⟨h_0, ?_⟩
      exact p_cmp_Or_int_pv ff trivial
    | cons x_0 r_0 =>
      rw [hr_0] at h_0
      rw [p_cmp_Or_int_l0] at h_0
      obtain ⟨ht_0, hg_0, hd_0⟩ := drop_cons hr_0
      have dr_0 : decide ((i_0 : Int) < (vals_a0.length : Int)) = true := decide_eq_true (by omega)
      have w_0 : IntKind.i64.wrap ((i_0 : Int) + 1) = ((i_0 + 1 : Nat) : Int) := wI _ (by omega) (by omega)
      have kk0c : (esInt vals_a0).drop (i_0 * 1) = eInt x_0 ++ esInt (vals_a0.drop (i_0 + 1)) := drop_enc (fun _ => rfl) (hg_0)
      have kk0d := kk0c
      rw [Nat.mul_one] at kk0d
      by_cases c10 : x_0 = 0
      case neg =>
       rw [if_neg c10] at h_0
       have dc10 := beq_no c10
       cases h_0
       try dsimp only at h
       have ff := And.intro @dr_0 (And.intro @w_0 (And.intro @g0_0 (And.intro @g1_0 (And.intro @g2_0 (And.intro @g3_0 (And.intro @kk0c (And.intro @kk0d (And.intro @dc10 p_cmp_Or_int_tf.down))))))))
       try refine st_by ff ?_
       repeat' (first | exact trivial | refine And.intro sd ?_)
       cases h
       exact ret_q1 rfl (p_cmp_Or_int_rt ff trivial)
      rw [if_pos c10] at h_0
      have dc10 := beq_yes c10
      have ff := And.intro @dr_0 (And.intro @w_0 (And.intro @g0_0 (And.intro @g1_0 (And.intro @g2_0 (And.intro @g3_0 (And.intro @kk0c (And.intro @kk0d (And.intro @dc10 p_cmp_Or_int_tf.down))))))))
      try refine st_by ff ?_
      repeat' (first | exact trivial | refine And.intro sd ?_)
      refine Back.intro (i_0 + 1) ?_ ?_
      · clear ff; rw [hM_0]; show vals_a0.length - (i_0 + 1) < vals_a0.length - i_0; omega
      rw [hI_0]
      refine ⟨⟨by clear ff; show i_0 + 1 ≤ vals_a0.length; omega, by show p_cmp_Or_int_l0 (vals_a0.drop (i_0 + 1)) (i_0 + 1) = some q_0; rw [hd_0]; exact h_0⟩, ?_⟩
      exact p_cmp_Or_int_pv ff trivial
  · try clear ff
    rintro σ hg_0
    rw [hJ_0] at hg_0
    obtain ⟨hj_0, g0_0a⟩ := hg_0
    cases hj_0
    try dsimp only at h
    have ff := And.intro @g0_0a p_cmp_Or_int_tf.down
    try refine st_by ff ?_
    repeat' (first | exact trivial | refine And.intro sd ?_)
    cases h
    exact ret_q1 rfl (p_cmp_Or_int_rt ff trivial)
/-! impl.NextMatch -/
def p_impl_NextMatch_j1 (x_0 : GPlayer) (since_114 : Int) (least_115 : Int) (out_116 : List ByteArray) (x_1 : GPlayer) (i_1 : Nat) (v130 : Int) (rec_1 : Nat → Int → Int → (List ByteArray) → Option (Int × Int × (List ByteArray))) (b_134 : Bool) : Option (Int × Int × (List ByteArray)) := (if b_134 = true then rec_1 (i_1 + 1) (IntKind.i64.wrap (x_0.Since + x_1.Since)) v130 ([x_0.Name, x_1.Name] : List ByteArray) else rec_1 (i_1 + 1) since_114 least_115 out_116)
def p_impl_NextMatch_l1 (now_a1 : Int) (x_0 : GPlayer) : List GPlayer → Nat → Int → Int → (List ByteArray) → Option (Int × Int × (List ByteArray))
  | [], i_1, since_114, least_115, out_116 => some (since_114, least_115, out_116)
  | x_1 :: r_1, i_1, since_114, least_115, out_116 => ((p_impl_size (IntKind.i64.wrap (x_0.Rating - x_1.Rating))).bind fun v130 => ((p_impl_Player_wide x_0 now_a1).bind fun v131 => ((p_impl_Player_wide x_1 now_a1).bind fun v132 => (if v130 > (if v132 < v131 then v132 else v131) then p_impl_NextMatch_l1 now_a1 x_0 r_1 (i_1 + 1) since_114 least_115 out_116 else (if out_116.length = 0 then p_impl_NextMatch_j1 x_0 since_114 least_115 out_116 x_1 i_1 v130 (p_impl_NextMatch_l1 now_a1 x_0 r_1) true else ((p_cmp_Compare_int (IntKind.i64.wrap (x_0.Since + x_1.Since)) since_114).bind fun v137 => ((p_cmp_Compare_int v130 least_115).bind fun v138 => ((p_cmp_Or_int ([v137, v138] : List Int)).bind fun v139 => p_impl_NextMatch_j1 x_0 since_114 least_115 out_116 x_1 i_1 v130 (p_impl_NextMatch_l1 now_a1 x_0 r_1) (decide (v139 < 0))))))))))
def p_impl_NextMatch_l0 (l_a0 : List GPlayer) (now_a1 : Int) : List GPlayer → Nat → Int → Int → (List ByteArray) → Option (Int × Int × (List ByteArray))
  | [], i_0, since_49, least_50, out_52 => some (since_49, least_50, out_52)
  | x_0 :: r_0, i_0, since_49, least_50, out_52 => ((slc l_a0 ((i_0 + 1 : Nat) : Int) (l_a0.length : Int)).bind fun m98 => ((p_impl_NextMatch_l1 now_a1 x_0 m98 0 since_49 least_50 out_52).bind fun q_1 => match q_1 with | (since_114, least_115, out_116) => p_impl_NextMatch_l0 l_a0 now_a1 r_0 (i_0 + 1) since_114 least_115 out_116))
def p_impl_NextMatch_j0 (l_a0 : List GPlayer) (now_a1 : Int) (b_2 : Bool) : Option (List ByteArray × Bool) := (if b_2 = true then some (([] : List ByteArray), false) else ((p_impl_NextMatch_l0 l_a0 now_a1 l_a0 0 0 0 ([] : List ByteArray)).bind fun q_0 => match q_0 with | (since_49, least_50, out_52) => some (out_52, true)))
theorem p_impl_NextMatch_pv {F C A : Prop} (hF : F) (hC : C) (h : F → C → A := by intro hF hC; first | exact cl_by hF | (refine st_by hF ?_; (repeat' (first | exact trivial | apply And.intro)); all_goals (clear hF; first | rfl | (simp only [hC, List.length_append, List.length_cons, List.length_nil, List.append_nil, List.nil_append, List.cons_append, List.length_set, List.append_assoc, Nat.zero_add, List.length_replicate, nsz_succ, nsz_zero, esInt_app, esInt_cons, esInt_nil, eInt_eq, esStr_app, esStr_cons, esStr_nil, eStr_eq, esPlayer_app, esPlayer_cons, esPlayer_nil, ePlayer_eq]; done) | (simp [hC, List.length_append, List.length_cons, List.length_nil, List.append_nil, List.nil_append, List.cons_append, List.length_set, List.append_assoc, Nat.zero_add, List.length_replicate, nsz_succ, nsz_zero, esInt_app, esInt_cons, esInt_nil, eInt_eq, esStr_app, esStr_cons, esStr_nil, eStr_eq, esPlayer_app, esPlayer_cons, esPlayer_nil, ePlayer_eq]; done) | omega))) : A := h hF hC
theorem p_impl_NextMatch_sa {F C A : Prop} (hF : F) (hC : C) (h : F → C → A := by intro hF hC; first | exact ca_by hF | (refine sa_by hF ?_; (repeat' (first | exact trivial | apply And.intro)); all_goals (clear hF; first | rfl | (simp only [hC, List.length_append, List.length_cons, List.length_nil, List.append_nil, List.nil_append, List.cons_append, List.length_set, List.append_assoc, Nat.zero_add, List.length_replicate, nsz_succ, nsz_zero, esInt_app, esInt_cons, esInt_nil, eInt_eq, esStr_app, esStr_cons, esStr_nil, eStr_eq, esPlayer_app, esPlayer_cons, esPlayer_nil, ePlayer_eq]; done) | (simp [hC, List.length_append, List.length_cons, List.length_nil, List.append_nil, List.nil_append, List.cons_append, List.length_set, List.append_assoc, Nat.zero_add, List.length_replicate, nsz_succ, nsz_zero, esInt_app, esInt_cons, esInt_nil, eInt_eq, esStr_app, esStr_cons, esStr_nil, eStr_eq, esPlayer_app, esPlayer_cons, esPlayer_nil, ePlayer_eq]; done) | omega))) : A := h hF hC
theorem p_impl_NextMatch_rt {F C A : Prop} (hF : F) (hC : C) (h : F → C → A := by intro hF hC; first | (refine sr_by hF ?_; (repeat' (first | exact trivial | apply And.intro)); all_goals (clear hF; first | rfl | (simp only [hC, List.length_append, List.length_cons, List.length_nil, List.append_nil, List.nil_append, List.cons_append, List.length_set, List.append_assoc, Nat.zero_add, List.length_replicate, nsz_succ, nsz_zero, esInt_app, esInt_cons, esInt_nil, eInt_eq, esStr_app, esStr_cons, esStr_nil, eStr_eq, esPlayer_app, esPlayer_cons, esPlayer_nil, ePlayer_eq]; done) | (simp [hC, List.length_append, List.length_cons, List.length_nil, List.append_nil, List.nil_append, List.cons_append, List.length_set, List.append_assoc, Nat.zero_add, List.length_replicate, nsz_succ, nsz_zero, esInt_app, esInt_cons, esInt_nil, eInt_eq, esStr_app, esStr_cons, esStr_nil, eStr_eq, esPlayer_app, esPlayer_cons, esPlayer_nil, ePlayer_eq]; done) | omega)) | (first | rfl | (simp only [hC, List.length_append, List.length_cons, List.length_nil, List.append_nil, List.nil_append, List.cons_append, List.length_set, List.append_assoc, Nat.zero_add, List.length_replicate, nsz_succ, nsz_zero, esInt_app, esInt_cons, esInt_nil, eInt_eq, esStr_app, esStr_cons, esStr_nil, eStr_eq, esPlayer_app, esPlayer_cons, esPlayer_nil, ePlayer_eq]; done) | (simp [hC, List.length_append, List.length_cons, List.length_nil, List.append_nil, List.nil_append, List.cons_append, List.length_set, List.append_assoc, Nat.zero_add, List.length_replicate, nsz_succ, nsz_zero, esInt_app, esInt_cons, esInt_nil, eInt_eq, esStr_app, esStr_cons, esStr_nil, eStr_eq, esPlayer_app, esPlayer_cons, esPlayer_nil, ePlayer_eq]; done) | omega)) : A := h hF hC
def p_impl_NextMatch_tf := PLift.up (And.intro @eInt_eq (And.intro @esInt_len (And.intro @esInt_nil (And.intro @esInt_leaf (And.intro @esInt_fit (And.intro @eStr_eq (And.intro @esStr_len (And.intro @esStr_nil (And.intro @esStr_leaf (And.intro @esStr_fit (And.intro @ePlayer_eq (And.intro @esPlayer_len (And.intro @esPlayer_nil (And.intro @esPlayer_leaf (And.intro @esPlayer_fit (And.intro @esInt_share (And.intro @esInt_pure (And.intro @esStr_share (And.intro @esStr_pure (And.intro @esPlayer_share (And.intro @esPlayer_pure (And.intro @str_beq (And.intro @Ty.sl27 (And.intro @Ty.slz27 (And.intro @Ty.nz3 (And.intro @Ty.ldA3 (And.intro @Ty.ldS3 (And.intro @Ty.sz3 (And.intro @Ty.szn3 (And.intro @Ty.nz45 (And.intro @Ty.ldA45 (And.intro @Ty.sz45 (And.intro @Ty.szn45 (And.intro @Ty.nz9 (And.intro @Ty.ldA9 (And.intro @Ty.ldS9 (And.intro @Ty.sz9 (And.intro @Ty.szn9 (And.intro @Ty.fo45_1 (And.intro @Ty.fk45_1 (And.intro @Ty.fs45_1 (And.intro @Ty.fn45_1 (And.intro @Ty.fo45_2 (And.intro @Ty.fk45_2 (And.intro @Ty.fs45_2 (And.intro @Ty.fn45_2 (And.intro @Ty.fo45_0 (And.intro @Ty.fk45_0 (And.intro @Ty.fs45_0 (And.intro @Ty.fn45_0 (And.intro @Ty.nze27 (And.intro @Ty.zok27 (And.intro @Ty.by27 (And.intro @Ty.zs27 (And.intro @Ty.nze63 (And.intro @Ty.sl63 (And.intro @Ty.slz63 (And.intro @Ty.zok63 (And.intro @Ty.by63 (And.intro @Ty.zs63 (And.intro @Ty.nze24 (And.intro @Ty.sl24 (And.intro @Ty.slz24 (And.intro @Ty.zok24 (And.intro @Ty.by24 (And.intro @Ty.zs24 (And.intro @Ty.zv45 @trivial)))))))))))))))))))))))))))))))))))))))))))))))))))))))))))))))))))
def p_impl_NextMatch (l_a0 : List GPlayer) (now_a1 : Int) : Option (List ByteArray × Bool) := ((p_impl_GoodPlayers l_a0).bind fun v1 => (if v1 = true then (if (rng now_a1 0 100000) = true then ((p_slices_ContainsFunc_impl_Player_impl_Player l_a0 (fun x0_ => p_impl_NextMatch_1 x0_ now_a1)).bind fun v142 => p_impl_NextMatch_j0 l_a0 now_a1 v142) else p_impl_NextMatch_j0 l_a0 now_a1 true) else p_impl_NextMatch_j0 l_a0 now_a1 true))
theorem p_impl_NextMatch_does (l_a0 : List GPlayer) (now_a1 : Int) (r : List ByteArray × Bool) (h : p_impl_NextMatch l_a0 now_a1 = some r) : Does Try.prog 8 [.row false 3 l_a0.length (esPlayer l_a0), I now_a1] (.tup [.row true 1 r.1.length (esStr r.1), B r.2]) := by
  rw [p_impl_NextMatch] at h
  refine Does.bnd (fun hb => ?_)
  have hb2 : l_a0.length ≤ 9223372036854775807 := by simpa [AV.fitNs, AV.fitN] using hb
  have hl0 := hb2
  refine Does.walkA (nt := 89) Try.func8 rfl rfl (by simp) (by decide) rfl (fun G0 X w0 pv => ?_)
  refine AWP.seq (aw_sound ?_)
  have ff := p_impl_NextMatch_tf.down
  try refine st_by ff ?_
  repeat' (first | exact trivial | refine And.intro sd ?_)
  clear ff
  refine AWP.seq (aw_sound ?_)
  obtain ⟨v1, ev1, h⟩ := Option.bind_eq_some_iff.1 h
  try dsimp only at h
  have ff := p_impl_NextMatch_tf.down
  try refine st_by ff ?_
  repeat' (first | exact trivial | refine And.intro sd ?_)
  first
  | (refine cq_call (p_impl_GoodPlayers_does l_a0 v1 ev1) (hf_by ff) kr ⟨p_impl_NextMatch_sa ff trivial, ?_⟩; clear ff)
  | (refine cq_dcall (p_impl_GoodPlayers_does l_a0 v1 ev1) (hf_by ff) kr ⟨p_impl_NextMatch_sa ff trivial, ?_⟩; clear ff)
  have ff := p_impl_NextMatch_tf.down
  try refine st_by ff ?_
  repeat' (first | exact trivial | refine And.intro sd ?_)
  try clear ff
  generalize hk_0 : thenK _ _ = kk_0
  have key_0 : ∀ σ, (∃ b_2 : Bool, (p_impl_NextMatch_j0 l_a0 now_a1 b_2 = some r) ∧ σ.t 0 = .row false 3 l_a0.length (esPlayer l_a0) ∧ σ.t 3 = .ptr 3 [] 0 ∧ σ.t 26 = B b_2 ∧ σ.m 3 = some (.box true [I now_a1])) → kk_0 .nm σ := by
    rintro σ ⟨b_2, h, g0_j0, g1_j0, g2_j0, g3_j0⟩
    rw [← hk_0, thenK_nm]
    rw [p_impl_NextMatch_j0] at h
    by_cases c3 : b_2 = true
    · rw [if_pos c3] at h
      have dc3 := c3
      have ff := And.intro @g0_j0 (And.intro @g1_j0 (And.intro @g2_j0 (And.intro @g3_j0 (And.intro @dc3 p_impl_NextMatch_tf.down))))
      try refine st_by ff ?_
      repeat' (first | exact trivial | refine And.intro sd ?_)
      cases h
      exact ret_q2 rfl (p_impl_NextMatch_rt ff trivial)
    rw [if_neg c3] at h
    have dc3 := eq_false_of_ne_true c3
    have hL_0 : l_a0.length ≤ 9223372036854775807 := by first | assumption | omega
    obtain ⟨q_0, eq_0, h⟩ := Option.bind_eq_some_iff.1 h
    have ff := And.intro @g0_j0 (And.intro @g1_j0 (And.intro @g2_j0 (And.intro @g3_j0 (And.intro @dc3 p_impl_NextMatch_tf.down))))
    try refine st_by ff ?_
    repeat' (first | exact trivial | refine And.intro sd ?_)
    refine AWP.seq (AWP.region ?_)
    refine seq_lj rfl (l_assignNil (sz := 0) (by show 6 < 89; decide) rfl ?_)
    refine Seq.nil ?_
    rw [thenK_nm]
    refine AWP.seq (aw_sound ?_)
    try refine st_by ff ?_
    repeat' (first | exact trivial | refine And.intro sd ?_)
    refine AWP.seq (aw_sound ?_)
    try refine st_by ff ?_
    repeat' (first | exact trivial | refine And.intro sd ?_)
    obtain ⟨I_0, hI_0⟩ : ∃ I_ : (Nat × Int × Int × (List ByteArray)) → ASt → Prop, I_ = (fun (a : Nat × Int × Int × (List ByteArray)) σ => match a with | (i_0, since_49, least_50, out_52) => (i_0 ≤ l_a0.length ∧ p_impl_NextMatch_l0 l_a0 now_a1 (l_a0.drop i_0) i_0 since_49 least_50 out_52 = some q_0) ∧ σ.t 0 = .row false 3 l_a0.length (esPlayer l_a0) ∧ σ.t 3 = .ptr 3 [] 0 ∧ σ.t 6 = .sl 6 [] 0 out_52.length ∧ σ.t 7 = I since_49 ∧ σ.t 8 = I least_50 ∧ σ.t 27 = .row false 3 l_a0.length (esPlayer l_a0) ∧ σ.t 28 = I (l_a0.length : Int) ∧ σ.t 29 = I (i_0 : Int) ∧ σ.m 3 = some (.box true [I now_a1]) ∧ σ.m 6 = some (.row true (nsz out_52.length 1) out_52.length (esStr out_52))) := ⟨_, rfl⟩
    obtain ⟨M_0, hM_0⟩ : ∃ M_ : (Nat × Int × Int × (List ByteArray)) → Nat, M_ = (fun (a : Nat × Int × Int × (List ByteArray)) => match a with | (i_0, since_49, least_50, out_52) => l_a0.length - i_0) := ⟨_, rfl⟩
    obtain ⟨J_0, hJ_0⟩ : ∃ J_ : ASt → Prop, J_ = (fun σ => ∃ since_49 : Int, ∃ least_50 : Int, ∃ out_52 : List ByteArray, (some (since_49, least_50, out_52) = some q_0) ∧ σ.t 6 = .sl 6 [] 0 out_52.length ∧ σ.m 6 = some (.row true (nsz out_52.length 1) out_52.length (esStr out_52))) := ⟨_, rfl⟩
    refine aw_loopC (id := 0) I_0 M_0 J_0 (0, 0, 0, ([] : List ByteArray)) ?_ ?_ ?_
    · rw [hI_0]
      refine ⟨⟨Nat.zero_le _, eq_0⟩, ?_⟩
      exact p_impl_NextMatch_pv ff trivial
    · try clear ff
      rintro ⟨i_0, since_49, least_50, out_52⟩ σ hg_0
      rw [hI_0] at hg_0
      obtain ⟨⟨hi_0, h_0⟩, g0_0, g1_0, g2_0, g3_0, g4_0, g5_0, g6_0, g7_0, g8_0, g9_0⟩ := hg_0
      cases hr_0 : l_a0.drop i_0 with
      | nil =>
        rw [hr_0] at h_0
        rw [p_impl_NextMatch_l0] at h_0
        have hn_0 := drop_nil hr_0
        have dr_0 : decide ((i_0 : Int) < (l_a0.length : Int)) = false := decide_eq_false (by omega)
        have ff := And.intro @dc3 (And.intro @dr_0 (And.intro @g0_0 (And.intro @g1_0 (And.intro @g2_0 (And.intro @g3_0 (And.intro @g4_0 (And.intro @g5_0 (And.intro @g6_0 (And.intro @g7_0 (And.intro @g8_0 (And.intro @g9_0 p_impl_NextMatch_tf.down)))))))))))
        try refine st_by ff ?_
        repeat' (first | exact trivial | refine And.intro sd ?_)
        refine JW.intro ?_
        rw [hJ_0]
        refine ⟨since_49, least_50, out_52, h_0, ?_⟩
        exact p_impl_NextMatch_pv ff trivial
      | cons x_0 r_0 =>
        rw [hr_0] at h_0
        rw [p_impl_NextMatch_l0] at h_0
        obtain ⟨ht_0, hg_0, hd_0⟩ := drop_cons hr_0
        have dr_0 : decide ((i_0 : Int) < (l_a0.length : Int)) = true := decide_eq_true (by omega)
        have w_0 : IntKind.i64.wrap ((i_0 : Int) + 1) = ((i_0 + 1 : Nat) : Int) := wI _ (by omega) (by omega)
        have kk0c : (esPlayer l_a0).drop (i_0 * 3) = ePlayer x_0 ++ esPlayer (l_a0.drop (i_0 + 1)) := drop_enc (fun _ => rfl) (hg_0)
        obtain ⟨m98, em98, h_0⟩ := Option.bind_eq_some_iff.1 h_0
        try dsimp only at h_0
        obtain ⟨f99a, f99b⟩ := slc_ok em98
        have f99c : ((esPlayer l_a0).drop ((i_0 + 1 : Nat) * 3)).take (m98.length * 3) = esPlayer m98 := slc_encM (enc := ePlayer) (fun _ => rfl) em98
        have f99d : l_a0.length - (i_0 + 1 : Nat) = m98.length := slc_lenH em98
        have hL_1 : m98.length ≤ 9223372036854775807 := by first | assumption | omega
        obtain ⟨q_1, eq_1, h_0⟩ := Option.bind_eq_some_iff.1 h_0
        have ff := And.intro @dc3 (And.intro @dr_0 (And.intro @w_0 (And.intro @g0_0 (And.intro @g1_0 (And.intro @g2_0 (And.intro @g3_0 (And.intro @g4_0 (And.intro @g5_0 (And.intro @g6_0 (And.intro @g7_0 (And.intro @g8_0 (And.intro @g9_0 (And.intro @kk0c (And.intro @f99c (And.intro @f99d p_impl_NextMatch_tf.down)))))))))))))))
        try refine st_by ff ?_
        repeat' (first | exact trivial | refine And.intro sd ?_)
        obtain ⟨I_1, hI_1⟩ : ∃ I_ : (Nat × Int × Int × (List ByteArray)) → ASt → Prop, I_ = (fun (a : Nat × Int × Int × (List ByteArray)) σ => match a with | (i_1, since_114, least_115, out_116) => (i_1 ≤ m98.length ∧ p_impl_NextMatch_l1 now_a1 x_0 (m98.drop i_1) i_1 since_114 least_115 out_116 = some q_1) ∧ σ.t 0 = .row false 3 l_a0.length (esPlayer l_a0) ∧ σ.t 3 = .ptr 3 [] 0 ∧ σ.t 6 = .sl 6 [] 0 out_116.length ∧ σ.t 7 = I since_114 ∧ σ.t 8 = I least_115 ∧ σ.t 10 = .ptr 10 [] 0 ∧ σ.t 27 = .row false 3 l_a0.length (esPlayer l_a0) ∧ σ.t 28 = I (l_a0.length : Int) ∧ σ.t 29 = I (i_0 : Int) ∧ σ.t 37 = .row false 3 m98.length (esPlayer m98) ∧ σ.t 38 = I (m98.length : Int) ∧ σ.t 39 = I (i_1 : Int) ∧ σ.m 3 = some (.box true [I now_a1]) ∧ σ.m 6 = some (.row true (nsz out_116.length 1) out_116.length (esStr out_116)) ∧ σ.m 10 = some (.box true [S x_0.Name, I x_0.Rating, I x_0.Since])) := ⟨_, rfl⟩
        obtain ⟨M_1, hM_1⟩ : ∃ M_ : (Nat × Int × Int × (List ByteArray)) → Nat, M_ = (fun (a : Nat × Int × Int × (List ByteArray)) => match a with | (i_1, since_114, least_115, out_116) => m98.length - i_1) := ⟨_, rfl⟩
        obtain ⟨J_1, hJ_1⟩ : ∃ J_ : ASt → Prop, J_ = (fun σ => ∃ since_114 : Int, ∃ least_115 : Int, ∃ out_116 : List ByteArray, (some (since_114, least_115, out_116) = some q_1) ∧ σ.t 0 = .row false 3 l_a0.length (esPlayer l_a0) ∧ σ.t 3 = .ptr 3 [] 0 ∧ σ.t 6 = .sl 6 [] 0 out_116.length ∧ σ.t 7 = I since_114 ∧ σ.t 8 = I least_115 ∧ σ.t 27 = .row false 3 l_a0.length (esPlayer l_a0) ∧ σ.t 28 = I (l_a0.length : Int) ∧ σ.t 29 = I (i_0 : Int) ∧ σ.m 3 = some (.box true [I now_a1]) ∧ σ.m 6 = some (.row true (nsz out_116.length 1) out_116.length (esStr out_116))) := ⟨_, rfl⟩
        refine aw_loopC (id := 2) I_1 M_1 J_1 (0, since_49, least_50, out_52) ?_ ?_ ?_
        · rw [hI_1]
          refine ⟨⟨Nat.zero_le _, eq_1⟩, ?_⟩
          exact p_impl_NextMatch_pv ff trivial
        · try clear ff
          rintro ⟨i_1, since_114, least_115, out_116⟩ σ hg_1
          rw [hI_1] at hg_1
          obtain ⟨⟨hi_1, h_1⟩, g0_1, g1_1, g2_1, g3_1, g4_1, g5_1, g6_1, g7_1, g8_1, g9_1, g10_1, g11_1, g12_1, g13_1, g14_1⟩ := hg_1
          cases hr_1 : m98.drop i_1 with
          | nil =>
            rw [hr_1] at h_1
            rw [p_impl_NextMatch_l1] at h_1
            have hn_1 := drop_nil hr_1
            have dr_1 : decide ((i_1 : Int) < (m98.length : Int)) = false := decide_eq_false (by omega)
            have ff := And.intro @dc3 (And.intro @dr_0 (And.intro @w_0 (And.intro @kk0c (And.intro @f99c (And.intro @f99d (And.intro @dr_1 (And.intro @g0_1 (And.intro @g1_1 (And.intro @g2_1 (And.intro @g3_1 (And.intro @g4_1 (And.intro @g5_1 (And.intro @g6_1 (And.intro @g7_1 (And.intro @g8_1 (And.intro @g9_1 (And.intro @g10_1 (And.intro @g11_1 (And.intro @g12_1 (And.intro @g13_1 (And.intro @g14_1 p_impl_NextMatch_tf.down)))))))))))))))))))))
            try refine st_by ff ?_
            repeat' (first | exact trivial | refine And.intro sd ?_)
            refine JW.intro ?_
            rw [hJ_1]
            refine ⟨since_114, least_115, out_116, h_1, ?_⟩
            exact p_impl_NextMatch_pv ff trivial
          | cons x_1 r_1 =>
            rw [hr_1] at h_1
            rw [p_impl_NextMatch_l1] at h_1
            obtain ⟨ht_1, hg_1, hd_1⟩ := drop_cons hr_1
            have dr_1 : decide ((i_1 : Int) < (m98.length : Int)) = true := decide_eq_true (by omega)
            have w_1 : IntKind.i64.wrap ((i_1 : Int) + 1) = ((i_1 + 1 : Nat) : Int) := wI _ (by omega) (by omega)
            have kk1c : (esPlayer m98).drop (i_1 * 3) = ePlayer x_1 ++ esPlayer (m98.drop (i_1 + 1)) := drop_enc (fun _ => rfl) (hg_1)
            obtain ⟨v130, ev130, h_1⟩ := Option.bind_eq_some_iff.1 h_1
            try dsimp only at h_1
            have ff := And.intro @dc3 (And.intro @dr_0 (And.intro @w_0 (And.intro @kk0c (And.intro @f99c (And.intro @f99d (And.intro @dr_1 (And.intro @w_1 (And.intro @g0_1 (And.intro @g1_1 (And.intro @g2_1 (And.intro @g3_1 (And.intro @g4_1 (And.intro @g5_1 (And.intro @g6_1 (And.intro @g7_1 (And.intro @g8_1 (And.intro @g9_1 (And.intro @g10_1 (And.intro @g11_1 (And.intro @g12_1 (And.intro @g13_1 (And.intro @g14_1 (And.intro @kk1c p_impl_NextMatch_tf.down)))))))))))))))))))))))
            try refine st_by ff ?_
            repeat' (first | exact trivial | refine And.intro sd ?_)
            first
            | (refine cq_call (p_impl_size_does (IntKind.i64.wrap (x_0.Rating - x_1.Rating)) v130 ev130) (hf_by ff) kr ⟨p_impl_NextMatch_sa ff trivial, ?_⟩; clear ff)
            | (refine cq_dcall (p_impl_size_does (IntKind.i64.wrap (x_0.Rating - x_1.Rating)) v130 ev130) (hf_by ff) kr ⟨p_impl_NextMatch_sa ff trivial, ?_⟩; clear ff)
            obtain ⟨v131, ev131, h_1⟩ := Option.bind_eq_some_iff.1 h_1
            try dsimp only at h_1
            have ff := And.intro @dc3 (And.intro @dr_0 (And.intro @w_0 (And.intro @kk0c (And.intro @f99c (And.intro @f99d (And.intro @dr_1 (And.intro @w_1 (And.intro @g0_1 (And.intro @g1_1 (And.intro @g2_1 (And.intro @g3_1 (And.intro @g4_1 (And.intro @g5_1 (And.intro @g6_1 (And.intro @g7_1 (And.intro @g8_1 (And.intro @g9_1 (And.intro @g10_1 (And.intro @g11_1 (And.intro @g12_1 (And.intro @g13_1 (And.intro @g14_1 (And.intro @kk1c p_impl_NextMatch_tf.down)))))))))))))))))))))))
            try refine st_by ff ?_
            repeat' (first | exact trivial | refine And.intro sd ?_ | (refine aw_drawn (id := 12) ?_ [[], [], [], [1, 2], [], [], [1, 2, 3, 4, 5], [1, 2, 3, 4, 5, 6], [0, 1, 2, 3, 4, 5, 6, 7]] 8 ?_ ?_; (· kernel_rfl); (· kernel_rfl); refine st_by ff ?_))
            first
            | (refine cq_call (p_impl_Player_wide_does x_0 now_a1 v131 ev131) (hf_by ff) kr ⟨p_impl_NextMatch_sa ff trivial, ?_⟩; clear ff)
            | (refine cq_dcall (p_impl_Player_wide_does x_0 now_a1 v131 ev131) (hf_by ff) kr ⟨p_impl_NextMatch_sa ff trivial, ?_⟩; clear ff)
            obtain ⟨v132, ev132, h_1⟩ := Option.bind_eq_some_iff.1 h_1
            try dsimp only at h_1
            have ff := And.intro @dc3 (And.intro @dr_0 (And.intro @w_0 (And.intro @kk0c (And.intro @f99c (And.intro @f99d (And.intro @dr_1 (And.intro @w_1 (And.intro @g0_1 (And.intro @g1_1 (And.intro @g2_1 (And.intro @g3_1 (And.intro @g4_1 (And.intro @g5_1 (And.intro @g6_1 (And.intro @g7_1 (And.intro @g8_1 (And.intro @g9_1 (And.intro @g10_1 (And.intro @g11_1 (And.intro @g12_1 (And.intro @g13_1 (And.intro @g14_1 (And.intro @kk1c p_impl_NextMatch_tf.down)))))))))))))))))))))))
            try refine st_by ff ?_
            repeat' (first | exact trivial | refine And.intro sd ?_)
            first
            | (refine cq_call (p_impl_Player_wide_does x_1 now_a1 v132 ev132) (hf_by ff) kr ⟨p_impl_NextMatch_sa ff trivial, ?_⟩; clear ff)
            | (refine cq_dcall (p_impl_Player_wide_does x_1 now_a1 v132 ev132) (hf_by ff) kr ⟨p_impl_NextMatch_sa ff trivial, ?_⟩; clear ff)
            by_cases c133 : v130 > (if v132 < v131 then v132 else v131)
            · rw [if_pos c133] at h_1
              have dc133 := decide_eq_true c133
              have ff := And.intro @dc3 (And.intro @dr_0 (And.intro @w_0 (And.intro @kk0c (And.intro @f99c (And.intro @f99d (And.intro @dr_1 (And.intro @w_1 (And.intro @g0_1 (And.intro @g1_1 (And.intro @g2_1 (And.intro @g3_1 (And.intro @g4_1 (And.intro @g5_1 (And.intro @g6_1 (And.intro @g7_1 (And.intro @g8_1 (And.intro @g9_1 (And.intro @g10_1 (And.intro @g11_1 (And.intro @g12_1 (And.intro @g13_1 (And.intro @g14_1 (And.intro @kk1c (And.intro @dc133 p_impl_NextMatch_tf.down))))))))))))))))))))))))
              try refine st_by ff ?_
              repeat' (first | exact trivial | refine And.intro sd ?_)
              refine Back.intro (i_1 + 1, since_114, least_115, out_116) ?_ ?_
              · clear ff; rw [hM_1]; show m98.length - (i_1 + 1) < m98.length - i_1; omega
              rw [hI_1]
              refine ⟨⟨by clear ff; show i_1 + 1 ≤ m98.length; omega, by show p_impl_NextMatch_l1 now_a1 x_0 (m98.drop (i_1 + 1)) (i_1 + 1) since_114 least_115 out_116 = some q_1; rw [hd_1]; exact h_1⟩, ?_⟩
              exact p_impl_NextMatch_pv ff trivial
            rw [if_neg c133] at h_1
            have dc133 := decide_eq_false c133
            have ff := And.intro @dc3 (And.intro @dr_0 (And.intro @w_0 (And.intro @kk0c (And.intro @f99c (And.intro @f99d (And.intro @dr_1 (And.intro @w_1 (And.intro @g0_1 (And.intro @g1_1 (And.intro @g2_1 (And.intro @g3_1 (And.intro @g4_1 (And.intro @g5_1 (And.intro @g6_1 (And.intro @g7_1 (And.intro @g8_1 (And.intro @g9_1 (And.intro @g10_1 (And.intro @g11_1 (And.intro @g12_1 (And.intro @g13_1 (And.intro @g14_1 (And.intro @kk1c (And.intro @dc133 p_impl_NextMatch_tf.down))))))))))))))))))))))))
            try refine st_by ff ?_
            repeat' (first | exact trivial | refine And.intro sd ?_)
            try clear ff
            generalize hk_1 : thenK _ _ = kk_1
            have key_1 : ∀ σ, (∃ b_134 : Bool, (p_impl_NextMatch_j1 x_0 since_114 least_115 out_116 x_1 i_1 v130 (p_impl_NextMatch_l1 now_a1 x_0 r_1) b_134 = some q_1) ∧ σ.t 0 = .row false 3 l_a0.length (esPlayer l_a0) ∧ σ.t 3 = .ptr 3 [] 0 ∧ σ.t 6 = .sl 6 [] 0 out_116.length ∧ σ.t 7 = I since_114 ∧ σ.t 8 = I least_115 ∧ σ.t 10 = .ptr 10 [] 0 ∧ σ.t 12 = .ptr 12 [] 0 ∧ σ.t 13 = I v130 ∧ σ.t 27 = .row false 3 l_a0.length (esPlayer l_a0) ∧ σ.t 28 = I (l_a0.length : Int) ∧ σ.t 29 = I (i_0 : Int) ∧ σ.t 37 = .row false 3 m98.length (esPlayer m98) ∧ σ.t 38 = I (m98.length : Int) ∧ σ.t 39 = I (i_1 : Int) ∧ σ.t 74 = B b_134 ∧ σ.m 3 = some (.box true [I now_a1]) ∧ σ.m 6 = some (.row true (nsz out_116.length 1) out_116.length (esStr out_116)) ∧ σ.m 10 = some (.box true [S x_0.Name, I x_0.Rating, I x_0.Since]) ∧ σ.m 12 = some (.box true [S x_1.Name, I x_1.Rating, I x_1.Since])) → kk_1 .nm σ := by
              rintro σ ⟨b_134, h_1, g0_j1, g1_j1, g2_j1, g3_j1, g4_j1, g5_j1, g6_j1, g7_j1, g8_j1, g9_j1, g10_j1, g11_j1, g12_j1, g13_j1, g14_j1, g15_j1, g16_j1, g17_j1, g18_j1⟩
              rw [← hk_1]
              rw [p_impl_NextMatch_j1] at h_1
              by_cases c135 : b_134 = true
              case neg =>
               rw [if_neg c135] at h_1
               have dc135 := eq_false_of_ne_true c135
               have ff := And.intro @dc3 (And.intro @dr_0 (And.intro @w_0 (And.intro @kk0c (And.intro @f99c (And.intro @f99d (And.intro @dr_1 (And.intro @w_1 (And.intro @kk1c (And.intro @dc133 (And.intro @g0_j1 (And.intro @g1_j1 (And.intro @g2_j1 (And.intro @g3_j1 (And.intro @g4_j1 (And.intro @g5_j1 (And.intro @g6_j1 (And.intro @g7_j1 (And.intro @g8_j1 (And.intro @g9_j1 (And.intro @g10_j1 (And.intro @g11_j1 (And.intro @g12_j1 (And.intro @g13_j1 (And.intro @g14_j1 (And.intro @g15_j1 (And.intro @g16_j1 (And.intro @g17_j1 (And.intro @g18_j1 (And.intro @dc135 p_impl_NextMatch_tf.down)))))))))))))))))))))))))))))
               try refine st_by ff ?_
               repeat' (first | exact trivial | refine And.intro sd ?_)
               refine Back.intro (i_1 + 1, since_114, least_115, out_116) ?_ ?_
               · clear ff; rw [hM_1]; show m98.length - (i_1 + 1) < m98.length - i_1; omega
               rw [hI_1]
               refine ⟨⟨by clear ff; show i_1 + 1 ≤ m98.length; omega, by show p_impl_NextMatch_l1 now_a1 x_0 (m98.drop (i_1 + 1)) (i_1 + 1) since_114 least_115 out_116 = some q_1; rw [hd_1]; exact h_1⟩, ?_⟩
               exact p_impl_NextMatch_pv ff trivial
              rw [if_pos c135] at h_1
              have dc135 := c135
              have ff := And.intro @dc3 (And.intro @dr_0 (And.intro @w_0 (And.intro @kk0c (And.intro @f99c (And.intro @f99d (And.intro @dr_1 (And.intro @w_1 (And.intro @kk1c (And.intro @dc133 (And.intro @g0_j1 (And.intro @g1_j1 (And.intro @g2_j1 (And.intro @g3_j1 (And.intro @g4_j1 (And.intro @g5_j1 (And.intro @g6_j1 (And.intro @g7_j1 (And.intro @g8_j1 (And.intro @g9_j1 (And.intro @g10_j1 (And.intro @g11_j1 (And.intro @g12_j1 (And.intro @g13_j1 (And.intro @g14_j1 (And.intro @g15_j1 (And.intro @g16_j1 (And.intro @g17_j1 (And.intro @g18_j1 (And.intro @dc135 p_impl_NextMatch_tf.down)))))))))))))))))))))))))))))
              try refine st_by ff ?_
              repeat' (first | exact trivial | refine And.intro sd ?_ | (refine aw_drawn (id := 14) ?_ [[], [0], [], [2], [0, 1, 2, 3], [], [5], [], [7], [5, 6, 7, 8], [], [0, 1, 2, 3, 4], [0, 1, 2, 3, 4, 5, 6, 7, 8, 9, 11], [0, 1, 2, 3, 4, 5, 6, 7, 8, 9, 10, 11, 12]] 13 ?_ ?_; (· kernel_rfl); (· kernel_rfl); refine st_by ff ?_))
              refine Back.introW (i_1 + 1, (IntKind.i64.wrap (x_0.Since + x_1.Since)), v130, ([x_0.Name, x_1.Name] : List ByteArray)) ?_ (Weak.renm (r := 79) (d := 6) (by decide) (by decide) (by decide)) ?_
              · clear ff; rw [hM_1]; show m98.length - (i_1 + 1) < m98.length - i_1; omega
              rw [hI_1]
              refine ⟨⟨by clear ff; show i_1 + 1 ≤ m98.length; omega, by show p_impl_NextMatch_l1 now_a1 x_0 (m98.drop (i_1 + 1)) (i_1 + 1) (IntKind.i64.wrap (x_0.Since + x_1.Since)) v130 ([x_0.Name, x_1.Name] : List ByteArray) = some q_1; rw [hd_1]; exact h_1⟩, ?_⟩
              simp only [renm_t, renm_m]
              exact p_impl_NextMatch_pv ff trivial
            have hrt_1 := fun σ : ASt => congrFun (congrFun hk_1.symm AX.rt) σ
            have hex_1 := fun (i : Nat) (σ : ASt) => congrFun (congrFun hk_1.symm (AX.ex i)) σ
            by_cases c136 : out_116.length = 0
            · rw [if_pos c136] at h_1
              have dc136 := decide_eq_true c136
              have ff := And.intro @dc3 (And.intro @dr_0 (And.intro @w_0 (And.intro @kk0c (And.intro @f99c (And.intro @f99d (And.intro @dr_1 (And.intro @w_1 (And.intro @g0_1 (And.intro @g1_1 (And.intro @g2_1 (And.intro @g3_1 (And.intro @g4_1 (And.intro @g5_1 (And.intro @g6_1 (And.intro @g7_1 (And.intro @g8_1 (And.intro @g9_1 (And.intro @g10_1 (And.intro @g11_1 (And.intro @g12_1 (And.intro @g13_1 (And.intro @g14_1 (And.intro @kk1c (And.intro @dc133 (And.intro @hrt_1 (And.intro @hex_1 (And.intro @dc136 p_impl_NextMatch_tf.down)))))))))))))))))))))))))))
              try refine st_by ff ?_
              repeat' (first | exact trivial | refine And.intro sd ?_)
              refine key_1 _ ?_
              refine ⟨true, h_1, ?_⟩
              exact p_impl_NextMatch_pv ff trivial
            rw [if_neg c136] at h_1
            have dc136 := decide_eq_false c136
            obtain ⟨v137, ev137, h_1⟩ := Option.bind_eq_some_iff.1 h_1
            try dsimp only at h_1
            have ff := And.intro @dc3 (And.intro @dr_0 (And.intro @w_0 (And.intro @kk0c (And.intro @f99c (And.intro @f99d (And.intro @dr_1 (And.intro @w_1 (And.intro @g0_1 (And.intro @g1_1 (And.intro @g2_1 (And.intro @g3_1 (And.intro @g4_1 (And.intro @g5_1 (And.intro @g6_1 (And.intro @g7_1 (And.intro @g8_1 (And.intro @g9_1 (And.intro @g10_1 (And.intro @g11_1 (And.intro @g12_1 (And.intro @g13_1 (And.intro @g14_1 (And.intro @kk1c (And.intro @dc133 (And.intro @hrt_1 (And.intro @hex_1 (And.intro @dc136 p_impl_NextMatch_tf.down)))))))))))))))))))))))))))
            try refine st_by ff ?_
            repeat' (first | exact trivial | refine And.intro sd ?_)
            first
            | (refine cq_call (p_cmp_Compare_int_does (IntKind.i64.wrap (x_0.Since + x_1.Since)) since_114 v137 ev137) (hf_by ff) kr ⟨p_impl_NextMatch_sa ff trivial, ?_⟩; clear ff)
            | (refine cq_dcall (p_cmp_Compare_int_does (IntKind.i64.wrap (x_0.Since + x_1.Since)) since_114 v137 ev137) (hf_by ff) kr ⟨p_impl_NextMatch_sa ff trivial, ?_⟩; clear ff)
            obtain ⟨v138, ev138, h_1⟩ := Option.bind_eq_some_iff.1 h_1
            try dsimp only at h_1
            have ff := And.intro @dc3 (And.intro @dr_0 (And.intro @w_0 (And.intro @kk0c (And.intro @f99c (And.intro @f99d (And.intro @dr_1 (And.intro @w_1 (And.intro @g0_1 (And.intro @g1_1 (And.intro @g2_1 (And.intro @g3_1 (And.intro @g4_1 (And.intro @g5_1 (And.intro @g6_1 (And.intro @g7_1 (And.intro @g8_1 (And.intro @g9_1 (And.intro @g10_1 (And.intro @g11_1 (And.intro @g12_1 (And.intro @g13_1 (And.intro @g14_1 (And.intro @kk1c (And.intro @dc133 (And.intro @hrt_1 (And.intro @hex_1 (And.intro @dc136 p_impl_NextMatch_tf.down)))))))))))))))))))))))))))
            try refine st_by ff ?_
            repeat' (first | exact trivial | refine And.intro sd ?_)
            first
            | (refine cq_call (p_cmp_Compare_int_does v130 least_115 v138 ev138) (hf_by ff) kr ⟨p_impl_NextMatch_sa ff trivial, ?_⟩; clear ff)
            | (refine cq_dcall (p_cmp_Compare_int_does v130 least_115 v138 ev138) (hf_by ff) kr ⟨p_impl_NextMatch_sa ff trivial, ?_⟩; clear ff)
            obtain ⟨v139, ev139, h_1⟩ := Option.bind_eq_some_iff.1 h_1
            try dsimp only at h_1
            have ff := And.intro @dc3 (And.intro @dr_0 (And.intro @w_0 (And.intro @kk0c (And.intro @f99c (And.intro @f99d (And.intro @dr_1 (And.intro @w_1 (And.intro @g0_1 (And.intro @g1_1 (And.intro @g2_1 (And.intro @g3_1 (And.intro @g4_1 (And.intro @g5_1 (And.intro @g6_1 (And.intro @g7_1 (And.intro @g8_1 (And.intro @g9_1 (And.intro @g10_1 (And.intro @g11_1 (And.intro @g12_1 (And.intro @g13_1 (And.intro @g14_1 (And.intro @kk1c (And.intro @dc133 (And.intro @hrt_1 (And.intro @hex_1 (And.intro @dc136 p_impl_NextMatch_tf.down)))))))))))))))))))))))))))
            try refine st_by ff ?_
            repeat' (first | exact trivial | refine And.intro sd ?_)
            first
            | (refine cq_lend (p_cmp_Or_int_does ([v137, v138] : List Int) v139 ev139) (hf_by ff) kr ⟨p_impl_NextMatch_sa ff trivial, ?_⟩; clear ff)
            | (refine cq_dlend (p_cmp_Or_int_does ([v137, v138] : List Int) v139 ev139) (hf_by ff) kr ⟨p_impl_NextMatch_sa ff trivial, ?_⟩; clear ff)
            have ff := And.intro @dc3 (And.intro @dr_0 (And.intro @w_0 (And.intro @kk0c (And.intro @f99c (And.intro @f99d (And.intro @dr_1 (And.intro @w_1 (And.intro @g0_1 (And.intro @g1_1 (And.intro @g2_1 (And.intro @g3_1 (And.intro @g4_1 (And.intro @g5_1 (And.intro @g6_1 (And.intro @g7_1 (And.intro @g8_1 (And.intro @g9_1 (And.intro @g10_1 (And.intro @g11_1 (And.intro @g12_1 (And.intro @g13_1 (And.intro @g14_1 (And.intro @kk1c (And.intro @dc133 (And.intro @hrt_1 (And.intro @hex_1 (And.intro @dc136 p_impl_NextMatch_tf.down)))))))))))))))))))))))))))
            try refine st_by ff ?_
            repeat' (first | exact trivial | refine And.intro sd ?_)
            refine key_1 _ ?_
            refine ⟨decide (v139 < 0), h_1, ?_⟩
            exact p_impl_NextMatch_pv ff trivial
        · try clear ff
          rintro σ hg_1
          rw [hJ_1] at hg_1
          obtain ⟨since_114, least_115, out_116, hj_1, g0_1a, g1_1a, g2_1a, g3_1a, g4_1a, g5_1a, g6_1a, g7_1a, g8_1a, g9_1a⟩ := hg_1
          cases hj_1
          try dsimp only at h_0
          have ff := And.intro @dc3 (And.intro @dr_0 (And.intro @w_0 (And.intro @kk0c (And.intro @f99c (And.intro @f99d (And.intro @g0_1a (And.intro @g1_1a (And.intro @g2_1a (And.intro @g3_1a (And.intro @g4_1a (And.intro @g5_1a (And.intro @g6_1a (And.intro @g7_1a (And.intro @g8_1a (And.intro @g9_1a p_impl_NextMatch_tf.down)))))))))))))))
          try refine st_by ff ?_
          repeat' (first | exact trivial | refine And.intro sd ?_)
          refine Back.intro (i_0 + 1, since_114, least_115, out_116) ?_ ?_
          · clear ff; rw [hM_0]; show l_a0.length - (i_0 + 1) < l_a0.length - i_0; omega
          rw [hI_0]
          refine ⟨⟨by clear ff; show i_0 + 1 ≤ l_a0.length; omega, by show p_impl_NextMatch_l0 l_a0 now_a1 (l_a0.drop (i_0 + 1)) (i_0 + 1) since_114 least_115 out_116 = some q_0; rw [hd_0]; exact h_0⟩, ?_⟩
          exact p_impl_NextMatch_pv ff trivial
    · try clear ff
      rintro σ hg_0
      rw [hJ_0] at hg_0
      obtain ⟨since_49, least_50, out_52, hj_0, g0_0a, g1_0a⟩ := hg_0
      cases hj_0
      try dsimp only at h
      refine AWP.seq (aw_sound ?_)
      have ff := And.intro @dc3 (And.intro @g0_0a (And.intro @g1_0a p_impl_NextMatch_tf.down))
      try refine st_by ff ?_
      repeat' (first | exact trivial | refine And.intro sd ?_)
      cases h
      refine AWP.ret ?_
      rw [retK_rt]
      refine RetJ.deN ?_
      exact ret_q2 rfl (p_impl_NextMatch_rt ff trivial)
  have hrt_0 := fun σ : ASt => congrFun (congrFun hk_0.symm AX.rt) σ
  have hex_0 := fun (i : Nat) (σ : ASt) => congrFun (congrFun hk_0.symm (AX.ex i)) σ
  by_cases c140 : v1 = true
  case neg =>
   rw [if_neg c140] at h
   have dc140 := eq_false_of_ne_true c140
   have ff := And.intro @hrt_0 (And.intro @hex_0 (And.intro @dc140 p_impl_NextMatch_tf.down))
   try refine st_by ff ?_
   repeat' (first | exact trivial | refine And.intro sd ?_)
   refine key_0 _ ?_
   refine ⟨true, h, ?_⟩
   exact p_impl_NextMatch_pv ff trivial
  rw [if_pos c140] at h
  have dc140 := c140
  have ff := And.intro @hrt_0 (And.intro @hex_0 (And.intro @dc140 p_impl_NextMatch_tf.down))
  try refine st_by ff ?_
  repeat' (first | exact trivial | refine And.intro sd ?_)
  first
  | (refine cq_call (isTime_does now_a1) (hf_by ff) kr ⟨p_impl_NextMatch_sa ff trivial, ?_⟩; clear ff)
  | (refine cq_dcall (isTime_does now_a1) (hf_by ff) kr ⟨p_impl_NextMatch_sa ff trivial, ?_⟩; clear ff)
  by_cases c141 : (rng now_a1 0 100000) = true
  case neg =>
   rw [if_neg c141] at h
   have dc141 := eq_false_of_ne_true c141
   have ff := And.intro @hrt_0 (And.intro @hex_0 (And.intro @dc140 (And.intro @dc141 p_impl_NextMatch_tf.down)))
   try refine st_by ff ?_
   repeat' (first | exact trivial | refine And.intro sd ?_)
   refine key_0 _ ?_
   refine ⟨true, h, ?_⟩
   exact p_impl_NextMatch_pv ff trivial
  rw [if_pos c141] at h
  have dc141 := c141
  obtain ⟨v142, ev142, h⟩ := Option.bind_eq_some_iff.1 h
  try dsimp only at h
  have ff := And.intro @hrt_0 (And.intro @hex_0 (And.intro @dc140 (And.intro @dc141 p_impl_NextMatch_tf.down)))
  try refine st_by ff ?_
  repeat' (first | exact trivial | refine And.intro sd ?_)
  first
  | (refine cq_lend (p_slices_ContainsFunc_impl_Player_impl_Player_does l_a0 28 [.box false (eInt now_a1)] (by simp [AV.noRefs, AV.noRef]) kr (fun x0_ => p_impl_NextMatch_1 x0_ now_a1) (fun x0_ y_ h_ => p_impl_NextMatch_1_does x0_ now_a1 y_ h_) v142 ev142) (hf_by ff) kr ⟨p_impl_NextMatch_sa ff trivial, ?_⟩; clear ff)
  | (refine cq_dlend (p_slices_ContainsFunc_impl_Player_impl_Player_does l_a0 28 [.box false (eInt now_a1)] (by simp [AV.noRefs, AV.noRef]) kr (fun x0_ => p_impl_NextMatch_1 x0_ now_a1) (fun x0_ y_ h_ => p_impl_NextMatch_1_does x0_ now_a1 y_ h_) v142 ev142) (hf_by ff) kr ⟨p_impl_NextMatch_sa ff trivial, ?_⟩; clear ff)
  have ff := And.intro @hrt_0 (And.intro @hex_0 (And.intro @dc140 (And.intro @dc141 p_impl_NextMatch_tf.down)))
  try refine st_by ff ?_
  repeat' (first | exact trivial | refine And.intro sd ?_)
  refine key_0 _ ?_
  refine ⟨v142, h, ?_⟩
  exact p_impl_NextMatch_pv ff trivial
end Go.Av
