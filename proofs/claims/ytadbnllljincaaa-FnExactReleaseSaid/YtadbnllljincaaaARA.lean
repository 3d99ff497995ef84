/- spec.l21Sizes -/
import Derived.Test.YtadbnllljincaaaAL0
import Derived.Test.YtadbnllljincaaaAG3
set_option linter.unusedSimpArgs false
set_option linter.unusedVariables false
set_option maxRecDepth 100000
set_option maxHeartbeats 1000000
namespace Go.Av
open Go.Proofs
/-! spec.l21Sizes -/
def p_spec_l21Sizes_l0 : List GResident → Nat → Int → Option (Int)
  | [], i_0, n_4 => some n_4
  | x_0 :: r_0, i_0, n_4 => p_spec_l21Sizes_l0 r_0 (i_0 + 1) (IntKind.i64.wrap (n_4 + x_0.Size))
theorem p_spec_l21Sizes_pv {F C A : Prop} (hF : F) (hC : C) (h : F → C → A := by intro hF hC; first | exact cl_by hF | (refine st_by hF ?_; (repeat' (first | exact trivial | apply And.intro)); all_goals (clear hF; first | rfl | (simp only [hC, List.length_append, List.length_cons, List.length_nil, List.append_nil, List.nil_append, List.cons_append, List.length_set, List.append_assoc, Nat.zero_add, List.length_replicate, esStore_app, esStore_cons, esStore_nil, eStore_eq, esStoreo_app, esStoreo_cons, esStoreo_nil, eStoreo_eq, esResident_app, esResident_cons, esResident_nil, eResident_eq]; done) | (simp [hC, List.length_append, List.length_cons, List.length_nil, List.append_nil, List.nil_append, List.cons_append, List.length_set, List.append_assoc, Nat.zero_add, List.length_replicate, esStore_app, esStore_cons, esStore_nil, eStore_eq, esStoreo_app, esStoreo_cons, esStoreo_nil, eStoreo_eq, esResident_app, esResident_cons, esResident_nil, eResident_eq]; done) | omega))) : A := h hF hC
theorem p_spec_l21Sizes_sa {F C A : Prop} (hF : F) (hC : C) (h : F → C → A := by intro hF hC; first | exact ca_by hF | (refine sa_by hF ?_; (repeat' (first | exact trivial | apply And.intro)); all_goals (clear hF; first | rfl | (simp only [hC, List.length_append, List.length_cons, List.length_nil, List.append_nil, List.nil_append, List.cons_append, List.length_set, List.append_assoc, Nat.zero_add, List.length_replicate, esStore_app, esStore_cons, esStore_nil, eStore_eq, esStoreo_app, esStoreo_cons, esStoreo_nil, eStoreo_eq, esResident_app, esResident_cons, esResident_nil, eResident_eq]; done) | (simp [hC, List.length_append, List.length_cons, List.length_nil, List.append_nil, List.nil_append, List.cons_append, List.length_set, List.append_assoc, Nat.zero_add, List.length_replicate, esStore_app, esStore_cons, esStore_nil, eStore_eq, esStoreo_app, esStoreo_cons, esStoreo_nil, eStoreo_eq, esResident_app, esResident_cons, esResident_nil, eResident_eq]; done) | omega))) : A := h hF hC
theorem p_spec_l21Sizes_rt {F C A : Prop} (hF : F) (hC : C) (h : F → C → A := by intro hF hC; first | (refine sr_by hF ?_; (repeat' (first | exact trivial | apply And.intro)); all_goals (clear hF; first | rfl | (simp only [hC, List.length_append, List.length_cons, List.length_nil, List.append_nil, List.nil_append, List.cons_append, List.length_set, List.append_assoc, Nat.zero_add, List.length_replicate, esStore_app, esStore_cons, esStore_nil, eStore_eq, esStoreo_app, esStoreo_cons, esStoreo_nil, eStoreo_eq, esResident_app, esResident_cons, esResident_nil, eResident_eq]; done) | (simp [hC, List.length_append, List.length_cons, List.length_nil, List.append_nil, List.nil_append, List.cons_append, List.length_set, List.append_assoc, Nat.zero_add, List.length_replicate, esStore_app, esStore_cons, esStore_nil, eStore_eq, esStoreo_app, esStoreo_cons, esStoreo_nil, eStoreo_eq, esResident_app, esResident_cons, esResident_nil, eResident_eq]; done) | omega)) | (first | rfl | (simp only [hC, List.length_append, List.length_cons, List.length_nil, List.append_nil, List.nil_append, List.cons_append, List.length_set, List.append_assoc, Nat.zero_add, List.length_replicate, esStore_app, esStore_cons, esStore_nil, eStore_eq, esStoreo_app, esStoreo_cons, esStoreo_nil, eStoreo_eq, esResident_app, esResident_cons, esResident_nil, eResident_eq]; done) | (simp [hC, List.length_append, List.length_cons, List.length_nil, List.append_nil, List.nil_append, List.cons_append, List.length_set, List.append_assoc, Nat.zero_add, List.length_replicate, esStore_app, esStore_cons, esStore_nil, eStore_eq, esStoreo_app, esStoreo_cons, esStoreo_nil, eStoreo_eq, esResident_app, esResident_cons, esResident_nil, eResident_eq]; done) | omega)) : A := h hF hC
def p_spec_l21Sizes_tf := PLift.up (And.intro @eStore_eq (And.intro @esStore_len (And.intro @esStore_nil (And.intro @esStore_leaf (And.intro @esStore_fit (And.intro @eStoreo_eq (And.intro @esStoreo_len (And.intro @esStoreo_nil (And.intro @eResident_eq (And.intro @esResident_len (And.intro @esResident_nil (And.intro @esResident_leaf (And.intro @esResident_fit (And.intro @esStoreo_share (And.intro @esStoreo_pure (And.intro @esResident_share (And.intro @esResident_pure (And.intro @str_beq (And.intro @Ty.sl26 (And.intro @Ty.slz26 (And.intro @Ty.nz26 (And.intro @Ty.ldA26 (And.intro @Ty.ldS26 (And.intro @Ty.sz26 (And.intro @Ty.szn26 (And.intro @Ty.nz45 (And.intro @Ty.ldA45 (And.intro @Ty.sz45 (And.intro @Ty.szn45 (And.intro @Ty.nz3 (And.intro @Ty.ldA3 (And.intro @Ty.ldS3 (And.intro @Ty.sz3 (And.intro @Ty.szn3 (And.intro @Ty.fo28_2 (And.intro @Ty.fk28_2 (And.intro @Ty.fs28_2 (And.intro @Ty.fn28_2 (And.intro @Ty.fo45_1 (And.intro @Ty.fk45_1 (And.intro @Ty.fs45_1 (And.intro @Ty.fn45_1 (And.intro @Ty.zv45 @trivial)))))))))))))))))))))))))))))))))))))))))))
def p_spec_l21Sizes (s_a0 : GStore) : Option (Int) := ((p_spec_l21Sizes_l0 s_a0.In 0 0).bind fun q_0 => match q_0 with | n_4 => some n_4)
theorem p_spec_l21Sizes_does (s_a0 : GStore) (r : Int) (h : p_spec_l21Sizes s_a0 = some r) : Does Try.prog 29 [.agg (eStore s_a0)] (I r) := by
  rw [p_spec_l21Sizes] at h
  refine Does.bnd (fun hb => ?_)
  have hb2 : s_a0.In.length ≤ 9223372036854775807 := by simpa [AV.fitNs, AV.fitN, eStore] using hb
  have hl0 := hb2
  refine Does.walk (nt := 19) Try.func29 rfl rfl (by simp) (by decide) rfl (fun G0 X w0 pv => ?_)
  have hL_0 : s_a0.In.length ≤ 9223372036854775807 := by first | assumption | omega
  obtain ⟨q_0, eq_0, h⟩ := Option.bind_eq_some_iff.1 h
  have ff := p_spec_l21Sizes_tf.down
  try refine st_by ff ?_
  repeat' (first | exact trivial | refine And.intro sd ?_)
  obtain ⟨I_0, hI_0⟩ : ∃ I_ : (Nat × Int) → ASt → Prop, I_ = (fun (a : Nat × Int) σ => match a with | (i_0, n_4) => (i_0 ≤ s_a0.In.length ∧ p_spec_l21Sizes_l0 (s_a0.In.drop i_0) i_0 n_4 = some q_0) ∧ σ.t 3 = I n_4 ∧ σ.t 7 = .row false 4 s_a0.In.length (esResident s_a0.In) ∧ σ.t 8 = I (s_a0.In.length : Int) ∧ σ.t 9 = I (i_0 : Int)) := ⟨_, rfl⟩
  obtain ⟨M_0, hM_0⟩ : ∃ M_ : (Nat × Int) → Nat, M_ = (fun (a : Nat × Int) => match a with | (i_0, n_4) => s_a0.In.length - i_0) := ⟨_, rfl⟩
  obtain ⟨J_0, hJ_0⟩ : ∃ J_ : ASt → Prop, J_ = (fun σ => ∃ n_4 : Int, (some n_4 = some q_0) ∧ σ.t 3 = I n_4) := ⟨_, rfl⟩
  refine aw_loopC (id := 0) I_0 M_0 J_0 (0, 0) ?_ ?_ ?_
  · rw [hI_0]
    refine ⟨⟨Nat.zero_le _, eq_0⟩, ?_⟩
    exact p_spec_l21Sizes_pv ff trivial
  · try clear ff
    rintro ⟨i_0, n_4⟩ σ hg_0
    rw [hI_0] at hg_0
    obtain ⟨⟨hi_0, h_0⟩, g0_0, g1_0, g2_0, g3_0⟩ := hg_0
    cases hr_0 : s_a0.In.drop i_0 with
    | nil =>
      rw [hr_0] at h_0
      rw [p_spec_l21Sizes_l0] at h_0
      have hn_0 := drop_nil hr_0
      have dr_0 : decide ((i_0 : Int) < (s_a0.In.length : Int)) = false := decide_eq_false (by omega)
      have ff := And.intro @dr_0 (And.intro @g0_0 (And.intro @g1_0 (And.intro @g2_0 (And.intro @g3_0 p_spec_l21Sizes_tf.down))))
      try refine st_by ff ?_
      repeat' (first | exact trivial | refine And.intro sd ?_)
      refine JW.intro ?_
      rw [hJ_0]
      refine ⟨n_4, h_0, ?_⟩
      exact p_spec_l21Sizes_pv ff trivial
    | cons x_0 r_0 =>
      rw [hr_0] at h_0
      rw [p_spec_l21Sizes_l0] at h_0
      obtain ⟨ht_0, hg_0, hd_0⟩ := drop_cons hr_0
      have dr_0 : decide ((i_0 : Int) < (s_a0.In.length : Int)) = true := decide_eq_true (by omega)
      have w_0 : IntKind.i64.wrap ((i_0 : Int) + 1) = ((i_0 + 1 : Nat) : Int) := wI _ (by omega) (by omega)
      have kk0c : (esResident s_a0.In).drop (i_0 * 4) = eResident x_0 ++ esResident (s_a0.In.drop (i_0 + 1)) := drop_enc (fun _ => rfl) (hg_0)
      have ff := And.intro @dr_0 (And.intro @w_0 (And.intro @g0_0 (And.intro @g1_0 (And.intro @g2_0 (And.intro @g3_0 (And.intro @kk0c p_spec_l21Sizes_tf.down))))))
      try refine st_by ff ?_
      repeat' (first | exact trivial | refine And.intro sd ?_)
      refine Back.intro (i_0 + 1, (IntKind.i64.wrap (n_4 + x_0.Size))) ?_ ?_
      · clear ff; rw [hM_0]; show s_a0.In.length - (i_0 + 1) < s_a0.In.length - i_0; omega
      rw [hI_0]
      refine ⟨⟨by clear ff; show i_0 + 1 ≤ s_a0.In.length; omega, by show p_spec_l21Sizes_l0 (s_a0.In.drop (i_0 + 1)) (i_0 + 1) (IntKind.i64.wrap (n_4 + x_0.Size)) = some q_0; rw [hd_0]; exact h_0⟩, ?_⟩
      exact p_spec_l21Sizes_pv ff trivial
  · try clear ff
    rintro σ hg_0
    rw [hJ_0] at hg_0
    obtain ⟨n_4, hj_0, g0_0a⟩ := hg_0
    have hjj_0 := Option.some.inj hj_0
    subst hjj_0
    try dsimp only at h
    have ff := And.intro @g0_0a p_spec_l21Sizes_tf.down
    try refine st_by ff ?_
    repeat' (first | exact trivial | refine And.intro sd ?_)
    cases h
    exact ret_q1 rfl (p_spec_l21Sizes_rt ff trivial)
/-! spec.GoodStore -/
def p_spec_GoodStore_l1 (x_0 : GResident) : List GResident → Nat → Option (LR (Bool) (Unit))
  | [], i_1 => some (.out ())
  | x_1 :: r_1, i_1 => (if x_0.Used > 0 then (if x_1.Used = x_0.Used then some (.ret false) else p_spec_GoodStore_l1 x_0 r_1 (i_1 + 1)) else p_spec_GoodStore_l1 x_0 r_1 (i_1 + 1))
def p_spec_GoodStore_j1 (s_a0 : GStore) (x_0 : GResident) (i_0 : Nat) (rec_0 : Nat → Option (LR (Bool) (Unit))) (b_61 : Bool) : Option (LR (Bool) (Unit)) := (if b_61 = true then some (.ret false) else ((slc s_a0.In 0 (i_0 : Int)).bind fun m63 => ((p_spec_GoodStore_l1 x_0 m63 0).bind fun q_1 => match q_1 with | .ret r_ => some (.ret r_) | .out _ => rec_0 (i_0 + 1))))
def p_spec_GoodStore_l0 (s_a0 : GStore) : List GResident → Nat → Option (LR (Bool) (Unit))
  | [], i_0 => some (.out ())
  | x_0 :: r_0, i_0 => (if x_0.Name.size ≤ 9223372036854775807 then (if (goodName x_0.Name) = true then (if (rng x_0.Size 1 100000) = true then (if (rng x_0.Held 0 1000) = true then (if (rng x_0.Used 0 s_a0.Clock) = true then (if (i_0 : Int) > 0 then ((idx s_a0.In (IntKind.i64.wrap ((i_0 : Int) - 1))).bind fun x83 => p_spec_GoodStore_j1 s_a0 x_0 i_0 (p_spec_GoodStore_l0 s_a0 r_0) (!(Op.bytesLess x83.Name.toList x_0.Name.toList))) else p_spec_GoodStore_j1 s_a0 x_0 i_0 (p_spec_GoodStore_l0 s_a0 r_0) false) else p_spec_GoodStore_j1 s_a0 x_0 i_0 (p_spec_GoodStore_l0 s_a0 r_0) true) else p_spec_GoodStore_j1 s_a0 x_0 i_0 (p_spec_GoodStore_l0 s_a0 r_0) true) else p_spec_GoodStore_j1 s_a0 x_0 i_0 (p_spec_GoodStore_l0 s_a0 r_0) true) else p_spec_GoodStore_j1 s_a0 x_0 i_0 (p_spec_GoodStore_l0 s_a0 r_0) true) else none)
def p_spec_GoodStore_j0 (s_a0 : GStore) (b_1 : Bool) : Option (Bool) := (if b_1 = true then some false else ((p_spec_GoodStore_l0 s_a0 s_a0.In 0).bind fun q_0 => match q_0 with | .ret r_ => some r_ | .out _ => ((p_spec_l21Sizes s_a0).bind fun v85 => some (decide (v85 ≤ s_a0.Budget)))))
theorem p_spec_GoodStore_pv {F C A : Prop} (hF : F) (hC : C) (h : F → C → A := by intro hF hC; first | exact cl_by hF | (refine st_by hF ?_; (repeat' (first | exact trivial | apply And.intro)); all_goals (clear hF; first | rfl | (simp only [hC, List.length_append, List.length_cons, List.length_nil, List.append_nil, List.nil_append, List.cons_append, List.length_set, List.append_assoc, Nat.zero_add, List.length_replicate, esStore_app, esStore_cons, esStore_nil, eStore_eq, esStoreo_app, esStoreo_cons, esStoreo_nil, eStoreo_eq, esResident_app, esResident_cons, esResident_nil, eResident_eq]; done) | (simp [hC, List.length_append, List.length_cons, List.length_nil, List.append_nil, List.nil_append, List.cons_append, List.length_set, List.append_assoc, Nat.zero_add, List.length_replicate, esStore_app, esStore_cons, esStore_nil, eStore_eq, esStoreo_app, esStoreo_cons, esStoreo_nil, eStoreo_eq, esResident_app, esResident_cons, esResident_nil, eResident_eq]; done) | omega))) : A := h hF hC
theorem p_spec_GoodStore_sa {F C A : Prop} (hF : F) (hC : C) (h : F → C → A := by intro hF hC; first | exact ca_by hF | (refine sa_by hF ?_; (repeat' (first | exact trivial | apply And.intro)); all_goals (clear hF; first | rfl | (simp only [hC, List.length_append, List.length_cons, List.length_nil, List.append_nil, List.nil_append, List.cons_append, List.length_set, List.append_assoc, Nat.zero_add, List.length_replicate, esStore_app, esStore_cons, esStore_nil, eStore_eq, esStoreo_app, esStoreo_cons, esStoreo_nil, eStoreo_eq, esResident_app, esResident_cons, esResident_nil, eResident_eq]; done) | (simp [hC, List.length_append, List.length_cons, List.length_nil, List.append_nil, List.nil_append, List.cons_append, List.length_set, List.append_assoc, Nat.zero_add, List.length_replicate, esStore_app, esStore_cons, esStore_nil, eStore_eq, esStoreo_app, esStoreo_cons, esStoreo_nil, eStoreo_eq, esResident_app, esResident_cons, esResident_nil, eResident_eq]; done) | omega))) : A := h hF hC
theorem p_spec_GoodStore_rt {F C A : Prop} (hF : F) (hC : C) (h : F → C → A := by intro hF hC; first | (refine sr_by hF ?_; (repeat' (first | exact trivial | apply And.intro)); all_goals (clear hF; first | rfl | (simp only [hC, List.length_append, List.length_cons, List.length_nil, List.append_nil, List.nil_append, List.cons_append, List.length_set, List.append_assoc, Nat.zero_add, List.length_replicate, esStore_app, esStore_cons, esStore_nil, eStore_eq, esStoreo_app, esStoreo_cons, esStoreo_nil, eStoreo_eq, esResident_app, esResident_cons, esResident_nil, eResident_eq]; done) | (simp [hC, List.length_append, List.length_cons, List.length_nil, List.append_nil, List.nil_append, List.cons_append, List.length_set, List.append_assoc, Nat.zero_add, List.length_replicate, esStore_app, esStore_cons, esStore_nil, eStore_eq, esStoreo_app, esStoreo_cons, esStoreo_nil, eStoreo_eq, esResident_app, esResident_cons, esResident_nil, eResident_eq]; done) | omega)) | (first | rfl | (simp only [hC, List.length_append, List.length_cons, List.length_nil, List.append_nil, List.nil_append, List.cons_append, List.length_set, List.append_assoc, Nat.zero_add, List.length_replicate, esStore_app, esStore_cons, esStore_nil, eStore_eq, esStoreo_app, esStoreo_cons, esStoreo_nil, eStoreo_eq, esResident_app, esResident_cons, esResident_nil, eResident_eq]; done) | (simp [hC, List.length_append, List.length_cons, List.length_nil, List.append_nil, List.nil_append, List.cons_append, List.length_set, List.append_assoc, Nat.zero_add, List.length_replicate, esStore_app, esStore_cons, esStore_nil, eStore_eq, esStoreo_app, esStoreo_cons, esStoreo_nil, eStoreo_eq, esResident_app, esResident_cons, esResident_nil, eResident_eq]; done) | omega)) : A := h hF hC
def p_spec_GoodStore_tf := PLift.up (And.intro @eStore_eq (And.intro @esStore_len (And.intro @esStore_nil (And.intro @esStore_leaf (And.intro @esStore_fit (And.intro @eStoreo_eq (And.intro @esStoreo_len (And.intro @esStoreo_nil (And.intro @eResident_eq (And.intro @esResident_len (And.intro @esResident_nil (And.intro @esResident_leaf (And.intro @esResident_fit (And.intro @esStoreo_share (And.intro @esStoreo_pure (And.intro @esResident_share (And.intro @esResident_pure (And.intro @str_beq (And.intro @Ty.sl26 (And.intro @Ty.slz26 (And.intro @Ty.nz3 (And.intro @Ty.ldA3 (And.intro @Ty.ldS3 (And.intro @Ty.sz3 (And.intro @Ty.szn3 (And.intro @Ty.nz26 (And.intro @Ty.ldA26 (And.intro @Ty.ldS26 (And.intro @Ty.sz26 (And.intro @Ty.szn26 (And.intro @Ty.nz45 (And.intro @Ty.ldA45 (And.intro @Ty.sz45 (And.intro @Ty.szn45 (And.intro @Ty.nz9 (And.intro @Ty.ldA9 (And.intro @Ty.ldS9 (And.intro @Ty.sz9 (And.intro @Ty.szn9 (And.intro @Ty.nz28 (And.intro @Ty.ldA28 (And.intro @Ty.sz28 (And.intro @Ty.szn28 (And.intro @Ty.fo28_0 (And.intro @Ty.fk28_0 (And.intro @Ty.fs28_0 (And.intro @Ty.fn28_0 (And.intro @Ty.fo28_1 (And.intro @Ty.fk28_1 (And.intro @Ty.fs28_1 (And.intro @Ty.fn28_1 (And.intro @Ty.fo28_2 (And.intro @Ty.fk28_2 (And.intro @Ty.fs28_2 (And.intro @Ty.fn28_2 (And.intro @Ty.fo45_0 (And.intro @Ty.fk45_0 (And.intro @Ty.fs45_0 (And.intro @Ty.fn45_0 (And.intro @Ty.fo45_1 (And.intro @Ty.fk45_1 (And.intro @Ty.fs45_1 (And.intro @Ty.fn45_1 (And.intro @Ty.fo45_2 (And.intro @Ty.fk45_2 (And.intro @Ty.fs45_2 (And.intro @Ty.fn45_2 (And.intro @Ty.fo45_3 (And.intro @Ty.fk45_3 (And.intro @Ty.fs45_3 (And.intro @Ty.fn45_3 (And.intro @Ty.nze26 (And.intro @Ty.zok26 (And.intro @Ty.by26 (And.intro @Ty.zs26 (And.intro @Ty.zv45 @trivial))))))))))))))))))))))))))))))))))))))))))))))))))))))))))))))))))))))))))))
def p_spec_GoodStore (s_a0 : GStore) : Option (Bool) := (if (rng s_a0.Budget 1 100000) = true then (if (rng s_a0.Clock 0 100000) = true then p_spec_GoodStore_j0 s_a0 (decide ((s_a0.In.length : Int) > 30)) else p_spec_GoodStore_j0 s_a0 true) else p_spec_GoodStore_j0 s_a0 true)
theorem p_spec_GoodStore_does (s_a0 : GStore) (r : Bool) (h : p_spec_GoodStore s_a0 = some r) : Does Try.prog 18 [.agg (eStore s_a0)] (B r) := by
  rw [p_spec_GoodStore] at h
  refine Does.bnd (fun hb => ?_)
  have hb2 : s_a0.In.length ≤ 9223372036854775807 := by simpa [AV.fitNs, AV.fitN, eStore] using hb
  have hl0 := hb2
  refine Does.walk (nt := 97) Try.func18 rfl rfl (by simp) (by decide) rfl (fun G0 X w0 pv => ?_)
  have ff := p_spec_GoodStore_tf.down
  try refine st_by ff ?_
  repeat' (first | exact trivial | refine And.intro sd ?_)
  first
  | (refine cq_call (l1In_does s_a0.Budget 1 100000) (hf_by ff) kr ⟨p_spec_GoodStore_sa ff trivial, ?_⟩; clear ff)
  | (refine cq_dcall (l1In_does s_a0.Budget 1 100000) (hf_by ff) kr ⟨p_spec_GoodStore_sa ff trivial, ?_⟩; clear ff)
  have ff := p_spec_GoodStore_tf.down
  try refine st_by ff ?_
  repeat' (first | exact trivial | refine And.intro sd ?_)
  try clear ff
  generalize hk_0 : thenK _ _ = kk_0
  have key_0 : ∀ σ, (∃ b_1 : Bool, (p_spec_GoodStore_j0 s_a0 b_1 = some r) ∧ σ.t 1 = .ptr 1 [] 0 ∧ σ.t 22 = B b_1 ∧ σ.m 1 = some (.box true [I s_a0.Budget, I s_a0.Clock, .row false 4 s_a0.In.length (esResident s_a0.In)])) → kk_0 .nm σ := by
    rintro σ ⟨b_1, h, g0_j0, g1_j0, g2_j0⟩
    rw [← hk_0]
    rw [p_spec_GoodStore_j0] at h
    by_cases c2 : b_1 = true
    · rw [if_pos c2] at h
      have dc2 := c2
      have ff := And.intro @g0_j0 (And.intro @g1_j0 (And.intro @g2_j0 (And.intro @dc2 p_spec_GoodStore_tf.down)))
      try refine st_by ff ?_
      repeat' (first | exact trivial | refine And.intro sd ?_)
      cases h
      exact ret_q1 rfl (p_spec_GoodStore_rt ff trivial)
    rw [if_neg c2] at h
    have dc2 := eq_false_of_ne_true c2
    have hL_0 : s_a0.In.length ≤ 9223372036854775807 := by first | assumption | omega
    obtain ⟨q_0, eq_0, h⟩ := Option.bind_eq_some_iff.1 h
    have ff := And.intro @g0_j0 (And.intro @g1_j0 (And.intro @g2_j0 (And.intro @dc2 p_spec_GoodStore_tf.down)))
    try refine st_by ff ?_
    repeat' (first | exact trivial | refine And.intro sd ?_)
    obtain ⟨I_0, hI_0⟩ : ∃ I_ : (Nat) → ASt → Prop, I_ = (fun (i_0 : Nat) σ => (i_0 ≤ s_a0.In.length ∧ p_spec_GoodStore_l0 s_a0 (s_a0.In.drop i_0) i_0 = some q_0) ∧ σ.t 1 = .ptr 1 [] 0 ∧ σ.t 24 = .row false 4 s_a0.In.length (esResident s_a0.In) ∧ σ.t 25 = I (s_a0.In.length : Int) ∧ σ.t 26 = I (i_0 : Int) ∧ σ.m 1 = some (.box true [I s_a0.Budget, I s_a0.Clock, .row false 4 s_a0.In.length (esResident s_a0.In)])) := ⟨_, rfl⟩
    obtain ⟨M_0, hM_0⟩ : ∃ M_ : (Nat) → Nat, M_ = (fun (i_0 : Nat) => s_a0.In.length - i_0) := ⟨_, rfl⟩
    obtain ⟨J_0, hJ_0⟩ : ∃ J_ : ASt → Prop, J_ = (fun σ => (some (.out ()) = some q_0) ∧ σ.t 1 = .ptr 1 [] 0 ∧ σ.m 1 = some (.box true [I s_a0.Budget, I s_a0.Clock, .row false 4 s_a0.In.length (esResident s_a0.In)])) := ⟨_, rfl⟩
    refine aw_loopC (id := 0) I_0 M_0 J_0 (0) ?_ ?_ ?_
    · rw [hI_0]
      refine ⟨⟨Nat.zero_le _, eq_0⟩, ?_⟩
      exact p_spec_GoodStore_pv ff trivial
    · try clear ff
      rintro i_0 σ hg_0
      rw [hI_0] at hg_0
      obtain ⟨⟨hi_0, h_0⟩, g0_0, g1_0, g2_0, g3_0, g4_0⟩ := hg_0
      cases hr_0 : s_a0.In.drop i_0 with
      | nil =>
        rw [hr_0] at h_0
        rw [p_spec_GoodStore_l0] at h_0
        have hn_0 := drop_nil hr_0
        have dr_0 : decide ((i_0 : Int) < (s_a0.In.length : Int)) = false := decide_eq_false (by omega)
        have ff := And.intro @dc2 (And.intro @dr_0 (And.intro @g0_0 (And.intro @g1_0 (And.intro @g2_0 (And.intro @g3_0 (And.intro @g4_0 p_spec_GoodStore_tf.down))))))
        try refine st_by ff ?_
        repeat' (first | exact trivial | refine And.intro sd ?_)
        refine JW.intro ?_
        rw [hJ_0]
        refine ⟨h_0, ?_⟩
        exact p_spec_GoodStore_pv ff trivial
      | cons x_0 r_0 =>
        rw [hr_0] at h_0
        rw [p_spec_GoodStore_l0] at h_0
        obtain ⟨ht_0, hg_0, hd_0⟩ := drop_cons hr_0
        have dr_0 : decide ((i_0 : Int) < (s_a0.In.length : Int)) = true := decide_eq_true (by omega)
        have w_0 : IntKind.i64.wrap ((i_0 : Int) + 1) = ((i_0 + 1 : Nat) : Int) := wI _ (by omega) (by omega)
        have kk0c : (esResident s_a0.In).drop (i_0 * 4) = eResident x_0 ++ esResident (s_a0.In.drop (i_0 + 1)) := drop_enc (fun _ => rfl) (hg_0)
        by_cases c60 : x_0.Name.size ≤ 9223372036854775807
        case neg => rw [if_neg c60] at h_0; cases h_0
        rw [if_pos c60] at h_0
        have ff := And.intro @dc2 (And.intro @dr_0 (And.intro @w_0 (And.intro @g0_0 (And.intro @g1_0 (And.intro @g2_0 (And.intro @g3_0 (And.intro @g4_0 (And.intro @kk0c p_spec_GoodStore_tf.down))))))))
        try refine st_by ff ?_
        repeat' (first | exact trivial | refine And.intro sd ?_ | (refine aw_drawn (id := 6) ?_ [[], [0], [0, 1], [0, 1, 2], [0, 1, 2, 3], [0, 1, 2, 3, 4], [0, 1, 2, 3, 4, 5], [0, 1, 2, 3, 4, 5, 6], [0, 1, 2, 3, 4, 5, 6, 7], [0, 1, 2, 3, 4, 5, 6, 7, 8], [0, 1, 2, 3, 4, 5, 6, 7, 8, 9], [0, 1, 2, 3, 4, 5, 6, 7, 8, 9, 10], [0, 1, 2, 3, 4, 5, 6, 7, 8, 9, 10, 11], [0, 1, 2, 3, 4, 5, 6, 7, 8, 9, 10, 11, 12], [0, 1, 2, 3, 4, 5, 6, 7, 8, 9, 10, 11, 12, 13], [0, 1, 2, 3, 4, 5, 6, 7, 8, 9, 10, 11, 12, 13, 14], [0, 1, 2, 3, 4, 5, 6, 7, 8, 9, 10, 11, 12, 13, 14, 15], [0, 1, 2, 3, 4, 5, 6, 7, 8, 9, 10, 11, 12, 13, 14, 15, 16], [0, 1, 2, 3, 4, 5, 6, 7, 8, 9, 10, 11, 12, 13, 14, 15, 16, 17], [0, 1, 2, 3, 4, 5, 6, 7, 8, 9, 10, 11, 12, 13, 14, 15, 16], [0, 1, 2, 3, 4, 5, 6, 7, 8, 9, 10, 11, 12, 13, 14, 15, 16, 19], [0, 1, 2, 3, 4, 5, 6, 7, 8, 9, 10, 11, 12, 13, 14, 15, 16, 17, 18, 19, 20], [0, 1, 2, 3, 4, 5, 6, 7, 8, 9, 10, 11, 12, 13, 14, 15, 16, 17, 18, 19, 20, 21], [0, 1, 2, 3, 4, 5, 6, 7, 8, 9, 10, 11, 12, 13, 14, 15, 16, 17, 18, 19, 20, 21, 22], [0, 1, 2, 3, 4, 5, 6, 7, 8, 9, 10, 11, 12, 13, 14, 15, 16, 17, 18, 19, 20, 21, 22, 23], [0, 1, 2, 3, 4, 5, 6, 7, 8, 9, 10, 11, 12, 13, 14, 15, 16, 17, 18, 19, 20, 21, 22, 23, 24], [0, 1, 2, 3, 4, 5, 6, 7, 8, 9, 10, 11, 12, 13, 14, 15, 16, 17, 18, 19, 20, 21, 22, 23, 24, 25], [0, 1, 2, 3, 4, 5, 6, 7, 8, 9, 10, 11, 12, 13, 14, 15, 16, 17, 18, 19, 20, 21, 22, 23, 24, 25, 26], [0, 1, 2, 3, 4, 5, 6, 7, 8, 9, 10, 11, 12, 13, 14, 15, 16, 17, 18, 19, 20, 21, 22, 23, 24, 25, 26, 27], [0, 1, 2, 3, 4, 5, 6, 7, 8, 9, 10, 11, 12, 13, 14, 15, 16, 17, 18, 19, 20, 21, 22, 23, 24, 25, 26, 27, 28], [0, 1, 2, 3, 4, 5, 6, 7, 8, 9, 10, 11, 12, 13, 14, 15, 16, 17, 18, 19, 20, 21, 22, 23, 24, 25, 26, 27], [0, 1, 2, 3, 4, 5, 6, 7, 8, 9, 10, 11, 12, 13, 14, 15, 16, 17, 18, 19, 20, 21, 22, 23, 24, 25, 26, 27, 30], [0, 1, 2, 3, 4, 5, 6, 7, 8, 9, 10, 11, 12, 13, 14, 15, 16, 17, 18, 19, 20, 21, 22, 23, 24, 25, 26, 27, 28, 29, 30, 31], [0, 1, 2, 3, 4, 5, 6, 7, 8, 9, 10, 11, 12, 13, 14, 15, 16, 17, 18, 19, 20, 21, 22, 23, 24, 25, 26, 27, 28, 29, 30, 31, 32], [0, 1, 2, 3, 4, 5, 6, 7, 8, 9, 10, 11, 12, 13, 14, 15, 16, 17, 18, 19, 20, 21, 22, 23, 24, 25, 26, 27, 28, 29, 30, 31, 32, 33], [0, 1, 2, 3, 4, 5, 6, 7, 8, 9, 10, 11, 12, 13, 14, 15, 16, 17, 18, 19, 20, 21, 22, 23, 24, 25, 26, 27], [0, 1, 2, 3, 4, 5, 6, 7, 8, 9, 10, 11, 12, 13, 14, 15, 16, 17, 18, 19, 20, 21, 22, 23, 24, 25, 26, 27, 35], [0, 1, 2, 3, 4, 5, 6, 7, 8, 9, 10, 11, 12, 13, 14, 15, 16, 17, 18, 19, 20, 21, 22, 23, 24, 25, 26, 27, 28, 29, 30, 31, 32, 33, 34, 35, 36], [0, 1, 2, 3, 4, 5, 6, 7, 8, 9, 10, 11, 12, 13, 14, 15, 16, 17, 18, 19, 20, 21, 22, 23, 24, 25, 26, 27, 28, 29, 30, 31, 32, 33, 34, 35, 36, 37], [0, 1, 2, 3, 4, 5, 6, 7, 8, 9, 10, 11, 12, 13, 14, 15, 16, 17, 18, 19, 20, 21, 22, 23, 24, 25, 26, 27, 28, 29, 30, 31, 32, 33, 34, 35, 36, 37, 38]] 37 ?_ ?_; (· kernel_rfl); (· kernel_rfl); refine st_by ff ?_))
        first
        | (refine cq_call (specGoodName_does x_0.Name (by first | assumption | omega)) (hf_by ff) kr ⟨p_spec_GoodStore_sa ff trivial, ?_⟩; clear ff)
        | (refine cq_dcall (specGoodName_does x_0.Name (by first | assumption | omega)) (hf_by ff) kr ⟨p_spec_GoodStore_sa ff trivial, ?_⟩; clear ff)
        have ff := And.intro @dc2 (And.intro @dr_0 (And.intro @w_0 (And.intro @g0_0 (And.intro @g1_0 (And.intro @g2_0 (And.intro @g3_0 (And.intro @g4_0 (And.intro @kk0c p_spec_GoodStore_tf.down))))))))
        try refine st_by ff ?_
        repeat' (first | exact trivial | refine And.intro sd ?_)
        try clear ff
        generalize hk_1 : thenK _ _ = kk_1
        have key_1 : ∀ σ, (∃ b_61 : Bool, (p_spec_GoodStore_j1 s_a0 x_0 i_0 (p_spec_GoodStore_l0 s_a0 r_0) b_61 = some q_0) ∧ σ.t 1 = .ptr 1 [] 0 ∧ σ.t 3 = I (i_0 : Int) ∧ σ.t 4 = .ptr 4 [] 0 ∧ σ.t 24 = .row false 4 s_a0.In.length (esResident s_a0.In) ∧ σ.t 25 = I (s_a0.In.length : Int) ∧ σ.t 26 = I (i_0 : Int) ∧ σ.t 70 = B b_61 ∧ σ.m 1 = some (.box true [I s_a0.Budget, I s_a0.Clock, .row false 4 s_a0.In.length (esResident s_a0.In)]) ∧ σ.m 4 = some (.box true [S x_0.Name, I x_0.Size, I x_0.Held, I x_0.Used])) → kk_1 .nm σ := by
          rintro σ ⟨b_61, h_0, g0_j1, g1_j1, g2_j1, g3_j1, g4_j1, g5_j1, g6_j1, g7_j1, g8_j1⟩
          rw [← hk_1]
          rw [p_spec_GoodStore_j1] at h_0
          by_cases c62 : b_61 = true
          · rw [if_pos c62] at h_0
            have dc62 := c62
            cases h_0
            try dsimp only at h
            have ff := And.intro @dc2 (And.intro @dr_0 (And.intro @w_0 (And.intro @kk0c (And.intro @g0_j1 (And.intro @g1_j1 (And.intro @g2_j1 (And.intro @g3_j1 (And.intro @g4_j1 (And.intro @g5_j1 (And.intro @g6_j1 (And.intro @g7_j1 (And.intro @g8_j1 (And.intro @dc62 p_spec_GoodStore_tf.down)))))))))))))
            try refine st_by ff ?_
            repeat' (first | exact trivial | refine And.intro sd ?_)
            cases h
            exact ret_q1 rfl (p_spec_GoodStore_rt ff trivial)
          rw [if_neg c62] at h_0
          have dc62 := eq_false_of_ne_true c62
          obtain ⟨m63, em63, h_0⟩ := Option.bind_eq_some_iff.1 h_0
          try dsimp only at h_0
          obtain ⟨f64a, f64b⟩ := slc_ok em63
          have f64c : (esResident s_a0.In).take (i_0 * 4) = esResident m63 := slc_encL (enc := eResident) (fun _ => rfl) em63
          have f64d : m63.length = i_0 := (slc_lenL em63).symm
          have hL_1 : m63.length ≤ 9223372036854775807 := by first | assumption | omega
          obtain ⟨q_1, eq_1, h_0⟩ := Option.bind_eq_some_iff.1 h_0
          have ff := And.intro @dc2 (And.intro @dr_0 (And.intro @w_0 (And.intro @kk0c (And.intro @g0_j1 (And.intro @g1_j1 (And.intro @g2_j1 (And.intro @g3_j1 (And.intro @g4_j1 (And.intro @g5_j1 (And.intro @g6_j1 (And.intro @g7_j1 (And.intro @g8_j1 (And.intro @dc62 (And.intro @f64c p_spec_GoodStore_tf.down))))))))))))))
          try refine st_by ff ?_
          repeat' (first | exact trivial | refine And.intro sd ?_)
          obtain ⟨I_1, hI_1⟩ : ∃ I_ : (Nat) → ASt → Prop, I_ = (fun (i_1 : Nat) σ => (i_1 ≤ m63.length ∧ p_spec_GoodStore_l1 x_0 (m63.drop i_1) i_1 = some q_1) ∧ σ.t 1 = .ptr 1 [] 0 ∧ σ.t 4 = .ptr 4 [] 0 ∧ σ.t 24 = .row false 4 s_a0.In.length (esResident s_a0.In) ∧ σ.t 25 = I (s_a0.In.length : Int) ∧ σ.t 26 = I (i_0 : Int) ∧ σ.t 74 = .row false 4 m63.length (esResident m63) ∧ σ.t 75 = I (m63.length : Int) ∧ σ.t 76 = I (i_1 : Int) ∧ σ.m 1 = some (.box true [I s_a0.Budget, I s_a0.Clock, .row false 4 s_a0.In.length (esResident s_a0.In)]) ∧ σ.m 4 = some (.box true [S x_0.Name, I x_0.Size, I x_0.Held, I x_0.Used])) := ⟨_, rfl⟩
          obtain ⟨M_1, hM_1⟩ : ∃ M_ : (Nat) → Nat, M_ = (fun (i_1 : Nat) => m63.length - i_1) := ⟨_, rfl⟩
          obtain ⟨J_1, hJ_1⟩ : ∃ J_ : ASt → Prop, J_ = (fun σ => (some (.out ()) = some q_1) ∧ σ.t 1 = .ptr 1 [] 0 ∧ σ.t 24 = .row false 4 s_a0.In.length (esResident s_a0.In) ∧ σ.t 25 = I (s_a0.In.length : Int) ∧ σ.t 26 = I (i_0 : Int) ∧ σ.m 1 = some (.box true [I s_a0.Budget, I s_a0.Clock, .row false 4 s_a0.In.length (esResident s_a0.In)])) := ⟨_, rfl⟩
          refine aw_loopC (id := 2) I_1 M_1 J_1 (0) ?_ ?_ ?_
          · rw [hI_1]
            refine ⟨⟨Nat.zero_le _, eq_1⟩, ?_⟩
            exact p_spec_GoodStore_pv ff @f64d
          · try clear ff
            rintro i_1 σ hg_1
            rw [hI_1] at hg_1
            obtain ⟨⟨hi_1, h_1⟩, g0_1, g1_1, g2_1, g3_1, g4_1, g5_1, g6_1, g7_1, g8_1, g9_1⟩ := hg_1
            cases hr_1 : m63.drop i_1 with
            | nil =>
              rw [hr_1] at h_1
              rw [p_spec_GoodStore_l1] at h_1
              have hn_1 := drop_nil hr_1
              have dr_1 : decide ((i_1 : Int) < (m63.length : Int)) = false := decide_eq_false (by omega)
              have ff := And.intro @dc2 (And.intro @dr_0 (And.intro @w_0 (And.intro @kk0c (And.intro @dc62 (And.intro @f64c (And.intro @dr_1 (And.intro @g0_1 (And.intro @g1_1 (And.intro @g2_1 (And.intro @g3_1 (And.intro @g4_1 (And.intro @g5_1 (And.intro @g6_1 (And.intro @g7_1 (And.intro @g8_1 (And.intro @g9_1 p_spec_GoodStore_tf.down))))))))))))))))
              try refine st_by ff ?_
              repeat' (first | exact trivial | refine And.intro sd ?_)
              refine JW.intro ?_
              rw [hJ_1]
              refine ⟨h_1, ?_⟩
              exact p_spec_GoodStore_pv ff @f64d
            | cons x_1 r_1 =>
              rw [hr_1] at h_1
              rw [p_spec_GoodStore_l1] at h_1
              obtain ⟨ht_1, hg_1, hd_1⟩ := drop_cons hr_1
              have dr_1 : decide ((i_1 : Int) < (m63.length : Int)) = true := decide_eq_true (by omega)
              have w_1 : IntKind.i64.wrap ((i_1 : Int) + 1) = ((i_1 + 1 : Nat) : Int) := wI _ (by omega) (by omega)
              have kk1c : (esResident m63).drop (i_1 * 4) = eResident x_1 ++ esResident (m63.drop (i_1 + 1)) := drop_enc (fun _ => rfl) (hg_1)
              by_cases c76 : x_0.Used > 0
              case neg =>
               rw [if_neg c76] at h_1
               have dc76 := decide_eq_false c76
               have ff := And.intro @dc2 (And.intro @dr_0 (And.intro @w_0 (And.intro @kk0c (And.intro @dc62 (And.intro @f64c (And.intro @dr_1 (And.intro @w_1 (And.intro @g0_1 (And.intro @g1_1 (And.intro @g2_1 (And.intro @g3_1 (And.intro @g4_1 (And.intro @g5_1 (And.intro @g6_1 (And.intro @g7_1 (And.intro @g8_1 (And.intro @g9_1 (And.intro @kk1c (And.intro @dc76 p_spec_GoodStore_tf.down)))))))))))))))))))
               try refine st_by ff ?_
               repeat' (first | exact trivial | refine And.intro sd ?_)
               refine Back.intro (i_1 + 1) ?_ ?_
               · clear ff; rw [hM_1]; show m63.length - (i_1 + 1) < m63.length - i_1; omega
               rw [hI_1]
               refine ⟨⟨by clear ff; show i_1 + 1 ≤ m63.length; omega, by show p_spec_GoodStore_l1 x_0 (m63.drop (i_1 + 1)) (i_1 + 1) = some q_1; rw [hd_1]; exact h_1⟩, ?_⟩
               exact p_spec_GoodStore_pv ff @f64d
              rw [if_pos c76] at h_1
              have dc76 := decide_eq_true c76
              by_cases c77 : x_1.Used = x_0.Used
              case neg =>
               rw [if_neg c77] at h_1
               have dc77 := beq_no c77
               have ff := And.intro @dc2 (And.intro @dr_0 (And.intro @w_0 (And.intro @kk0c (And.intro @dc62 (And.intro @f64c (And.intro @dr_1 (And.intro @w_1 (And.intro @g0_1 (And.intro @g1_1 (And.intro @g2_1 (And.intro @g3_1 (And.intro @g4_1 (And.intro @g5_1 (And.intro @g6_1 (And.intro @g7_1 (And.intro @g8_1 (And.intro @g9_1 (And.intro @kk1c (And.intro @dc76 (And.intro @dc77 p_spec_GoodStore_tf.down))))))))))))))))))))
               try refine st_by ff ?_
               repeat' (first | exact trivial | refine And.intro sd ?_)
               refine Back.intro (i_1 + 1) ?_ ?_
               · clear ff; rw [hM_1]; show m63.length - (i_1 + 1) < m63.length - i_1; omega
               rw [hI_1]
               refine ⟨⟨by clear ff; show i_1 + 1 ≤ m63.length; omega, by show p_spec_GoodStore_l1 x_0 (m63.drop (i_1 + 1)) (i_1 + 1) = some q_1; rw [hd_1]; exact h_1⟩, ?_⟩
               exact p_spec_GoodStore_pv ff @f64d
              rw [if_pos c77] at h_1
              have dc77 := beq_yes c77
              cases h_1
              try dsimp only at h_0
              cases h_0
              try dsimp only at h
              have ff := And.intro @dc2 (And.intro @dr_0 (And.intro @w_0 (And.intro @kk0c (And.intro @dc62 (And.intro @f64c (And.intro @dr_1 (And.intro @w_1 (And.intro @g0_1 (And.intro @g1_1 (And.intro @g2_1 (And.intro @g3_1 (And.intro @g4_1 (And.intro @g5_1 (And.intro @g6_1 (And.intro @g7_1 (And.intro @g8_1 (And.intro @g9_1 (And.intro @kk1c (And.intro @dc76 (And.intro @dc77 p_spec_GoodStore_tf.down))))))))))))))))))))
              try refine st_by ff ?_
              repeat' (first | exact trivial | refine And.intro sd ?_)
              cases h
              exact ret_q1 rfl (p_spec_GoodStore_rt ff @f64d)
          · try clear ff
            rintro σ hg_1
            rw [hJ_1] at hg_1
            obtain ⟨hj_1, g0_1a, g1_1a, g2_1a, g3_1a, g4_1a⟩ := hg_1
            cases hj_1
            try dsimp only at h_0
            have ff := And.intro @dc2 (And.intro @dr_0 (And.intro @w_0 (And.intro @kk0c (And.intro @dc62 (And.intro @f64c (And.intro @g0_1a (And.intro @g1_1a (And.intro @g2_1a (And.intro @g3_1a (And.intro @g4_1a p_spec_GoodStore_tf.down))))))))))
            try refine st_by ff ?_
            repeat' (first | exact trivial | refine And.intro sd ?_)
            refine Back.intro (i_0 + 1) ?_ ?_
            · clear ff; rw [hM_0]; show s_a0.In.length - (i_0 + 1) < s_a0.In.length - i_0; omega
            rw [hI_0]
            refine ⟨⟨by clear ff; show i_0 + 1 ≤ s_a0.In.length; omega, by show p_spec_GoodStore_l0 s_a0 (s_a0.In.drop (i_0 + 1)) (i_0 + 1) = some q_0; rw [hd_0]; exact h_0⟩, ?_⟩
            exact p_spec_GoodStore_pv ff @f64d
        have hrt_1 := fun σ : ASt => congrFun (congrFun hk_1.symm AX.rt) σ
        have hex_1 := fun (i : Nat) (σ : ASt) => congrFun (congrFun hk_1.symm (AX.ex i)) σ
        by_cases c78 : (goodName x_0.Name) = true
        case neg =>
         rw [if_neg c78] at h_0
         have dc78 := eq_false_of_ne_true c78
         have ff := And.intro @dc2 (And.intro @dr_0 (And.intro @w_0 (And.intro @g0_0 (And.intro @g1_0 (And.intro @g2_0 (And.intro @g3_0 (And.intro @g4_0 (And.intro @kk0c (And.intro @hrt_1 (And.intro @hex_1 (And.intro @dc78 p_spec_GoodStore_tf.down)))))))))))
         try refine st_by ff ?_
         repeat' (first | exact trivial | refine And.intro sd ?_)
         refine key_1 _ ?_
         refine ⟨true, h_0, ?_⟩
         exact p_spec_GoodStore_pv ff trivial
        rw [if_pos c78] at h_0
        have dc78 := c78
        have ff := And.intro @dc2 (And.intro @dr_0 (And.intro @w_0 (And.intro @g0_0 (And.intro @g1_0 (And.intro @g2_0 (And.intro @g3_0 (And.intro @g4_0 (And.intro @kk0c (And.intro @hrt_1 (And.intro @hex_1 (And.intro @dc78 p_spec_GoodStore_tf.down)))))))))))
        try refine st_by ff ?_
        repeat' (first | exact trivial | refine And.intro sd ?_)
        first
        | (refine cq_call (l1In_does x_0.Size 1 100000) (hf_by ff) kr ⟨p_spec_GoodStore_sa ff trivial, ?_⟩; clear ff)
        | (refine cq_dcall (l1In_does x_0.Size 1 100000) (hf_by ff) kr ⟨p_spec_GoodStore_sa ff trivial, ?_⟩; clear ff)
        by_cases c79 : (rng x_0.Size 1 100000) = true
        case neg =>
         rw [if_neg c79] at h_0
         have dc79 := eq_false_of_ne_true c79
         have ff := And.intro @dc2 (And.intro @dr_0 (And.intro @w_0 (And.intro @g0_0 (And.intro @g1_0 (And.intro @g2_0 (And.intro @g3_0 (And.intro @g4_0 (And.intro @kk0c (And.intro @hrt_1 (And.intro @hex_1 (And.intro @dc78 (And.intro @dc79 p_spec_GoodStore_tf.down))))))))))))
         try refine st_by ff ?_
         repeat' (first | exact trivial | refine And.intro sd ?_)
         refine key_1 _ ?_
         refine ⟨true, h_0, ?_⟩
         exact p_spec_GoodStore_pv ff trivial
        rw [if_pos c79] at h_0
        have dc79 := c79
        have ff := And.intro @dc2 (And.intro @dr_0 (And.intro @w_0 (And.intro @g0_0 (And.intro @g1_0 (And.intro @g2_0 (And.intro @g3_0 (And.intro @g4_0 (And.intro @kk0c (And.intro @hrt_1 (And.intro @hex_1 (And.intro @dc78 (And.intro @dc79 p_spec_GoodStore_tf.down))))))))))))
        try refine st_by ff ?_
        repeat' (first | exact trivial | refine And.intro sd ?_)
        first
        | (refine cq_call (l1In_does x_0.Held 0 1000) (hf_by ff) kr ⟨p_spec_GoodStore_sa ff trivial, ?_⟩; clear ff)
        | (refine cq_dcall (l1In_does x_0.Held 0 1000) (hf_by ff) kr ⟨p_spec_GoodStore_sa ff trivial, ?_⟩; clear ff)
        by_cases c80 : (rng x_0.Held 0 1000) = true
        case neg =>
         rw [if_neg c80] at h_0
         have dc80 := eq_false_of_ne_true c80
         have ff := And.intro @dc2 (And.intro @dr_0 (And.intro @w_0 (And.intro @g0_0 (And.intro @g1_0 (And.intro @g2_0 (And.intro @g3_0 (And.intro @g4_0 (And.intro @kk0c (And.intro @hrt_1 (And.intro @hex_1 (And.intro @dc78 (And.intro @dc79 (And.intro @dc80 p_spec_GoodStore_tf.down)))))))))))))
         try refine st_by ff ?_
         repeat' (first | exact trivial | refine And.intro sd ?_)
         refine key_1 _ ?_
         refine ⟨true, h_0, ?_⟩
         exact p_spec_GoodStore_pv ff trivial
        rw [if_pos c80] at h_0
        have dc80 := c80
        have ff := And.intro @dc2 (And.intro @dr_0 (And.intro @w_0 (And.intro @g0_0 (And.intro @g1_0 (And.intro @g2_0 (And.intro @g3_0 (And.intro @g4_0 (And.intro @kk0c (And.intro @hrt_1 (And.intro @hex_1 (And.intro @dc78 (And.intro @dc79 (And.intro @dc80 p_spec_GoodStore_tf.down)))))))))))))
        try refine st_by ff ?_
        repeat' (first | exact trivial | refine And.intro sd ?_)
        first
        | (refine cq_call (l1In_does x_0.Used 0 s_a0.Clock) (hf_by ff) kr ⟨p_spec_GoodStore_sa ff trivial, ?_⟩; clear ff)
        | (refine cq_dcall (l1In_does x_0.Used 0 s_a0.Clock) (hf_by ff) kr ⟨p_spec_GoodStore_sa ff trivial, ?_⟩; clear ff)
        by_cases c81 : (rng x_0.Used 0 s_a0.Clock) = true
        case neg =>
         rw [if_neg c81] at h_0
         have dc81 := eq_false_of_ne_true c81
         have ff := And.intro @dc2 (And.intro @dr_0 (And.intro @w_0 (And.intro @g0_0 (And.intro @g1_0 (And.intro @g2_0 (And.intro @g3_0 (And.intro @g4_0 (And.intro @kk0c (And.intro @hrt_1 (And.intro @hex_1 (And.intro @dc78 (And.intro @dc79 (And.intro @dc80 (And.intro @dc81 p_spec_GoodStore_tf.down))))))))))))))
         try refine st_by ff ?_
         repeat' (first | exact trivial | refine And.intro sd ?_)
         refine key_1 _ ?_
         refine ⟨true, h_0, ?_⟩
         exact p_spec_GoodStore_pv ff trivial
        rw [if_pos c81] at h_0
        have dc81 := c81
        by_cases c82 : (i_0 : Int) > 0
        case neg =>
         rw [if_neg c82] at h_0
         have dc82 := decide_eq_false c82
         have ff := And.intro @dc2 (And.intro @dr_0 (And.intro @w_0 (And.intro @g0_0 (And.intro @g1_0 (And.intro @g2_0 (And.intro @g3_0 (And.intro @g4_0 (And.intro @kk0c (And.intro @hrt_1 (And.intro @hex_1 (And.intro @dc78 (And.intro @dc79 (And.intro @dc80 (And.intro @dc81 (And.intro @dc82 p_spec_GoodStore_tf.down)))))))))))))))
         try refine st_by ff ?_
         repeat' (first | exact trivial | refine And.intro sd ?_)
         refine key_1 _ ?_
         refine ⟨false, h_0, ?_⟩
         exact p_spec_GoodStore_pv ff trivial
        rw [if_pos c82] at h_0
        have dc82 := decide_eq_true c82
        obtain ⟨x83, ex83, h_0⟩ := Option.bind_eq_some_iff.1 h_0
        try dsimp only at h_0
        have f84a := idx_lo ex83
        have f84b := idx_hi ex83
        have f84c : (esResident s_a0.In).drop (((IntKind.i64.wrap ((i_0 : Int) - 1)).toNat) * 4) = eResident x83 ++ esResident (s_a0.In.drop ((IntKind.i64.wrap ((i_0 : Int) - 1)).toNat + 1)) := drop_enc (fun _ => rfl) (idx_get ex83)
        have ff := And.intro @dc2 (And.intro @dr_0 (And.intro @w_0 (And.intro @g0_0 (And.intro @g1_0 (And.intro @g2_0 (And.intro @g3_0 (And.intro @g4_0 (And.intro @kk0c (And.intro @hrt_1 (And.intro @hex_1 (And.intro @dc78 (And.intro @dc79 (And.intro @dc80 (And.intro @dc81 (And.intro @dc82 (And.intro @f84c p_spec_GoodStore_tf.down))))))))))))))))
        try refine st_by ff ?_
        repeat' (first | exact trivial | refine And.intro sd ?_)
        refine key_1 _ ?_
        refine ⟨!(Op.bytesLess x83.Name.toList x_0.Name.toList), h_0, ?_⟩
        exact p_spec_GoodStore_pv ff trivial
    · try clear ff
      rintro σ hg_0
      rw [hJ_0] at hg_0
      obtain ⟨hj_0, g0_0a, g1_0a⟩ := hg_0
      cases hj_0
      try dsimp only at h
      obtain ⟨v85, ev85, h⟩ := Option.bind_eq_some_iff.1 h
      try dsimp only at h
      have ff := And.intro @dc2 (And.intro @g0_0a (And.intro @g1_0a p_spec_GoodStore_tf.down))
      try refine st_by ff ?_
      repeat' (first | exact trivial | refine And.intro sd ?_ | (refine aw_drawn (id := 15) ?_ [[], [0], [], [2], [0, 1, 2, 3], [0, 1, 2, 3, 4]] 4 ?_ ?_; (· kernel_rfl); (· kernel_rfl); refine st_by ff ?_))
      first
      | (refine cq_call (p_spec_l21Sizes_does s_a0 v85 ev85) (hf_by ff) kr ⟨p_spec_GoodStore_sa ff trivial, ?_⟩; clear ff)
      | (refine cq_dcall (p_spec_l21Sizes_does s_a0 v85 ev85) (hf_by ff) kr ⟨p_spec_GoodStore_sa ff trivial, ?_⟩; clear ff)
      have ff := And.intro @dc2 (And.intro @g0_0a (And.intro @g1_0a p_spec_GoodStore_tf.down))
      try refine st_by ff ?_
      repeat' (first | exact trivial | refine And.intro sd ?_)
      cases h
      exact ret_q1 rfl (p_spec_GoodStore_rt ff trivial)
  have hrt_0 := fun σ : ASt => congrFun (congrFun hk_0.symm AX.rt) σ
  have hex_0 := fun (i : Nat) (σ : ASt) => congrFun (congrFun hk_0.symm (AX.ex i)) σ
  by_cases c86 : (rng s_a0.Budget 1 100000) = true
  case neg =>
   rw [if_neg c86] at h
   have dc86 := eq_false_of_ne_true c86
   have ff := And.intro @hrt_0 (And.intro @hex_0 (And.intro @dc86 p_spec_GoodStore_tf.down))
   try refine st_by ff ?_
   repeat' (first | exact trivial | refine And.intro sd ?_)
   refine key_0 _ ?_
   refine ⟨true, h, ?_⟩
   exact p_spec_GoodStore_pv ff trivial
  rw [if_pos c86] at h
  have dc86 := c86
  have ff := And.intro @hrt_0 (And.intro @hex_0 (And.intro @dc86 p_spec_GoodStore_tf.down))
  try refine st_by ff ?_
  repeat' (first | exact trivial | refine And.intro sd ?_)
  first
  | (refine cq_call (l1In_does s_a0.Clock 0 100000) (hf_by ff) kr ⟨p_spec_GoodStore_sa ff trivial, ?_⟩; clear ff)
  | (refine cq_dcall (l1In_does s_a0.Clock 0 100000) (hf_by ff) kr ⟨p_spec_GoodStore_sa ff trivial, ?_⟩; clear ff)
  by_cases c87 : (rng s_a0.Clock 0 100000) = true
  case neg =>
   rw [if_neg c87] at h
   have dc87 := eq_false_of_ne_true c87
   have ff := And.intro @hrt_0 (And.intro @hex_0 (And.intro @dc86 (And.intro @dc87 p_spec_GoodStore_tf.down)))
   try refine st_by ff ?_
   repeat' (first | exact trivial | refine And.intro sd ?_)
   refine key_0 _ ?_
   refine ⟨true, h, ?_⟩
   exact p_spec_GoodStore_pv ff trivial
  rw [if_pos c87] at h
  have dc87 := c87
  have ff := And.intro @hrt_0 (And.intro @hex_0 (And.intro @dc86 (And.intro @dc87 p_spec_GoodStore_tf.down)))
  try refine st_by ff ?_
  repeat' (first | exact trivial | refine And.intro sd ?_)
  refine key_0 _ ?_
  refine ⟨decide ((s_a0.In.length : Int) > 30), h, ?_⟩
  exact p_spec_GoodStore_pv ff trivial
/-! spec.l21Own -/
theorem p_spec_l21Own_pv {F C A : Prop} (hF : F) (hC : C) (h : F → C → A := by intro hF hC; first | exact cl_by hF | (refine st_by hF ?_; (repeat' (first | exact trivial | apply And.intro)); all_goals (clear hF; first | rfl | (simp only [hC, List.length_append, List.length_cons, List.length_nil, List.append_nil, List.nil_append, List.cons_append, List.length_set, List.append_assoc, Nat.zero_add, List.length_replicate, esStore_app, esStore_cons, esStore_nil, eStore_eq, esStoreo_app, esStoreo_cons, esStoreo_nil, eStoreo_eq, esResident_app, esResident_cons, esResident_nil, eResident_eq]; done) | (simp [hC, List.length_append, List.length_cons, List.length_nil, List.append_nil, List.nil_append, List.cons_append, List.length_set, List.append_assoc, Nat.zero_add, List.length_replicate, esStore_app, esStore_cons, esStore_nil, eStore_eq, esStoreo_app, esStoreo_cons, esStoreo_nil, eStoreo_eq, esResident_app, esResident_cons, esResident_nil, eResident_eq]; done) | omega))) : A := h hF hC
theorem p_spec_l21Own_sa {F C A : Prop} (hF : F) (hC : C) (h : F → C → A := by intro hF hC; first | exact ca_by hF | (refine sa_by hF ?_; (repeat' (first | exact trivial | apply And.intro)); all_goals (clear hF; first | rfl | (simp only [hC, List.length_append, List.length_cons, List.length_nil, List.append_nil, List.nil_append, List.cons_append, List.length_set, List.append_assoc, Nat.zero_add, List.length_replicate, esStore_app, esStore_cons, esStore_nil, eStore_eq, esStoreo_app, esStoreo_cons, esStoreo_nil, eStoreo_eq, esResident_app, esResident_cons, esResident_nil, eResident_eq]; done) | (simp [hC, List.length_append, List.length_cons, List.length_nil, List.append_nil, List.nil_append, List.cons_append, List.length_set, List.append_assoc, Nat.zero_add, List.length_replicate, esStore_app, esStore_cons, esStore_nil, eStore_eq, esStoreo_app, esStoreo_cons, esStoreo_nil, eStoreo_eq, esResident_app, esResident_cons, esResident_nil, eResident_eq]; done) | omega))) : A := h hF hC
theorem p_spec_l21Own_rt {F C A : Prop} (hF : F) (hC : C) (h : F → C → A := by intro hF hC; first | (refine sr_by hF ?_; (repeat' (first | exact trivial | apply And.intro)); all_goals (clear hF; first | rfl | (simp only [hC, List.length_append, List.length_cons, List.length_nil, List.append_nil, List.nil_append, List.cons_append, List.length_set, List.append_assoc, Nat.zero_add, List.length_replicate, esStore_app, esStore_cons, esStore_nil, eStore_eq, esStoreo_app, esStoreo_cons, esStoreo_nil, eStoreo_eq, esResident_app, esResident_cons, esResident_nil, eResident_eq]; done) | (simp [hC, List.length_append, List.length_cons, List.length_nil, List.append_nil, List.nil_append, List.cons_append, List.length_set, List.append_assoc, Nat.zero_add, List.length_replicate, esStore_app, esStore_cons, esStore_nil, eStore_eq, esStoreo_app, esStoreo_cons, esStoreo_nil, eStoreo_eq, esResident_app, esResident_cons, esResident_nil, eResident_eq]; done) | omega)) | (first | rfl | (simp only [hC, List.length_append, List.length_cons, List.length_nil, List.append_nil, List.nil_append, List.cons_append, List.length_set, List.append_assoc, Nat.zero_add, List.length_replicate, esStore_app, esStore_cons, esStore_nil, eStore_eq, esStoreo_app, esStoreo_cons, esStoreo_nil, eStoreo_eq, esResident_app, esResident_cons, esResident_nil, eResident_eq]; done) | (simp [hC, List.length_append, List.length_cons, List.length_nil, List.append_nil, List.nil_append, List.cons_append, List.length_set, List.append_assoc, Nat.zero_add, List.length_replicate, esStore_app, esStore_cons, esStore_nil, eStore_eq, esStoreo_app, esStoreo_cons, esStoreo_nil, eStoreo_eq, esResident_app, esResident_cons, esResident_nil, eResident_eq]; done) | omega)) : A := h hF hC
def p_spec_l21Own_tf := PLift.up (And.intro @eStore_eq (And.intro @esStore_len (And.intro @esStore_nil (And.intro @esStore_leaf (And.intro @esStore_fit (And.intro @eStoreo_eq (And.intro @esStoreo_len (And.intro @esStoreo_nil (And.intro @eResident_eq (And.intro @esResident_len (And.intro @esResident_nil (And.intro @esResident_leaf (And.intro @esResident_fit (And.intro @esStoreo_share (And.intro @esStoreo_pure (And.intro @esResident_share (And.intro @esResident_pure (And.intro @str_beq (And.intro @Ty.nz26 (And.intro @Ty.ldA26 (And.intro @Ty.ldS26 (And.intro @Ty.sz26 (And.intro @Ty.szn26 (And.intro @Ty.nz28 (And.intro @Ty.ldA28 (And.intro @Ty.sz28 (And.intro @Ty.szn28 (And.intro @Ty.fo28_2 (And.intro @Ty.fk28_2 (And.intro @Ty.fs28_2 (And.intro @Ty.fn28_2 (And.intro @Ty.nze26 (And.intro @Ty.sl26 (And.intro @Ty.slz26 (And.intro @Ty.zok26 (And.intro @Ty.by26 (And.intro @Ty.zs26 (And.intro @Ty.zv28 (And.intro @Ty.ag28 @trivial)))))))))))))))))))))))))))))))))))))))
def p_spec_l21Own (s_a0 : GStore) : Option (GStore) := (if s_a0.In.length < 4294967296 then some (⟨s_a0.Budget, s_a0.Clock, s_a0.In⟩ : GStore) else none)
theorem p_spec_l21Own_does (s_a0 : GStore) (r : GStore) (h : p_spec_l21Own s_a0 = some r) : Does Try.prog 19 [.agg (eStore s_a0)] (.agg (eStoreo r)) := by
  rw [p_spec_l21Own] at h
  refine Does.bnd (fun hb => ?_)
  have hb2 : s_a0.In.length ≤ 9223372036854775807 := by simpa [AV.fitNs, AV.fitN, eStore] using hb
  have hl0 := hb2
  refine Does.walk (nt := 9) Try.func19 rfl rfl (by simp) (by decide) rfl (fun G0 X w0 pv => ?_)
  by_cases c1 : s_a0.In.length < 4294967296
  case neg => rw [if_neg c1] at h; cases h
  rw [if_pos c1] at h
  have ff := p_spec_l21Own_tf.down
  try refine st_by ff ?_
  repeat' (first | exact trivial | refine And.intro sd ?_)
  cases h
  exact ret_q1 rfl (p_spec_l21Own_rt ff trivial)
/-! spec.Release -/
def p_spec_Release_j0 (v3 : GStore) (x_0 : GResident) (i_0 : Nat) (rec_0 : Nat → Option (LR (GStore × Int) (Unit))) (b_21 : Bool) : Option (LR (GStore × Int) (Unit)) := (if b_21 = true then some (.ret ((⟨v3.Budget, v3.Clock, (v3.In.set i_0 (⟨x_0.Name, x_0.Size, (IntKind.i64.wrap (x_0.Held - 1)), x_0.Used⟩ : GResident))⟩ : GStore), 0)) else rec_0 (i_0 + 1))
def p_spec_Release_l0 (name_a1 : ByteArray) (v3 : GStore) : List GResident → Nat → Option (LR (GStore × Int) (Unit))
  | [], i_0 => some (.out ())
  | x_0 :: r_0, i_0 => (if x_0.Name = name_a1 then p_spec_Release_j0 v3 x_0 i_0 (p_spec_Release_l0 name_a1 v3 r_0) (decide (x_0.Held > 0)) else p_spec_Release_j0 v3 x_0 i_0 (p_spec_Release_l0 name_a1 v3 r_0) false)
theorem p_spec_Release_pv {F C A : Prop} (hF : F) (hC : C) (h : F → C → A := by intro hF hC; first | exact cl_by hF | (refine st_by hF ?_; (repeat' (first | exact trivial | apply And.intro)); all_goals (clear hF; first | rfl | (simp only [hC, List.length_append, List.length_cons, List.length_nil, List.append_nil, List.nil_append, List.cons_append, List.length_set, List.append_assoc, Nat.zero_add, List.length_replicate, esStore_app, esStore_cons, esStore_nil, eStore_eq, esStoreo_app, esStoreo_cons, esStoreo_nil, eStoreo_eq, esResident_app, esResident_cons, esResident_nil, eResident_eq]; done) | (simp [hC, List.length_append, List.length_cons, List.length_nil, List.append_nil, List.nil_append, List.cons_append, List.length_set, List.append_assoc, Nat.zero_add, List.length_replicate, esStore_app, esStore_cons, esStore_nil, eStore_eq, esStoreo_app, esStoreo_cons, esStoreo_nil, eStoreo_eq, esResident_app, esResident_cons, esResident_nil, eResident_eq]; done) | omega))) : A := h hF hC
theorem p_spec_Release_sa {F C A : Prop} (hF : F) (hC : C) (h : F → C → A := by intro hF hC; first | exact ca_by hF | (refine sa_by hF ?_; (repeat' (first | exact trivial | apply And.intro)); all_goals (clear hF; first | rfl | (simp only [hC, List.length_append, List.length_cons, List.length_nil, List.append_nil, List.nil_append, List.cons_append, List.length_set, List.append_assoc, Nat.zero_add, List.length_replicate, esStore_app, esStore_cons, esStore_nil, eStore_eq, esStoreo_app, esStoreo_cons, esStoreo_nil, eStoreo_eq, esResident_app, esResident_cons, esResident_nil, eResident_eq]; done) | (simp [hC, List.length_append, List.length_cons, List.length_nil, List.append_nil, List.nil_append, List.cons_append, List.length_set, List.append_assoc, Nat.zero_add, List.length_replicate, esStore_app, esStore_cons, esStore_nil, eStore_eq, esStoreo_app, esStoreo_cons, esStoreo_nil, eStoreo_eq, esResident_app, esResident_cons, esResident_nil, eResident_eq]; done) | omega))) : A := h hF hC
theorem p_spec_Release_rt {F C A : Prop} (hF : F) (hC : C) (h : F → C → A := by intro hF hC; first | (refine sr_by hF ?_; (repeat' (first | exact trivial | apply And.intro)); all_goals (clear hF; first | rfl | (simp only [hC, List.length_append, List.length_cons, List.length_nil, List.append_nil, List.nil_append, List.cons_append, List.length_set, List.append_assoc, Nat.zero_add, List.length_replicate, esStore_app, esStore_cons, esStore_nil, eStore_eq, esStoreo_app, esStoreo_cons, esStoreo_nil, eStoreo_eq, esResident_app, esResident_cons, esResident_nil, eResident_eq]; done) | (simp [hC, List.length_append, List.length_cons, List.length_nil, List.append_nil, List.nil_append, List.cons_append, List.length_set, List.append_assoc, Nat.zero_add, List.length_replicate, esStore_app, esStore_cons, esStore_nil, eStore_eq, esStoreo_app, esStoreo_cons, esStoreo_nil, eStoreo_eq, esResident_app, esResident_cons, esResident_nil, eResident_eq]; done) | omega)) | (first | rfl | (simp only [hC, List.length_append, List.length_cons, List.length_nil, List.append_nil, List.nil_append, List.cons_append, List.length_set, List.append_assoc, Nat.zero_add, List.length_replicate, esStore_app, esStore_cons, esStore_nil, eStore_eq, esStoreo_app, esStoreo_cons, esStoreo_nil, eStoreo_eq, esResident_app, esResident_cons, esResident_nil, eResident_eq]; done) | (simp [hC, List.length_append, List.length_cons, List.length_nil, List.append_nil, List.nil_append, List.cons_append, List.length_set, List.append_assoc, Nat.zero_add, List.length_replicate, esStore_app, esStore_cons, esStore_nil, eStore_eq, esStoreo_app, esStoreo_cons, esStoreo_nil, eStoreo_eq, esResident_app, esResident_cons, esResident_nil, eResident_eq]; done) | omega)) : A := h hF hC
def p_spec_Release_tf := PLift.up (And.intro @eStore_eq (And.intro @esStore_len (And.intro @esStore_nil (And.intro @esStore_leaf (And.intro @esStore_fit (And.intro @eStoreo_eq (And.intro @esStoreo_len (And.intro @esStoreo_nil (And.intro @eResident_eq (And.intro @esResident_len (And.intro @esResident_nil (And.intro @esResident_leaf (And.intro @esResident_fit (And.intro @esStoreo_share (And.intro @esStoreo_pure (And.intro @esResident_share (And.intro @esResident_pure (And.intro @str_beq (And.intro @Ty.sl26 (And.intro @Ty.slz26 (And.intro @Ty.nz28 (And.intro @Ty.ldA28 (And.intro @Ty.sz28 (And.intro @Ty.szn28 (And.intro @Ty.nz26 (And.intro @Ty.ldA26 (And.intro @Ty.ldS26 (And.intro @Ty.sz26 (And.intro @Ty.szn26 (And.intro @Ty.nz45 (And.intro @Ty.ldA45 (And.intro @Ty.sz45 (And.intro @Ty.szn45 (And.intro @Ty.nz9 (And.intro @Ty.ldA9 (And.intro @Ty.ldS9 (And.intro @Ty.sz9 (And.intro @Ty.szn9 (And.intro @Ty.nz3 (And.intro @Ty.ldA3 (And.intro @Ty.ldS3 (And.intro @Ty.sz3 (And.intro @Ty.szn3 (And.intro @Ty.fo28_2 (And.intro @Ty.fk28_2 (And.intro @Ty.fs28_2 (And.intro @Ty.fn28_2 (And.intro @Ty.fo45_0 (And.intro @Ty.fk45_0 (And.intro @Ty.fs45_0 (And.intro @Ty.fn45_0 (And.intro @Ty.fo45_2 (And.intro @Ty.fk45_2 (And.intro @Ty.fs45_2 (And.intro @Ty.fn45_2 (And.intro @Ty.zv28 (And.intro @Ty.zv45 (And.intro @Ty.bd28 (And.intro @Ty.ag28 @trivial)))))))))))))))))))))))))))))))))))))))))))))))))))))))))))
def p_spec_Release (s_a0 : GStore) (name_a1 : ByteArray) : Option (GStore × Int) := ((p_spec_GoodStore s_a0).bind fun v1 => (if v1 = true then ((p_spec_l21Own s_a0).bind fun v3 => ((p_spec_Release_l0 name_a1 v3 v3.In 0).bind fun q_0 => match q_0 with | .ret r_ => some r_ | .out _ => some ((⟨v3.Budget, v3.Clock, v3.In⟩ : GStore), 5))) else some ((⟨0, 0, ([] : List GResident)⟩ : GStore), 1)))
theorem p_spec_Release_does (s_a0 : GStore) (name_a1 : ByteArray) (r : GStore × Int) (h : p_spec_Release s_a0 name_a1 = some r) : Does Try.prog 6 [.agg (eStore s_a0), S name_a1] (.tup [.agg (eStoreo r.1), I r.2]) := by
  rw [p_spec_Release] at h
  refine Does.bnd (fun hb => ?_)
  have hb2 : s_a0.In.length ≤ 9223372036854775807 := by simpa [AV.fitNs, AV.fitN, eStore] using hb
  have hl0 := hb2
  refine Does.walk (nt := 43) Try.func6 rfl rfl (by simp) (by decide) rfl (fun G0 X w0 pv => ?_)
  obtain ⟨v1, ev1, h⟩ := Option.bind_eq_some_iff.1 h
  try dsimp only at h
  have ff := p_spec_Release_tf.down
  try refine st_by ff ?_
  repeat' (first | exact trivial | refine And.intro sd ?_)
  first
  | (refine cq_call (p_spec_GoodStore_does s_a0 v1 ev1) (hf_by ff) kr ⟨p_spec_Release_sa ff trivial, ?_⟩; clear ff)
  by_cases c2 : v1 = true
  case neg =>
   rw [if_neg c2] at h
   have dc2 := eq_false_of_ne_true c2
   have ff := And.intro @dc2 p_spec_Release_tf.down
   try refine st_by ff ?_
   repeat' (first | exact trivial | refine And.intro sd ?_)
   cases h
   exact ret_q2 rfl (p_spec_Release_rt ff trivial)
  rw [if_pos c2] at h
  have dc2 := c2
  obtain ⟨v3, ev3, h⟩ := Option.bind_eq_some_iff.1 h
  try dsimp only at h
  have ff := And.intro @dc2 p_spec_Release_tf.down
  try refine st_by ff ?_
  repeat' (first | exact trivial | refine And.intro sd ?_)
  first
  | (refine cq_own (p_spec_l21Own_does s_a0 v3 ev3) (hf_by ff) kr ⟨p_spec_Release_sa ff trivial, ?_⟩; clear ff)
  obtain ⟨q_0, eq_0, h⟩ := Option.bind_eq_some_iff.1 h
  have ff := And.intro @dc2 p_spec_Release_tf.down
  try refine st_by ff ?_
  repeat' (first | exact trivial | refine And.intro sd ?_)
  refine aw_bnd (r := 2) (p := [2]) (sz := 4) (n := v3.In.length) (cs := esResident v3.In) (p_spec_Release_pv ff trivial) (fun hL_0 => ?_)
  obtain ⟨I_0, hI_0⟩ : ∃ I_ : (Nat) → ASt → Prop, I_ = (fun (i_0 : Nat) σ => (i_0 ≤ v3.In.length ∧ p_spec_Release_l0 name_a1 v3 (v3.In.drop i_0) i_0 = some q_0) ∧ σ.t 1 = S name_a1 ∧ σ.t 2 = .ptr 2 [] 0 ∧ σ.t 4 = .ptr 4 [] 0 ∧ σ.t 15 = .sl 2 [2] 0 v3.In.length ∧ σ.t 16 = I (v3.In.length : Int) ∧ σ.t 17 = I (i_0 : Int) ∧ σ.m 2 = some (.box true [I v3.Budget, I v3.Clock, .row true 4 v3.In.length (esResident v3.In)]) ∧ σ.m 4 = some (.box true [I 0, I 0, .row true 4 0 []])) := ⟨_, rfl⟩
  obtain ⟨M_0, hM_0⟩ : ∃ M_ : (Nat) → Nat, M_ = (fun (i_0 : Nat) => v3.In.length - i_0) := ⟨_, rfl⟩
  obtain ⟨J_0, hJ_0⟩ : ∃ J_ : ASt → Prop, J_ = (fun σ => (some (.out ()) = some q_0) ∧ σ.t 2 = .ptr 2 [] 0 ∧ σ.t 4 = .ptr 4 [] 0 ∧ σ.m 2 = some (.box true [I v3.Budget, I v3.Clock, .row true 4 v3.In.length (esResident v3.In)]) ∧ σ.m 4 = some (.box true [I 0, I 0, .row true 4 0 []])) := ⟨_, rfl⟩
  refine aw_loopC (id := 0) I_0 M_0 J_0 (0) ?_ ?_ ?_
  · rw [hI_0]
    refine ⟨⟨Nat.zero_le _, eq_0⟩, ?_⟩
    exact p_spec_Release_pv ff trivial
  · try clear ff
    rintro i_0 σ hg_0
    rw [hI_0] at hg_0
    obtain ⟨⟨hi_0, h_0⟩, g0_0, g1_0, g2_0, g3_0, g4_0, g5_0, g6_0, g7_0⟩ := hg_0
    cases hr_0 : v3.In.drop i_0 with
    | nil =>
      rw [hr_0] at h_0
      rw [p_spec_Release_l0] at h_0
      have hn_0 := drop_nil hr_0
      have dr_0 : decide ((i_0 : Int) < (v3.In.length : Int)) = false := decide_eq_false (by omega)
      have ff := And.intro @dc2 (And.intro @dr_0 (And.intro @g0_0 (And.intro @g1_0 (And.intro @g2_0 (And.intro @g3_0 (And.intro @g4_0 (And.intro @g5_0 (And.intro @g6_0 (And.intro @g7_0 p_spec_Release_tf.down)))))))))
      try refine st_by ff ?_
      repeat' (first | exact trivial | refine And.intro sd ?_)
      refine JW.intro ?_
      rw [hJ_0]
      refine ⟨h_0, ?_⟩
      exact p_spec_Release_pv ff trivial
    | cons x_0 r_0 =>
      rw [hr_0] at h_0
      rw [p_spec_Release_l0] at h_0
      obtain ⟨ht_0, hg_0, hd_0⟩ := drop_cons hr_0
      have dr_0 : decide ((i_0 : Int) < (v3.In.length : Int)) = true := decide_eq_true (by omega)
      have w_0 : IntKind.i64.wrap ((i_0 : Int) + 1) = ((i_0 + 1 : Nat) : Int) := wI _ (by omega) (by omega)
      have kk0c : (esResident v3.In).drop (i_0 * 4) = eResident x_0 ++ esResident (v3.In.drop (i_0 + 1)) := drop_enc (fun _ => rfl) (hg_0)
      have kk0g0 : (esResident v3.In).getD (i_0 * 4) .junk = (eResident x_0).getD 0 .junk := getD_enc0 (enc := eResident) (sz := 4) (fun _ => rfl) (hg_0) (by decide)
      have kk0g1 : (esResident v3.In).getD (i_0 * 4 + 1) .junk = (eResident x_0).getD 1 .junk := getD_enc (enc := eResident) (sz := 4) (fun _ => rfl) (hg_0) (by decide)
      have kk0g2 : (esResident v3.In).getD (i_0 * 4 + 2) .junk = (eResident x_0).getD 2 .junk := getD_enc (enc := eResident) (sz := 4) (fun _ => rfl) (hg_0) (by decide)
      have kk0g3 : (esResident v3.In).getD (i_0 * 4 + 3) .junk = (eResident x_0).getD 3 .junk := getD_enc (enc := eResident) (sz := 4) (fun _ => rfl) (hg_0) (by decide)
      have ff := And.intro @dc2 (And.intro @dr_0 (And.intro @w_0 (And.intro @g0_0 (And.intro @g1_0 (And.intro @g2_0 (And.intro @g3_0 (And.intro @g4_0 (And.intro @g5_0 (And.intro @g6_0 (And.intro @g7_0 (And.intro @kk0c (And.intro @kk0g0 (And.intro @kk0g1 (And.intro @kk0g2 (And.intro @kk0g3 p_spec_Release_tf.down)))))))))))))))
      try refine st_by ff ?_
      repeat' (first | exact trivial | refine And.intro sd ?_)
      try clear ff
      generalize hk_0 : thenK _ _ = kk_0
      have key_0 : ∀ σ, (∃ b_21 : Bool, (p_spec_Release_j0 v3 x_0 i_0 (p_spec_Release_l0 name_a1 v3 r_0) b_21 = some q_0) ∧ σ.t 1 = S name_a1 ∧ σ.t 2 = .ptr 2 [] 0 ∧ σ.t 4 = .ptr 4 [] 0 ∧ σ.t 6 = I (i_0 : Int) ∧ σ.t 15 = .sl 2 [2] 0 v3.In.length ∧ σ.t 16 = I (v3.In.length : Int) ∧ σ.t 17 = I (i_0 : Int) ∧ σ.t 30 = B b_21 ∧ σ.m 2 = some (.box true [I v3.Budget, I v3.Clock, .row true 4 v3.In.length (esResident v3.In)]) ∧ σ.m 4 = some (.box true [I 0, I 0, .row true 4 0 []])) → kk_0 .nm σ := by
        rintro σ ⟨b_21, h_0, g0_j0, g1_j0, g2_j0, g3_j0, g4_j0, g5_j0, g6_j0, g7_j0, g8_j0, g9_j0⟩
        rw [← hk_0]
        rw [p_spec_Release_j0] at h_0
        by_cases c22 : b_21 = true
        case neg =>
         rw [if_neg c22] at h_0
         have dc22 := eq_false_of_ne_true c22
         have ff := And.intro @dc2 (And.intro @dr_0 (And.intro @w_0 (And.intro @kk0c (And.intro @kk0g0 (And.intro @kk0g1 (And.intro @kk0g2 (And.intro @kk0g3 (And.intro @g0_j0 (And.intro @g1_j0 (And.intro @g2_j0 (And.intro @g3_j0 (And.intro @g4_j0 (And.intro @g5_j0 (And.intro @g6_j0 (And.intro @g7_j0 (And.intro @g8_j0 (And.intro @g9_j0 (And.intro @dc22 p_spec_Release_tf.down))))))))))))))))))
         try refine st_by ff ?_
         repeat' (first | exact trivial | refine And.intro sd ?_)
         refine Back.intro (i_0 + 1) ?_ ?_
         · clear ff; rw [hM_0]; show v3.In.length - (i_0 + 1) < v3.In.length - i_0; omega
         rw [hI_0]
         refine ⟨⟨by clear ff; show i_0 + 1 ≤ v3.In.length; omega, by show p_spec_Release_l0 name_a1 v3 (v3.In.drop (i_0 + 1)) (i_0 + 1) = some q_0; rw [hd_0]; exact h_0⟩, ?_⟩
         exact p_spec_Release_pv ff trivial
        rw [if_pos c22] at h_0
        have dc22 := c22
        have w23l : i_0 < v3.In.length := (List.getElem?_eq_some_iff.1 (hg_0)).1
        have w23a : (esResident v3.In).set (i_0 * 4 + 2) (I (IntKind.i64.wrap (x_0.Held - 1))) = esResident (v3.In.set i_0 (⟨x_0.Name, x_0.Size, (IntKind.i64.wrap (x_0.Held - 1)), x_0.Used⟩ : GResident)) := set_enc (enc := eResident) (sz := 4) (fun _ => rfl) (hg_0) (by decide) rfl
        have w23b : (v3.In.set i_0 (⟨x_0.Name, x_0.Size, (IntKind.i64.wrap (x_0.Held - 1)), x_0.Used⟩ : GResident)).length = v3.In.length := List.length_set
        cases h_0
        try dsimp only at h
        have ff := And.intro @dc2 (And.intro @dr_0 (And.intro @w_0 (And.intro @kk0c (And.intro @kk0g0 (And.intro @kk0g1 (And.intro @kk0g2 (And.intro @kk0g3 (And.intro @g0_j0 (And.intro @g1_j0 (And.intro @g2_j0 (And.intro @g3_j0 (And.intro @g4_j0 (And.intro @g5_j0 (And.intro @g6_j0 (And.intro @g7_j0 (And.intro @g8_j0 (And.intro @g9_j0 (And.intro @dc22 (And.intro @w23a p_spec_Release_tf.down)))))))))))))))))))
        try refine st_by ff ?_
        repeat' (first | exact trivial | refine And.intro sd ?_)
        cases h
        exact ret_q2 rfl (p_spec_Release_rt ff trivial)
      have hrt_0 := fun σ : ASt => congrFun (congrFun hk_0.symm AX.rt) σ
      have hex_0 := fun (i : Nat) (σ : ASt) => congrFun (congrFun hk_0.symm (AX.ex i)) σ
      by_cases c25 : x_0.Name = name_a1
      case neg =>
       rw [if_neg c25] at h_0
       have dc25 := decide_eq_false c25
       have ff := And.intro @dc2 (And.intro @dr_0 (And.intro @w_0 (And.intro @g0_0 (And.intro @g1_0 (And.intro @g2_0 (And.intro @g3_0 (And.intro @g4_0 (And.intro @g5_0 (And.intro @g6_0 (And.intro @g7_0 (And.intro @kk0c (And.intro @kk0g0 (And.intro @kk0g1 (And.intro @kk0g2 (And.intro @kk0g3 (And.intro @hrt_0 (And.intro @hex_0 (And.intro @dc25 p_spec_Release_tf.down))))))))))))))))))
       try refine st_by ff ?_
       repeat' (first | exact trivial | refine And.intro sd ?_)
       refine key_0 _ ?_
       refine ⟨false, h_0, ?_⟩
       exact p_spec_Release_pv ff trivial
      rw [if_pos c25] at h_0
      have dc25 := decide_eq_true c25
      have ff := And.intro @dc2 (And.intro @dr_0 (And.intro @w_0 (And.intro @g0_0 (And.intro @g1_0 (And.intro @g2_0 (And.intro @g3_0 (And.intro @g4_0 (And.intro @g5_0 (And.intro @g6_0 (And.intro @g7_0 (And.intro @kk0c (And.intro @kk0g0 (And.intro @kk0g1 (And.intro @kk0g2 (And.intro @kk0g3 (And.intro @hrt_0 (And.intro @hex_0 (And.intro @dc25 p_spec_Release_tf.down))))))))))))))))))
      try refine st_by ff ?_
      repeat' (first | exact trivial | refine And.intro sd ?_)
      refine key_0 _ ?_
      refine ⟨decide (x_0.Held > 0), h_0, ?_⟩
      exact p_spec_Release_pv ff trivial
  · try clear ff
    rintro σ hg_0
    rw [hJ_0] at hg_0
    obtain ⟨hj_0, g0_0a, g1_0a, g2_0a, g3_0a⟩ := hg_0
    cases hj_0
    try dsimp only at h
    have ff := And.intro @dc2 (And.intro @g0_0a (And.intro @g1_0a (And.intro @g2_0a (And.intro @g3_0a p_spec_Release_tf.down))))
    try refine st_by ff ?_
    repeat' (first | exact trivial | refine And.intro sd ?_)
    cases h
    exact ret_q2 rfl (p_spec_Release_rt ff trivial)
/-! impl.GoodStore$1 -/
theorem p_impl_GoodStore_1_pv {F C A : Prop} (hF : F) (hC : C) (h : F → C → A := by intro hF hC; first | exact cl_by hF | (refine st_by hF ?_; (repeat' (first | exact trivial | apply And.intro)); all_goals (clear hF; first | rfl | (simp only [hC, List.length_append, List.length_cons, List.length_nil, List.append_nil, List.nil_append, List.cons_append, List.length_set, List.append_assoc, Nat.zero_add, List.length_replicate, esResident_app, esResident_cons, esResident_nil, eResident_eq]; done) | (simp [hC, List.length_append, List.length_cons, List.length_nil, List.append_nil, List.nil_append, List.cons_append, List.length_set, List.append_assoc, Nat.zero_add, List.length_replicate, esResident_app, esResident_cons, esResident_nil, eResident_eq]; done) | omega))) : A := h hF hC
theorem p_impl_GoodStore_1_sa {F C A : Prop} (hF : F) (hC : C) (h : F → C → A := by intro hF hC; first | exact ca_by hF | (refine sa_by hF ?_; (repeat' (first | exact trivial | apply And.intro)); all_goals (clear hF; first | rfl | (simp only [hC, List.length_append, List.length_cons, List.length_nil, List.append_nil, List.nil_append, List.cons_append, List.length_set, List.append_assoc, Nat.zero_add, List.length_replicate, esResident_app, esResident_cons, esResident_nil, eResident_eq]; done) | (simp [hC, List.length_append, List.length_cons, List.length_nil, List.append_nil, List.nil_append, List.cons_append, List.length_set, List.append_assoc, Nat.zero_add, List.length_replicate, esResident_app, esResident_cons, esResident_nil, eResident_eq]; done) | omega))) : A := h hF hC
theorem p_impl_GoodStore_1_rt {F C A : Prop} (hF : F) (hC : C) (h : F → C → A := by intro hF hC; first | (refine sr_by hF ?_; (repeat' (first | exact trivial | apply And.intro)); all_goals (clear hF; first | rfl | (simp only [hC, List.length_append, List.length_cons, List.length_nil, List.append_nil, List.nil_append, List.cons_append, List.length_set, List.append_assoc, Nat.zero_add, List.length_replicate, esResident_app, esResident_cons, esResident_nil, eResident_eq]; done) | (simp [hC, List.length_append, List.length_cons, List.length_nil, List.append_nil, List.nil_append, List.cons_append, List.length_set, List.append_assoc, Nat.zero_add, List.length_replicate, esResident_app, esResident_cons, esResident_nil, eResident_eq]; done) | omega)) | (first | rfl | (simp only [hC, List.length_append, List.length_cons, List.length_nil, List.append_nil, List.nil_append, List.cons_append, List.length_set, List.append_assoc, Nat.zero_add, List.length_replicate, esResident_app, esResident_cons, esResident_nil, eResident_eq]; done) | (simp [hC, List.length_append, List.length_cons, List.length_nil, List.append_nil, List.nil_append, List.cons_append, List.length_set, List.append_assoc, Nat.zero_add, List.length_replicate, esResident_app, esResident_cons, esResident_nil, eResident_eq]; done) | omega)) : A := h hF hC
def p_impl_GoodStore_1_tf := PLift.up (And.intro @eResident_eq (And.intro @esResident_len (And.intro @esResident_nil (And.intro @esResident_leaf (And.intro @esResident_fit (And.intro @esResident_share (And.intro @esResident_pure (And.intro @str_beq (And.intro @Ty.nz3 (And.intro @Ty.ldA3 (And.intro @Ty.ldS3 (And.intro @Ty.sz3 (And.intro @Ty.szn3 (And.intro @Ty.fo45_3 (And.intro @Ty.fk45_3 (And.intro @Ty.fs45_3 (And.intro @Ty.fn45_3 @trivial)))))))))))))))))
def p_impl_GoodStore_1 (other_a0 : GResident) (k0_ : GResident) : Option (Bool) := some (other_a0.Used == k0_.Used)
theorem p_impl_GoodStore_1_does (other_a0 : GResident) (k0_ : GResident) (r : Bool) (h : p_impl_GoodStore_1 other_a0 k0_ = some r) : Does Try.prog 40 [.agg (eResident other_a0), .box false (eResident k0_)] (B r) := by
  rw [p_impl_GoodStore_1] at h
  refine Does.walk (nt := 9) Try.func40 rfl rfl (by simp) (by decide) rfl (fun G0 X w0 pv => ?_)
  have ff := p_impl_GoodStore_1_tf.down
  try refine st_by ff ?_
  repeat' (first | exact trivial | refine And.intro sd ?_)
  cases h
  exact ret_q1 rfl (p_impl_GoodStore_1_rt ff trivial)
/-! slices.IndexFunc[[]impl.Resident,impl.Resident] -/
def p_slices_IndexFunc_impl_Resident_impl_Resident_l0 (f_a1 : GResident → Option Bool) : List GResident → Nat → Option (LR (Int) (Unit))
  | [], i_0 => some (.out ())
  | x_0 :: r_0, i_0 => ((f_a1 x_0).bind fun v12 => (if v12 = true then some (.ret (i_0 : Int)) else p_slices_IndexFunc_impl_Resident_impl_Resident_l0 f_a1 r_0 (i_0 + 1)))
theorem p_slices_IndexFunc_impl_Resident_impl_Resident_pv {F C A : Prop} (hF : F) (hC : C) (h : F → C → A := by intro hF hC; first | exact cl_by hF | (refine st_by hF ?_; (repeat' (first | exact trivial | apply And.intro)); all_goals (clear hF; first | rfl | (simp only [hC, List.length_append, List.length_cons, List.length_nil, List.append_nil, List.nil_append, List.cons_append, List.length_set, List.append_assoc, Nat.zero_add, List.length_replicate, esResident_app, esResident_cons, esResident_nil, eResident_eq]; done) | (simp [hC, List.length_append, List.length_cons, List.length_nil, List.append_nil, List.nil_append, List.cons_append, List.length_set, List.append_assoc, Nat.zero_add, List.length_replicate, esResident_app, esResident_cons, esResident_nil, eResident_eq]; done) | omega))) : A := h hF hC
theorem p_slices_IndexFunc_impl_Resident_impl_Resident_sa {F C A : Prop} (hF : F) (hC : C) (h : F → C → A := by intro hF hC; first | exact ca_by hF | (refine sa_by hF ?_; (repeat' (first | exact trivial | apply And.intro)); all_goals (clear hF; first | rfl | (simp only [hC, List.length_append, List.length_cons, List.length_nil, List.append_nil, List.nil_append, List.cons_append, List.length_set, List.append_assoc, Nat.zero_add, List.length_replicate, esResident_app, esResident_cons, esResident_nil, eResident_eq]; done) | (simp [hC, List.length_append, List.length_cons, List.length_nil, List.append_nil, List.nil_append, List.cons_append, List.length_set, List.append_assoc, Nat.zero_add, List.length_replicate, esResident_app, esResident_cons, esResident_nil, eResident_eq]; done) | omega))) : A := h hF hC
theorem p_slices_IndexFunc_impl_Resident_impl_Resident_rt {F C A : Prop} (hF : F) (hC : C) (h : F → C → A := by intro hF hC; first | (refine sr_by hF ?_; (repeat' (first | exact trivial | apply And.intro)); all_goals (clear hF; first | rfl | (simp only [hC, List.length_append, List.length_cons, List.length_nil, List.append_nil, List.nil_append, List.cons_append, List.length_set, List.append_assoc, Nat.zero_add, List.length_replicate, esResident_app, esResident_cons, esResident_nil, eResident_eq]; done) | (simp [hC, List.length_append, List.length_cons, List.length_nil, List.append_nil, List.nil_append, List.cons_append, List.length_set, List.append_assoc, Nat.zero_add, List.length_replicate, esResident_app, esResident_cons, esResident_nil, eResident_eq]; done) | omega)) | (first | rfl | (simp only [hC, List.length_append, List.length_cons, List.length_nil, List.append_nil, List.nil_append, List.cons_append, List.length_set, List.append_assoc, Nat.zero_add, List.length_replicate, esResident_app, esResident_cons, esResident_nil, eResident_eq]; done) | (simp [hC, List.length_append, List.length_cons, List.length_nil, List.append_nil, List.nil_append, List.cons_append, List.length_set, List.append_assoc, Nat.zero_add, List.length_replicate, esResident_app, esResident_cons, esResident_nil, eResident_eq]; done) | omega)) : A := h hF hC
def p_slices_IndexFunc_impl_Resident_impl_Resident_tf := PLift.up (And.intro @eResident_eq (And.intro @esResident_len (And.intro @esResident_nil (And.intro @esResident_leaf (And.intro @esResident_fit (And.intro @esResident_share (And.intro @esResident_pure (And.intro @str_beq (And.intro @Ty.sl26 (And.intro @Ty.slz26 (And.intro @Ty.nz45 (And.intro @Ty.ldA45 (And.intro @Ty.sz45 (And.intro @Ty.szn45 @trivial))))))))))))))
def p_slices_IndexFunc_impl_Resident_impl_Resident (s_a0 : List GResident) (f_a1 : GResident → Option Bool) : Option (Int) := ((p_slices_IndexFunc_impl_Resident_impl_Resident_l0 f_a1 s_a0 0).bind fun q_0 => match q_0 with | .ret r_ => some r_ | .out _ => some (-1))
theorem p_slices_IndexFunc_impl_Resident_impl_Resident_does (s_a0 : List GResident) (f1 : FuncId) (caps1 : List AV) (hc1 : AV.noRefs caps1 = true) (he1 : entB Try.prog f1 = true) (f_a1 : GResident → Option Bool) (hp1 : ∀ (x0_ : GResident) (y_ : Bool), f_a1 x0_ = some y_ → Does Try.prog f1 ([.agg (eResident x0_)] ++ caps1) (B y_)) (r : Int) (h : p_slices_IndexFunc_impl_Resident_impl_Resident s_a0 f_a1 = some r) : Does Try.prog 55 [.row false 4 s_a0.length (esResident s_a0), .fn f1 caps1] (I r) := by
  rw [p_slices_IndexFunc_impl_Resident_impl_Resident] at h
  refine Does.bnd (fun hb => ?_)
  have hb2 : s_a0.length ≤ 9223372036854775807 := by simpa [AV.fitNs, AV.fitN] using hb
  have hl0 := hb2
  refine Does.walk (nt := 19) Try.func55 rfl rfl (by simp) (by decide) (by simp [AV.noRefs, AV.noRef, hc1]) (fun G0 X w0 pv => ?_)
  have hL_0 : s_a0.length ≤ 9223372036854775807 := by first | assumption | omega
  obtain ⟨q_0, eq_0, h⟩ := Option.bind_eq_some_iff.1 h
  have ff := And.intro @hc1 p_slices_IndexFunc_impl_Resident_impl_Resident_tf.down
  try refine st_by ff ?_
  repeat' (first | exact trivial | refine And.intro sd ?_)
  obtain ⟨I_0, hI_0⟩ : ∃ I_ : (Nat) → ASt → Prop, I_ = (fun (i_0 : Nat) σ => (i_0 ≤ s_a0.length ∧ p_slices_IndexFunc_impl_Resident_impl_Resident_l0 f_a1 (s_a0.drop i_0) i_0 = some q_0) ∧ σ.t 0 = .row false 4 s_a0.length (esResident s_a0) ∧ σ.t 1 = .fn f1 caps1 ∧ σ.t 7 = I (s_a0.length : Int) ∧ σ.t 8 = I (i_0 : Int)) := ⟨_, rfl⟩
  obtain ⟨M_0, hM_0⟩ : ∃ M_ : (Nat) → Nat, M_ = (fun (i_0 : Nat) => s_a0.length - i_0) := ⟨_, rfl⟩
  obtain ⟨J_0, hJ_0⟩ : ∃ J_ : ASt → Prop, J_ = (fun σ => (some (.out ()) = some q_0) ∧ True) := ⟨_, rfl⟩
  refine aw_loopC (id := 0) I_0 M_0 J_0 (0) ?_ ?_ ?_
  · rw [hI_0]
    refine ⟨⟨Nat.zero_le _, eq_0⟩, ?_⟩
    exact p_slices_IndexFunc_impl_Resident_impl_Resident_pv ff trivial
  · try clear ff
    rintro i_0 σ hg_0
    rw [hI_0] at hg_0
    obtain ⟨⟨hi_0, h_0⟩, g0_0, g1_0, g2_0, g3_0⟩ := hg_0
    cases hr_0 : s_a0.drop i_0 with
    | nil =>
      rw [hr_0] at h_0
      rw [p_slices_IndexFunc_impl_Resident_impl_Resident_l0] at h_0
      have hn_0 := drop_nil hr_0
      have dr_0 : decide ((i_0 : Int) < (s_a0.length : Int)) = false := decide_eq_false (by omega)
      have ff := And.intro @hc1 (And.intro @dr_0 (And.intro @g0_0 (And.intro @g1_0 (And.intro @g2_0 (And.intro @g3_0 p_slices_IndexFunc_impl_Resident_impl_Resident_tf.down)))))
      try refine st_by ff ?_
      repeat' (first | exact trivial | refine And.intro sd ?_)
      refine JW.intro ?_
      rw [hJ_0]
      refine ⟨h_0, ?_⟩
      exact p_slices_IndexFunc_impl_Resident_impl_Resident_pv ff trivial
    | cons x_0 r_0 =>
      rw [hr_0] at h_0
      rw [p_slices_IndexFunc_impl_Resident_impl_Resident_l0] at h_0
      obtain ⟨ht_0, hg_0, hd_0⟩ := drop_cons hr_0
      have dr_0 : decide ((i_0 : Int) < (s_a0.length : Int)) = true := decide_eq_true (by omega)
      have w_0 : IntKind.i64.wrap ((i_0 : Int) + 1) = ((i_0 + 1 : Nat) : Int) := wI _ (by omega) (by omega)
      have kk0c : (esResident s_a0).drop (i_0 * 4) = eResident x_0 ++ esResident (s_a0.drop (i_0 + 1)) := drop_enc (fun _ => rfl) (hg_0)
      obtain ⟨v12, ev12, h_0⟩ := Option.bind_eq_some_iff.1 h_0
      try dsimp only at h_0
      have ff := And.intro @hc1 (And.intro @dr_0 (And.intro @w_0 (And.intro @g0_0 (And.intro @g1_0 (And.intro @g2_0 (And.intro @g3_0 (And.intro @kk0c p_slices_IndexFunc_impl_Resident_impl_Resident_tf.down)))))))
      try refine st_by ff ?_
      repeat' (first | exact trivial | refine And.intro sd ?_)
      first
      | (refine cq_call (hp1 x_0 v12 ev12) (hf_by ff) he1 ⟨p_slices_IndexFunc_impl_Resident_impl_Resident_sa ff trivial, ?_⟩; clear ff)
      by_cases c13 : v12 = true
      · rw [if_pos c13] at h_0
        have dc13 := c13
        cases h_0
        try dsimp only at h
        have ff := And.intro @hc1 (And.intro @dr_0 (And.intro @w_0 (And.intro @g0_0 (And.intro @g1_0 (And.intro @g2_0 (And.intro @g3_0 (And.intro @kk0c (And.intro @dc13 p_slices_IndexFunc_impl_Resident_impl_Resident_tf.down))))))))
        try refine st_by ff ?_
        repeat' (first | exact trivial | refine And.intro sd ?_)
        cases h
        exact ret_q1 rfl (p_slices_IndexFunc_impl_Resident_impl_Resident_rt ff trivial)
      rw [if_neg c13] at h_0
      have dc13 := eq_false_of_ne_true c13
      have ff := And.intro @hc1 (And.intro @dr_0 (And.intro @w_0 (And.intro @g0_0 (And.intro @g1_0 (And.intro @g2_0 (And.intro @g3_0 (And.intro @kk0c (And.intro @dc13 p_slices_IndexFunc_impl_Resident_impl_Resident_tf.down))))))))
      try refine st_by ff ?_
      repeat' (first | exact trivial | refine And.intro sd ?_)
      refine Back.intro (i_0 + 1) ?_ ?_
      · clear ff; rw [hM_0]; show s_a0.length - (i_0 + 1) < s_a0.length - i_0; omega
      rw [hI_0]
      refine ⟨⟨by clear ff; show i_0 + 1 ≤ s_a0.length; omega, by show p_slices_IndexFunc_impl_Resident_impl_Resident_l0 f_a1 (s_a0.drop (i_0 + 1)) (i_0 + 1) = some q_0; rw [hd_0]; exact h_0⟩, ?_⟩
      exact p_slices_IndexFunc_impl_Resident_impl_Resident_pv ff trivial
  · try clear ff
    rintro σ hg_0
    rw [hJ_0] at hg_0
    obtain ⟨hj_0, _⟩ := hg_0
    cases hj_0
    try dsimp only at h
    have ff := And.intro @hc1 p_slices_IndexFunc_impl_Resident_impl_Resident_tf.down
    try refine st_by ff ?_
    repeat' (first | exact trivial | refine And.intro sd ?_)
    cases h
    exact ret_q1 rfl (p_slices_IndexFunc_impl_Resident_impl_Resident_rt ff trivial)
/-! slices.ContainsFunc[[]impl.Resident,impl.Resident] -/
theorem p_slices_ContainsFunc_impl_Resident_impl_Resident_pv {F C A : Prop} (hF : F) (hC : C) (h : F → C → A := by intro hF hC; first | exact cl_by hF | (refine st_by hF ?_; (repeat' (first | exact trivial | apply And.intro)); all_goals (clear hF; first | rfl | (simp only [hC, List.length_append, List.length_cons, List.length_nil, List.append_nil, List.nil_append, List.cons_append, List.length_set, List.append_assoc, Nat.zero_add, List.length_replicate, esResident_app, esResident_cons, esResident_nil, eResident_eq]; done) | (simp [hC, List.length_append, List.length_cons, List.length_nil, List.append_nil, List.nil_append, List.cons_append, List.length_set, List.append_assoc, Nat.zero_add, List.length_replicate, esResident_app, esResident_cons, esResident_nil, eResident_eq]; done) | omega))) : A := h hF hC
theorem p_slices_ContainsFunc_impl_Resident_impl_Resident_sa {F C A : Prop} (hF : F) (hC : C) (h : F → C → A := by intro hF hC; first | exact ca_by hF | (refine sa_by hF ?_; (repeat' (first | exact trivial | apply And.intro)); all_goals (clear hF; first | rfl | (simp only [hC, List.length_append, List.length_cons, List.length_nil, List.append_nil, List.nil_append, List.cons_append, List.length_set, List.append_assoc, Nat.zero_add, List.length_replicate, esResident_app, esResident_cons, esResident_nil, eResident_eq]; done) | (simp [hC, List.length_append, List.length_cons, List.length_nil, List.append_nil, List.nil_append, List.cons_append, List.length_set, List.append_assoc, Nat.zero_add, List.length_replicate, esResident_app, esResident_cons, esResident_nil, eResident_eq]; done) | omega))) : A := h hF hC
theorem p_slices_ContainsFunc_impl_Resident_impl_Resident_rt {F C A : Prop} (hF : F) (hC : C) (h : F → C → A := by intro hF hC; first | (refine sr_by hF ?_; (repeat' (first | exact trivial | apply And.intro)); all_goals (clear hF; first | rfl | (simp only [hC, List.length_append, List.length_cons, List.length_nil, List.append_nil, List.nil_append, List.cons_append, List.length_set, List.append_assoc, Nat.zero_add, List.length_replicate, esResident_app, esResident_cons, esResident_nil, eResident_eq]; done) | (simp [hC, List.length_append, List.length_cons, List.length_nil, List.append_nil, List.nil_append, List.cons_append, List.length_set, List.append_assoc, Nat.zero_add, List.length_replicate, esResident_app, esResident_cons, esResident_nil, eResident_eq]; done) | omega)) | (first | rfl | (simp only [hC, List.length_append, List.length_cons, List.length_nil, List.append_nil, List.nil_append, List.cons_append, List.length_set, List.append_assoc, Nat.zero_add, List.length_replicate, esResident_app, esResident_cons, esResident_nil, eResident_eq]; done) | (simp [hC, List.length_append, List.length_cons, List.length_nil, List.append_nil, List.nil_append, List.cons_append, List.length_set, List.append_assoc, Nat.zero_add, List.length_replicate, esResident_app, esResident_cons, esResident_nil, eResident_eq]; done) | omega)) : A := h hF hC
def p_slices_ContainsFunc_impl_Resident_impl_Resident_tf := PLift.up (And.intro @eResident_eq (And.intro @esResident_len (And.intro @esResident_nil (And.intro @esResident_leaf (And.intro @esResident_fit (And.intro @esResident_share (And.intro @esResident_pure (And.intro @str_beq @trivial))))))))
def p_slices_ContainsFunc_impl_Resident_impl_Resident (s_a0 : List GResident) (f_a1 : GResident → Option Bool) : Option (Bool) := ((p_slices_IndexFunc_impl_Resident_impl_Resident s_a0 f_a1).bind fun v1 => some (decide (v1 ≥ 0)))
theorem p_slices_ContainsFunc_impl_Resident_impl_Resident_does (s_a0 : List GResident) (f1 : FuncId) (caps1 : List AV) (hc1 : AV.noRefs caps1 = true) (he1 : entB Try.prog f1 = true) (f_a1 : GResident → Option Bool) (hp1 : ∀ (x0_ : GResident) (y_ : Bool), f_a1 x0_ = some y_ → Does Try.prog f1 ([.agg (eResident x0_)] ++ caps1) (B y_)) (r : Bool) (h : p_slices_ContainsFunc_impl_Resident_impl_Resident s_a0 f_a1 = some r) : Does Try.prog 39 [.row false 4 s_a0.length (esResident s_a0), .fn f1 caps1] (B r) := by
  rw [p_slices_ContainsFunc_impl_Resident_impl_Resident] at h
  refine Does.bnd (fun hb => ?_)
  have hb2 : s_a0.length ≤ 9223372036854775807 := by simpa [AV.fitNs, AV.fitN] using hb
  have hl0 := hb2
  refine Does.walk (nt := 9) Try.func39 rfl rfl (by simp) (by decide) (by simp [AV.noRefs, AV.noRef, hc1]) (fun G0 X w0 pv => ?_)
  obtain ⟨v1, ev1, h⟩ := Option.bind_eq_some_iff.1 h
  try dsimp only at h
  have ff := And.intro @hc1 p_slices_ContainsFunc_impl_Resident_impl_Resident_tf.down
  try refine st_by ff ?_
  repeat' (first | exact trivial | refine And.intro sd ?_)
  first
  | (refine cq_call (p_slices_IndexFunc_impl_Resident_impl_Resident_does s_a0 f1 caps1 hc1 he1 f_a1 hp1 v1 ev1) (hf_by ff) kr ⟨p_slices_ContainsFunc_impl_Resident_impl_Resident_sa ff trivial, ?_⟩; clear ff)
  have ff := And.intro @hc1 p_slices_ContainsFunc_impl_Resident_impl_Resident_tf.down
  try refine st_by ff ?_
  repeat' (first | exact trivial | refine And.intro sd ?_)
  cases h
  exact ret_q1 rfl (p_slices_ContainsFunc_impl_Resident_impl_Resident_rt ff trivial)
/-! impl.GoodStore -/
def p_impl_GoodStore_j1 (all_22 : Int) (x_0 : GResident) (i_0 : Nat) (rec_0 : Nat → Int → Option (LR (Bool) (Int))) (b_48 : Bool) : Option (LR (Bool) (Int)) := (if b_48 = true then some (.ret false) else rec_0 (i_0 + 1) (IntKind.i64.wrap (all_22 + x_0.Size)))
def p_impl_GoodStore_j0 (s_a0 : GStore) (all_22 : Int) (x_0 : GResident) (i_0 : Nat) (rec_0 : Nat → Int → Option (LR (Bool) (Int))) (b_46 : Bool) : Option (LR (Bool) (Int)) := (if b_46 = true then some (.ret false) else (if x_0.Used > 0 then ((slc s_a0.In 0 (i_0 : Int)).bind fun m51 => ((p_slices_ContainsFunc_impl_Resident_impl_Resident m51 (fun x0_ => p_impl_GoodStore_1 x0_ x_0)).bind fun v53 => p_impl_GoodStore_j1 all_22 x_0 i_0 (rec_0) v53)) else p_impl_GoodStore_j1 all_22 x_0 i_0 (rec_0) false))
def p_impl_GoodStore_l0 (s_a0 : GStore) : List GResident → Nat → Int → Option (LR (Bool) (Int))
  | [], i_0, all_22 => some (.out all_22)
  | x_0 :: r_0, i_0, all_22 => (if x_0.Name.size ≤ 9223372036854775807 then (if (goodName x_0.Name) = true then (if (i_0 : Int) > 0 then ((idx s_a0.In (IntKind.i64.wrap ((i_0 : Int) - 1))).bind fun x56 => (if (Op.bytesLess x56.Name.toList x_0.Name.toList) = true then (if (rng x_0.Size 1 100000) = true then (if (rng x_0.Held 0 1000) = true then p_impl_GoodStore_j0 s_a0 all_22 x_0 i_0 (p_impl_GoodStore_l0 s_a0 r_0) (!(rng x_0.Used 0 s_a0.Clock)) else p_impl_GoodStore_j0 s_a0 all_22 x_0 i_0 (p_impl_GoodStore_l0 s_a0 r_0) true) else p_impl_GoodStore_j0 s_a0 all_22 x_0 i_0 (p_impl_GoodStore_l0 s_a0 r_0) true) else p_impl_GoodStore_j0 s_a0 all_22 x_0 i_0 (p_impl_GoodStore_l0 s_a0 r_0) true)) else (if (rng x_0.Size 1 100000) = true then (if (rng x_0.Held 0 1000) = true then p_impl_GoodStore_j0 s_a0 all_22 x_0 i_0 (p_impl_GoodStore_l0 s_a0 r_0) (!(rng x_0.Used 0 s_a0.Clock)) else p_impl_GoodStore_j0 s_a0 all_22 x_0 i_0 (p_impl_GoodStore_l0 s_a0 r_0) true) else p_impl_GoodStore_j0 s_a0 all_22 x_0 i_0 (p_impl_GoodStore_l0 s_a0 r_0) true)) else p_impl_GoodStore_j0 s_a0 all_22 x_0 i_0 (p_impl_GoodStore_l0 s_a0 r_0) true) else none)
theorem p_impl_GoodStore_pv {F C A : Prop} (hF : F) (hC : C) (h : F → C → A := by intro hF hC; first | exact cl_by hF | (refine st_by hF ?_; (repeat' (first | exact trivial | apply And.intro)); all_goals (clear hF; first | rfl | (simp only [hC, List.length_append, List.length_cons, List.length_nil, List.append_nil, List.nil_append, List.cons_append, List.length_set, List.append_assoc, Nat.zero_add, List.length_replicate, esStore_app, esStore_cons, esStore_nil, eStore_eq, esStoreo_app, esStoreo_cons, esStoreo_nil, eStoreo_eq, esResident_app, esResident_cons, esResident_nil, eResident_eq]; done) | (simp [hC, List.length_append, List.length_cons, List.length_nil, List.append_nil, List.nil_append, List.cons_append, List.length_set, List.append_assoc, Nat.zero_add, List.length_replicate, esStore_app, esStore_cons, esStore_nil, eStore_eq, esStoreo_app, esStoreo_cons, esStoreo_nil, eStoreo_eq, esResident_app, esResident_cons, esResident_nil, eResident_eq]; done) | omega))) : A := h hF hC
theorem p_impl_GoodStore_sa {F C A : Prop} (hF : F) (hC : C) (h : F → C → A := by intro hF hC; first | exact ca_by hF | (refine sa_by hF ?_; (repeat' (first | exact trivial | apply And.intro)); all_goals (clear hF; first | rfl | (simp only [hC, List.length_append, List.length_cons, List.length_nil, List.append_nil, List.nil_append, List.cons_append, List.length_set, List.append_assoc, Nat.zero_add, List.length_replicate, esStore_app, esStore_cons, esStore_nil, eStore_eq, esStoreo_app, esStoreo_cons, esStoreo_nil, eStoreo_eq, esResident_app, esResident_cons, esResident_nil, eResident_eq]; done) | (simp [hC, List.length_append, List.length_cons, List.length_nil, List.append_nil, List.nil_append, List.cons_append, List.length_set, List.append_assoc, Nat.zero_add, List.length_replicate, esStore_app, esStore_cons, esStore_nil, eStore_eq, esStoreo_app, esStoreo_cons, esStoreo_nil, eStoreo_eq, esResident_app, esResident_cons, esResident_nil, eResident_eq]; done) | omega))) : A := h hF hC
theorem p_impl_GoodStore_rt {F C A : Prop} (hF : F) (hC : C) (h : F → C → A := by intro hF hC; first | (refine sr_by hF ?_; (repeat' (first | exact trivial | apply And.intro)); all_goals (clear hF; first | rfl | (simp only [hC, List.length_append, List.length_cons, List.length_nil, List.append_nil, List.nil_append, List.cons_append, List.length_set, List.append_assoc, Nat.zero_add, List.length_replicate, esStore_app, esStore_cons, esStore_nil, eStore_eq, esStoreo_app, esStoreo_cons, esStoreo_nil, eStoreo_eq, esResident_app, esResident_cons, esResident_nil, eResident_eq]; done) | (simp [hC, List.length_append, List.length_cons, List.length_nil, List.append_nil, List.nil_append, List.cons_append, List.length_set, List.append_assoc, Nat.zero_add, List.length_replicate, esStore_app, esStore_cons, esStore_nil, eStore_eq, esStoreo_app, esStoreo_cons, esStoreo_nil, eStoreo_eq, esResident_app, esResident_cons, esResident_nil, eResident_eq]; done) | omega)) | (first | rfl | (simp only [hC, List.length_append, List.length_cons, List.length_nil, List.append_nil, List.nil_append, List.cons_append, List.length_set, List.append_assoc, Nat.zero_add, List.length_replicate, esStore_app, esStore_cons, esStore_nil, eStore_eq, esStoreo_app, esStoreo_cons, esStoreo_nil, eStoreo_eq, esResident_app, esResident_cons, esResident_nil, eResident_eq]; done) | (simp [hC, List.length_append, List.length_cons, List.length_nil, List.append_nil, List.nil_append, List.cons_append, List.length_set, List.append_assoc, Nat.zero_add, List.length_replicate, esStore_app, esStore_cons, esStore_nil, eStore_eq, esStoreo_app, esStoreo_cons, esStoreo_nil, eStoreo_eq, esResident_app, esResident_cons, esResident_nil, eResident_eq]; done) | omega)) : A := h hF hC
def p_impl_GoodStore_tf := PLift.up (And.intro @eStore_eq (And.intro @esStore_len (And.intro @esStore_nil (And.intro @esStore_leaf (And.intro @esStore_fit (And.intro @eStoreo_eq (And.intro @esStoreo_len (And.intro @esStoreo_nil (And.intro @eResident_eq (And.intro @esResident_len (And.intro @esResident_nil (And.intro @esResident_leaf (And.intro @esResident_fit (And.intro @esStoreo_share (And.intro @esStoreo_pure (And.intro @esResident_share (And.intro @esResident_pure (And.intro @str_beq (And.intro @Ty.sl26 (And.intro @Ty.slz26 (And.intro @Ty.nz26 (And.intro @Ty.ldA26 (And.intro @Ty.ldS26 (And.intro @Ty.sz26 (And.intro @Ty.szn26 (And.intro @Ty.nz45 (And.intro @Ty.ldA45 (And.intro @Ty.sz45 (And.intro @Ty.szn45 (And.intro @Ty.nz9 (And.intro @Ty.ldA9 (And.intro @Ty.ldS9 (And.intro @Ty.sz9 (And.intro @Ty.szn9 (And.intro @Ty.nz3 (And.intro @Ty.ldA3 (And.intro @Ty.ldS3 (And.intro @Ty.sz3 (And.intro @Ty.szn3 (And.intro @Ty.fo28_2 (And.intro @Ty.fk28_2 (And.intro @Ty.fs28_2 (And.intro @Ty.fn28_2 (And.intro @Ty.fo45_0 (And.intro @Ty.fk45_0 (And.intro @Ty.fs45_0 (And.intro @Ty.fn45_0 (And.intro @Ty.fo45_1 (And.intro @Ty.fk45_1 (And.intro @Ty.fs45_1 (And.intro @Ty.fn45_1 (And.intro @Ty.fo45_2 (And.intro @Ty.fk45_2 (And.intro @Ty.fs45_2 (And.intro @Ty.fn45_2 (And.intro @Ty.fo45_3 (And.intro @Ty.fk45_3 (And.intro @Ty.fs45_3 (And.intro @Ty.fn45_3 (And.intro @Ty.fo28_1 (And.intro @Ty.fk28_1 (And.intro @Ty.fs28_1 (And.intro @Ty.fn28_1 (And.intro @Ty.fo28_0 (And.intro @Ty.fk28_0 (And.intro @Ty.fs28_0 (And.intro @Ty.fn28_0 (And.intro @Ty.nze26 (And.intro @Ty.zok26 (And.intro @Ty.by26 (And.intro @Ty.zs26 (And.intro @Ty.zv45 @trivial))))))))))))))))))))))))))))))))))))))))))))))))))))))))))))))))))))))))
def p_impl_GoodStore (s_a0 : GStore) : Option (Bool) := ((p_impl_GoodStore_l0 s_a0 s_a0.In 0 0).bind fun q_0 => match q_0 with | .ret r_ => some r_ | .out all_22 => (if (rng s_a0.Budget 1 100000) = true then (if (rng s_a0.Clock 0 100000) = true then (if (s_a0.In.length : Int) ≤ 30 then some (decide (all_22 ≤ s_a0.Budget)) else some false) else some false) else some false))
theorem p_impl_GoodStore_does (s_a0 : GStore) (r : Bool) (h : p_impl_GoodStore s_a0 = some r) : Does Try.prog 21 [.agg (eStore s_a0)] (B r) := by
  rw [p_impl_GoodStore] at h
  refine Does.bnd (fun hb => ?_)
  have hb2 : s_a0.In.length ≤ 9223372036854775807 := by simpa [AV.fitNs, AV.fitN, eStore] using hb
  have hl0 := hb2
  refine Does.walk (nt := 90) Try.func21 rfl rfl (by simp) (by decide) rfl (fun G0 X w0 pv => ?_)
  have hL_0 : s_a0.In.length ≤ 9223372036854775807 := by first | assumption | omega
  obtain ⟨q_0, eq_0, h⟩ := Option.bind_eq_some_iff.1 h
  have ff := p_impl_GoodStore_tf.down
  try refine st_by ff ?_
  repeat' (first | exact trivial | refine And.intro sd ?_)
  obtain ⟨I_0, hI_0⟩ : ∃ I_ : (Nat × Int) → ASt → Prop, I_ = (fun (a : Nat × Int) σ => match a with | (i_0, all_22) => (i_0 ≤ s_a0.In.length ∧ p_impl_GoodStore_l0 s_a0 (s_a0.In.drop i_0) i_0 all_22 = some q_0) ∧ σ.t 1 = .ptr 1 [] 0 ∧ σ.t 3 = I all_22 ∧ σ.t 7 = .row false 4 s_a0.In.length (esResident s_a0.In) ∧ σ.t 8 = I (s_a0.In.length : Int) ∧ σ.t 9 = I (i_0 : Int) ∧ σ.m 1 = some (.box true [I s_a0.Budget, I s_a0.Clock, .row false 4 s_a0.In.length (esResident s_a0.In)])) := ⟨_, rfl⟩
  obtain ⟨M_0, hM_0⟩ : ∃ M_ : (Nat × Int) → Nat, M_ = (fun (a : Nat × Int) => match a with | (i_0, all_22) => s_a0.In.length - i_0) := ⟨_, rfl⟩
  obtain ⟨J_0, hJ_0⟩ : ∃ J_ : ASt → Prop, J_ = (fun σ => ∃ all_22 : Int, (some (.out all_22) = some q_0) ∧ σ.t 1 = .ptr 1 [] 0 ∧ σ.t 3 = I all_22 ∧ σ.m 1 = some (.box true [I s_a0.Budget, I s_a0.Clock, .row false 4 s_a0.In.length (esResident s_a0.In)])) := ⟨_, rfl⟩
  refine aw_loopC (id := 0) I_0 M_0 J_0 (0, 0) ?_ ?_ ?_
  · rw [hI_0]
    refine ⟨⟨Nat.zero_le _, eq_0⟩, ?_⟩
    exact p_impl_GoodStore_pv ff trivial
  · try clear ff
    rintro ⟨i_0, all_22⟩ σ hg_0
    rw [hI_0] at hg_0
    obtain ⟨⟨hi_0, h_0⟩, g0_0, g1_0, g2_0, g3_0, g4_0, g5_0⟩ := hg_0
    cases hr_0 : s_a0.In.drop i_0 with
    | nil =>
      rw [hr_0] at h_0
      rw [p_impl_GoodStore_l0] at h_0
      have hn_0 := drop_nil hr_0
      have dr_0 : decide ((i_0 : Int) < (s_a0.In.length : Int)) = false := decide_eq_false (by omega)
      have ff := And.intro @dr_0 (And.intro @g0_0 (And.intro @g1_0 (And.intro @g2_0 (And.intro @g3_0 (And.intro @g4_0 (And.intro @g5_0 p_impl_GoodStore_tf.down))))))
      try refine st_by ff ?_
      repeat' (first | exact trivial | refine And.intro sd ?_)
      refine JW.intro ?_
      rw [hJ_0]
      refine ⟨all_22, h_0, ?_⟩
      exact p_impl_GoodStore_pv ff trivial
    | cons x_0 r_0 =>
      rw [hr_0] at h_0
      rw [p_impl_GoodStore_l0] at h_0
      obtain ⟨ht_0, hg_0, hd_0⟩ := drop_cons hr_0
      have dr_0 : decide ((i_0 : Int) < (s_a0.In.length : Int)) = true := decide_eq_true (by omega)
      have w_0 : IntKind.i64.wrap ((i_0 : Int) + 1) = ((i_0 + 1 : Nat) : Int) := wI _ (by omega) (by omega)
      have kk0c : (esResident s_a0.In).drop (i_0 * 4) = eResident x_0 ++ esResident (s_a0.In.drop (i_0 + 1)) := drop_enc (fun _ => rfl) (hg_0)
      by_cases c45 : x_0.Name.size ≤ 9223372036854775807
      case neg => rw [if_neg c45] at h_0; cases h_0
      rw [if_pos c45] at h_0
      have ff := And.intro @dr_0 (And.intro @w_0 (And.intro @g0_0 (And.intro @g1_0 (And.intro @g2_0 (And.intro @g3_0 (And.intro @g4_0 (And.intro @g5_0 (And.intro @kk0c p_impl_GoodStore_tf.down))))))))
      try refine st_by ff ?_
      repeat' (first | exact trivial | refine And.intro sd ?_ | (refine aw_drawn (id := 5) ?_ [[], [0], [0, 1], [0, 1, 2], [0, 1, 2, 3], [0, 1, 2, 3, 4], [0, 1, 2, 3, 4, 5], [0, 1, 2, 3, 4, 5, 6], [0, 1, 2, 3, 4, 5, 6, 7], [0, 1, 2, 3, 4, 5, 6, 7, 8], [0, 1, 2, 3, 4, 5, 6, 7], [0, 1, 2, 3, 4, 5, 6, 7, 10], [0, 1, 2, 3, 4, 5, 6, 7, 8, 9, 10, 11], [0, 1, 2, 3, 4, 5, 6, 7, 8, 9, 10, 11, 12], [0, 1, 2, 3, 4, 5, 6, 7, 8, 9, 10, 11, 12, 13], [0, 1, 2, 3, 4, 5, 6, 7], [0, 1, 2, 3, 4, 5, 6, 7, 15], [0, 1, 2, 3, 4, 5, 6, 7, 8, 9, 10, 11, 12, 13, 14, 15, 16], [0, 1, 2, 3, 4, 5, 6, 7, 8, 9, 10, 11, 12, 13, 14, 15, 16, 17], [0, 1, 2, 3, 4, 5, 6, 7, 8, 9, 10, 11, 12, 13, 14, 15, 16, 17, 18], [0, 1, 2, 3, 4, 5, 6, 7, 8, 9, 10, 11, 12, 13, 14, 15, 16, 17, 18, 19], [0, 1, 2, 3, 4, 5, 6, 7, 8, 9, 10, 11, 12, 13, 14, 15, 16, 17, 18, 19, 20], [0, 1, 2, 3, 4, 5, 6, 7, 8, 9, 10, 11, 12, 13, 14, 15, 16, 17, 18, 19, 20, 21], [0, 1, 2, 3, 4, 5, 6, 7, 8, 9, 10, 11, 12, 13, 14, 15, 16, 17, 18, 19, 20, 21, 22], [0, 1, 2, 3, 4, 5, 6, 7, 8, 9, 10, 11, 12, 13, 14, 15, 16, 17, 18, 19, 20, 21, 22, 23], [0, 1, 2, 3, 4, 5, 6, 7, 8, 9, 10, 11, 12, 13, 14, 15, 16, 17, 18, 19, 20, 21, 22, 23, 24], [0, 1, 2, 3, 4, 5, 6, 7, 8, 9, 10, 11, 12, 13, 14, 15, 16, 17, 18, 19, 20, 21, 22, 23, 24, 25], [0, 1, 2, 3, 4, 5, 6, 7, 8, 9, 10, 11, 12, 13, 14, 15, 16, 17, 18, 19, 20, 21, 22, 23, 24, 25, 26], [0, 1, 2, 3, 4, 5, 6, 7, 8, 9, 10, 11, 12, 13, 14, 15, 16, 17, 18, 19, 20, 21, 22, 23, 24, 25, 26, 27], [0, 1, 2, 3, 4, 5, 6, 7, 8, 9, 10, 11, 12, 13, 14, 15, 16, 17, 18, 19, 20, 21, 22, 23, 24, 25, 26, 27, 28], [0, 1, 2, 3, 4, 5, 6, 7, 8, 9, 10, 11, 12, 13, 14, 15, 16, 17, 18, 19, 20, 21, 22, 23, 24, 25, 26, 27, 28, 29], [0, 1, 2, 3, 4, 5, 6, 7, 8, 9, 10, 11, 12, 13, 14, 15, 16, 17, 18, 19, 20, 21, 22, 23, 24, 25, 26, 27, 28, 29, 30], [0, 1, 2, 3, 4, 5, 6, 7, 8, 9, 10, 11, 12, 13, 14, 15, 16, 17, 18, 19, 20, 21, 22, 23, 24, 25, 26, 27, 28, 29, 30, 31], [0, 1, 2, 3, 4, 5, 6, 7, 8, 9, 10, 11, 12, 13, 14, 15, 16, 17, 18, 19, 20, 21, 22, 23, 24, 25, 26, 27, 28, 29, 30, 31, 32], [0, 1, 2, 3, 4, 5, 6, 7, 8, 9, 10, 11, 12, 13, 14, 15, 16, 17, 18, 19, 20, 21, 22, 23, 24, 25, 26, 27, 28, 29, 30, 31, 32, 33], [0, 1, 2, 3, 4, 5, 6, 7, 8, 9, 10, 11, 12, 13, 14, 15, 16, 17, 18, 19, 20, 21, 22, 23, 24, 25, 26, 27, 28, 29, 30, 31, 32], [0, 1, 2, 3, 4, 5, 6, 7, 8, 9, 10, 11, 12, 13, 14, 15, 16, 17, 18, 19, 20, 21, 22, 23, 24, 25, 26, 27, 28, 29, 30, 31, 32, 35], [0, 1, 2, 3, 4, 5, 6, 7, 8, 9, 10, 11, 12, 13, 14, 15, 16, 17, 18, 19, 20, 21, 22, 23, 24, 25, 26, 27, 28, 29, 30, 31, 32, 33, 34, 35, 36], [0, 1, 2, 3, 4, 5, 6, 7, 8, 9, 10, 11, 12, 13, 14, 15, 16, 17, 18, 19, 20, 21, 22, 23, 24, 25, 26, 27, 28, 29, 30, 31, 32, 33, 34, 35, 36, 37], [0, 1, 2, 3, 4, 5, 6, 7, 8, 9, 10, 11, 12, 13, 14, 15, 16, 17, 18, 19, 20, 21, 22, 23, 24, 25, 26, 27, 28, 29, 30, 31, 32, 33, 34, 35, 36, 37, 38]] 37 ?_ ?_; (· kernel_rfl); (· kernel_rfl); refine st_by ff ?_))
      first
      | (refine cq_call (implGoodName_does x_0.Name (by first | assumption | omega)) (hf_by ff) kr ⟨p_impl_GoodStore_sa ff trivial, ?_⟩; clear ff)
      | (refine cq_dcall (implGoodName_does x_0.Name (by first | assumption | omega)) (hf_by ff) kr ⟨p_impl_GoodStore_sa ff trivial, ?_⟩; clear ff)
      have ff := And.intro @dr_0 (And.intro @w_0 (And.intro @g0_0 (And.intro @g1_0 (And.intro @g2_0 (And.intro @g3_0 (And.intro @g4_0 (And.intro @g5_0 (And.intro @kk0c p_impl_GoodStore_tf.down))))))))
      try refine st_by ff ?_
      repeat' (first | exact trivial | refine And.intro sd ?_)
      try clear ff
      generalize hk_0 : thenK _ _ = kk_0
      have key_0 : ∀ σ, (∃ b_46 : Bool, (p_impl_GoodStore_j0 s_a0 all_22 x_0 i_0 (p_impl_GoodStore_l0 s_a0 r_0) b_46 = some q_0) ∧ σ.t 1 = .ptr 1 [] 0 ∧ σ.t 3 = I all_22 ∧ σ.t 4 = I (i_0 : Int) ∧ σ.t 5 = .ptr 5 [] 0 ∧ σ.t 7 = .row false 4 s_a0.In.length (esResident s_a0.In) ∧ σ.t 8 = I (s_a0.In.length : Int) ∧ σ.t 9 = I (i_0 : Int) ∧ σ.t 53 = B b_46 ∧ σ.m 1 = some (.box true [I s_a0.Budget, I s_a0.Clock, .row false 4 s_a0.In.length (esResident s_a0.In)]) ∧ σ.m 5 = some (.box true [S x_0.Name, I x_0.Size, I x_0.Held, I x_0.Used])) → kk_0 .nm σ := by
        rintro σ ⟨b_46, h_0, g0_j0, g1_j0, g2_j0, g3_j0, g4_j0, g5_j0, g6_j0, g7_j0, g8_j0, g9_j0⟩
        rw [← hk_0]
        rw [p_impl_GoodStore_j0] at h_0
        by_cases c47 : b_46 = true
        · rw [if_pos c47] at h_0
          have dc47 := c47
          cases h_0
          try dsimp only at h
          have ff := And.intro @dr_0 (And.intro @w_0 (And.intro @kk0c (And.intro @g0_j0 (And.intro @g1_j0 (And.intro @g2_j0 (And.intro @g3_j0 (And.intro @g4_j0 (And.intro @g5_j0 (And.intro @g6_j0 (And.intro @g7_j0 (And.intro @g8_j0 (And.intro @g9_j0 (And.intro @dc47 p_impl_GoodStore_tf.down)))))))))))))
          try refine st_by ff ?_
          repeat' (first | exact trivial | refine And.intro sd ?_)
          cases h
          exact ret_q1 rfl (p_impl_GoodStore_rt ff trivial)
        rw [if_neg c47] at h_0
        have dc47 := eq_false_of_ne_true c47
        have ff := And.intro @dr_0 (And.intro @w_0 (And.intro @kk0c (And.intro @g0_j0 (And.intro @g1_j0 (And.intro @g2_j0 (And.intro @g3_j0 (And.intro @g4_j0 (And.intro @g5_j0 (And.intro @g6_j0 (And.intro @g7_j0 (And.intro @g8_j0 (And.intro @g9_j0 (And.intro @dc47 p_impl_GoodStore_tf.down)))))))))))))
        try refine st_by ff ?_
        repeat' (first | exact trivial | refine And.intro sd ?_)
        try clear ff
        generalize hk_1 : thenK _ _ = kk_1
        have key_1 : ∀ σ, (∃ b_48 : Bool, (p_impl_GoodStore_j1 all_22 x_0 i_0 (p_impl_GoodStore_l0 s_a0 r_0) b_48 = some q_0) ∧ σ.t 1 = .ptr 1 [] 0 ∧ σ.t 3 = I all_22 ∧ σ.t 5 = .ptr 5 [] 0 ∧ σ.t 7 = .row false 4 s_a0.In.length (esResident s_a0.In) ∧ σ.t 8 = I (s_a0.In.length : Int) ∧ σ.t 9 = I (i_0 : Int) ∧ σ.t 64 = B b_48 ∧ σ.m 1 = some (.box true [I s_a0.Budget, I s_a0.Clock, .row false 4 s_a0.In.length (esResident s_a0.In)]) ∧ σ.m 5 = some (.box true [S x_0.Name, I x_0.Size, I x_0.Held, I x_0.Used])) → kk_1 .nm σ := by
          rintro σ ⟨b_48, h_0, g0_j1, g1_j1, g2_j1, g3_j1, g4_j1, g5_j1, g6_j1, g7_j1, g8_j1⟩
          rw [← hk_1]
          rw [p_impl_GoodStore_j1] at h_0
          by_cases c49 : b_48 = true
          · rw [if_pos c49] at h_0
            have dc49 := c49
            cases h_0
            try dsimp only at h
            have ff := And.intro @dr_0 (And.intro @w_0 (And.intro @kk0c (And.intro @dc47 (And.intro @g0_j1 (And.intro @g1_j1 (And.intro @g2_j1 (And.intro @g3_j1 (And.intro @g4_j1 (And.intro @g5_j1 (And.intro @g6_j1 (And.intro @g7_j1 (And.intro @g8_j1 (And.intro @dc49 p_impl_GoodStore_tf.down)))))))))))))
            try refine st_by ff ?_
            repeat' (first | exact trivial | refine And.intro sd ?_)
            cases h
            exact ret_q1 rfl (p_impl_GoodStore_rt ff trivial)
          rw [if_neg c49] at h_0
          have dc49 := eq_false_of_ne_true c49
          have ff := And.intro @dr_0 (And.intro @w_0 (And.intro @kk0c (And.intro @dc47 (And.intro @g0_j1 (And.intro @g1_j1 (And.intro @g2_j1 (And.intro @g3_j1 (And.intro @g4_j1 (And.intro @g5_j1 (And.intro @g6_j1 (And.intro @g7_j1 (And.intro @g8_j1 (And.intro @dc49 p_impl_GoodStore_tf.down)))))))))))))
          try refine st_by ff ?_
          repeat' (first | exact trivial | refine And.intro sd ?_)
          refine Back.intro (i_0 + 1, (IntKind.i64.wrap (all_22 + x_0.Size))) ?_ ?_
          · clear ff; rw [hM_0]; show s_a0.In.length - (i_0 + 1) < s_a0.In.length - i_0; omega
          rw [hI_0]
          refine ⟨⟨by clear ff; show i_0 + 1 ≤ s_a0.In.length; omega, by show p_impl_GoodStore_l0 s_a0 (s_a0.In.drop (i_0 + 1)) (i_0 + 1) (IntKind.i64.wrap (all_22 + x_0.Size)) = some q_0; rw [hd_0]; exact h_0⟩, ?_⟩
          exact p_impl_GoodStore_pv ff trivial
        have hrt_1 := fun σ : ASt => congrFun (congrFun hk_1.symm AX.rt) σ
        have hex_1 := fun (i : Nat) (σ : ASt) => congrFun (congrFun hk_1.symm (AX.ex i)) σ
        by_cases c50 : x_0.Used > 0
        case neg =>
         rw [if_neg c50] at h_0
         have dc50 := decide_eq_false c50
         have ff := And.intro @dr_0 (And.intro @w_0 (And.intro @kk0c (And.intro @g0_j0 (And.intro @g1_j0 (And.intro @g2_j0 (And.intro @g3_j0 (And.intro @g4_j0 (And.intro @g5_j0 (And.intro @g6_j0 (And.intro @g7_j0 (And.intro @g8_j0 (And.intro @g9_j0 (And.intro @dc47 (And.intro @hrt_1 (And.intro @hex_1 (And.intro @dc50 p_impl_GoodStore_tf.down))))))))))))))))
         try refine st_by ff ?_
         repeat' (first | exact trivial | refine And.intro sd ?_)
         refine key_1 _ ?_
         refine ⟨false, h_0, ?_⟩
         exact p_impl_GoodStore_pv ff trivial
        rw [if_pos c50] at h_0
        have dc50 := decide_eq_true c50
        obtain ⟨m51, em51, h_0⟩ := Option.bind_eq_some_iff.1 h_0
        try dsimp only at h_0
        obtain ⟨f52a, f52b⟩ := slc_ok em51
        have f52c : (esResident s_a0.In).take (i_0 * 4) = esResident m51 := slc_encL (enc := eResident) (fun _ => rfl) em51
        have f52d : m51.length = i_0 := (slc_lenL em51).symm
        obtain ⟨v53, ev53, h_0⟩ := Option.bind_eq_some_iff.1 h_0
        try dsimp only at h_0
        have ff := And.intro @dr_0 (And.intro @w_0 (And.intro @kk0c (And.intro @g0_j0 (And.intro @g1_j0 (And.intro @g2_j0 (And.intro @g3_j0 (And.intro @g4_j0 (And.intro @g5_j0 (And.intro @g6_j0 (And.intro @g7_j0 (And.intro @g8_j0 (And.intro @g9_j0 (And.intro @dc47 (And.intro @hrt_1 (And.intro @hex_1 (And.intro @dc50 (And.intro @f52c p_impl_GoodStore_tf.down)))))))))))))))))
        try refine st_by ff ?_
        repeat' (first | exact trivial | refine And.intro sd ?_)
        first
        | (refine cq_lend (p_slices_ContainsFunc_impl_Resident_impl_Resident_does m51 40 [.box false (eResident x_0)] (by simp [AV.noRefs, AV.noRef]) kr (fun x0_ => p_impl_GoodStore_1 x0_ x_0) (fun x0_ y_ h_ => p_impl_GoodStore_1_does x0_ x_0 y_ h_) v53 ev53) (hf_by ff) kr ⟨p_impl_GoodStore_sa ff @f52d, ?_⟩; clear ff)
        | (refine cq_dlend (p_slices_ContainsFunc_impl_Resident_impl_Resident_does m51 40 [.box false (eResident x_0)] (by simp [AV.noRefs, AV.noRef]) kr (fun x0_ => p_impl_GoodStore_1 x0_ x_0) (fun x0_ y_ h_ => p_impl_GoodStore_1_does x0_ x_0 y_ h_) v53 ev53) (hf_by ff) kr ⟨p_impl_GoodStore_sa ff @f52d, ?_⟩; clear ff)
        have ff := And.intro @dr_0 (And.intro @w_0 (And.intro @kk0c (And.intro @g0_j0 (And.intro @g1_j0 (And.intro @g2_j0 (And.intro @g3_j0 (And.intro @g4_j0 (And.intro @g5_j0 (And.intro @g6_j0 (And.intro @g7_j0 (And.intro @g8_j0 (And.intro @g9_j0 (And.intro @dc47 (And.intro @hrt_1 (And.intro @hex_1 (And.intro @dc50 (And.intro @f52c p_impl_GoodStore_tf.down)))))))))))))))))
        try refine st_by ff ?_
        repeat' (first | exact trivial | refine And.intro sd ?_)
        refine key_1 _ ?_
        refine ⟨v53, h_0, ?_⟩
        exact p_impl_GoodStore_pv ff @f52d
      have hrt_0 := fun σ : ASt => congrFun (congrFun hk_0.symm AX.rt) σ
      have hex_0 := fun (i : Nat) (σ : ASt) => congrFun (congrFun hk_0.symm (AX.ex i)) σ
      by_cases c54 : (goodName x_0.Name) = true
      case neg =>
       rw [if_neg c54] at h_0
       have dc54 := eq_false_of_ne_true c54
       have ff := And.intro @dr_0 (And.intro @w_0 (And.intro @g0_0 (And.intro @g1_0 (And.intro @g2_0 (And.intro @g3_0 (And.intro @g4_0 (And.intro @g5_0 (And.intro @kk0c (And.intro @hrt_0 (And.intro @hex_0 (And.intro @dc54 p_impl_GoodStore_tf.down)))))))))))
       try refine st_by ff ?_
       repeat' (first | exact trivial | refine And.intro sd ?_)
       refine key_0 _ ?_
       refine ⟨true, h_0, ?_⟩
       exact p_impl_GoodStore_pv ff trivial
      rw [if_pos c54] at h_0
      have dc54 := c54
      by_cases c55 : (i_0 : Int) > 0
      case neg =>
       rw [if_neg c55] at h_0
       have dc55 := decide_eq_false c55
       have ff := And.intro @dr_0 (And.intro @w_0 (And.intro @g0_0 (And.intro @g1_0 (And.intro @g2_0 (And.intro @g3_0 (And.intro @g4_0 (And.intro @g5_0 (And.intro @kk0c (And.intro @hrt_0 (And.intro @hex_0 (And.intro @dc54 (And.intro @dc55 p_impl_GoodStore_tf.down))))))))))))
       try refine st_by ff ?_
       repeat' (first | exact trivial | refine And.intro sd ?_)
       first
       | (refine cq_call (inRange_does x_0.Size 1 100000) (hf_by ff) kr ⟨p_impl_GoodStore_sa ff trivial, ?_⟩; clear ff)
       | (refine cq_dcall (inRange_does x_0.Size 1 100000) (hf_by ff) kr ⟨p_impl_GoodStore_sa ff trivial, ?_⟩; clear ff)
       by_cases c61 : (rng x_0.Size 1 100000) = true
       case neg =>
        rw [if_neg c61] at h_0
        have dc61 := eq_false_of_ne_true c61
        have ff := And.intro @dr_0 (And.intro @w_0 (And.intro @g0_0 (And.intro @g1_0 (And.intro @g2_0 (And.intro @g3_0 (And.intro @g4_0 (And.intro @g5_0 (And.intro @kk0c (And.intro @hrt_0 (And.intro @hex_0 (And.intro @dc54 (And.intro @dc55 (And.intro @dc61 p_impl_GoodStore_tf.down)))))))))))))
        try refine st_by ff ?_
        repeat' (first | exact trivial | refine And.intro sd ?_)
        refine key_0 _ ?_
        refine ⟨true, h_0, ?_⟩
        exact p_impl_GoodStore_pv ff trivial
       rw [if_pos c61] at h_0
       have dc61 := c61
       have ff := And.intro @dr_0 (And.intro @w_0 (And.intro @g0_0 (And.intro @g1_0 (And.intro @g2_0 (And.intro @g3_0 (And.intro @g4_0 (And.intro @g5_0 (And.intro @kk0c (And.intro @hrt_0 (And.intro @hex_0 (And.intro @dc54 (And.intro @dc55 (And.intro @dc61 p_impl_GoodStore_tf.down)))))))))))))
       try refine st_by ff ?_
       repeat' (first | exact trivial | refine And.intro sd ?_)
       first
       | (refine cq_call (inRange_does x_0.Held 0 1000) (hf_by ff) kr ⟨p_impl_GoodStore_sa ff trivial, ?_⟩; clear ff)
       | (refine cq_dcall (inRange_does x_0.Held 0 1000) (hf_by ff) kr ⟨p_impl_GoodStore_sa ff trivial, ?_⟩; clear ff)
       by_cases c62 : (rng x_0.Held 0 1000) = true
       case neg =>
        rw [if_neg c62] at h_0
        have dc62 := eq_false_of_ne_true c62
        have ff := And.intro @dr_0 (And.intro @w_0 (And.intro @g0_0 (And.intro @g1_0 (And.intro @g2_0 (And.intro @g3_0 (And.intro @g4_0 (And.intro @g5_0 (And.intro @kk0c (And.intro @hrt_0 (And.intro @hex_0 (And.intro @dc54 (And.intro @dc55 (And.intro @dc61 (And.intro @dc62 p_impl_GoodStore_tf.down))))))))))))))
        try refine st_by ff ?_
        repeat' (first | exact trivial | refine And.intro sd ?_)
        refine key_0 _ ?_
        refine ⟨true, h_0, ?_⟩
        exact p_impl_GoodStore_pv ff trivial
       rw [if_pos c62] at h_0
       have dc62 := c62
       have ff := And.intro @dr_0 (And.intro @w_0 (And.intro @g0_0 (And.intro @g1_0 (And.intro @g2_0 (And.intro @g3_0 (And.intro @g4_0 (And.intro @g5_0 (And.intro @kk0c (And.intro @hrt_0 (And.intro @hex_0 (And.intro @dc54 (And.intro @dc55 (And.intro @dc61 (And.intro @dc62 p_impl_GoodStore_tf.down))))))))))))))
       try refine st_by ff ?_
       repeat' (first | exact trivial | refine And.intro sd ?_)
       first
       | (refine cq_call (inRange_does x_0.Used 0 s_a0.Clock) (hf_by ff) kr ⟨p_impl_GoodStore_sa ff trivial, ?_⟩; clear ff)
       | (refine cq_dcall (inRange_does x_0.Used 0 s_a0.Clock) (hf_by ff) kr ⟨p_impl_GoodStore_sa ff trivial, ?_⟩; clear ff)
       have ff := And.intro @dr_0 (And.intro @w_0 (And.intro @g0_0 (And.intro @g1_0 (And.intro @g2_0 (And.intro @g3_0 (And.intro @g4_0 (And.intro @g5_0 (And.intro @kk0c (And.intro @hrt_0 (And.intro @hex_0 (And.intro @dc54 (And.intro @dc55 (And.intro @dc61 (And.intro @dc62 p_impl_GoodStore_tf.down))))))))))))))
       try refine st_by ff ?_
       repeat' (first | exact trivial | refine And.intro sd ?_)
       refine key_0 _ ?_
       refine ⟨!(rng x_0.Used 0 s_a0.Clock), h_0, ?_⟩
       exact p_impl_GoodStore_pv ff trivial
      rw [if_pos c55] at h_0
      have dc55 := decide_eq_true c55
      obtain ⟨x56, ex56, h_0⟩ := Option.bind_eq_some_iff.1 h_0
      try dsimp only at h_0
      have f57a := idx_lo ex56
      have f57b := idx_hi ex56
      have f57c : (esResident s_a0.In).drop (((IntKind.i64.wrap ((i_0 : Int) - 1)).toNat) * 4) = eResident x56 ++ esResident (s_a0.In.drop ((IntKind.i64.wrap ((i_0 : Int) - 1)).toNat + 1)) := drop_enc (fun _ => rfl) (idx_get ex56)
      by_cases c58 : (Op.bytesLess x56.Name.toList x_0.Name.toList) = true
      case neg =>
       rw [if_neg c58] at h_0
       have dc58 := eq_false_of_ne_true c58
       have ff := And.intro @dr_0 (And.intro @w_0 (And.intro @g0_0 (And.intro @g1_0 (And.intro @g2_0 (And.intro @g3_0 (And.intro @g4_0 (And.intro @g5_0 (And.intro @kk0c (And.intro @hrt_0 (And.intro @hex_0 (And.intro @dc54 (And.intro @dc55 (And.intro @f57c (And.intro @dc58 p_impl_GoodStore_tf.down))))))))))))))
       try refine st_by ff ?_
       repeat' (first | exact trivial | refine And.intro sd ?_)
       refine key_0 _ ?_
       refine ⟨true, h_0, ?_⟩
       exact p_impl_GoodStore_pv ff trivial
      rw [if_pos c58] at h_0
      have dc58 := c58
      have ff := And.intro @dr_0 (And.intro @w_0 (And.intro @g0_0 (And.intro @g1_0 (And.intro @g2_0 (And.intro @g3_0 (And.intro @g4_0 (And.intro @g5_0 (And.intro @kk0c (And.intro @hrt_0 (And.intro @hex_0 (And.intro @dc54 (And.intro @dc55 (And.intro @f57c (And.intro @dc58 p_impl_GoodStore_tf.down))))))))))))))
      try refine st_by ff ?_
      repeat' (first | exact trivial | refine And.intro sd ?_)
      first
      | (refine cq_call (inRange_does x_0.Size 1 100000) (hf_by ff) kr ⟨p_impl_GoodStore_sa ff trivial, ?_⟩; clear ff)
      | (refine cq_dcall (inRange_does x_0.Size 1 100000) (hf_by ff) kr ⟨p_impl_GoodStore_sa ff trivial, ?_⟩; clear ff)
      by_cases c59 : (rng x_0.Size 1 100000) = true
      case neg =>
       rw [if_neg c59] at h_0
       have dc59 := eq_false_of_ne_true c59
       have ff := And.intro @dr_0 (And.intro @w_0 (And.intro @g0_0 (And.intro @g1_0 (And.intro @g2_0 (And.intro @g3_0 (And.intro @g4_0 (And.intro @g5_0 (And.intro @kk0c (And.intro @hrt_0 (And.intro @hex_0 (And.intro @dc54 (And.intro @dc55 (And.intro @f57c (And.intro @dc58 (And.intro @dc59 p_impl_GoodStore_tf.down)))))))))))))))
       try refine st_by ff ?_
       repeat' (first | exact trivial | refine And.intro sd ?_)
       refine key_0 _ ?_
       refine ⟨true, h_0, ?_⟩
       exact p_impl_GoodStore_pv ff trivial
      rw [if_pos c59] at h_0
      have dc59 := c59
      have ff := And.intro @dr_0 (And.intro @w_0 (And.intro @g0_0 (And.intro @g1_0 (And.intro @g2_0 (And.intro @g3_0 (And.intro @g4_0 (And.intro @g5_0 (And.intro @kk0c (And.intro @hrt_0 (And.intro @hex_0 (And.intro @dc54 (And.intro @dc55 (And.intro @f57c (And.intro @dc58 (And.intro @dc59 p_impl_GoodStore_tf.down)))))))))))))))
      try refine st_by ff ?_
      repeat' (first | exact trivial | refine And.intro sd ?_)
      first
      | (refine cq_call (inRange_does x_0.Held 0 1000) (hf_by ff) kr ⟨p_impl_GoodStore_sa ff trivial, ?_⟩; clear ff)
      | (refine cq_dcall (inRange_does x_0.Held 0 1000) (hf_by ff) kr ⟨p_impl_GoodStore_sa ff trivial, ?_⟩; clear ff)
      by_cases c60 : (rng x_0.Held 0 1000) = true
      case neg =>
       rw [if_neg c60] at h_0
       have dc60 := eq_false_of_ne_true c60
       have ff := And.intro @dr_0 (And.intro @w_0 (And.intro @g0_0 (And.intro @g1_0 (And.intro @g2_0 (And.intro @g3_0 (And.intro @g4_0 (And.intro @g5_0 (And.intro @kk0c (And.intro @hrt_0 (And.intro @hex_0 (And.intro @dc54 (And.intro @dc55 (And.intro @f57c (And.intro @dc58 (And.intro @dc59 (And.intro @dc60 p_impl_GoodStore_tf.down))))))))))))))))
       try refine st_by ff ?_
       repeat' (first | exact trivial | refine And.intro sd ?_)
       refine key_0 _ ?_
       refine ⟨true, h_0, ?_⟩
       exact p_impl_GoodStore_pv ff trivial
      rw [if_pos c60] at h_0
      have dc60 := c60
      have ff := And.intro @dr_0 (And.intro @w_0 (And.intro @g0_0 (And.intro @g1_0 (And.intro @g2_0 (And.intro @g3_0 (And.intro @g4_0 (And.intro @g5_0 (And.intro @kk0c (And.intro @hrt_0 (And.intro @hex_0 (And.intro @dc54 (And.intro @dc55 (And.intro @f57c (And.intro @dc58 (And.intro @dc59 (And.intro @dc60 p_impl_GoodStore_tf.down))))))))))))))))
      try refine st_by ff ?_
      repeat' (first | exact trivial | refine And.intro sd ?_)
      first
      | (refine cq_call (inRange_does x_0.Used 0 s_a0.Clock) (hf_by ff) kr ⟨p_impl_GoodStore_sa ff trivial, ?_⟩; clear ff)
      | (refine cq_dcall (inRange_does x_0.Used 0 s_a0.Clock) (hf_by ff) kr ⟨p_impl_GoodStore_sa ff trivial, ?_⟩; clear ff)
      have ff := And.intro @dr_0 (And.intro @w_0 (And.intro @g0_0 (And.intro @g1_0 (And.intro @g2_0 (And.intro @g3_0 (And.intro @g4_0 (And.intro @g5_0 (And.intro @kk0c (And.intro @hrt_0 (And.intro @hex_0 (And.intro @dc54 (And.intro @dc55 (And.intro @f57c (And.intro @dc58 (And.intro @dc59 (And.intro @dc60 p_impl_GoodStore_tf.down))))))))))))))))
      try refine st_by ff ?_
      repeat' (first | exact trivial | refine And.intro sd ?_)
      refine key_0 _ ?_
      refine ⟨!(rng x_0.Used 0 s_a0.Clock), h_0, ?_⟩
      exact p_impl_GoodStore_pv ff trivial
  · try clear ff
    rintro σ hg_0
    rw [hJ_0] at hg_0
    obtain ⟨all_22, hj_0, g0_0a, g1_0a, g2_0a⟩ := hg_0
    cases hj_0
    try dsimp only at h
    have ff := And.intro @g0_0a (And.intro @g1_0a (And.intro @g2_0a p_impl_GoodStore_tf.down))
    try refine st_by ff ?_
    repeat' (first | exact trivial | refine And.intro sd ?_)
    first
    | (refine cq_call (inRange_does s_a0.Budget 1 100000) (hf_by ff) kr ⟨p_impl_GoodStore_sa ff trivial, ?_⟩; clear ff)
    | (refine cq_dcall (inRange_does s_a0.Budget 1 100000) (hf_by ff) kr ⟨p_impl_GoodStore_sa ff trivial, ?_⟩; clear ff)
    by_cases c63 : (rng s_a0.Budget 1 100000) = true
    case neg =>
     rw [if_neg c63] at h
     have dc63 := eq_false_of_ne_true c63
     have ff := And.intro @g0_0a (And.intro @g1_0a (And.intro @g2_0a (And.intro @dc63 p_impl_GoodStore_tf.down)))
     try refine st_by ff ?_
     repeat' (first | exact trivial | refine And.intro sd ?_)
     cases h
     exact ret_q1 rfl (p_impl_GoodStore_rt ff trivial)
    rw [if_pos c63] at h
    have dc63 := c63
    have ff := And.intro @g0_0a (And.intro @g1_0a (And.intro @g2_0a (And.intro @dc63 p_impl_GoodStore_tf.down)))
    try refine st_by ff ?_
    repeat' (first | exact trivial | refine And.intro sd ?_)
    first
    | (refine cq_call (isTime_does s_a0.Clock) (hf_by ff) kr ⟨p_impl_GoodStore_sa ff trivial, ?_⟩; clear ff)
    | (refine cq_dcall (isTime_does s_a0.Clock) (hf_by ff) kr ⟨p_impl_GoodStore_sa ff trivial, ?_⟩; clear ff)
    by_cases c64 : (rng s_a0.Clock 0 100000) = true
    case neg =>
     rw [if_neg c64] at h
     have dc64 := eq_false_of_ne_true c64
     have ff := And.intro @g0_0a (And.intro @g1_0a (And.intro @g2_0a (And.intro @dc63 (And.intro @dc64 p_impl_GoodStore_tf.down))))
     try refine st_by ff ?_
     repeat' (first | exact trivial | refine And.intro sd ?_)
     cases h
     exact ret_q1 rfl (p_impl_GoodStore_rt ff trivial)
    rw [if_pos c64] at h
    have dc64 := c64
    by_cases c65 : (s_a0.In.length : Int) ≤ 30
    case neg =>
     rw [if_neg c65] at h
     have dc65 := decide_eq_false c65
     have ff := And.intro @g0_0a (And.intro @g1_0a (And.intro @g2_0a (And.intro @dc63 (And.intro @dc64 (And.intro @dc65 p_impl_GoodStore_tf.down)))))
     try refine st_by ff ?_
     repeat' (first | exact trivial | refine And.intro sd ?_)
     cases h
     exact ret_q1 rfl (p_impl_GoodStore_rt ff trivial)
    rw [if_pos c65] at h
    have dc65 := decide_eq_true c65
    have ff := And.intro @g0_0a (And.intro @g1_0a (And.intro @g2_0a (And.intro @dc63 (And.intro @dc64 (And.intro @dc65 p_impl_GoodStore_tf.down)))))
    try refine st_by ff ?_
    repeat' (first | exact trivial | refine And.intro sd ?_)
    cases h
    exact ret_q1 rfl (p_impl_GoodStore_rt ff trivial)
/-! slices.Clone[[]impl.Resident,impl.Resident] -/
theorem p_slices_Clone_impl_Resident_impl_Resident_rt {F C A : Prop} (hF : F) (hC : C) (h : F → C → A := by intro hF hC; first | (refine sr_by hF ?_; (repeat' (first | exact trivial | apply And.intro)); all_goals (clear hF; first | rfl | (simp only [hC, List.length_append, List.length_cons, List.length_nil, List.append_nil, List.nil_append, List.cons_append, List.length_set, List.append_assoc, Nat.zero_add, List.length_replicate, esResident_app, esResident_cons, esResident_nil, eResident_eq]; done) | (simp [hC, List.length_append, List.length_cons, List.length_nil, List.append_nil, List.nil_append, List.cons_append, List.length_set, List.append_assoc, Nat.zero_add, List.length_replicate, esResident_app, esResident_cons, esResident_nil, eResident_eq]; done) | omega)) | (first | rfl | (simp only [hC, List.length_append, List.length_cons, List.length_nil, List.append_nil, List.nil_append, List.cons_append, List.length_set, List.append_assoc, Nat.zero_add, List.length_replicate, esResident_app, esResident_cons, esResident_nil, eResident_eq]; done) | (simp [hC, List.length_append, List.length_cons, List.length_nil, List.append_nil, List.nil_append, List.cons_append, List.length_set, List.append_assoc, Nat.zero_add, List.length_replicate, esResident_app, esResident_cons, esResident_nil, eResident_eq]; done) | omega)) : A := h hF hC
def p_slices_Clone_impl_Resident_impl_Resident_tf := PLift.up (And.intro @eResident_eq (And.intro @esResident_len (And.intro @esResident_nil (And.intro @esResident_leaf (And.intro @esResident_fit (And.intro @esResident_share (And.intro @esResident_pure (And.intro @Ty.nze26 (And.intro @Ty.sl26 (And.intro @Ty.slz26 (And.intro @Ty.zok26 (And.intro @Ty.by26 (And.intro @Ty.zs26 @trivial)))))))))))))
def p_slices_Clone_impl_Resident_impl_Resident (l : List GResident) : Option (List GResident) := if l.length < 4294967296 then some l else none
theorem p_slices_Clone_impl_Resident_impl_Resident_does (l : List GResident) (r : List GResident) (h : p_slices_Clone_impl_Resident_impl_Resident l = some r) : Does Try.prog 42 [.row false 4 l.length (esResident l)] (.row true 4 r.length (esResident r)) := by
  rw [p_slices_Clone_impl_Resident_impl_Resident] at h
  by_cases c : l.length < 4294967296
  case neg => rw [if_neg c] at h; cases h
  rw [if_pos c] at h
  cases h
  refine Does.walk (nt := 8) Try.func42 rfl rfl (by simp) (by decide) rfl (fun G0 X w0 pv => ?_)
  refine st_by p_slices_Clone_impl_Resident_impl_Resident_tf.down ?_
  refine fun b hb => ?_
  cases b
  · have ff := p_slices_Clone_impl_Resident_impl_Resident_tf.down
    try refine st_by ff ?_
    repeat' (first | exact trivial | refine And.intro sd ?_)
    clear ff
    exact ret_q1 rfl (p_slices_Clone_impl_Resident_impl_Resident_rt p_slices_Clone_impl_Resident_impl_Resident_tf.down trivial)
  · have h0 : l = [] := List.eq_nil_of_length_eq_zero (by rcases Nat.eq_zero_or_pos l.length with h | h; exact h; exact absurd (hb h) (by decide))
    subst h0
    have ff := p_slices_Clone_impl_Resident_impl_Resident_tf.down
    try refine st_by ff ?_
    repeat' (first | exact trivial | refine And.intro sd ?_)
    clear ff
    exact ret_q1 rfl (p_slices_Clone_impl_Resident_impl_Resident_rt p_slices_Clone_impl_Resident_impl_Resident_tf.down trivial)
/-! (impl.Store).clone -/
theorem p_impl_Store_clone_pv {F C A : Prop} (hF : F) (hC : C) (h : F → C → A := by intro hF hC; first | exact cl_by hF | (refine st_by hF ?_; (repeat' (first | exact trivial | apply And.intro)); all_goals (clear hF; first | rfl | (simp only [hC, List.length_append, List.length_cons, List.length_nil, List.append_nil, List.nil_append, List.cons_append, List.length_set, List.append_assoc, Nat.zero_add, List.length_replicate, esStore_app, esStore_cons, esStore_nil, eStore_eq, esStoreo_app, esStoreo_cons, esStoreo_nil, eStoreo_eq, esResident_app, esResident_cons, esResident_nil, eResident_eq]; done) | (simp [hC, List.length_append, List.length_cons, List.length_nil, List.append_nil, List.nil_append, List.cons_append, List.length_set, List.append_assoc, Nat.zero_add, List.length_replicate, esStore_app, esStore_cons, esStore_nil, eStore_eq, esStoreo_app, esStoreo_cons, esStoreo_nil, eStoreo_eq, esResident_app, esResident_cons, esResident_nil, eResident_eq]; done) | omega))) : A := h hF hC
theorem p_impl_Store_clone_sa {F C A : Prop} (hF : F) (hC : C) (h : F → C → A := by intro hF hC; first | exact ca_by hF | (refine sa_by hF ?_; (repeat' (first | exact trivial | apply And.intro)); all_goals (clear hF; first | rfl | (simp only [hC, List.length_append, List.length_cons, List.length_nil, List.append_nil, List.nil_append, List.cons_append, List.length_set, List.append_assoc, Nat.zero_add, List.length_replicate, esStore_app, esStore_cons, esStore_nil, eStore_eq, esStoreo_app, esStoreo_cons, esStoreo_nil, eStoreo_eq, esResident_app, esResident_cons, esResident_nil, eResident_eq]; done) | (simp [hC, List.length_append, List.length_cons, List.length_nil, List.append_nil, List.nil_append, List.cons_append, List.length_set, List.append_assoc, Nat.zero_add, List.length_replicate, esStore_app, esStore_cons, esStore_nil, eStore_eq, esStoreo_app, esStoreo_cons, esStoreo_nil, eStoreo_eq, esResident_app, esResident_cons, esResident_nil, eResident_eq]; done) | omega))) : A := h hF hC
theorem p_impl_Store_clone_rt {F C A : Prop} (hF : F) (hC : C) (h : F → C → A := by intro hF hC; first | (refine sr_by hF ?_; (repeat' (first | exact trivial | apply And.intro)); all_goals (clear hF; first | rfl | (simp only [hC, List.length_append, List.length_cons, List.length_nil, List.append_nil, List.nil_append, List.cons_append, List.length_set, List.append_assoc, Nat.zero_add, List.length_replicate, esStore_app, esStore_cons, esStore_nil, eStore_eq, esStoreo_app, esStoreo_cons, esStoreo_nil, eStoreo_eq, esResident_app, esResident_cons, esResident_nil, eResident_eq]; done) | (simp [hC, List.length_append, List.length_cons, List.length_nil, List.append_nil, List.nil_append, List.cons_append, List.length_set, List.append_assoc, Nat.zero_add, List.length_replicate, esStore_app, esStore_cons, esStore_nil, eStore_eq, esStoreo_app, esStoreo_cons, esStoreo_nil, eStoreo_eq, esResident_app, esResident_cons, esResident_nil, eResident_eq]; done) | omega)) | (first | rfl | (simp only [hC, List.length_append, List.length_cons, List.length_nil, List.append_nil, List.nil_append, List.cons_append, List.length_set, List.append_assoc, Nat.zero_add, List.length_replicate, esStore_app, esStore_cons, esStore_nil, eStore_eq, esStoreo_app, esStoreo_cons, esStoreo_nil, eStoreo_eq, esResident_app, esResident_cons, esResident_nil, eResident_eq]; done) | (simp [hC, List.length_append, List.length_cons, List.length_nil, List.append_nil, List.nil_append, List.cons_append, List.length_set, List.append_assoc, Nat.zero_add, List.length_replicate, esStore_app, esStore_cons, esStore_nil, eStore_eq, esStoreo_app, esStoreo_cons, esStoreo_nil, eStoreo_eq, esResident_app, esResident_cons, esResident_nil, eResident_eq]; done) | omega)) : A := h hF hC
def p_impl_Store_clone_tf := PLift.up (And.intro @eStore_eq (And.intro @esStore_len (And.intro @esStore_nil (And.intro @esStore_leaf (And.intro @esStore_fit (And.intro @eStoreo_eq (And.intro @esStoreo_len (And.intro @esStoreo_nil (And.intro @eResident_eq (And.intro @esResident_len (And.intro @esResident_nil (And.intro @esResident_leaf (And.intro @esResident_fit (And.intro @esStoreo_share (And.intro @esStoreo_pure (And.intro @esResident_share (And.intro @esResident_pure (And.intro @str_beq (And.intro @Ty.nz3 (And.intro @Ty.ldA3 (And.intro @Ty.ldS3 (And.intro @Ty.sz3 (And.intro @Ty.szn3 (And.intro @Ty.nz26 (And.intro @Ty.ldA26 (And.intro @Ty.ldS26 (And.intro @Ty.sz26 (And.intro @Ty.szn26 (And.intro @Ty.nz28 (And.intro @Ty.ldA28 (And.intro @Ty.sz28 (And.intro @Ty.szn28 (And.intro @Ty.fo28_0 (And.intro @Ty.fk28_0 (And.intro @Ty.fs28_0 (And.intro @Ty.fn28_0 (And.intro @Ty.fo28_1 (And.intro @Ty.fk28_1 (And.intro @Ty.fs28_1 (And.intro @Ty.fn28_1 (And.intro @Ty.fo28_2 (And.intro @Ty.fk28_2 (And.intro @Ty.fs28_2 (And.intro @Ty.fn28_2 (And.intro @Ty.zv28 (And.intro @Ty.bd28 (And.intro @Ty.pl28_0 (And.intro @Ty.pl28_1 (And.intro @Ty.pl28_2 (And.intro @Ty.ag28 @trivial))))))))))))))))))))))))))))))))))))))))))))))))))
def p_impl_Store_clone (s_a0 : GStore) : Option (GStore) := ((p_slices_Clone_impl_Resident_impl_Resident s_a0.In).bind fun v1 => some (⟨s_a0.Budget, s_a0.Clock, v1⟩ : GStore))
theorem p_impl_Store_clone_does (s_a0 : GStore) (r : GStore) (h : p_impl_Store_clone s_a0 = some r) : Does Try.prog 22 [.agg (eStore s_a0)] (.agg (eStoreo r)) := by
  rw [p_impl_Store_clone] at h
  refine Does.bnd (fun hb => ?_)
  have hb2 : s_a0.In.length ≤ 9223372036854775807 := by simpa [AV.fitNs, AV.fitN, eStore] using hb
  have hl0 := hb2
  refine Does.walk (nt := 11) Try.func22 rfl rfl (by simp) (by decide) rfl (fun G0 X w0 pv => ?_)
  obtain ⟨v1, ev1, h⟩ := Option.bind_eq_some_iff.1 h
  try dsimp only at h
  have ff := p_impl_Store_clone_tf.down
  try refine st_by ff ?_
  repeat' (first | exact trivial | refine And.intro sd ?_ | (refine aw_drawn (id := 1) ?_ [[], [0], [], [2], [], [4], [4, 5], [0, 1, 2, 3, 4, 5, 6], [0, 1, 2, 3, 4, 5, 6, 7]] 7 ?_ ?_; (· kernel_rfl); (· kernel_rfl); refine st_by ff ?_))
  first
  | (refine cq_own (p_slices_Clone_impl_Resident_impl_Resident_does s_a0.In v1 ev1) (hf_by ff) kr ⟨p_impl_Store_clone_sa ff trivial, ?_⟩; clear ff)
  | (refine cq_down (p_slices_Clone_impl_Resident_impl_Resident_does s_a0.In v1 ev1) (hf_by ff) kr ⟨p_impl_Store_clone_sa ff trivial, ?_⟩; clear ff)
  have ff := p_impl_Store_clone_tf.down
  try refine st_by ff ?_
  repeat' (first | exact trivial | refine And.intro sd ?_)
  cases h
  exact ret_q1 rfl (p_impl_Store_clone_rt ff trivial)
/-! slices.BinarySearchFunc[[]impl.Resident,impl.Resident,string] -/
def p_slices_BinarySearchFunc_impl_Resident_impl_Resident_string_l0 (x_a0 : List GResident) (target_a1 : ByteArray) (cmp_a2 : GResident → ByteArray → Option Int) : Nat → Int → Int → Option (Int × Int)
  | 0, _, _ => none
  | n_0 + 1, i_6, j_7 => (if i_6 < j_7 then ((idx x_a0 (IntKind.i64.wrap (Int.fdiv (IntKind.u64.wrap (IntKind.i64.wrap (i_6 + j_7))) (2 ^ (min (1 : Int).toNat IntKind.u64.bits))))).bind fun x14 => ((cmp_a2 x14 target_a1).bind fun v16 => (if v16 < 0 then p_slices_BinarySearchFunc_impl_Resident_impl_Resident_string_l0 x_a0 target_a1 cmp_a2 n_0 (IntKind.i64.wrap ((IntKind.i64.wrap (Int.fdiv (IntKind.u64.wrap (IntKind.i64.wrap (i_6 + j_7))) (2 ^ (min (1 : Int).toNat IntKind.u64.bits)))) + 1)) j_7 else p_slices_BinarySearchFunc_impl_Resident_impl_Resident_string_l0 x_a0 target_a1 cmp_a2 n_0 i_6 (IntKind.i64.wrap (Int.fdiv (IntKind.u64.wrap (IntKind.i64.wrap (i_6 + j_7))) (2 ^ (min (1 : Int).toNat IntKind.u64.bits))))))) else some (i_6, j_7))
theorem p_slices_BinarySearchFunc_impl_Resident_impl_Resident_string_pv {F C A : Prop} (hF : F) (hC : C) (h : F → C → A := by intro hF hC; first | exact cl_by hF | (refine st_by hF ?_; (repeat' (first | exact trivial | apply And.intro)); all_goals (clear hF; first | rfl | (simp only [hC, List.length_append, List.length_cons, List.length_nil, List.append_nil, List.nil_append, List.cons_append, List.length_set, List.append_assoc, Nat.zero_add, List.length_replicate, esResident_app, esResident_cons, esResident_nil, eResident_eq]; done) | (simp [hC, List.length_append, List.length_cons, List.length_nil, List.append_nil, List.nil_append, List.cons_append, List.length_set, List.append_assoc, Nat.zero_add, List.length_replicate, esResident_app, esResident_cons, esResident_nil, eResident_eq]; done) | omega))) : A := h hF hC
theorem p_slices_BinarySearchFunc_impl_Resident_impl_Resident_string_sa {F C A : Prop} (hF : F) (hC : C) (h : F → C → A := by intro hF hC; first | exact ca_by hF | (refine sa_by hF ?_; (repeat' (first | exact trivial | apply And.intro)); all_goals (clear hF; first | rfl | (simp only [hC, List.length_append, List.length_cons, List.length_nil, List.append_nil, List.nil_append, List.cons_append, List.length_set, List.append_assoc, Nat.zero_add, List.length_replicate, esResident_app, esResident_cons, esResident_nil, eResident_eq]; done) | (simp [hC, List.length_append, List.length_cons, List.length_nil, List.append_nil, List.nil_append, List.cons_append, List.length_set, List.append_assoc, Nat.zero_add, List.length_replicate, esResident_app, esResident_cons, esResident_nil, eResident_eq]; done) | omega))) : A := h hF hC
theorem p_slices_BinarySearchFunc_impl_Resident_impl_Resident_string_rt {F C A : Prop} (hF : F) (hC : C) (h : F → C → A := by intro hF hC; first | (refine sr_by hF ?_; (repeat' (first | exact trivial | apply And.intro)); all_goals (clear hF; first | rfl | (simp only [hC, List.length_append, List.length_cons, List.length_nil, List.append_nil, List.nil_append, List.cons_append, List.length_set, List.append_assoc, Nat.zero_add, List.length_replicate, esResident_app, esResident_cons, esResident_nil, eResident_eq]; done) | (simp [hC, List.length_append, List.length_cons, List.length_nil, List.append_nil, List.nil_append, List.cons_append, List.length_set, List.append_assoc, Nat.zero_add, List.length_replicate, esResident_app, esResident_cons, esResident_nil, eResident_eq]; done) | omega)) | (first | rfl | (simp only [hC, List.length_append, List.length_cons, List.length_nil, List.append_nil, List.nil_append, List.cons_append, List.length_set, List.append_assoc, Nat.zero_add, List.length_replicate, esResident_app, esResident_cons, esResident_nil, eResident_eq]; done) | (simp [hC, List.length_append, List.length_cons, List.length_nil, List.append_nil, List.nil_append, List.cons_append, List.length_set, List.append_assoc, Nat.zero_add, List.length_replicate, esResident_app, esResident_cons, esResident_nil, eResident_eq]; done) | omega)) : A := h hF hC
def p_slices_BinarySearchFunc_impl_Resident_impl_Resident_string_tf := PLift.up (And.intro @eResident_eq (And.intro @esResident_len (And.intro @esResident_nil (And.intro @esResident_leaf (And.intro @esResident_fit (And.intro @esResident_share (And.intro @esResident_pure (And.intro @str_beq (And.intro @Ty.sl26 (And.intro @Ty.slz26 (And.intro @Ty.nz45 (And.intro @Ty.ldA45 (And.intro @Ty.sz45 (And.intro @Ty.szn45 (And.intro @Ty.int3 (And.intro @Ty.int74 @trivial))))))))))))))))
def p_slices_BinarySearchFunc_impl_Resident_impl_Resident_string (N : Nat) (x_a0 : List GResident) (target_a1 : ByteArray) (cmp_a2 : GResident → ByteArray → Option Int) : Option (Int × Bool) := ((p_slices_BinarySearchFunc_impl_Resident_impl_Resident_string_l0 x_a0 target_a1 cmp_a2 N 0 (x_a0.length : Int)).bind fun q_0 => match q_0 with | (i_6, j_7) => (if i_6 < (x_a0.length : Int) then ((idx x_a0 i_6).bind fun x19 => ((cmp_a2 x19 target_a1).bind fun v21 => some (i_6, (v21 == 0)))) else some (i_6, false)))
theorem p_slices_BinarySearchFunc_impl_Resident_impl_Resident_string_does (N : Nat) (x_a0 : List GResident) (target_a1 : ByteArray) (f2 : FuncId) (caps2 : List AV) (hc2 : AV.noRefs caps2 = true) (he2 : entB Try.prog f2 = true) (cmp_a2 : GResident → ByteArray → Option Int) (hp2 : ∀ (x0_ : GResident) (x1_ : ByteArray) (y_ : Int), cmp_a2 x0_ x1_ = some y_ → Does Try.prog f2 ([.agg (eResident x0_), S x1_] ++ caps2) (I y_)) (r : Int × Bool) (h : p_slices_BinarySearchFunc_impl_Resident_impl_Resident_string N x_a0 target_a1 cmp_a2 = some r) : Does Try.prog 43 [.row false 4 x_a0.length (esResident x_a0), S target_a1, .fn f2 caps2] (.tup [I r.1, B r.2]) := by
  rw [p_slices_BinarySearchFunc_impl_Resident_impl_Resident_string] at h
  refine Does.bnd (fun hb => ?_)
  have hb2 : x_a0.length ≤ 9223372036854775807 := by simpa [AV.fitNs, AV.fitN] using hb
  have hl0 := hb2
  refine Does.walk (nt := 49) Try.func43 rfl rfl (by simp) (by decide) (by simp [AV.noRefs, AV.noRef, hc2]) (fun G0 X w0 pv => ?_)
  obtain ⟨q_0, eq_0, h⟩ := Option.bind_eq_some_iff.1 h
  have ff := And.intro @hc2 p_slices_BinarySearchFunc_impl_Resident_impl_Resident_string_tf.down
  try refine st_by ff ?_
  repeat' (first | exact trivial | refine And.intro sd ?_)
  obtain ⟨I_0, hI_0⟩ : ∃ I_ : (Nat × Int × Int) → ASt → Prop, I_ = (fun (a : Nat × Int × Int) σ => match a with | (n_0, i_6, j_7) => (p_slices_BinarySearchFunc_impl_Resident_impl_Resident_string_l0 x_a0 target_a1 cmp_a2 n_0 i_6 j_7 = some q_0) ∧ σ.t 0 = .row false 4 x_a0.length (esResident x_a0) ∧ σ.t 1 = S target_a1 ∧ σ.t 2 = .fn f2 caps2 ∧ σ.t 8 = I (x_a0.length : Int) ∧ σ.t 9 = I i_6 ∧ σ.t 10 = I j_7) := ⟨_, rfl⟩
  obtain ⟨M_0, hM_0⟩ : ∃ M_ : (Nat × Int × Int) → Nat, M_ = (fun (a : Nat × Int × Int) => match a with | (n_0, i_6, j_7) => n_0) := ⟨_, rfl⟩
  obtain ⟨J_0, hJ_0⟩ : ∃ J_ : ASt → Prop, J_ = (fun σ => ∃ i_6 : Int, ∃ j_7 : Int, (some (i_6, j_7) = some q_0) ∧ σ.t 0 = .row false 4 x_a0.length (esResident x_a0) ∧ σ.t 1 = S target_a1 ∧ σ.t 2 = .fn f2 caps2 ∧ σ.t 8 = I (x_a0.length : Int) ∧ σ.t 9 = I i_6) := ⟨_, rfl⟩
  refine aw_loopC (id := 0) I_0 M_0 J_0 (N, 0, (x_a0.length : Int)) ?_ ?_ ?_
  · rw [hI_0]
    refine ⟨eq_0, ?_⟩
    exact p_slices_BinarySearchFunc_impl_Resident_impl_Resident_string_pv ff trivial
  · try clear ff
    rintro ⟨n_0, i_6, j_7⟩ σ hg_0
    rw [hI_0] at hg_0
    obtain ⟨h_0, g0_0, g1_0, g2_0, g3_0, g4_0, g5_0⟩ := hg_0
    cases n_0 with
    | zero => rw [p_slices_BinarySearchFunc_impl_Resident_impl_Resident_string_l0] at h_0; cases h_0
    | succ n_0 =>
      rw [p_slices_BinarySearchFunc_impl_Resident_impl_Resident_string_l0] at h_0
      by_cases c13 : i_6 < j_7
      case neg =>
       rw [if_neg c13] at h_0
       have dc13 := decide_eq_false c13
       have ff := And.intro @hc2 (And.intro @g0_0 (And.intro @g1_0 (And.intro @g2_0 (And.intro @g3_0 (And.intro @g4_0 (And.intro @g5_0 (And.intro @dc13 p_slices_BinarySearchFunc_impl_Resident_impl_Resident_string_tf.down)))))))
       try refine st_by ff ?_
       repeat' (first | exact trivial | refine And.intro sd ?_)
       refine JW.intro ?_
       rw [hJ_0]
       refine ⟨i_6, j_7, h_0, ?_⟩
       exact p_slices_BinarySearchFunc_impl_Resident_impl_Resident_string_pv ff trivial
      rw [if_pos c13] at h_0
      have dc13 := decide_eq_true c13
      obtain ⟨x14, ex14, h_0⟩ := Option.bind_eq_some_iff.1 h_0
      try dsimp only at h_0
      have f15a := idx_lo ex14
      have f15b := idx_hi ex14
      have f15c : (esResident x_a0).drop (((IntKind.i64.wrap (Int.fdiv (IntKind.u64.wrap (IntKind.i64.wrap (i_6 + j_7))) (2 ^ (min (1 : Int).toNat IntKind.u64.bits)))).toNat) * 4) = eResident x14 ++ esResident (x_a0.drop ((IntKind.i64.wrap (Int.fdiv (IntKind.u64.wrap (IntKind.i64.wrap (i_6 + j_7))) (2 ^ (min (1 : Int).toNat IntKind.u64.bits)))).toNat + 1)) := drop_enc (fun _ => rfl) (idx_get ex14)
      obtain ⟨v16, ev16, h_0⟩ := Option.bind_eq_some_iff.1 h_0
      try dsimp only at h_0
      have ff := And.intro @hc2 (And.intro @g0_0 (And.intro @g1_0 (And.intro @g2_0 (And.intro @g3_0 (And.intro @g4_0 (And.intro @g5_0 (And.intro @dc13 (And.intro @f15c p_slices_BinarySearchFunc_impl_Resident_impl_Resident_string_tf.down))))))))
      try refine st_by ff ?_
      repeat' (first | exact trivial | refine And.intro sd ?_)
      first
      | (refine cq_call (hp2 x14 target_a1 v16 ev16) (hf_by ff) he2 ⟨p_slices_BinarySearchFunc_impl_Resident_impl_Resident_string_sa ff trivial, ?_⟩; clear ff)
      by_cases c17 : v16 < 0
      case neg =>
       rw [if_neg c17] at h_0
       have dc17 := decide_eq_false c17
       have ff := And.intro @hc2 (And.intro @g0_0 (And.intro @g1_0 (And.intro @g2_0 (And.intro @g3_0 (And.intro @g4_0 (And.intro @g5_0 (And.intro @dc13 (And.intro @f15c (And.intro @dc17 p_slices_BinarySearchFunc_impl_Resident_impl_Resident_string_tf.down)))))))))
       try refine st_by ff ?_
       repeat' (first | exact trivial | refine And.intro sd ?_)
       refine Back.intro (n_0, i_6, (IntKind.i64.wrap (Int.fdiv (IntKind.u64.wrap (IntKind.i64.wrap (i_6 + j_7))) (2 ^ (min (1 : Int).toNat IntKind.u64.bits))))) ?_ ?_
       · rw [hM_0]; exact Nat.lt_succ_self _
       rw [hI_0]
       refine ⟨h_0, ?_⟩
       exact p_slices_BinarySearchFunc_impl_Resident_impl_Resident_string_pv ff trivial
      rw [if_pos c17] at h_0
      have dc17 := decide_eq_true c17
      have ff := And.intro @hc2 (And.intro @g0_0 (And.intro @g1_0 (And.intro @g2_0 (And.intro @g3_0 (And.intro @g4_0 (And.intro @g5_0 (And.intro @dc13 (And.intro @f15c (And.intro @dc17 p_slices_BinarySearchFunc_impl_Resident_impl_Resident_string_tf.down)))))))))
      try refine st_by ff ?_
      repeat' (first | exact trivial | refine And.intro sd ?_)
      refine Back.intro (n_0, (IntKind.i64.wrap ((IntKind.i64.wrap (Int.fdiv (IntKind.u64.wrap (IntKind.i64.wrap (i_6 + j_7))) (2 ^ (min (1 : Int).toNat IntKind.u64.bits)))) + 1)), j_7) ?_ ?_
      · rw [hM_0]; exact Nat.lt_succ_self _
      rw [hI_0]
      refine ⟨h_0, ?_⟩
      exact p_slices_BinarySearchFunc_impl_Resident_impl_Resident_string_pv ff trivial
  · try clear ff
    rintro σ hg_0
    rw [hJ_0] at hg_0
    obtain ⟨i_6, j_7, hj_0, g0_0a, g1_0a, g2_0a, g3_0a, g4_0a⟩ := hg_0
    cases hj_0
    try dsimp only at h
    by_cases c18 : i_6 < (x_a0.length : Int)
    case neg =>
     rw [if_neg c18] at h
     have dc18 := decide_eq_false c18
     have ff := And.intro @hc2 (And.intro @g0_0a (And.intro @g1_0a (And.intro @g2_0a (And.intro @g3_0a (And.intro @g4_0a (And.intro @dc18 p_slices_BinarySearchFunc_impl_Resident_impl_Resident_string_tf.down))))))
     try refine st_by ff ?_
     repeat' (first | exact trivial | refine And.intro sd ?_)
     cases h
     exact ret_q2 rfl (p_slices_BinarySearchFunc_impl_Resident_impl_Resident_string_rt ff trivial)
    rw [if_pos c18] at h
    have dc18 := decide_eq_true c18
    obtain ⟨x19, ex19, h⟩ := Option.bind_eq_some_iff.1 h
    try dsimp only at h
    have f20a := idx_lo ex19
    have f20b := idx_hi ex19
    have f20c : (esResident x_a0).drop (i_6.toNat * 4) = eResident x19 ++ esResident (x_a0.drop (i_6.toNat + 1)) := drop_enc (fun _ => rfl) (idx_get ex19)
    obtain ⟨v21, ev21, h⟩ := Option.bind_eq_some_iff.1 h
    try dsimp only at h
    have ff := And.intro @hc2 (And.intro @g0_0a (And.intro @g1_0a (And.intro @g2_0a (And.intro @g3_0a (And.intro @g4_0a (And.intro @dc18 (And.intro @f20c p_slices_BinarySearchFunc_impl_Resident_impl_Resident_string_tf.down)))))))
    try refine st_by ff ?_
    repeat' (first | exact trivial | refine And.intro sd ?_)
    first
    | (refine cq_call (hp2 x19 target_a1 v21 ev21) (hf_by ff) he2 ⟨p_slices_BinarySearchFunc_impl_Resident_impl_Resident_string_sa ff trivial, ?_⟩; clear ff)
    have ff := And.intro @hc2 (And.intro @g0_0a (And.intro @g1_0a (And.intro @g2_0a (And.intro @g3_0a (And.intro @g4_0a (And.intro @dc18 (And.intro @f20c p_slices_BinarySearchFunc_impl_Resident_impl_Resident_string_tf.down)))))))
    try refine st_by ff ?_
    repeat' (first | exact trivial | refine And.intro sd ?_)
    cases h
    exact ret_q2 rfl (p_slices_BinarySearchFunc_impl_Resident_impl_Resident_string_rt ff trivial)
/-! internal/bytealg.CompareString -/
theorem p_internal_bytealg_CompareString_pv {F C A : Prop} (hF : F) (hC : C) (h : F → C → A := by intro hF hC; first | exact cl_by hF | (refine st_by hF ?_; (repeat' (first | exact trivial | apply And.intro)); all_goals (clear hF; first | rfl | (simp only [hC, List.length_append, List.length_cons, List.length_nil, List.append_nil, List.nil_append, List.cons_append, List.length_set, List.append_assoc, Nat.zero_add, List.length_replicate]; done) | (simp [hC, List.length_append, List.length_cons, List.length_nil, List.append_nil, List.nil_append, List.cons_append, List.length_set, List.append_assoc, Nat.zero_add, List.length_replicate]; done) | omega))) : A := h hF hC
theorem p_internal_bytealg_CompareString_sa {F C A : Prop} (hF : F) (hC : C) (h : F → C → A := by intro hF hC; first | exact ca_by hF | (refine sa_by hF ?_; (repeat' (first | exact trivial | apply And.intro)); all_goals (clear hF; first | rfl | (simp only [hC, List.length_append, List.length_cons, List.length_nil, List.append_nil, List.nil_append, List.cons_append, List.length_set, List.append_assoc, Nat.zero_add, List.length_replicate]; done) | (simp [hC, List.length_append, List.length_cons, List.length_nil, List.append_nil, List.nil_append, List.cons_append, List.length_set, List.append_assoc, Nat.zero_add, List.length_replicate]; done) | omega))) : A := h hF hC
theorem p_internal_bytealg_CompareString_rt {F C A : Prop} (hF : F) (hC : C) (h : F → C → A := by intro hF hC; first | (refine sr_by hF ?_; (repeat' (first | exact trivial | apply And.intro)); all_goals (clear hF; first | rfl | (simp only [hC, List.length_append, List.length_cons, List.length_nil, List.append_nil, List.nil_append, List.cons_append, List.length_set, List.append_assoc, Nat.zero_add, List.length_replicate]; done) | (simp [hC, List.length_append, List.length_cons, List.length_nil, List.append_nil, List.nil_append, List.cons_append, List.length_set, List.append_assoc, Nat.zero_add, List.length_replicate]; done) | omega)) | (first | rfl | (simp only [hC, List.length_append, List.length_cons, List.length_nil, List.append_nil, List.nil_append, List.cons_append, List.length_set, List.append_assoc, Nat.zero_add, List.length_replicate]; done) | (simp [hC, List.length_append, List.length_cons, List.length_nil, List.append_nil, List.nil_append, List.cons_append, List.length_set, List.append_assoc, Nat.zero_add, List.length_replicate]; done) | omega)) : A := h hF hC
def p_internal_bytealg_CompareString_tf := PLift.up (And.intro @str_beq @trivial)
def p_internal_bytealg_CompareString (a_a0 : ByteArray) (b_a1 : ByteArray) : Option (Int) := some (cmpB a_a0 b_a1)
theorem p_internal_bytealg_CompareString_does (a_a0 : ByteArray) (b_a1 : ByteArray) (r : Int) (h : p_internal_bytealg_CompareString a_a0 b_a1 = some r) : Does Try.prog 56 [S a_a0, S b_a1] (I r) := by
  rw [p_internal_bytealg_CompareString] at h
  refine Does.walk (nt := 8) Try.func56 rfl rfl (by simp) (by decide) rfl (fun G0 X w0 pv => ?_)
  have ff := p_internal_bytealg_CompareString_tf.down
  try refine st_by ff ?_
  repeat' (first | exact trivial | refine And.intro sd ?_)
  (refine cq_ext (ext_cmp Try.func58 (by kernel_rfl) (by kernel_rfl) (by kernel_rfl) (by kernel_rfl) a_a0 b_a1) ⟨p_internal_bytealg_CompareString_sa ff trivial, ?_⟩; clear ff)
  have ff := p_internal_bytealg_CompareString_tf.down
  try refine st_by ff ?_
  repeat' (first | exact trivial | refine And.intro sd ?_)
  cases h
  exact ret_q1 rfl (p_internal_bytealg_CompareString_rt ff trivial)
/-! strings.Compare -/
theorem p_strings_Compare_pv {F C A : Prop} (hF : F) (hC : C) (h : F → C → A := by intro hF hC; first | exact cl_by hF | (refine st_by hF ?_; (repeat' (first | exact trivial | apply And.intro)); all_goals (clear hF; first | rfl | (simp only [hC, List.length_append, List.length_cons, List.length_nil, List.append_nil, List.nil_append, List.cons_append, List.length_set, List.append_assoc, Nat.zero_add, List.length_replicate]; done) | (simp [hC, List.length_append, List.length_cons, List.length_nil, List.append_nil, List.nil_append, List.cons_append, List.length_set, List.append_assoc, Nat.zero_add, List.length_replicate]; done) | omega))) : A := h hF hC
theorem p_strings_Compare_sa {F C A : Prop} (hF : F) (hC : C) (h : F → C → A := by intro hF hC; first | exact ca_by hF | (refine sa_by hF ?_; (repeat' (first | exact trivial | apply And.intro)); all_goals (clear hF; first | rfl | (simp only [hC, List.length_append, List.length_cons, List.length_nil, List.append_nil, List.nil_append, List.cons_append, List.length_set, List.append_assoc, Nat.zero_add, List.length_replicate]; done) | (simp [hC, List.length_append, List.length_cons, List.length_nil, List.append_nil, List.nil_append, List.cons_append, List.length_set, List.append_assoc, Nat.zero_add, List.length_replicate]; done) | omega))) : A := h hF hC
theorem p_strings_Compare_rt {F C A : Prop} (hF : F) (hC : C) (h : F → C → A := by intro hF hC; first | (refine sr_by hF ?_; (repeat' (first | exact trivial | apply And.intro)); all_goals (clear hF; first | rfl | (simp only [hC, List.length_append, List.length_cons, List.length_nil, List.append_nil, List.nil_append, List.cons_append, List.length_set, List.append_assoc, Nat.zero_add, List.length_replicate]; done) | (simp [hC, List.length_append, List.length_cons, List.length_nil, List.append_nil, List.nil_append, List.cons_append, List.length_set, List.append_assoc, Nat.zero_add, List.length_replicate]; done) | omega)) | (first | rfl | (simp only [hC, List.length_append, List.length_cons, List.length_nil, List.append_nil, List.nil_append, List.cons_append, List.length_set, List.append_assoc, Nat.zero_add, List.length_replicate]; done) | (simp [hC, List.length_append, List.length_cons, List.length_nil, List.append_nil, List.nil_append, List.cons_append, List.length_set, List.append_assoc, Nat.zero_add, List.length_replicate]; done) | omega)) : A := h hF hC
def p_strings_Compare_tf := PLift.up (And.intro @str_beq @trivial)
def p_strings_Compare (a_a0 : ByteArray) (b_a1 : ByteArray) : Option (Int) := ((p_internal_bytealg_CompareString a_a0 b_a1).bind fun v1 => some v1)
theorem p_strings_Compare_does (a_a0 : ByteArray) (b_a1 : ByteArray) (r : Int) (h : p_strings_Compare a_a0 b_a1 = some r) : Does Try.prog 45 [S a_a0, S b_a1] (I r) := by
  rw [p_strings_Compare] at h
  refine Does.walk (nt := 8) Try.func45 rfl rfl (by simp) (by decide) rfl (fun G0 X w0 pv => ?_)
  obtain ⟨v1, ev1, h⟩ := Option.bind_eq_some_iff.1 h
  try dsimp only at h
  have ff := p_strings_Compare_tf.down
  try refine st_by ff ?_
  repeat' (first | exact trivial | refine And.intro sd ?_)
  first
  | (refine cq_call (p_internal_bytealg_CompareString_does a_a0 b_a1 v1 ev1) (hf_by ff) kr ⟨p_strings_Compare_sa ff trivial, ?_⟩; clear ff)
  have ff := p_strings_Compare_tf.down
  try refine st_by ff ?_
  repeat' (first | exact trivial | refine And.intro sd ?_)
  cases h
  exact ret_q1 rfl (p_strings_Compare_rt ff trivial)
/-! (impl.Store).place$1 -/
theorem p_impl_Store_place_1_pv {F C A : Prop} (hF : F) (hC : C) (h : F → C → A := by intro hF hC; first | exact cl_by hF | (refine st_by hF ?_; (repeat' (first | exact trivial | apply And.intro)); all_goals (clear hF; first | rfl | (simp only [hC, List.length_append, List.length_cons, List.length_nil, List.append_nil, List.nil_append, List.cons_append, List.length_set, List.append_assoc, Nat.zero_add, List.length_replicate, esResident_app, esResident_cons, esResident_nil, eResident_eq]; done) | (simp [hC, List.length_append, List.length_cons, List.length_nil, List.append_nil, List.nil_append, List.cons_append, List.length_set, List.append_assoc, Nat.zero_add, List.length_replicate, esResident_app, esResident_cons, esResident_nil, eResident_eq]; done) | omega))) : A := h hF hC
theorem p_impl_Store_place_1_sa {F C A : Prop} (hF : F) (hC : C) (h : F → C → A := by intro hF hC; first | exact ca_by hF | (refine sa_by hF ?_; (repeat' (first | exact trivial | apply And.intro)); all_goals (clear hF; first | rfl | (simp only [hC, List.length_append, List.length_cons, List.length_nil, List.append_nil, List.nil_append, List.cons_append, List.length_set, List.append_assoc, Nat.zero_add, List.length_replicate, esResident_app, esResident_cons, esResident_nil, eResident_eq]; done) | (simp [hC, List.length_append, List.length_cons, List.length_nil, List.append_nil, List.nil_append, List.cons_append, List.length_set, List.append_assoc, Nat.zero_add, List.length_replicate, esResident_app, esResident_cons, esResident_nil, eResident_eq]; done) | omega))) : A := h hF hC
theorem p_impl_Store_place_1_rt {F C A : Prop} (hF : F) (hC : C) (h : F → C → A := by intro hF hC; first | (refine sr_by hF ?_; (repeat' (first | exact trivial | apply And.intro)); all_goals (clear hF; first | rfl | (simp only [hC, List.length_append, List.length_cons, List.length_nil, List.append_nil, List.nil_append, List.cons_append, List.length_set, List.append_assoc, Nat.zero_add, List.length_replicate, esResident_app, esResident_cons, esResident_nil, eResident_eq]; done) | (simp [hC, List.length_append, List.length_cons, List.length_nil, List.append_nil, List.nil_append, List.cons_append, List.length_set, List.append_assoc, Nat.zero_add, List.length_replicate, esResident_app, esResident_cons, esResident_nil, eResident_eq]; done) | omega)) | (first | rfl | (simp only [hC, List.length_append, List.length_cons, List.length_nil, List.append_nil, List.nil_append, List.cons_append, List.length_set, List.append_assoc, Nat.zero_add, List.length_replicate, esResident_app, esResident_cons, esResident_nil, eResident_eq]; done) | (simp [hC, List.length_append, List.length_cons, List.length_nil, List.append_nil, List.nil_append, List.cons_append, List.length_set, List.append_assoc, Nat.zero_add, List.length_replicate, esResident_app, esResident_cons, esResident_nil, eResident_eq]; done) | omega)) : A := h hF hC
def p_impl_Store_place_1_tf := PLift.up (And.intro @eResident_eq (And.intro @esResident_len (And.intro @esResident_nil (And.intro @esResident_leaf (And.intro @esResident_fit (And.intro @esResident_share (And.intro @esResident_pure (And.intro @str_beq (And.intro @Ty.nz9 (And.intro @Ty.ldA9 (And.intro @Ty.ldS9 (And.intro @Ty.sz9 (And.intro @Ty.szn9 (And.intro @Ty.fo45_0 (And.intro @Ty.fk45_0 (And.intro @Ty.fs45_0 (And.intro @Ty.fn45_0 @trivial)))))))))))))))))
def p_impl_Store_place_1 (r_a0 : GResident) (name_a1 : ByteArray) : Option (Int) := ((p_strings_Compare r_a0.Name name_a1).bind fun v1 => some v1)
theorem p_impl_Store_place_1_does (r_a0 : GResident) (name_a1 : ByteArray) (r : Int) (h : p_impl_Store_place_1 r_a0 name_a1 = some r) : Does Try.prog 44 [.agg (eResident r_a0), S name_a1] (I r) := by
  rw [p_impl_Store_place_1] at h
  refine Does.walk (nt := 9) Try.func44 rfl rfl (by simp) (by decide) rfl (fun G0 X w0 pv => ?_)
  obtain ⟨v1, ev1, h⟩ := Option.bind_eq_some_iff.1 h
  try dsimp only at h
  have ff := p_impl_Store_place_1_tf.down
  try refine st_by ff ?_
  repeat' (first | exact trivial | refine And.intro sd ?_)
  first
  | (refine cq_call (p_strings_Compare_does r_a0.Name name_a1 v1 ev1) (hf_by ff) kr ⟨p_impl_Store_place_1_sa ff trivial, ?_⟩; clear ff)
  have ff := p_impl_Store_place_1_tf.down
  try refine st_by ff ?_
  repeat' (first | exact trivial | refine And.intro sd ?_)
  cases h
  exact ret_q1 rfl (p_impl_Store_place_1_rt ff trivial)
/-! (impl.Store).place -/
theorem p_impl_Store_place_pv {F C A : Prop} (hF : F) (hC : C) (h : F → C → A := by intro hF hC; first | exact cl_by hF | (refine st_by hF ?_; (repeat' (first | exact trivial | apply And.intro)); all_goals (clear hF; first | rfl | (simp only [hC, List.length_append, List.length_cons, List.length_nil, List.append_nil, List.nil_append, List.cons_append, List.length_set, List.append_assoc, Nat.zero_add, List.length_replicate, esStore_app, esStore_cons, esStore_nil, eStore_eq, esStoreo_app, esStoreo_cons, esStoreo_nil, eStoreo_eq, esResident_app, esResident_cons, esResident_nil, eResident_eq]; done) | (simp [hC, List.length_append, List.length_cons, List.length_nil, List.append_nil, List.nil_append, List.cons_append, List.length_set, List.append_assoc, Nat.zero_add, List.length_replicate, esStore_app, esStore_cons, esStore_nil, eStore_eq, esStoreo_app, esStoreo_cons, esStoreo_nil, eStoreo_eq, esResident_app, esResident_cons, esResident_nil, eResident_eq]; done) | omega))) : A := h hF hC
theorem p_impl_Store_place_sa {F C A : Prop} (hF : F) (hC : C) (h : F → C → A := by intro hF hC; first | exact ca_by hF | (refine sa_by hF ?_; (repeat' (first | exact trivial | apply And.intro)); all_goals (clear hF; first | rfl | (simp only [hC, List.length_append, List.length_cons, List.length_nil, List.append_nil, List.nil_append, List.cons_append, List.length_set, List.append_assoc, Nat.zero_add, List.length_replicate, esStore_app, esStore_cons, esStore_nil, eStore_eq, esStoreo_app, esStoreo_cons, esStoreo_nil, eStoreo_eq, esResident_app, esResident_cons, esResident_nil, eResident_eq]; done) | (simp [hC, List.length_append, List.length_cons, List.length_nil, List.append_nil, List.nil_append, List.cons_append, List.length_set, List.append_assoc, Nat.zero_add, List.length_replicate, esStore_app, esStore_cons, esStore_nil, eStore_eq, esStoreo_app, esStoreo_cons, esStoreo_nil, eStoreo_eq, esResident_app, esResident_cons, esResident_nil, eResident_eq]; done) | omega))) : A := h hF hC
theorem p_impl_Store_place_rt {F C A : Prop} (hF : F) (hC : C) (h : F → C → A := by intro hF hC; first | (refine sr_by hF ?_; (repeat' (first | exact trivial | apply And.intro)); all_goals (clear hF; first | rfl | (simp only [hC, List.length_append, List.length_cons, List.length_nil, List.append_nil, List.nil_append, List.cons_append, List.length_set, List.append_assoc, Nat.zero_add, List.length_replicate, esStore_app, esStore_cons, esStore_nil, eStore_eq, esStoreo_app, esStoreo_cons, esStoreo_nil, eStoreo_eq, esResident_app, esResident_cons, esResident_nil, eResident_eq]; done) | (simp [hC, List.length_append, List.length_cons, List.length_nil, List.append_nil, List.nil_append, List.cons_append, List.length_set, List.append_assoc, Nat.zero_add, List.length_replicate, esStore_app, esStore_cons, esStore_nil, eStore_eq, esStoreo_app, esStoreo_cons, esStoreo_nil, eStoreo_eq, esResident_app, esResident_cons, esResident_nil, eResident_eq]; done) | omega)) | (first | rfl | (simp only [hC, List.length_append, List.length_cons, List.length_nil, List.append_nil, List.nil_append, List.cons_append, List.length_set, List.append_assoc, Nat.zero_add, List.length_replicate, esStore_app, esStore_cons, esStore_nil, eStore_eq, esStoreo_app, esStoreo_cons, esStoreo_nil, eStoreo_eq, esResident_app, esResident_cons, esResident_nil, eResident_eq]; done) | (simp [hC, List.length_append, List.length_cons, List.length_nil, List.append_nil, List.nil_append, List.cons_append, List.length_set, List.append_assoc, Nat.zero_add, List.length_replicate, esStore_app, esStore_cons, esStore_nil, eStore_eq, esStoreo_app, esStoreo_cons, esStoreo_nil, eStoreo_eq, esResident_app, esResident_cons, esResident_nil, eResident_eq]; done) | omega)) : A := h hF hC
def p_impl_Store_place_tf := PLift.up (And.intro @eStore_eq (And.intro @esStore_len (And.intro @esStore_nil (And.intro @esStore_leaf (And.intro @esStore_fit (And.intro @eStoreo_eq (And.intro @esStoreo_len (And.intro @esStoreo_nil (And.intro @eResident_eq (And.intro @esResident_len (And.intro @esResident_nil (And.intro @esResident_leaf (And.intro @esResident_fit (And.intro @esStoreo_share (And.intro @esStoreo_pure (And.intro @esResident_share (And.intro @esResident_pure (And.intro @str_beq (And.intro @Ty.nz26 (And.intro @Ty.ldA26 (And.intro @Ty.ldS26 (And.intro @Ty.sz26 (And.intro @Ty.szn26 (And.intro @Ty.fo28_2 (And.intro @Ty.fk28_2 (And.intro @Ty.fs28_2 (And.intro @Ty.fn28_2 @trivial)))))))))))))))))))))))))))
def p_impl_Store_place (N : Nat) (s_a0 : GStore) (name_a1 : ByteArray) : Option (Int × Bool) := ((p_slices_BinarySearchFunc_impl_Resident_impl_Resident_string N s_a0.In name_a1 (fun x0_ x1_ => p_impl_Store_place_1 x0_ x1_)).bind fun v1 => some (v1.1, v1.2))
theorem p_impl_Store_place_does (N : Nat) (s_a0 : GStore) (name_a1 : ByteArray) (r : Int × Bool) (h : p_impl_Store_place N s_a0 name_a1 = some r) : Does Try.prog 23 [.agg (eStore s_a0), S name_a1] (.tup [I r.1, B r.2]) := by
  rw [p_impl_Store_place] at h
  refine Does.bnd (fun hb => ?_)
  have hb2 : s_a0.In.length ≤ 9223372036854775807 := by simpa [AV.fitNs, AV.fitN, eStore] using hb
  have hl0 := hb2
  refine Does.walk (nt := 12) Try.func23 rfl rfl (by simp) (by decide) rfl (fun G0 X w0 pv => ?_)
  obtain ⟨v1, ev1, h⟩ := Option.bind_eq_some_iff.1 h
  try dsimp only at h
  have ff := p_impl_Store_place_tf.down
  try refine st_by ff ?_
  repeat' (first | exact trivial | refine And.intro sd ?_)
  first
  | (refine cq_call (p_slices_BinarySearchFunc_impl_Resident_impl_Resident_string_does N s_a0.In name_a1 44 [] (by simp [AV.noRefs, AV.noRef]) kr (fun x0_ x1_ => p_impl_Store_place_1 x0_ x1_) (fun x0_ x1_ y_ h_ => p_impl_Store_place_1_does x0_ x1_ y_ h_) v1 ev1) (hf_by ff) kr ⟨p_impl_Store_place_sa ff trivial, ?_⟩; clear ff)
  have ff := p_impl_Store_place_tf.down
  try refine st_by ff ?_
  repeat' (first | exact trivial | refine And.intro sd ?_)
  cases h
  exact ret_q2 rfl (p_impl_Store_place_rt ff trivial)
/-! impl.Release -/
def p_impl_Release_j0 (v3 : GStore) (v4 : Int × Bool) (b_5 : Bool) : Option (GStore × Int) := (if b_5 = true then some ((⟨v3.Budget, v3.Clock, v3.In⟩ : GStore), 5) else ((idx v3.In v4.1).bind fun x7 => some ((⟨v3.Budget, v3.Clock, (v3.In.set v4.1.toNat (⟨x7.Name, x7.Size, (IntKind.i64.wrap (x7.Held - 1)), x7.Used⟩ : GResident))⟩ : GStore), 0)))
theorem p_impl_Release_pv {F C A : Prop} (hF : F) (hC : C) (h : F → C → A := by intro hF hC; first | exact cl_by hF | (refine st_by hF ?_; (repeat' (first | exact trivial | apply And.intro)); all_goals (clear hF; first | rfl | (simp only [hC, List.length_append, List.length_cons, List.length_nil, List.append_nil, List.nil_append, List.cons_append, List.length_set, List.append_assoc, Nat.zero_add, List.length_replicate, esStore_app, esStore_cons, esStore_nil, eStore_eq, esStoreo_app, esStoreo_cons, esStoreo_nil, eStoreo_eq, esResident_app, esResident_cons, esResident_nil, eResident_eq]; done) | (simp [hC, List.length_append, List.length_cons, List.length_nil, List.append_nil, List.nil_append, List.cons_append, List.length_set, List.append_assoc, Nat.zero_add, List.length_replicate, esStore_app, esStore_cons, esStore_nil, eStore_eq, esStoreo_app, esStoreo_cons, esStoreo_nil, eStoreo_eq, esResident_app, esResident_cons, esResident_nil, eResident_eq]; done) | omega))) : A := h hF hC
theorem p_impl_Release_sa {F C A : Prop} (hF : F) (hC : C) (h : F → C → A := by intro hF hC; first | exact ca_by hF | (refine sa_by hF ?_; (repeat' (first | exact trivial | apply And.intro)); all_goals (clear hF; first | rfl | (simp only [hC, List.length_append, List.length_cons, List.length_nil, List.append_nil, List.nil_append, List.cons_append, List.length_set, List.append_assoc, Nat.zero_add, List.length_replicate, esStore_app, esStore_cons, esStore_nil, eStore_eq, esStoreo_app, esStoreo_cons, esStoreo_nil, eStoreo_eq, esResident_app, esResident_cons, esResident_nil, eResident_eq]; done) | (simp [hC, List.length_append, List.length_cons, List.length_nil, List.append_nil, List.nil_append, List.cons_append, List.length_set, List.append_assoc, Nat.zero_add, List.length_replicate, esStore_app, esStore_cons, esStore_nil, eStore_eq, esStoreo_app, esStoreo_cons, esStoreo_nil, eStoreo_eq, esResident_app, esResident_cons, esResident_nil, eResident_eq]; done) | omega))) : A := h hF hC
theorem p_impl_Release_rt {F C A : Prop} (hF : F) (hC : C) (h : F → C → A := by intro hF hC; first | (refine sr_by hF ?_; (repeat' (first | exact trivial | apply And.intro)); all_goals (clear hF; first | rfl | (simp only [hC, List.length_append, List.length_cons, List.length_nil, List.append_nil, List.nil_append, List.cons_append, List.length_set, List.append_assoc, Nat.zero_add, List.length_replicate, esStore_app, esStore_cons, esStore_nil, eStore_eq, esStoreo_app, esStoreo_cons, esStoreo_nil, eStoreo_eq, esResident_app, esResident_cons, esResident_nil, eResident_eq]; done) | (simp [hC, List.length_append, List.length_cons, List.length_nil, List.append_nil, List.nil_append, List.cons_append, List.length_set, List.append_assoc, Nat.zero_add, List.length_replicate, esStore_app, esStore_cons, esStore_nil, eStore_eq, esStoreo_app, esStoreo_cons, esStoreo_nil, eStoreo_eq, esResident_app, esResident_cons, esResident_nil, eResident_eq]; done) | omega)) | (first | rfl | (simp only [hC, List.length_append, List.length_cons, List.length_nil, List.append_nil, List.nil_append, List.cons_append, List.length_set, List.append_assoc, Nat.zero_add, List.length_replicate, esStore_app, esStore_cons, esStore_nil, eStore_eq, esStoreo_app, esStoreo_cons, esStoreo_nil, eStoreo_eq, esResident_app, esResident_cons, esResident_nil, eResident_eq]; done) | (simp [hC, List.length_append, List.length_cons, List.length_nil, List.append_nil, List.nil_append, List.cons_append, List.length_set, List.append_assoc, Nat.zero_add, List.length_replicate, esStore_app, esStore_cons, esStore_nil, eStore_eq, esStoreo_app, esStoreo_cons, esStoreo_nil, eStoreo_eq, esResident_app, esResident_cons, esResident_nil, eResident_eq]; done) | omega)) : A := h hF hC
def p_impl_Release_tf := PLift.up (And.intro @eStore_eq (And.intro @esStore_len (And.intro @esStore_nil (And.intro @esStore_leaf (And.intro @esStore_fit (And.intro @eStoreo_eq (And.intro @esStoreo_len (And.intro @esStoreo_nil (And.intro @eResident_eq (And.intro @esResident_len (And.intro @esResident_nil (And.intro @esResident_leaf (And.intro @esResident_fit (And.intro @esStoreo_share (And.intro @esStoreo_pure (And.intro @esResident_share (And.intro @esResident_pure (And.intro @str_beq (And.intro @Ty.sl26 (And.intro @Ty.slz26 (And.intro @Ty.nz28 (And.intro @Ty.ldA28 (And.intro @Ty.sz28 (And.intro @Ty.szn28 (And.intro @Ty.nz26 (And.intro @Ty.ldA26 (And.intro @Ty.ldS26 (And.intro @Ty.sz26 (And.intro @Ty.szn26 (And.intro @Ty.nz3 (And.intro @Ty.ldA3 (And.intro @Ty.ldS3 (And.intro @Ty.sz3 (And.intro @Ty.szn3 (And.intro @Ty.fo28_2 (And.intro @Ty.fk28_2 (And.intro @Ty.fs28_2 (And.intro @Ty.fn28_2 (And.intro @Ty.fo45_2 (And.intro @Ty.fk45_2 (And.intro @Ty.fs45_2 (And.intro @Ty.fn45_2 (And.intro @Ty.zv28 (And.intro @Ty.bd28 (And.intro @Ty.ag28 @trivial)))))))))))))))))))))))))))))))))))))))))))))
def p_impl_Release (N : Nat) (s_a0 : GStore) (name_a1 : ByteArray) : Option (GStore × Int) := ((p_impl_GoodStore s_a0).bind fun v1 => (if v1 = true then ((p_impl_Store_clone s_a0).bind fun v3 => ((p_impl_Store_place N s_a0 name_a1).bind fun v4 => (if v4.2 = true then ((idx s_a0.In v4.1).bind fun x12 => p_impl_Release_j0 v3 v4 (x12.Held == 0)) else p_impl_Release_j0 v3 v4 true))) else some ((⟨0, 0, ([] : List GResident)⟩ : GStore), 1)))
theorem p_impl_Release_does (N : Nat) (s_a0 : GStore) (name_a1 : ByteArray) (r : GStore × Int) (h : p_impl_Release N s_a0 name_a1 = some r) : Does Try.prog 8 [.agg (eStore s_a0), S name_a1] (.tup [.agg (eStoreo r.1), I r.2]) := by
  rw [p_impl_Release] at h
  refine Does.bnd (fun hb => ?_)
  have hb2 : s_a0.In.length ≤ 9223372036854775807 := by simpa [AV.fitNs, AV.fitN, eStore] using hb
  have hl0 := hb2
  refine Does.walk (nt := 43) Try.func8 rfl rfl (by simp) (by decide) rfl (fun G0 X w0 pv => ?_)
  obtain ⟨v1, ev1, h⟩ := Option.bind_eq_some_iff.1 h
  try dsimp only at h
  have ff := p_impl_Release_tf.down
  try refine st_by ff ?_
  repeat' (first | exact trivial | refine And.intro sd ?_)
  first
  | (refine cq_call (p_impl_GoodStore_does s_a0 v1 ev1) (hf_by ff) kr ⟨p_impl_Release_sa ff trivial, ?_⟩; clear ff)
  by_cases c2 : v1 = true
  case neg =>
   rw [if_neg c2] at h
   have dc2 := eq_false_of_ne_true c2
   have ff := And.intro @dc2 p_impl_Release_tf.down
   try refine st_by ff ?_
   repeat' (first | exact trivial | refine And.intro sd ?_)
   cases h
   exact ret_q2 rfl (p_impl_Release_rt ff trivial)
  rw [if_pos c2] at h
  have dc2 := c2
  obtain ⟨v3, ev3, h⟩ := Option.bind_eq_some_iff.1 h
  try dsimp only at h
  have ff := And.intro @dc2 p_impl_Release_tf.down
  try refine st_by ff ?_
  repeat' (first | exact trivial | refine And.intro sd ?_)
  first
  | (refine cq_own (p_impl_Store_clone_does s_a0 v3 ev3) (hf_by ff) kr ⟨p_impl_Release_sa ff trivial, ?_⟩; clear ff)
  obtain ⟨v4, ev4, h⟩ := Option.bind_eq_some_iff.1 h
  try dsimp only at h
  have ff := And.intro @dc2 p_impl_Release_tf.down
  try refine st_by ff ?_
  repeat' (first | exact trivial | refine And.intro sd ?_)
  first
  | (refine cq_call (p_impl_Store_place_does N s_a0 name_a1 v4 ev4) (hf_by ff) kr ⟨p_impl_Release_sa ff trivial, ?_⟩; clear ff)
  have ff := And.intro @dc2 p_impl_Release_tf.down
  try refine st_by ff ?_
  repeat' (first | exact trivial | refine And.intro sd ?_)
  try clear ff
  generalize hk_0 : thenK _ _ = kk_0
  have key_0 : ∀ σ, (∃ b_5 : Bool, (p_impl_Release_j0 v3 v4 b_5 = some r) ∧ σ.t 4 = .ptr 4 [] 0 ∧ σ.t 6 = .ptr 6 [] 0 ∧ σ.t 7 = I v4.1 ∧ σ.t 31 = B b_5 ∧ σ.m 4 = some (.box true [I 0, I 0, .row true 4 0 []]) ∧ σ.m 6 = some (.box true [I v3.Budget, I v3.Clock, .row true 4 v3.In.length (esResident v3.In)])) → kk_0 .nm σ := by
    rintro σ ⟨b_5, h, g0_j0, g1_j0, g2_j0, g3_j0, g4_j0, g5_j0⟩
    rw [← hk_0]
    rw [p_impl_Release_j0] at h
    by_cases c6 : b_5 = true
    · rw [if_pos c6] at h
      have dc6 := c6
      have ff := And.intro @dc2 (And.intro @g0_j0 (And.intro @g1_j0 (And.intro @g2_j0 (And.intro @g3_j0 (And.intro @g4_j0 (And.intro @g5_j0 (And.intro @dc6 p_impl_Release_tf.down)))))))
      try refine st_by ff ?_
      repeat' (first | exact trivial | refine And.intro sd ?_)
      cases h
      exact ret_q2 rfl (p_impl_Release_rt ff trivial)
    rw [if_neg c6] at h
    have dc6 := eq_false_of_ne_true c6
    obtain ⟨x7, ex7, h⟩ := Option.bind_eq_some_iff.1 h
    try dsimp only at h
    have f8a := idx_lo ex7
    have f8b := idx_hi ex7
    have f8c : (esResident v3.In).drop (v4.1.toNat * 4) = eResident x7 ++ esResident (v3.In.drop (v4.1.toNat + 1)) := drop_enc (fun _ => rfl) (idx_get ex7)
    have f8g0 : (esResident v3.In).getD (v4.1.toNat * 4) .junk = (eResident x7).getD 0 .junk := getD_enc0 (enc := eResident) (sz := 4) (fun _ => rfl) (idx_get ex7) (by decide)
    have f8g1 : (esResident v3.In).getD (v4.1.toNat * 4 + 1) .junk = (eResident x7).getD 1 .junk := getD_enc (enc := eResident) (sz := 4) (fun _ => rfl) (idx_get ex7) (by decide)
    have f8g2 : (esResident v3.In).getD (v4.1.toNat * 4 + 2) .junk = (eResident x7).getD 2 .junk := getD_enc (enc := eResident) (sz := 4) (fun _ => rfl) (idx_get ex7) (by decide)
    have f8g3 : (esResident v3.In).getD (v4.1.toNat * 4 + 3) .junk = (eResident x7).getD 3 .junk := getD_enc (enc := eResident) (sz := 4) (fun _ => rfl) (idx_get ex7) (by decide)
    have w9l : v4.1.toNat < v3.In.length := (List.getElem?_eq_some_iff.1 (idx_get ex7)).1
    have w9a : (esResident v3.In).set (v4.1.toNat * 4 + 2) (I (IntKind.i64.wrap (x7.Held - 1))) = esResident (v3.In.set v4.1.toNat (⟨x7.Name, x7.Size, (IntKind.i64.wrap (x7.Held - 1)), x7.Used⟩ : GResident)) := set_enc (enc := eResident) (sz := 4) (fun _ => rfl) (idx_get ex7) (by decide) rfl
    have w9b : (v3.In.set v4.1.toNat (⟨x7.Name, x7.Size, (IntKind.i64.wrap (x7.Held - 1)), x7.Used⟩ : GResident)).length = v3.In.length := List.length_set
    have ff := And.intro @dc2 (And.intro @g0_j0 (And.intro @g1_j0 (And.intro @g2_j0 (And.intro @g3_j0 (And.intro @g4_j0 (And.intro @g5_j0 (And.intro @dc6 (And.intro @f8c (And.intro @f8g0 (And.intro @f8g1 (And.intro @f8g2 (And.intro @f8g3 (And.intro @w9a p_impl_Release_tf.down)))))))))))))
    try refine st_by ff ?_
    repeat' (first | exact trivial | refine And.intro sd ?_)
    cases h
    exact ret_q2 rfl (p_impl_Release_rt ff trivial)
  have hrt_0 := fun σ : ASt => congrFun (congrFun hk_0.symm AX.rt) σ
  have hex_0 := fun (i : Nat) (σ : ASt) => congrFun (congrFun hk_0.symm (AX.ex i)) σ
  by_cases c11 : v4.2 = true
  case neg =>
   rw [if_neg c11] at h
   have dc11 := eq_false_of_ne_true c11
   have ff := And.intro @dc2 (And.intro @hrt_0 (And.intro @hex_0 (And.intro @dc11 p_impl_Release_tf.down)))
   try refine st_by ff ?_
   repeat' (first | exact trivial | refine And.intro sd ?_)
   refine key_0 _ ?_
   refine ⟨true, h, ?_⟩
   exact p_impl_Release_pv ff trivial
  rw [if_pos c11] at h
  have dc11 := c11
  obtain ⟨x12, ex12, h⟩ := Option.bind_eq_some_iff.1 h
  try dsimp only at h
  have f13a := idx_lo ex12
  have f13b := idx_hi ex12
  have f13c : (esResident s_a0.In).drop (v4.1.toNat * 4) = eResident x12 ++ esResident (s_a0.In.drop (v4.1.toNat + 1)) := drop_enc (fun _ => rfl) (idx_get ex12)
  have ff := And.intro @dc2 (And.intro @hrt_0 (And.intro @hex_0 (And.intro @dc11 (And.intro @f13c p_impl_Release_tf.down))))
  try refine st_by ff ?_
  repeat' (first | exact trivial | refine And.intro sd ?_)
  refine key_0 _ ?_
  refine ⟨(x12.Held == 0), h, ?_⟩
  exact p_impl_Release_pv ff trivial
end Go.Av
