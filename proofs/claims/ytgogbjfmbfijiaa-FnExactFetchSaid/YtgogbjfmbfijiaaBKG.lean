/- spec.l21Sizes -/
import Derived.Test.YtgogbjfmbfijiaaBKF
import Derived.Test.YtgogbjfmbfijiaaBIA
import Derived.Test.YtgogbjfmbfijiaaBDA
set_option linter.unusedSimpArgs false
set_option linter.unusedVariables false
set_option maxRecDepth 100000
set_option maxHeartbeats 1000000
namespace Go.Av
open Go.Proofs
/-! spec.l21Sizes -/
def p_spec_l21Sizes_l0 : List GResident → Nat → Int → Option (Int)
  | [], i_0, n_4 => some n_4
  | x_0 :: r_0, i_0, n_4 => p_spec_l21Sizes_l0 r_0 (i_0 + 1) (IntKind.i64.wrap (n_4 + x_0.Size))
theorem p_spec_l21Sizes_pv {F C A : Prop} (hF : F) (hC : C) (h : F → C → A := by intro hF hC; first | exact cl_by hF | (refine st_by hF ?_; (repeat' (first | exact trivial | apply And.intro)); all_goals (clear hF; first | rfl | (simp only [hC, List.length_append, List.length_cons, List.length_nil, List.append_nil, List.nil_append, List.cons_append, List.length_set, List.append_assoc, Nat.zero_add, List.length_replicate, esStore_app, esStore_cons, esStore_nil, eStore_eq, esStoreo_app, esStoreo_cons, esStoreo_nil, eStoreo_eq, esResident_app, esResident_cons, esResident_nil, eResident_eq]; done) | (simp [hC, List.length_append, List.length_cons, List.length_nil, List.append_nil, List.nil_append, List.cons_append, List.length_set, List.append_assoc, Nat.zero_add, List.length_replicate, esStore_app, esStore_cons, esStore_nil, eStore_eq, esStoreo_app, esStoreo_cons, esStoreo_nil, eStoreo_eq, esResident_app, esResident_cons, esResident_nil, eResident_eq]; done) | omega))) : A := h hF hC
theorem p_spec_l21Sizes_rt {F C A : Prop} (hF : F) (hC : C) (h : F → C → A := by intro hF hC; first | (refine sr_by hF ?_; (repeat' (first | exact trivial | apply And.intro)); all_goals (clear hF; first | rfl | (simp only [hC, List.length_append, List.length_cons, List.length_nil, List.append_nil, List.nil_append, List.cons_append, List.length_set, List.append_assoc, Nat.zero_add, List.length_replicate, esStore_app, esStore_cons, esStore_nil, eStore_eq, esStoreo_app, esStoreo_cons, esStoreo_nil, eStoreo_eq, esResident_app, esResident_cons, esResident_nil, eResident_eq]; done) | (simp [hC, List.length_append, List.length_cons, List.length_nil, List.append_nil, List.nil_append, List.cons_append, List.length_set, List.append_assoc, Nat.zero_add, List.length_replicate, esStore_app, esStore_cons, esStore_nil, eStore_eq, esStoreo_app, esStoreo_cons, esStoreo_nil, eStoreo_eq, esResident_app, esResident_cons, esResident_nil, eResident_eq]; done) | omega)) | (first | rfl | (simp only [hC, List.length_append, List.length_cons, List.length_nil, List.append_nil, List.nil_append, List.cons_append, List.length_set, List.append_assoc, Nat.zero_add, List.length_replicate, esStore_app, esStore_cons, esStore_nil, eStore_eq, esStoreo_app, esStoreo_cons, esStoreo_nil, eStoreo_eq, esResident_app, esResident_cons, esResident_nil, eResident_eq]; done) | (simp [hC, List.length_append, List.length_cons, List.length_nil, List.append_nil, List.nil_append, List.cons_append, List.length_set, List.append_assoc, Nat.zero_add, List.length_replicate, esStore_app, esStore_cons, esStore_nil, eStore_eq, esStoreo_app, esStoreo_cons, esStoreo_nil, eStoreo_eq, esResident_app, esResident_cons, esResident_nil, eResident_eq]; done) | omega)) : A := h hF hC
def p_spec_l21Sizes_tf := PLift.up (ai @eStore_eq (ai @esStore_len (ai @esStore_nil (ai @esStore_leaf (ai @esStore_fit (ai @eStoreo_eq (ai @esStoreo_len (ai @esStoreo_nil (ai @eResident_eq (ai @esResident_len (ai @esResident_nil (ai @esResident_leaf (ai @esResident_fit (ai @esStoreo_share (ai @esStoreo_pure (ai @esResident_share (ai @esResident_pure (ai @str_beq (ai @Ty.sl44 (ai @Ty.slz44 (ai @Ty.nz44 (ai @Ty.ldA44 (ai @Ty.ldS44 (ai @Ty.sz44 (ai @Ty.szn44 (ai @Ty.nz87 (ai @Ty.ldA87 (ai @Ty.sz87 (ai @Ty.szn87 (ai @Ty.nz3 (ai @Ty.ldA3 (ai @Ty.ldS3 (ai @Ty.sz3 (ai @Ty.szn3 (ai @Ty.fo46_2 (ai @Ty.fk46_2 (ai @Ty.fs46_2 (ai @Ty.fn46_2 (ai @Ty.fo87_1 (ai @Ty.fk87_1 (ai @Ty.fs87_1 (ai @Ty.fn87_1 (ai @Ty.zv87 @trivial)))))))))))))))))))))))))))))))))))))))))))
def p_spec_l21Sizes (s_a0 : GStore) : Option (Int) := ((p_spec_l21Sizes_l0 s_a0.In 0 0).bind fun q_0 => match q_0 with | n_4 => some n_4)
theorem p_spec_l21Sizes_does (s_a0 : GStore) (r : Int) (h : p_spec_l21Sizes s_a0 = some r) : Does Try.prog 56 [.agg (eStore s_a0)] (I r) := by
  rw [p_spec_l21Sizes] at h
  refine Does.bnd (fun hb => ?_)
  have hb2 : s_a0.In.length ≤ 9223372036854775807 := by simpa [AV.fitNs, AV.fitN, eStore] using hb
  have hl0 := hb2
  refine Does.walk (nt := 19) Try.func56 rfl rfl (by simp) (by decide) rfl (fun G0 X w0 pv => ?_)
  have hL_0 : s_a0.In.length ≤ 9223372036854775807 := by first | assumption | omega
  obtain ⟨q_0, eq_0, h⟩ := Option.bind_eq_some_iff.1 h
  have ff := p_spec_l21Sizes_tf.down
  try refine st_by ff ?_
  repeat' (first | exact trivial | refine And.intro sd ?_)
  obtain ⟨I_0, hI_0⟩ : ∃ I_ : (Nat × Int) → ASt → Prop, I_ = (fun (a : Nat × Int) σ => match a with | (i_0, n_4) => (i_0 ≤ s_a0.In.length ∧ p_spec_l21Sizes_l0 (s_a0.In.drop i_0) i_0 n_4 = some q_0) ∧ σ.t 3 = I n_4 ∧ σ.t 7 = .row false 4 s_a0.In.length (esResident s_a0.In) ∧ σ.t 8 = I (s_a0.In.length : Int) ∧ σ.t 9 = I (i_0 : Int)) := ⟨_, rfl⟩
  obtain ⟨M_0, hM_0⟩ : ∃ M_ : (Nat × Int) → Nat, M_ = (fun (a : Nat × Int) => match a with | (i_0, n_4) => s_a0.In.length - i_0) := ⟨_, rfl⟩
  obtain ⟨J_0, hJ_0⟩ : ∃ J_ : ASt → Prop, J_ = (fun σ => ∃ n_4 : Int, (some n_4 = some q_0) ∧ σ.t 3 = I n_4) := ⟨_, rfl⟩
  refine aw_loopC (id := 0) I_0 M_0 J_0 (0, 0) ?_ ?_ ?_
  · rw [hI_0]
    refine ⟨⟨Nat.zero_le _, eq_0⟩, ?_⟩
    exact p_spec_l21Sizes_pv ff trivial
  · try clear ff
    rintro ⟨i_0, n_4⟩ σ hg_0
    rw [hI_0] at hg_0
    obtain ⟨⟨hi_0, h_0⟩, g0_0, g1_0, g2_0, g3_0⟩ := hg_0
    cases hr_0 : s_a0.In.drop i_0 with
    | nil =>
      rw [hr_0] at h_0
      rw [p_spec_l21Sizes_l0] at h_0
      have hn_0 := drop_nil hr_0
      have dr_0 : decide ((i_0 : Int) < (s_a0.In.length : Int)) = false := decide_eq_false (by omega)
      have ff := ai @dr_0 (ai @g0_0 (ai @g1_0 (ai @g2_0 (ai @g3_0 p_spec_l21Sizes_tf.down))))
      try refine st_by ff ?_
      repeat' (first | exact trivial | refine And.intro sd ?_)
      refine JW.intro ?_
      rw [hJ_0]
      refine ⟨n_4, h_0, ?_⟩
      exact p_spec_l21Sizes_pv ff trivial
    | cons x_0 r_0 =>
      rw [hr_0] at h_0
      rw [p_spec_l21Sizes_l0] at h_0
      obtain ⟨ht_0, hg_0, hd_0⟩ := drop_cons hr_0
      have dr_0 : decide ((i_0 : Int) < (s_a0.In.length : Int)) = true := decide_eq_true (by omega)
      have w_0 : IntKind.i64.wrap ((i_0 : Int) + 1) = ((i_0 + 1 : Nat) : Int) := wI _ (by omega) (by omega)
      have kk0c : (esResident s_a0.In).drop (i_0 * 4) = eResident x_0 ++ esResident (s_a0.In.drop (i_0 + 1)) := drop_enc (fun _ => rfl) (hg_0)
      have ff := ai @dr_0 (ai @w_0 (ai @g0_0 (ai @g1_0 (ai @g2_0 (ai @g3_0 (ai @kk0c p_spec_l21Sizes_tf.down))))))
      try refine st_by ff ?_
      repeat' (first | exact trivial | refine And.intro sd ?_)
      refine Back.intro (i_0 + 1, (IntKind.i64.wrap (n_4 + x_0.Size))) ?_ ?_
      · clear ff; rw [hM_0]; show s_a0.In.length - (i_0 + 1) < s_a0.In.length - i_0; omega
      rw [hI_0]
      refine ⟨⟨by clear ff; show i_0 + 1 ≤ s_a0.In.length; omega, by show p_spec_l21Sizes_l0 (s_a0.In.drop (i_0 + 1)) (i_0 + 1) (IntKind.i64.wrap (n_4 + x_0.Size)) = some q_0; rw [hd_0]; exact h_0⟩, ?_⟩
      exact p_spec_l21Sizes_pv ff trivial
  · try clear ff
    rintro σ hg_0
    rw [hJ_0] at hg_0
    obtain ⟨n_4, hj_0, g0_0a⟩ := hg_0
    have hjj_0 := Option.some.inj hj_0
    subst hjj_0
    try dsimp only at h
    have ff := ai @g0_0a p_spec_l21Sizes_tf.down
    try refine st_by ff ?_
    repeat' (first | exact trivial | refine And.intro sd ?_)
    cases h
    exact ret_q1 rfl (p_spec_l21Sizes_rt ff trivial)
/-! spec.GoodStore -/
def p_spec_GoodStore_l1 (x_0 : GResident) : List GResident → Nat → Option (LR (Bool) (Unit))
  | [], i_1 => some (.out ())
  | x_1 :: r_1, i_1 => (if x_0.Used > 0 then (if x_1.Used = x_0.Used then some (.ret false) else p_spec_GoodStore_l1 x_0 r_1 (i_1 + 1)) else p_spec_GoodStore_l1 x_0 r_1 (i_1 + 1))
def p_spec_GoodStore_j1 (s_a0 : GStore) (x_0 : GResident) (i_0 : Nat) (rec_0 : Nat → Option (LR (Bool) (Unit))) (b_61 : Bool) : Option (LR (Bool) (Unit)) := (if b_61 = true then some (.ret false) else ((slc s_a0.In 0 (i_0 : Int)).bind fun m63 => ((p_spec_GoodStore_l1 x_0 m63 0).bind fun q_1 => match q_1 with | .ret r_ => some (.ret r_) | .out _ => rec_0 (i_0 + 1))))
def p_spec_GoodStore_l0 (s_a0 : GStore) : List GResident → Nat → Option (LR (Bool) (Unit))
  | [], i_0 => some (.out ())
  | x_0 :: r_0, i_0 => (if x_0.Name.size ≤ 9223372036854775807 then (if (goodName x_0.Name) = true then (if (rng x_0.Size 1 100000) = true then (if (rng x_0.Held 0 1000) = true then (if (rng x_0.Used 0 s_a0.Clock) = true then (if (i_0 : Int) > 0 then ((idx s_a0.In (IntKind.i64.wrap ((i_0 : Int) - 1))).bind fun x83 => p_spec_GoodStore_j1 s_a0 x_0 i_0 (p_spec_GoodStore_l0 s_a0 r_0) (!(Op.bytesLess x83.Name.toList x_0.Name.toList))) else p_spec_GoodStore_j1 s_a0 x_0 i_0 (p_spec_GoodStore_l0 s_a0 r_0) false) else p_spec_GoodStore_j1 s_a0 x_0 i_0 (p_spec_GoodStore_l0 s_a0 r_0) true) else p_spec_GoodStore_j1 s_a0 x_0 i_0 (p_spec_GoodStore_l0 s_a0 r_0) true) else p_spec_GoodStore_j1 s_a0 x_0 i_0 (p_spec_GoodStore_l0 s_a0 r_0) true) else p_spec_GoodStore_j1 s_a0 x_0 i_0 (p_spec_GoodStore_l0 s_a0 r_0) true) else none)
def p_spec_GoodStore_j0 (s_a0 : GStore) (b_1 : Bool) : Option (Bool) := (if b_1 = true then some false else ((p_spec_GoodStore_l0 s_a0 s_a0.In 0).bind fun q_0 => match q_0 with | .ret r_ => some r_ | .out _ => ((p_spec_l21Sizes s_a0).bind fun v85 => some (decide (v85 ≤ s_a0.Budget)))))
theorem p_spec_GoodStore_sa {F C A : Prop} (hF : F) (hC : C) (h : F → C → A := by intro hF hC; first | exact ca_by hF | (refine sa_by hF ?_; (repeat' (first | exact trivial | apply And.intro)); all_goals (clear hF; first | rfl | (simp only [hC, List.length_append, List.length_cons, List.length_nil, List.append_nil, List.nil_append, List.cons_append, List.length_set, List.append_assoc, Nat.zero_add, List.length_replicate, esStore_app, esStore_cons, esStore_nil, eStore_eq, esStoreo_app, esStoreo_cons, esStoreo_nil, eStoreo_eq, esResident_app, esResident_cons, esResident_nil, eResident_eq]; done) | (simp [hC, List.length_append, List.length_cons, List.length_nil, List.append_nil, List.nil_append, List.cons_append, List.length_set, List.append_assoc, Nat.zero_add, List.length_replicate, esStore_app, esStore_cons, esStore_nil, eStore_eq, esStoreo_app, esStoreo_cons, esStoreo_nil, eStoreo_eq, esResident_app, esResident_cons, esResident_nil, eResident_eq]; done) | omega))) : A := h hF hC
def p_spec_GoodStore_tf := PLift.up (ai @eStore_eq (ai @esStore_len (ai @esStore_nil (ai @esStore_leaf (ai @esStore_fit (ai @eStoreo_eq (ai @esStoreo_len (ai @esStoreo_nil (ai @eResident_eq (ai @esResident_len (ai @esResident_nil (ai @esResident_leaf (ai @esResident_fit (ai @esStoreo_share (ai @esStoreo_pure (ai @esResident_share (ai @esResident_pure (ai @str_beq (ai @Ty.sl44 (ai @Ty.slz44 (ai @Ty.nz3 (ai @Ty.ldA3 (ai @Ty.ldS3 (ai @Ty.sz3 (ai @Ty.szn3 (ai @Ty.nz44 (ai @Ty.ldA44 (ai @Ty.ldS44 (ai @Ty.sz44 (ai @Ty.szn44 (ai @Ty.nz87 (ai @Ty.ldA87 (ai @Ty.sz87 (ai @Ty.szn87 (ai @Ty.nz9 (ai @Ty.ldA9 (ai @Ty.ldS9 (ai @Ty.sz9 (ai @Ty.szn9 (ai @Ty.nz46 (ai @Ty.ldA46 (ai @Ty.sz46 (ai @Ty.szn46 (ai @Ty.fo46_0 (ai @Ty.fk46_0 (ai @Ty.fs46_0 (ai @Ty.fn46_0 (ai @Ty.fo46_1 (ai @Ty.fk46_1 (ai @Ty.fs46_1 (ai @Ty.fn46_1 (ai @Ty.fo46_2 (ai @Ty.fk46_2 (ai @Ty.fs46_2 (ai @Ty.fn46_2 (ai @Ty.fo87_0 (ai @Ty.fk87_0 (ai @Ty.fs87_0 (ai @Ty.fn87_0 (ai @Ty.fo87_1 (ai @Ty.fk87_1 (ai @Ty.fs87_1 (ai @Ty.fn87_1 (ai @Ty.fo87_2 (ai @Ty.fk87_2 (ai @Ty.fs87_2 (ai @Ty.fn87_2 (ai @Ty.fo87_3 (ai @Ty.fk87_3 (ai @Ty.fs87_3 (ai @Ty.fn87_3 (ai @Ty.nze44 (ai @Ty.zok44 (ai @Ty.by44 (ai @Ty.zs44 (ai @Ty.zv87 @trivial))))))))))))))))))))))))))))))))))))))))))))))))))))))))))))))))))))))))))))
def p_spec_GoodStore (s_a0 : GStore) : Option (Bool) := (if (rng s_a0.Budget 1 100000) = true then (if (rng s_a0.Clock 0 100000) = true then p_spec_GoodStore_j0 s_a0 (decide ((s_a0.In.length : Int) > 30)) else p_spec_GoodStore_j0 s_a0 true) else p_spec_GoodStore_j0 s_a0 true)
theorem p_spec_GoodStore_does (s_a0 : GStore) (r : Bool) (h : p_spec_GoodStore s_a0 = some r) : Does Try.prog 53 [.agg (eStore s_a0)] (B r) := by
  rw [p_spec_GoodStore] at h
  refine Does.bnd (fun hb => ?_)
  have hb2 : s_a0.In.length ≤ 9223372036854775807 := by simpa [AV.fitNs, AV.fitN, eStore] using hb
  have hl0 := hb2
  refine Does.walk (nt := 97) Try.func53 rfl rfl (by simp) (by decide) rfl (fun G0 X w0 pv => ?_)
  have ff := p_spec_GoodStore_tf.down
  try refine st_by ff ?_
  repeat' (first | exact trivial | refine And.intro sd ?_)
  first
  | (refine cq_call (l1In_does s_a0.Budget 1 100000) (hf_by ff) kr ⟨p_spec_GoodStore_sa ff trivial, ?_⟩; clear ff)
  | (refine cq_dcall (l1In_does s_a0.Budget 1 100000) (hf_by ff) kr ⟨p_spec_GoodStore_sa ff trivial, ?_⟩; clear ff)
  have ff := p_spec_GoodStore_tf.down
  try refine st_by ff ?_
  repeat' (first | exact trivial | refine And.intro sd ?_)
  try clear ff
  generalize hk_0 : thenK _ _ = kk_0
  have key_0 : ∀ σ, (∃ b_1 : Bool, (p_spec_GoodStore_j0 s_a0 b_1 = some r) ∧ σ.t 1 = .ptr 1 [] 0 ∧ σ.t 22 = B b_1 ∧ σ.m 1 = some (.box true [I s_a0.Budget, I s_a0.Clock, .row false 4 s_a0.In.length (esResident s_a0.In)])) → kk_0 .nm σ := by
    rintro σ ⟨b_1, h, g0_j0, g1_j0, g2_j0⟩
    rw [← hk_0]
    rw [p_spec_GoodStore_j0] at h
    by_cases c2 : b_1 = true
    · rw [if_pos c2] at h
      have dc2 := c2
      have ff := ai @g0_j0 (ai @g1_j0 (ai @g2_j0 (ai @dc2 p_spec_GoodStore_tf.down)))
      try refine st_by ff ?_
      repeat' (first | exact trivial | refine And.intro sd ?_)
      cases h
      exact ret_q1 rfl (p_spec_l21Sizes_rt ff trivial)
    rw [if_neg c2] at h
    have dc2 := eq_false_of_ne_true c2
    have hL_0 : s_a0.In.length ≤ 9223372036854775807 := by first | assumption | omega
    obtain ⟨q_0, eq_0, h⟩ := Option.bind_eq_some_iff.1 h
    have ff := ai @g0_j0 (ai @g1_j0 (ai @g2_j0 (ai @dc2 p_spec_GoodStore_tf.down)))
    try refine st_by ff ?_
    repeat' (first | exact trivial | refine And.intro sd ?_)
    obtain ⟨I_0, hI_0⟩ : ∃ I_ : (Nat) → ASt → Prop, I_ = (fun (i_0 : Nat) σ => (i_0 ≤ s_a0.In.length ∧ p_spec_GoodStore_l0 s_a0 (s_a0.In.drop i_0) i_0 = some q_0) ∧ σ.t 1 = .ptr 1 [] 0 ∧ σ.t 24 = .row false 4 s_a0.In.length (esResident s_a0.In) ∧ σ.t 25 = I (s_a0.In.length : Int) ∧ σ.t 26 = I (i_0 : Int) ∧ σ.m 1 = some (.box true [I s_a0.Budget, I s_a0.Clock, .row false 4 s_a0.In.length (esResident s_a0.In)])) := ⟨_, rfl⟩
    obtain ⟨M_0, hM_0⟩ : ∃ M_ : (Nat) → Nat, M_ = (fun (i_0 : Nat) => s_a0.In.length - i_0) := ⟨_, rfl⟩
    obtain ⟨J_0, hJ_0⟩ : ∃ J_ : ASt → Prop, J_ = (fun σ => (some (.out ()) = some q_0) ∧ σ.t 1 = .ptr 1 [] 0 ∧ σ.m 1 = some (.box true [I s_a0.Budget, I s_a0.Clock, .row false 4 s_a0.In.length (esResident s_a0.In)])) := ⟨_, rfl⟩
    refine aw_loopC (id := 0) I_0 M_0 J_0 (0) ?_ ?_ ?_
    · rw [hI_0]
      refine ⟨⟨Nat.zero_le _, eq_0⟩, ?_⟩
      exact p_spec_l21Sizes_pv ff trivial
    · try clear ff
      rintro i_0 σ hg_0
      rw [hI_0] at hg_0
      obtain ⟨⟨hi_0, h_0⟩, g0_0, g1_0, g2_0, g3_0, g4_0⟩ := hg_0
      cases hr_0 : s_a0.In.drop i_0 with
      | nil =>
        rw [hr_0] at h_0
        rw [p_spec_GoodStore_l0] at h_0
        have hn_0 := drop_nil hr_0
        have dr_0 : decide ((i_0 : Int) < (s_a0.In.length : Int)) = false := decide_eq_false (by omega)
        have ff := ai @dc2 (ai @dr_0 (ai @g0_0 (ai @g1_0 (ai @g2_0 (ai @g3_0 (ai @g4_0 p_spec_GoodStore_tf.down))))))
        try refine st_by ff ?_
        repeat' (first | exact trivial | refine And.intro sd ?_)
        refine JW.intro ?_
        rw [hJ_0]
        refine ⟨h_0, ?_⟩
        exact p_spec_l21Sizes_pv ff trivial
      | cons x_0 r_0 =>
        rw [hr_0] at h_0
        rw [p_spec_GoodStore_l0] at h_0
        obtain ⟨ht_0, hg_0, hd_0⟩ := drop_cons hr_0
        have dr_0 : decide ((i_0 : Int) < (s_a0.In.length : Int)) = true := decide_eq_true (by omega)
        have w_0 : IntKind.i64.wrap ((i_0 : Int) + 1) = ((i_0 + 1 : Nat) : Int) := wI _ (by omega) (by omega)
        have kk0c : (esResident s_a0.In).drop (i_0 * 4) = eResident x_0 ++ esResident (s_a0.In.drop (i_0 + 1)) := drop_enc (fun _ => rfl) (hg_0)
        by_cases c60 : x_0.Name.size ≤ 9223372036854775807
        case neg => rw [if_neg c60] at h_0; cases h_0
        rw [if_pos c60] at h_0
        have ff := ai @dc2 (ai @dr_0 (ai @w_0 (ai @g0_0 (ai @g1_0 (ai @g2_0 (ai @g3_0 (ai @g4_0 (ai @kk0c p_spec_GoodStore_tf.down))))))))
        try refine st_by ff ?_
        repeat' (first | exact trivial | refine And.intro sd ?_ | (refine aw_drawn (id := 6) ?_ [[], [0], [0, 1], [0, 1, 2], [0, 1, 2, 3], [0, 1, 2, 3, 4], [0, 1, 2, 3, 4, 5], [0, 1, 2, 3, 4, 5, 6], [0, 1, 2, 3, 4, 5, 6, 7], [0, 1, 2, 3, 4, 5, 6, 7, 8], [0, 1, 2, 3, 4, 5, 6, 7, 8, 9], [0, 1, 2, 3, 4, 5, 6, 7, 8, 9, 10], [0, 1, 2, 3, 4, 5, 6, 7, 8, 9, 10, 11], [0, 1, 2, 3, 4, 5, 6, 7, 8, 9, 10, 11, 12], [0, 1, 2, 3, 4, 5, 6, 7, 8, 9, 10, 11, 12, 13], [0, 1, 2, 3, 4, 5, 6, 7, 8, 9, 10, 11, 12, 13, 14], [0, 1, 2, 3, 4, 5, 6, 7, 8, 9, 10, 11, 12, 13, 14, 15], [0, 1, 2, 3, 4, 5, 6, 7, 8, 9, 10, 11, 12, 13, 14, 15, 16], [0, 1, 2, 3, 4, 5, 6, 7, 8, 9, 10, 11, 12, 13, 14, 15, 16, 17], [0, 1, 2, 3, 4, 5, 6, 7, 8, 9, 10, 11, 12, 13, 14, 15, 16], [0, 1, 2, 3, 4, 5, 6, 7, 8, 9, 10, 11, 12, 13, 14, 15, 16, 19], [0, 1, 2, 3, 4, 5, 6, 7, 8, 9, 10, 11, 12, 13, 14, 15, 16, 17, 18, 19, 20], [0, 1, 2, 3, 4, 5, 6, 7, 8, 9, 10, 11, 12, 13, 14, 15, 16, 17, 18, 19, 20, 21], [0, 1, 2, 3, 4, 5, 6, 7, 8, 9, 10, 11, 12, 13, 14, 15, 16, 17, 18, 19, 20, 21, 22], [0, 1, 2, 3, 4, 5, 6, 7, 8, 9, 10, 11, 12, 13, 14, 15, 16, 17, 18, 19, 20, 21, 22, 23], [0, 1, 2, 3, 4, 5, 6, 7, 8, 9, 10, 11, 12, 13, 14, 15, 16, 17, 18, 19, 20, 21, 22, 23, 24], [0, 1, 2, 3, 4, 5, 6, 7, 8, 9, 10, 11, 12, 13, 14, 15, 16, 17, 18, 19, 20, 21, 22, 23, 24, 25], [0, 1, 2, 3, 4, 5, 6, 7, 8, 9, 10, 11, 12, 13, 14, 15, 16, 17, 18, 19, 20, 21, 22, 23, 24, 25, 26], [0, 1, 2, 3, 4, 5, 6, 7, 8, 9, 10, 11, 12, 13, 14, 15, 16, 17, 18, 19, 20, 21, 22, 23, 24, 25, 26, 27], [0, 1, 2, 3, 4, 5, 6, 7, 8, 9, 10, 11, 12, 13, 14, 15, 16, 17, 18, 19, 20, 21, 22, 23, 24, 25, 26, 27, 28], [0, 1, 2, 3, 4, 5, 6, 7, 8, 9, 10, 11, 12, 13, 14, 15, 16, 17, 18, 19, 20, 21, 22, 23, 24, 25, 26, 27], [0, 1, 2, 3, 4, 5, 6, 7, 8, 9, 10, 11, 12, 13, 14, 15, 16, 17, 18, 19, 20, 21, 22, 23, 24, 25, 26, 27, 30], [0, 1, 2, 3, 4, 5, 6, 7, 8, 9, 10, 11, 12, 13, 14, 15, 16, 17, 18, 19, 20, 21, 22, 23, 24, 25, 26, 27, 28, 29, 30, 31], [0, 1, 2, 3, 4, 5, 6, 7, 8, 9, 10, 11, 12, 13, 14, 15, 16, 17, 18, 19, 20, 21, 22, 23, 24, 25, 26, 27, 28, 29, 30, 31, 32], [0, 1, 2, 3, 4, 5, 6, 7, 8, 9, 10, 11, 12, 13, 14, 15, 16, 17, 18, 19, 20, 21, 22, 23, 24, 25, 26, 27, 28, 29, 30, 31, 32, 33], [0, 1, 2, 3, 4, 5, 6, 7, 8, 9, 10, 11, 12, 13, 14, 15, 16, 17, 18, 19, 20, 21, 22, 23, 24, 25, 26, 27], [0, 1, 2, 3, 4, 5, 6, 7, 8, 9, 10, 11, 12, 13, 14, 15, 16, 17, 18, 19, 20, 21, 22, 23, 24, 25, 26, 27, 35], [0, 1, 2, 3, 4, 5, 6, 7, 8, 9, 10, 11, 12, 13, 14, 15, 16, 17, 18, 19, 20, 21, 22, 23, 24, 25, 26, 27, 28, 29, 30, 31, 32, 33, 34, 35, 36], [0, 1, 2, 3, 4, 5, 6, 7, 8, 9, 10, 11, 12, 13, 14, 15, 16, 17, 18, 19, 20, 21, 22, 23, 24, 25, 26, 27, 28, 29, 30, 31, 32, 33, 34, 35, 36, 37], [0, 1, 2, 3, 4, 5, 6, 7, 8, 9, 10, 11, 12, 13, 14, 15, 16, 17, 18, 19, 20, 21, 22, 23, 24, 25, 26, 27, 28, 29, 30, 31, 32, 33, 34, 35, 36, 37, 38]] 37 ?_ ?_; (· kernel_rfl); (· kernel_rfl); refine st_by ff ?_))
        first
        | (refine cq_call (specGoodName_does x_0.Name (by first | assumption | omega)) (hf_by ff) kr ⟨p_spec_GoodStore_sa ff trivial, ?_⟩; clear ff)
        | (refine cq_dcall (specGoodName_does x_0.Name (by first | assumption | omega)) (hf_by ff) kr ⟨p_spec_GoodStore_sa ff trivial, ?_⟩; clear ff)
        have ff := ai @dc2 (ai @dr_0 (ai @w_0 (ai @g0_0 (ai @g1_0 (ai @g2_0 (ai @g3_0 (ai @g4_0 (ai @kk0c p_spec_GoodStore_tf.down))))))))
        try refine st_by ff ?_
        repeat' (first | exact trivial | refine And.intro sd ?_)
        try clear ff
        generalize hk_1 : thenK _ _ = kk_1
        have key_1 : ∀ σ, (∃ b_61 : Bool, (p_spec_GoodStore_j1 s_a0 x_0 i_0 (p_spec_GoodStore_l0 s_a0 r_0) b_61 = some q_0) ∧ σ.t 1 = .ptr 1 [] 0 ∧ σ.t 3 = I (i_0 : Int) ∧ σ.t 4 = .ptr 4 [] 0 ∧ σ.t 24 = .row false 4 s_a0.In.length (esResident s_a0.In) ∧ σ.t 25 = I (s_a0.In.length : Int) ∧ σ.t 26 = I (i_0 : Int) ∧ σ.t 70 = B b_61 ∧ σ.m 1 = some (.box true [I s_a0.Budget, I s_a0.Clock, .row false 4 s_a0.In.length (esResident s_a0.In)]) ∧ σ.m 4 = some (.box true [S x_0.Name, I x_0.Size, I x_0.Held, I x_0.Used])) → kk_1 .nm σ := by
          rintro σ ⟨b_61, h_0, g0_j1, g1_j1, g2_j1, g3_j1, g4_j1, g5_j1, g6_j1, g7_j1, g8_j1⟩
          rw [← hk_1]
          rw [p_spec_GoodStore_j1] at h_0
          by_cases c62 : b_61 = true
          · rw [if_pos c62] at h_0
            have dc62 := c62
            cases h_0
            try dsimp only at h
            have ff := ai @dc2 (ai @dr_0 (ai @w_0 (ai @kk0c (ai @g0_j1 (ai @g1_j1 (ai @g2_j1 (ai @g3_j1 (ai @g4_j1 (ai @g5_j1 (ai @g6_j1 (ai @g7_j1 (ai @g8_j1 (ai @dc62 p_spec_GoodStore_tf.down)))))))))))))
            try refine st_by ff ?_
            repeat' (first | exact trivial | refine And.intro sd ?_)
            cases h
            exact ret_q1 rfl (p_spec_l21Sizes_rt ff trivial)
          rw [if_neg c62] at h_0
          have dc62 := eq_false_of_ne_true c62
          obtain ⟨m63, em63, h_0⟩ := Option.bind_eq_some_iff.1 h_0
          try dsimp only at h_0
          obtain ⟨f64a, f64b⟩ := slc_ok em63
          have f64c : (esResident s_a0.In).take (i_0 * 4) = esResident m63 := slc_encL (enc := eResident) (fun _ => rfl) em63
          have f64d : m63.length = i_0 := (slc_lenL em63).symm
          have hL_1 : m63.length ≤ 9223372036854775807 := by first | assumption | omega
          obtain ⟨q_1, eq_1, h_0⟩ := Option.bind_eq_some_iff.1 h_0
          have ff := ai @dc2 (ai @dr_0 (ai @w_0 (ai @kk0c (ai @g0_j1 (ai @g1_j1 (ai @g2_j1 (ai @g3_j1 (ai @g4_j1 (ai @g5_j1 (ai @g6_j1 (ai @g7_j1 (ai @g8_j1 (ai @dc62 (ai @f64c p_spec_GoodStore_tf.down))))))))))))))
          try refine st_by ff ?_
          repeat' (first | exact trivial | refine And.intro sd ?_)
          obtain ⟨I_1, hI_1⟩ : ∃ I_ : (Nat) → ASt → Prop, I_ = (fun (i_1 : Nat) σ => (i_1 ≤ m63.length ∧ p_spec_GoodStore_l1 x_0 (m63.drop i_1) i_1 = some q_1) ∧ σ.t 1 = .ptr 1 [] 0 ∧ σ.t 4 = .ptr 4 [] 0 ∧ σ.t 24 = .row false 4 s_a0.In.length (esResident s_a0.In) ∧ σ.t 25 = I (s_a0.In.length : Int) ∧ σ.t 26 = I (i_0 : Int) ∧ σ.t 74 = .row false 4 m63.length (esResident m63) ∧ σ.t 75 = I (m63.length : Int) ∧ σ.t 76 = I (i_1 : Int) ∧ σ.m 1 = some (.box true [I s_a0.Budget, I s_a0.Clock, .row false 4 s_a0.In.length (esResident s_a0.In)]) ∧ σ.m 4 = some (.box true [S x_0.Name, I x_0.Size, I x_0.Held, I x_0.Used])) := ⟨_, rfl⟩
          obtain ⟨M_1, hM_1⟩ : ∃ M_ : (Nat) → Nat, M_ = (fun (i_1 : Nat) => m63.length - i_1) := ⟨_, rfl⟩
          obtain ⟨J_1, hJ_1⟩ : ∃ J_ : ASt → Prop, J_ = (fun σ => (some (.out ()) = some q_1) ∧ σ.t 1 = .ptr 1 [] 0 ∧ σ.t 24 = .row false 4 s_a0.In.length (esResident s_a0.In) ∧ σ.t 25 = I (s_a0.In.length : Int) ∧ σ.t 26 = I (i_0 : Int) ∧ σ.m 1 = some (.box true [I s_a0.Budget, I s_a0.Clock, .row false 4 s_a0.In.length (esResident s_a0.In)])) := ⟨_, rfl⟩
          refine aw_loopC (id := 2) I_1 M_1 J_1 (0) ?_ ?_ ?_
          · rw [hI_1]
            refine ⟨⟨Nat.zero_le _, eq_1⟩, ?_⟩
            exact p_spec_l21Sizes_pv ff @f64d
          · try clear ff
            rintro i_1 σ hg_1
            rw [hI_1] at hg_1
            obtain ⟨⟨hi_1, h_1⟩, g0_1, g1_1, g2_1, g3_1, g4_1, g5_1, g6_1, g7_1, g8_1, g9_1⟩ := hg_1
            cases hr_1 : m63.drop i_1 with
            | nil =>
              rw [hr_1] at h_1
              rw [p_spec_GoodStore_l1] at h_1
              have hn_1 := drop_nil hr_1
              have dr_1 : decide ((i_1 : Int) < (m63.length : Int)) = false := decide_eq_false (by omega)
              have ff := ai @dc2 (ai @dr_0 (ai @w_0 (ai @kk0c (ai @dc62 (ai @f64c (ai @dr_1 (ai @g0_1 (ai @g1_1 (ai @g2_1 (ai @g3_1 (ai @g4_1 (ai @g5_1 (ai @g6_1 (ai @g7_1 (ai @g8_1 (ai @g9_1 p_spec_GoodStore_tf.down))))))))))))))))
              try refine st_by ff ?_
              repeat' (first | exact trivial | refine And.intro sd ?_)
              refine JW.intro ?_
              rw [hJ_1]
              refine ⟨h_1, ?_⟩
              exact p_spec_l21Sizes_pv ff @f64d
            | cons x_1 r_1 =>
              rw [hr_1] at h_1
              rw [p_spec_GoodStore_l1] at h_1
              obtain ⟨ht_1, hg_1, hd_1⟩ := drop_cons hr_1
              have dr_1 : decide ((i_1 : Int) < (m63.length : Int)) = true := decide_eq_true (by omega)
              have w_1 : IntKind.i64.wrap ((i_1 : Int) + 1) = ((i_1 + 1 : Nat) : Int) := wI _ (by omega) (by omega)
              have kk1c : (esResident m63).drop (i_1 * 4) = eResident x_1 ++ esResident (m63.drop (i_1 + 1)) := drop_enc (fun _ => rfl) (hg_1)
              by_cases c76 : x_0.Used > 0
              case neg =>
               rw [if_neg c76] at h_1
               have dc76 := decide_eq_false c76
               have ff := ai @dc2 (ai @dr_0 (ai @w_0 (ai @kk0c (ai @dc62 (ai @f64c (ai @dr_1 (ai @w_1 (ai @g0_1 (ai @g1_1 (ai @g2_1 (ai @g3_1 (ai @g4_1 (ai @g5_1 (ai @g6_1 (ai @g7_1 (ai @g8_1 (ai @g9_1 (ai @kk1c (ai @dc76 p_spec_GoodStore_tf.down)))))))))))))))))))
               try refine st_by ff ?_
               repeat' (first | exact trivial | refine And.intro sd ?_)
               refine Back.intro (i_1 + 1) ?_ ?_
               · clear ff; rw [hM_1]; show m63.length - (i_1 + 1) < m63.length - i_1; omega
               rw [hI_1]
               refine ⟨⟨by clear ff; show i_1 + 1 ≤ m63.length; omega, by show p_spec_GoodStore_l1 x_0 (m63.drop (i_1 + 1)) (i_1 + 1) = some q_1; rw [hd_1]; exact h_1⟩, ?_⟩
               exact p_spec_l21Sizes_pv ff @f64d
              rw [if_pos c76] at h_1
              have dc76 := decide_eq_true c76
              by_cases c77 : x_1.Used = x_0.Used
              case neg =>
               rw [if_neg c77] at h_1
               have dc77 := beq_no c77
               have ff := ai @dc2 (ai @dr_0 (ai @w_0 (ai @kk0c (ai @dc62 (ai @f64c (ai @dr_1 (ai @w_1 (ai @g0_1 (ai @g1_1 (ai @g2_1 (ai @g3_1 (ai @g4_1 (ai @g5_1 (ai @g6_1 (ai @g7_1 (ai @g8_1 (ai @g9_1 (ai @kk1c (ai @dc76 (ai @dc77 p_spec_GoodStore_tf.down))))))))))))))))))))
               try refine st_by ff ?_
               repeat' (first | exact trivial | refine And.intro sd ?_)
               refine Back.intro (i_1 + 1) ?_ ?_
               · clear ff; rw [hM_1]; show m63.length - (i_1 + 1) < m63.length - i_1; omega
               rw [hI_1]
               refine ⟨⟨by clear ff; show i_1 + 1 ≤ m63.length; omega, by show p_spec_GoodStore_l1 x_0 (m63.drop (i_1 + 1)) (i_1 + 1) = some q_1; rw [hd_1]; exact h_1⟩, ?_⟩
               exact p_spec_l21Sizes_pv ff @f64d
              rw [if_pos c77] at h_1
              have dc77 := beq_yes c77
              cases h_1
              try dsimp only at h_0
              cases h_0
              try dsimp only at h
              have ff := ai @dc2 (ai @dr_0 (ai @w_0 (ai @kk0c (ai @dc62 (ai @f64c (ai @dr_1 (ai @w_1 (ai @g0_1 (ai @g1_1 (ai @g2_1 (ai @g3_1 (ai @g4_1 (ai @g5_1 (ai @g6_1 (ai @g7_1 (ai @g8_1 (ai @g9_1 (ai @kk1c (ai @dc76 (ai @dc77 p_spec_GoodStore_tf.down))))))))))))))))))))
              try refine st_by ff ?_
              repeat' (first | exact trivial | refine And.intro sd ?_)
              cases h
              exact ret_q1 rfl (p_spec_l21Sizes_rt ff @f64d)
          · try clear ff
            rintro σ hg_1
            rw [hJ_1] at hg_1
            obtain ⟨hj_1, g0_1a, g1_1a, g2_1a, g3_1a, g4_1a⟩ := hg_1
            cases hj_1
            try dsimp only at h_0
            have ff := ai @dc2 (ai @dr_0 (ai @w_0 (ai @kk0c (ai @dc62 (ai @f64c (ai @g0_1a (ai @g1_1a (ai @g2_1a (ai @g3_1a (ai @g4_1a p_spec_GoodStore_tf.down))))))))))
            try refine st_by ff ?_
            repeat' (first | exact trivial | refine And.intro sd ?_)
            refine Back.intro (i_0 + 1) ?_ ?_
            · clear ff; rw [hM_0]; show s_a0.In.length - (i_0 + 1) < s_a0.In.length - i_0; omega
            rw [hI_0]
            refine ⟨⟨by clear ff; show i_0 + 1 ≤ s_a0.In.length; omega, by show p_spec_GoodStore_l0 s_a0 (s_a0.In.drop (i_0 + 1)) (i_0 + 1) = some q_0; rw [hd_0]; exact h_0⟩, ?_⟩
            exact p_spec_l21Sizes_pv ff @f64d
        have hrt_1 := fun σ : ASt => congrFun (congrFun hk_1.symm AX.rt) σ
        have hex_1 := fun (i : Nat) (σ : ASt) => congrFun (congrFun hk_1.symm (AX.ex i)) σ
        by_cases c78 : (goodName x_0.Name) = true
        case neg =>
         rw [if_neg c78] at h_0
         have dc78 := eq_false_of_ne_true c78
         have ff := ai @dc2 (ai @dr_0 (ai @w_0 (ai @g0_0 (ai @g1_0 (ai @g2_0 (ai @g3_0 (ai @g4_0 (ai @kk0c (ai @hrt_1 (ai @hex_1 (ai @dc78 p_spec_GoodStore_tf.down)))))))))))
         try refine st_by ff ?_
         repeat' (first | exact trivial | refine And.intro sd ?_)
         refine key_1 _ ?_
         refine ⟨true, h_0, ?_⟩
         exact p_spec_l21Sizes_pv ff trivial
        rw [if_pos c78] at h_0
        have dc78 := c78
        have ff := ai @dc2 (ai @dr_0 (ai @w_0 (ai @g0_0 (ai @g1_0 (ai @g2_0 (ai @g3_0 (ai @g4_0 (ai @kk0c (ai @hrt_1 (ai @hex_1 (ai @dc78 p_spec_GoodStore_tf.down)))))))))))
        try refine st_by ff ?_
        repeat' (first | exact trivial | refine And.intro sd ?_)
        first
        | (refine cq_call (l1In_does x_0.Size 1 100000) (hf_by ff) kr ⟨p_spec_GoodStore_sa ff trivial, ?_⟩; clear ff)
        | (refine cq_dcall (l1In_does x_0.Size 1 100000) (hf_by ff) kr ⟨p_spec_GoodStore_sa ff trivial, ?_⟩; clear ff)
        by_cases c79 : (rng x_0.Size 1 100000) = true
        case neg =>
         rw [if_neg c79] at h_0
         have dc79 := eq_false_of_ne_true c79
         have ff := ai @dc2 (ai @dr_0 (ai @w_0 (ai @g0_0 (ai @g1_0 (ai @g2_0 (ai @g3_0 (ai @g4_0 (ai @kk0c (ai @hrt_1 (ai @hex_1 (ai @dc78 (ai @dc79 p_spec_GoodStore_tf.down))))))))))))
         try refine st_by ff ?_
         repeat' (first | exact trivial | refine And.intro sd ?_)
         refine key_1 _ ?_
         refine ⟨true, h_0, ?_⟩
         exact p_spec_l21Sizes_pv ff trivial
        rw [if_pos c79] at h_0
        have dc79 := c79
        have ff := ai @dc2 (ai @dr_0 (ai @w_0 (ai @g0_0 (ai @g1_0 (ai @g2_0 (ai @g3_0 (ai @g4_0 (ai @kk0c (ai @hrt_1 (ai @hex_1 (ai @dc78 (ai @dc79 p_spec_GoodStore_tf.down))))))))))))
        try refine st_by ff ?_
        repeat' (first | exact trivial | refine And.intro sd ?_)
        first
        | (refine cq_call (l1In_does x_0.Held 0 1000) (hf_by ff) kr ⟨p_spec_GoodStore_sa ff trivial, ?_⟩; clear ff)
        | (refine cq_dcall (l1In_does x_0.Held 0 1000) (hf_by ff) kr ⟨p_spec_GoodStore_sa ff trivial, ?_⟩; clear ff)
        by_cases c80 : (rng x_0.Held 0 1000) = true
        case neg =>
         rw [if_neg c80] at h_0
         have dc80 := eq_false_of_ne_true c80
         have ff := ai @dc2 (ai @dr_0 (ai @w_0 (ai @g0_0 (ai @g1_0 (ai @g2_0 (ai @g3_0 (ai @g4_0 (ai @kk0c (ai @hrt_1 (ai @hex_1 (ai @dc78 (ai @dc79 (ai @dc80 p_spec_GoodStore_tf.down)))))))))))))
         try refine st_by ff ?_
         repeat' (first | exact trivial | refine And.intro sd ?_)
         refine key_1 _ ?_
         refine ⟨true, h_0, ?_⟩
         exact p_spec_l21Sizes_pv ff trivial
        rw [if_pos c80] at h_0
        have dc80 := c80
        have ff := ai @dc2 (ai @dr_0 (ai @w_0 (ai @g0_0 (ai @g1_0 (ai @g2_0 (ai @g3_0 (ai @g4_0 (ai @kk0c (ai @hrt_1 (ai @hex_1 (ai @dc78 (ai @dc79 (ai @dc80 p_spec_GoodStore_tf.down)))))))))))))
        try refine st_by ff ?_
        repeat' (first | exact trivial | refine And.intro sd ?_)
        first
        | (refine cq_call (l1In_does x_0.Used 0 s_a0.Clock) (hf_by ff) kr ⟨p_spec_GoodStore_sa ff trivial, ?_⟩; clear ff)
        | (refine cq_dcall (l1In_does x_0.Used 0 s_a0.Clock) (hf_by ff) kr ⟨p_spec_GoodStore_sa ff trivial, ?_⟩; clear ff)
        by_cases c81 : (rng x_0.Used 0 s_a0.Clock) = true
        case neg =>
         rw [if_neg c81] at h_0
         have dc81 := eq_false_of_ne_true c81
         have ff := ai @dc2 (ai @dr_0 (ai @w_0 (ai @g0_0 (ai @g1_0 (ai @g2_0 (ai @g3_0 (ai @g4_0 (ai @kk0c (ai @hrt_1 (ai @hex_1 (ai @dc78 (ai @dc79 (ai @dc80 (ai @dc81 p_spec_GoodStore_tf.down))))))))))))))
         try refine st_by ff ?_
         repeat' (first | exact trivial | refine And.intro sd ?_)
         refine key_1 _ ?_
         refine ⟨true, h_0, ?_⟩
         exact p_spec_l21Sizes_pv ff trivial
        rw [if_pos c81] at h_0
        have dc81 := c81
        by_cases c82 : (i_0 : Int) > 0
        case neg =>
         rw [if_neg c82] at h_0
         have dc82 := decide_eq_false c82
         have ff := ai @dc2 (ai @dr_0 (ai @w_0 (ai @g0_0 (ai @g1_0 (ai @g2_0 (ai @g3_0 (ai @g4_0 (ai @kk0c (ai @hrt_1 (ai @hex_1 (ai @dc78 (ai @dc79 (ai @dc80 (ai @dc81 (ai @dc82 p_spec_GoodStore_tf.down)))))))))))))))
         try refine st_by ff ?_
         repeat' (first | exact trivial | refine And.intro sd ?_)
         refine key_1 _ ?_
         refine ⟨false, h_0, ?_⟩
         exact p_spec_l21Sizes_pv ff trivial
        rw [if_pos c82] at h_0
        have dc82 := decide_eq_true c82
        obtain ⟨x83, ex83, h_0⟩ := Option.bind_eq_some_iff.1 h_0
        try dsimp only at h_0
        have f84a := idx_lo ex83
        have f84b := idx_hi ex83
        have f84c : (esResident s_a0.In).drop (((IntKind.i64.wrap ((i_0 : Int) - 1)).toNat) * 4) = eResident x83 ++ esResident (s_a0.In.drop ((IntKind.i64.wrap ((i_0 : Int) - 1)).toNat + 1)) := drop_enc (fun _ => rfl) (idx_get ex83)
        have ff := ai @dc2 (ai @dr_0 (ai @w_0 (ai @g0_0 (ai @g1_0 (ai @g2_0 (ai @g3_0 (ai @g4_0 (ai @kk0c (ai @hrt_1 (ai @hex_1 (ai @dc78 (ai @dc79 (ai @dc80 (ai @dc81 (ai @dc82 (ai @f84c p_spec_GoodStore_tf.down))))))))))))))))
        try refine st_by ff ?_
        repeat' (first | exact trivial | refine And.intro sd ?_)
        refine key_1 _ ?_
        refine ⟨!(Op.bytesLess x83.Name.toList x_0.Name.toList), h_0, ?_⟩
        exact p_spec_l21Sizes_pv ff trivial
    · try clear ff
      rintro σ hg_0
      rw [hJ_0] at hg_0
      obtain ⟨hj_0, g0_0a, g1_0a⟩ := hg_0
      cases hj_0
      try dsimp only at h
      obtain ⟨v85, ev85, h⟩ := Option.bind_eq_some_iff.1 h
      try dsimp only at h
      have ff := ai @dc2 (ai @g0_0a (ai @g1_0a p_spec_GoodStore_tf.down))
      try refine st_by ff ?_
      repeat' (first | exact trivial | refine And.intro sd ?_ | (refine aw_drawn (id := 15) ?_ [[], [0], [], [2], [0, 1, 2, 3], [0, 1, 2, 3, 4]] 4 ?_ ?_; (· kernel_rfl); (· kernel_rfl); refine st_by ff ?_))
      first
      | (refine cq_call (p_spec_l21Sizes_does s_a0 v85 ev85) (hf_by ff) kr ⟨p_spec_GoodStore_sa ff trivial, ?_⟩; clear ff)
      | (refine cq_dcall (p_spec_l21Sizes_does s_a0 v85 ev85) (hf_by ff) kr ⟨p_spec_GoodStore_sa ff trivial, ?_⟩; clear ff)
      have ff := ai @dc2 (ai @g0_0a (ai @g1_0a p_spec_GoodStore_tf.down))
      try refine st_by ff ?_
      repeat' (first | exact trivial | refine And.intro sd ?_)
      cases h
      exact ret_q1 rfl (p_spec_l21Sizes_rt ff trivial)
  have hrt_0 := fun σ : ASt => congrFun (congrFun hk_0.symm AX.rt) σ
  have hex_0 := fun (i : Nat) (σ : ASt) => congrFun (congrFun hk_0.symm (AX.ex i)) σ
  by_cases c86 : (rng s_a0.Budget 1 100000) = true
  case neg =>
   rw [if_neg c86] at h
   have dc86 := eq_false_of_ne_true c86
   have ff := ai @hrt_0 (ai @hex_0 (ai @dc86 p_spec_GoodStore_tf.down))
   try refine st_by ff ?_
   repeat' (first | exact trivial | refine And.intro sd ?_)
   refine key_0 _ ?_
   refine ⟨true, h, ?_⟩
   exact p_spec_l21Sizes_pv ff trivial
  rw [if_pos c86] at h
  have dc86 := c86
  have ff := ai @hrt_0 (ai @hex_0 (ai @dc86 p_spec_GoodStore_tf.down))
  try refine st_by ff ?_
  repeat' (first | exact trivial | refine And.intro sd ?_)
  first
  | (refine cq_call (l1In_does s_a0.Clock 0 100000) (hf_by ff) kr ⟨p_spec_GoodStore_sa ff trivial, ?_⟩; clear ff)
  | (refine cq_dcall (l1In_does s_a0.Clock 0 100000) (hf_by ff) kr ⟨p_spec_GoodStore_sa ff trivial, ?_⟩; clear ff)
  by_cases c87 : (rng s_a0.Clock 0 100000) = true
  case neg =>
   rw [if_neg c87] at h
   have dc87 := eq_false_of_ne_true c87
   have ff := ai @hrt_0 (ai @hex_0 (ai @dc86 (ai @dc87 p_spec_GoodStore_tf.down)))
   try refine st_by ff ?_
   repeat' (first | exact trivial | refine And.intro sd ?_)
   refine key_0 _ ?_
   refine ⟨true, h, ?_⟩
   exact p_spec_l21Sizes_pv ff trivial
  rw [if_pos c87] at h
  have dc87 := c87
  have ff := ai @hrt_0 (ai @hex_0 (ai @dc86 (ai @dc87 p_spec_GoodStore_tf.down)))
  try refine st_by ff ?_
  repeat' (first | exact trivial | refine And.intro sd ?_)
  refine key_0 _ ?_
  refine ⟨decide ((s_a0.In.length : Int) > 30), h, ?_⟩
  exact p_spec_l21Sizes_pv ff trivial
/-! spec.l21Own -/
def p_spec_l21Own_tf := PLift.up (ai @eStore_eq (ai @esStore_len (ai @esStore_nil (ai @esStore_leaf (ai @esStore_fit (ai @eStoreo_eq (ai @esStoreo_len (ai @esStoreo_nil (ai @eResident_eq (ai @esResident_len (ai @esResident_nil (ai @esResident_leaf (ai @esResident_fit (ai @esStoreo_share (ai @esStoreo_pure (ai @esResident_share (ai @esResident_pure (ai @str_beq (ai @Ty.nz44 (ai @Ty.ldA44 (ai @Ty.ldS44 (ai @Ty.sz44 (ai @Ty.szn44 (ai @Ty.nz46 (ai @Ty.ldA46 (ai @Ty.sz46 (ai @Ty.szn46 (ai @Ty.fo46_2 (ai @Ty.fk46_2 (ai @Ty.fs46_2 (ai @Ty.fn46_2 (ai @Ty.nze44 (ai @Ty.sl44 (ai @Ty.slz44 (ai @Ty.zok44 (ai @Ty.by44 (ai @Ty.zs44 (ai @Ty.zv46 (ai @Ty.ag46 @trivial)))))))))))))))))))))))))))))))))))))))
def p_spec_l21Own (s_a0 : GStore) : Option (GStore) := (if s_a0.In.length < 4294967296 then some (⟨s_a0.Budget, s_a0.Clock, s_a0.In⟩ : GStore) else none)
theorem p_spec_l21Own_does (s_a0 : GStore) (r : GStore) (h : p_spec_l21Own s_a0 = some r) : Does Try.prog 54 [.agg (eStore s_a0)] (.agg (eStoreo r)) := by
  rw [p_spec_l21Own] at h
  refine Does.bnd (fun hb => ?_)
  have hb2 : s_a0.In.length ≤ 9223372036854775807 := by simpa [AV.fitNs, AV.fitN, eStore] using hb
  have hl0 := hb2
  refine Does.walk (nt := 9) Try.func54 rfl rfl (by simp) (by decide) rfl (fun G0 X w0 pv => ?_)
  by_cases c1 : s_a0.In.length < 4294967296
  case neg => rw [if_neg c1] at h; cases h
  rw [if_pos c1] at h
  have ff := p_spec_l21Own_tf.down
  try refine st_by ff ?_
  repeat' (first | exact trivial | refine And.intro sd ?_)
  cases h
  exact ret_q1 rfl (p_spec_l21Sizes_rt ff trivial)
/-! spec.Fetch -/
def p_spec_Fetch_j2 (held_15 : Int) (many_16 : Int) (x_0 : GResident) (i_0 : Nat) (rec_0 : Nat → Int → Int → Int → Option (Int × Int × Int)) (k_24 : Int) : Option (Int × Int × Int) := (if x_0.Held > 0 then rec_0 (i_0 + 1) k_24 (IntKind.i64.wrap (held_15 + x_0.Size)) (IntKind.i64.wrap (many_16 + 1)) else rec_0 (i_0 + 1) k_24 held_15 many_16)
def p_spec_Fetch_l0 (name_a1 : ByteArray) : List GResident → Nat → Int → Int → Int → Option (Int × Int × Int)
  | [], i_0, k_14, held_15, many_16 => some (k_14, held_15, many_16)
  | x_0 :: r_0, i_0, k_14, held_15, many_16 => (if x_0.Name = name_a1 then p_spec_Fetch_j2 held_15 many_16 x_0 i_0 (p_spec_Fetch_l0 name_a1 r_0) (i_0 : Int) else p_spec_Fetch_j2 held_15 many_16 x_0 i_0 (p_spec_Fetch_l0 name_a1 r_0) k_14)
def p_spec_Fetch_l2 (s_72 : List GResident) : List GResident → Nat → Int → Option (Int)
  | [], i_2, w_122 => some w_122
  | x_2 :: r_2, i_2, w_122 => (if x_2.Held = 0 then (if w_122 < 0 then p_spec_Fetch_l2 s_72 r_2 (i_2 + 1) (i_2 : Int) else ((idx s_72 w_122).bind fun x134 => (if x_2.Used < x134.Used then p_spec_Fetch_l2 s_72 r_2 (i_2 + 1) (i_2 : Int) else p_spec_Fetch_l2 s_72 r_2 (i_2 + 1) w_122))) else p_spec_Fetch_l2 s_72 r_2 (i_2 + 1) w_122)
def p_spec_Fetch_j5 (s_72 : List GResident) (out_73 : List ByteArray) (rec_0 : (List GResident) → (List ByteArray) → Option ((List GResident) × (List ByteArray))) (b_112 : Bool) : Option ((List GResident) × (List ByteArray)) := (if b_112 = true then ((p_spec_Fetch_l2 s_72 s_72 0 (-1)).bind fun q_2 => match q_2 with | w_122 => ((idx s_72 w_122).bind fun x137 => (if out_73.length < 4294967296 then ((slc s_72 0 w_122).bind fun m141 => ((slc s_72 (IntKind.i64.wrap (w_122 + 1)) (s_72.length : Int)).bind fun m143 => (if s_72.length < 4294967296 then rec_0 (m141 ++ m143) (out_73 ++ [x137.Name]) else none))) else none))) else some (s_72, out_73))
def p_spec_Fetch_l1 (size_a2 : Int) (v4 : GStore) : Nat → (List GResident) → (List ByteArray) → Option ((List GResident) × (List ByteArray))
  | 0, _, _ => none
  | n_1 + 1, s_72, out_73 => ((p_spec_l21Sizes (⟨v4.Budget, (IntKind.i64.wrap (v4.Clock + 1)), s_72⟩ : GStore)).bind fun v111 => (if (IntKind.i64.wrap (v111 + size_a2)) > v4.Budget then p_spec_Fetch_j5 s_72 out_73 (p_spec_Fetch_l1 size_a2 v4 n_1) true else p_spec_Fetch_j5 s_72 out_73 (p_spec_Fetch_l1 size_a2 v4 n_1) ((s_72.length : Int) == 30)))
def p_spec_Fetch_j6 (name_a1 : ByteArray) (size_a2 : Int) (v4 : GStore) (put_156 : Bool) (l_155 : List GResident) (x_3 : GResident) (i_3 : Nat) (rec_0 : Nat → Bool → (List GResident) → Option (Bool × (List GResident))) (b_169 : Bool) : Option (Bool × (List GResident)) := (if b_169 = true then (if l_155.length < 4294967296 then (if (l_155 ++ [(⟨name_a1, size_a2, 1, (IntKind.i64.wrap (v4.Clock + 1))⟩ : GResident)]).length < 4294967296 then rec_0 (i_3 + 1) true ((l_155 ++ [(⟨name_a1, size_a2, 1, (IntKind.i64.wrap (v4.Clock + 1))⟩ : GResident)]) ++ [x_3]) else none) else none) else (if l_155.length < 4294967296 then rec_0 (i_3 + 1) put_156 (l_155 ++ [x_3]) else none))
def p_spec_Fetch_l3 (name_a1 : ByteArray) (size_a2 : Int) (v4 : GStore) : List GResident → Nat → Bool → (List GResident) → Option (Bool × (List GResident))
  | [], i_3, put_156, l_155 => some (put_156, l_155)
  | x_3 :: r_3, i_3, put_156, l_155 => (if put_156 = true then p_spec_Fetch_j6 name_a1 size_a2 v4 put_156 l_155 x_3 i_3 (p_spec_Fetch_l3 name_a1 size_a2 v4 r_3) false else p_spec_Fetch_j6 name_a1 size_a2 v4 put_156 l_155 x_3 i_3 (p_spec_Fetch_l3 name_a1 size_a2 v4 r_3) (!(Op.bytesLess x_3.Name.toList name_a1.toList || decide (x_3.Name = name_a1))))
def p_spec_Fetch_j7 (v4 : GStore) (out_73 : List ByteArray) (l_178 : List GResident) : Option (GStore × List ByteArray × Int) := some ((⟨v4.Budget, (IntKind.i64.wrap (v4.Clock + 1)), l_178⟩ : GStore), out_73, 0)
def p_spec_Fetch_j4 (N : Nat) (name_a1 : ByteArray) (size_a2 : Int) (v4 : GStore) (k_14 : Int) (b_29 : Bool) : Option (GStore × List ByteArray × Int) := (if b_29 = true then some ((⟨v4.Budget, v4.Clock, v4.In⟩ : GStore), ([] : List ByteArray), 4) else (if k_14 ≥ 0 then ((idx v4.In k_14).bind fun x32 => some ((⟨v4.Budget, (IntKind.i64.wrap (v4.Clock + 1)), ((v4.In.set k_14.toNat (⟨x32.Name, x32.Size, (IntKind.i64.wrap (x32.Held + 1)), x32.Used⟩ : GResident)).set k_14.toNat (⟨(⟨x32.Name, x32.Size, (IntKind.i64.wrap (x32.Held + 1)), x32.Used⟩ : GResident).Name, (⟨x32.Name, x32.Size, (IntKind.i64.wrap (x32.Held + 1)), x32.Used⟩ : GResident).Size, (⟨x32.Name, x32.Size, (IntKind.i64.wrap (x32.Held + 1)), x32.Used⟩ : GResident).Held, (IntKind.i64.wrap (v4.Clock + 1))⟩ : GResident))⟩ : GStore), ([] : List ByteArray), 0)) else ((p_spec_Fetch_l1 size_a2 v4 N v4.In ([] : List ByteArray)).bind fun q_1 => match q_1 with | (s_72, out_73) => ((p_spec_Fetch_l3 name_a1 size_a2 v4 s_72 0 false ([] : List GResident)).bind fun q_3 => match q_3 with | (put_156, l_155) => (if put_156 = true then p_spec_Fetch_j7 v4 out_73 l_155 else (if l_155.length < 4294967296 then p_spec_Fetch_j7 v4 out_73 (l_155 ++ [(⟨name_a1, size_a2, 1, (IntKind.i64.wrap (v4.Clock + 1))⟩ : GResident)]) else none))))))
def p_spec_Fetch_j3 (N : Nat) (name_a1 : ByteArray) (size_a2 : Int) (v4 : GStore) (k_14 : Int) (held_15 : Int) (many_16 : Int) (b_27 : Bool) : Option (GStore × List ByteArray × Int) := (if b_27 = true then some ((⟨v4.Budget, v4.Clock, v4.In⟩ : GStore), ([] : List ByteArray), 3) else (if k_14 < 0 then (if (IntKind.i64.wrap (held_15 + size_a2)) > v4.Budget then p_spec_Fetch_j4 N name_a1 size_a2 v4 k_14 true else p_spec_Fetch_j4 N name_a1 size_a2 v4 k_14 (many_16 == 30)) else p_spec_Fetch_j4 N name_a1 size_a2 v4 k_14 false))
def p_spec_Fetch_j1 (N : Nat) (name_a1 : ByteArray) (size_a2 : Int) (v4 : GStore) (b_6 : Bool) : Option (GStore × List ByteArray × Int) := (if b_6 = true then some ((⟨v4.Budget, v4.Clock, v4.In⟩ : GStore), ([] : List ByteArray), 2) else ((p_spec_Fetch_l0 name_a1 v4.In 0 (-1) 0 0).bind fun q_0 => match q_0 with | (k_14, held_15, many_16) => (if k_14 ≥ 0 then ((idx v4.In k_14).bind fun x185 => (if x185.Size = size_a2 then p_spec_Fetch_j3 N name_a1 size_a2 v4 k_14 held_15 many_16 (x185.Held == 1000) else p_spec_Fetch_j3 N name_a1 size_a2 v4 k_14 held_15 many_16 true)) else p_spec_Fetch_j3 N name_a1 size_a2 v4 k_14 held_15 many_16 false)))
def p_spec_Fetch_j0 (N : Nat) (s_a0 : GStore) (name_a1 : ByteArray) (size_a2 : Int) (b_2 : Bool) : Option (GStore × List ByteArray × Int) := (if b_2 = true then some ((⟨0, 0, ([] : List GResident)⟩ : GStore), ([] : List ByteArray), 1) else ((p_spec_l21Own s_a0).bind fun v4 => (if name_a1.size ≤ 9223372036854775807 then (if (goodName name_a1) = true then p_spec_Fetch_j1 N name_a1 size_a2 v4 (!(rng size_a2 1 100000)) else p_spec_Fetch_j1 N name_a1 size_a2 v4 true) else none)))
theorem p_spec_Fetch_pv {F C A : Prop} (hF : F) (hC : C) (h : F → C → A := by intro hF hC; first | exact cl_by hF | (refine st_by hF ?_; (repeat' (first | exact trivial | apply And.intro)); all_goals (clear hF; first | rfl | (simp only [hC, List.length_append, List.length_cons, List.length_nil, List.append_nil, List.nil_append, List.cons_append, List.length_set, List.append_assoc, Nat.zero_add, List.length_replicate, esStr_app, esStr_cons, esStr_nil, eStr_eq, esStore_app, esStore_cons, esStore_nil, eStore_eq, esStoreo_app, esStoreo_cons, esStoreo_nil, eStoreo_eq, esResident_app, esResident_cons, esResident_nil, eResident_eq]; done) | (simp [hC, List.length_append, List.length_cons, List.length_nil, List.append_nil, List.nil_append, List.cons_append, List.length_set, List.append_assoc, Nat.zero_add, List.length_replicate, esStr_app, esStr_cons, esStr_nil, eStr_eq, esStore_app, esStore_cons, esStore_nil, eStore_eq, esStoreo_app, esStoreo_cons, esStoreo_nil, eStoreo_eq, esResident_app, esResident_cons, esResident_nil, eResident_eq]; done) | omega))) : A := h hF hC
theorem p_spec_Fetch_sa {F C A : Prop} (hF : F) (hC : C) (h : F → C → A := by intro hF hC; first | exact ca_by hF | (refine sa_by hF ?_; (repeat' (first | exact trivial | apply And.intro)); all_goals (clear hF; first | rfl | (simp only [hC, List.length_append, List.length_cons, List.length_nil, List.append_nil, List.nil_append, List.cons_append, List.length_set, List.append_assoc, Nat.zero_add, List.length_replicate, esStr_app, esStr_cons, esStr_nil, eStr_eq, esStore_app, esStore_cons, esStore_nil, eStore_eq, esStoreo_app, esStoreo_cons, esStoreo_nil, eStoreo_eq, esResident_app, esResident_cons, esResident_nil, eResident_eq]; done) | (simp [hC, List.length_append, List.length_cons, List.length_nil, List.append_nil, List.nil_append, List.cons_append, List.length_set, List.append_assoc, Nat.zero_add, List.length_replicate, esStr_app, esStr_cons, esStr_nil, eStr_eq, esStore_app, esStore_cons, esStore_nil, eStore_eq, esStoreo_app, esStoreo_cons, esStoreo_nil, eStoreo_eq, esResident_app, esResident_cons, esResident_nil, eResident_eq]; done) | omega))) : A := h hF hC
theorem p_spec_Fetch_rt {F C A : Prop} (hF : F) (hC : C) (h : F → C → A := by intro hF hC; first | (refine sr_by hF ?_; (repeat' (first | exact trivial | apply And.intro)); all_goals (clear hF; first | rfl | (simp only [hC, List.length_append, List.length_cons, List.length_nil, List.append_nil, List.nil_append, List.cons_append, List.length_set, List.append_assoc, Nat.zero_add, List.length_replicate, esStr_app, esStr_cons, esStr_nil, eStr_eq, esStore_app, esStore_cons, esStore_nil, eStore_eq, esStoreo_app, esStoreo_cons, esStoreo_nil, eStoreo_eq, esResident_app, esResident_cons, esResident_nil, eResident_eq]; done) | (simp [hC, List.length_append, List.length_cons, List.length_nil, List.append_nil, List.nil_append, List.cons_append, List.length_set, List.append_assoc, Nat.zero_add, List.length_replicate, esStr_app, esStr_cons, esStr_nil, eStr_eq, esStore_app, esStore_cons, esStore_nil, eStore_eq, esStoreo_app, esStoreo_cons, esStoreo_nil, eStoreo_eq, esResident_app, esResident_cons, esResident_nil, eResident_eq]; done) | omega)) | (first | rfl | (simp only [hC, List.length_append, List.length_cons, List.length_nil, List.append_nil, List.nil_append, List.cons_append, List.length_set, List.append_assoc, Nat.zero_add, List.length_replicate, esStr_app, esStr_cons, esStr_nil, eStr_eq, esStore_app, esStore_cons, esStore_nil, eStore_eq, esStoreo_app, esStoreo_cons, esStoreo_nil, eStoreo_eq, esResident_app, esResident_cons, esResident_nil, eResident_eq]; done) | (simp [hC, List.length_append, List.length_cons, List.length_nil, List.append_nil, List.nil_append, List.cons_append, List.length_set, List.append_assoc, Nat.zero_add, List.length_replicate, esStr_app, esStr_cons, esStr_nil, eStr_eq, esStore_app, esStore_cons, esStore_nil, eStore_eq, esStoreo_app, esStoreo_cons, esStoreo_nil, eStoreo_eq, esResident_app, esResident_cons, esResident_nil, eResident_eq]; done) | omega)) : A := h hF hC
def p_spec_Fetch_tf := PLift.up (ai @eStr_eq (ai @esStr_len (ai @esStr_nil (ai @esStr_leaf (ai @esStr_fit (ai @eStore_eq (ai @esStore_len (ai @esStore_nil (ai @esStore_leaf (ai @esStore_fit (ai @eStoreo_eq (ai @esStoreo_len (ai @esStoreo_nil (ai @eResident_eq (ai @esResident_len (ai @esResident_nil (ai @esResident_leaf (ai @esResident_fit (ai @esStr_share (ai @esStr_pure (ai @esStoreo_share (ai @esStoreo_pure (ai @esResident_share (ai @esResident_pure (ai @str_beq (ai @Ty.sl44 (ai @Ty.slz44 (ai @Ty.nz46 (ai @Ty.ldA46 (ai @Ty.sz46 (ai @Ty.szn46 (ai @Ty.nz3 (ai @Ty.ldA3 (ai @Ty.ldS3 (ai @Ty.sz3 (ai @Ty.szn3 (ai @Ty.nz44 (ai @Ty.ldA44 (ai @Ty.ldS44 (ai @Ty.sz44 (ai @Ty.szn44 (ai @Ty.nz87 (ai @Ty.ldA87 (ai @Ty.sz87 (ai @Ty.szn87 (ai @Ty.nz9 (ai @Ty.ldA9 (ai @Ty.ldS9 (ai @Ty.sz9 (ai @Ty.szn9 (ai @Ty.fo46_1 (ai @Ty.fk46_1 (ai @Ty.fs46_1 (ai @Ty.fn46_1 (ai @Ty.fo46_2 (ai @Ty.fk46_2 (ai @Ty.fs46_2 (ai @Ty.fn46_2 (ai @Ty.fo87_0 (ai @Ty.fk87_0 (ai @Ty.fs87_0 (ai @Ty.fn87_0 (ai @Ty.fo87_2 (ai @Ty.fk87_2 (ai @Ty.fs87_2 (ai @Ty.fn87_2 (ai @Ty.fo87_1 (ai @Ty.fk87_1 (ai @Ty.fs87_1 (ai @Ty.fn87_1 (ai @Ty.fo46_0 (ai @Ty.fk46_0 (ai @Ty.fs46_0 (ai @Ty.fn46_0 (ai @Ty.fo87_3 (ai @Ty.fk87_3 (ai @Ty.fs87_3 (ai @Ty.fn87_3 (ai @Ty.nze47 (ai @Ty.sl47 (ai @Ty.slz47 (ai @Ty.zok47 (ai @Ty.by47 (ai @Ty.zs47 (ai @Ty.nze44 (ai @Ty.zok44 (ai @Ty.by44 (ai @Ty.zs44 (ai @Ty.zv46 (ai @Ty.zv87 (ai @Ty.bd46 (ai @Ty.bd87 (ai @Ty.pl87_0 (ai @Ty.pl87_1 (ai @Ty.pl87_2 (ai @Ty.pl87_3 (ai @Ty.ag46 @trivial)))))))))))))))))))))))))))))))))))))))))))))))))))))))))))))))))))))))))))))))))))))))))))))))))
def p_spec_Fetch (N : Nat) (s_a0 : GStore) (name_a1 : ByteArray) (size_a2 : Int) : Option (GStore × List ByteArray × Int) := ((p_spec_GoodStore s_a0).bind fun v1 => (if v1 = true then p_spec_Fetch_j0 N s_a0 name_a1 size_a2 (s_a0.Clock == 100000) else p_spec_Fetch_j0 N s_a0 name_a1 size_a2 true))
theorem p_spec_Fetch_does (N : Nat) (s_a0 : GStore) (name_a1 : ByteArray) (size_a2 : Int) (r : GStore × List ByteArray × Int) (h : p_spec_Fetch N s_a0 name_a1 size_a2 = some r) : Does Try.prog 20 [.agg (eStore s_a0), S name_a1, I size_a2] (.tup [.agg (eStoreo r.1), .row true 1 r.2.1.length (esStr r.2.1), I r.2.2]) := by
  rw [p_spec_Fetch] at h
  refine Does.bnd (fun hb => ?_)
  have hb2 : s_a0.In.length ≤ 9223372036854775807 := by simpa [AV.fitNs, AV.fitN, eStore] using hb
  have hl0 := hb2
  refine Does.walk (nt := 226) Try.func20 rfl rfl (by simp) (by decide) rfl (fun G0 X w0 pv => ?_)
  obtain ⟨v1, ev1, h⟩ := Option.bind_eq_some_iff.1 h
  try dsimp only at h
  have ff := p_spec_Fetch_tf.down
  try refine st_by ff ?_
  repeat' (first | exact trivial | refine And.intro sd ?_)
  first
  | (refine cq_call (p_spec_GoodStore_does s_a0 v1 ev1) (hf_by ff) kr ⟨p_spec_Fetch_sa ff trivial, ?_⟩; clear ff)
  | (refine cq_dcall (p_spec_GoodStore_does s_a0 v1 ev1) (hf_by ff) kr ⟨p_spec_Fetch_sa ff trivial, ?_⟩; clear ff)
  have ff := p_spec_Fetch_tf.down
  try refine st_by ff ?_
  repeat' (first | exact trivial | refine And.intro sd ?_)
  try clear ff
  generalize hk_0 : thenK _ _ = kk_0
  have key_0 : ∀ σ, (∃ b_2 : Bool, (p_spec_Fetch_j0 N s_a0 name_a1 size_a2 b_2 = some r) ∧ σ.t 1 = S name_a1 ∧ σ.t 2 = I size_a2 ∧ σ.t 3 = .ptr 3 [] 0 ∧ σ.t 6 = .ptr 6 [] 0 ∧ σ.t 30 = B b_2 ∧ σ.m 3 = some (.box true [I s_a0.Budget, I s_a0.Clock, .row false 4 s_a0.In.length (esResident s_a0.In)]) ∧ σ.m 6 = some (.box true [I 0, I 0, .row true 4 0 []])) → kk_0 .nm σ := by
    rintro σ ⟨b_2, h, g0_j0, g1_j0, g2_j0, g3_j0, g4_j0, g5_j0, g6_j0⟩
    rw [← hk_0]
    rw [p_spec_Fetch_j0] at h
    by_cases c3 : b_2 = true
    · rw [if_pos c3] at h
      have dc3 := c3
      have ff := ai @g0_j0 (ai @g1_j0 (ai @g2_j0 (ai @g3_j0 (ai @g4_j0 (ai @g5_j0 (ai @g6_j0 (ai @dc3 p_spec_Fetch_tf.down)))))))
      try refine st_by ff ?_
      repeat' (first | exact trivial | refine And.intro sd ?_)
      cases h
      exact ret_q3 rfl (p_spec_Fetch_rt ff trivial)
    rw [if_neg c3] at h
    have dc3 := eq_false_of_ne_true c3
    obtain ⟨v4, ev4, h⟩ := Option.bind_eq_some_iff.1 h
    try dsimp only at h
    have ff := ai @g0_j0 (ai @g1_j0 (ai @g2_j0 (ai @g3_j0 (ai @g4_j0 (ai @g5_j0 (ai @g6_j0 (ai @dc3 p_spec_Fetch_tf.down)))))))
    try refine st_by ff ?_
    repeat' (first | exact trivial | refine And.intro sd ?_)
    first
    | (refine cq_own (p_spec_l21Own_does s_a0 v4 ev4) (hf_by ff) kr ⟨p_spec_Fetch_sa ff trivial, ?_⟩; clear ff)
    | (refine cq_down (p_spec_l21Own_does s_a0 v4 ev4) (hf_by ff) kr ⟨p_spec_Fetch_sa ff trivial, ?_⟩; clear ff)
    by_cases c5 : name_a1.size ≤ 9223372036854775807
    case neg => rw [if_neg c5] at h; cases h
    rw [if_pos c5] at h
    have ff := ai @g0_j0 (ai @g1_j0 (ai @g2_j0 (ai @g3_j0 (ai @g4_j0 (ai @g5_j0 (ai @g6_j0 (ai @dc3 p_spec_Fetch_tf.down)))))))
    try refine st_by ff ?_
    repeat' (first | exact trivial | refine And.intro sd ?_)
    first
    | (refine cq_call (specGoodName_does name_a1 (by first | assumption | omega)) (hf_by ff) kr ⟨p_spec_Fetch_sa ff trivial, ?_⟩; clear ff)
    | (refine cq_dcall (specGoodName_does name_a1 (by first | assumption | omega)) (hf_by ff) kr ⟨p_spec_Fetch_sa ff trivial, ?_⟩; clear ff)
    have ff := ai @g0_j0 (ai @g1_j0 (ai @g2_j0 (ai @g3_j0 (ai @g4_j0 (ai @g5_j0 (ai @g6_j0 (ai @dc3 p_spec_Fetch_tf.down)))))))
    try refine st_by ff ?_
    repeat' (first | exact trivial | refine And.intro sd ?_)
    try clear ff
    generalize hk_1 : thenK _ _ = kk_1
    have key_1 : ∀ σ, (∃ b_6 : Bool, (p_spec_Fetch_j1 N name_a1 size_a2 v4 b_6 = some r) ∧ σ.t 1 = S name_a1 ∧ σ.t 2 = I size_a2 ∧ σ.t 3 = .ptr 3 [] 0 ∧ σ.t 6 = .ptr 6 [] 0 ∧ σ.t 41 = B b_6 ∧ σ.m 3 = some (.box true [I v4.Budget, I v4.Clock, .row true 4 v4.In.length (esResident v4.In)]) ∧ σ.m 6 = some (.box true [I 0, I 0, .row true 4 0 []])) → kk_1 .nm σ := by
      rintro σ ⟨b_6, h, g0_j1, g1_j1, g2_j1, g3_j1, g4_j1, g5_j1, g6_j1⟩
      rw [← hk_1]
      rw [p_spec_Fetch_j1] at h
      by_cases c7 : b_6 = true
      · rw [if_pos c7] at h
        have dc7 := c7
        have ff := ai @dc3 (ai @g0_j1 (ai @g1_j1 (ai @g2_j1 (ai @g3_j1 (ai @g4_j1 (ai @g5_j1 (ai @g6_j1 (ai @dc7 p_spec_Fetch_tf.down))))))))
        try refine st_by ff ?_
        repeat' (first | exact trivial | refine And.intro sd ?_)
        cases h
        exact ret_q3 rfl (p_spec_Fetch_rt ff trivial)
      rw [if_neg c7] at h
      have dc7 := eq_false_of_ne_true c7
      obtain ⟨q_0, eq_0, h⟩ := Option.bind_eq_some_iff.1 h
      have ff := ai @dc3 (ai @g0_j1 (ai @g1_j1 (ai @g2_j1 (ai @g3_j1 (ai @g4_j1 (ai @g5_j1 (ai @g6_j1 (ai @dc7 p_spec_Fetch_tf.down))))))))
      try refine st_by ff ?_
      repeat' (first | exact trivial | refine And.intro sd ?_)
      refine aw_bnd (r := 3) (p := [2]) (sz := 4) (n := v4.In.length) (cs := esResident v4.In) (p_spec_Fetch_pv ff trivial) (fun hL_0 => ?_)
      obtain ⟨I_0, hI_0⟩ : ∃ I_ : (Nat × Int × Int × Int) → ASt → Prop, I_ = (fun (a : Nat × Int × Int × Int) σ => match a with | (i_0, k_14, held_15, many_16) => (i_0 ≤ v4.In.length ∧ p_spec_Fetch_l0 name_a1 (v4.In.drop i_0) i_0 k_14 held_15 many_16 = some q_0) ∧ σ.t 1 = S name_a1 ∧ σ.t 2 = I size_a2 ∧ σ.t 3 = .ptr 3 [] 0 ∧ σ.t 6 = .ptr 6 [] 0 ∧ σ.t 9 = I k_14 ∧ σ.t 10 = I held_15 ∧ σ.t 11 = I many_16 ∧ σ.t 44 = .sl 3 [2] 0 v4.In.length ∧ σ.t 45 = I (v4.In.length : Int) ∧ σ.t 46 = I (i_0 : Int) ∧ σ.m 3 = some (.box true [I v4.Budget, I v4.Clock, .row true 4 v4.In.length (esResident v4.In)]) ∧ σ.m 6 = some (.box true [I 0, I 0, .row true 4 0 []])) := ⟨_, rfl⟩
      obtain ⟨M_0, hM_0⟩ : ∃ M_ : (Nat × Int × Int × Int) → Nat, M_ = (fun (a : Nat × Int × Int × Int) => match a with | (i_0, k_14, held_15, many_16) => v4.In.length - i_0) := ⟨_, rfl⟩
      obtain ⟨J_0, hJ_0⟩ : ∃ J_ : ASt → Prop, J_ = (fun σ => ∃ k_14 : Int, ∃ held_15 : Int, ∃ many_16 : Int, (some (k_14, held_15, many_16) = some q_0) ∧ σ.t 1 = S name_a1 ∧ σ.t 2 = I size_a2 ∧ σ.t 3 = .ptr 3 [] 0 ∧ σ.t 6 = .ptr 6 [] 0 ∧ σ.t 9 = I k_14 ∧ σ.t 10 = I held_15 ∧ σ.t 11 = I many_16 ∧ σ.m 3 = some (.box true [I v4.Budget, I v4.Clock, .row true 4 v4.In.length (esResident v4.In)]) ∧ σ.m 6 = some (.box true [I 0, I 0, .row true 4 0 []])) := ⟨_, rfl⟩
      refine aw_loopC (id := 0) I_0 M_0 J_0 (0, (-1), 0, 0) ?_ ?_ ?_
      · rw [hI_0]
        refine ⟨⟨Nat.zero_le _, eq_0⟩, ?_⟩
        exact p_spec_Fetch_pv ff trivial
      · try clear ff
        rintro ⟨i_0, k_14, held_15, many_16⟩ σ hg_0
        rw [hI_0] at hg_0
        obtain ⟨⟨hi_0, h_0⟩, g0_0, g1_0, g2_0, g3_0, g4_0, g5_0, g6_0, g7_0, g8_0, g9_0, g10_0, g11_0⟩ := hg_0
        cases hr_0 : v4.In.drop i_0 with
        | nil =>
          rw [hr_0] at h_0
          rw [p_spec_Fetch_l0] at h_0
          have hn_0 := drop_nil hr_0
          have dr_0 : decide ((i_0 : Int) < (v4.In.length : Int)) = false := decide_eq_false (by omega)
          have ff := ai @dc3 (ai @dc7 (ai @dr_0 (ai @g0_0 (ai @g1_0 (ai @g2_0 (ai @g3_0 (ai @g4_0 (ai @g5_0 (ai @g6_0 (ai @g7_0 (ai @g8_0 (ai @g9_0 (ai @g10_0 (ai @g11_0 p_spec_Fetch_tf.down))))))))))))))
          try refine st_by ff ?_
          repeat' (first | exact trivial | refine And.intro sd ?_)
          refine JW.intro ?_
          rw [hJ_0]
          refine ⟨k_14, held_15, many_16, h_0, ?_⟩
          exact p_spec_Fetch_pv ff trivial
        | cons x_0 r_0 =>
          rw [hr_0] at h_0
          rw [p_spec_Fetch_l0] at h_0
          obtain ⟨ht_0, hg_0, hd_0⟩ := drop_cons hr_0
          have dr_0 : decide ((i_0 : Int) < (v4.In.length : Int)) = true := decide_eq_true (by omega)
          have w_0 : IntKind.i64.wrap ((i_0 : Int) + 1) = ((i_0 + 1 : Nat) : Int) := wI _ (by omega) (by omega)
          have kk0c : (esResident v4.In).drop (i_0 * 4) = eResident x_0 ++ esResident (v4.In.drop (i_0 + 1)) := drop_enc (fun _ => rfl) (hg_0)
          have kk0g0 : (esResident v4.In).getD (i_0 * 4) .junk = (eResident x_0).getD 0 .junk := getD_enc0 (enc := eResident) (sz := 4) (fun _ => rfl) (hg_0) (by decide)
          have kk0g1 : (esResident v4.In).getD (i_0 * 4 + 1) .junk = (eResident x_0).getD 1 .junk := getD_enc (enc := eResident) (sz := 4) (fun _ => rfl) (hg_0) (by decide)
          have kk0g2 : (esResident v4.In).getD (i_0 * 4 + 2) .junk = (eResident x_0).getD 2 .junk := getD_enc (enc := eResident) (sz := 4) (fun _ => rfl) (hg_0) (by decide)
          have kk0g3 : (esResident v4.In).getD (i_0 * 4 + 3) .junk = (eResident x_0).getD 3 .junk := getD_enc (enc := eResident) (sz := 4) (fun _ => rfl) (hg_0) (by decide)
          have ff := ai @dc3 (ai @dc7 (ai @dr_0 (ai @w_0 (ai @g0_0 (ai @g1_0 (ai @g2_0 (ai @g3_0 (ai @g4_0 (ai @g5_0 (ai @g6_0 (ai @g7_0 (ai @g8_0 (ai @g9_0 (ai @g10_0 (ai @g11_0 (ai @kk0c (ai @kk0g0 (ai @kk0g1 (ai @kk0g2 (ai @kk0g3 p_spec_Fetch_tf.down))))))))))))))))))))
          try refine st_by ff ?_
          repeat' (first | exact trivial | refine And.intro sd ?_)
          try clear ff
          generalize hk_2 : thenK _ _ = kk_2
          have key_2 : ∀ σ, (∃ k_24 : Int, (p_spec_Fetch_j2 held_15 many_16 x_0 i_0 (p_spec_Fetch_l0 name_a1 r_0) k_24 = some q_0) ∧ σ.t 1 = S name_a1 ∧ σ.t 2 = I size_a2 ∧ σ.t 3 = .ptr 3 [] 0 ∧ σ.t 6 = .ptr 6 [] 0 ∧ σ.t 9 = I k_24 ∧ σ.t 10 = I held_15 ∧ σ.t 11 = I many_16 ∧ σ.t 13 = .ptr 13 [] 0 ∧ σ.t 44 = .sl 3 [2] 0 v4.In.length ∧ σ.t 45 = I (v4.In.length : Int) ∧ σ.t 46 = I (i_0 : Int) ∧ σ.m 3 = some (.box true [I v4.Budget, I v4.Clock, .row true 4 v4.In.length (esResident v4.In)]) ∧ σ.m 6 = some (.box true [I 0, I 0, .row true 4 0 []]) ∧ σ.m 13 = some (.box true [S x_0.Name, I x_0.Size, I x_0.Held, I x_0.Used])) → kk_2 .nm σ := by
            rintro σ ⟨k_24, h_0, g0_j2, g1_j2, g2_j2, g3_j2, g4_j2, g5_j2, g6_j2, g7_j2, g8_j2, g9_j2, g10_j2, g11_j2, g12_j2, g13_j2⟩
            rw [← hk_2]
            rw [p_spec_Fetch_j2] at h_0
            by_cases c25 : x_0.Held > 0
            case neg =>
             rw [if_neg c25] at h_0
             have dc25 := decide_eq_false c25
             have ff := ai @dc3 (ai @dc7 (ai @dr_0 (ai @w_0 (ai @kk0c (ai @kk0g0 (ai @kk0g1 (ai @kk0g2 (ai @kk0g3 (ai @g0_j2 (ai @g1_j2 (ai @g2_j2 (ai @g3_j2 (ai @g4_j2 (ai @g5_j2 (ai @g6_j2 (ai @g7_j2 (ai @g8_j2 (ai @g9_j2 (ai @g10_j2 (ai @g11_j2 (ai @g12_j2 (ai @g13_j2 (ai @dc25 p_spec_Fetch_tf.down)))))))))))))))))))))))
             try refine st_by ff ?_
             repeat' (first | exact trivial | refine And.intro sd ?_)
             refine Back.intro (i_0 + 1, k_24, held_15, many_16) ?_ ?_
             · clear ff; rw [hM_0]; show v4.In.length - (i_0 + 1) < v4.In.length - i_0; omega
             rw [hI_0]
             refine ⟨⟨by clear ff; show i_0 + 1 ≤ v4.In.length; omega, by show p_spec_Fetch_l0 name_a1 (v4.In.drop (i_0 + 1)) (i_0 + 1) k_24 held_15 many_16 = some q_0; rw [hd_0]; exact h_0⟩, ?_⟩
             exact p_spec_Fetch_pv ff trivial
            rw [if_pos c25] at h_0
            have dc25 := decide_eq_true c25
            have ff := ai @dc3 (ai @dc7 (ai @dr_0 (ai @w_0 (ai @kk0c (ai @kk0g0 (ai @kk0g1 (ai @kk0g2 (ai @kk0g3 (ai @g0_j2 (ai @g1_j2 (ai @g2_j2 (ai @g3_j2 (ai @g4_j2 (ai @g5_j2 (ai @g6_j2 (ai @g7_j2 (ai @g8_j2 (ai @g9_j2 (ai @g10_j2 (ai @g11_j2 (ai @g12_j2 (ai @g13_j2 (ai @dc25 p_spec_Fetch_tf.down)))))))))))))))))))))))
            try refine st_by ff ?_
            repeat' (first | exact trivial | refine And.intro sd ?_)
            refine Back.intro (i_0 + 1, k_24, (IntKind.i64.wrap (held_15 + x_0.Size)), (IntKind.i64.wrap (many_16 + 1))) ?_ ?_
            · clear ff; rw [hM_0]; show v4.In.length - (i_0 + 1) < v4.In.length - i_0; omega
            rw [hI_0]
            refine ⟨⟨by clear ff; show i_0 + 1 ≤ v4.In.length; omega, by show p_spec_Fetch_l0 name_a1 (v4.In.drop (i_0 + 1)) (i_0 + 1) k_24 (IntKind.i64.wrap (held_15 + x_0.Size)) (IntKind.i64.wrap (many_16 + 1)) = some q_0; rw [hd_0]; exact h_0⟩, ?_⟩
            exact p_spec_Fetch_pv ff trivial
          have hrt_2 := fun σ : ASt => congrFun (congrFun hk_2.symm AX.rt) σ
          have hex_2 := fun (i : Nat) (σ : ASt) => congrFun (congrFun hk_2.symm (AX.ex i)) σ
          by_cases c26 : x_0.Name = name_a1
          case neg =>
           rw [if_neg c26] at h_0
           have dc26 := decide_eq_false c26
           have ff := ai @dc3 (ai @dc7 (ai @dr_0 (ai @w_0 (ai @g0_0 (ai @g1_0 (ai @g2_0 (ai @g3_0 (ai @g4_0 (ai @g5_0 (ai @g6_0 (ai @g7_0 (ai @g8_0 (ai @g9_0 (ai @g10_0 (ai @g11_0 (ai @kk0c (ai @kk0g0 (ai @kk0g1 (ai @kk0g2 (ai @kk0g3 (ai @hrt_2 (ai @hex_2 (ai @dc26 p_spec_Fetch_tf.down)))))))))))))))))))))))
           try refine st_by ff ?_
           repeat' (first | exact trivial | refine And.intro sd ?_)
           refine key_2 _ ?_
           refine ⟨k_14, h_0, ?_⟩
           exact p_spec_Fetch_pv ff trivial
          rw [if_pos c26] at h_0
          have dc26 := decide_eq_true c26
          have ff := ai @dc3 (ai @dc7 (ai @dr_0 (ai @w_0 (ai @g0_0 (ai @g1_0 (ai @g2_0 (ai @g3_0 (ai @g4_0 (ai @g5_0 (ai @g6_0 (ai @g7_0 (ai @g8_0 (ai @g9_0 (ai @g10_0 (ai @g11_0 (ai @kk0c (ai @kk0g0 (ai @kk0g1 (ai @kk0g2 (ai @kk0g3 (ai @hrt_2 (ai @hex_2 (ai @dc26 p_spec_Fetch_tf.down)))))))))))))))))))))))
          try refine st_by ff ?_
          repeat' (first | exact trivial | refine And.intro sd ?_)
          refine key_2 _ ?_
          refine ⟨(i_0 : Int), h_0, ?_⟩
          exact p_spec_Fetch_pv ff trivial
      · try clear ff
        rintro σ hg_0
        rw [hJ_0] at hg_0
        obtain ⟨k_14, held_15, many_16, hj_0, g0_0a, g1_0a, g2_0a, g3_0a, g4_0a, g5_0a, g6_0a, g7_0a, g8_0a⟩ := hg_0
        cases hj_0
        try dsimp only at h
        have ff := ai @dc3 (ai @dc7 (ai @g0_0a (ai @g1_0a (ai @g2_0a (ai @g3_0a (ai @g4_0a (ai @g5_0a (ai @g6_0a (ai @g7_0a (ai @g8_0a p_spec_Fetch_tf.down))))))))))
        try refine st_by ff ?_
        repeat' (first | exact trivial | refine And.intro sd ?_)
        try clear ff
        generalize hk_3 : thenK _ _ = kk_3
        have key_3 : ∀ σ, (∃ b_27 : Bool, (p_spec_Fetch_j3 N name_a1 size_a2 v4 k_14 held_15 many_16 b_27 = some r) ∧ σ.t 1 = S name_a1 ∧ σ.t 2 = I size_a2 ∧ σ.t 3 = .ptr 3 [] 0 ∧ σ.t 6 = .ptr 6 [] 0 ∧ σ.t 9 = I k_14 ∧ σ.t 10 = I held_15 ∧ σ.t 11 = I many_16 ∧ σ.t 86 = B b_27 ∧ σ.m 3 = some (.box true [I v4.Budget, I v4.Clock, .row true 4 v4.In.length (esResident v4.In)]) ∧ σ.m 6 = some (.box true [I 0, I 0, .row true 4 0 []])) → kk_3 .nm σ := by
          rintro σ ⟨b_27, h, g0_j3, g1_j3, g2_j3, g3_j3, g4_j3, g5_j3, g6_j3, g7_j3, g8_j3, g9_j3⟩
          rw [← hk_3]
          rw [p_spec_Fetch_j3] at h
          by_cases c28 : b_27 = true
          · rw [if_pos c28] at h
            have dc28 := c28
            have ff := ai @dc3 (ai @dc7 (ai @g0_j3 (ai @g1_j3 (ai @g2_j3 (ai @g3_j3 (ai @g4_j3 (ai @g5_j3 (ai @g6_j3 (ai @g7_j3 (ai @g8_j3 (ai @g9_j3 (ai @dc28 p_spec_Fetch_tf.down))))))))))))
            try refine st_by ff ?_
            repeat' (first | exact trivial | refine And.intro sd ?_)
            cases h
            exact ret_q3 rfl (p_spec_Fetch_rt ff trivial)
          rw [if_neg c28] at h
          have dc28 := eq_false_of_ne_true c28
          have ff := ai @dc3 (ai @dc7 (ai @g0_j3 (ai @g1_j3 (ai @g2_j3 (ai @g3_j3 (ai @g4_j3 (ai @g5_j3 (ai @g6_j3 (ai @g7_j3 (ai @g8_j3 (ai @g9_j3 (ai @dc28 p_spec_Fetch_tf.down))))))))))))
          try refine st_by ff ?_
          repeat' (first | exact trivial | refine And.intro sd ?_)
          try clear ff
          generalize hk_4 : thenK _ _ = kk_4
          have key_4 : ∀ σ, (∃ b_29 : Bool, (p_spec_Fetch_j4 N name_a1 size_a2 v4 k_14 b_29 = some r) ∧ σ.t 1 = S name_a1 ∧ σ.t 2 = I size_a2 ∧ σ.t 3 = .ptr 3 [] 0 ∧ σ.t 6 = .ptr 6 [] 0 ∧ σ.t 9 = I k_14 ∧ σ.t 101 = B b_29 ∧ σ.m 3 = some (.box true [I v4.Budget, I v4.Clock, .row true 4 v4.In.length (esResident v4.In)]) ∧ σ.m 6 = some (.box true [I 0, I 0, .row true 4 0 []])) → kk_4 .nm σ := by
            rintro σ ⟨b_29, h, g0_j4, g1_j4, g2_j4, g3_j4, g4_j4, g5_j4, g6_j4, g7_j4⟩
            rw [← hk_4]
            rw [p_spec_Fetch_j4] at h
            by_cases c30 : b_29 = true
            · rw [if_pos c30] at h
              have dc30 := c30
              have ff := ai @dc3 (ai @dc7 (ai @dc28 (ai @g0_j4 (ai @g1_j4 (ai @g2_j4 (ai @g3_j4 (ai @g4_j4 (ai @g5_j4 (ai @g6_j4 (ai @g7_j4 (ai @dc30 p_spec_Fetch_tf.down)))))))))))
              try refine st_by ff ?_
              repeat' (first | exact trivial | refine And.intro sd ?_)
              cases h
              exact ret_q3 rfl (p_spec_Fetch_rt ff trivial)
            rw [if_neg c30] at h
            have dc30 := eq_false_of_ne_true c30
            by_cases c31 : k_14 ≥ 0
            · rw [if_pos c31] at h
              have dc31 := decide_eq_true c31
              obtain ⟨x32, ex32, h⟩ := Option.bind_eq_some_iff.1 h
              try dsimp only at h
              have f33a := idx_lo ex32
              have f33b := idx_hi ex32
              have f33c : (esResident v4.In).drop (k_14.toNat * 4) = eResident x32 ++ esResident (v4.In.drop (k_14.toNat + 1)) := drop_enc (fun _ => rfl) (idx_get ex32)
              have f33g0 : (esResident v4.In).getD (k_14.toNat * 4) .junk = (eResident x32).getD 0 .junk := getD_enc0 (enc := eResident) (sz := 4) (fun _ => rfl) (idx_get ex32) (by decide)
              have f33g1 : (esResident v4.In).getD (k_14.toNat * 4 + 1) .junk = (eResident x32).getD 1 .junk := getD_enc (enc := eResident) (sz := 4) (fun _ => rfl) (idx_get ex32) (by decide)
              have f33g2 : (esResident v4.In).getD (k_14.toNat * 4 + 2) .junk = (eResident x32).getD 2 .junk := getD_enc (enc := eResident) (sz := 4) (fun _ => rfl) (idx_get ex32) (by decide)
              have f33g3 : (esResident v4.In).getD (k_14.toNat * 4 + 3) .junk = (eResident x32).getD 3 .junk := getD_enc (enc := eResident) (sz := 4) (fun _ => rfl) (idx_get ex32) (by decide)
              have w34l : k_14.toNat < v4.In.length := (List.getElem?_eq_some_iff.1 (idx_get ex32)).1
              have w34a : (esResident v4.In).set (k_14.toNat * 4 + 2) (I (IntKind.i64.wrap (x32.Held + 1))) = esResident (v4.In.set k_14.toNat (⟨x32.Name, x32.Size, (IntKind.i64.wrap (x32.Held + 1)), x32.Used⟩ : GResident)) := set_enc (enc := eResident) (sz := 4) (fun _ => rfl) (idx_get ex32) (by decide) rfl
              have w34b : (v4.In.set k_14.toNat (⟨x32.Name, x32.Size, (IntKind.i64.wrap (x32.Held + 1)), x32.Used⟩ : GResident)).length = v4.In.length := List.length_set
              have f35c : (esResident (v4.In.set k_14.toNat (⟨x32.Name, x32.Size, (IntKind.i64.wrap (x32.Held + 1)), x32.Used⟩ : GResident))).drop (k_14.toNat * 4) = eResident (⟨x32.Name, x32.Size, (IntKind.i64.wrap (x32.Held + 1)), x32.Used⟩ : GResident) ++ esResident ((v4.In.set k_14.toNat (⟨x32.Name, x32.Size, (IntKind.i64.wrap (x32.Held + 1)), x32.Used⟩ : GResident)).drop (k_14.toNat + 1)) := drop_enc (fun _ => rfl) (List.getElem?_set_self w34l)
              have f35g0 : (esResident (v4.In.set k_14.toNat (⟨x32.Name, x32.Size, (IntKind.i64.wrap (x32.Held + 1)), x32.Used⟩ : GResident))).getD (k_14.toNat * 4) .junk = (eResident (⟨x32.Name, x32.Size, (IntKind.i64.wrap (x32.Held + 1)), x32.Used⟩ : GResident)).getD 0 .junk := getD_enc0 (enc := eResident) (sz := 4) (fun _ => rfl) (List.getElem?_set_self w34l) (by decide)
              have f35g1 : (esResident (v4.In.set k_14.toNat (⟨x32.Name, x32.Size, (IntKind.i64.wrap (x32.Held + 1)), x32.Used⟩ : GResident))).getD (k_14.toNat * 4 + 1) .junk = (eResident (⟨x32.Name, x32.Size, (IntKind.i64.wrap (x32.Held + 1)), x32.Used⟩ : GResident)).getD 1 .junk := getD_enc (enc := eResident) (sz := 4) (fun _ => rfl) (List.getElem?_set_self w34l) (by decide)
              have f35g2 : (esResident (v4.In.set k_14.toNat (⟨x32.Name, x32.Size, (IntKind.i64.wrap (x32.Held + 1)), x32.Used⟩ : GResident))).getD (k_14.toNat * 4 + 2) .junk = (eResident (⟨x32.Name, x32.Size, (IntKind.i64.wrap (x32.Held + 1)), x32.Used⟩ : GResident)).getD 2 .junk := getD_enc (enc := eResident) (sz := 4) (fun _ => rfl) (List.getElem?_set_self w34l) (by decide)
              have f35g3 : (esResident (v4.In.set k_14.toNat (⟨x32.Name, x32.Size, (IntKind.i64.wrap (x32.Held + 1)), x32.Used⟩ : GResident))).getD (k_14.toNat * 4 + 3) .junk = (eResident (⟨x32.Name, x32.Size, (IntKind.i64.wrap (x32.Held + 1)), x32.Used⟩ : GResident)).getD 3 .junk := getD_enc (enc := eResident) (sz := 4) (fun _ => rfl) (List.getElem?_set_self w34l) (by decide)
              have w36l : k_14.toNat < (v4.In.set k_14.toNat (⟨x32.Name, x32.Size, (IntKind.i64.wrap (x32.Held + 1)), x32.Used⟩ : GResident)).length := (List.getElem?_eq_some_iff.1 (List.getElem?_set_self w34l)).1
              have w36a : (esResident (v4.In.set k_14.toNat (⟨x32.Name, x32.Size, (IntKind.i64.wrap (x32.Held + 1)), x32.Used⟩ : GResident))).set (k_14.toNat * 4 + 3) (I (IntKind.i64.wrap (v4.Clock + 1))) = esResident ((v4.In.set k_14.toNat (⟨x32.Name, x32.Size, (IntKind.i64.wrap (x32.Held + 1)), x32.Used⟩ : GResident)).set k_14.toNat (⟨(⟨x32.Name, x32.Size, (IntKind.i64.wrap (x32.Held + 1)), x32.Used⟩ : GResident).Name, (⟨x32.Name, x32.Size, (IntKind.i64.wrap (x32.Held + 1)), x32.Used⟩ : GResident).Size, (⟨x32.Name, x32.Size, (IntKind.i64.wrap (x32.Held + 1)), x32.Used⟩ : GResident).Held, (IntKind.i64.wrap (v4.Clock + 1))⟩ : GResident)) := set_enc (enc := eResident) (sz := 4) (fun _ => rfl) (List.getElem?_set_self w34l) (by decide) rfl
              have w36b : ((v4.In.set k_14.toNat (⟨x32.Name, x32.Size, (IntKind.i64.wrap (x32.Held + 1)), x32.Used⟩ : GResident)).set k_14.toNat (⟨(⟨x32.Name, x32.Size, (IntKind.i64.wrap (x32.Held + 1)), x32.Used⟩ : GResident).Name, (⟨x32.Name, x32.Size, (IntKind.i64.wrap (x32.Held + 1)), x32.Used⟩ : GResident).Size, (⟨x32.Name, x32.Size, (IntKind.i64.wrap (x32.Held + 1)), x32.Used⟩ : GResident).Held, (IntKind.i64.wrap (v4.Clock + 1))⟩ : GResident)).length = (v4.In.set k_14.toNat (⟨x32.Name, x32.Size, (IntKind.i64.wrap (x32.Held + 1)), x32.Used⟩ : GResident)).length := List.length_set
              have ff := ai @dc3 (ai @dc7 (ai @dc28 (ai @g0_j4 (ai @g1_j4 (ai @g2_j4 (ai @g3_j4 (ai @g4_j4 (ai @g5_j4 (ai @g6_j4 (ai @g7_j4 (ai @dc30 (ai @dc31 (ai @f33c (ai @f33g0 (ai @f33g1 (ai @f33g2 (ai @f33g3 (ai @w34a (ai @f35c (ai @f35g0 (ai @f35g1 (ai @f35g2 (ai @f35g3 (ai @w36a p_spec_Fetch_tf.down))))))))))))))))))))))))
              try refine st_by ff ?_
              repeat' (first | exact trivial | refine And.intro sd ?_)
              cases h
              exact ret_q3 rfl (p_spec_Fetch_rt ff trivial)
            rw [if_neg c31] at h
            have dc31 := decide_eq_false c31
            obtain ⟨q_1, eq_1, h⟩ := Option.bind_eq_some_iff.1 h
            have ff := ai @dc3 (ai @dc7 (ai @dc28 (ai @g0_j4 (ai @g1_j4 (ai @g2_j4 (ai @g3_j4 (ai @g4_j4 (ai @g5_j4 (ai @g6_j4 (ai @g7_j4 (ai @dc30 (ai @dc31 p_spec_Fetch_tf.down))))))))))))
            try refine st_by ff ?_
            repeat' (first | exact trivial | refine And.intro sd ?_)
            obtain ⟨I_1, hI_1⟩ : ∃ I_ : (Nat × (List GResident) × (List ByteArray)) → ASt → Prop, I_ = (fun (a : Nat × (List GResident) × (List ByteArray)) σ => match a with | (n_1, s_72, out_73) => (p_spec_Fetch_l1 size_a2 v4 n_1 s_72 out_73 = some q_1) ∧ σ.t 1 = S name_a1 ∧ σ.t 2 = I size_a2 ∧ σ.t 3 = .ptr 3 [] 0 ∧ σ.t 6 = .ptr 6 [] 0 ∧ σ.t 14 = .sl 14 [] 0 out_73.length ∧ σ.m 3 = some (.box true [I v4.Budget, I (IntKind.i64.wrap (v4.Clock + 1)), .row true 4 s_72.length (esResident s_72)]) ∧ σ.m 6 = some (.box true [I 0, I 0, .row true 4 0 []]) ∧ σ.m 14 = some (.row true 1 out_73.length (esStr out_73))) := ⟨_, rfl⟩
            obtain ⟨M_1, hM_1⟩ : ∃ M_ : (Nat × (List GResident) × (List ByteArray)) → Nat, M_ = (fun (a : Nat × (List GResident) × (List ByteArray)) => match a with | (n_1, s_72, out_73) => n_1) := ⟨_, rfl⟩
            obtain ⟨J_1, hJ_1⟩ : ∃ J_ : ASt → Prop, J_ = (fun σ => ∃ s_72 : List GResident, ∃ out_73 : List ByteArray, (some (s_72, out_73) = some q_1) ∧ σ.t 1 = S name_a1 ∧ σ.t 2 = I size_a2 ∧ σ.t 3 = .ptr 3 [] 0 ∧ σ.t 6 = .ptr 6 [] 0 ∧ σ.t 14 = .sl 14 [] 0 out_73.length ∧ σ.m 3 = some (.box true [I v4.Budget, I (IntKind.i64.wrap (v4.Clock + 1)), .row true 4 s_72.length (esResident s_72)]) ∧ σ.m 6 = some (.box true [I 0, I 0, .row true 4 0 []]) ∧ σ.m 14 = some (.row true 1 out_73.length (esStr out_73))) := ⟨_, rfl⟩
            refine aw_loopC (id := 2) I_1 M_1 J_1 (N, v4.In, ([] : List ByteArray)) ?_ ?_ ?_
            · rw [hI_1]
              refine ⟨eq_1, ?_⟩
              exact p_spec_Fetch_pv ff trivial
            · try clear ff
              rintro ⟨n_1, s_72, out_73⟩ σ hg_1
              rw [hI_1] at hg_1
              obtain ⟨h_1, g0_1, g1_1, g2_1, g3_1, g4_1, g5_1, g6_1, g7_1⟩ := hg_1
              cases n_1 with
              | zero => rw [p_spec_Fetch_l1] at h_1; cases h_1
              | succ n_1 =>
                rw [p_spec_Fetch_l1] at h_1
                obtain ⟨v111, ev111, h_1⟩ := Option.bind_eq_some_iff.1 h_1
                try dsimp only at h_1
                have ff := ai @dc3 (ai @dc7 (ai @dc28 (ai @dc30 (ai @dc31 (ai @g0_1 (ai @g1_1 (ai @g2_1 (ai @g3_1 (ai @g4_1 (ai @g5_1 (ai @g6_1 (ai @g7_1 p_spec_Fetch_tf.down))))))))))))
                try refine st_by ff ?_
                repeat' (first | exact trivial | refine And.intro sd ?_ | (refine aw_drawn (id := 28) ?_ [[], [0], [], [0, 1, 2], [], [4], [0, 1, 2, 3, 4, 5], [0, 1, 2, 3, 4, 5, 6], [0, 1, 2, 3, 4, 5, 6, 7], [0, 1, 2, 3, 4, 5, 6, 7, 8], [0, 1, 2, 3, 4, 5, 6, 7, 8, 9], [0, 1, 2, 3, 4, 5, 6, 7, 8, 9, 10], [0, 1, 2, 3, 4, 5, 6, 7, 8, 9, 10, 11]] 6 ?_ ?_; (· kernel_rfl); (· kernel_rfl); refine st_by ff ?_))
                first
                | (refine cq_lend (p_spec_l21Sizes_does (⟨v4.Budget, (IntKind.i64.wrap (v4.Clock + 1)), s_72⟩ : GStore) v111 ev111) (hf_by ff) kr ⟨p_spec_Fetch_sa ff trivial, ?_⟩; clear ff)
                | (refine cq_dlend (p_spec_l21Sizes_does (⟨v4.Budget, (IntKind.i64.wrap (v4.Clock + 1)), s_72⟩ : GStore) v111 ev111) (hf_by ff) kr ⟨p_spec_Fetch_sa ff trivial, ?_⟩; clear ff)
                have ff := ai @dc3 (ai @dc7 (ai @dc28 (ai @dc30 (ai @dc31 (ai @g0_1 (ai @g1_1 (ai @g2_1 (ai @g3_1 (ai @g4_1 (ai @g5_1 (ai @g6_1 (ai @g7_1 p_spec_Fetch_tf.down))))))))))))
                try refine st_by ff ?_
                repeat' (first | exact trivial | refine And.intro sd ?_)
                try clear ff
                generalize hk_5 : thenK _ _ = kk_5
                have key_5 : ∀ σ, (∃ b_112 : Bool, (p_spec_Fetch_j5 s_72 out_73 (p_spec_Fetch_l1 size_a2 v4 n_1) b_112 = some q_1) ∧ σ.t 1 = S name_a1 ∧ σ.t 2 = I size_a2 ∧ σ.t 3 = .ptr 3 [] 0 ∧ σ.t 6 = .ptr 6 [] 0 ∧ σ.t 14 = .sl 14 [] 0 out_73.length ∧ σ.t 138 = B b_112 ∧ σ.m 3 = some (.box true [I v4.Budget, I (IntKind.i64.wrap (v4.Clock + 1)), .row true 4 s_72.length (esResident s_72)]) ∧ σ.m 6 = some (.box true [I 0, I 0, .row true 4 0 []]) ∧ σ.m 14 = some (.row true 1 out_73.length (esStr out_73))) → kk_5 .nm σ := by
                  rintro σ ⟨b_112, h_1, g0_j5, g1_j5, g2_j5, g3_j5, g4_j5, g5_j5, g6_j5, g7_j5, g8_j5⟩
                  rw [← hk_5]
                  rw [p_spec_Fetch_j5] at h_1
                  by_cases c113 : b_112 = true
                  case neg =>
                   rw [if_neg c113] at h_1
                   have dc113 := eq_false_of_ne_true c113
                   have ff := ai @dc3 (ai @dc7 (ai @dc28 (ai @dc30 (ai @dc31 (ai @g0_j5 (ai @g1_j5 (ai @g2_j5 (ai @g3_j5 (ai @g4_j5 (ai @g5_j5 (ai @g6_j5 (ai @g7_j5 (ai @g8_j5 (ai @dc113 p_spec_Fetch_tf.down))))))))))))))
                   try refine st_by ff ?_
                   repeat' (first | exact trivial | refine And.intro sd ?_)
                   refine JW.intro ?_
                   rw [hJ_1]
                   refine ⟨s_72, out_73, h_1, ?_⟩
                   exact p_spec_Fetch_pv ff trivial
                  rw [if_pos c113] at h_1
                  have dc113 := c113
                  obtain ⟨q_2, eq_2, h_1⟩ := Option.bind_eq_some_iff.1 h_1
                  have ff := ai @dc3 (ai @dc7 (ai @dc28 (ai @dc30 (ai @dc31 (ai @g0_j5 (ai @g1_j5 (ai @g2_j5 (ai @g3_j5 (ai @g4_j5 (ai @g5_j5 (ai @g6_j5 (ai @g7_j5 (ai @g8_j5 (ai @dc113 p_spec_Fetch_tf.down))))))))))))))
                  try refine st_by ff ?_
                  repeat' (first | exact trivial | refine And.intro sd ?_)
                  refine aw_bnd (r := 3) (p := [2]) (sz := 4) (n := s_72.length) (cs := esResident s_72) (p_spec_Fetch_pv ff trivial) (fun hL_2 => ?_)
                  obtain ⟨I_2, hI_2⟩ : ∃ I_ : (Nat × Int) → ASt → Prop, I_ = (fun (a : Nat × Int) σ => match a with | (i_2, w_122) => (i_2 ≤ s_72.length ∧ p_spec_Fetch_l2 s_72 (s_72.drop i_2) i_2 w_122 = some q_2) ∧ σ.t 1 = S name_a1 ∧ σ.t 2 = I size_a2 ∧ σ.t 3 = .ptr 3 [] 0 ∧ σ.t 6 = .ptr 6 [] 0 ∧ σ.t 14 = .sl 14 [] 0 out_73.length ∧ σ.t 15 = I w_122 ∧ σ.t 140 = .sl 3 [2] 0 s_72.length ∧ σ.t 141 = I (s_72.length : Int) ∧ σ.t 142 = I (i_2 : Int) ∧ σ.m 3 = some (.box true [I v4.Budget, I (IntKind.i64.wrap (v4.Clock + 1)), .row true 4 s_72.length (esResident s_72)]) ∧ σ.m 6 = some (.box true [I 0, I 0, .row true 4 0 []]) ∧ σ.m 14 = some (.row true 1 out_73.length (esStr out_73))) := ⟨_, rfl⟩
                  obtain ⟨M_2, hM_2⟩ : ∃ M_ : (Nat × Int) → Nat, M_ = (fun (a : Nat × Int) => match a with | (i_2, w_122) => s_72.length - i_2) := ⟨_, rfl⟩
                  obtain ⟨J_2, hJ_2⟩ : ∃ J_ : ASt → Prop, J_ = (fun σ => ∃ w_122 : Int, (some w_122 = some q_2) ∧ σ.t 1 = S name_a1 ∧ σ.t 2 = I size_a2 ∧ σ.t 3 = .ptr 3 [] 0 ∧ σ.t 6 = .ptr 6 [] 0 ∧ σ.t 14 = .sl 14 [] 0 out_73.length ∧ σ.t 15 = I w_122 ∧ σ.m 3 = some (.box true [I v4.Budget, I (IntKind.i64.wrap (v4.Clock + 1)), .row true 4 s_72.length (esResident s_72)]) ∧ σ.m 6 = some (.box true [I 0, I 0, .row true 4 0 []]) ∧ σ.m 14 = some (.row true 1 out_73.length (esStr out_73))) := ⟨_, rfl⟩
                  refine aw_loopC (id := 4) I_2 M_2 J_2 (0, (-1)) ?_ ?_ ?_
                  · rw [hI_2]
                    refine ⟨⟨Nat.zero_le _, eq_2⟩, ?_⟩
                    exact p_spec_Fetch_pv ff trivial
                  · try clear ff
                    rintro ⟨i_2, w_122⟩ σ hg_2
                    rw [hI_2] at hg_2
                    obtain ⟨⟨hi_2, h_2⟩, g0_2, g1_2, g2_2, g3_2, g4_2, g5_2, g6_2, g7_2, g8_2, g9_2, g10_2, g11_2⟩ := hg_2
                    cases hr_2 : s_72.drop i_2 with
                    | nil =>
                      rw [hr_2] at h_2
                      rw [p_spec_Fetch_l2] at h_2
                      have hn_2 := drop_nil hr_2
                      have dr_2 : decide ((i_2 : Int) < (s_72.length : Int)) = false := decide_eq_false (by omega)
                      have ff := ai @dc3 (ai @dc7 (ai @dc28 (ai @dc30 (ai @dc31 (ai @dc113 (ai @dr_2 (ai @g0_2 (ai @g1_2 (ai @g2_2 (ai @g3_2 (ai @g4_2 (ai @g5_2 (ai @g6_2 (ai @g7_2 (ai @g8_2 (ai @g9_2 (ai @g10_2 (ai @g11_2 p_spec_Fetch_tf.down))))))))))))))))))
                      try refine st_by ff ?_
                      repeat' (first | exact trivial | refine And.intro sd ?_)
                      refine JW.intro ?_
                      rw [hJ_2]
                      refine ⟨w_122, h_2, ?_⟩
                      exact p_spec_Fetch_pv ff trivial
                    | cons x_2 r_2 =>
                      rw [hr_2] at h_2
                      rw [p_spec_Fetch_l2] at h_2
                      obtain ⟨ht_2, hg_2, hd_2⟩ := drop_cons hr_2
                      have dr_2 : decide ((i_2 : Int) < (s_72.length : Int)) = true := decide_eq_true (by omega)
                      have w_2 : IntKind.i64.wrap ((i_2 : Int) + 1) = ((i_2 + 1 : Nat) : Int) := wI _ (by omega) (by omega)
                      have kk2c : (esResident s_72).drop (i_2 * 4) = eResident x_2 ++ esResident (s_72.drop (i_2 + 1)) := drop_enc (fun _ => rfl) (hg_2)
                      have kk2g0 : (esResident s_72).getD (i_2 * 4) .junk = (eResident x_2).getD 0 .junk := getD_enc0 (enc := eResident) (sz := 4) (fun _ => rfl) (hg_2) (by decide)
                      have kk2g1 : (esResident s_72).getD (i_2 * 4 + 1) .junk = (eResident x_2).getD 1 .junk := getD_enc (enc := eResident) (sz := 4) (fun _ => rfl) (hg_2) (by decide)
                      have kk2g2 : (esResident s_72).getD (i_2 * 4 + 2) .junk = (eResident x_2).getD 2 .junk := getD_enc (enc := eResident) (sz := 4) (fun _ => rfl) (hg_2) (by decide)
                      have kk2g3 : (esResident s_72).getD (i_2 * 4 + 3) .junk = (eResident x_2).getD 3 .junk := getD_enc (enc := eResident) (sz := 4) (fun _ => rfl) (hg_2) (by decide)
                      by_cases c132 : x_2.Held = 0
                      case neg =>
                       rw [if_neg c132] at h_2
                       have dc132 := beq_no c132
                       have ff := ai @dc3 (ai @dc7 (ai @dc28 (ai @dc30 (ai @dc31 (ai @dc113 (ai @dr_2 (ai @w_2 (ai @g0_2 (ai @g1_2 (ai @g2_2 (ai @g3_2 (ai @g4_2 (ai @g5_2 (ai @g6_2 (ai @g7_2 (ai @g8_2 (ai @g9_2 (ai @g10_2 (ai @g11_2 (ai @kk2c (ai @kk2g0 (ai @kk2g1 (ai @kk2g2 (ai @kk2g3 (ai @dc132 p_spec_Fetch_tf.down)))))))))))))))))))))))))
                       try refine st_by ff ?_
                       repeat' (first | exact trivial | refine And.intro sd ?_ | (refine aw_drawn (id := 33) ?_ [[], [0], [0, 1], [0, 1, 2], [0, 1, 2, 3], [0, 1, 2, 3, 4], [0, 1, 2, 3, 4, 5], [0, 1, 2, 3, 4, 5, 6], [0, 1, 2, 3, 4, 5, 6, 7], [0, 1, 2, 3, 4, 5, 6], [0, 1, 2, 3, 4, 5, 6, 9], [0, 1, 2, 3, 4, 5, 6], [0, 1, 2, 3, 4, 5, 6, 9, 10, 11], [0, 1, 2, 3, 4, 5, 6, 9, 10, 11, 12], [0, 1, 2, 3, 4, 5, 6, 9, 10, 11, 12, 13], [0, 1, 2, 3, 4, 5, 6, 7, 8, 9, 10, 11, 12, 13, 14], [0, 1, 2, 3, 4, 5, 6, 7, 8, 9, 10, 11, 12, 13, 14, 15], [0, 1, 2, 3, 4, 5, 6, 7, 8, 9, 10, 11, 12, 13, 14, 15, 16]] 15 ?_ ?_; (· kernel_rfl); (· kernel_rfl); refine st_by ff ?_))
                       refine Back.intro (i_2 + 1, w_122) ?_ ?_
                       · clear ff; rw [hM_2]; show s_72.length - (i_2 + 1) < s_72.length - i_2; omega
                       rw [hI_2]
                       refine ⟨⟨by clear ff; show i_2 + 1 ≤ s_72.length; omega, by show p_spec_Fetch_l2 s_72 (s_72.drop (i_2 + 1)) (i_2 + 1) w_122 = some q_2; rw [hd_2]; exact h_2⟩, ?_⟩
                       exact p_spec_Fetch_pv ff trivial
                      rw [if_pos c132] at h_2
                      have dc132 := beq_yes c132
                      by_cases c133 : w_122 < 0
                      · rw [if_pos c133] at h_2
                        have dc133 := decide_eq_true c133
                        have ff := ai @dc3 (ai @dc7 (ai @dc28 (ai @dc30 (ai @dc31 (ai @dc113 (ai @dr_2 (ai @w_2 (ai @g0_2 (ai @g1_2 (ai @g2_2 (ai @g3_2 (ai @g4_2 (ai @g5_2 (ai @g6_2 (ai @g7_2 (ai @g8_2 (ai @g9_2 (ai @g10_2 (ai @g11_2 (ai @kk2c (ai @kk2g0 (ai @kk2g1 (ai @kk2g2 (ai @kk2g3 (ai @dc132 (ai @dc133 p_spec_Fetch_tf.down))))))))))))))))))))))))))
                        try refine st_by ff ?_
                        repeat' (first | exact trivial | refine And.intro sd ?_ | (refine aw_drawn (id := 33) ?_ [[], [0], [0, 1], [0, 1, 2], [0, 1, 2, 3], [0, 1, 2, 3, 4], [0, 1, 2, 3, 4, 5], [0, 1, 2, 3, 4, 5, 6], [0, 1, 2, 3, 4, 5, 6, 7], [0, 1, 2, 3, 4, 5, 6], [0, 1, 2, 3, 4, 5, 6, 9], [0, 1, 2, 3, 4, 5, 6], [0, 1, 2, 3, 4, 5, 6, 9, 10, 11], [0, 1, 2, 3, 4, 5, 6, 9, 10, 11, 12], [0, 1, 2, 3, 4, 5, 6, 9, 10, 11, 12, 13], [0, 1, 2, 3, 4, 5, 6, 7, 8, 9, 10, 11, 12, 13, 14], [0, 1, 2, 3, 4, 5, 6, 7, 8, 9, 10, 11, 12, 13, 14, 15], [0, 1, 2, 3, 4, 5, 6, 7, 8, 9, 10, 11, 12, 13, 14, 15, 16]] 15 ?_ ?_; (· kernel_rfl); (· kernel_rfl); refine st_by ff ?_))
                        refine Back.intro (i_2 + 1, (i_2 : Int)) ?_ ?_
                        · clear ff; rw [hM_2]; show s_72.length - (i_2 + 1) < s_72.length - i_2; omega
                        rw [hI_2]
                        refine ⟨⟨by clear ff; show i_2 + 1 ≤ s_72.length; omega, by show p_spec_Fetch_l2 s_72 (s_72.drop (i_2 + 1)) (i_2 + 1) (i_2 : Int) = some q_2; rw [hd_2]; exact h_2⟩, ?_⟩
                        exact p_spec_Fetch_pv ff trivial
                      rw [if_neg c133] at h_2
                      have dc133 := decide_eq_false c133
                      obtain ⟨x134, ex134, h_2⟩ := Option.bind_eq_some_iff.1 h_2
                      try dsimp only at h_2
                      have f135a := idx_lo ex134
                      have f135b := idx_hi ex134
                      have f135c : (esResident s_72).drop (w_122.toNat * 4) = eResident x134 ++ esResident (s_72.drop (w_122.toNat + 1)) := drop_enc (fun _ => rfl) (idx_get ex134)
                      have f135g0 : (esResident s_72).getD (w_122.toNat * 4) .junk = (eResident x134).getD 0 .junk := getD_enc0 (enc := eResident) (sz := 4) (fun _ => rfl) (idx_get ex134) (by decide)
                      have f135g1 : (esResident s_72).getD (w_122.toNat * 4 + 1) .junk = (eResident x134).getD 1 .junk := getD_enc (enc := eResident) (sz := 4) (fun _ => rfl) (idx_get ex134) (by decide)
                      have f135g2 : (esResident s_72).getD (w_122.toNat * 4 + 2) .junk = (eResident x134).getD 2 .junk := getD_enc (enc := eResident) (sz := 4) (fun _ => rfl) (idx_get ex134) (by decide)
                      have f135g3 : (esResident s_72).getD (w_122.toNat * 4 + 3) .junk = (eResident x134).getD 3 .junk := getD_enc (enc := eResident) (sz := 4) (fun _ => rfl) (idx_get ex134) (by decide)
                      by_cases c136 : x_2.Used < x134.Used
                      case neg =>
                       rw [if_neg c136] at h_2
                       have dc136 := decide_eq_false c136
                       have ff := ai @dc3 (ai @dc7 (ai @dc28 (ai @dc30 (ai @dc31 (ai @dc113 (ai @dr_2 (ai @w_2 (ai @g0_2 (ai @g1_2 (ai @g2_2 (ai @g3_2 (ai @g4_2 (ai @g5_2 (ai @g6_2 (ai @g7_2 (ai @g8_2 (ai @g9_2 (ai @g10_2 (ai @g11_2 (ai @kk2c (ai @kk2g0 (ai @kk2g1 (ai @kk2g2 (ai @kk2g3 (ai @dc132 (ai @dc133 (ai @f135c (ai @f135g0 (ai @f135g1 (ai @f135g2 (ai @f135g3 (ai @dc136 p_spec_Fetch_tf.down))))))))))))))))))))))))))))))))
                       try refine st_by ff ?_
                       repeat' (first | exact trivial | refine And.intro sd ?_ | (refine aw_drawn (id := 33) ?_ [[], [0], [0, 1], [0, 1, 2], [0, 1, 2, 3], [0, 1, 2, 3, 4], [0, 1, 2, 3, 4, 5], [0, 1, 2, 3, 4, 5, 6], [0, 1, 2, 3, 4, 5, 6, 7], [0, 1, 2, 3, 4, 5, 6], [0, 1, 2, 3, 4, 5, 6, 9], [0, 1, 2, 3, 4, 5, 6], [0, 1, 2, 3, 4, 5, 6, 9, 10, 11], [0, 1, 2, 3, 4, 5, 6, 9, 10, 11, 12], [0, 1, 2, 3, 4, 5, 6, 9, 10, 11, 12, 13], [0, 1, 2, 3, 4, 5, 6, 7, 8, 9, 10, 11, 12, 13, 14], [0, 1, 2, 3, 4, 5, 6, 7, 8, 9, 10, 11, 12, 13, 14, 15], [0, 1, 2, 3, 4, 5, 6, 7, 8, 9, 10, 11, 12, 13, 14, 15, 16]] 15 ?_ ?_; (· kernel_rfl); (· kernel_rfl); refine st_by ff ?_))
                       refine Back.intro (i_2 + 1, w_122) ?_ ?_
                       · clear ff; rw [hM_2]; show s_72.length - (i_2 + 1) < s_72.length - i_2; omega
                       rw [hI_2]
                       refine ⟨⟨by clear ff; show i_2 + 1 ≤ s_72.length; omega, by show p_spec_Fetch_l2 s_72 (s_72.drop (i_2 + 1)) (i_2 + 1) w_122 = some q_2; rw [hd_2]; exact h_2⟩, ?_⟩
                       exact p_spec_Fetch_pv ff trivial
                      rw [if_pos c136] at h_2
                      have dc136 := decide_eq_true c136
                      have ff := ai @dc3 (ai @dc7 (ai @dc28 (ai @dc30 (ai @dc31 (ai @dc113 (ai @dr_2 (ai @w_2 (ai @g0_2 (ai @g1_2 (ai @g2_2 (ai @g3_2 (ai @g4_2 (ai @g5_2 (ai @g6_2 (ai @g7_2 (ai @g8_2 (ai @g9_2 (ai @g10_2 (ai @g11_2 (ai @kk2c (ai @kk2g0 (ai @kk2g1 (ai @kk2g2 (ai @kk2g3 (ai @dc132 (ai @dc133 (ai @f135c (ai @f135g0 (ai @f135g1 (ai @f135g2 (ai @f135g3 (ai @dc136 p_spec_Fetch_tf.down))))))))))))))))))))))))))))))))
                      try refine st_by ff ?_
                      repeat' (first | exact trivial | refine And.intro sd ?_ | (refine aw_drawn (id := 33) ?_ [[], [0], [0, 1], [0, 1, 2], [0, 1, 2, 3], [0, 1, 2, 3, 4], [0, 1, 2, 3, 4, 5], [0, 1, 2, 3, 4, 5, 6], [0, 1, 2, 3, 4, 5, 6, 7], [0, 1, 2, 3, 4, 5, 6], [0, 1, 2, 3, 4, 5, 6, 9], [0, 1, 2, 3, 4, 5, 6], [0, 1, 2, 3, 4, 5, 6, 9, 10, 11], [0, 1, 2, 3, 4, 5, 6, 9, 10, 11, 12], [0, 1, 2, 3, 4, 5, 6, 9, 10, 11, 12, 13], [0, 1, 2, 3, 4, 5, 6, 7, 8, 9, 10, 11, 12, 13, 14], [0, 1, 2, 3, 4, 5, 6, 7, 8, 9, 10, 11, 12, 13, 14, 15], [0, 1, 2, 3, 4, 5, 6, 7, 8, 9, 10, 11, 12, 13, 14, 15, 16]] 15 ?_ ?_; (· kernel_rfl); (· kernel_rfl); refine st_by ff ?_))
                      refine Back.intro (i_2 + 1, (i_2 : Int)) ?_ ?_
                      · clear ff; rw [hM_2]; show s_72.length - (i_2 + 1) < s_72.length - i_2; omega
                      rw [hI_2]
                      refine ⟨⟨by clear ff; show i_2 + 1 ≤ s_72.length; omega, by show p_spec_Fetch_l2 s_72 (s_72.drop (i_2 + 1)) (i_2 + 1) (i_2 : Int) = some q_2; rw [hd_2]; exact h_2⟩, ?_⟩
                      exact p_spec_Fetch_pv ff trivial
                  · try clear ff
                    rintro σ hg_2
                    rw [hJ_2] at hg_2
                    obtain ⟨w_122, hj_2, g0_2a, g1_2a, g2_2a, g3_2a, g4_2a, g5_2a, g6_2a, g7_2a, g8_2a⟩ := hg_2
                    have hjj_2 := Option.some.inj hj_2
                    subst hjj_2
                    try dsimp only at h_1
                    obtain ⟨x137, ex137, h_1⟩ := Option.bind_eq_some_iff.1 h_1
                    try dsimp only at h_1
                    have f138a := idx_lo ex137
                    have f138b := idx_hi ex137
                    have f138c : (esResident s_72).drop (w_122.toNat * 4) = eResident x137 ++ esResident (s_72.drop (w_122.toNat + 1)) := drop_enc (fun _ => rfl) (idx_get ex137)
                    have f138g0 : (esResident s_72).getD (w_122.toNat * 4) .junk = (eResident x137).getD 0 .junk := getD_enc0 (enc := eResident) (sz := 4) (fun _ => rfl) (idx_get ex137) (by decide)
                    have f138g1 : (esResident s_72).getD (w_122.toNat * 4 + 1) .junk = (eResident x137).getD 1 .junk := getD_enc (enc := eResident) (sz := 4) (fun _ => rfl) (idx_get ex137) (by decide)
                    have f138g2 : (esResident s_72).getD (w_122.toNat * 4 + 2) .junk = (eResident x137).getD 2 .junk := getD_enc (enc := eResident) (sz := 4) (fun _ => rfl) (idx_get ex137) (by decide)
                    have f138g3 : (esResident s_72).getD (w_122.toNat * 4 + 3) .junk = (eResident x137).getD 3 .junk := getD_enc (enc := eResident) (sz := 4) (fun _ => rfl) (idx_get ex137) (by decide)
                    by_cases c139 : out_73.length < 4294967296
                    case neg => rw [if_neg c139] at h_1; cases h_1
                    rw [if_pos c139] at h_1
                    have a140a : esStr out_73 ++ [S x137.Name] = esStr (out_73 ++ [x137.Name]) := by simp [esStr_app, esStr_cons, esStr_nil, eStr_eq, esStr_nil, esStore_nil, esResident_nil]
                    have a140b : out_73.length + 1 = (out_73 ++ [x137.Name]).length := by simp
                    obtain ⟨m141, em141, h_1⟩ := Option.bind_eq_some_iff.1 h_1
                    try dsimp only at h_1
                    obtain ⟨f142a, f142b⟩ := slc_ok em141
                    have f142c : (esResident s_72).take (w_122.toNat * 4) = esResident m141 := slc_encL (enc := eResident) (fun _ => rfl) em141
                    have f142d : m141.length = w_122.toNat := (slc_lenL em141).symm
                    obtain ⟨m143, em143, h_1⟩ := Option.bind_eq_some_iff.1 h_1
                    try dsimp only at h_1
                    obtain ⟨f144a, f144b⟩ := slc_ok em143
                    have f144c : ((esResident s_72).drop (((IntKind.i64.wrap (w_122 + 1)).toNat) * 4)).take ((s_72.length - ((IntKind.i64.wrap (w_122 + 1)).toNat)) * 4) = esResident m143 := slc_encH (enc := eResident) (fun _ => rfl) em143
                    have f144d : m143.length = s_72.length - ((IntKind.i64.wrap (w_122 + 1)).toNat) := (slc_lenH em143).symm
                    have f144e : (if (((IntKind.i64.wrap (w_122 + 1)).toNat) = 0 ∧ s_72.length - ((IntKind.i64.wrap (w_122 + 1)).toNat) = s_72.length) then esResident s_72 else esResident m143) = esResident m143 := slc_ite (enc := eResident) (sz := 4) (fun _ => rfl) em143
                    by_cases c145 : s_72.length < 4294967296
                    case neg => rw [if_neg c145] at h_1; cases h_1
                    rw [if_pos c145] at h_1
                    have a146a : esResident m141 ++ esResident m143 = esResident (m141 ++ m143) := by simp [esResident_app]
                    have a146b : w_122.toNat + (s_72.length - ((IntKind.i64.wrap (w_122 + 1)).toNat)) = (m141 ++ m143).length := by have h1_ := slc_lenL em141; have h2_ := slc_lenH em143; rw [List.length_append]; omega
                    have a146c : (if w_122.toNat = s_72.length then esResident s_72 else esResident m141) = esResident m141 := slc_iteL (enc := eResident) em141
                    have ff := ai @dc3 (ai @dc7 (ai @dc28 (ai @dc30 (ai @dc31 (ai @dc113 (ai @g0_2a (ai @g1_2a (ai @g2_2a (ai @g3_2a (ai @g4_2a (ai @g5_2a (ai @g6_2a (ai @g7_2a (ai @g8_2a (ai @f138c (ai @f138g0 (ai @f138g1 (ai @f138g2 (ai @f138g3 (ai @a140a (ai @a140b (ai @f142c (ai @f144c (ai @f144e (ai @a146c (ai @a146a (ai @a146b p_spec_Fetch_tf.down)))))))))))))))))))))))))))
                    try refine st_by ff ?_
                    repeat' (first | exact trivial | refine And.intro sd ?_ | (refine aw_drawn (id := 37) ?_ [[], [0], [], [0, 1, 2], [], [4], [], [6], [4, 5, 6, 7], [0, 1, 2, 3, 4, 5, 6, 7, 8], [0, 1, 2, 3, 4, 5, 6, 7, 8, 9], [0, 1, 2, 3, 4, 5, 6, 7, 8, 9, 10]] 9 ?_ ?_; (· kernel_rfl); (· kernel_rfl); refine st_by ff ?_))
                    refine Back.intro (n_1, (m141 ++ m143), (out_73 ++ [x137.Name])) ?_ ?_
                    · rw [hM_1]; exact Nat.lt_succ_self _
                    rw [hI_1]
                    refine ⟨h_1, ?_⟩
                    exact p_spec_Fetch_pv ff (ai @f142d @f144d)
                have hrt_5 := fun σ : ASt => congrFun (congrFun hk_5.symm AX.rt) σ
                have hex_5 := fun (i : Nat) (σ : ASt) => congrFun (congrFun hk_5.symm (AX.ex i)) σ
                by_cases c147 : (IntKind.i64.wrap (v111 + size_a2)) > v4.Budget
                case neg =>
                 rw [if_neg c147] at h_1
                 have dc147 := decide_eq_false c147
                 have ff := ai @dc3 (ai @dc7 (ai @dc28 (ai @dc30 (ai @dc31 (ai @g0_1 (ai @g1_1 (ai @g2_1 (ai @g3_1 (ai @g4_1 (ai @g5_1 (ai @g6_1 (ai @g7_1 (ai @hrt_5 (ai @hex_5 (ai @dc147 p_spec_Fetch_tf.down)))))))))))))))
                 try refine st_by ff ?_
                 repeat' (first | exact trivial | refine And.intro sd ?_)
                 refine key_5 _ ?_
                 refine ⟨((s_72.length : Int) == 30), h_1, ?_⟩
                 exact p_spec_Fetch_pv ff trivial
                rw [if_pos c147] at h_1
                have dc147 := decide_eq_true c147
                have ff := ai @dc3 (ai @dc7 (ai @dc28 (ai @dc30 (ai @dc31 (ai @g0_1 (ai @g1_1 (ai @g2_1 (ai @g3_1 (ai @g4_1 (ai @g5_1 (ai @g6_1 (ai @g7_1 (ai @hrt_5 (ai @hex_5 (ai @dc147 p_spec_Fetch_tf.down)))))))))))))))
                try refine st_by ff ?_
                repeat' (first | exact trivial | refine And.intro sd ?_)
                refine key_5 _ ?_
                refine ⟨true, h_1, ?_⟩
                exact p_spec_Fetch_pv ff trivial
            · try clear ff
              rintro σ hg_1
              rw [hJ_1] at hg_1
              obtain ⟨s_72, out_73, hj_1, g0_1a, g1_1a, g2_1a, g3_1a, g4_1a, g5_1a, g6_1a, g7_1a⟩ := hg_1
              cases hj_1
              try dsimp only at h
              obtain ⟨q_3, eq_3, h⟩ := Option.bind_eq_some_iff.1 h
              have ff := ai @dc3 (ai @dc7 (ai @dc28 (ai @dc30 (ai @dc31 (ai @g0_1a (ai @g1_1a (ai @g2_1a (ai @g3_1a (ai @g4_1a (ai @g5_1a (ai @g6_1a (ai @g7_1a p_spec_Fetch_tf.down))))))))))))
              try refine st_by ff ?_
              repeat' (first | exact trivial | refine And.intro sd ?_)
              refine aw_bnd (r := 3) (p := [2]) (sz := 4) (n := s_72.length) (cs := esResident s_72) (p_spec_Fetch_pv ff trivial) (fun hL_3 => ?_)
              obtain ⟨I_3, hI_3⟩ : ∃ I_ : (Nat × Bool × (List GResident)) → ASt → Prop, I_ = (fun (a : Nat × Bool × (List GResident)) σ => match a with | (i_3, put_156, l_155) => (i_3 ≤ s_72.length ∧ p_spec_Fetch_l3 name_a1 size_a2 v4 (s_72.drop i_3) i_3 put_156 l_155 = some q_3) ∧ σ.t 1 = S name_a1 ∧ σ.t 3 = .ptr 3 [] 0 ∧ σ.t 6 = .ptr 6 [] 0 ∧ σ.t 14 = .sl 14 [] 0 out_73.length ∧ σ.t 18 = .sl 18 [] 0 l_155.length ∧ σ.t 19 = B put_156 ∧ σ.t 20 = .ptr 20 [] 0 ∧ σ.t 193 = .sl 3 [2] 0 s_72.length ∧ σ.t 194 = I (s_72.length : Int) ∧ σ.t 195 = I (i_3 : Int) ∧ σ.m 3 = some (.box true [I v4.Budget, I (IntKind.i64.wrap (v4.Clock + 1)), .row true 4 s_72.length (esResident s_72)]) ∧ σ.m 6 = some (.box true [I 0, I 0, .row true 4 0 []]) ∧ σ.m 14 = some (.row true 1 out_73.length (esStr out_73)) ∧ σ.m 18 = some (.row true 4 l_155.length (esResident l_155)) ∧ σ.m 20 = some (.box true [S name_a1, I size_a2, I 1, I (IntKind.i64.wrap (v4.Clock + 1))])) := ⟨_, rfl⟩
              obtain ⟨M_3, hM_3⟩ : ∃ M_ : (Nat × Bool × (List GResident)) → Nat, M_ = (fun (a : Nat × Bool × (List GResident)) => match a with | (i_3, put_156, l_155) => s_72.length - i_3) := ⟨_, rfl⟩
              obtain ⟨J_3, hJ_3⟩ : ∃ J_ : ASt → Prop, J_ = (fun σ => ∃ put_156 : Bool, ∃ l_155 : List GResident, (some (put_156, l_155) = some q_3) ∧ σ.t 3 = .ptr 3 [] 0 ∧ σ.t 6 = .ptr 6 [] 0 ∧ σ.t 14 = .sl 14 [] 0 out_73.length ∧ σ.t 18 = .sl 18 [] 0 l_155.length ∧ σ.t 19 = B put_156 ∧ σ.t 20 = .ptr 20 [] 0 ∧ σ.m 3 = some (.box true [I v4.Budget, I (IntKind.i64.wrap (v4.Clock + 1)), .row true 4 s_72.length (esResident s_72)]) ∧ σ.m 6 = some (.box true [I 0, I 0, .row true 4 0 []]) ∧ σ.m 14 = some (.row true 1 out_73.length (esStr out_73)) ∧ σ.m 18 = some (.row true 4 l_155.length (esResident l_155)) ∧ σ.m 20 = some (.box true [S name_a1, I size_a2, I 1, I (IntKind.i64.wrap (v4.Clock + 1))])) := ⟨_, rfl⟩
              refine aw_loopC (id := 6) I_3 M_3 J_3 (0, false, ([] : List GResident)) ?_ ?_ ?_
              · rw [hI_3]
                refine ⟨⟨Nat.zero_le _, eq_3⟩, ?_⟩
                exact p_spec_Fetch_pv ff trivial
              · try clear ff
                rintro ⟨i_3, put_156, l_155⟩ σ hg_3
                rw [hI_3] at hg_3
                obtain ⟨⟨hi_3, h_3⟩, g0_3, g1_3, g2_3, g3_3, g4_3, g5_3, g6_3, g7_3, g8_3, g9_3, g10_3, g11_3, g12_3, g13_3, g14_3⟩ := hg_3
                cases hr_3 : s_72.drop i_3 with
                | nil =>
                  rw [hr_3] at h_3
                  rw [p_spec_Fetch_l3] at h_3
                  have hn_3 := drop_nil hr_3
                  have dr_3 : decide ((i_3 : Int) < (s_72.length : Int)) = false := decide_eq_false (by omega)
                  have ff := ai @dc3 (ai @dc7 (ai @dc28 (ai @dc30 (ai @dc31 (ai @dr_3 (ai @g0_3 (ai @g1_3 (ai @g2_3 (ai @g3_3 (ai @g4_3 (ai @g5_3 (ai @g6_3 (ai @g7_3 (ai @g8_3 (ai @g9_3 (ai @g10_3 (ai @g11_3 (ai @g12_3 (ai @g13_3 (ai @g14_3 p_spec_Fetch_tf.down))))))))))))))))))))
                  try refine st_by ff ?_
                  repeat' (first | exact trivial | refine And.intro sd ?_)
                  refine JW.intro ?_
                  rw [hJ_3]
                  refine ⟨put_156, l_155, h_3, ?_⟩
                  exact p_spec_Fetch_pv ff trivial
                | cons x_3 r_3 =>
                  rw [hr_3] at h_3
                  rw [p_spec_Fetch_l3] at h_3
                  obtain ⟨ht_3, hg_3, hd_3⟩ := drop_cons hr_3
                  have dr_3 : decide ((i_3 : Int) < (s_72.length : Int)) = true := decide_eq_true (by omega)
                  have w_3 : IntKind.i64.wrap ((i_3 : Int) + 1) = ((i_3 + 1 : Nat) : Int) := wI _ (by omega) (by omega)
                  have kk3c : (esResident s_72).drop (i_3 * 4) = eResident x_3 ++ esResident (s_72.drop (i_3 + 1)) := drop_enc (fun _ => rfl) (hg_3)
                  have kk3g0 : (esResident s_72).getD (i_3 * 4) .junk = (eResident x_3).getD 0 .junk := getD_enc0 (enc := eResident) (sz := 4) (fun _ => rfl) (hg_3) (by decide)
                  have kk3g1 : (esResident s_72).getD (i_3 * 4 + 1) .junk = (eResident x_3).getD 1 .junk := getD_enc (enc := eResident) (sz := 4) (fun _ => rfl) (hg_3) (by decide)
                  have kk3g2 : (esResident s_72).getD (i_3 * 4 + 2) .junk = (eResident x_3).getD 2 .junk := getD_enc (enc := eResident) (sz := 4) (fun _ => rfl) (hg_3) (by decide)
                  have kk3g3 : (esResident s_72).getD (i_3 * 4 + 3) .junk = (eResident x_3).getD 3 .junk := getD_enc (enc := eResident) (sz := 4) (fun _ => rfl) (hg_3) (by decide)
                  have ff := ai @dc3 (ai @dc7 (ai @dc28 (ai @dc30 (ai @dc31 (ai @dr_3 (ai @w_3 (ai @g0_3 (ai @g1_3 (ai @g2_3 (ai @g3_3 (ai @g4_3 (ai @g5_3 (ai @g6_3 (ai @g7_3 (ai @g8_3 (ai @g9_3 (ai @g10_3 (ai @g11_3 (ai @g12_3 (ai @g13_3 (ai @g14_3 (ai @kk3c (ai @kk3g0 (ai @kk3g1 (ai @kk3g2 (ai @kk3g3 p_spec_Fetch_tf.down))))))))))))))))))))))))))
                  try refine st_by ff ?_
                  repeat' (first | exact trivial | refine And.intro sd ?_)
                  try clear ff
                  generalize hk_6 : thenK _ _ = kk_6
                  have key_6 : ∀ σ, (∃ b_169 : Bool, (p_spec_Fetch_j6 name_a1 size_a2 v4 put_156 l_155 x_3 i_3 (p_spec_Fetch_l3 name_a1 size_a2 v4 r_3) b_169 = some q_3) ∧ σ.t 1 = S name_a1 ∧ σ.t 3 = .ptr 3 [] 0 ∧ σ.t 6 = .ptr 6 [] 0 ∧ σ.t 14 = .sl 14 [] 0 out_73.length ∧ σ.t 18 = .sl 18 [] 0 l_155.length ∧ σ.t 19 = B put_156 ∧ σ.t 20 = .ptr 20 [] 0 ∧ σ.t 22 = .ptr 22 [] 0 ∧ σ.t 193 = .sl 3 [2] 0 s_72.length ∧ σ.t 194 = I (s_72.length : Int) ∧ σ.t 195 = I (i_3 : Int) ∧ σ.t 206 = B b_169 ∧ σ.m 3 = some (.box true [I v4.Budget, I (IntKind.i64.wrap (v4.Clock + 1)), .row true 4 s_72.length (esResident s_72)]) ∧ σ.m 6 = some (.box true [I 0, I 0, .row true 4 0 []]) ∧ σ.m 14 = some (.row true 1 out_73.length (esStr out_73)) ∧ σ.m 18 = some (.row true 4 l_155.length (esResident l_155)) ∧ σ.m 20 = some (.box true [S name_a1, I size_a2, I 1, I (IntKind.i64.wrap (v4.Clock + 1))]) ∧ σ.m 22 = some (.box true [S x_3.Name, I x_3.Size, I x_3.Held, I x_3.Used])) → kk_6 .nm σ := by
                    rintro σ ⟨b_169, h_3, g0_j6, g1_j6, g2_j6, g3_j6, g4_j6, g5_j6, g6_j6, g7_j6, g8_j6, g9_j6, g10_j6, g11_j6, g12_j6, g13_j6, g14_j6, g15_j6, g16_j6, g17_j6⟩
                    rw [← hk_6]
                    rw [p_spec_Fetch_j6] at h_3
                    by_cases c170 : b_169 = true
                    case neg =>
                     rw [if_neg c170] at h_3
                     have dc170 := eq_false_of_ne_true c170
                     by_cases c175 : l_155.length < 4294967296
                     case neg => rw [if_neg c175] at h_3; cases h_3
                     rw [if_pos c175] at h_3
                     have a176a : esResident l_155 ++ [S x_3.Name, I x_3.Size, I x_3.Held, I x_3.Used] = esResident (l_155 ++ [x_3]) := by simp [esResident_app, esResident_cons, esResident_nil, eResident_eq, esStr_nil, esStore_nil, esResident_nil]
                     have a176b : l_155.length + 1 = (l_155 ++ [x_3]).length := by simp
                     have ff := ai @dc3 (ai @dc7 (ai @dc28 (ai @dc30 (ai @dc31 (ai @dr_3 (ai @w_3 (ai @kk3c (ai @kk3g0 (ai @kk3g1 (ai @kk3g2 (ai @kk3g3 (ai @g0_j6 (ai @g1_j6 (ai @g2_j6 (ai @g3_j6 (ai @g4_j6 (ai @g5_j6 (ai @g6_j6 (ai @g7_j6 (ai @g8_j6 (ai @g9_j6 (ai @g10_j6 (ai @g11_j6 (ai @g12_j6 (ai @g13_j6 (ai @g14_j6 (ai @g15_j6 (ai @g16_j6 (ai @g17_j6 (ai @dc170 (ai @a176a (ai @a176b p_spec_Fetch_tf.down))))))))))))))))))))))))))))))))
                     try refine st_by ff ?_
                     repeat' (first | exact trivial | refine And.intro sd ?_)
                     refine Back.intro (i_3 + 1, put_156, (l_155 ++ [x_3])) ?_ ?_
                     · clear ff; rw [hM_3]; show s_72.length - (i_3 + 1) < s_72.length - i_3; omega
                     rw [hI_3]
                     refine ⟨⟨by clear ff; show i_3 + 1 ≤ s_72.length; omega, by show p_spec_Fetch_l3 name_a1 size_a2 v4 (s_72.drop (i_3 + 1)) (i_3 + 1) put_156 (l_155 ++ [x_3]) = some q_3; rw [hd_3]; exact h_3⟩, ?_⟩
                     exact p_spec_Fetch_pv ff trivial
                    rw [if_pos c170] at h_3
                    have dc170 := c170
                    by_cases c171 : l_155.length < 4294967296
                    case neg => rw [if_neg c171] at h_3; cases h_3
                    rw [if_pos c171] at h_3
                    have a172a : esResident l_155 ++ [S name_a1, I size_a2, I 1, I (IntKind.i64.wrap (v4.Clock + 1))] = esResident (l_155 ++ [(⟨name_a1, size_a2, 1, (IntKind.i64.wrap (v4.Clock + 1))⟩ : GResident)]) := by simp [esResident_app, esResident_cons, esResident_nil, eResident_eq, esStr_nil, esStore_nil, esResident_nil]
                    have a172b : l_155.length + 1 = (l_155 ++ [(⟨name_a1, size_a2, 1, (IntKind.i64.wrap (v4.Clock + 1))⟩ : GResident)]).length := by simp
                    by_cases c173 : (l_155 ++ [(⟨name_a1, size_a2, 1, (IntKind.i64.wrap (v4.Clock + 1))⟩ : GResident)]).length < 4294967296
                    case neg => rw [if_neg c173] at h_3; cases h_3
                    rw [if_pos c173] at h_3
                    have a174a : esResident (l_155 ++ [(⟨name_a1, size_a2, 1, (IntKind.i64.wrap (v4.Clock + 1))⟩ : GResident)]) ++ [S x_3.Name, I x_3.Size, I x_3.Held, I x_3.Used] = esResident ((l_155 ++ [(⟨name_a1, size_a2, 1, (IntKind.i64.wrap (v4.Clock + 1))⟩ : GResident)]) ++ [x_3]) := by simp [esResident_app, esResident_cons, esResident_nil, eResident_eq, esStr_nil, esStore_nil, esResident_nil]
                    have a174b : (l_155 ++ [(⟨name_a1, size_a2, 1, (IntKind.i64.wrap (v4.Clock + 1))⟩ : GResident)]).length + 1 = ((l_155 ++ [(⟨name_a1, size_a2, 1, (IntKind.i64.wrap (v4.Clock + 1))⟩ : GResident)]) ++ [x_3]).length := by simp
                    have ff := ai @dc3 (ai @dc7 (ai @dc28 (ai @dc30 (ai @dc31 (ai @dr_3 (ai @w_3 (ai @kk3c (ai @kk3g0 (ai @kk3g1 (ai @kk3g2 (ai @kk3g3 (ai @g0_j6 (ai @g1_j6 (ai @g2_j6 (ai @g3_j6 (ai @g4_j6 (ai @g5_j6 (ai @g6_j6 (ai @g7_j6 (ai @g8_j6 (ai @g9_j6 (ai @g10_j6 (ai @g11_j6 (ai @g12_j6 (ai @g13_j6 (ai @g14_j6 (ai @g15_j6 (ai @g16_j6 (ai @g17_j6 (ai @dc170 (ai @a172a (ai @a172b (ai @a174a (ai @a174b p_spec_Fetch_tf.down))))))))))))))))))))))))))))))))))
                    try refine st_by ff ?_
                    repeat' (first | exact trivial | refine And.intro sd ?_)
                    refine Back.intro (i_3 + 1, true, ((l_155 ++ [(⟨name_a1, size_a2, 1, (IntKind.i64.wrap (v4.Clock + 1))⟩ : GResident)]) ++ [x_3])) ?_ ?_
                    · clear ff; rw [hM_3]; show s_72.length - (i_3 + 1) < s_72.length - i_3; omega
                    rw [hI_3]
                    refine ⟨⟨by clear ff; show i_3 + 1 ≤ s_72.length; omega, by show p_spec_Fetch_l3 name_a1 size_a2 v4 (s_72.drop (i_3 + 1)) (i_3 + 1) true ((l_155 ++ [(⟨name_a1, size_a2, 1, (IntKind.i64.wrap (v4.Clock + 1))⟩ : GResident)]) ++ [x_3]) = some q_3; rw [hd_3]; exact h_3⟩, ?_⟩
                    exact p_spec_Fetch_pv ff trivial
                  have hrt_6 := fun σ : ASt => congrFun (congrFun hk_6.symm AX.rt) σ
                  have hex_6 := fun (i : Nat) (σ : ASt) => congrFun (congrFun hk_6.symm (AX.ex i)) σ
                  by_cases c177 : put_156 = true
                  case neg =>
                   rw [if_neg c177] at h_3
                   have dc177 := eq_false_of_ne_true c177
                   have ff := ai @dc3 (ai @dc7 (ai @dc28 (ai @dc30 (ai @dc31 (ai @dr_3 (ai @w_3 (ai @g0_3 (ai @g1_3 (ai @g2_3 (ai @g3_3 (ai @g4_3 (ai @g5_3 (ai @g6_3 (ai @g7_3 (ai @g8_3 (ai @g9_3 (ai @g10_3 (ai @g11_3 (ai @g12_3 (ai @g13_3 (ai @g14_3 (ai @kk3c (ai @kk3g0 (ai @kk3g1 (ai @kk3g2 (ai @kk3g3 (ai @hrt_6 (ai @hex_6 (ai @dc177 p_spec_Fetch_tf.down)))))))))))))))))))))))))))))
                   try refine st_by ff ?_
                   repeat' (first | exact trivial | refine And.intro sd ?_)
                   refine key_6 _ ?_
                   refine ⟨!(Op.bytesLess x_3.Name.toList name_a1.toList || decide (x_3.Name = name_a1)), h_3, ?_⟩
                   exact p_spec_Fetch_pv ff trivial
                  rw [if_pos c177] at h_3
                  have dc177 := c177
                  have ff := ai @dc3 (ai @dc7 (ai @dc28 (ai @dc30 (ai @dc31 (ai @dr_3 (ai @w_3 (ai @g0_3 (ai @g1_3 (ai @g2_3 (ai @g3_3 (ai @g4_3 (ai @g5_3 (ai @g6_3 (ai @g7_3 (ai @g8_3 (ai @g9_3 (ai @g10_3 (ai @g11_3 (ai @g12_3 (ai @g13_3 (ai @g14_3 (ai @kk3c (ai @kk3g0 (ai @kk3g1 (ai @kk3g2 (ai @kk3g3 (ai @hrt_6 (ai @hex_6 (ai @dc177 p_spec_Fetch_tf.down)))))))))))))))))))))))))))))
                  try refine st_by ff ?_
                  repeat' (first | exact trivial | refine And.intro sd ?_)
                  refine key_6 _ ?_
                  refine ⟨false, h_3, ?_⟩
                  exact p_spec_Fetch_pv ff trivial
              · try clear ff
                rintro σ hg_3
                rw [hJ_3] at hg_3
                obtain ⟨put_156, l_155, hj_3, g0_3a, g1_3a, g2_3a, g3_3a, g4_3a, g5_3a, g6_3a, g7_3a, g8_3a, g9_3a, g10_3a⟩ := hg_3
                cases hj_3
                try dsimp only at h
                have ff := ai @dc3 (ai @dc7 (ai @dc28 (ai @dc30 (ai @dc31 (ai @g0_3a (ai @g1_3a (ai @g2_3a (ai @g3_3a (ai @g4_3a (ai @g5_3a (ai @g6_3a (ai @g7_3a (ai @g8_3a (ai @g9_3a (ai @g10_3a p_spec_Fetch_tf.down)))))))))))))))
                try refine st_by ff ?_
                repeat' (first | exact trivial | refine And.intro sd ?_)
                try clear ff
                generalize hk_7 : thenK _ _ = kk_7
                have key_7 : ∀ σ, (∃ l_178 : List GResident, (p_spec_Fetch_j7 v4 out_73 l_178 = some r) ∧ σ.t 3 = .ptr 3 [] 0 ∧ σ.t 6 = .ptr 6 [] 0 ∧ σ.t 14 = .sl 14 [] 0 out_73.length ∧ σ.t 18 = .sl 18 [] 0 l_178.length ∧ σ.m 3 = some (.box true [I v4.Budget, I (IntKind.i64.wrap (v4.Clock + 1)), .row true 4 s_72.length (esResident s_72)]) ∧ σ.m 6 = some (.box true [I 0, I 0, .row true 4 0 []]) ∧ σ.m 14 = some (.row true 1 out_73.length (esStr out_73)) ∧ σ.m 18 = some (.row true 4 l_178.length (esResident l_178))) → kk_7 .nm σ := by
                  rintro σ ⟨l_178, h, g0_j7, g1_j7, g2_j7, g3_j7, g4_j7, g5_j7, g6_j7, g7_j7⟩
                  rw [← hk_7]
                  rw [p_spec_Fetch_j7] at h
                  have ff := ai @dc3 (ai @dc7 (ai @dc28 (ai @dc30 (ai @dc31 (ai @g0_j7 (ai @g1_j7 (ai @g2_j7 (ai @g3_j7 (ai @g4_j7 (ai @g5_j7 (ai @g6_j7 (ai @g7_j7 p_spec_Fetch_tf.down))))))))))))
                  try refine st_by ff ?_
                  repeat' (first | exact trivial | refine And.intro sd ?_)
                  cases h
                  exact ret_q3 rfl (p_spec_Fetch_rt ff trivial)
                have hrt_7 := fun σ : ASt => congrFun (congrFun hk_7.symm AX.rt) σ
                have hex_7 := fun (i : Nat) (σ : ASt) => congrFun (congrFun hk_7.symm (AX.ex i)) σ
                by_cases c179 : put_156 = true
                · rw [if_pos c179] at h
                  have dc179 := c179
                  have ff := ai @dc3 (ai @dc7 (ai @dc28 (ai @dc30 (ai @dc31 (ai @g0_3a (ai @g1_3a (ai @g2_3a (ai @g3_3a (ai @g4_3a (ai @g5_3a (ai @g6_3a (ai @g7_3a (ai @g8_3a (ai @g9_3a (ai @g10_3a (ai @hrt_7 (ai @hex_7 (ai @dc179 p_spec_Fetch_tf.down))))))))))))))))))
                  try refine st_by ff ?_
                  repeat' (first | exact trivial | refine And.intro sd ?_)
                  refine key_7 _ ?_
                  refine ⟨l_155, h, ?_⟩
                  exact p_spec_Fetch_pv ff trivial
                rw [if_neg c179] at h
                have dc179 := eq_false_of_ne_true c179
                by_cases c180 : l_155.length < 4294967296
                case neg => rw [if_neg c180] at h; cases h
                rw [if_pos c180] at h
                have a181a : esResident l_155 ++ [S name_a1, I size_a2, I 1, I (IntKind.i64.wrap (v4.Clock + 1))] = esResident (l_155 ++ [(⟨name_a1, size_a2, 1, (IntKind.i64.wrap (v4.Clock + 1))⟩ : GResident)]) := by simp [esResident_app, esResident_cons, esResident_nil, eResident_eq, esStr_nil, esStore_nil, esResident_nil]
                have a181b : l_155.length + 1 = (l_155 ++ [(⟨name_a1, size_a2, 1, (IntKind.i64.wrap (v4.Clock + 1))⟩ : GResident)]).length := by simp
                have ff := ai @dc3 (ai @dc7 (ai @dc28 (ai @dc30 (ai @dc31 (ai @g0_3a (ai @g1_3a (ai @g2_3a (ai @g3_3a (ai @g4_3a (ai @g5_3a (ai @g6_3a (ai @g7_3a (ai @g8_3a (ai @g9_3a (ai @g10_3a (ai @hrt_7 (ai @hex_7 (ai @dc179 (ai @a181a (ai @a181b p_spec_Fetch_tf.down))))))))))))))))))))
                try refine st_by ff ?_
                repeat' (first | exact trivial | refine And.intro sd ?_)
                refine key_7 _ ?_
                refine ⟨(l_155 ++ [(⟨name_a1, size_a2, 1, (IntKind.i64.wrap (v4.Clock + 1))⟩ : GResident)]), h, ?_⟩
                exact p_spec_Fetch_pv ff trivial
          have hrt_4 := fun σ : ASt => congrFun (congrFun hk_4.symm AX.rt) σ
          have hex_4 := fun (i : Nat) (σ : ASt) => congrFun (congrFun hk_4.symm (AX.ex i)) σ
          by_cases c182 : k_14 < 0
          case neg =>
           rw [if_neg c182] at h
           have dc182 := decide_eq_false c182
           have ff := ai @dc3 (ai @dc7 (ai @g0_j3 (ai @g1_j3 (ai @g2_j3 (ai @g3_j3 (ai @g4_j3 (ai @g5_j3 (ai @g6_j3 (ai @g7_j3 (ai @g8_j3 (ai @g9_j3 (ai @dc28 (ai @hrt_4 (ai @hex_4 (ai @dc182 p_spec_Fetch_tf.down)))))))))))))))
           try refine st_by ff ?_
           repeat' (first | exact trivial | refine And.intro sd ?_)
           refine key_4 _ ?_
           refine ⟨false, h, ?_⟩
           exact p_spec_Fetch_pv ff trivial
          rw [if_pos c182] at h
          have dc182 := decide_eq_true c182
          by_cases c183 : (IntKind.i64.wrap (held_15 + size_a2)) > v4.Budget
          case neg =>
           rw [if_neg c183] at h
           have dc183 := decide_eq_false c183
           have ff := ai @dc3 (ai @dc7 (ai @g0_j3 (ai @g1_j3 (ai @g2_j3 (ai @g3_j3 (ai @g4_j3 (ai @g5_j3 (ai @g6_j3 (ai @g7_j3 (ai @g8_j3 (ai @g9_j3 (ai @dc28 (ai @hrt_4 (ai @hex_4 (ai @dc182 (ai @dc183 p_spec_Fetch_tf.down))))))))))))))))
           try refine st_by ff ?_
           repeat' (first | exact trivial | refine And.intro sd ?_)
           refine key_4 _ ?_
           refine ⟨(many_16 == 30), h, ?_⟩
           exact p_spec_Fetch_pv ff trivial
          rw [if_pos c183] at h
          have dc183 := decide_eq_true c183
          have ff := ai @dc3 (ai @dc7 (ai @g0_j3 (ai @g1_j3 (ai @g2_j3 (ai @g3_j3 (ai @g4_j3 (ai @g5_j3 (ai @g6_j3 (ai @g7_j3 (ai @g8_j3 (ai @g9_j3 (ai @dc28 (ai @hrt_4 (ai @hex_4 (ai @dc182 (ai @dc183 p_spec_Fetch_tf.down))))))))))))))))
          try refine st_by ff ?_
          repeat' (first | exact trivial | refine And.intro sd ?_)
          refine key_4 _ ?_
          refine ⟨true, h, ?_⟩
          exact p_spec_Fetch_pv ff trivial
        have hrt_3 := fun σ : ASt => congrFun (congrFun hk_3.symm AX.rt) σ
        have hex_3 := fun (i : Nat) (σ : ASt) => congrFun (congrFun hk_3.symm (AX.ex i)) σ
        by_cases c184 : k_14 ≥ 0
        case neg =>
         rw [if_neg c184] at h
         have dc184 := decide_eq_false c184
         have ff := ai @dc3 (ai @dc7 (ai @g0_0a (ai @g1_0a (ai @g2_0a (ai @g3_0a (ai @g4_0a (ai @g5_0a (ai @g6_0a (ai @g7_0a (ai @g8_0a (ai @hrt_3 (ai @hex_3 (ai @dc184 p_spec_Fetch_tf.down)))))))))))))
         try refine st_by ff ?_
         repeat' (first | exact trivial | refine And.intro sd ?_)
         refine key_3 _ ?_
         refine ⟨false, h, ?_⟩
         exact p_spec_Fetch_pv ff trivial
        rw [if_pos c184] at h
        have dc184 := decide_eq_true c184
        obtain ⟨x185, ex185, h⟩ := Option.bind_eq_some_iff.1 h
        try dsimp only at h
        have f186a := idx_lo ex185
        have f186b := idx_hi ex185
        have f186c : (esResident v4.In).drop (k_14.toNat * 4) = eResident x185 ++ esResident (v4.In.drop (k_14.toNat + 1)) := drop_enc (fun _ => rfl) (idx_get ex185)
        have f186g0 : (esResident v4.In).getD (k_14.toNat * 4) .junk = (eResident x185).getD 0 .junk := getD_enc0 (enc := eResident) (sz := 4) (fun _ => rfl) (idx_get ex185) (by decide)
        have f186g1 : (esResident v4.In).getD (k_14.toNat * 4 + 1) .junk = (eResident x185).getD 1 .junk := getD_enc (enc := eResident) (sz := 4) (fun _ => rfl) (idx_get ex185) (by decide)
        have f186g2 : (esResident v4.In).getD (k_14.toNat * 4 + 2) .junk = (eResident x185).getD 2 .junk := getD_enc (enc := eResident) (sz := 4) (fun _ => rfl) (idx_get ex185) (by decide)
        have f186g3 : (esResident v4.In).getD (k_14.toNat * 4 + 3) .junk = (eResident x185).getD 3 .junk := getD_enc (enc := eResident) (sz := 4) (fun _ => rfl) (idx_get ex185) (by decide)
        by_cases c187 : x185.Size = size_a2
        case neg =>
         rw [if_neg c187] at h
         have dc187 := beq_no c187
         have ff := ai @dc3 (ai @dc7 (ai @g0_0a (ai @g1_0a (ai @g2_0a (ai @g3_0a (ai @g4_0a (ai @g5_0a (ai @g6_0a (ai @g7_0a (ai @g8_0a (ai @hrt_3 (ai @hex_3 (ai @dc184 (ai @f186c (ai @f186g0 (ai @f186g1 (ai @f186g2 (ai @f186g3 (ai @dc187 p_spec_Fetch_tf.down)))))))))))))))))))
         try refine st_by ff ?_
         repeat' (first | exact trivial | refine And.intro sd ?_)
         refine key_3 _ ?_
         refine ⟨true, h, ?_⟩
         exact p_spec_Fetch_pv ff trivial
        rw [if_pos c187] at h
        have dc187 := beq_yes c187
        have ff := ai @dc3 (ai @dc7 (ai @g0_0a (ai @g1_0a (ai @g2_0a (ai @g3_0a (ai @g4_0a (ai @g5_0a (ai @g6_0a (ai @g7_0a (ai @g8_0a (ai @hrt_3 (ai @hex_3 (ai @dc184 (ai @f186c (ai @f186g0 (ai @f186g1 (ai @f186g2 (ai @f186g3 (ai @dc187 p_spec_Fetch_tf.down)))))))))))))))))))
        try refine st_by ff ?_
        repeat' (first | exact trivial | refine And.intro sd ?_)
        refine key_3 _ ?_
        refine ⟨(x185.Held == 1000), h, ?_⟩
        exact p_spec_Fetch_pv ff trivial
    have hrt_1 := fun σ : ASt => congrFun (congrFun hk_1.symm AX.rt) σ
    have hex_1 := fun (i : Nat) (σ : ASt) => congrFun (congrFun hk_1.symm (AX.ex i)) σ
    by_cases c188 : (goodName name_a1) = true
    case neg =>
     rw [if_neg c188] at h
     have dc188 := eq_false_of_ne_true c188
     have ff := ai @g0_j0 (ai @g1_j0 (ai @g2_j0 (ai @g3_j0 (ai @g4_j0 (ai @g5_j0 (ai @g6_j0 (ai @dc3 (ai @hrt_1 (ai @hex_1 (ai @dc188 p_spec_Fetch_tf.down))))))))))
     try refine st_by ff ?_
     repeat' (first | exact trivial | refine And.intro sd ?_)
     refine key_1 _ ?_
     refine ⟨true, h, ?_⟩
     exact p_spec_Fetch_pv ff trivial
    rw [if_pos c188] at h
    have dc188 := c188
    have ff := ai @g0_j0 (ai @g1_j0 (ai @g2_j0 (ai @g3_j0 (ai @g4_j0 (ai @g5_j0 (ai @g6_j0 (ai @dc3 (ai @hrt_1 (ai @hex_1 (ai @dc188 p_spec_Fetch_tf.down))))))))))
    try refine st_by ff ?_
    repeat' (first | exact trivial | refine And.intro sd ?_)
    first
    | (refine cq_call (l1In_does size_a2 1 100000) (hf_by ff) kr ⟨p_spec_Fetch_sa ff trivial, ?_⟩; clear ff)
    | (refine cq_dcall (l1In_does size_a2 1 100000) (hf_by ff) kr ⟨p_spec_Fetch_sa ff trivial, ?_⟩; clear ff)
    have ff := ai @g0_j0 (ai @g1_j0 (ai @g2_j0 (ai @g3_j0 (ai @g4_j0 (ai @g5_j0 (ai @g6_j0 (ai @dc3 (ai @hrt_1 (ai @hex_1 (ai @dc188 p_spec_Fetch_tf.down))))))))))
    try refine st_by ff ?_
    repeat' (first | exact trivial | refine And.intro sd ?_)
    refine key_1 _ ?_
    refine ⟨!(rng size_a2 1 100000), h, ?_⟩
    exact p_spec_Fetch_pv ff trivial
  have hrt_0 := fun σ : ASt => congrFun (congrFun hk_0.symm AX.rt) σ
  have hex_0 := fun (i : Nat) (σ : ASt) => congrFun (congrFun hk_0.symm (AX.ex i)) σ
  by_cases c189 : v1 = true
  case neg =>
   rw [if_neg c189] at h
   have dc189 := eq_false_of_ne_true c189
   have ff := ai @hrt_0 (ai @hex_0 (ai @dc189 p_spec_Fetch_tf.down))
   try refine st_by ff ?_
   repeat' (first | exact trivial | refine And.intro sd ?_)
   refine key_0 _ ?_
   refine ⟨true, h, ?_⟩
   exact p_spec_Fetch_pv ff trivial
  rw [if_pos c189] at h
  have dc189 := c189
  have ff := ai @hrt_0 (ai @hex_0 (ai @dc189 p_spec_Fetch_tf.down))
  try refine st_by ff ?_
  repeat' (first | exact trivial | refine And.intro sd ?_)
  refine key_0 _ ?_
  refine ⟨(s_a0.Clock == 100000), h, ?_⟩
  exact p_spec_Fetch_pv ff trivial
/-! impl.GoodStore$1 -/
theorem p_impl_GoodStore_1_rt {F C A : Prop} (hF : F) (hC : C) (h : F → C → A := by intro hF hC; first | (refine sr_by hF ?_; (repeat' (first | exact trivial | apply And.intro)); all_goals (clear hF; first | rfl | (simp only [hC, List.length_append, List.length_cons, List.length_nil, List.append_nil, List.nil_append, List.cons_append, List.length_set, List.append_assoc, Nat.zero_add, List.length_replicate, esResident_app, esResident_cons, esResident_nil, eResident_eq]; done) | (simp [hC, List.length_append, List.length_cons, List.length_nil, List.append_nil, List.nil_append, List.cons_append, List.length_set, List.append_assoc, Nat.zero_add, List.length_replicate, esResident_app, esResident_cons, esResident_nil, eResident_eq]; done) | omega)) | (first | rfl | (simp only [hC, List.length_append, List.length_cons, List.length_nil, List.append_nil, List.nil_append, List.cons_append, List.length_set, List.append_assoc, Nat.zero_add, List.length_replicate, esResident_app, esResident_cons, esResident_nil, eResident_eq]; done) | (simp [hC, List.length_append, List.length_cons, List.length_nil, List.append_nil, List.nil_append, List.cons_append, List.length_set, List.append_assoc, Nat.zero_add, List.length_replicate, esResident_app, esResident_cons, esResident_nil, eResident_eq]; done) | omega)) : A := h hF hC
def p_impl_GoodStore_1_tf := PLift.up (ai @eResident_eq (ai @esResident_len (ai @esResident_nil (ai @esResident_leaf (ai @esResident_fit (ai @esResident_share (ai @esResident_pure (ai @str_beq (ai @Ty.nz3 (ai @Ty.ldA3 (ai @Ty.ldS3 (ai @Ty.sz3 (ai @Ty.szn3 (ai @Ty.fo87_3 (ai @Ty.fk87_3 (ai @Ty.fs87_3 (ai @Ty.fn87_3 @trivial)))))))))))))))))
def p_impl_GoodStore_1 (other_a0 : GResident) (k0_ : GResident) : Option (Bool) := some (other_a0.Used == k0_.Used)
theorem p_impl_GoodStore_1_does (other_a0 : GResident) (k0_ : GResident) (r : Bool) (h : p_impl_GoodStore_1 other_a0 k0_ = some r) : Does Try.prog 83 [.agg (eResident other_a0), .box false (eResident k0_)] (B r) := by
  rw [p_impl_GoodStore_1] at h
  refine Does.walk (nt := 9) Try.func83 rfl rfl (by simp) (by decide) rfl (fun G0 X w0 pv => ?_)
  have ff := p_impl_GoodStore_1_tf.down
  try refine st_by ff ?_
  repeat' (first | exact trivial | refine And.intro sd ?_)
  cases h
  exact ret_q1 rfl (p_impl_GoodStore_1_rt ff trivial)
/-! slices.ContainsFunc[[]impl.Resident,impl.Resident] -/
theorem p_slices_ContainsFunc_impl_Resident_impl_Resident_sa {F C A : Prop} (hF : F) (hC : C) (h : F → C → A := by intro hF hC; first | exact ca_by hF | (refine sa_by hF ?_; (repeat' (first | exact trivial | apply And.intro)); all_goals (clear hF; first | rfl | (simp only [hC, List.length_append, List.length_cons, List.length_nil, List.append_nil, List.nil_append, List.cons_append, List.length_set, List.append_assoc, Nat.zero_add, List.length_replicate, esResident_app, esResident_cons, esResident_nil, eResident_eq]; done) | (simp [hC, List.length_append, List.length_cons, List.length_nil, List.append_nil, List.nil_append, List.cons_append, List.length_set, List.append_assoc, Nat.zero_add, List.length_replicate, esResident_app, esResident_cons, esResident_nil, eResident_eq]; done) | omega))) : A := h hF hC
def p_slices_ContainsFunc_impl_Resident_impl_Resident_tf := PLift.up (ai @eResident_eq (ai @esResident_len (ai @esResident_nil (ai @esResident_leaf (ai @esResident_fit (ai @esResident_share (ai @esResident_pure (ai @str_beq @trivial))))))))
def p_slices_ContainsFunc_impl_Resident_impl_Resident (s_a0 : List GResident) (f_a1 : GResident → Option Bool) : Option (Bool) := ((p_slices_IndexFunc_impl_Resident_impl_Resident s_a0 f_a1).bind fun v1 => some (decide (v1 ≥ 0)))
theorem p_slices_ContainsFunc_impl_Resident_impl_Resident_does (s_a0 : List GResident) (f1 : FuncId) (caps1 : List AV) (hc1 : AV.noRefs caps1 = true) (he1 : entB Try.prog f1 = true) (f_a1 : GResident → Option Bool) (hp1 : ∀ (x0_ : GResident) (y_ : Bool), f_a1 x0_ = some y_ → Does Try.prog f1 ([.agg (eResident x0_)] ++ caps1) (B y_)) (r : Bool) (h : p_slices_ContainsFunc_impl_Resident_impl_Resident s_a0 f_a1 = some r) : Does Try.prog 82 [.row false 4 s_a0.length (esResident s_a0), .fn f1 caps1] (B r) := by
  rw [p_slices_ContainsFunc_impl_Resident_impl_Resident] at h
  refine Does.bnd (fun hb => ?_)
  have hb2 : s_a0.length ≤ 9223372036854775807 := by simpa [AV.fitNs, AV.fitN] using hb
  have hl0 := hb2
  refine Does.walk (nt := 9) Try.func82 rfl rfl (by simp) (by decide) (by simp [AV.noRefs, AV.noRef, hc1]) (fun G0 X w0 pv => ?_)
  obtain ⟨v1, ev1, h⟩ := Option.bind_eq_some_iff.1 h
  try dsimp only at h
  have ff := ai @hc1 p_slices_ContainsFunc_impl_Resident_impl_Resident_tf.down
  try refine st_by ff ?_
  repeat' (first | exact trivial | refine And.intro sd ?_)
  first
  | (refine cq_call (p_slices_IndexFunc_impl_Resident_impl_Resident_does s_a0 f1 caps1 hc1 he1 f_a1 hp1 v1 ev1) (hf_by ff) kr ⟨p_slices_ContainsFunc_impl_Resident_impl_Resident_sa ff trivial, ?_⟩; clear ff)
  have ff := ai @hc1 p_slices_ContainsFunc_impl_Resident_impl_Resident_tf.down
  try refine st_by ff ?_
  repeat' (first | exact trivial | refine And.intro sd ?_)
  cases h
  exact ret_q1 rfl (p_impl_GoodStore_1_rt ff trivial)
/-! impl.GoodStore -/
def p_impl_GoodStore_j1 (all_22 : Int) (x_0 : GResident) (i_0 : Nat) (rec_0 : Nat → Int → Option (LR (Bool) (Int))) (b_48 : Bool) : Option (LR (Bool) (Int)) := (if b_48 = true then some (.ret false) else rec_0 (i_0 + 1) (IntKind.i64.wrap (all_22 + x_0.Size)))
def p_impl_GoodStore_j0 (s_a0 : GStore) (all_22 : Int) (x_0 : GResident) (i_0 : Nat) (rec_0 : Nat → Int → Option (LR (Bool) (Int))) (b_46 : Bool) : Option (LR (Bool) (Int)) := (if b_46 = true then some (.ret false) else (if x_0.Used > 0 then ((slc s_a0.In 0 (i_0 : Int)).bind fun m51 => ((p_slices_ContainsFunc_impl_Resident_impl_Resident m51 (fun x0_ => p_impl_GoodStore_1 x0_ x_0)).bind fun v53 => p_impl_GoodStore_j1 all_22 x_0 i_0 (rec_0) v53)) else p_impl_GoodStore_j1 all_22 x_0 i_0 (rec_0) false))
def p_impl_GoodStore_l0 (s_a0 : GStore) : List GResident → Nat → Int → Option (LR (Bool) (Int))
  | [], i_0, all_22 => some (.out all_22)
  | x_0 :: r_0, i_0, all_22 => (if x_0.Name.size ≤ 9223372036854775807 then (if (goodName x_0.Name) = true then (if (i_0 : Int) > 0 then ((idx s_a0.In (IntKind.i64.wrap ((i_0 : Int) - 1))).bind fun x56 => (if (Op.bytesLess x56.Name.toList x_0.Name.toList) = true then (if (rng x_0.Size 1 100000) = true then (if (rng x_0.Held 0 1000) = true then p_impl_GoodStore_j0 s_a0 all_22 x_0 i_0 (p_impl_GoodStore_l0 s_a0 r_0) (!(rng x_0.Used 0 s_a0.Clock)) else p_impl_GoodStore_j0 s_a0 all_22 x_0 i_0 (p_impl_GoodStore_l0 s_a0 r_0) true) else p_impl_GoodStore_j0 s_a0 all_22 x_0 i_0 (p_impl_GoodStore_l0 s_a0 r_0) true) else p_impl_GoodStore_j0 s_a0 all_22 x_0 i_0 (p_impl_GoodStore_l0 s_a0 r_0) true)) else (if (rng x_0.Size 1 100000) = true then (if (rng x_0.Held 0 1000) = true then p_impl_GoodStore_j0 s_a0 all_22 x_0 i_0 (p_impl_GoodStore_l0 s_a0 r_0) (!(rng x_0.Used 0 s_a0.Clock)) else p_impl_GoodStore_j0 s_a0 all_22 x_0 i_0 (p_impl_GoodStore_l0 s_a0 r_0) true) else p_impl_GoodStore_j0 s_a0 all_22 x_0 i_0 (p_impl_GoodStore_l0 s_a0 r_0) true)) else p_impl_GoodStore_j0 s_a0 all_22 x_0 i_0 (p_impl_GoodStore_l0 s_a0 r_0) true) else none)
def p_impl_GoodStore_tf := PLift.up (ai @eStore_eq (ai @esStore_len (ai @esStore_nil (ai @esStore_leaf (ai @esStore_fit (ai @eStoreo_eq (ai @esStoreo_len (ai @esStoreo_nil (ai @eResident_eq (ai @esResident_len (ai @esResident_nil (ai @esResident_leaf (ai @esResident_fit (ai @esStoreo_share (ai @esStoreo_pure (ai @esResident_share (ai @esResident_pure (ai @str_beq (ai @Ty.sl44 (ai @Ty.slz44 (ai @Ty.nz44 (ai @Ty.ldA44 (ai @Ty.ldS44 (ai @Ty.sz44 (ai @Ty.szn44 (ai @Ty.nz87 (ai @Ty.ldA87 (ai @Ty.sz87 (ai @Ty.szn87 (ai @Ty.nz9 (ai @Ty.ldA9 (ai @Ty.ldS9 (ai @Ty.sz9 (ai @Ty.szn9 (ai @Ty.nz3 (ai @Ty.ldA3 (ai @Ty.ldS3 (ai @Ty.sz3 (ai @Ty.szn3 (ai @Ty.fo46_2 (ai @Ty.fk46_2 (ai @Ty.fs46_2 (ai @Ty.fn46_2 (ai @Ty.fo87_0 (ai @Ty.fk87_0 (ai @Ty.fs87_0 (ai @Ty.fn87_0 (ai @Ty.fo87_1 (ai @Ty.fk87_1 (ai @Ty.fs87_1 (ai @Ty.fn87_1 (ai @Ty.fo87_2 (ai @Ty.fk87_2 (ai @Ty.fs87_2 (ai @Ty.fn87_2 (ai @Ty.fo87_3 (ai @Ty.fk87_3 (ai @Ty.fs87_3 (ai @Ty.fn87_3 (ai @Ty.fo46_1 (ai @Ty.fk46_1 (ai @Ty.fs46_1 (ai @Ty.fn46_1 (ai @Ty.fo46_0 (ai @Ty.fk46_0 (ai @Ty.fs46_0 (ai @Ty.fn46_0 (ai @Ty.nze44 (ai @Ty.zok44 (ai @Ty.by44 (ai @Ty.zs44 (ai @Ty.zv87 @trivial))))))))))))))))))))))))))))))))))))))))))))))))))))))))))))))))))))))))
def p_impl_GoodStore (s_a0 : GStore) : Option (Bool) := ((p_impl_GoodStore_l0 s_a0 s_a0.In 0 0).bind fun q_0 => match q_0 with | .ret r_ => some r_ | .out all_22 => (if (rng s_a0.Budget 1 100000) = true then (if (rng s_a0.Clock 0 100000) = true then (if (s_a0.In.length : Int) ≤ 30 then some (decide (all_22 ≤ s_a0.Budget)) else some false) else some false) else some false))
theorem p_impl_GoodStore_does (s_a0 : GStore) (r : Bool) (h : p_impl_GoodStore s_a0 = some r) : Does Try.prog 58 [.agg (eStore s_a0)] (B r) := by
  rw [p_impl_GoodStore] at h
  refine Does.bnd (fun hb => ?_)
  have hb2 : s_a0.In.length ≤ 9223372036854775807 := by simpa [AV.fitNs, AV.fitN, eStore] using hb
  have hl0 := hb2
  refine Does.walk (nt := 90) Try.func58 rfl rfl (by simp) (by decide) rfl (fun G0 X w0 pv => ?_)
  have hL_0 : s_a0.In.length ≤ 9223372036854775807 := by first | assumption | omega
  obtain ⟨q_0, eq_0, h⟩ := Option.bind_eq_some_iff.1 h
  have ff := p_impl_GoodStore_tf.down
  try refine st_by ff ?_
  repeat' (first | exact trivial | refine And.intro sd ?_)
  obtain ⟨I_0, hI_0⟩ : ∃ I_ : (Nat × Int) → ASt → Prop, I_ = (fun (a : Nat × Int) σ => match a with | (i_0, all_22) => (i_0 ≤ s_a0.In.length ∧ p_impl_GoodStore_l0 s_a0 (s_a0.In.drop i_0) i_0 all_22 = some q_0) ∧ σ.t 1 = .ptr 1 [] 0 ∧ σ.t 3 = I all_22 ∧ σ.t 7 = .row false 4 s_a0.In.length (esResident s_a0.In) ∧ σ.t 8 = I (s_a0.In.length : Int) ∧ σ.t 9 = I (i_0 : Int) ∧ σ.m 1 = some (.box true [I s_a0.Budget, I s_a0.Clock, .row false 4 s_a0.In.length (esResident s_a0.In)])) := ⟨_, rfl⟩
  obtain ⟨M_0, hM_0⟩ : ∃ M_ : (Nat × Int) → Nat, M_ = (fun (a : Nat × Int) => match a with | (i_0, all_22) => s_a0.In.length - i_0) := ⟨_, rfl⟩
  obtain ⟨J_0, hJ_0⟩ : ∃ J_ : ASt → Prop, J_ = (fun σ => ∃ all_22 : Int, (some (.out all_22) = some q_0) ∧ σ.t 1 = .ptr 1 [] 0 ∧ σ.t 3 = I all_22 ∧ σ.m 1 = some (.box true [I s_a0.Budget, I s_a0.Clock, .row false 4 s_a0.In.length (esResident s_a0.In)])) := ⟨_, rfl⟩
  refine aw_loopC (id := 0) I_0 M_0 J_0 (0, 0) ?_ ?_ ?_
  · rw [hI_0]
    refine ⟨⟨Nat.zero_le _, eq_0⟩, ?_⟩
    exact p_spec_l21Sizes_pv ff trivial
  · try clear ff
    rintro ⟨i_0, all_22⟩ σ hg_0
    rw [hI_0] at hg_0
    obtain ⟨⟨hi_0, h_0⟩, g0_0, g1_0, g2_0, g3_0, g4_0, g5_0⟩ := hg_0
    cases hr_0 : s_a0.In.drop i_0 with
    | nil =>
      rw [hr_0] at h_0
      rw [p_impl_GoodStore_l0] at h_0
      have hn_0 := drop_nil hr_0
      have dr_0 : decide ((i_0 : Int) < (s_a0.In.length : Int)) = false := decide_eq_false (by omega)
      have ff := ai @dr_0 (ai @g0_0 (ai @g1_0 (ai @g2_0 (ai @g3_0 (ai @g4_0 (ai @g5_0 p_impl_GoodStore_tf.down))))))
      try refine st_by ff ?_
      repeat' (first | exact trivial | refine And.intro sd ?_)
      refine JW.intro ?_
      rw [hJ_0]
      refine ⟨all_22, h_0, ?_⟩
      exact p_spec_l21Sizes_pv ff trivial
    | cons x_0 r_0 =>
      rw [hr_0] at h_0
      rw [p_impl_GoodStore_l0] at h_0
      obtain ⟨ht_0, hg_0, hd_0⟩ := drop_cons hr_0
      have dr_0 : decide ((i_0 : Int) < (s_a0.In.length : Int)) = true := decide_eq_true (by omega)
      have w_0 : IntKind.i64.wrap ((i_0 : Int) + 1) = ((i_0 + 1 : Nat) : Int) := wI _ (by omega) (by omega)
      have kk0c : (esResident s_a0.In).drop (i_0 * 4) = eResident x_0 ++ esResident (s_a0.In.drop (i_0 + 1)) := drop_enc (fun _ => rfl) (hg_0)
      by_cases c45 : x_0.Name.size ≤ 9223372036854775807
      case neg => rw [if_neg c45] at h_0; cases h_0
      rw [if_pos c45] at h_0
      have ff := ai @dr_0 (ai @w_0 (ai @g0_0 (ai @g1_0 (ai @g2_0 (ai @g3_0 (ai @g4_0 (ai @g5_0 (ai @kk0c p_impl_GoodStore_tf.down))))))))
      try refine st_by ff ?_
      repeat' (first | exact trivial | refine And.intro sd ?_ | (refine aw_drawn (id := 5) ?_ [[], [0], [0, 1], [0, 1, 2], [0, 1, 2, 3], [0, 1, 2, 3, 4], [0, 1, 2, 3, 4, 5], [0, 1, 2, 3, 4, 5, 6], [0, 1, 2, 3, 4, 5, 6, 7], [0, 1, 2, 3, 4, 5, 6, 7, 8], [0, 1, 2, 3, 4, 5, 6, 7], [0, 1, 2, 3, 4, 5, 6, 7, 10], [0, 1, 2, 3, 4, 5, 6, 7, 8, 9, 10, 11], [0, 1, 2, 3, 4, 5, 6, 7, 8, 9, 10, 11, 12], [0, 1, 2, 3, 4, 5, 6, 7, 8, 9, 10, 11, 12, 13], [0, 1, 2, 3, 4, 5, 6, 7], [0, 1, 2, 3, 4, 5, 6, 7, 15], [0, 1, 2, 3, 4, 5, 6, 7, 8, 9, 10, 11, 12, 13, 14, 15, 16], [0, 1, 2, 3, 4, 5, 6, 7, 8, 9, 10, 11, 12, 13, 14, 15, 16, 17], [0, 1, 2, 3, 4, 5, 6, 7, 8, 9, 10, 11, 12, 13, 14, 15, 16, 17, 18], [0, 1, 2, 3, 4, 5, 6, 7, 8, 9, 10, 11, 12, 13, 14, 15, 16, 17, 18, 19], [0, 1, 2, 3, 4, 5, 6, 7, 8, 9, 10, 11, 12, 13, 14, 15, 16, 17, 18, 19, 20], [0, 1, 2, 3, 4, 5, 6, 7, 8, 9, 10, 11, 12, 13, 14, 15, 16, 17, 18, 19, 20, 21], [0, 1, 2, 3, 4, 5, 6, 7, 8, 9, 10, 11, 12, 13, 14, 15, 16, 17, 18, 19, 20, 21, 22], [0, 1, 2, 3, 4, 5, 6, 7, 8, 9, 10, 11, 12, 13, 14, 15, 16, 17, 18, 19, 20, 21, 22, 23], [0, 1, 2, 3, 4, 5, 6, 7, 8, 9, 10, 11, 12, 13, 14, 15, 16, 17, 18, 19, 20, 21, 22, 23, 24], [0, 1, 2, 3, 4, 5, 6, 7, 8, 9, 10, 11, 12, 13, 14, 15, 16, 17, 18, 19, 20, 21, 22, 23, 24, 25], [0, 1, 2, 3, 4, 5, 6, 7, 8, 9, 10, 11, 12, 13, 14, 15, 16, 17, 18, 19, 20, 21, 22, 23, 24, 25, 26], [0, 1, 2, 3, 4, 5, 6, 7, 8, 9, 10, 11, 12, 13, 14, 15, 16, 17, 18, 19, 20, 21, 22, 23, 24, 25, 26, 27], [0, 1, 2, 3, 4, 5, 6, 7, 8, 9, 10, 11, 12, 13, 14, 15, 16, 17, 18, 19, 20, 21, 22, 23, 24, 25, 26, 27, 28], [0, 1, 2, 3, 4, 5, 6, 7, 8, 9, 10, 11, 12, 13, 14, 15, 16, 17, 18, 19, 20, 21, 22, 23, 24, 25, 26, 27, 28, 29], [0, 1, 2, 3, 4, 5, 6, 7, 8, 9, 10, 11, 12, 13, 14, 15, 16, 17, 18, 19, 20, 21, 22, 23, 24, 25, 26, 27, 28, 29, 30], [0, 1, 2, 3, 4, 5, 6, 7, 8, 9, 10, 11, 12, 13, 14, 15, 16, 17, 18, 19, 20, 21, 22, 23, 24, 25, 26, 27, 28, 29, 30, 31], [0, 1, 2, 3, 4, 5, 6, 7, 8, 9, 10, 11, 12, 13, 14, 15, 16, 17, 18, 19, 20, 21, 22, 23, 24, 25, 26, 27, 28, 29, 30, 31, 32], [0, 1, 2, 3, 4, 5, 6, 7, 8, 9, 10, 11, 12, 13, 14, 15, 16, 17, 18, 19, 20, 21, 22, 23, 24, 25, 26, 27, 28, 29, 30, 31, 32, 33], [0, 1, 2, 3, 4, 5, 6, 7, 8, 9, 10, 11, 12, 13, 14, 15, 16, 17, 18, 19, 20, 21, 22, 23, 24, 25, 26, 27, 28, 29, 30, 31, 32], [0, 1, 2, 3, 4, 5, 6, 7, 8, 9, 10, 11, 12, 13, 14, 15, 16, 17, 18, 19, 20, 21, 22, 23, 24, 25, 26, 27, 28, 29, 30, 31, 32, 35], [0, 1, 2, 3, 4, 5, 6, 7, 8, 9, 10, 11, 12, 13, 14, 15, 16, 17, 18, 19, 20, 21, 22, 23, 24, 25, 26, 27, 28, 29, 30, 31, 32, 33, 34, 35, 36], [0, 1, 2, 3, 4, 5, 6, 7, 8, 9, 10, 11, 12, 13, 14, 15, 16, 17, 18, 19, 20, 21, 22, 23, 24, 25, 26, 27, 28, 29, 30, 31, 32, 33, 34, 35, 36, 37], [0, 1, 2, 3, 4, 5, 6, 7, 8, 9, 10, 11, 12, 13, 14, 15, 16, 17, 18, 19, 20, 21, 22, 23, 24, 25, 26, 27, 28, 29, 30, 31, 32, 33, 34, 35, 36, 37, 38]] 37 ?_ ?_; (· kernel_rfl); (· kernel_rfl); refine st_by ff ?_))
      first
      | (refine cq_call (implGoodName_does x_0.Name (by first | assumption | omega)) (hf_by ff) kr ⟨p_spec_GoodStore_sa ff trivial, ?_⟩; clear ff)
      | (refine cq_dcall (implGoodName_does x_0.Name (by first | assumption | omega)) (hf_by ff) kr ⟨p_spec_GoodStore_sa ff trivial, ?_⟩; clear ff)
      have ff := ai @dr_0 (ai @w_0 (ai @g0_0 (ai @g1_0 (ai @g2_0 (ai @g3_0 (ai @g4_0 (ai @g5_0 (ai @kk0c p_impl_GoodStore_tf.down))))))))
      try refine st_by ff ?_
      repeat' (first | exact trivial | refine And.intro sd ?_)
      try clear ff
      generalize hk_0 : thenK _ _ = kk_0
      have key_0 : ∀ σ, (∃ b_46 : Bool, (p_impl_GoodStore_j0 s_a0 all_22 x_0 i_0 (p_impl_GoodStore_l0 s_a0 r_0) b_46 = some q_0) ∧ σ.t 1 = .ptr 1 [] 0 ∧ σ.t 3 = I all_22 ∧ σ.t 4 = I (i_0 : Int) ∧ σ.t 5 = .ptr 5 [] 0 ∧ σ.t 7 = .row false 4 s_a0.In.length (esResident s_a0.In) ∧ σ.t 8 = I (s_a0.In.length : Int) ∧ σ.t 9 = I (i_0 : Int) ∧ σ.t 53 = B b_46 ∧ σ.m 1 = some (.box true [I s_a0.Budget, I s_a0.Clock, .row false 4 s_a0.In.length (esResident s_a0.In)]) ∧ σ.m 5 = some (.box true [S x_0.Name, I x_0.Size, I x_0.Held, I x_0.Used])) → kk_0 .nm σ := by
        rintro σ ⟨b_46, h_0, g0_j0, g1_j0, g2_j0, g3_j0, g4_j0, g5_j0, g6_j0, g7_j0, g8_j0, g9_j0⟩
        rw [← hk_0]
        rw [p_impl_GoodStore_j0] at h_0
        by_cases c47 : b_46 = true
        · rw [if_pos c47] at h_0
          have dc47 := c47
          cases h_0
          try dsimp only at h
          have ff := ai @dr_0 (ai @w_0 (ai @kk0c (ai @g0_j0 (ai @g1_j0 (ai @g2_j0 (ai @g3_j0 (ai @g4_j0 (ai @g5_j0 (ai @g6_j0 (ai @g7_j0 (ai @g8_j0 (ai @g9_j0 (ai @dc47 p_impl_GoodStore_tf.down)))))))))))))
          try refine st_by ff ?_
          repeat' (first | exact trivial | refine And.intro sd ?_)
          cases h
          exact ret_q1 rfl (p_spec_l21Sizes_rt ff trivial)
        rw [if_neg c47] at h_0
        have dc47 := eq_false_of_ne_true c47
        have ff := ai @dr_0 (ai @w_0 (ai @kk0c (ai @g0_j0 (ai @g1_j0 (ai @g2_j0 (ai @g3_j0 (ai @g4_j0 (ai @g5_j0 (ai @g6_j0 (ai @g7_j0 (ai @g8_j0 (ai @g9_j0 (ai @dc47 p_impl_GoodStore_tf.down)))))))))))))
        try refine st_by ff ?_
        repeat' (first | exact trivial | refine And.intro sd ?_)
        try clear ff
        generalize hk_1 : thenK _ _ = kk_1
        have key_1 : ∀ σ, (∃ b_48 : Bool, (p_impl_GoodStore_j1 all_22 x_0 i_0 (p_impl_GoodStore_l0 s_a0 r_0) b_48 = some q_0) ∧ σ.t 1 = .ptr 1 [] 0 ∧ σ.t 3 = I all_22 ∧ σ.t 5 = .ptr 5 [] 0 ∧ σ.t 7 = .row false 4 s_a0.In.length (esResident s_a0.In) ∧ σ.t 8 = I (s_a0.In.length : Int) ∧ σ.t 9 = I (i_0 : Int) ∧ σ.t 64 = B b_48 ∧ σ.m 1 = some (.box true [I s_a0.Budget, I s_a0.Clock, .row false 4 s_a0.In.length (esResident s_a0.In)]) ∧ σ.m 5 = some (.box true [S x_0.Name, I x_0.Size, I x_0.Held, I x_0.Used])) → kk_1 .nm σ := by
          rintro σ ⟨b_48, h_0, g0_j1, g1_j1, g2_j1, g3_j1, g4_j1, g5_j1, g6_j1, g7_j1, g8_j1⟩
          rw [← hk_1]
          rw [p_impl_GoodStore_j1] at h_0
          by_cases c49 : b_48 = true
          · rw [if_pos c49] at h_0
            have dc49 := c49
            cases h_0
            try dsimp only at h
            have ff := ai @dr_0 (ai @w_0 (ai @kk0c (ai @dc47 (ai @g0_j1 (ai @g1_j1 (ai @g2_j1 (ai @g3_j1 (ai @g4_j1 (ai @g5_j1 (ai @g6_j1 (ai @g7_j1 (ai @g8_j1 (ai @dc49 p_impl_GoodStore_tf.down)))))))))))))
            try refine st_by ff ?_
            repeat' (first | exact trivial | refine And.intro sd ?_)
            cases h
            exact ret_q1 rfl (p_spec_l21Sizes_rt ff trivial)
          rw [if_neg c49] at h_0
          have dc49 := eq_false_of_ne_true c49
          have ff := ai @dr_0 (ai @w_0 (ai @kk0c (ai @dc47 (ai @g0_j1 (ai @g1_j1 (ai @g2_j1 (ai @g3_j1 (ai @g4_j1 (ai @g5_j1 (ai @g6_j1 (ai @g7_j1 (ai @g8_j1 (ai @dc49 p_impl_GoodStore_tf.down)))))))))))))
          try refine st_by ff ?_
          repeat' (first | exact trivial | refine And.intro sd ?_)
          refine Back.intro (i_0 + 1, (IntKind.i64.wrap (all_22 + x_0.Size))) ?_ ?_
          · clear ff; rw [hM_0]; show s_a0.In.length - (i_0 + 1) < s_a0.In.length - i_0; omega
          rw [hI_0]
          refine ⟨⟨by clear ff; show i_0 + 1 ≤ s_a0.In.length; omega, by show p_impl_GoodStore_l0 s_a0 (s_a0.In.drop (i_0 + 1)) (i_0 + 1) (IntKind.i64.wrap (all_22 + x_0.Size)) = some q_0; rw [hd_0]; exact h_0⟩, ?_⟩
          exact p_spec_l21Sizes_pv ff trivial
        have hrt_1 := fun σ : ASt => congrFun (congrFun hk_1.symm AX.rt) σ
        have hex_1 := fun (i : Nat) (σ : ASt) => congrFun (congrFun hk_1.symm (AX.ex i)) σ
        by_cases c50 : x_0.Used > 0
        case neg =>
         rw [if_neg c50] at h_0
         have dc50 := decide_eq_false c50
         have ff := ai @dr_0 (ai @w_0 (ai @kk0c (ai @g0_j0 (ai @g1_j0 (ai @g2_j0 (ai @g3_j0 (ai @g4_j0 (ai @g5_j0 (ai @g6_j0 (ai @g7_j0 (ai @g8_j0 (ai @g9_j0 (ai @dc47 (ai @hrt_1 (ai @hex_1 (ai @dc50 p_impl_GoodStore_tf.down))))))))))))))))
         try refine st_by ff ?_
         repeat' (first | exact trivial | refine And.intro sd ?_)
         refine key_1 _ ?_
         refine ⟨false, h_0, ?_⟩
         exact p_spec_l21Sizes_pv ff trivial
        rw [if_pos c50] at h_0
        have dc50 := decide_eq_true c50
        obtain ⟨m51, em51, h_0⟩ := Option.bind_eq_some_iff.1 h_0
        try dsimp only at h_0
        obtain ⟨f52a, f52b⟩ := slc_ok em51
        have f52c : (esResident s_a0.In).take (i_0 * 4) = esResident m51 := slc_encL (enc := eResident) (fun _ => rfl) em51
        have f52d : m51.length = i_0 := (slc_lenL em51).symm
        obtain ⟨v53, ev53, h_0⟩ := Option.bind_eq_some_iff.1 h_0
        try dsimp only at h_0
        have ff := ai @dr_0 (ai @w_0 (ai @kk0c (ai @g0_j0 (ai @g1_j0 (ai @g2_j0 (ai @g3_j0 (ai @g4_j0 (ai @g5_j0 (ai @g6_j0 (ai @g7_j0 (ai @g8_j0 (ai @g9_j0 (ai @dc47 (ai @hrt_1 (ai @hex_1 (ai @dc50 (ai @f52c p_impl_GoodStore_tf.down)))))))))))))))))
        try refine st_by ff ?_
        repeat' (first | exact trivial | refine And.intro sd ?_)
        first
        | (refine cq_lend (p_slices_ContainsFunc_impl_Resident_impl_Resident_does m51 83 [.box false (eResident x_0)] (by simp [AV.noRefs, AV.noRef]) kr (fun x0_ => p_impl_GoodStore_1 x0_ x_0) (fun x0_ y_ h_ => p_impl_GoodStore_1_does x0_ x_0 y_ h_) v53 ev53) (hf_by ff) kr ⟨p_spec_GoodStore_sa ff @f52d, ?_⟩; clear ff)
        | (refine cq_dlend (p_slices_ContainsFunc_impl_Resident_impl_Resident_does m51 83 [.box false (eResident x_0)] (by simp [AV.noRefs, AV.noRef]) kr (fun x0_ => p_impl_GoodStore_1 x0_ x_0) (fun x0_ y_ h_ => p_impl_GoodStore_1_does x0_ x_0 y_ h_) v53 ev53) (hf_by ff) kr ⟨p_spec_GoodStore_sa ff @f52d, ?_⟩; clear ff)
        have ff := ai @dr_0 (ai @w_0 (ai @kk0c (ai @g0_j0 (ai @g1_j0 (ai @g2_j0 (ai @g3_j0 (ai @g4_j0 (ai @g5_j0 (ai @g6_j0 (ai @g7_j0 (ai @g8_j0 (ai @g9_j0 (ai @dc47 (ai @hrt_1 (ai @hex_1 (ai @dc50 (ai @f52c p_impl_GoodStore_tf.down)))))))))))))))))
        try refine st_by ff ?_
        repeat' (first | exact trivial | refine And.intro sd ?_)
        refine key_1 _ ?_
        refine ⟨v53, h_0, ?_⟩
        exact p_spec_l21Sizes_pv ff @f52d
      have hrt_0 := fun σ : ASt => congrFun (congrFun hk_0.symm AX.rt) σ
      have hex_0 := fun (i : Nat) (σ : ASt) => congrFun (congrFun hk_0.symm (AX.ex i)) σ
      by_cases c54 : (goodName x_0.Name) = true
      case neg =>
       rw [if_neg c54] at h_0
       have dc54 := eq_false_of_ne_true c54
       have ff := ai @dr_0 (ai @w_0 (ai @g0_0 (ai @g1_0 (ai @g2_0 (ai @g3_0 (ai @g4_0 (ai @g5_0 (ai @kk0c (ai @hrt_0 (ai @hex_0 (ai @dc54 p_impl_GoodStore_tf.down)))))))))))
       try refine st_by ff ?_
       repeat' (first | exact trivial | refine And.intro sd ?_)
       refine key_0 _ ?_
       refine ⟨true, h_0, ?_⟩
       exact p_spec_l21Sizes_pv ff trivial
      rw [if_pos c54] at h_0
      have dc54 := c54
      by_cases c55 : (i_0 : Int) > 0
      case neg =>
       rw [if_neg c55] at h_0
       have dc55 := decide_eq_false c55
       have ff := ai @dr_0 (ai @w_0 (ai @g0_0 (ai @g1_0 (ai @g2_0 (ai @g3_0 (ai @g4_0 (ai @g5_0 (ai @kk0c (ai @hrt_0 (ai @hex_0 (ai @dc54 (ai @dc55 p_impl_GoodStore_tf.down))))))))))))
       try refine st_by ff ?_
       repeat' (first | exact trivial | refine And.intro sd ?_)
       first
       | (refine cq_call (inRange_does x_0.Size 1 100000) (hf_by ff) kr ⟨p_spec_GoodStore_sa ff trivial, ?_⟩; clear ff)
       | (refine cq_dcall (inRange_does x_0.Size 1 100000) (hf_by ff) kr ⟨p_spec_GoodStore_sa ff trivial, ?_⟩; clear ff)
       by_cases c61 : (rng x_0.Size 1 100000) = true
       case neg =>
        rw [if_neg c61] at h_0
        have dc61 := eq_false_of_ne_true c61
        have ff := ai @dr_0 (ai @w_0 (ai @g0_0 (ai @g1_0 (ai @g2_0 (ai @g3_0 (ai @g4_0 (ai @g5_0 (ai @kk0c (ai @hrt_0 (ai @hex_0 (ai @dc54 (ai @dc55 (ai @dc61 p_impl_GoodStore_tf.down)))))))))))))
        try refine st_by ff ?_
        repeat' (first | exact trivial | refine And.intro sd ?_)
        refine key_0 _ ?_
        refine ⟨true, h_0, ?_⟩
        exact p_spec_l21Sizes_pv ff trivial
       rw [if_pos c61] at h_0
       have dc61 := c61
       have ff := ai @dr_0 (ai @w_0 (ai @g0_0 (ai @g1_0 (ai @g2_0 (ai @g3_0 (ai @g4_0 (ai @g5_0 (ai @kk0c (ai @hrt_0 (ai @hex_0 (ai @dc54 (ai @dc55 (ai @dc61 p_impl_GoodStore_tf.down)))))))))))))
       try refine st_by ff ?_
       repeat' (first | exact trivial | refine And.intro sd ?_)
       first
       | (refine cq_call (inRange_does x_0.Held 0 1000) (hf_by ff) kr ⟨p_spec_GoodStore_sa ff trivial, ?_⟩; clear ff)
       | (refine cq_dcall (inRange_does x_0.Held 0 1000) (hf_by ff) kr ⟨p_spec_GoodStore_sa ff trivial, ?_⟩; clear ff)
       by_cases c62 : (rng x_0.Held 0 1000) = true
       case neg =>
        rw [if_neg c62] at h_0
        have dc62 := eq_false_of_ne_true c62
        have ff := ai @dr_0 (ai @w_0 (ai @g0_0 (ai @g1_0 (ai @g2_0 (ai @g3_0 (ai @g4_0 (ai @g5_0 (ai @kk0c (ai @hrt_0 (ai @hex_0 (ai @dc54 (ai @dc55 (ai @dc61 (ai @dc62 p_impl_GoodStore_tf.down))))))))))))))
        try refine st_by ff ?_
        repeat' (first | exact trivial | refine And.intro sd ?_)
        refine key_0 _ ?_
        refine ⟨true, h_0, ?_⟩
        exact p_spec_l21Sizes_pv ff trivial
       rw [if_pos c62] at h_0
       have dc62 := c62
       have ff := ai @dr_0 (ai @w_0 (ai @g0_0 (ai @g1_0 (ai @g2_0 (ai @g3_0 (ai @g4_0 (ai @g5_0 (ai @kk0c (ai @hrt_0 (ai @hex_0 (ai @dc54 (ai @dc55 (ai @dc61 (ai @dc62 p_impl_GoodStore_tf.down))))))))))))))
       try refine st_by ff ?_
       repeat' (first | exact trivial | refine And.intro sd ?_)
       first
       | (refine cq_call (inRange_does x_0.Used 0 s_a0.Clock) (hf_by ff) kr ⟨p_spec_GoodStore_sa ff trivial, ?_⟩; clear ff)
       | (refine cq_dcall (inRange_does x_0.Used 0 s_a0.Clock) (hf_by ff) kr ⟨p_spec_GoodStore_sa ff trivial, ?_⟩; clear ff)
       have ff := ai @dr_0 (ai @w_0 (ai @g0_0 (ai @g1_0 (ai @g2_0 (ai @g3_0 (ai @g4_0 (ai @g5_0 (ai @kk0c (ai @hrt_0 (ai @hex_0 (ai @dc54 (ai @dc55 (ai @dc61 (ai @dc62 p_impl_GoodStore_tf.down))))))))))))))
       try refine st_by ff ?_
       repeat' (first | exact trivial | refine And.intro sd ?_)
       refine key_0 _ ?_
       refine ⟨!(rng x_0.Used 0 s_a0.Clock), h_0, ?_⟩
       exact p_spec_l21Sizes_pv ff trivial
      rw [if_pos c55] at h_0
      have dc55 := decide_eq_true c55
      obtain ⟨x56, ex56, h_0⟩ := Option.bind_eq_some_iff.1 h_0
      try dsimp only at h_0
      have f57a := idx_lo ex56
      have f57b := idx_hi ex56
      have f57c : (esResident s_a0.In).drop (((IntKind.i64.wrap ((i_0 : Int) - 1)).toNat) * 4) = eResident x56 ++ esResident (s_a0.In.drop ((IntKind.i64.wrap ((i_0 : Int) - 1)).toNat + 1)) := drop_enc (fun _ => rfl) (idx_get ex56)
      by_cases c58 : (Op.bytesLess x56.Name.toList x_0.Name.toList) = true
      case neg =>
       rw [if_neg c58] at h_0
       have dc58 := eq_false_of_ne_true c58
       have ff := ai @dr_0 (ai @w_0 (ai @g0_0 (ai @g1_0 (ai @g2_0 (ai @g3_0 (ai @g4_0 (ai @g5_0 (ai @kk0c (ai @hrt_0 (ai @hex_0 (ai @dc54 (ai @dc55 (ai @f57c (ai @dc58 p_impl_GoodStore_tf.down))))))))))))))
       try refine st_by ff ?_
       repeat' (first | exact trivial | refine And.intro sd ?_)
       refine key_0 _ ?_
       refine ⟨true, h_0, ?_⟩
       exact p_spec_l21Sizes_pv ff trivial
      rw [if_pos c58] at h_0
      have dc58 := c58
      have ff := ai @dr_0 (ai @w_0 (ai @g0_0 (ai @g1_0 (ai @g2_0 (ai @g3_0 (ai @g4_0 (ai @g5_0 (ai @kk0c (ai @hrt_0 (ai @hex_0 (ai @dc54 (ai @dc55 (ai @f57c (ai @dc58 p_impl_GoodStore_tf.down))))))))))))))
      try refine st_by ff ?_
      repeat' (first | exact trivial | refine And.intro sd ?_)
      first
      | (refine cq_call (inRange_does x_0.Size 1 100000) (hf_by ff) kr ⟨p_spec_GoodStore_sa ff trivial, ?_⟩; clear ff)
      | (refine cq_dcall (inRange_does x_0.Size 1 100000) (hf_by ff) kr ⟨p_spec_GoodStore_sa ff trivial, ?_⟩; clear ff)
      by_cases c59 : (rng x_0.Size 1 100000) = true
      case neg =>
       rw [if_neg c59] at h_0
       have dc59 := eq_false_of_ne_true c59
       have ff := ai @dr_0 (ai @w_0 (ai @g0_0 (ai @g1_0 (ai @g2_0 (ai @g3_0 (ai @g4_0 (ai @g5_0 (ai @kk0c (ai @hrt_0 (ai @hex_0 (ai @dc54 (ai @dc55 (ai @f57c (ai @dc58 (ai @dc59 p_impl_GoodStore_tf.down)))))))))))))))
       try refine st_by ff ?_
       repeat' (first | exact trivial | refine And.intro sd ?_)
       refine key_0 _ ?_
       refine ⟨true, h_0, ?_⟩
       exact p_spec_l21Sizes_pv ff trivial
      rw [if_pos c59] at h_0
      have dc59 := c59
      have ff := ai @dr_0 (ai @w_0 (ai @g0_0 (ai @g1_0 (ai @g2_0 (ai @g3_0 (ai @g4_0 (ai @g5_0 (ai @kk0c (ai @hrt_0 (ai @hex_0 (ai @dc54 (ai @dc55 (ai @f57c (ai @dc58 (ai @dc59 p_impl_GoodStore_tf.down)))))))))))))))
      try refine st_by ff ?_
      repeat' (first | exact trivial | refine And.intro sd ?_)
      first
      | (refine cq_call (inRange_does x_0.Held 0 1000) (hf_by ff) kr ⟨p_spec_GoodStore_sa ff trivial, ?_⟩; clear ff)
      | (refine cq_dcall (inRange_does x_0.Held 0 1000) (hf_by ff) kr ⟨p_spec_GoodStore_sa ff trivial, ?_⟩; clear ff)
      by_cases c60 : (rng x_0.Held 0 1000) = true
      case neg =>
       rw [if_neg c60] at h_0
       have dc60 := eq_false_of_ne_true c60
       have ff := ai @dr_0 (ai @w_0 (ai @g0_0 (ai @g1_0 (ai @g2_0 (ai @g3_0 (ai @g4_0 (ai @g5_0 (ai @kk0c (ai @hrt_0 (ai @hex_0 (ai @dc54 (ai @dc55 (ai @f57c (ai @dc58 (ai @dc59 (ai @dc60 p_impl_GoodStore_tf.down))))))))))))))))
       try refine st_by ff ?_
       repeat' (first | exact trivial | refine And.intro sd ?_)
       refine key_0 _ ?_
       refine ⟨true, h_0, ?_⟩
       exact p_spec_l21Sizes_pv ff trivial
      rw [if_pos c60] at h_0
      have dc60 := c60
      have ff := ai @dr_0 (ai @w_0 (ai @g0_0 (ai @g1_0 (ai @g2_0 (ai @g3_0 (ai @g4_0 (ai @g5_0 (ai @kk0c (ai @hrt_0 (ai @hex_0 (ai @dc54 (ai @dc55 (ai @f57c (ai @dc58 (ai @dc59 (ai @dc60 p_impl_GoodStore_tf.down))))))))))))))))
      try refine st_by ff ?_
      repeat' (first | exact trivial | refine And.intro sd ?_)
      first
      | (refine cq_call (inRange_does x_0.Used 0 s_a0.Clock) (hf_by ff) kr ⟨p_spec_GoodStore_sa ff trivial, ?_⟩; clear ff)
      | (refine cq_dcall (inRange_does x_0.Used 0 s_a0.Clock) (hf_by ff) kr ⟨p_spec_GoodStore_sa ff trivial, ?_⟩; clear ff)
      have ff := ai @dr_0 (ai @w_0 (ai @g0_0 (ai @g1_0 (ai @g2_0 (ai @g3_0 (ai @g4_0 (ai @g5_0 (ai @kk0c (ai @hrt_0 (ai @hex_0 (ai @dc54 (ai @dc55 (ai @f57c (ai @dc58 (ai @dc59 (ai @dc60 p_impl_GoodStore_tf.down))))))))))))))))
      try refine st_by ff ?_
      repeat' (first | exact trivial | refine And.intro sd ?_)
      refine key_0 _ ?_
      refine ⟨!(rng x_0.Used 0 s_a0.Clock), h_0, ?_⟩
      exact p_spec_l21Sizes_pv ff trivial
  · try clear ff
    rintro σ hg_0
    rw [hJ_0] at hg_0
    obtain ⟨all_22, hj_0, g0_0a, g1_0a, g2_0a⟩ := hg_0
    cases hj_0
    try dsimp only at h
    have ff := ai @g0_0a (ai @g1_0a (ai @g2_0a p_impl_GoodStore_tf.down))
    try refine st_by ff ?_
    repeat' (first | exact trivial | refine And.intro sd ?_)
    first
    | (refine cq_call (inRange_does s_a0.Budget 1 100000) (hf_by ff) kr ⟨p_spec_GoodStore_sa ff trivial, ?_⟩; clear ff)
    | (refine cq_dcall (inRange_does s_a0.Budget 1 100000) (hf_by ff) kr ⟨p_spec_GoodStore_sa ff trivial, ?_⟩; clear ff)
    by_cases c63 : (rng s_a0.Budget 1 100000) = true
    case neg =>
     rw [if_neg c63] at h
     have dc63 := eq_false_of_ne_true c63
     have ff := ai @g0_0a (ai @g1_0a (ai @g2_0a (ai @dc63 p_impl_GoodStore_tf.down)))
     try refine st_by ff ?_
     repeat' (first | exact trivial | refine And.intro sd ?_)
     cases h
     exact ret_q1 rfl (p_spec_l21Sizes_rt ff trivial)
    rw [if_pos c63] at h
    have dc63 := c63
    have ff := ai @g0_0a (ai @g1_0a (ai @g2_0a (ai @dc63 p_impl_GoodStore_tf.down)))
    try refine st_by ff ?_
    repeat' (first | exact trivial | refine And.intro sd ?_)
    first
    | (refine cq_call (isTime_does s_a0.Clock) (hf_by ff) kr ⟨p_spec_GoodStore_sa ff trivial, ?_⟩; clear ff)
    | (refine cq_dcall (isTime_does s_a0.Clock) (hf_by ff) kr ⟨p_spec_GoodStore_sa ff trivial, ?_⟩; clear ff)
    by_cases c64 : (rng s_a0.Clock 0 100000) = true
    case neg =>
     rw [if_neg c64] at h
     have dc64 := eq_false_of_ne_true c64
     have ff := ai @g0_0a (ai @g1_0a (ai @g2_0a (ai @dc63 (ai @dc64 p_impl_GoodStore_tf.down))))
     try refine st_by ff ?_
     repeat' (first | exact trivial | refine And.intro sd ?_)
     cases h
     exact ret_q1 rfl (p_spec_l21Sizes_rt ff trivial)
    rw [if_pos c64] at h
    have dc64 := c64
    by_cases c65 : (s_a0.In.length : Int) ≤ 30
    case neg =>
     rw [if_neg c65] at h
     have dc65 := decide_eq_false c65
     have ff := ai @g0_0a (ai @g1_0a (ai @g2_0a (ai @dc63 (ai @dc64 (ai @dc65 p_impl_GoodStore_tf.down)))))
     try refine st_by ff ?_
     repeat' (first | exact trivial | refine And.intro sd ?_)
     cases h
     exact ret_q1 rfl (p_spec_l21Sizes_rt ff trivial)
    rw [if_pos c65] at h
    have dc65 := decide_eq_true c65
    have ff := ai @g0_0a (ai @g1_0a (ai @g2_0a (ai @dc63 (ai @dc64 (ai @dc65 p_impl_GoodStore_tf.down)))))
    try refine st_by ff ?_
    repeat' (first | exact trivial | refine And.intro sd ?_)
    cases h
    exact ret_q1 rfl (p_spec_l21Sizes_rt ff trivial)
/-! slices.Clone[[]impl.Resident,impl.Resident] -/
def p_slices_Clone_impl_Resident_impl_Resident_tf := PLift.up (ai @eResident_eq (ai @esResident_len (ai @esResident_nil (ai @esResident_leaf (ai @esResident_fit (ai @esResident_share (ai @esResident_pure (ai @Ty.nze44 (ai @Ty.sl44 (ai @Ty.slz44 (ai @Ty.zok44 (ai @Ty.by44 (ai @Ty.zs44 @trivial)))))))))))))
def p_slices_Clone_impl_Resident_impl_Resident (l : List GResident) : Option (List GResident) := if l.length < 4294967296 then some l else none
theorem p_slices_Clone_impl_Resident_impl_Resident_does (l : List GResident) (r : List GResident) (h : p_slices_Clone_impl_Resident_impl_Resident l = some r) : Does Try.prog 84 [.row false 4 l.length (esResident l)] (.row true 4 r.length (esResident r)) := by
  rw [p_slices_Clone_impl_Resident_impl_Resident] at h
  by_cases c : l.length < 4294967296
  case neg => rw [if_neg c] at h; cases h
  rw [if_pos c] at h
  cases h
  refine Does.walk (nt := 8) Try.func84 rfl rfl (by simp) (by decide) rfl (fun G0 X w0 pv => ?_)
  refine st_by p_slices_Clone_impl_Resident_impl_Resident_tf.down ?_
  refine fun b hb => ?_
  cases b
  · have ff := p_slices_Clone_impl_Resident_impl_Resident_tf.down
    try refine st_by ff ?_
    repeat' (first | exact trivial | refine And.intro sd ?_)
    clear ff
    exact ret_q1 rfl (p_impl_GoodStore_1_rt p_slices_Clone_impl_Resident_impl_Resident_tf.down trivial)
  · have h0 : l = [] := List.eq_nil_of_length_eq_zero (by rcases Nat.eq_zero_or_pos l.length with h | h; exact h; exact absurd (hb h) (by decide))
    subst h0
    have ff := p_slices_Clone_impl_Resident_impl_Resident_tf.down
    try refine st_by ff ?_
    repeat' (first | exact trivial | refine And.intro sd ?_)
    clear ff
    exact ret_q1 rfl (p_impl_GoodStore_1_rt p_slices_Clone_impl_Resident_impl_Resident_tf.down trivial)
/-! (impl.Store).clone -/
def p_impl_Store_clone_tf := PLift.up (ai @eStore_eq (ai @esStore_len (ai @esStore_nil (ai @esStore_leaf (ai @esStore_fit (ai @eStoreo_eq (ai @esStoreo_len (ai @esStoreo_nil (ai @eResident_eq (ai @esResident_len (ai @esResident_nil (ai @esResident_leaf (ai @esResident_fit (ai @esStoreo_share (ai @esStoreo_pure (ai @esResident_share (ai @esResident_pure (ai @str_beq (ai @Ty.nz3 (ai @Ty.ldA3 (ai @Ty.ldS3 (ai @Ty.sz3 (ai @Ty.szn3 (ai @Ty.nz44 (ai @Ty.ldA44 (ai @Ty.ldS44 (ai @Ty.sz44 (ai @Ty.szn44 (ai @Ty.nz46 (ai @Ty.ldA46 (ai @Ty.sz46 (ai @Ty.szn46 (ai @Ty.fo46_0 (ai @Ty.fk46_0 (ai @Ty.fs46_0 (ai @Ty.fn46_0 (ai @Ty.fo46_1 (ai @Ty.fk46_1 (ai @Ty.fs46_1 (ai @Ty.fn46_1 (ai @Ty.fo46_2 (ai @Ty.fk46_2 (ai @Ty.fs46_2 (ai @Ty.fn46_2 (ai @Ty.zv46 (ai @Ty.bd46 (ai @Ty.pl46_0 (ai @Ty.pl46_1 (ai @Ty.pl46_2 (ai @Ty.ag46 @trivial))))))))))))))))))))))))))))))))))))))))))))))))))
def p_impl_Store_clone (s_a0 : GStore) : Option (GStore) := ((p_slices_Clone_impl_Resident_impl_Resident s_a0.In).bind fun v1 => some (⟨s_a0.Budget, s_a0.Clock, v1⟩ : GStore))
theorem p_impl_Store_clone_does (s_a0 : GStore) (r : GStore) (h : p_impl_Store_clone s_a0 = some r) : Does Try.prog 59 [.agg (eStore s_a0)] (.agg (eStoreo r)) := by
  rw [p_impl_Store_clone] at h
  refine Does.bnd (fun hb => ?_)
  have hb2 : s_a0.In.length ≤ 9223372036854775807 := by simpa [AV.fitNs, AV.fitN, eStore] using hb
  have hl0 := hb2
  refine Does.walk (nt := 11) Try.func59 rfl rfl (by simp) (by decide) rfl (fun G0 X w0 pv => ?_)
  obtain ⟨v1, ev1, h⟩ := Option.bind_eq_some_iff.1 h
  try dsimp only at h
  have ff := p_impl_Store_clone_tf.down
  try refine st_by ff ?_
  repeat' (first | exact trivial | refine And.intro sd ?_ | (refine aw_drawn (id := 1) ?_ [[], [0], [], [2], [], [4], [4, 5], [0, 1, 2, 3, 4, 5, 6], [0, 1, 2, 3, 4, 5, 6, 7]] 7 ?_ ?_; (· kernel_rfl); (· kernel_rfl); refine st_by ff ?_))
  first
  | (refine cq_own (p_slices_Clone_impl_Resident_impl_Resident_does s_a0.In v1 ev1) (hf_by ff) kr ⟨p_spec_GoodStore_sa ff trivial, ?_⟩; clear ff)
  | (refine cq_down (p_slices_Clone_impl_Resident_impl_Resident_does s_a0.In v1 ev1) (hf_by ff) kr ⟨p_spec_GoodStore_sa ff trivial, ?_⟩; clear ff)
  have ff := p_impl_Store_clone_tf.down
  try refine st_by ff ?_
  repeat' (first | exact trivial | refine And.intro sd ?_)
  cases h
  exact ret_q1 rfl (p_spec_l21Sizes_rt ff trivial)
/-! slices.BinarySearchFunc[[]impl.Resident,impl.Resident,string] -/
def p_slices_BinarySearchFunc_impl_Resident_impl_Resident_string_l0 (x_a0 : List GResident) (target_a1 : ByteArray) (cmp_a2 : GResident → ByteArray → Option Int) : Nat → Int → Int → Option (Int × Int)
  | 0, _, _ => none
  | n_0 + 1, i_6, j_7 => (if i_6 < j_7 then ((idx x_a0 (IntKind.i64.wrap (Int.fdiv (IntKind.u64.wrap (IntKind.i64.wrap (i_6 + j_7))) (2 ^ (min (1 : Int).toNat IntKind.u64.bits))))).bind fun x14 => ((cmp_a2 x14 target_a1).bind fun v16 => (if v16 < 0 then p_slices_BinarySearchFunc_impl_Resident_impl_Resident_string_l0 x_a0 target_a1 cmp_a2 n_0 (IntKind.i64.wrap ((IntKind.i64.wrap (Int.fdiv (IntKind.u64.wrap (IntKind.i64.wrap (i_6 + j_7))) (2 ^ (min (1 : Int).toNat IntKind.u64.bits)))) + 1)) j_7 else p_slices_BinarySearchFunc_impl_Resident_impl_Resident_string_l0 x_a0 target_a1 cmp_a2 n_0 i_6 (IntKind.i64.wrap (Int.fdiv (IntKind.u64.wrap (IntKind.i64.wrap (i_6 + j_7))) (2 ^ (min (1 : Int).toNat IntKind.u64.bits))))))) else some (i_6, j_7))
theorem p_slices_BinarySearchFunc_impl_Resident_impl_Resident_string_pv {F C A : Prop} (hF : F) (hC : C) (h : F → C → A := by intro hF hC; first | exact cl_by hF | (refine st_by hF ?_; (repeat' (first | exact trivial | apply And.intro)); all_goals (clear hF; first | rfl | (simp only [hC, List.length_append, List.length_cons, List.length_nil, List.append_nil, List.nil_append, List.cons_append, List.length_set, List.append_assoc, Nat.zero_add, List.length_replicate, esResident_app, esResident_cons, esResident_nil, eResident_eq]; done) | (simp [hC, List.length_append, List.length_cons, List.length_nil, List.append_nil, List.nil_append, List.cons_append, List.length_set, List.append_assoc, Nat.zero_add, List.length_replicate, esResident_app, esResident_cons, esResident_nil, eResident_eq]; done) | omega))) : A := h hF hC
def p_slices_BinarySearchFunc_impl_Resident_impl_Resident_string_tf := PLift.up (ai @eResident_eq (ai @esResident_len (ai @esResident_nil (ai @esResident_leaf (ai @esResident_fit (ai @esResident_share (ai @esResident_pure (ai @str_beq (ai @Ty.sl44 (ai @Ty.slz44 (ai @Ty.nz87 (ai @Ty.ldA87 (ai @Ty.sz87 (ai @Ty.szn87 (ai @Ty.int3 (ai @Ty.int98 @trivial))))))))))))))))
def p_slices_BinarySearchFunc_impl_Resident_impl_Resident_string (N : Nat) (x_a0 : List GResident) (target_a1 : ByteArray) (cmp_a2 : GResident → ByteArray → Option Int) : Option (Int × Bool) := ((p_slices_BinarySearchFunc_impl_Resident_impl_Resident_string_l0 x_a0 target_a1 cmp_a2 N 0 (x_a0.length : Int)).bind fun q_0 => match q_0 with | (i_6, j_7) => (if i_6 < (x_a0.length : Int) then ((idx x_a0 i_6).bind fun x19 => ((cmp_a2 x19 target_a1).bind fun v21 => some (i_6, (v21 == 0)))) else some (i_6, false)))
theorem p_slices_BinarySearchFunc_impl_Resident_impl_Resident_string_does (N : Nat) (x_a0 : List GResident) (target_a1 : ByteArray) (f2 : FuncId) (caps2 : List AV) (hc2 : AV.noRefs caps2 = true) (he2 : entB Try.prog f2 = true) (cmp_a2 : GResident → ByteArray → Option Int) (hp2 : ∀ (x0_ : GResident) (x1_ : ByteArray) (y_ : Int), cmp_a2 x0_ x1_ = some y_ → Does Try.prog f2 ([.agg (eResident x0_), S x1_] ++ caps2) (I y_)) (r : Int × Bool) (h : p_slices_BinarySearchFunc_impl_Resident_impl_Resident_string N x_a0 target_a1 cmp_a2 = some r) : Does Try.prog 85 [.row false 4 x_a0.length (esResident x_a0), S target_a1, .fn f2 caps2] (.tup [I r.1, B r.2]) := by
  rw [p_slices_BinarySearchFunc_impl_Resident_impl_Resident_string] at h
  refine Does.bnd (fun hb => ?_)
  have hb2 : x_a0.length ≤ 9223372036854775807 := by simpa [AV.fitNs, AV.fitN] using hb
  have hl0 := hb2
  refine Does.walk (nt := 49) Try.func85 rfl rfl (by simp) (by decide) (by simp [AV.noRefs, AV.noRef, hc2]) (fun G0 X w0 pv => ?_)
  obtain ⟨q_0, eq_0, h⟩ := Option.bind_eq_some_iff.1 h
  have ff := ai @hc2 p_slices_BinarySearchFunc_impl_Resident_impl_Resident_string_tf.down
  try refine st_by ff ?_
  repeat' (first | exact trivial | refine And.intro sd ?_)
  obtain ⟨I_0, hI_0⟩ : ∃ I_ : (Nat × Int × Int) → ASt → Prop, I_ = (fun (a : Nat × Int × Int) σ => match a with | (n_0, i_6, j_7) => (p_slices_BinarySearchFunc_impl_Resident_impl_Resident_string_l0 x_a0 target_a1 cmp_a2 n_0 i_6 j_7 = some q_0) ∧ σ.t 0 = .row false 4 x_a0.length (esResident x_a0) ∧ σ.t 1 = S target_a1 ∧ σ.t 2 = .fn f2 caps2 ∧ σ.t 8 = I (x_a0.length : Int) ∧ σ.t 9 = I i_6 ∧ σ.t 10 = I j_7) := ⟨_, rfl⟩
  obtain ⟨M_0, hM_0⟩ : ∃ M_ : (Nat × Int × Int) → Nat, M_ = (fun (a : Nat × Int × Int) => match a with | (n_0, i_6, j_7) => n_0) := ⟨_, rfl⟩
  obtain ⟨J_0, hJ_0⟩ : ∃ J_ : ASt → Prop, J_ = (fun σ => ∃ i_6 : Int, ∃ j_7 : Int, (some (i_6, j_7) = some q_0) ∧ σ.t 0 = .row false 4 x_a0.length (esResident x_a0) ∧ σ.t 1 = S target_a1 ∧ σ.t 2 = .fn f2 caps2 ∧ σ.t 8 = I (x_a0.length : Int) ∧ σ.t 9 = I i_6) := ⟨_, rfl⟩
  refine aw_loopC (id := 0) I_0 M_0 J_0 (N, 0, (x_a0.length : Int)) ?_ ?_ ?_
  · rw [hI_0]
    refine ⟨eq_0, ?_⟩
    exact p_slices_BinarySearchFunc_impl_Resident_impl_Resident_string_pv ff trivial
  · try clear ff
    rintro ⟨n_0, i_6, j_7⟩ σ hg_0
    rw [hI_0] at hg_0
    obtain ⟨h_0, g0_0, g1_0, g2_0, g3_0, g4_0, g5_0⟩ := hg_0
    cases n_0 with
    | zero => rw [p_slices_BinarySearchFunc_impl_Resident_impl_Resident_string_l0] at h_0; cases h_0
    | succ n_0 =>
      rw [p_slices_BinarySearchFunc_impl_Resident_impl_Resident_string_l0] at h_0
      by_cases c13 : i_6 < j_7
      case neg =>
       rw [if_neg c13] at h_0
       have dc13 := decide_eq_false c13
       have ff := ai @hc2 (ai @g0_0 (ai @g1_0 (ai @g2_0 (ai @g3_0 (ai @g4_0 (ai @g5_0 (ai @dc13 p_slices_BinarySearchFunc_impl_Resident_impl_Resident_string_tf.down)))))))
       try refine st_by ff ?_
       repeat' (first | exact trivial | refine And.intro sd ?_)
       refine JW.intro ?_
       rw [hJ_0]
       refine ⟨i_6, j_7, h_0, ?_⟩
       exact p_slices_BinarySearchFunc_impl_Resident_impl_Resident_string_pv ff trivial
      rw [if_pos c13] at h_0
      have dc13 := decide_eq_true c13
      obtain ⟨x14, ex14, h_0⟩ := Option.bind_eq_some_iff.1 h_0
      try dsimp only at h_0
      have f15a := idx_lo ex14
      have f15b := idx_hi ex14
      have f15c : (esResident x_a0).drop (((IntKind.i64.wrap (Int.fdiv (IntKind.u64.wrap (IntKind.i64.wrap (i_6 + j_7))) (2 ^ (min (1 : Int).toNat IntKind.u64.bits)))).toNat) * 4) = eResident x14 ++ esResident (x_a0.drop ((IntKind.i64.wrap (Int.fdiv (IntKind.u64.wrap (IntKind.i64.wrap (i_6 + j_7))) (2 ^ (min (1 : Int).toNat IntKind.u64.bits)))).toNat + 1)) := drop_enc (fun _ => rfl) (idx_get ex14)
      obtain ⟨v16, ev16, h_0⟩ := Option.bind_eq_some_iff.1 h_0
      try dsimp only at h_0
      have ff := ai @hc2 (ai @g0_0 (ai @g1_0 (ai @g2_0 (ai @g3_0 (ai @g4_0 (ai @g5_0 (ai @dc13 (ai @f15c p_slices_BinarySearchFunc_impl_Resident_impl_Resident_string_tf.down))))))))
      try refine st_by ff ?_
      repeat' (first | exact trivial | refine And.intro sd ?_)
      first
      | (refine cq_call (hp2 x14 target_a1 v16 ev16) (hf_by ff) he2 ⟨p_slices_ContainsFunc_impl_Resident_impl_Resident_sa ff trivial, ?_⟩; clear ff)
      by_cases c17 : v16 < 0
      case neg =>
       rw [if_neg c17] at h_0
       have dc17 := decide_eq_false c17
       have ff := ai @hc2 (ai @g0_0 (ai @g1_0 (ai @g2_0 (ai @g3_0 (ai @g4_0 (ai @g5_0 (ai @dc13 (ai @f15c (ai @dc17 p_slices_BinarySearchFunc_impl_Resident_impl_Resident_string_tf.down)))))))))
       try refine st_by ff ?_
       repeat' (first | exact trivial | refine And.intro sd ?_)
       refine Back.intro (n_0, i_6, (IntKind.i64.wrap (Int.fdiv (IntKind.u64.wrap (IntKind.i64.wrap (i_6 + j_7))) (2 ^ (min (1 : Int).toNat IntKind.u64.bits))))) ?_ ?_
       · rw [hM_0]; exact Nat.lt_succ_self _
       rw [hI_0]
       refine ⟨h_0, ?_⟩
       exact p_slices_BinarySearchFunc_impl_Resident_impl_Resident_string_pv ff trivial
      rw [if_pos c17] at h_0
      have dc17 := decide_eq_true c17
      have ff := ai @hc2 (ai @g0_0 (ai @g1_0 (ai @g2_0 (ai @g3_0 (ai @g4_0 (ai @g5_0 (ai @dc13 (ai @f15c (ai @dc17 p_slices_BinarySearchFunc_impl_Resident_impl_Resident_string_tf.down)))))))))
      try refine st_by ff ?_
      repeat' (first | exact trivial | refine And.intro sd ?_)
      refine Back.intro (n_0, (IntKind.i64.wrap ((IntKind.i64.wrap (Int.fdiv (IntKind.u64.wrap (IntKind.i64.wrap (i_6 + j_7))) (2 ^ (min (1 : Int).toNat IntKind.u64.bits)))) + 1)), j_7) ?_ ?_
      · rw [hM_0]; exact Nat.lt_succ_self _
      rw [hI_0]
      refine ⟨h_0, ?_⟩
      exact p_slices_BinarySearchFunc_impl_Resident_impl_Resident_string_pv ff trivial
  · try clear ff
    rintro σ hg_0
    rw [hJ_0] at hg_0
    obtain ⟨i_6, j_7, hj_0, g0_0a, g1_0a, g2_0a, g3_0a, g4_0a⟩ := hg_0
    cases hj_0
    try dsimp only at h
    by_cases c18 : i_6 < (x_a0.length : Int)
    case neg =>
     rw [if_neg c18] at h
     have dc18 := decide_eq_false c18
     have ff := ai @hc2 (ai @g0_0a (ai @g1_0a (ai @g2_0a (ai @g3_0a (ai @g4_0a (ai @dc18 p_slices_BinarySearchFunc_impl_Resident_impl_Resident_string_tf.down))))))
     try refine st_by ff ?_
     repeat' (first | exact trivial | refine And.intro sd ?_)
     cases h
     exact ret_q2 rfl (p_impl_GoodStore_1_rt ff trivial)
    rw [if_pos c18] at h
    have dc18 := decide_eq_true c18
    obtain ⟨x19, ex19, h⟩ := Option.bind_eq_some_iff.1 h
    try dsimp only at h
    have f20a := idx_lo ex19
    have f20b := idx_hi ex19
    have f20c : (esResident x_a0).drop (i_6.toNat * 4) = eResident x19 ++ esResident (x_a0.drop (i_6.toNat + 1)) := drop_enc (fun _ => rfl) (idx_get ex19)
    obtain ⟨v21, ev21, h⟩ := Option.bind_eq_some_iff.1 h
    try dsimp only at h
    have ff := ai @hc2 (ai @g0_0a (ai @g1_0a (ai @g2_0a (ai @g3_0a (ai @g4_0a (ai @dc18 (ai @f20c p_slices_BinarySearchFunc_impl_Resident_impl_Resident_string_tf.down)))))))
    try refine st_by ff ?_
    repeat' (first | exact trivial | refine And.intro sd ?_)
    first
    | (refine cq_call (hp2 x19 target_a1 v21 ev21) (hf_by ff) he2 ⟨p_slices_ContainsFunc_impl_Resident_impl_Resident_sa ff trivial, ?_⟩; clear ff)
    have ff := ai @hc2 (ai @g0_0a (ai @g1_0a (ai @g2_0a (ai @g3_0a (ai @g4_0a (ai @dc18 (ai @f20c p_slices_BinarySearchFunc_impl_Resident_impl_Resident_string_tf.down)))))))
    try refine st_by ff ?_
    repeat' (first | exact trivial | refine And.intro sd ?_)
    cases h
    exact ret_q2 rfl (p_impl_GoodStore_1_rt ff trivial)
/-! internal/bytealg.CompareString -/
theorem p_internal_bytealg_CompareString_sa {F C A : Prop} (hF : F) (hC : C) (h : F → C → A := by intro hF hC; first | exact ca_by hF | (refine sa_by hF ?_; (repeat' (first | exact trivial | apply And.intro)); all_goals (clear hF; first | rfl | (simp only [hC, List.length_append, List.length_cons, List.length_nil, List.append_nil, List.nil_append, List.cons_append, List.length_set, List.append_assoc, Nat.zero_add, List.length_replicate]; done) | (simp [hC, List.length_append, List.length_cons, List.length_nil, List.append_nil, List.nil_append, List.cons_append, List.length_set, List.append_assoc, Nat.zero_add, List.length_replicate]; done) | omega))) : A := h hF hC
theorem p_internal_bytealg_CompareString_rt {F C A : Prop} (hF : F) (hC : C) (h : F → C → A := by intro hF hC; first | (refine sr_by hF ?_; (repeat' (first | exact trivial | apply And.intro)); all_goals (clear hF; first | rfl | (simp only [hC, List.length_append, List.length_cons, List.length_nil, List.append_nil, List.nil_append, List.cons_append, List.length_set, List.append_assoc, Nat.zero_add, List.length_replicate]; done) | (simp [hC, List.length_append, List.length_cons, List.length_nil, List.append_nil, List.nil_append, List.cons_append, List.length_set, List.append_assoc, Nat.zero_add, List.length_replicate]; done) | omega)) | (first | rfl | (simp only [hC, List.length_append, List.length_cons, List.length_nil, List.append_nil, List.nil_append, List.cons_append, List.length_set, List.append_assoc, Nat.zero_add, List.length_replicate]; done) | (simp [hC, List.length_append, List.length_cons, List.length_nil, List.append_nil, List.nil_append, List.cons_append, List.length_set, List.append_assoc, Nat.zero_add, List.length_replicate]; done) | omega)) : A := h hF hC
def p_internal_bytealg_CompareString_tf := PLift.up (ai @str_beq @trivial)
def p_internal_bytealg_CompareString (a_a0 : ByteArray) (b_a1 : ByteArray) : Option (Int) := some (cmpB a_a0 b_a1)
theorem p_internal_bytealg_CompareString_does (a_a0 : ByteArray) (b_a1 : ByteArray) (r : Int) (h : p_internal_bytealg_CompareString a_a0 b_a1 = some r) : Does Try.prog 75 [S a_a0, S b_a1] (I r) := by
  rw [p_internal_bytealg_CompareString] at h
  refine Does.walk (nt := 8) Try.func75 rfl rfl (by simp) (by decide) rfl (fun G0 X w0 pv => ?_)
  have ff := p_internal_bytealg_CompareString_tf.down
  try refine st_by ff ?_
  repeat' (first | exact trivial | refine And.intro sd ?_)
  (refine cq_ext (ext_cmp Try.func98 (by kernel_rfl) (by kernel_rfl) (by kernel_rfl) (by kernel_rfl) a_a0 b_a1) ⟨p_internal_bytealg_CompareString_sa ff trivial, ?_⟩; clear ff)
  have ff := p_internal_bytealg_CompareString_tf.down
  try refine st_by ff ?_
  repeat' (first | exact trivial | refine And.intro sd ?_)
  cases h
  exact ret_q1 rfl (p_internal_bytealg_CompareString_rt ff trivial)
/-! strings.Compare -/
def p_strings_Compare_tf := PLift.up (ai @str_beq @trivial)
def p_strings_Compare (a_a0 : ByteArray) (b_a1 : ByteArray) : Option (Int) := ((p_internal_bytealg_CompareString a_a0 b_a1).bind fun v1 => some v1)
theorem p_strings_Compare_does (a_a0 : ByteArray) (b_a1 : ByteArray) (r : Int) (h : p_strings_Compare a_a0 b_a1 = some r) : Does Try.prog 44 [S a_a0, S b_a1] (I r) := by
  rw [p_strings_Compare] at h
  refine Does.walk (nt := 8) Try.func44 rfl rfl (by simp) (by decide) rfl (fun G0 X w0 pv => ?_)
  obtain ⟨v1, ev1, h⟩ := Option.bind_eq_some_iff.1 h
  try dsimp only at h
  have ff := p_strings_Compare_tf.down
  try refine st_by ff ?_
  repeat' (first | exact trivial | refine And.intro sd ?_)
  first
  | (refine cq_call (p_internal_bytealg_CompareString_does a_a0 b_a1 v1 ev1) (hf_by ff) kr ⟨p_internal_bytealg_CompareString_sa ff trivial, ?_⟩; clear ff)
  have ff := p_strings_Compare_tf.down
  try refine st_by ff ?_
  repeat' (first | exact trivial | refine And.intro sd ?_)
  cases h
  exact ret_q1 rfl (p_internal_bytealg_CompareString_rt ff trivial)
/-! (impl.Store).place$1 -/
def p_impl_Store_place_1_tf := PLift.up (ai @eResident_eq (ai @esResident_len (ai @esResident_nil (ai @esResident_leaf (ai @esResident_fit (ai @esResident_share (ai @esResident_pure (ai @str_beq (ai @Ty.nz9 (ai @Ty.ldA9 (ai @Ty.ldS9 (ai @Ty.sz9 (ai @Ty.szn9 (ai @Ty.fo87_0 (ai @Ty.fk87_0 (ai @Ty.fs87_0 (ai @Ty.fn87_0 @trivial)))))))))))))))))
def p_impl_Store_place_1 (r_a0 : GResident) (name_a1 : ByteArray) : Option (Int) := ((p_strings_Compare r_a0.Name name_a1).bind fun v1 => some v1)
theorem p_impl_Store_place_1_does (r_a0 : GResident) (name_a1 : ByteArray) (r : Int) (h : p_impl_Store_place_1 r_a0 name_a1 = some r) : Does Try.prog 86 [.agg (eResident r_a0), S name_a1] (I r) := by
  rw [p_impl_Store_place_1] at h
  refine Does.walk (nt := 9) Try.func86 rfl rfl (by simp) (by decide) rfl (fun G0 X w0 pv => ?_)
  obtain ⟨v1, ev1, h⟩ := Option.bind_eq_some_iff.1 h
  try dsimp only at h
  have ff := p_impl_Store_place_1_tf.down
  try refine st_by ff ?_
  repeat' (first | exact trivial | refine And.intro sd ?_)
  first
  | (refine cq_call (p_strings_Compare_does r_a0.Name name_a1 v1 ev1) (hf_by ff) kr ⟨p_slices_ContainsFunc_impl_Resident_impl_Resident_sa ff trivial, ?_⟩; clear ff)
  have ff := p_impl_Store_place_1_tf.down
  try refine st_by ff ?_
  repeat' (first | exact trivial | refine And.intro sd ?_)
  cases h
  exact ret_q1 rfl (p_impl_GoodStore_1_rt ff trivial)
/-! (impl.Store).place -/
def p_impl_Store_place_tf := PLift.up (ai @eStore_eq (ai @esStore_len (ai @esStore_nil (ai @esStore_leaf (ai @esStore_fit (ai @eStoreo_eq (ai @esStoreo_len (ai @esStoreo_nil (ai @eResident_eq (ai @esResident_len (ai @esResident_nil (ai @esResident_leaf (ai @esResident_fit (ai @esStoreo_share (ai @esStoreo_pure (ai @esResident_share (ai @esResident_pure (ai @str_beq (ai @Ty.nz44 (ai @Ty.ldA44 (ai @Ty.ldS44 (ai @Ty.sz44 (ai @Ty.szn44 (ai @Ty.fo46_2 (ai @Ty.fk46_2 (ai @Ty.fs46_2 (ai @Ty.fn46_2 @trivial)))))))))))))))))))))))))))
def p_impl_Store_place (N : Nat) (s_a0 : GStore) (name_a1 : ByteArray) : Option (Int × Bool) := ((p_slices_BinarySearchFunc_impl_Resident_impl_Resident_string N s_a0.In name_a1 (fun x0_ x1_ => p_impl_Store_place_1 x0_ x1_)).bind fun v1 => some (v1.1, v1.2))
theorem p_impl_Store_place_does (N : Nat) (s_a0 : GStore) (name_a1 : ByteArray) (r : Int × Bool) (h : p_impl_Store_place N s_a0 name_a1 = some r) : Does Try.prog 60 [.agg (eStore s_a0), S name_a1] (.tup [I r.1, B r.2]) := by
  rw [p_impl_Store_place] at h
  refine Does.bnd (fun hb => ?_)
  have hb2 : s_a0.In.length ≤ 9223372036854775807 := by simpa [AV.fitNs, AV.fitN, eStore] using hb
  have hl0 := hb2
  refine Does.walk (nt := 12) Try.func60 rfl rfl (by simp) (by decide) rfl (fun G0 X w0 pv => ?_)
  obtain ⟨v1, ev1, h⟩ := Option.bind_eq_some_iff.1 h
  try dsimp only at h
  have ff := p_impl_Store_place_tf.down
  try refine st_by ff ?_
  repeat' (first | exact trivial | refine And.intro sd ?_)
  first
  | (refine cq_call (p_slices_BinarySearchFunc_impl_Resident_impl_Resident_string_does N s_a0.In name_a1 86 [] (by simp [AV.noRefs, AV.noRef]) kr (fun x0_ x1_ => p_impl_Store_place_1 x0_ x1_) (fun x0_ x1_ y_ h_ => p_impl_Store_place_1_does x0_ x1_ y_ h_) v1 ev1) (hf_by ff) kr ⟨p_spec_GoodStore_sa ff trivial, ?_⟩; clear ff)
  have ff := p_impl_Store_place_tf.down
  try refine st_by ff ?_
  repeat' (first | exact trivial | refine And.intro sd ?_)
  cases h
  exact ret_q2 rfl (p_spec_l21Sizes_rt ff trivial)
/-! (impl.Store).heldOnly$1 -/
def p_impl_Store_heldOnly_1_tf := PLift.up (ai @eResident_eq (ai @esResident_len (ai @esResident_nil (ai @esResident_leaf (ai @esResident_fit (ai @esResident_share (ai @esResident_pure (ai @str_beq (ai @Ty.nz3 (ai @Ty.ldA3 (ai @Ty.ldS3 (ai @Ty.sz3 (ai @Ty.szn3 (ai @Ty.fo87_2 (ai @Ty.fk87_2 (ai @Ty.fs87_2 (ai @Ty.fn87_2 @trivial)))))))))))))))))
def p_impl_Store_heldOnly_1 (r_a0 : GResident) : Option (Bool) := some (r_a0.Held == 0)
theorem p_impl_Store_heldOnly_1_does (r_a0 : GResident) (r : Bool) (h : p_impl_Store_heldOnly_1 r_a0 = some r) : Does Try.prog 90 [.agg (eResident r_a0)] (B r) := by
  rw [p_impl_Store_heldOnly_1] at h
  refine Does.walk (nt := 6) Try.func90 rfl rfl (by simp) (by decide) rfl (fun G0 X w0 pv => ?_)
  have ff := p_impl_Store_heldOnly_1_tf.down
  try refine st_by ff ?_
  repeat' (first | exact trivial | refine And.intro sd ?_)
  cases h
  exact ret_q1 rfl (p_impl_GoodStore_1_rt ff trivial)
/-! (impl.Store).heldOnly -/
def p_impl_Store_heldOnly_tf := PLift.up (ai @eStore_eq (ai @esStore_len (ai @esStore_nil (ai @esStore_leaf (ai @esStore_fit (ai @eStoreo_eq (ai @esStoreo_len (ai @esStoreo_nil (ai @eResident_eq (ai @esResident_len (ai @esResident_nil (ai @esResident_leaf (ai @esResident_fit (ai @esStoreo_share (ai @esStoreo_pure (ai @esResident_share (ai @esResident_pure (ai @str_beq (ai @Ty.nz46 (ai @Ty.ldA46 (ai @Ty.sz46 (ai @Ty.szn46 (ai @Ty.nz44 (ai @Ty.ldA44 (ai @Ty.ldS44 (ai @Ty.sz44 (ai @Ty.szn44 (ai @Ty.fo46_2 (ai @Ty.fk46_2 (ai @Ty.fs46_2 (ai @Ty.fn46_2 (ai @Ty.zv46 (ai @Ty.ag46 @trivial)))))))))))))))))))))))))))))))))
def p_impl_Store_heldOnly (N : Nat) (s_a0 : GStore) : Option (GStore) := ((p_impl_Store_clone s_a0).bind fun v1 => ((p_slices_DeleteFunc_impl_Resident_impl_Resident N v1.In (fun x0_ => p_impl_Store_heldOnly_1 x0_)).bind fun v2 => some (⟨v1.Budget, v1.Clock, v2⟩ : GStore)))
theorem p_impl_Store_heldOnly_does (N : Nat) (s_a0 : GStore) (r : GStore) (h : p_impl_Store_heldOnly N s_a0 = some r) : Does Try.prog 62 [.agg (eStore s_a0)] (.agg (eStoreo r)) := by
  rw [p_impl_Store_heldOnly] at h
  refine Does.bnd (fun hb => ?_)
  have hb2 : s_a0.In.length ≤ 9223372036854775807 := by simpa [AV.fitNs, AV.fitN, eStore] using hb
  have hl0 := hb2
  refine Does.walk (nt := 11) Try.func62 rfl rfl (by simp) (by decide) rfl (fun G0 X w0 pv => ?_)
  obtain ⟨v1, ev1, h⟩ := Option.bind_eq_some_iff.1 h
  try dsimp only at h
  have ff := p_impl_Store_heldOnly_tf.down
  try refine st_by ff ?_
  repeat' (first | exact trivial | refine And.intro sd ?_)
  first
  | (refine cq_own (p_impl_Store_clone_does s_a0 v1 ev1) (hf_by ff) kr ⟨p_spec_GoodStore_sa ff trivial, ?_⟩; clear ff)
  obtain ⟨v2, ev2, h⟩ := Option.bind_eq_some_iff.1 h
  try dsimp only at h
  have ff := p_impl_Store_heldOnly_tf.down
  try refine st_by ff ?_
  repeat' (first | exact trivial | refine And.intro sd ?_)
  (refine cq_X [(3, [2])] (p_slices_DeleteFunc_impl_Resident_impl_Resident_does N v1.In 90  (by simp [AV.noRefs, AV.noRef]) kr (fun x0_ => p_impl_Store_heldOnly_1 x0_) (fun x0_ y_ h_ => p_impl_Store_heldOnly_1_does x0_ y_ h_) v2 ev2) (hf_by ff) kr (by first | decide | simp) ⟨p_spec_GoodStore_sa ff trivial, ?_⟩; clear ff)
  have ff := ai @isPre0 (ai @isPre1 (ai @isPre2 p_impl_Store_heldOnly_tf.down))
  try refine st_by ff ?_
  repeat' (first | exact trivial | refine And.intro sd ?_)
  cases h
  exact ret_q1 rfl (p_spec_l21Sizes_rt ff trivial)
/-! (impl.Store).room -/
def p_impl_Store_room_l0 : List GResident → Nat → Int → Option (Int)
  | [], i_0, size_4 => some size_4
  | x_0 :: r_0, i_0, size_4 => p_impl_Store_room_l0 r_0 (i_0 + 1) (IntKind.i64.wrap (size_4 + x_0.Size))
def p_impl_Store_room_tf := PLift.up (ai @eStore_eq (ai @esStore_len (ai @esStore_nil (ai @esStore_leaf (ai @esStore_fit (ai @eStoreo_eq (ai @esStoreo_len (ai @esStoreo_nil (ai @eResident_eq (ai @esResident_len (ai @esResident_nil (ai @esResident_leaf (ai @esResident_fit (ai @esStoreo_share (ai @esStoreo_pure (ai @esResident_share (ai @esResident_pure (ai @str_beq (ai @Ty.sl44 (ai @Ty.slz44 (ai @Ty.nz44 (ai @Ty.ldA44 (ai @Ty.ldS44 (ai @Ty.sz44 (ai @Ty.szn44 (ai @Ty.nz87 (ai @Ty.ldA87 (ai @Ty.sz87 (ai @Ty.szn87 (ai @Ty.nz3 (ai @Ty.ldA3 (ai @Ty.ldS3 (ai @Ty.sz3 (ai @Ty.szn3 (ai @Ty.fo46_2 (ai @Ty.fk46_2 (ai @Ty.fs46_2 (ai @Ty.fn46_2 (ai @Ty.fo87_1 (ai @Ty.fk87_1 (ai @Ty.fs87_1 (ai @Ty.fn87_1 (ai @Ty.fo46_0 (ai @Ty.fk46_0 (ai @Ty.fs46_0 (ai @Ty.fn46_0 (ai @Ty.zv87 @trivial)))))))))))))))))))))))))))))))))))))))))))))))
def p_impl_Store_room (s_a0 : GStore) (size_a1 : Int) : Option (Bool) := ((p_impl_Store_room_l0 s_a0.In 0 size_a1).bind fun q_0 => match q_0 with | size_4 => (if size_4 ≤ s_a0.Budget then some (decide ((s_a0.In.length : Int) < 30)) else some false))
theorem p_impl_Store_room_does (s_a0 : GStore) (size_a1 : Int) (r : Bool) (h : p_impl_Store_room s_a0 size_a1 = some r) : Does Try.prog 63 [.agg (eStore s_a0), I size_a1] (B r) := by
  rw [p_impl_Store_room] at h
  refine Does.bnd (fun hb => ?_)
  have hb2 : s_a0.In.length ≤ 9223372036854775807 := by simpa [AV.fitNs, AV.fitN, eStore] using hb
  have hl0 := hb2
  refine Does.walk (nt := 29) Try.func63 rfl rfl (by simp) (by decide) rfl (fun G0 X w0 pv => ?_)
  have hL_0 : s_a0.In.length ≤ 9223372036854775807 := by first | assumption | omega
  obtain ⟨q_0, eq_0, h⟩ := Option.bind_eq_some_iff.1 h
  have ff := p_impl_Store_room_tf.down
  try refine st_by ff ?_
  repeat' (first | exact trivial | refine And.intro sd ?_)
  obtain ⟨I_0, hI_0⟩ : ∃ I_ : (Nat × Int) → ASt → Prop, I_ = (fun (a : Nat × Int) σ => match a with | (i_0, size_4) => (i_0 ≤ s_a0.In.length ∧ p_impl_Store_room_l0 (s_a0.In.drop i_0) i_0 size_4 = some q_0) ∧ σ.t 1 = I size_4 ∧ σ.t 2 = .ptr 2 [] 0 ∧ σ.t 8 = .row false 4 s_a0.In.length (esResident s_a0.In) ∧ σ.t 9 = I (s_a0.In.length : Int) ∧ σ.t 10 = I (i_0 : Int) ∧ σ.m 2 = some (.box true [I s_a0.Budget, I s_a0.Clock, .row false 4 s_a0.In.length (esResident s_a0.In)])) := ⟨_, rfl⟩
  obtain ⟨M_0, hM_0⟩ : ∃ M_ : (Nat × Int) → Nat, M_ = (fun (a : Nat × Int) => match a with | (i_0, size_4) => s_a0.In.length - i_0) := ⟨_, rfl⟩
  obtain ⟨J_0, hJ_0⟩ : ∃ J_ : ASt → Prop, J_ = (fun σ => ∃ size_4 : Int, (some size_4 = some q_0) ∧ σ.t 1 = I size_4 ∧ σ.t 2 = .ptr 2 [] 0 ∧ σ.m 2 = some (.box true [I s_a0.Budget, I s_a0.Clock, .row false 4 s_a0.In.length (esResident s_a0.In)])) := ⟨_, rfl⟩
  refine aw_loopC (id := 0) I_0 M_0 J_0 (0, size_a1) ?_ ?_ ?_
  · rw [hI_0]
    refine ⟨⟨Nat.zero_le _, eq_0⟩, ?_⟩
    exact p_spec_l21Sizes_pv ff trivial
  · try clear ff
    rintro ⟨i_0, size_4⟩ σ hg_0
    rw [hI_0] at hg_0
    obtain ⟨⟨hi_0, h_0⟩, g0_0, g1_0, g2_0, g3_0, g4_0, g5_0⟩ := hg_0
    cases hr_0 : s_a0.In.drop i_0 with
    | nil =>
      rw [hr_0] at h_0
      rw [p_impl_Store_room_l0] at h_0
      have hn_0 := drop_nil hr_0
      have dr_0 : decide ((i_0 : Int) < (s_a0.In.length : Int)) = false := decide_eq_false (by omega)
      have ff := ai @dr_0 (ai @g0_0 (ai @g1_0 (ai @g2_0 (ai @g3_0 (ai @g4_0 (ai @g5_0 p_impl_Store_room_tf.down))))))
      try refine st_by ff ?_
      repeat' (first | exact trivial | refine And.intro sd ?_)
      refine JW.intro ?_
      rw [hJ_0]
      refine ⟨size_4, h_0, ?_⟩
      exact p_spec_l21Sizes_pv ff trivial
    | cons x_0 r_0 =>
      rw [hr_0] at h_0
      rw [p_impl_Store_room_l0] at h_0
      obtain ⟨ht_0, hg_0, hd_0⟩ := drop_cons hr_0
      have dr_0 : decide ((i_0 : Int) < (s_a0.In.length : Int)) = true := decide_eq_true (by omega)
      have w_0 : IntKind.i64.wrap ((i_0 : Int) + 1) = ((i_0 + 1 : Nat) : Int) := wI _ (by omega) (by omega)
      have kk0c : (esResident s_a0.In).drop (i_0 * 4) = eResident x_0 ++ esResident (s_a0.In.drop (i_0 + 1)) := drop_enc (fun _ => rfl) (hg_0)
      have ff := ai @dr_0 (ai @w_0 (ai @g0_0 (ai @g1_0 (ai @g2_0 (ai @g3_0 (ai @g4_0 (ai @g5_0 (ai @kk0c p_impl_Store_room_tf.down))))))))
      try refine st_by ff ?_
      repeat' (first | exact trivial | refine And.intro sd ?_)
      refine Back.intro (i_0 + 1, (IntKind.i64.wrap (size_4 + x_0.Size))) ?_ ?_
      · clear ff; rw [hM_0]; show s_a0.In.length - (i_0 + 1) < s_a0.In.length - i_0; omega
      rw [hI_0]
      refine ⟨⟨by clear ff; show i_0 + 1 ≤ s_a0.In.length; omega, by show p_impl_Store_room_l0 (s_a0.In.drop (i_0 + 1)) (i_0 + 1) (IntKind.i64.wrap (size_4 + x_0.Size)) = some q_0; rw [hd_0]; exact h_0⟩, ?_⟩
      exact p_spec_l21Sizes_pv ff trivial
  · try clear ff
    rintro σ hg_0
    rw [hJ_0] at hg_0
    obtain ⟨size_4, hj_0, g0_0a, g1_0a, g2_0a⟩ := hg_0
    have hjj_0 := Option.some.inj hj_0
    subst hjj_0
    try dsimp only at h
    by_cases c9 : size_4 ≤ s_a0.Budget
    case neg =>
     rw [if_neg c9] at h
     have dc9 := decide_eq_false c9
     have ff := ai @g0_0a (ai @g1_0a (ai @g2_0a (ai @dc9 p_impl_Store_room_tf.down)))
     try refine st_by ff ?_
     repeat' (first | exact trivial | refine And.intro sd ?_)
     cases h
     exact ret_q1 rfl (p_spec_l21Sizes_rt ff trivial)
    rw [if_pos c9] at h
    have dc9 := decide_eq_true c9
    have ff := ai @g0_0a (ai @g1_0a (ai @g2_0a (ai @dc9 p_impl_Store_room_tf.down)))
    try refine st_by ff ?_
    repeat' (first | exact trivial | refine And.intro sd ?_)
    cases h
    exact ret_q1 rfl (p_spec_l21Sizes_rt ff trivial)
/-! impl.Fetch -/
def p_impl_Fetch_l1 (out_47 : List GResident) : List GResident → Nat → Int → Option (Int)
  | [], i_1, least_89 => some least_89
  | x_1 :: r_1, i_1, least_89 => (if x_1.Held = 0 then (if least_89 < 0 then p_impl_Fetch_l1 out_47 r_1 (i_1 + 1) (i_1 : Int) else ((idx out_47 least_89).bind fun x101 => (if x_1.Used < x101.Used then p_impl_Fetch_l1 out_47 r_1 (i_1 + 1) (i_1 : Int) else p_impl_Fetch_l1 out_47 r_1 (i_1 + 1) least_89))) else p_impl_Fetch_l1 out_47 r_1 (i_1 + 1) least_89)
def p_impl_Fetch_l0 (size_a2 : Int) (v4 : GStore) : Nat → (List GResident) → (List ByteArray) → Option ((List GResident) × (List ByteArray))
  | 0, _, _ => none
  | n_0 + 1, out_47, gone_48 => ((p_impl_Store_room (⟨v4.Budget, (IntKind.i64.wrap (v4.Clock + 1)), out_47⟩ : GStore) size_a2).bind fun v79 => (if v79 = true then some (out_47, gone_48) else ((p_impl_Fetch_l1 out_47 out_47 0 (-1)).bind fun q_1 => match q_1 with | least_89 => ((idx out_47 least_89).bind fun x104 => (if gone_48.length < 4294967296 then ((delL out_47 least_89 (IntKind.i64.wrap (least_89 + 1))).bind fun v108 => p_impl_Fetch_l0 size_a2 v4 n_0 v108 (gone_48 ++ [x104.Name])) else none)))))
def p_impl_Fetch_j3 (N : Nat) (name_a1 : ByteArray) (size_a2 : Int) (v4 : GStore) (v5 : Int × Bool) (b_11 : Bool) : Option (GStore × List ByteArray × Int) := (if b_11 = true then some ((⟨v4.Budget, v4.Clock, v4.In⟩ : GStore), ([] : List ByteArray), 4) else (if v5.2 = true then ((idx v4.In v5.1).bind fun x14 => some ((⟨v4.Budget, (IntKind.i64.wrap (v4.Clock + 1)), ((v4.In.set v5.1.toNat (⟨x14.Name, x14.Size, (IntKind.i64.wrap (x14.Held + 1)), x14.Used⟩ : GResident)).set v5.1.toNat (⟨(⟨x14.Name, x14.Size, (IntKind.i64.wrap (x14.Held + 1)), x14.Used⟩ : GResident).Name, (⟨x14.Name, x14.Size, (IntKind.i64.wrap (x14.Held + 1)), x14.Used⟩ : GResident).Size, (⟨x14.Name, x14.Size, (IntKind.i64.wrap (x14.Held + 1)), x14.Used⟩ : GResident).Held, (IntKind.i64.wrap (v4.Clock + 1))⟩ : GResident))⟩ : GStore), ([] : List ByteArray), 0)) else ((p_impl_Fetch_l0 size_a2 v4 N v4.In ([] : List ByteArray)).bind fun q_0 => match q_0 with | (out_47, gone_48) => ((p_impl_Store_place N (⟨v4.Budget, (IntKind.i64.wrap (v4.Clock + 1)), out_47⟩ : GStore) name_a1).bind fun v109 => ((insL out_47 v109.1 ([(⟨name_a1, size_a2, 1, (IntKind.i64.wrap (v4.Clock + 1))⟩ : GResident)] : List GResident)).bind fun v110 => some ((⟨v4.Budget, (IntKind.i64.wrap (v4.Clock + 1)), v110⟩ : GStore), gone_48, 0))))))
def p_impl_Fetch_j2 (N : Nat) (s_a0 : GStore) (name_a1 : ByteArray) (size_a2 : Int) (v4 : GStore) (v5 : Int × Bool) (b_9 : Bool) : Option (GStore × List ByteArray × Int) := (if b_9 = true then some ((⟨v4.Budget, v4.Clock, v4.In⟩ : GStore), ([] : List ByteArray), 3) else (if v5.2 = true then p_impl_Fetch_j3 N name_a1 size_a2 v4 v5 false else ((p_impl_Store_heldOnly N s_a0).bind fun v112 => ((p_impl_Store_room (⟨v112.Budget, v112.Clock, v112.In⟩ : GStore) size_a2).bind fun v113 => p_impl_Fetch_j3 N name_a1 size_a2 v4 v5 (!v113)))))
def p_impl_Fetch_j1 (N : Nat) (s_a0 : GStore) (name_a1 : ByteArray) (size_a2 : Int) (v4 : GStore) (v5 : Int × Bool) (b_7 : Bool) : Option (GStore × List ByteArray × Int) := (if b_7 = true then some ((⟨v4.Budget, v4.Clock, v4.In⟩ : GStore), ([] : List ByteArray), 2) else (if v5.2 = true then ((idx s_a0.In v5.1).bind fun x115 => (if x115.Size = size_a2 then p_impl_Fetch_j2 N s_a0 name_a1 size_a2 v4 v5 (x115.Held == 1000) else p_impl_Fetch_j2 N s_a0 name_a1 size_a2 v4 v5 true)) else p_impl_Fetch_j2 N s_a0 name_a1 size_a2 v4 v5 false))
def p_impl_Fetch_j0 (N : Nat) (s_a0 : GStore) (name_a1 : ByteArray) (size_a2 : Int) (b_2 : Bool) : Option (GStore × List ByteArray × Int) := (if b_2 = true then some ((⟨0, 0, ([] : List GResident)⟩ : GStore), ([] : List ByteArray), 1) else ((p_impl_Store_clone s_a0).bind fun v4 => ((p_impl_Store_place N s_a0 name_a1).bind fun v5 => (if name_a1.size ≤ 9223372036854775807 then (if (goodName name_a1) = true then p_impl_Fetch_j1 N s_a0 name_a1 size_a2 v4 v5 (!(rng size_a2 1 100000)) else p_impl_Fetch_j1 N s_a0 name_a1 size_a2 v4 v5 true) else none))))
def p_impl_Fetch_tf := PLift.up (ai @eStr_eq (ai @esStr_len (ai @esStr_nil (ai @esStr_leaf (ai @esStr_fit (ai @eStore_eq (ai @esStore_len (ai @esStore_nil (ai @esStore_leaf (ai @esStore_fit (ai @eStoreo_eq (ai @esStoreo_len (ai @esStoreo_nil (ai @eResident_eq (ai @esResident_len (ai @esResident_nil (ai @esResident_leaf (ai @esResident_fit (ai @esStr_share (ai @esStr_pure (ai @esStoreo_share (ai @esStoreo_pure (ai @esResident_share (ai @esResident_pure (ai @str_beq (ai @Ty.sl44 (ai @Ty.slz44 (ai @Ty.nz46 (ai @Ty.ldA46 (ai @Ty.sz46 (ai @Ty.szn46 (ai @Ty.nz3 (ai @Ty.ldA3 (ai @Ty.ldS3 (ai @Ty.sz3 (ai @Ty.szn3 (ai @Ty.nz44 (ai @Ty.ldA44 (ai @Ty.ldS44 (ai @Ty.sz44 (ai @Ty.szn44 (ai @Ty.nz87 (ai @Ty.ldA87 (ai @Ty.sz87 (ai @Ty.szn87 (ai @Ty.nz9 (ai @Ty.ldA9 (ai @Ty.ldS9 (ai @Ty.sz9 (ai @Ty.szn9 (ai @Ty.fo46_1 (ai @Ty.fk46_1 (ai @Ty.fs46_1 (ai @Ty.fn46_1 (ai @Ty.fo46_2 (ai @Ty.fk46_2 (ai @Ty.fs46_2 (ai @Ty.fn46_2 (ai @Ty.fo87_1 (ai @Ty.fk87_1 (ai @Ty.fs87_1 (ai @Ty.fn87_1 (ai @Ty.fo87_2 (ai @Ty.fk87_2 (ai @Ty.fs87_2 (ai @Ty.fn87_2 (ai @Ty.fo87_3 (ai @Ty.fk87_3 (ai @Ty.fs87_3 (ai @Ty.fn87_3 (ai @Ty.fo87_0 (ai @Ty.fk87_0 (ai @Ty.fs87_0 (ai @Ty.fn87_0 (ai @Ty.nze47 (ai @Ty.sl47 (ai @Ty.slz47 (ai @Ty.zok47 (ai @Ty.by47 (ai @Ty.zs47 (ai @Ty.nze44 (ai @Ty.zok44 (ai @Ty.by44 (ai @Ty.zs44 (ai @Ty.zv46 (ai @Ty.zv87 (ai @Ty.bd46 (ai @Ty.bd87 (ai @Ty.pl87_0 (ai @Ty.pl87_1 (ai @Ty.pl87_2 (ai @Ty.pl87_3 (ai @Ty.ag46 @trivial)))))))))))))))))))))))))))))))))))))))))))))))))))))))))))))))))))))))))))))))))))))))))))))
def p_impl_Fetch (N : Nat) (s_a0 : GStore) (name_a1 : ByteArray) (size_a2 : Int) : Option (GStore × List ByteArray × Int) := ((p_impl_GoodStore s_a0).bind fun v1 => (if v1 = true then p_impl_Fetch_j0 N s_a0 name_a1 size_a2 (s_a0.Clock == 100000) else p_impl_Fetch_j0 N s_a0 name_a1 size_a2 true))
theorem p_impl_Fetch_does (N : Nat) (s_a0 : GStore) (name_a1 : ByteArray) (size_a2 : Int) (r : GStore × List ByteArray × Int) (h : p_impl_Fetch N s_a0 name_a1 size_a2 = some r) : Does Try.prog 22 [.agg (eStore s_a0), S name_a1, I size_a2] (.tup [.agg (eStoreo r.1), .row true 1 r.2.1.length (esStr r.2.1), I r.2.2]) := by
  rw [p_impl_Fetch] at h
  refine Does.bnd (fun hb => ?_)
  have hb2 : s_a0.In.length ≤ 9223372036854775807 := by simpa [AV.fitNs, AV.fitN, eStore] using hb
  have hl0 := hb2
  refine Does.walk (nt := 166) Try.func22 rfl rfl (by simp) (by decide) rfl (fun G0 X w0 pv => ?_)
  obtain ⟨v1, ev1, h⟩ := Option.bind_eq_some_iff.1 h
  try dsimp only at h
  have ff := p_impl_Fetch_tf.down
  try refine st_by ff ?_
  repeat' (first | exact trivial | refine And.intro sd ?_)
  first
  | (refine cq_call (p_impl_GoodStore_does s_a0 v1 ev1) (hf_by ff) kr ⟨p_spec_Fetch_sa ff trivial, ?_⟩; clear ff)
  | (refine cq_dcall (p_impl_GoodStore_does s_a0 v1 ev1) (hf_by ff) kr ⟨p_spec_Fetch_sa ff trivial, ?_⟩; clear ff)
  have ff := p_impl_Fetch_tf.down
  try refine st_by ff ?_
  repeat' (first | exact trivial | refine And.intro sd ?_)
  try clear ff
  generalize hk_0 : thenK _ _ = kk_0
  have key_0 : ∀ σ, (∃ b_2 : Bool, (p_impl_Fetch_j0 N s_a0 name_a1 size_a2 b_2 = some r) ∧ σ.t 1 = S name_a1 ∧ σ.t 2 = I size_a2 ∧ σ.t 3 = .ptr 3 [] 0 ∧ σ.t 6 = .ptr 6 [] 0 ∧ σ.t 23 = B b_2 ∧ σ.m 3 = some (.box true [I s_a0.Budget, I s_a0.Clock, .row false 4 s_a0.In.length (esResident s_a0.In)]) ∧ σ.m 6 = some (.box true [I 0, I 0, .row true 4 0 []])) → kk_0 .nm σ := by
    rintro σ ⟨b_2, h, g0_j0, g1_j0, g2_j0, g3_j0, g4_j0, g5_j0, g6_j0⟩
    rw [← hk_0]
    rw [p_impl_Fetch_j0] at h
    by_cases c3 : b_2 = true
    · rw [if_pos c3] at h
      have dc3 := c3
      have ff := ai @g0_j0 (ai @g1_j0 (ai @g2_j0 (ai @g3_j0 (ai @g4_j0 (ai @g5_j0 (ai @g6_j0 (ai @dc3 p_impl_Fetch_tf.down)))))))
      try refine st_by ff ?_
      repeat' (first | exact trivial | refine And.intro sd ?_)
      cases h
      exact ret_q3 rfl (p_spec_Fetch_rt ff trivial)
    rw [if_neg c3] at h
    have dc3 := eq_false_of_ne_true c3
    obtain ⟨v4, ev4, h⟩ := Option.bind_eq_some_iff.1 h
    try dsimp only at h
    have ff := ai @g0_j0 (ai @g1_j0 (ai @g2_j0 (ai @g3_j0 (ai @g4_j0 (ai @g5_j0 (ai @g6_j0 (ai @dc3 p_impl_Fetch_tf.down)))))))
    try refine st_by ff ?_
    repeat' (first | exact trivial | refine And.intro sd ?_)
    first
    | (refine cq_own (p_impl_Store_clone_does s_a0 v4 ev4) (hf_by ff) kr ⟨p_spec_Fetch_sa ff trivial, ?_⟩; clear ff)
    | (refine cq_down (p_impl_Store_clone_does s_a0 v4 ev4) (hf_by ff) kr ⟨p_spec_Fetch_sa ff trivial, ?_⟩; clear ff)
    obtain ⟨v5, ev5, h⟩ := Option.bind_eq_some_iff.1 h
    try dsimp only at h
    have ff := ai @g0_j0 (ai @g1_j0 (ai @g2_j0 (ai @g3_j0 (ai @g4_j0 (ai @g5_j0 (ai @g6_j0 (ai @dc3 p_impl_Fetch_tf.down)))))))
    try refine st_by ff ?_
    repeat' (first | exact trivial | refine And.intro sd ?_)
    first
    | (refine cq_call (p_impl_Store_place_does N s_a0 name_a1 v5 ev5) (hf_by ff) kr ⟨p_spec_Fetch_sa ff trivial, ?_⟩; clear ff)
    | (refine cq_dcall (p_impl_Store_place_does N s_a0 name_a1 v5 ev5) (hf_by ff) kr ⟨p_spec_Fetch_sa ff trivial, ?_⟩; clear ff)
    by_cases c6 : name_a1.size ≤ 9223372036854775807
    case neg => rw [if_neg c6] at h; cases h
    rw [if_pos c6] at h
    have ff := ai @g0_j0 (ai @g1_j0 (ai @g2_j0 (ai @g3_j0 (ai @g4_j0 (ai @g5_j0 (ai @g6_j0 (ai @dc3 p_impl_Fetch_tf.down)))))))
    try refine st_by ff ?_
    repeat' (first | exact trivial | refine And.intro sd ?_)
    first
    | (refine cq_call (implGoodName_does name_a1 (by first | assumption | omega)) (hf_by ff) kr ⟨p_spec_Fetch_sa ff trivial, ?_⟩; clear ff)
    | (refine cq_dcall (implGoodName_does name_a1 (by first | assumption | omega)) (hf_by ff) kr ⟨p_spec_Fetch_sa ff trivial, ?_⟩; clear ff)
    have ff := ai @g0_j0 (ai @g1_j0 (ai @g2_j0 (ai @g3_j0 (ai @g4_j0 (ai @g5_j0 (ai @g6_j0 (ai @dc3 p_impl_Fetch_tf.down)))))))
    try refine st_by ff ?_
    repeat' (first | exact trivial | refine And.intro sd ?_)
    try clear ff
    generalize hk_1 : thenK _ _ = kk_1
    have key_1 : ∀ σ, (∃ b_7 : Bool, (p_impl_Fetch_j1 N s_a0 name_a1 size_a2 v4 v5 b_7 = some r) ∧ σ.t 1 = S name_a1 ∧ σ.t 2 = I size_a2 ∧ σ.t 3 = .ptr 3 [] 0 ∧ σ.t 6 = .ptr 6 [] 0 ∧ σ.t 9 = .ptr 9 [] 0 ∧ σ.t 10 = I v5.1 ∧ σ.t 11 = B v5.2 ∧ σ.t 33 = B b_7 ∧ σ.m 3 = some (.box true [I s_a0.Budget, I s_a0.Clock, .row false 4 s_a0.In.length (esResident s_a0.In)]) ∧ σ.m 6 = some (.box true [I 0, I 0, .row true 4 0 []]) ∧ σ.m 9 = some (.box true [I v4.Budget, I v4.Clock, .row true 4 v4.In.length (esResident v4.In)])) → kk_1 .nm σ := by
      rintro σ ⟨b_7, h, g0_j1, g1_j1, g2_j1, g3_j1, g4_j1, g5_j1, g6_j1, g7_j1, g8_j1, g9_j1, g10_j1⟩
      rw [← hk_1]
      rw [p_impl_Fetch_j1] at h
      by_cases c8 : b_7 = true
      · rw [if_pos c8] at h
        have dc8 := c8
        have ff := ai @dc3 (ai @g0_j1 (ai @g1_j1 (ai @g2_j1 (ai @g3_j1 (ai @g4_j1 (ai @g5_j1 (ai @g6_j1 (ai @g7_j1 (ai @g8_j1 (ai @g9_j1 (ai @g10_j1 (ai @dc8 p_impl_Fetch_tf.down))))))))))))
        try refine st_by ff ?_
        repeat' (first | exact trivial | refine And.intro sd ?_)
        cases h
        exact ret_q3 rfl (p_spec_Fetch_rt ff trivial)
      rw [if_neg c8] at h
      have dc8 := eq_false_of_ne_true c8
      have ff := ai @dc3 (ai @g0_j1 (ai @g1_j1 (ai @g2_j1 (ai @g3_j1 (ai @g4_j1 (ai @g5_j1 (ai @g6_j1 (ai @g7_j1 (ai @g8_j1 (ai @g9_j1 (ai @g10_j1 (ai @dc8 p_impl_Fetch_tf.down))))))))))))
      try refine st_by ff ?_
      repeat' (first | exact trivial | refine And.intro sd ?_)
      try clear ff
      generalize hk_2 : thenK _ _ = kk_2
      have key_2 : ∀ σ, (∃ b_9 : Bool, (p_impl_Fetch_j2 N s_a0 name_a1 size_a2 v4 v5 b_9 = some r) ∧ σ.t 1 = S name_a1 ∧ σ.t 2 = I size_a2 ∧ σ.t 3 = .ptr 3 [] 0 ∧ σ.t 6 = .ptr 6 [] 0 ∧ σ.t 9 = .ptr 9 [] 0 ∧ σ.t 10 = I v5.1 ∧ σ.t 11 = B v5.2 ∧ σ.t 43 = B b_9 ∧ σ.m 3 = some (.box true [I s_a0.Budget, I s_a0.Clock, .row false 4 s_a0.In.length (esResident s_a0.In)]) ∧ σ.m 6 = some (.box true [I 0, I 0, .row true 4 0 []]) ∧ σ.m 9 = some (.box true [I v4.Budget, I v4.Clock, .row true 4 v4.In.length (esResident v4.In)])) → kk_2 .nm σ := by
        rintro σ ⟨b_9, h, g0_j2, g1_j2, g2_j2, g3_j2, g4_j2, g5_j2, g6_j2, g7_j2, g8_j2, g9_j2, g10_j2⟩
        rw [← hk_2]
        rw [p_impl_Fetch_j2] at h
        by_cases c10 : b_9 = true
        · rw [if_pos c10] at h
          have dc10 := c10
          have ff := ai @dc3 (ai @dc8 (ai @g0_j2 (ai @g1_j2 (ai @g2_j2 (ai @g3_j2 (ai @g4_j2 (ai @g5_j2 (ai @g6_j2 (ai @g7_j2 (ai @g8_j2 (ai @g9_j2 (ai @g10_j2 (ai @dc10 p_impl_Fetch_tf.down)))))))))))))
          try refine st_by ff ?_
          repeat' (first | exact trivial | refine And.intro sd ?_)
          cases h
          exact ret_q3 rfl (p_spec_Fetch_rt ff trivial)
        rw [if_neg c10] at h
        have dc10 := eq_false_of_ne_true c10
        have ff := ai @dc3 (ai @dc8 (ai @g0_j2 (ai @g1_j2 (ai @g2_j2 (ai @g3_j2 (ai @g4_j2 (ai @g5_j2 (ai @g6_j2 (ai @g7_j2 (ai @g8_j2 (ai @g9_j2 (ai @g10_j2 (ai @dc10 p_impl_Fetch_tf.down)))))))))))))
        try refine st_by ff ?_
        repeat' (first | exact trivial | refine And.intro sd ?_)
        try clear ff
        generalize hk_3 : thenK _ _ = kk_3
        have key_3 : ∀ σ, (∃ b_11 : Bool, (p_impl_Fetch_j3 N name_a1 size_a2 v4 v5 b_11 = some r) ∧ σ.t 1 = S name_a1 ∧ σ.t 2 = I size_a2 ∧ σ.t 6 = .ptr 6 [] 0 ∧ σ.t 9 = .ptr 9 [] 0 ∧ σ.t 10 = I v5.1 ∧ σ.t 11 = B v5.2 ∧ σ.t 65 = B b_11 ∧ σ.m 6 = some (.box true [I 0, I 0, .row true 4 0 []]) ∧ σ.m 9 = some (.box true [I v4.Budget, I v4.Clock, .row true 4 v4.In.length (esResident v4.In)])) → kk_3 .nm σ := by
          rintro σ ⟨b_11, h, g0_j3, g1_j3, g2_j3, g3_j3, g4_j3, g5_j3, g6_j3, g7_j3, g8_j3⟩
          rw [← hk_3]
          rw [p_impl_Fetch_j3] at h
          by_cases c12 : b_11 = true
          · rw [if_pos c12] at h
            have dc12 := c12
            have ff := ai @dc3 (ai @dc8 (ai @dc10 (ai @g0_j3 (ai @g1_j3 (ai @g2_j3 (ai @g3_j3 (ai @g4_j3 (ai @g5_j3 (ai @g6_j3 (ai @g7_j3 (ai @g8_j3 (ai @dc12 p_impl_Fetch_tf.down))))))))))))
            try refine st_by ff ?_
            repeat' (first | exact trivial | refine And.intro sd ?_)
            cases h
            exact ret_q3 rfl (p_spec_Fetch_rt ff trivial)
          rw [if_neg c12] at h
          have dc12 := eq_false_of_ne_true c12
          by_cases c13 : v5.2 = true
          · rw [if_pos c13] at h
            have dc13 := c13
            obtain ⟨x14, ex14, h⟩ := Option.bind_eq_some_iff.1 h
            try dsimp only at h
            have f15a := idx_lo ex14
            have f15b := idx_hi ex14
            have f15c : (esResident v4.In).drop (v5.1.toNat * 4) = eResident x14 ++ esResident (v4.In.drop (v5.1.toNat + 1)) := drop_enc (fun _ => rfl) (idx_get ex14)
            have f15g0 : (esResident v4.In).getD (v5.1.toNat * 4) .junk = (eResident x14).getD 0 .junk := getD_enc0 (enc := eResident) (sz := 4) (fun _ => rfl) (idx_get ex14) (by decide)
            have f15g1 : (esResident v4.In).getD (v5.1.toNat * 4 + 1) .junk = (eResident x14).getD 1 .junk := getD_enc (enc := eResident) (sz := 4) (fun _ => rfl) (idx_get ex14) (by decide)
            have f15g2 : (esResident v4.In).getD (v5.1.toNat * 4 + 2) .junk = (eResident x14).getD 2 .junk := getD_enc (enc := eResident) (sz := 4) (fun _ => rfl) (idx_get ex14) (by decide)
            have f15g3 : (esResident v4.In).getD (v5.1.toNat * 4 + 3) .junk = (eResident x14).getD 3 .junk := getD_enc (enc := eResident) (sz := 4) (fun _ => rfl) (idx_get ex14) (by decide)
            have w16l : v5.1.toNat < v4.In.length := (List.getElem?_eq_some_iff.1 (idx_get ex14)).1
            have w16a : (esResident v4.In).set (v5.1.toNat * 4 + 2) (I (IntKind.i64.wrap (x14.Held + 1))) = esResident (v4.In.set v5.1.toNat (⟨x14.Name, x14.Size, (IntKind.i64.wrap (x14.Held + 1)), x14.Used⟩ : GResident)) := set_enc (enc := eResident) (sz := 4) (fun _ => rfl) (idx_get ex14) (by decide) rfl
            have w16b : (v4.In.set v5.1.toNat (⟨x14.Name, x14.Size, (IntKind.i64.wrap (x14.Held + 1)), x14.Used⟩ : GResident)).length = v4.In.length := List.length_set
            have f17c : (esResident (v4.In.set v5.1.toNat (⟨x14.Name, x14.Size, (IntKind.i64.wrap (x14.Held + 1)), x14.Used⟩ : GResident))).drop (v5.1.toNat * 4) = eResident (⟨x14.Name, x14.Size, (IntKind.i64.wrap (x14.Held + 1)), x14.Used⟩ : GResident) ++ esResident ((v4.In.set v5.1.toNat (⟨x14.Name, x14.Size, (IntKind.i64.wrap (x14.Held + 1)), x14.Used⟩ : GResident)).drop (v5.1.toNat + 1)) := drop_enc (fun _ => rfl) (List.getElem?_set_self w16l)
            have f17g0 : (esResident (v4.In.set v5.1.toNat (⟨x14.Name, x14.Size, (IntKind.i64.wrap (x14.Held + 1)), x14.Used⟩ : GResident))).getD (v5.1.toNat * 4) .junk = (eResident (⟨x14.Name, x14.Size, (IntKind.i64.wrap (x14.Held + 1)), x14.Used⟩ : GResident)).getD 0 .junk := getD_enc0 (enc := eResident) (sz := 4) (fun _ => rfl) (List.getElem?_set_self w16l) (by decide)
            have f17g1 : (esResident (v4.In.set v5.1.toNat (⟨x14.Name, x14.Size, (IntKind.i64.wrap (x14.Held + 1)), x14.Used⟩ : GResident))).getD (v5.1.toNat * 4 + 1) .junk = (eResident (⟨x14.Name, x14.Size, (IntKind.i64.wrap (x14.Held + 1)), x14.Used⟩ : GResident)).getD 1 .junk := getD_enc (enc := eResident) (sz := 4) (fun _ => rfl) (List.getElem?_set_self w16l) (by decide)
            have f17g2 : (esResident (v4.In.set v5.1.toNat (⟨x14.Name, x14.Size, (IntKind.i64.wrap (x14.Held + 1)), x14.Used⟩ : GResident))).getD (v5.1.toNat * 4 + 2) .junk = (eResident (⟨x14.Name, x14.Size, (IntKind.i64.wrap (x14.Held + 1)), x14.Used⟩ : GResident)).getD 2 .junk := getD_enc (enc := eResident) (sz := 4) (fun _ => rfl) (List.getElem?_set_self w16l) (by decide)
            have f17g3 : (esResident (v4.In.set v5.1.toNat (⟨x14.Name, x14.Size, (IntKind.i64.wrap (x14.Held + 1)), x14.Used⟩ : GResident))).getD (v5.1.toNat * 4 + 3) .junk = (eResident (⟨x14.Name, x14.Size, (IntKind.i64.wrap (x14.Held + 1)), x14.Used⟩ : GResident)).getD 3 .junk := getD_enc (enc := eResident) (sz := 4) (fun _ => rfl) (List.getElem?_set_self w16l) (by decide)
            have w18l : v5.1.toNat < (v4.In.set v5.1.toNat (⟨x14.Name, x14.Size, (IntKind.i64.wrap (x14.Held + 1)), x14.Used⟩ : GResident)).length := (List.getElem?_eq_some_iff.1 (List.getElem?_set_self w16l)).1
            have w18a : (esResident (v4.In.set v5.1.toNat (⟨x14.Name, x14.Size, (IntKind.i64.wrap (x14.Held + 1)), x14.Used⟩ : GResident))).set (v5.1.toNat * 4 + 3) (I (IntKind.i64.wrap (v4.Clock + 1))) = esResident ((v4.In.set v5.1.toNat (⟨x14.Name, x14.Size, (IntKind.i64.wrap (x14.Held + 1)), x14.Used⟩ : GResident)).set v5.1.toNat (⟨(⟨x14.Name, x14.Size, (IntKind.i64.wrap (x14.Held + 1)), x14.Used⟩ : GResident).Name, (⟨x14.Name, x14.Size, (IntKind.i64.wrap (x14.Held + 1)), x14.Used⟩ : GResident).Size, (⟨x14.Name, x14.Size, (IntKind.i64.wrap (x14.Held + 1)), x14.Used⟩ : GResident).Held, (IntKind.i64.wrap (v4.Clock + 1))⟩ : GResident)) := set_enc (enc := eResident) (sz := 4) (fun _ => rfl) (List.getElem?_set_self w16l) (by decide) rfl
            have w18b : ((v4.In.set v5.1.toNat (⟨x14.Name, x14.Size, (IntKind.i64.wrap (x14.Held + 1)), x14.Used⟩ : GResident)).set v5.1.toNat (⟨(⟨x14.Name, x14.Size, (IntKind.i64.wrap (x14.Held + 1)), x14.Used⟩ : GResident).Name, (⟨x14.Name, x14.Size, (IntKind.i64.wrap (x14.Held + 1)), x14.Used⟩ : GResident).Size, (⟨x14.Name, x14.Size, (IntKind.i64.wrap (x14.Held + 1)), x14.Used⟩ : GResident).Held, (IntKind.i64.wrap (v4.Clock + 1))⟩ : GResident)).length = (v4.In.set v5.1.toNat (⟨x14.Name, x14.Size, (IntKind.i64.wrap (x14.Held + 1)), x14.Used⟩ : GResident)).length := List.length_set
            have ff := ai @dc3 (ai @dc8 (ai @dc10 (ai @g0_j3 (ai @g1_j3 (ai @g2_j3 (ai @g3_j3 (ai @g4_j3 (ai @g5_j3 (ai @g6_j3 (ai @g7_j3 (ai @g8_j3 (ai @dc12 (ai @dc13 (ai @f15c (ai @f15g0 (ai @f15g1 (ai @f15g2 (ai @f15g3 (ai @w16a (ai @f17c (ai @f17g0 (ai @f17g1 (ai @f17g2 (ai @f17g3 (ai @w18a p_impl_Fetch_tf.down)))))))))))))))))))))))))
            try refine st_by ff ?_
            repeat' (first | exact trivial | refine And.intro sd ?_)
            cases h
            exact ret_q3 rfl (p_spec_Fetch_rt ff trivial)
          rw [if_neg c13] at h
          have dc13 := eq_false_of_ne_true c13
          obtain ⟨q_0, eq_0, h⟩ := Option.bind_eq_some_iff.1 h
          have ff := ai @dc3 (ai @dc8 (ai @dc10 (ai @g0_j3 (ai @g1_j3 (ai @g2_j3 (ai @g3_j3 (ai @g4_j3 (ai @g5_j3 (ai @g6_j3 (ai @g7_j3 (ai @g8_j3 (ai @dc12 (ai @dc13 p_impl_Fetch_tf.down)))))))))))))
          try refine st_by ff ?_
          repeat' (first | exact trivial | refine And.intro sd ?_)
          obtain ⟨I_0, hI_0⟩ : ∃ I_ : (Nat × (List GResident) × (List ByteArray)) → ASt → Prop, I_ = (fun (a : Nat × (List GResident) × (List ByteArray)) σ => match a with | (n_0, out_47, gone_48) => (p_impl_Fetch_l0 size_a2 v4 n_0 out_47 gone_48 = some q_0) ∧ σ.t 1 = S name_a1 ∧ σ.t 2 = I size_a2 ∧ σ.t 6 = .ptr 6 [] 0 ∧ σ.t 9 = .ptr 9 [] 0 ∧ σ.t 12 = .sl 12 [] 0 gone_48.length ∧ σ.m 6 = some (.box true [I 0, I 0, .row true 4 0 []]) ∧ σ.m 9 = some (.box true [I v4.Budget, I (IntKind.i64.wrap (v4.Clock + 1)), .row true 4 out_47.length (esResident out_47)]) ∧ σ.m 12 = some (.row true 1 gone_48.length (esStr gone_48))) := ⟨_, rfl⟩
          obtain ⟨M_0, hM_0⟩ : ∃ M_ : (Nat × (List GResident) × (List ByteArray)) → Nat, M_ = (fun (a : Nat × (List GResident) × (List ByteArray)) => match a with | (n_0, out_47, gone_48) => n_0) := ⟨_, rfl⟩
          obtain ⟨J_0, hJ_0⟩ : ∃ J_ : ASt → Prop, J_ = (fun σ => ∃ out_47 : List GResident, ∃ gone_48 : List ByteArray, (some (out_47, gone_48) = some q_0) ∧ σ.t 1 = S name_a1 ∧ σ.t 2 = I size_a2 ∧ σ.t 6 = .ptr 6 [] 0 ∧ σ.t 9 = .ptr 9 [] 0 ∧ σ.t 12 = .sl 12 [] 0 gone_48.length ∧ σ.m 6 = some (.box true [I 0, I 0, .row true 4 0 []]) ∧ σ.m 9 = some (.box true [I v4.Budget, I (IntKind.i64.wrap (v4.Clock + 1)), .row true 4 out_47.length (esResident out_47)]) ∧ σ.m 12 = some (.row true 1 gone_48.length (esStr gone_48))) := ⟨_, rfl⟩
          refine aw_loopC (id := 1) I_0 M_0 J_0 (N, v4.In, ([] : List ByteArray)) ?_ ?_ ?_
          · rw [hI_0]
            refine ⟨eq_0, ?_⟩
            exact p_spec_Fetch_pv ff trivial
          · try clear ff
            rintro ⟨n_0, out_47, gone_48⟩ σ hg_0
            rw [hI_0] at hg_0
            obtain ⟨h_0, g0_0, g1_0, g2_0, g3_0, g4_0, g5_0, g6_0, g7_0⟩ := hg_0
            cases n_0 with
            | zero => rw [p_impl_Fetch_l0] at h_0; cases h_0
            | succ n_0 =>
              rw [p_impl_Fetch_l0] at h_0
              obtain ⟨v79, ev79, h_0⟩ := Option.bind_eq_some_iff.1 h_0
              try dsimp only at h_0
              have ff := ai @dc3 (ai @dc8 (ai @dc10 (ai @dc12 (ai @dc13 (ai @g0_0 (ai @g1_0 (ai @g2_0 (ai @g3_0 (ai @g4_0 (ai @g5_0 (ai @g6_0 (ai @g7_0 p_impl_Fetch_tf.down))))))))))))
              try refine st_by ff ?_
              repeat' (first | exact trivial | refine And.intro sd ?_)
              first
              | (refine cq_lend (p_impl_Store_room_does (⟨v4.Budget, (IntKind.i64.wrap (v4.Clock + 1)), out_47⟩ : GStore) size_a2 v79 ev79) (hf_by ff) kr ⟨p_spec_Fetch_sa ff trivial, ?_⟩; clear ff)
              | (refine cq_dlend (p_impl_Store_room_does (⟨v4.Budget, (IntKind.i64.wrap (v4.Clock + 1)), out_47⟩ : GStore) size_a2 v79 ev79) (hf_by ff) kr ⟨p_spec_Fetch_sa ff trivial, ?_⟩; clear ff)
              by_cases c80 : v79 = true
              · rw [if_pos c80] at h_0
                have dc80 := c80
                have ff := ai @dc3 (ai @dc8 (ai @dc10 (ai @dc12 (ai @dc13 (ai @g0_0 (ai @g1_0 (ai @g2_0 (ai @g3_0 (ai @g4_0 (ai @g5_0 (ai @g6_0 (ai @g7_0 (ai @dc80 p_impl_Fetch_tf.down)))))))))))))
                try refine st_by ff ?_
                repeat' (first | exact trivial | refine And.intro sd ?_)
                refine JW.intro ?_
                rw [hJ_0]
                refine ⟨out_47, gone_48, h_0, ?_⟩
                exact p_spec_Fetch_pv ff trivial
              rw [if_neg c80] at h_0
              have dc80 := eq_false_of_ne_true c80
              obtain ⟨q_1, eq_1, h_0⟩ := Option.bind_eq_some_iff.1 h_0
              have ff := ai @dc3 (ai @dc8 (ai @dc10 (ai @dc12 (ai @dc13 (ai @g0_0 (ai @g1_0 (ai @g2_0 (ai @g3_0 (ai @g4_0 (ai @g5_0 (ai @g6_0 (ai @g7_0 (ai @dc80 p_impl_Fetch_tf.down)))))))))))))
              try refine st_by ff ?_
              repeat' (first | exact trivial | refine And.intro sd ?_)
              refine aw_bnd (r := 9) (p := [2]) (sz := 4) (n := out_47.length) (cs := esResident out_47) (p_spec_Fetch_pv ff trivial) (fun hL_1 => ?_)
              obtain ⟨I_1, hI_1⟩ : ∃ I_ : (Nat × Int) → ASt → Prop, I_ = (fun (a : Nat × Int) σ => match a with | (i_1, least_89) => (i_1 ≤ out_47.length ∧ p_impl_Fetch_l1 out_47 (out_47.drop i_1) i_1 least_89 = some q_1) ∧ σ.t 1 = S name_a1 ∧ σ.t 2 = I size_a2 ∧ σ.t 6 = .ptr 6 [] 0 ∧ σ.t 9 = .ptr 9 [] 0 ∧ σ.t 12 = .sl 12 [] 0 gone_48.length ∧ σ.t 13 = I least_89 ∧ σ.t 104 = .sl 9 [2] 0 out_47.length ∧ σ.t 105 = I (out_47.length : Int) ∧ σ.t 106 = I (i_1 : Int) ∧ σ.m 6 = some (.box true [I 0, I 0, .row true 4 0 []]) ∧ σ.m 9 = some (.box true [I v4.Budget, I (IntKind.i64.wrap (v4.Clock + 1)), .row true 4 out_47.length (esResident out_47)]) ∧ σ.m 12 = some (.row true 1 gone_48.length (esStr gone_48))) := ⟨_, rfl⟩
              obtain ⟨M_1, hM_1⟩ : ∃ M_ : (Nat × Int) → Nat, M_ = (fun (a : Nat × Int) => match a with | (i_1, least_89) => out_47.length - i_1) := ⟨_, rfl⟩
              obtain ⟨J_1, hJ_1⟩ : ∃ J_ : ASt → Prop, J_ = (fun σ => ∃ least_89 : Int, (some least_89 = some q_1) ∧ σ.t 1 = S name_a1 ∧ σ.t 2 = I size_a2 ∧ σ.t 6 = .ptr 6 [] 0 ∧ σ.t 9 = .ptr 9 [] 0 ∧ σ.t 12 = .sl 12 [] 0 gone_48.length ∧ σ.t 13 = I least_89 ∧ σ.m 6 = some (.box true [I 0, I 0, .row true 4 0 []]) ∧ σ.m 9 = some (.box true [I v4.Budget, I (IntKind.i64.wrap (v4.Clock + 1)), .row true 4 out_47.length (esResident out_47)]) ∧ σ.m 12 = some (.row true 1 gone_48.length (esStr gone_48))) := ⟨_, rfl⟩
              refine aw_loopC (id := 3) I_1 M_1 J_1 (0, (-1)) ?_ ?_ ?_
              · rw [hI_1]
                refine ⟨⟨Nat.zero_le _, eq_1⟩, ?_⟩
                exact p_spec_Fetch_pv ff trivial
              · try clear ff
                rintro ⟨i_1, least_89⟩ σ hg_1
                rw [hI_1] at hg_1
                obtain ⟨⟨hi_1, h_1⟩, g0_1, g1_1, g2_1, g3_1, g4_1, g5_1, g6_1, g7_1, g8_1, g9_1, g10_1, g11_1⟩ := hg_1
                cases hr_1 : out_47.drop i_1 with
                | nil =>
                  rw [hr_1] at h_1
                  rw [p_impl_Fetch_l1] at h_1
                  have hn_1 := drop_nil hr_1
                  have dr_1 : decide ((i_1 : Int) < (out_47.length : Int)) = false := decide_eq_false (by omega)
                  have ff := ai @dc3 (ai @dc8 (ai @dc10 (ai @dc12 (ai @dc13 (ai @dc80 (ai @dr_1 (ai @g0_1 (ai @g1_1 (ai @g2_1 (ai @g3_1 (ai @g4_1 (ai @g5_1 (ai @g6_1 (ai @g7_1 (ai @g8_1 (ai @g9_1 (ai @g10_1 (ai @g11_1 p_impl_Fetch_tf.down))))))))))))))))))
                  try refine st_by ff ?_
                  repeat' (first | exact trivial | refine And.intro sd ?_)
                  refine JW.intro ?_
                  rw [hJ_1]
                  refine ⟨least_89, h_1, ?_⟩
                  exact p_spec_Fetch_pv ff trivial
                | cons x_1 r_1 =>
                  rw [hr_1] at h_1
                  rw [p_impl_Fetch_l1] at h_1
                  obtain ⟨ht_1, hg_1, hd_1⟩ := drop_cons hr_1
                  have dr_1 : decide ((i_1 : Int) < (out_47.length : Int)) = true := decide_eq_true (by omega)
                  have w_1 : IntKind.i64.wrap ((i_1 : Int) + 1) = ((i_1 + 1 : Nat) : Int) := wI _ (by omega) (by omega)
                  have kk1c : (esResident out_47).drop (i_1 * 4) = eResident x_1 ++ esResident (out_47.drop (i_1 + 1)) := drop_enc (fun _ => rfl) (hg_1)
                  have kk1g0 : (esResident out_47).getD (i_1 * 4) .junk = (eResident x_1).getD 0 .junk := getD_enc0 (enc := eResident) (sz := 4) (fun _ => rfl) (hg_1) (by decide)
                  have kk1g1 : (esResident out_47).getD (i_1 * 4 + 1) .junk = (eResident x_1).getD 1 .junk := getD_enc (enc := eResident) (sz := 4) (fun _ => rfl) (hg_1) (by decide)
                  have kk1g2 : (esResident out_47).getD (i_1 * 4 + 2) .junk = (eResident x_1).getD 2 .junk := getD_enc (enc := eResident) (sz := 4) (fun _ => rfl) (hg_1) (by decide)
                  have kk1g3 : (esResident out_47).getD (i_1 * 4 + 3) .junk = (eResident x_1).getD 3 .junk := getD_enc (enc := eResident) (sz := 4) (fun _ => rfl) (hg_1) (by decide)
                  by_cases c99 : x_1.Held = 0
                  case neg =>
                   rw [if_neg c99] at h_1
                   have dc99 := beq_no c99
                   have ff := ai @dc3 (ai @dc8 (ai @dc10 (ai @dc12 (ai @dc13 (ai @dc80 (ai @dr_1 (ai @w_1 (ai @g0_1 (ai @g1_1 (ai @g2_1 (ai @g3_1 (ai @g4_1 (ai @g5_1 (ai @g6_1 (ai @g7_1 (ai @g8_1 (ai @g9_1 (ai @g10_1 (ai @g11_1 (ai @kk1c (ai @kk1g0 (ai @kk1g1 (ai @kk1g2 (ai @kk1g3 (ai @dc99 p_impl_Fetch_tf.down)))))))))))))))))))))))))
                   try refine st_by ff ?_
                   repeat' (first | exact trivial | refine And.intro sd ?_ | (refine aw_drawn (id := 22) ?_ [[], [0], [0, 1], [0, 1, 2], [0, 1, 2, 3], [0, 1, 2, 3, 4], [0, 1, 2, 3, 4, 5], [0, 1, 2, 3, 4, 5, 6], [0, 1, 2, 3, 4, 5, 6, 7], [0, 1, 2, 3, 4, 5, 6], [0, 1, 2, 3, 4, 5, 6, 9], [0, 1, 2, 3, 4, 5, 6], [0, 1, 2, 3, 4, 5, 6, 9, 10, 11], [0, 1, 2, 3, 4, 5, 6, 9, 10, 11, 12], [0, 1, 2, 3, 4, 5, 6, 9, 10, 11, 12, 13], [0, 1, 2, 3, 4, 5, 6, 7, 8, 9, 10, 11, 12, 13, 14], [0, 1, 2, 3, 4, 5, 6, 7, 8, 9, 10, 11, 12, 13, 14, 15], [0, 1, 2, 3, 4, 5, 6, 7, 8, 9, 10, 11, 12, 13, 14, 15, 16]] 15 ?_ ?_; (· kernel_rfl); (· kernel_rfl); refine st_by ff ?_))
                   refine Back.intro (i_1 + 1, least_89) ?_ ?_
                   · clear ff; rw [hM_1]; show out_47.length - (i_1 + 1) < out_47.length - i_1; omega
                   rw [hI_1]
                   refine ⟨⟨by clear ff; show i_1 + 1 ≤ out_47.length; omega, by show p_impl_Fetch_l1 out_47 (out_47.drop (i_1 + 1)) (i_1 + 1) least_89 = some q_1; rw [hd_1]; exact h_1⟩, ?_⟩
                   exact p_spec_Fetch_pv ff trivial
                  rw [if_pos c99] at h_1
                  have dc99 := beq_yes c99
                  by_cases c100 : least_89 < 0
                  · rw [if_pos c100] at h_1
                    have dc100 := decide_eq_true c100
                    have ff := ai @dc3 (ai @dc8 (ai @dc10 (ai @dc12 (ai @dc13 (ai @dc80 (ai @dr_1 (ai @w_1 (ai @g0_1 (ai @g1_1 (ai @g2_1 (ai @g3_1 (ai @g4_1 (ai @g5_1 (ai @g6_1 (ai @g7_1 (ai @g8_1 (ai @g9_1 (ai @g10_1 (ai @g11_1 (ai @kk1c (ai @kk1g0 (ai @kk1g1 (ai @kk1g2 (ai @kk1g3 (ai @dc99 (ai @dc100 p_impl_Fetch_tf.down))))))))))))))))))))))))))
                    try refine st_by ff ?_
                    repeat' (first | exact trivial | refine And.intro sd ?_ | (refine aw_drawn (id := 22) ?_ [[], [0], [0, 1], [0, 1, 2], [0, 1, 2, 3], [0, 1, 2, 3, 4], [0, 1, 2, 3, 4, 5], [0, 1, 2, 3, 4, 5, 6], [0, 1, 2, 3, 4, 5, 6, 7], [0, 1, 2, 3, 4, 5, 6], [0, 1, 2, 3, 4, 5, 6, 9], [0, 1, 2, 3, 4, 5, 6], [0, 1, 2, 3, 4, 5, 6, 9, 10, 11], [0, 1, 2, 3, 4, 5, 6, 9, 10, 11, 12], [0, 1, 2, 3, 4, 5, 6, 9, 10, 11, 12, 13], [0, 1, 2, 3, 4, 5, 6, 7, 8, 9, 10, 11, 12, 13, 14], [0, 1, 2, 3, 4, 5, 6, 7, 8, 9, 10, 11, 12, 13, 14, 15], [0, 1, 2, 3, 4, 5, 6, 7, 8, 9, 10, 11, 12, 13, 14, 15, 16]] 15 ?_ ?_; (· kernel_rfl); (· kernel_rfl); refine st_by ff ?_))
                    refine Back.intro (i_1 + 1, (i_1 : Int)) ?_ ?_
                    · clear ff; rw [hM_1]; show out_47.length - (i_1 + 1) < out_47.length - i_1; omega
                    rw [hI_1]
                    refine ⟨⟨by clear ff; show i_1 + 1 ≤ out_47.length; omega, by show p_impl_Fetch_l1 out_47 (out_47.drop (i_1 + 1)) (i_1 + 1) (i_1 : Int) = some q_1; rw [hd_1]; exact h_1⟩, ?_⟩
                    exact p_spec_Fetch_pv ff trivial
                  rw [if_neg c100] at h_1
                  have dc100 := decide_eq_false c100
                  obtain ⟨x101, ex101, h_1⟩ := Option.bind_eq_some_iff.1 h_1
                  try dsimp only at h_1
                  have f102a := idx_lo ex101
                  have f102b := idx_hi ex101
                  have f102c : (esResident out_47).drop (least_89.toNat * 4) = eResident x101 ++ esResident (out_47.drop (least_89.toNat + 1)) := drop_enc (fun _ => rfl) (idx_get ex101)
                  have f102g0 : (esResident out_47).getD (least_89.toNat * 4) .junk = (eResident x101).getD 0 .junk := getD_enc0 (enc := eResident) (sz := 4) (fun _ => rfl) (idx_get ex101) (by decide)
                  have f102g1 : (esResident out_47).getD (least_89.toNat * 4 + 1) .junk = (eResident x101).getD 1 .junk := getD_enc (enc := eResident) (sz := 4) (fun _ => rfl) (idx_get ex101) (by decide)
                  have f102g2 : (esResident out_47).getD (least_89.toNat * 4 + 2) .junk = (eResident x101).getD 2 .junk := getD_enc (enc := eResident) (sz := 4) (fun _ => rfl) (idx_get ex101) (by decide)
                  have f102g3 : (esResident out_47).getD (least_89.toNat * 4 + 3) .junk = (eResident x101).getD 3 .junk := getD_enc (enc := eResident) (sz := 4) (fun _ => rfl) (idx_get ex101) (by decide)
                  by_cases c103 : x_1.Used < x101.Used
                  case neg =>
                   rw [if_neg c103] at h_1
                   have dc103 := decide_eq_false c103
                   have ff := ai @dc3 (ai @dc8 (ai @dc10 (ai @dc12 (ai @dc13 (ai @dc80 (ai @dr_1 (ai @w_1 (ai @g0_1 (ai @g1_1 (ai @g2_1 (ai @g3_1 (ai @g4_1 (ai @g5_1 (ai @g6_1 (ai @g7_1 (ai @g8_1 (ai @g9_1 (ai @g10_1 (ai @g11_1 (ai @kk1c (ai @kk1g0 (ai @kk1g1 (ai @kk1g2 (ai @kk1g3 (ai @dc99 (ai @dc100 (ai @f102c (ai @f102g0 (ai @f102g1 (ai @f102g2 (ai @f102g3 (ai @dc103 p_impl_Fetch_tf.down))))))))))))))))))))))))))))))))
                   try refine st_by ff ?_
                   repeat' (first | exact trivial | refine And.intro sd ?_ | (refine aw_drawn (id := 22) ?_ [[], [0], [0, 1], [0, 1, 2], [0, 1, 2, 3], [0, 1, 2, 3, 4], [0, 1, 2, 3, 4, 5], [0, 1, 2, 3, 4, 5, 6], [0, 1, 2, 3, 4, 5, 6, 7], [0, 1, 2, 3, 4, 5, 6], [0, 1, 2, 3, 4, 5, 6, 9], [0, 1, 2, 3, 4, 5, 6], [0, 1, 2, 3, 4, 5, 6, 9, 10, 11], [0, 1, 2, 3, 4, 5, 6, 9, 10, 11, 12], [0, 1, 2, 3, 4, 5, 6, 9, 10, 11, 12, 13], [0, 1, 2, 3, 4, 5, 6, 7, 8, 9, 10, 11, 12, 13, 14], [0, 1, 2, 3, 4, 5, 6, 7, 8, 9, 10, 11, 12, 13, 14, 15], [0, 1, 2, 3, 4, 5, 6, 7, 8, 9, 10, 11, 12, 13, 14, 15, 16]] 15 ?_ ?_; (· kernel_rfl); (· kernel_rfl); refine st_by ff ?_))
                   refine Back.intro (i_1 + 1, least_89) ?_ ?_
                   · clear ff; rw [hM_1]; show out_47.length - (i_1 + 1) < out_47.length - i_1; omega
                   rw [hI_1]
                   refine ⟨⟨by clear ff; show i_1 + 1 ≤ out_47.length; omega, by show p_impl_Fetch_l1 out_47 (out_47.drop (i_1 + 1)) (i_1 + 1) least_89 = some q_1; rw [hd_1]; exact h_1⟩, ?_⟩
                   exact p_spec_Fetch_pv ff trivial
                  rw [if_pos c103] at h_1
                  have dc103 := decide_eq_true c103
                  have ff := ai @dc3 (ai @dc8 (ai @dc10 (ai @dc12 (ai @dc13 (ai @dc80 (ai @dr_1 (ai @w_1 (ai @g0_1 (ai @g1_1 (ai @g2_1 (ai @g3_1 (ai @g4_1 (ai @g5_1 (ai @g6_1 (ai @g7_1 (ai @g8_1 (ai @g9_1 (ai @g10_1 (ai @g11_1 (ai @kk1c (ai @kk1g0 (ai @kk1g1 (ai @kk1g2 (ai @kk1g3 (ai @dc99 (ai @dc100 (ai @f102c (ai @f102g0 (ai @f102g1 (ai @f102g2 (ai @f102g3 (ai @dc103 p_impl_Fetch_tf.down))))))))))))))))))))))))))))))))
                  try refine st_by ff ?_
                  repeat' (first | exact trivial | refine And.intro sd ?_ | (refine aw_drawn (id := 22) ?_ [[], [0], [0, 1], [0, 1, 2], [0, 1, 2, 3], [0, 1, 2, 3, 4], [0, 1, 2, 3, 4, 5], [0, 1, 2, 3, 4, 5, 6], [0, 1, 2, 3, 4, 5, 6, 7], [0, 1, 2, 3, 4, 5, 6], [0, 1, 2, 3, 4, 5, 6, 9], [0, 1, 2, 3, 4, 5, 6], [0, 1, 2, 3, 4, 5, 6, 9, 10, 11], [0, 1, 2, 3, 4, 5, 6, 9, 10, 11, 12], [0, 1, 2, 3, 4, 5, 6, 9, 10, 11, 12, 13], [0, 1, 2, 3, 4, 5, 6, 7, 8, 9, 10, 11, 12, 13, 14], [0, 1, 2, 3, 4, 5, 6, 7, 8, 9, 10, 11, 12, 13, 14, 15], [0, 1, 2, 3, 4, 5, 6, 7, 8, 9, 10, 11, 12, 13, 14, 15, 16]] 15 ?_ ?_; (· kernel_rfl); (· kernel_rfl); refine st_by ff ?_))
                  refine Back.intro (i_1 + 1, (i_1 : Int)) ?_ ?_
                  · clear ff; rw [hM_1]; show out_47.length - (i_1 + 1) < out_47.length - i_1; omega
                  rw [hI_1]
                  refine ⟨⟨by clear ff; show i_1 + 1 ≤ out_47.length; omega, by show p_impl_Fetch_l1 out_47 (out_47.drop (i_1 + 1)) (i_1 + 1) (i_1 : Int) = some q_1; rw [hd_1]; exact h_1⟩, ?_⟩
                  exact p_spec_Fetch_pv ff trivial
              · try clear ff
                rintro σ hg_1
                rw [hJ_1] at hg_1
                obtain ⟨least_89, hj_1, g0_1a, g1_1a, g2_1a, g3_1a, g4_1a, g5_1a, g6_1a, g7_1a, g8_1a⟩ := hg_1
                have hjj_1 := Option.some.inj hj_1
                subst hjj_1
                try dsimp only at h_0
                obtain ⟨x104, ex104, h_0⟩ := Option.bind_eq_some_iff.1 h_0
                try dsimp only at h_0
                have f105a := idx_lo ex104
                have f105b := idx_hi ex104
                have f105c : (esResident out_47).drop (least_89.toNat * 4) = eResident x104 ++ esResident (out_47.drop (least_89.toNat + 1)) := drop_enc (fun _ => rfl) (idx_get ex104)
                have f105g0 : (esResident out_47).getD (least_89.toNat * 4) .junk = (eResident x104).getD 0 .junk := getD_enc0 (enc := eResident) (sz := 4) (fun _ => rfl) (idx_get ex104) (by decide)
                have f105g1 : (esResident out_47).getD (least_89.toNat * 4 + 1) .junk = (eResident x104).getD 1 .junk := getD_enc (enc := eResident) (sz := 4) (fun _ => rfl) (idx_get ex104) (by decide)
                have f105g2 : (esResident out_47).getD (least_89.toNat * 4 + 2) .junk = (eResident x104).getD 2 .junk := getD_enc (enc := eResident) (sz := 4) (fun _ => rfl) (idx_get ex104) (by decide)
                have f105g3 : (esResident out_47).getD (least_89.toNat * 4 + 3) .junk = (eResident x104).getD 3 .junk := getD_enc (enc := eResident) (sz := 4) (fun _ => rfl) (idx_get ex104) (by decide)
                by_cases c106 : gone_48.length < 4294967296
                case neg => rw [if_neg c106] at h_0; cases h_0
                rw [if_pos c106] at h_0
                have a107a : esStr gone_48 ++ [S x104.Name] = esStr (gone_48 ++ [x104.Name]) := by simp [esStr_app, esStr_cons, esStr_nil, eStr_eq, esStr_nil, esStore_nil, esResident_nil]
                have a107b : gone_48.length + 1 = (gone_48 ++ [x104.Name]).length := by simp
                obtain ⟨v108, ev108, h_0⟩ := Option.bind_eq_some_iff.1 h_0
                try dsimp only at h_0
                have ff := ai @dc3 (ai @dc8 (ai @dc10 (ai @dc12 (ai @dc13 (ai @dc80 (ai @g0_1a (ai @g1_1a (ai @g2_1a (ai @g3_1a (ai @g4_1a (ai @g5_1a (ai @g6_1a (ai @g7_1a (ai @g8_1a (ai @f105c (ai @f105g0 (ai @f105g1 (ai @f105g2 (ai @f105g3 (ai @a107a (ai @a107b p_impl_Fetch_tf.down)))))))))))))))))))))
                try refine st_by ff ?_
                repeat' (first | exact trivial | refine And.intro sd ?_)
                (refine cq_X [(9, [2])] (delResident_does out_47 least_89 (IntKind.i64.wrap (least_89 + 1)) v108 ev108) (hf_by ff) kr (by first | decide | simp) ⟨p_spec_Fetch_sa ff trivial, ?_⟩; clear ff)
                have ff := ai @dc3 (ai @dc8 (ai @dc10 (ai @dc12 (ai @dc13 (ai @dc80 (ai @g0_1a (ai @g1_1a (ai @g2_1a (ai @g3_1a (ai @g4_1a (ai @g5_1a (ai @g6_1a (ai @g7_1a (ai @g8_1a (ai @f105c (ai @f105g0 (ai @f105g1 (ai @f105g2 (ai @f105g3 (ai @a107a (ai @a107b (ai @isPre0 (ai @isPre1 (ai @isPre2 p_impl_Fetch_tf.down))))))))))))))))))))))))
                try refine st_by ff ?_
                repeat' (first | exact trivial | refine And.intro sd ?_)
                refine Back.intro (n_0, v108, (gone_48 ++ [x104.Name])) ?_ ?_
                · rw [hM_0]; exact Nat.lt_succ_self _
                rw [hI_0]
                refine ⟨h_0, ?_⟩
                exact p_spec_Fetch_pv ff trivial
          · try clear ff
            rintro σ hg_0
            rw [hJ_0] at hg_0
            obtain ⟨out_47, gone_48, hj_0, g0_0a, g1_0a, g2_0a, g3_0a, g4_0a, g5_0a, g6_0a, g7_0a⟩ := hg_0
            cases hj_0
            try dsimp only at h
            obtain ⟨v109, ev109, h⟩ := Option.bind_eq_some_iff.1 h
            try dsimp only at h
            have ff := ai @dc3 (ai @dc8 (ai @dc10 (ai @dc12 (ai @dc13 (ai @g0_0a (ai @g1_0a (ai @g2_0a (ai @g3_0a (ai @g4_0a (ai @g5_0a (ai @g6_0a (ai @g7_0a p_impl_Fetch_tf.down))))))))))))
            try refine st_by ff ?_
            repeat' (first | exact trivial | refine And.intro sd ?_)
            first
            | (refine cq_lend (p_impl_Store_place_does N (⟨v4.Budget, (IntKind.i64.wrap (v4.Clock + 1)), out_47⟩ : GStore) name_a1 v109 ev109) (hf_by ff) kr ⟨p_spec_Fetch_sa ff trivial, ?_⟩; clear ff)
            | (refine cq_dlend (p_impl_Store_place_does N (⟨v4.Budget, (IntKind.i64.wrap (v4.Clock + 1)), out_47⟩ : GStore) name_a1 v109 ev109) (hf_by ff) kr ⟨p_spec_Fetch_sa ff trivial, ?_⟩; clear ff)
            obtain ⟨v110, ev110, h⟩ := Option.bind_eq_some_iff.1 h
            try dsimp only at h
            have ff := ai @dc3 (ai @dc8 (ai @dc10 (ai @dc12 (ai @dc13 (ai @g0_0a (ai @g1_0a (ai @g2_0a (ai @g3_0a (ai @g4_0a (ai @g5_0a (ai @g6_0a (ai @g7_0a p_impl_Fetch_tf.down))))))))))))
            try refine st_by ff ?_
            repeat' (first | exact trivial | refine And.intro sd ?_)
            (refine cq_X [(9, [2]), (161, [])] (insResident_does out_47 v109.1 ([(⟨name_a1, size_a2, 1, (IntKind.i64.wrap (v4.Clock + 1))⟩ : GResident)] : List GResident) v110 ev110) (hf_by ff) kr (by first | decide | simp) ⟨p_spec_Fetch_sa ff trivial, ?_⟩; clear ff)
            have ff := ai @dc3 (ai @dc8 (ai @dc10 (ai @dc12 (ai @dc13 (ai @g0_0a (ai @g1_0a (ai @g2_0a (ai @g3_0a (ai @g4_0a (ai @g5_0a (ai @g6_0a (ai @g7_0a (ai @isPre0 (ai @isPre1 (ai @isPre2 p_impl_Fetch_tf.down)))))))))))))))
            try refine st_by ff ?_
            repeat' (first | exact trivial | refine And.intro sd ?_)
            cases h
            exact ret_q3 rfl (p_spec_Fetch_rt ff trivial)
        have hrt_3 := fun σ : ASt => congrFun (congrFun hk_3.symm AX.rt) σ
        have hex_3 := fun (i : Nat) (σ : ASt) => congrFun (congrFun hk_3.symm (AX.ex i)) σ
        by_cases c111 : v5.2 = true
        · rw [if_pos c111] at h
          have dc111 := c111
          have ff := ai @dc3 (ai @dc8 (ai @g0_j2 (ai @g1_j2 (ai @g2_j2 (ai @g3_j2 (ai @g4_j2 (ai @g5_j2 (ai @g6_j2 (ai @g7_j2 (ai @g8_j2 (ai @g9_j2 (ai @g10_j2 (ai @dc10 (ai @hrt_3 (ai @hex_3 (ai @dc111 p_impl_Fetch_tf.down))))))))))))))))
          try refine st_by ff ?_
          repeat' (first | exact trivial | refine And.intro sd ?_)
          refine key_3 _ ?_
          refine ⟨false, h, ?_⟩
          exact p_spec_Fetch_pv ff trivial
        rw [if_neg c111] at h
        have dc111 := eq_false_of_ne_true c111
        obtain ⟨v112, ev112, h⟩ := Option.bind_eq_some_iff.1 h
        try dsimp only at h
        have ff := ai @dc3 (ai @dc8 (ai @g0_j2 (ai @g1_j2 (ai @g2_j2 (ai @g3_j2 (ai @g4_j2 (ai @g5_j2 (ai @g6_j2 (ai @g7_j2 (ai @g8_j2 (ai @g9_j2 (ai @g10_j2 (ai @dc10 (ai @hrt_3 (ai @hex_3 (ai @dc111 p_impl_Fetch_tf.down))))))))))))))))
        try refine st_by ff ?_
        repeat' (first | exact trivial | refine And.intro sd ?_)
        first
        | (refine cq_own (p_impl_Store_heldOnly_does N s_a0 v112 ev112) (hf_by ff) kr ⟨p_spec_Fetch_sa ff trivial, ?_⟩; clear ff)
        | (refine cq_down (p_impl_Store_heldOnly_does N s_a0 v112 ev112) (hf_by ff) kr ⟨p_spec_Fetch_sa ff trivial, ?_⟩; clear ff)
        obtain ⟨v113, ev113, h⟩ := Option.bind_eq_some_iff.1 h
        try dsimp only at h
        have ff := ai @dc3 (ai @dc8 (ai @g0_j2 (ai @g1_j2 (ai @g2_j2 (ai @g3_j2 (ai @g4_j2 (ai @g5_j2 (ai @g6_j2 (ai @g7_j2 (ai @g8_j2 (ai @g9_j2 (ai @g10_j2 (ai @dc10 (ai @hrt_3 (ai @hex_3 (ai @dc111 p_impl_Fetch_tf.down))))))))))))))))
        try refine st_by ff ?_
        repeat' (first | exact trivial | refine And.intro sd ?_)
        first
        | (refine cq_lend (p_impl_Store_room_does (⟨v112.Budget, v112.Clock, v112.In⟩ : GStore) size_a2 v113 ev113) (hf_by ff) kr ⟨p_spec_Fetch_sa ff trivial, ?_⟩; clear ff)
        | (refine cq_dlend (p_impl_Store_room_does (⟨v112.Budget, v112.Clock, v112.In⟩ : GStore) size_a2 v113 ev113) (hf_by ff) kr ⟨p_spec_Fetch_sa ff trivial, ?_⟩; clear ff)
        have ff := ai @dc3 (ai @dc8 (ai @g0_j2 (ai @g1_j2 (ai @g2_j2 (ai @g3_j2 (ai @g4_j2 (ai @g5_j2 (ai @g6_j2 (ai @g7_j2 (ai @g8_j2 (ai @g9_j2 (ai @g10_j2 (ai @dc10 (ai @hrt_3 (ai @hex_3 (ai @dc111 p_impl_Fetch_tf.down))))))))))))))))
        try refine st_by ff ?_
        repeat' (first | exact trivial | refine And.intro sd ?_)
        refine key_3 _ ?_
        refine ⟨!v113, h, ?_⟩
        exact p_spec_Fetch_pv ff trivial
      have hrt_2 := fun σ : ASt => congrFun (congrFun hk_2.symm AX.rt) σ
      have hex_2 := fun (i : Nat) (σ : ASt) => congrFun (congrFun hk_2.symm (AX.ex i)) σ
      by_cases c114 : v5.2 = true
      case neg =>
       rw [if_neg c114] at h
       have dc114 := eq_false_of_ne_true c114
       have ff := ai @dc3 (ai @g0_j1 (ai @g1_j1 (ai @g2_j1 (ai @g3_j1 (ai @g4_j1 (ai @g5_j1 (ai @g6_j1 (ai @g7_j1 (ai @g8_j1 (ai @g9_j1 (ai @g10_j1 (ai @dc8 (ai @hrt_2 (ai @hex_2 (ai @dc114 p_impl_Fetch_tf.down)))))))))))))))
       try refine st_by ff ?_
       repeat' (first | exact trivial | refine And.intro sd ?_)
       refine key_2 _ ?_
       refine ⟨false, h, ?_⟩
       exact p_spec_Fetch_pv ff trivial
      rw [if_pos c114] at h
      have dc114 := c114
      obtain ⟨x115, ex115, h⟩ := Option.bind_eq_some_iff.1 h
      try dsimp only at h
      have f116a := idx_lo ex115
      have f116b := idx_hi ex115
      have f116c : (esResident s_a0.In).drop (v5.1.toNat * 4) = eResident x115 ++ esResident (s_a0.In.drop (v5.1.toNat + 1)) := drop_enc (fun _ => rfl) (idx_get ex115)
      by_cases c117 : x115.Size = size_a2
      case neg =>
       rw [if_neg c117] at h
       have dc117 := beq_no c117
       have ff := ai @dc3 (ai @g0_j1 (ai @g1_j1 (ai @g2_j1 (ai @g3_j1 (ai @g4_j1 (ai @g5_j1 (ai @g6_j1 (ai @g7_j1 (ai @g8_j1 (ai @g9_j1 (ai @g10_j1 (ai @dc8 (ai @hrt_2 (ai @hex_2 (ai @dc114 (ai @f116c (ai @dc117 p_impl_Fetch_tf.down)))))))))))))))))
       try refine st_by ff ?_
       repeat' (first | exact trivial | refine And.intro sd ?_)
       refine key_2 _ ?_
       refine ⟨true, h, ?_⟩
       exact p_spec_Fetch_pv ff trivial
      rw [if_pos c117] at h
      have dc117 := beq_yes c117
      have ff := ai @dc3 (ai @g0_j1 (ai @g1_j1 (ai @g2_j1 (ai @g3_j1 (ai @g4_j1 (ai @g5_j1 (ai @g6_j1 (ai @g7_j1 (ai @g8_j1 (ai @g9_j1 (ai @g10_j1 (ai @dc8 (ai @hrt_2 (ai @hex_2 (ai @dc114 (ai @f116c (ai @dc117 p_impl_Fetch_tf.down)))))))))))))))))
      try refine st_by ff ?_
      repeat' (first | exact trivial | refine And.intro sd ?_)
      refine key_2 _ ?_
      refine ⟨(x115.Held == 1000), h, ?_⟩
      exact p_spec_Fetch_pv ff trivial
    have hrt_1 := fun σ : ASt => congrFun (congrFun hk_1.symm AX.rt) σ
    have hex_1 := fun (i : Nat) (σ : ASt) => congrFun (congrFun hk_1.symm (AX.ex i)) σ
    by_cases c118 : (goodName name_a1) = true
    case neg =>
     rw [if_neg c118] at h
     have dc118 := eq_false_of_ne_true c118
     have ff := ai @g0_j0 (ai @g1_j0 (ai @g2_j0 (ai @g3_j0 (ai @g4_j0 (ai @g5_j0 (ai @g6_j0 (ai @dc3 (ai @hrt_1 (ai @hex_1 (ai @dc118 p_impl_Fetch_tf.down))))))))))
     try refine st_by ff ?_
     repeat' (first | exact trivial | refine And.intro sd ?_)
     refine key_1 _ ?_
     refine ⟨true, h, ?_⟩
     exact p_spec_Fetch_pv ff trivial
    rw [if_pos c118] at h
    have dc118 := c118
    have ff := ai @g0_j0 (ai @g1_j0 (ai @g2_j0 (ai @g3_j0 (ai @g4_j0 (ai @g5_j0 (ai @g6_j0 (ai @dc3 (ai @hrt_1 (ai @hex_1 (ai @dc118 p_impl_Fetch_tf.down))))))))))
    try refine st_by ff ?_
    repeat' (first | exact trivial | refine And.intro sd ?_)
    first
    | (refine cq_call (inRange_does size_a2 1 100000) (hf_by ff) kr ⟨p_spec_Fetch_sa ff trivial, ?_⟩; clear ff)
    | (refine cq_dcall (inRange_does size_a2 1 100000) (hf_by ff) kr ⟨p_spec_Fetch_sa ff trivial, ?_⟩; clear ff)
    have ff := ai @g0_j0 (ai @g1_j0 (ai @g2_j0 (ai @g3_j0 (ai @g4_j0 (ai @g5_j0 (ai @g6_j0 (ai @dc3 (ai @hrt_1 (ai @hex_1 (ai @dc118 p_impl_Fetch_tf.down))))))))))
    try refine st_by ff ?_
    repeat' (first | exact trivial | refine And.intro sd ?_)
    refine key_1 _ ?_
    refine ⟨!(rng size_a2 1 100000), h, ?_⟩
    exact p_spec_Fetch_pv ff trivial
  have hrt_0 := fun σ : ASt => congrFun (congrFun hk_0.symm AX.rt) σ
  have hex_0 := fun (i : Nat) (σ : ASt) => congrFun (congrFun hk_0.symm (AX.ex i)) σ
  by_cases c119 : v1 = true
  case neg =>
   rw [if_neg c119] at h
   have dc119 := eq_false_of_ne_true c119
   have ff := ai @hrt_0 (ai @hex_0 (ai @dc119 p_impl_Fetch_tf.down))
   try refine st_by ff ?_
   repeat' (first | exact trivial | refine And.intro sd ?_)
   refine key_0 _ ?_
   refine ⟨true, h, ?_⟩
   exact p_spec_Fetch_pv ff trivial
  rw [if_pos c119] at h
  have dc119 := c119
  have ff := ai @hrt_0 (ai @hex_0 (ai @dc119 p_impl_Fetch_tf.down))
  try refine st_by ff ?_
  repeat' (first | exact trivial | refine And.intro sd ?_)
  refine key_0 _ ?_
  refine ⟨(s_a0.Clock == 100000), h, ?_⟩
  exact p_spec_Fetch_pv ff trivial
end Go.Av
