/- spec.l26Find -/
import Derived.Test.YtlcdgjgenccakaaDoorCK4
import Derived.Test.YtlcdgjgenccakaaDoorCK3
import Derived.RangeFuncNested
import Derived.RangeFuncBound
import Derived.RangeFuncCalls
import Derived.RangeFuncLeaves
import Derived.Shelf.Abstract
import Derived.Shelf.RegionOpen
import Derived.WalkKit
import Derived.OwnWalkIn
import Derived.TacticsInMore
import Derived.LoopNIn
import Derived.LoopIn
import Derived.Test.YtlcdgjgenccakaaDoorProg
section
set_option linter.unusedSimpArgs false
set_option linter.unusedVariables false
set_option maxRecDepth 100000
set_option maxHeartbeats 1000000
namespace Go.Av
open Go.Proofs
/-! spec.l26Find -/
def p_spec_l26Find_l0 (path_a1 : ByteArray) : List GProp → Nat → Option (LR (ByteArray × Bool) (Unit))
  | [], i_0 => some (.out ())
  | x_0 :: r_0, i_0 => (if x_0.Path = path_a1 then some (.ret (x_0.Value, true)) else p_spec_l26Find_l0 path_a1 r_0 (i_0 + 1))
theorem p_spec_l26Find_pv {F C A : Prop} (hF : F) (hC : C) (h : F → C → A := by intro hF hC; first | exact cl_by hF | (refine st_by hF ?_; (repeat' (first | exact trivial | apply And.intro)); all_goals (clear hF; first | rfl | (simp only [hC, List.length_append, List.length_cons, List.length_nil, List.append_nil, List.nil_append, List.cons_append, List.length_set, List.append_assoc, Nat.zero_add, List.length_replicate, esProp_app, esProp_cons, esProp_nil, eProp_eq]; done) | (simp [hC, List.length_append, List.length_cons, List.length_nil, List.append_nil, List.nil_append, List.cons_append, List.length_set, List.append_assoc, Nat.zero_add, List.length_replicate, esProp_app, esProp_cons, esProp_nil, eProp_eq]; done) | omega))) : A := h hF hC
theorem p_spec_l26Find_rt {F C A : Prop} (hF : F) (hC : C) (h : F → C → A := by intro hF hC; first | (refine sr_by hF ?_; (repeat' (first | exact trivial | apply And.intro)); all_goals (clear hF; first | rfl | (simp only [hC, List.length_append, List.length_cons, List.length_nil, List.append_nil, List.nil_append, List.cons_append, List.length_set, List.append_assoc, Nat.zero_add, List.length_replicate, esProp_app, esProp_cons, esProp_nil, eProp_eq]; done) | (simp [hC, List.length_append, List.length_cons, List.length_nil, List.append_nil, List.nil_append, List.cons_append, List.length_set, List.append_assoc, Nat.zero_add, List.length_replicate, esProp_app, esProp_cons, esProp_nil, eProp_eq]; done) | omega)) | (first | rfl | (simp only [hC, List.length_append, List.length_cons, List.length_nil, List.append_nil, List.nil_append, List.cons_append, List.length_set, List.append_assoc, Nat.zero_add, List.length_replicate, esProp_app, esProp_cons, esProp_nil, eProp_eq]; done) | (simp [hC, List.length_append, List.length_cons, List.length_nil, List.append_nil, List.nil_append, List.cons_append, List.length_set, List.append_assoc, Nat.zero_add, List.length_replicate, esProp_app, esProp_cons, esProp_nil, eProp_eq]; done) | omega)) : A := h hF hC
def p_spec_l26Find_tf := PLift.up (ai @eProp_eq (ai @esProp_len (ai @esProp_nil (ai @esProp_leaf (ai @esProp_fit (ai @esProp_share (ai @esProp_pure (ai @str_beq (ai @Ty.sl28 (ai @Ty.slz28 (ai @Ty.nz71 (ai @Ty.ldA71 (ai @Ty.sz71 (ai @Ty.szn71 (ai @Ty.nz9 (ai @Ty.ldA9 (ai @Ty.ldS9 (ai @Ty.sz9 (ai @Ty.szn9 (ai @Ty.fo71_0 (ai @Ty.fk71_0 (ai @Ty.fs71_0 (ai @Ty.fn71_0 (ai @Ty.fo71_1 (ai @Ty.fk71_1 (ai @Ty.fs71_1 (ai @Ty.fn71_1 (ai @Ty.zv71 @trivial))))))))))))))))))))))))))))
def p_spec_l26Find (l_a0 : List GProp) (path_a1 : ByteArray) : Option (ByteArray × Bool) := ((p_spec_l26Find_l0 path_a1 l_a0 0).bind fun q_0 => match q_0 with | .ret r_ => some r_ | .out _ => some ((⟨#[]⟩ : ByteArray), false))
theorem p_spec_l26Find_does (l_a0 : List GProp) (path_a1 : ByteArray) (r : ByteArray × Bool) (h : p_spec_l26Find l_a0 path_a1 = some r) : Does Tryd.prog 44 [.row false 2 l_a0.length (esProp l_a0), S path_a1] (.tup [S r.1, B r.2]) := by
  rw [p_spec_l26Find] at h
  refine Does.bnd (fun hb => ?_)
  have hb2 : l_a0.length ≤ 9223372036854775807 := by simpa [AV.fitNs, AV.fitN] using hb
  have hl0 := hb2
  refine Does.walk (nt := 21) Tryd.func44 rfl rfl (by simp) (by decide) rfl (fun G0 X w0 pv => ?_)
  have hL_0 : l_a0.length ≤ 9223372036854775807 := by first | assumption | omega
  obtain ⟨q_0, eq_0, h⟩ := Option.bind_eq_some_iff.1 h
  have ff := p_spec_l26Find_tf.down
  try refine st_by ff ?_
  repeat' (first | exact trivial | refine And.intro sd ?_)
  obtain ⟨I_0, hI_0⟩ : ∃ I_ : (Nat) → ASt → Prop, I_ = (fun (i_0 : Nat) σ => (i_0 ≤ l_a0.length ∧ p_spec_l26Find_l0 path_a1 (l_a0.drop i_0) i_0 = some q_0) ∧ σ.t 1 = S path_a1 ∧ σ.t 8 = .row false 2 l_a0.length (esProp l_a0) ∧ σ.t 9 = I (l_a0.length : Int) ∧ σ.t 10 = I (i_0 : Int)) := ⟨_, rfl⟩
  obtain ⟨M_0, hM_0⟩ : ∃ M_ : (Nat) → Nat, M_ = (fun (i_0 : Nat) => l_a0.length - i_0) := ⟨_, rfl⟩
  obtain ⟨J_0, hJ_0⟩ : ∃ J_ : ASt → Prop, J_ = (fun σ => (some (.out ()) = some q_0) ∧ True) := ⟨_, rfl⟩
  refine aw_loopC (id := 0) I_0 M_0 J_0 (0) ?_ ?_ ?_
  · rw [hI_0]
    refine ⟨⟨Nat.zero_le _, eq_0⟩, ?_⟩
    exact p_spec_l26Find_pv ff trivial
  · try clear ff
    rintro i_0 σ hg_0
    rw [hI_0] at hg_0
    obtain ⟨⟨hi_0, h_0⟩, g0_0, g1_0, g2_0, g3_0⟩ := hg_0
    cases hr_0 : l_a0.drop i_0 with
    | nil =>
      rw [hr_0] at h_0
      rw [p_spec_l26Find_l0] at h_0
      have hn_0 := drop_nil hr_0
      have dr_0 : decide ((i_0 : Int) < (l_a0.length : Int)) = false := decide_eq_false (by omega)
      have ff := ai @dr_0 (ai @g0_0 (ai @g1_0 (ai @g2_0 (ai @g3_0 p_spec_l26Find_tf.down))))
      try refine st_by ff ?_
      repeat' (first | exact trivial | refine And.intro sd ?_)
      refine JW.intro ?_
      rw [hJ_0]
      refine ⟨h_0, ?_⟩
      exact p_spec_l26Find_pv ff trivial
    | cons x_0 r_0 =>
      rw [hr_0] at h_0
      rw [p_spec_l26Find_l0] at h_0
      obtain ⟨ht_0, hg_0, hd_0⟩ := drop_cons hr_0
      have dr_0 : decide ((i_0 : Int) < (l_a0.length : Int)) = true := decide_eq_true (by omega)
      have w_0 : IntKind.i64.wrap ((i_0 : Int) + 1) = ((i_0 + 1 : Nat) : Int) := wI _ (by omega) (by omega)
      have kk0c : (esProp l_a0).drop (i_0 * 2) = eProp x_0 ++ esProp (l_a0.drop (i_0 + 1)) := drop_enc (fun _ => rfl) (hg_0)
      by_cases c10 : x_0.Path = path_a1
      · rw [if_pos c10] at h_0
        have dc10 := decide_eq_true c10
        cases h_0
        try dsimp only at h
        have ff := ai @dr_0 (ai @w_0 (ai @g0_0 (ai @g1_0 (ai @g2_0 (ai @g3_0 (ai @kk0c (ai @dc10 p_spec_l26Find_tf.down)))))))
        try refine st_by ff ?_
        repeat' (first | exact trivial | refine And.intro sd ?_)
        cases h
        exact ret_q2 rfl (p_spec_l26Find_rt ff trivial)
      rw [if_neg c10] at h_0
      have dc10 := decide_eq_false c10
      have ff := ai @dr_0 (ai @w_0 (ai @g0_0 (ai @g1_0 (ai @g2_0 (ai @g3_0 (ai @kk0c (ai @dc10 p_spec_l26Find_tf.down)))))))
      try refine st_by ff ?_
      repeat' (first | exact trivial | refine And.intro sd ?_)
      refine Back.intro (i_0 + 1) ?_ ?_
      · clear ff; rw [hM_0]; show l_a0.length - (i_0 + 1) < l_a0.length - i_0; omega
      rw [hI_0]
      refine ⟨⟨by clear ff; show i_0 + 1 ≤ l_a0.length; omega, by show p_spec_l26Find_l0 path_a1 (l_a0.drop (i_0 + 1)) (i_0 + 1) = some q_0; rw [hd_0]; exact h_0⟩, ?_⟩
      exact p_spec_l26Find_pv ff trivial
  · try clear ff
    rintro σ hg_0
    rw [hJ_0] at hg_0
    obtain ⟨hj_0, _⟩ := hg_0
    cases hj_0
    try dsimp only at h
    have ff := p_spec_l26Find_tf.down
    try refine st_by ff ?_
    repeat' (first | exact trivial | refine And.intro sd ?_)
    cases h
    exact ret_q2 rfl (p_spec_l26Find_rt ff trivial)
/-! spec.l26Lay -/
def p_spec_l26Lay_j1 (path_a1 : ByteArray) (x_0 : GProp) (i_0 : Nat) (rec_0 : Nat → Bool → (List GProp) → Option (Bool × (List GProp))) (put_29 : Bool) (out_30 : List GProp) : Option (Bool × (List GProp)) := (if x_0.Path = path_a1 then rec_0 (i_0 + 1) put_29 out_30 else (if out_30.length < 4294967296 then rec_0 (i_0 + 1) put_29 (out_30 ++ [x_0]) else none))
def p_spec_l26Lay_j0 (path_a1 : ByteArray) (value_a2 : ByteArray) (put_12 : Bool) (out_14 : List GProp) (x_0 : GProp) (i_0 : Nat) (rec_0 : Nat → Bool → (List GProp) → Option (Bool × (List GProp))) (b_28 : Bool) : Option (Bool × (List GProp)) := (if b_28 = true then (if out_14.length < 4294967296 then p_spec_l26Lay_j1 path_a1 x_0 i_0 (rec_0) true (out_14 ++ [(⟨path_a1, value_a2⟩ : GProp)]) else none) else p_spec_l26Lay_j1 path_a1 x_0 i_0 (rec_0) put_12 out_14)
def p_spec_l26Lay_l0 (path_a1 : ByteArray) (value_a2 : ByteArray) : List GProp → Nat → Bool → (List GProp) → Option (Bool × (List GProp))
  | [], i_0, put_12, out_14 => some (put_12, out_14)
  | x_0 :: r_0, i_0, put_12, out_14 => (if put_12 = true then p_spec_l26Lay_j0 path_a1 value_a2 put_12 out_14 x_0 i_0 (p_spec_l26Lay_l0 path_a1 value_a2 r_0) false else p_spec_l26Lay_j0 path_a1 value_a2 put_12 out_14 x_0 i_0 (p_spec_l26Lay_l0 path_a1 value_a2 r_0) (!(Op.bytesLess x_0.Path.toList path_a1.toList)))
def p_spec_l26Lay_tf := PLift.up (ai @eProp_eq (ai @esProp_len (ai @esProp_nil (ai @esProp_leaf (ai @esProp_fit (ai @esProp_share (ai @esProp_pure (ai @str_beq (ai @Ty.sl28 (ai @Ty.slz28 (ai @Ty.nz71 (ai @Ty.ldA71 (ai @Ty.sz71 (ai @Ty.szn71 (ai @Ty.nz9 (ai @Ty.ldA9 (ai @Ty.ldS9 (ai @Ty.sz9 (ai @Ty.szn9 (ai @Ty.fo71_0 (ai @Ty.fk71_0 (ai @Ty.fs71_0 (ai @Ty.fn71_0 (ai @Ty.nze28 (ai @Ty.zok28 (ai @Ty.by28 (ai @Ty.zs28 (ai @Ty.zv71 (ai @Ty.bd71 (ai @Ty.pl71_0 (ai @Ty.pl71_1 @trivial)))))))))))))))))))))))))))))))
def p_spec_l26Lay (l_a0 : List GProp) (path_a1 : ByteArray) (value_a2 : ByteArray) (has_a3 : Bool) : Option (List GProp) := ((p_spec_l26Lay_l0 path_a1 value_a2 l_a0 0 (!has_a3) ([] : List GProp)).bind fun q_0 => match q_0 with | (put_12, out_14) => (if put_12 = true then some out_14 else (if out_14.length < 4294967296 then some (out_14 ++ [(⟨path_a1, value_a2⟩ : GProp)]) else none)))
theorem p_spec_l26Lay_does (l_a0 : List GProp) (path_a1 : ByteArray) (value_a2 : ByteArray) (has_a3 : Bool) (r : List GProp) (h : p_spec_l26Lay l_a0 path_a1 value_a2 has_a3 = some r) : Does Tryd.prog 53 [.row false 2 l_a0.length (esProp l_a0), S path_a1, S value_a2, B has_a3] (.row true 2 r.length (esProp r)) := by
  rw [p_spec_l26Lay] at h
  refine Does.bnd (fun hb => ?_)
  have hb2 : l_a0.length ≤ 9223372036854775807 := by simpa [AV.fitNs, AV.fitN] using hb
  have hl0 := hb2
  refine Does.walk (nt := 53) Tryd.func53 rfl rfl (by simp) (by decide) rfl (fun G0 X w0 pv => ?_)
  have hL_0 : l_a0.length ≤ 9223372036854775807 := by first | assumption | omega
  obtain ⟨q_0, eq_0, h⟩ := Option.bind_eq_some_iff.1 h
  have ff := p_spec_l26Lay_tf.down
  try refine st_by ff ?_
  repeat' (first | exact trivial | refine And.intro sd ?_)
  obtain ⟨I_0, hI_0⟩ : ∃ I_ : (Nat × Bool × (List GProp)) → ASt → Prop, I_ = (fun (a : Nat × Bool × (List GProp)) σ => match a with | (i_0, put_12, out_14) => (i_0 ≤ l_a0.length ∧ p_spec_l26Lay_l0 path_a1 value_a2 (l_a0.drop i_0) i_0 put_12 out_14 = some q_0) ∧ σ.t 1 = S path_a1 ∧ σ.t 2 = S value_a2 ∧ σ.t 9 = .sl 9 [] 0 out_14.length ∧ σ.t 10 = B put_12 ∧ σ.t 15 = .row false 2 l_a0.length (esProp l_a0) ∧ σ.t 16 = I (l_a0.length : Int) ∧ σ.t 17 = I (i_0 : Int) ∧ σ.m 9 = some (.row true 2 out_14.length (esProp out_14))) := ⟨_, rfl⟩
  obtain ⟨M_0, hM_0⟩ : ∃ M_ : (Nat × Bool × (List GProp)) → Nat, M_ = (fun (a : Nat × Bool × (List GProp)) => match a with | (i_0, put_12, out_14) => l_a0.length - i_0) := ⟨_, rfl⟩
  obtain ⟨J_0, hJ_0⟩ : ∃ J_ : ASt → Prop, J_ = (fun σ => ∃ put_12 : Bool, ∃ out_14 : List GProp, (some (put_12, out_14) = some q_0) ∧ σ.t 1 = S path_a1 ∧ σ.t 2 = S value_a2 ∧ σ.t 9 = .sl 9 [] 0 out_14.length ∧ σ.t 10 = B put_12 ∧ σ.m 9 = some (.row true 2 out_14.length (esProp out_14))) := ⟨_, rfl⟩
  refine aw_loopC (id := 0) I_0 M_0 J_0 (0, !has_a3, ([] : List GProp)) ?_ ?_ ?_
  · rw [hI_0]
    refine ⟨⟨Nat.zero_le _, eq_0⟩, ?_⟩
    exact p_spec_l26Find_pv ff trivial
  · try clear ff
    rintro ⟨i_0, put_12, out_14⟩ σ hg_0
    rw [hI_0] at hg_0
    obtain ⟨⟨hi_0, h_0⟩, g0_0, g1_0, g2_0, g3_0, g4_0, g5_0, g6_0, g7_0⟩ := hg_0
    cases hr_0 : l_a0.drop i_0 with
    | nil =>
      rw [hr_0] at h_0
      rw [p_spec_l26Lay_l0] at h_0
      have hn_0 := drop_nil hr_0
      have dr_0 : decide ((i_0 : Int) < (l_a0.length : Int)) = false := decide_eq_false (by omega)
      have ff := ai @dr_0 (ai @g0_0 (ai @g1_0 (ai @g2_0 (ai @g3_0 (ai @g4_0 (ai @g5_0 (ai @g6_0 (ai @g7_0 p_spec_l26Lay_tf.down))))))))
      try refine st_by ff ?_
      repeat' (first | exact trivial | refine And.intro sd ?_)
      refine JW.intro ?_
      rw [hJ_0]
      refine ⟨put_12, out_14, h_0, ?_⟩
      exact p_spec_l26Find_pv ff trivial
    | cons x_0 r_0 =>
      rw [hr_0] at h_0
      rw [p_spec_l26Lay_l0] at h_0
      obtain ⟨ht_0, hg_0, hd_0⟩ := drop_cons hr_0
      have dr_0 : decide ((i_0 : Int) < (l_a0.length : Int)) = true := decide_eq_true (by omega)
      have w_0 : IntKind.i64.wrap ((i_0 : Int) + 1) = ((i_0 + 1 : Nat) : Int) := wI _ (by omega) (by omega)
      have kk0c : (esProp l_a0).drop (i_0 * 2) = eProp x_0 ++ esProp (l_a0.drop (i_0 + 1)) := drop_enc (fun _ => rfl) (hg_0)
      have ff := ai @dr_0 (ai @w_0 (ai @g0_0 (ai @g1_0 (ai @g2_0 (ai @g3_0 (ai @g4_0 (ai @g5_0 (ai @g6_0 (ai @g7_0 (ai @kk0c p_spec_l26Lay_tf.down))))))))))
      try refine st_by ff ?_
      repeat' (first | exact trivial | refine And.intro sd ?_)
      try clear ff
      generalize hk_0 : thenK _ _ = kk_0
      have key_0 : ∀ σ, (∃ b_28 : Bool, (p_spec_l26Lay_j0 path_a1 value_a2 put_12 out_14 x_0 i_0 (p_spec_l26Lay_l0 path_a1 value_a2 r_0) b_28 = some q_0) ∧ σ.t 1 = S path_a1 ∧ σ.t 2 = S value_a2 ∧ σ.t 9 = .sl 9 [] 0 out_14.length ∧ σ.t 10 = B put_12 ∧ σ.t 12 = .ptr 12 [] 0 ∧ σ.t 15 = .row false 2 l_a0.length (esProp l_a0) ∧ σ.t 16 = I (l_a0.length : Int) ∧ σ.t 17 = I (i_0 : Int) ∧ σ.t 28 = B b_28 ∧ σ.m 9 = some (.row true 2 out_14.length (esProp out_14)) ∧ σ.m 12 = some (.box true [S x_0.Path, S x_0.Value])) → kk_0 .nm σ := by
        rintro σ ⟨b_28, h_0, g0_j0, g1_j0, g2_j0, g3_j0, g4_j0, g5_j0, g6_j0, g7_j0, g8_j0, g9_j0, g10_j0⟩
        rw [← hk_0]
        rw [p_spec_l26Lay_j0] at h_0
        have ff := ai @dr_0 (ai @w_0 (ai @kk0c (ai @g0_j0 (ai @g1_j0 (ai @g2_j0 (ai @g3_j0 (ai @g4_j0 (ai @g5_j0 (ai @g6_j0 (ai @g7_j0 (ai @g8_j0 (ai @g9_j0 (ai @g10_j0 p_spec_l26Lay_tf.down)))))))))))))
        try refine st_by ff ?_
        repeat' (first | exact trivial | refine And.intro sd ?_)
        try clear ff
        generalize hk_1 : thenK _ _ = kk_1
        have key_1 : ∀ σ, (∃ put_29 : Bool, ∃ out_30 : List GProp, (p_spec_l26Lay_j1 path_a1 x_0 i_0 (p_spec_l26Lay_l0 path_a1 value_a2 r_0) put_29 out_30 = some q_0) ∧ σ.t 1 = S path_a1 ∧ σ.t 2 = S value_a2 ∧ σ.t 9 = .sl 9 [] 0 out_30.length ∧ σ.t 10 = B put_29 ∧ σ.t 12 = .ptr 12 [] 0 ∧ σ.t 15 = .row false 2 l_a0.length (esProp l_a0) ∧ σ.t 16 = I (l_a0.length : Int) ∧ σ.t 17 = I (i_0 : Int) ∧ σ.m 9 = some (.row true 2 out_30.length (esProp out_30)) ∧ σ.m 12 = some (.box true [S x_0.Path, S x_0.Value])) → kk_1 .nm σ := by
          rintro σ ⟨put_29, out_30, h_0, g0_j1, g1_j1, g2_j1, g3_j1, g4_j1, g5_j1, g6_j1, g7_j1, g8_j1, g9_j1⟩
          rw [← hk_1]
          rw [p_spec_l26Lay_j1] at h_0
          by_cases c31 : x_0.Path = path_a1
          · rw [if_pos c31] at h_0
            have dc31 := decide_eq_true c31
            have ff := ai @dr_0 (ai @w_0 (ai @kk0c (ai @g0_j1 (ai @g1_j1 (ai @g2_j1 (ai @g3_j1 (ai @g4_j1 (ai @g5_j1 (ai @g6_j1 (ai @g7_j1 (ai @g8_j1 (ai @g9_j1 (ai @dc31 p_spec_l26Lay_tf.down)))))))))))))
            try refine st_by ff ?_
            repeat' (first | exact trivial | refine And.intro sd ?_)
            refine Back.intro (i_0 + 1, put_29, out_30) ?_ ?_
            · clear ff; rw [hM_0]; show l_a0.length - (i_0 + 1) < l_a0.length - i_0; omega
            rw [hI_0]
            refine ⟨⟨by clear ff; show i_0 + 1 ≤ l_a0.length; omega, by show p_spec_l26Lay_l0 path_a1 value_a2 (l_a0.drop (i_0 + 1)) (i_0 + 1) put_29 out_30 = some q_0; rw [hd_0]; exact h_0⟩, ?_⟩
            exact p_spec_l26Find_pv ff trivial
          rw [if_neg c31] at h_0
          have dc31 := decide_eq_false c31
          by_cases c32 : out_30.length < 4294967296
          case neg => rw [if_neg c32] at h_0; cases h_0
          rw [if_pos c32] at h_0
          have a33a : esProp out_30 ++ [S x_0.Path, S x_0.Value] = esProp (out_30 ++ [x_0]) := by simp [esProp_app, esProp_cons, esProp_nil, eProp_eq, esProp_nil]
          have a33b : out_30.length + 1 = (out_30 ++ [x_0]).length := by simp
          have ff := ai @dr_0 (ai @w_0 (ai @kk0c (ai @g0_j1 (ai @g1_j1 (ai @g2_j1 (ai @g3_j1 (ai @g4_j1 (ai @g5_j1 (ai @g6_j1 (ai @g7_j1 (ai @g8_j1 (ai @g9_j1 (ai @dc31 (ai @a33a (ai @a33b p_spec_l26Lay_tf.down)))))))))))))))
          try refine st_by ff ?_
          repeat' (first | exact trivial | refine And.intro sd ?_)
          refine Back.intro (i_0 + 1, put_29, (out_30 ++ [x_0])) ?_ ?_
          · clear ff; rw [hM_0]; show l_a0.length - (i_0 + 1) < l_a0.length - i_0; omega
          rw [hI_0]
          refine ⟨⟨by clear ff; show i_0 + 1 ≤ l_a0.length; omega, by show p_spec_l26Lay_l0 path_a1 value_a2 (l_a0.drop (i_0 + 1)) (i_0 + 1) put_29 (out_30 ++ [x_0]) = some q_0; rw [hd_0]; exact h_0⟩, ?_⟩
          exact p_spec_l26Find_pv ff trivial
        have hrt_1 := fun σ : ASt => congrFun (congrFun hk_1.symm AX.rt) σ
        have hex_1 := fun (i : Nat) (σ : ASt) => congrFun (congrFun hk_1.symm (AX.ex i)) σ
        by_cases c34 : b_28 = true
        case neg =>
         rw [if_neg c34] at h_0
         have dc34 := eq_false_of_ne_true c34
         have ff := ai @dr_0 (ai @w_0 (ai @kk0c (ai @g0_j0 (ai @g1_j0 (ai @g2_j0 (ai @g3_j0 (ai @g4_j0 (ai @g5_j0 (ai @g6_j0 (ai @g7_j0 (ai @g8_j0 (ai @g9_j0 (ai @g10_j0 (ai @hrt_1 (ai @hex_1 (ai @dc34 p_spec_l26Lay_tf.down))))))))))))))))
         try refine st_by ff ?_
         repeat' (first | exact trivial | refine And.intro sd ?_)
         refine key_1 _ ?_
         refine ⟨put_12, out_14, h_0, ?_⟩
         exact p_spec_l26Find_pv ff trivial
        rw [if_pos c34] at h_0
        have dc34 := c34
        by_cases c35 : out_14.length < 4294967296
        case neg => rw [if_neg c35] at h_0; cases h_0
        rw [if_pos c35] at h_0
        have a36a : esProp out_14 ++ [S path_a1, S value_a2] = esProp (out_14 ++ [(⟨path_a1, value_a2⟩ : GProp)]) := by simp [esProp_app, esProp_cons, esProp_nil, eProp_eq, esProp_nil]
        have a36b : out_14.length + 1 = (out_14 ++ [(⟨path_a1, value_a2⟩ : GProp)]).length := by simp
        have ff := ai @dr_0 (ai @w_0 (ai @kk0c (ai @g0_j0 (ai @g1_j0 (ai @g2_j0 (ai @g3_j0 (ai @g4_j0 (ai @g5_j0 (ai @g6_j0 (ai @g7_j0 (ai @g8_j0 (ai @g9_j0 (ai @g10_j0 (ai @hrt_1 (ai @hex_1 (ai @dc34 (ai @a36a (ai @a36b p_spec_l26Lay_tf.down))))))))))))))))))
        try refine st_by ff ?_
        repeat' (first | exact trivial | refine And.intro sd ?_)
        refine key_1 _ ?_
        refine ⟨true, (out_14 ++ [(⟨path_a1, value_a2⟩ : GProp)]), h_0, ?_⟩
        exact p_spec_l26Find_pv ff trivial
      have hrt_0 := fun σ : ASt => congrFun (congrFun hk_0.symm AX.rt) σ
      have hex_0 := fun (i : Nat) (σ : ASt) => congrFun (congrFun hk_0.symm (AX.ex i)) σ
      by_cases c37 : put_12 = true
      case neg =>
       rw [if_neg c37] at h_0
       have dc37 := eq_false_of_ne_true c37
       have ff := ai @dr_0 (ai @w_0 (ai @g0_0 (ai @g1_0 (ai @g2_0 (ai @g3_0 (ai @g4_0 (ai @g5_0 (ai @g6_0 (ai @g7_0 (ai @kk0c (ai @hrt_0 (ai @hex_0 (ai @dc37 p_spec_l26Lay_tf.down)))))))))))))
       try refine st_by ff ?_
       repeat' (first | exact trivial | refine And.intro sd ?_)
       refine key_0 _ ?_
       refine ⟨!(Op.bytesLess x_0.Path.toList path_a1.toList), h_0, ?_⟩
       exact p_spec_l26Find_pv ff trivial
      rw [if_pos c37] at h_0
      have dc37 := c37
      have ff := ai @dr_0 (ai @w_0 (ai @g0_0 (ai @g1_0 (ai @g2_0 (ai @g3_0 (ai @g4_0 (ai @g5_0 (ai @g6_0 (ai @g7_0 (ai @kk0c (ai @hrt_0 (ai @hex_0 (ai @dc37 p_spec_l26Lay_tf.down)))))))))))))
      try refine st_by ff ?_
      repeat' (first | exact trivial | refine And.intro sd ?_)
      refine key_0 _ ?_
      refine ⟨false, h_0, ?_⟩
      exact p_spec_l26Find_pv ff trivial
  · try clear ff
    rintro σ hg_0
    rw [hJ_0] at hg_0
    obtain ⟨put_12, out_14, hj_0, g0_0a, g1_0a, g2_0a, g3_0a, g4_0a⟩ := hg_0
    cases hj_0
    try dsimp only at h
    by_cases c38 : put_12 = true
    · rw [if_pos c38] at h
      have dc38 := c38
      have ff := ai @g0_0a (ai @g1_0a (ai @g2_0a (ai @g3_0a (ai @g4_0a (ai @dc38 p_spec_l26Lay_tf.down)))))
      try refine st_by ff ?_
      repeat' (first | exact trivial | refine And.intro sd ?_)
      cases h
      exact ret_q1 rfl (p_spec_l26Find_rt ff trivial)
    rw [if_neg c38] at h
    have dc38 := eq_false_of_ne_true c38
    by_cases c39 : out_14.length < 4294967296
    case neg => rw [if_neg c39] at h; cases h
    rw [if_pos c39] at h
    have a40a : esProp out_14 ++ [S path_a1, S value_a2] = esProp (out_14 ++ [(⟨path_a1, value_a2⟩ : GProp)]) := by simp [esProp_app, esProp_cons, esProp_nil, eProp_eq, esProp_nil]
    have a40b : out_14.length + 1 = (out_14 ++ [(⟨path_a1, value_a2⟩ : GProp)]).length := by simp
    have ff := ai @g0_0a (ai @g1_0a (ai @g2_0a (ai @g3_0a (ai @g4_0a (ai @dc38 (ai @a40a (ai @a40b p_spec_l26Lay_tf.down)))))))
    try refine st_by ff ?_
    repeat' (first | exact trivial | refine And.intro sd ?_)
    cases h
    exact ret_q1 rfl (p_spec_l26Find_rt ff trivial)
/-! spec.l26Do -/
def p_spec_l26Do_j1 (l_a0 : List GProp) (s_a1 : GStep) (b_5 : Bool) : Option (List GProp × Bool) := (if b_5 = true then some (([] : List GProp), false) else ((p_spec_l26Lay l_a0 s_a1.Path s_a1.Is s_a1.Has).bind fun v7 => some (v7, decide ((v7.length : Int) ≤ 40))))
def p_spec_l26Do_j0 (l_a0 : List GProp) (s_a1 : GStep) (b_2 : Bool) : Option (List GProp × Bool) := (if b_2 = true then some (([] : List GProp), false) else ((p_spec_l26Find l_a0 s_a1.Path).bind fun v4 => (if (v4.2 == s_a1.Had) = true then (if v4.1 = s_a1.Was then (if (s_a1.Had == s_a1.Has) = true then p_spec_l26Do_j1 l_a0 s_a1 (decide (s_a1.Was = s_a1.Is)) else p_spec_l26Do_j1 l_a0 s_a1 false) else p_spec_l26Do_j1 l_a0 s_a1 true) else p_spec_l26Do_j1 l_a0 s_a1 true)))
theorem p_spec_l26Do_pv {F C A : Prop} (hF : F) (hC : C) (h : F → C → A := by intro hF hC; first | exact cl_by hF | (refine st_by hF ?_; (repeat' (first | exact trivial | apply And.intro)); all_goals (clear hF; first | rfl | (simp only [hC, List.length_append, List.length_cons, List.length_nil, List.append_nil, List.nil_append, List.cons_append, List.length_set, List.append_assoc, Nat.zero_add, List.length_replicate, esStep_app, esStep_cons, esStep_nil, eStep_eq, esProp_app, esProp_cons, esProp_nil, eProp_eq]; done) | (simp [hC, List.length_append, List.length_cons, List.length_nil, List.append_nil, List.nil_append, List.cons_append, List.length_set, List.append_assoc, Nat.zero_add, List.length_replicate, esStep_app, esStep_cons, esStep_nil, eStep_eq, esProp_app, esProp_cons, esProp_nil, eProp_eq]; done) | omega))) : A := h hF hC
theorem p_spec_l26Do_sa {F C A : Prop} (hF : F) (hC : C) (h : F → C → A := by intro hF hC; first | exact ca_by hF | (refine sa_by hF ?_; (repeat' (first | exact trivial | apply And.intro)); all_goals (clear hF; first | rfl | (simp only [hC, List.length_append, List.length_cons, List.length_nil, List.append_nil, List.nil_append, List.cons_append, List.length_set, List.append_assoc, Nat.zero_add, List.length_replicate, esStep_app, esStep_cons, esStep_nil, eStep_eq, esProp_app, esProp_cons, esProp_nil, eProp_eq]; done) | (simp [hC, List.length_append, List.length_cons, List.length_nil, List.append_nil, List.nil_append, List.cons_append, List.length_set, List.append_assoc, Nat.zero_add, List.length_replicate, esStep_app, esStep_cons, esStep_nil, eStep_eq, esProp_app, esProp_cons, esProp_nil, eProp_eq]; done) | omega))) : A := h hF hC
theorem p_spec_l26Do_rt {F C A : Prop} (hF : F) (hC : C) (h : F → C → A := by intro hF hC; first | (refine sr_by hF ?_; (repeat' (first | exact trivial | apply And.intro)); all_goals (clear hF; first | rfl | (simp only [hC, List.length_append, List.length_cons, List.length_nil, List.append_nil, List.nil_append, List.cons_append, List.length_set, List.append_assoc, Nat.zero_add, List.length_replicate, esStep_app, esStep_cons, esStep_nil, eStep_eq, esProp_app, esProp_cons, esProp_nil, eProp_eq]; done) | (simp [hC, List.length_append, List.length_cons, List.length_nil, List.append_nil, List.nil_append, List.cons_append, List.length_set, List.append_assoc, Nat.zero_add, List.length_replicate, esStep_app, esStep_cons, esStep_nil, eStep_eq, esProp_app, esProp_cons, esProp_nil, eProp_eq]; done) | omega)) | (first | rfl | (simp only [hC, List.length_append, List.length_cons, List.length_nil, List.append_nil, List.nil_append, List.cons_append, List.length_set, List.append_assoc, Nat.zero_add, List.length_replicate, esStep_app, esStep_cons, esStep_nil, eStep_eq, esProp_app, esProp_cons, esProp_nil, eProp_eq]; done) | (simp [hC, List.length_append, List.length_cons, List.length_nil, List.append_nil, List.nil_append, List.cons_append, List.length_set, List.append_assoc, Nat.zero_add, List.length_replicate, esStep_app, esStep_cons, esStep_nil, eStep_eq, esProp_app, esProp_cons, esProp_nil, eProp_eq]; done) | omega)) : A := h hF hC
def p_spec_l26Do_tf := PLift.up (ai @eStep_eq (ai @esStep_len (ai @esStep_nil (ai @esStep_leaf (ai @esStep_fit (ai @eProp_eq (ai @esProp_len (ai @esProp_nil (ai @esProp_leaf (ai @esProp_fit (ai @esStep_share (ai @esStep_pure (ai @esProp_share (ai @esProp_pure (ai @str_beq (ai @Ty.nz9 (ai @Ty.ldA9 (ai @Ty.ldS9 (ai @Ty.sz9 (ai @Ty.szn9 (ai @Ty.nz4 (ai @Ty.ldA4 (ai @Ty.ldS4 (ai @Ty.sz4 (ai @Ty.szn4 (ai @Ty.fo48_0 (ai @Ty.fk48_0 (ai @Ty.fs48_0 (ai @Ty.fn48_0 (ai @Ty.fo48_2 (ai @Ty.fk48_2 (ai @Ty.fs48_2 (ai @Ty.fn48_2 (ai @Ty.fo48_1 (ai @Ty.fk48_1 (ai @Ty.fs48_1 (ai @Ty.fn48_1 (ai @Ty.fo48_4 (ai @Ty.fk48_4 (ai @Ty.fs48_4 (ai @Ty.fn48_4 (ai @Ty.fo48_3 (ai @Ty.fk48_3 (ai @Ty.fs48_3 (ai @Ty.fn48_3 (ai @Ty.sl28 (ai @Ty.bl4 (ai @Ty.slz28 @trivial))))))))))))))))))))))))))))))))))))))))))))))))
def p_spec_l26Do (N : Nat) (l_a0 : List GProp) (s_a1 : GStep) : Option (List GProp × Bool) := ((p_spec_l26Path N s_a1.Path).bind fun v1 => (if v1 = true then (if s_a1.Had = true then ((p_spec_l26Value s_a1.Was).bind fun v13 => (if v13 = true then (if s_a1.Has = true then ((p_spec_l26Value s_a1.Is).bind fun v16 => (if v16 = true then p_spec_l26Do_j0 l_a0 s_a1 false else p_spec_l26Do_j0 l_a0 s_a1 true)) else p_spec_l26Do_j0 l_a0 s_a1 (!(decide (s_a1.Is = (⟨#[]⟩ : ByteArray))))) else p_spec_l26Do_j0 l_a0 s_a1 true)) else (if s_a1.Was = (⟨#[]⟩ : ByteArray) then (if s_a1.Has = true then ((p_spec_l26Value s_a1.Is).bind fun v20 => (if v20 = true then p_spec_l26Do_j0 l_a0 s_a1 false else p_spec_l26Do_j0 l_a0 s_a1 true)) else p_spec_l26Do_j0 l_a0 s_a1 (!(decide (s_a1.Is = (⟨#[]⟩ : ByteArray))))) else p_spec_l26Do_j0 l_a0 s_a1 true)) else p_spec_l26Do_j0 l_a0 s_a1 true))
theorem p_spec_l26Do_does (N : Nat) (l_a0 : List GProp) (s_a1 : GStep) (r : List GProp × Bool) (h : p_spec_l26Do N l_a0 s_a1 = some r) : Does Tryd.prog 26 [.row false 2 l_a0.length (esProp l_a0), .agg (eStep s_a1)] (.tup [.row true 2 r.1.length (esProp r.1), B r.2]) := by
  rw [p_spec_l26Do] at h
  refine Does.bnd (fun hb => ?_)
  have hb2 : l_a0.length ≤ 9223372036854775807 := by simpa [AV.fitNs, AV.fitN, eStep] using hb
  have hl0 := hb2
  refine Does.walk (nt := 96) Tryd.func26 rfl rfl (by simp) (by decide) rfl (fun G0 X w0 pv => ?_)
  obtain ⟨v1, ev1, h⟩ := Option.bind_eq_some_iff.1 h
  try dsimp only at h
  have ff := p_spec_l26Do_tf.down
  try refine st_by ff ?_
  repeat' (first | exact trivial | refine And.intro sd ?_)
  first
  | (refine cq_call (p_spec_l26Path_does N s_a1.Path v1 ev1) (hf_by ff) kr ⟨p_spec_l26Do_sa ff trivial, ?_⟩; clear ff)
  have ff := p_spec_l26Do_tf.down
  try refine st_by ff ?_
  repeat' (first | exact trivial | refine And.intro sd ?_)
  try clear ff
  generalize hk_0 : thenK _ _ = kk_0
  have key_0 : ∀ σ, (∃ b_2 : Bool, (p_spec_l26Do_j0 l_a0 s_a1 b_2 = some r) ∧ σ.t 0 = .row false 2 l_a0.length (esProp l_a0) ∧ σ.t 3 = .ptr 3 [] 0 ∧ σ.t 52 = B b_2 ∧ σ.m 3 = some (.box true [S s_a1.Path, S s_a1.Was, B s_a1.Had, S s_a1.Is, B s_a1.Has])) → kk_0 .nm σ := by
    rintro σ ⟨b_2, h, g0_j0, g1_j0, g2_j0, g3_j0⟩
    rw [← hk_0]
    rw [p_spec_l26Do_j0] at h
    by_cases c3 : b_2 = true
    · rw [if_pos c3] at h
      have dc3 := c3
      have ff := ai @g0_j0 (ai @g1_j0 (ai @g2_j0 (ai @g3_j0 (ai @dc3 p_spec_l26Do_tf.down))))
      try refine st_by ff ?_
      repeat' (first | exact trivial | refine And.intro sd ?_)
      cases h
      exact ret_q2 rfl (p_spec_l26Do_rt ff trivial)
    rw [if_neg c3] at h
    have dc3 := eq_false_of_ne_true c3
    obtain ⟨v4, ev4, h⟩ := Option.bind_eq_some_iff.1 h
    try dsimp only at h
    have ff := ai @g0_j0 (ai @g1_j0 (ai @g2_j0 (ai @g3_j0 (ai @dc3 p_spec_l26Do_tf.down))))
    try refine st_by ff ?_
    repeat' (first | exact trivial | refine And.intro sd ?_)
    first
    | (refine cq_call (p_spec_l26Find_does l_a0 s_a1.Path v4 ev4) (hf_by ff) kr ⟨p_spec_l26Do_sa ff trivial, ?_⟩; clear ff)
    have ff := ai @g0_j0 (ai @g1_j0 (ai @g2_j0 (ai @g3_j0 (ai @dc3 p_spec_l26Do_tf.down))))
    try refine st_by ff ?_
    repeat' (first | exact trivial | refine And.intro sd ?_)
    try clear ff
    generalize hk_1 : thenK _ _ = kk_1
    have key_1 : ∀ σ, (∃ b_5 : Bool, (p_spec_l26Do_j1 l_a0 s_a1 b_5 = some r) ∧ σ.t 0 = .row false 2 l_a0.length (esProp l_a0) ∧ σ.t 3 = .ptr 3 [] 0 ∧ σ.t 83 = B b_5 ∧ σ.m 3 = some (.box true [S s_a1.Path, S s_a1.Was, B s_a1.Had, S s_a1.Is, B s_a1.Has])) → kk_1 .nm σ := by
      rintro σ ⟨b_5, h, g0_j1, g1_j1, g2_j1, g3_j1⟩
      rw [← hk_1]
      rw [p_spec_l26Do_j1] at h
      by_cases c6 : b_5 = true
      · rw [if_pos c6] at h
        have dc6 := c6
        have ff := ai @dc3 (ai @g0_j1 (ai @g1_j1 (ai @g2_j1 (ai @g3_j1 (ai @dc6 p_spec_l26Do_tf.down)))))
        try refine st_by ff ?_
        repeat' (first | exact trivial | refine And.intro sd ?_)
        cases h
        exact ret_q2 rfl (p_spec_l26Do_rt ff trivial)
      rw [if_neg c6] at h
      have dc6 := eq_false_of_ne_true c6
      obtain ⟨v7, ev7, h⟩ := Option.bind_eq_some_iff.1 h
      try dsimp only at h
      have ff := ai @dc3 (ai @g0_j1 (ai @g1_j1 (ai @g2_j1 (ai @g3_j1 (ai @dc6 p_spec_l26Do_tf.down)))))
      try refine st_by ff ?_
      repeat' (first | exact trivial | refine And.intro sd ?_)
      first
      | (refine cq_own (p_spec_l26Lay_does l_a0 s_a1.Path s_a1.Is s_a1.Has v7 ev7) (hf_by ff) kr ⟨p_spec_l26Do_sa ff trivial, ?_⟩; clear ff)
      have ff := ai @dc3 (ai @g0_j1 (ai @g1_j1 (ai @g2_j1 (ai @g3_j1 (ai @dc6 p_spec_l26Do_tf.down)))))
      try refine st_by ff ?_
      repeat' (first | exact trivial | refine And.intro sd ?_)
      cases h
      exact ret_q2 rfl (p_spec_l26Do_rt ff trivial)
    have hrt_1 := fun σ : ASt => congrFun (congrFun hk_1.symm AX.rt) σ
    have hex_1 := fun (i : Nat) (σ : ASt) => congrFun (congrFun hk_1.symm (AX.ex i)) σ
    by_cases c8 : (v4.2 == s_a1.Had) = true
    case neg =>
     rw [if_neg c8] at h
     have dc8 := eq_false_of_ne_true c8
     have ff := ai @g0_j0 (ai @g1_j0 (ai @g2_j0 (ai @g3_j0 (ai @dc3 (ai @hrt_1 (ai @hex_1 (ai @dc8 p_spec_l26Do_tf.down)))))))
     try refine st_by ff ?_
     repeat' (first | exact trivial | refine And.intro sd ?_)
     refine key_1 _ ?_
     refine ⟨true, h, ?_⟩
     exact p_spec_l26Do_pv ff trivial
    rw [if_pos c8] at h
    have dc8 := c8
    by_cases c9 : v4.1 = s_a1.Was
    case neg =>
     rw [if_neg c9] at h
     have dc9 := decide_eq_false c9
     have ff := ai @g0_j0 (ai @g1_j0 (ai @g2_j0 (ai @g3_j0 (ai @dc3 (ai @hrt_1 (ai @hex_1 (ai @dc8 (ai @dc9 p_spec_l26Do_tf.down))))))))
     try refine st_by ff ?_
     repeat' (first | exact trivial | refine And.intro sd ?_)
     refine key_1 _ ?_
     refine ⟨true, h, ?_⟩
     exact p_spec_l26Do_pv ff trivial
    rw [if_pos c9] at h
    have dc9 := decide_eq_true c9
    by_cases c10 : (s_a1.Had == s_a1.Has) = true
    case neg =>
     rw [if_neg c10] at h
     have dc10 := eq_false_of_ne_true c10
     have ff := ai @g0_j0 (ai @g1_j0 (ai @g2_j0 (ai @g3_j0 (ai @dc3 (ai @hrt_1 (ai @hex_1 (ai @dc8 (ai @dc9 (ai @dc10 p_spec_l26Do_tf.down)))))))))
     try refine st_by ff ?_
     repeat' (first | exact trivial | refine And.intro sd ?_)
     refine key_1 _ ?_
     refine ⟨false, h, ?_⟩
     exact p_spec_l26Do_pv ff trivial
    rw [if_pos c10] at h
    have dc10 := c10
    have ff := ai @g0_j0 (ai @g1_j0 (ai @g2_j0 (ai @g3_j0 (ai @dc3 (ai @hrt_1 (ai @hex_1 (ai @dc8 (ai @dc9 (ai @dc10 p_spec_l26Do_tf.down)))))))))
    try refine st_by ff ?_
    repeat' (first | exact trivial | refine And.intro sd ?_)
    refine key_1 _ ?_
    refine ⟨decide (s_a1.Was = s_a1.Is), h, ?_⟩
    exact p_spec_l26Do_pv ff trivial
  have hrt_0 := fun σ : ASt => congrFun (congrFun hk_0.symm AX.rt) σ
  have hex_0 := fun (i : Nat) (σ : ASt) => congrFun (congrFun hk_0.symm (AX.ex i)) σ
  by_cases c11 : v1 = true
  case neg =>
   rw [if_neg c11] at h
   have dc11 := eq_false_of_ne_true c11
   have ff := ai @hrt_0 (ai @hex_0 (ai @dc11 p_spec_l26Do_tf.down))
   try refine st_by ff ?_
   repeat' (first | exact trivial | refine And.intro sd ?_)
   refine key_0 _ ?_
   refine ⟨true, h, ?_⟩
   exact p_spec_l26Do_pv ff trivial
  rw [if_pos c11] at h
  have dc11 := c11
  by_cases c12 : s_a1.Had = true
  case neg =>
   rw [if_neg c12] at h
   have dc12 := eq_false_of_ne_true c12
   by_cases c18 : s_a1.Was = (⟨#[]⟩ : ByteArray)
   case neg =>
    rw [if_neg c18] at h
    have dc18 := decide_eq_false c18
    have ff := ai @hrt_0 (ai @hex_0 (ai @dc11 (ai @dc12 (ai @dc18 p_spec_l26Do_tf.down))))
    try refine st_by ff ?_
    repeat' (first | exact trivial | refine And.intro sd ?_)
    refine key_0 _ ?_
    refine ⟨true, h, ?_⟩
    exact p_spec_l26Do_pv ff trivial
   rw [if_pos c18] at h
   have dc18 := decide_eq_true c18
   by_cases c19 : s_a1.Has = true
   case neg =>
    rw [if_neg c19] at h
    have dc19 := eq_false_of_ne_true c19
    have ff := ai @hrt_0 (ai @hex_0 (ai @dc11 (ai @dc12 (ai @dc18 (ai @dc19 p_spec_l26Do_tf.down)))))
    try refine st_by ff ?_
    repeat' (first | exact trivial | refine And.intro sd ?_)
    refine key_0 _ ?_
    refine ⟨!(decide (s_a1.Is = (⟨#[]⟩ : ByteArray))), h, ?_⟩
    exact p_spec_l26Do_pv ff trivial
   rw [if_pos c19] at h
   have dc19 := c19
   obtain ⟨v20, ev20, h⟩ := Option.bind_eq_some_iff.1 h
   try dsimp only at h
   have ff := ai @hrt_0 (ai @hex_0 (ai @dc11 (ai @dc12 (ai @dc18 (ai @dc19 p_spec_l26Do_tf.down)))))
   try refine st_by ff ?_
   repeat' (first | exact trivial | refine And.intro sd ?_)
   first
   | (refine cq_call (p_spec_l26Value_does s_a1.Is v20 ev20) (hf_by ff) kr ⟨p_spec_l26Do_sa ff trivial, ?_⟩; clear ff)
   by_cases c21 : v20 = true
   case neg =>
    rw [if_neg c21] at h
    have dc21 := eq_false_of_ne_true c21
    have ff := ai @hrt_0 (ai @hex_0 (ai @dc11 (ai @dc12 (ai @dc18 (ai @dc19 (ai @dc21 p_spec_l26Do_tf.down))))))
    try refine st_by ff ?_
    repeat' (first | exact trivial | refine And.intro sd ?_)
    refine key_0 _ ?_
    refine ⟨true, h, ?_⟩
    exact p_spec_l26Do_pv ff trivial
   rw [if_pos c21] at h
   have dc21 := c21
   have ff := ai @hrt_0 (ai @hex_0 (ai @dc11 (ai @dc12 (ai @dc18 (ai @dc19 (ai @dc21 p_spec_l26Do_tf.down))))))
   try refine st_by ff ?_
   repeat' (first | exact trivial | refine And.intro sd ?_)
   refine key_0 _ ?_
   refine ⟨false, h, ?_⟩
   exact p_spec_l26Do_pv ff trivial
  rw [if_pos c12] at h
  have dc12 := c12
  obtain ⟨v13, ev13, h⟩ := Option.bind_eq_some_iff.1 h
  try dsimp only at h
  have ff := ai @hrt_0 (ai @hex_0 (ai @dc11 (ai @dc12 p_spec_l26Do_tf.down)))
  try refine st_by ff ?_
  repeat' (first | exact trivial | refine And.intro sd ?_)
  first
  | (refine cq_call (p_spec_l26Value_does s_a1.Was v13 ev13) (hf_by ff) kr ⟨p_spec_l26Do_sa ff trivial, ?_⟩; clear ff)
  by_cases c14 : v13 = true
  case neg =>
   rw [if_neg c14] at h
   have dc14 := eq_false_of_ne_true c14
   have ff := ai @hrt_0 (ai @hex_0 (ai @dc11 (ai @dc12 (ai @dc14 p_spec_l26Do_tf.down))))
   try refine st_by ff ?_
   repeat' (first | exact trivial | refine And.intro sd ?_)
   refine key_0 _ ?_
   refine ⟨true, h, ?_⟩
   exact p_spec_l26Do_pv ff trivial
  rw [if_pos c14] at h
  have dc14 := c14
  by_cases c15 : s_a1.Has = true
  case neg =>
   rw [if_neg c15] at h
   have dc15 := eq_false_of_ne_true c15
   have ff := ai @hrt_0 (ai @hex_0 (ai @dc11 (ai @dc12 (ai @dc14 (ai @dc15 p_spec_l26Do_tf.down)))))
   try refine st_by ff ?_
   repeat' (first | exact trivial | refine And.intro sd ?_)
   refine key_0 _ ?_
   refine ⟨!(decide (s_a1.Is = (⟨#[]⟩ : ByteArray))), h, ?_⟩
   exact p_spec_l26Do_pv ff trivial
  rw [if_pos c15] at h
  have dc15 := c15
  obtain ⟨v16, ev16, h⟩ := Option.bind_eq_some_iff.1 h
  try dsimp only at h
  have ff := ai @hrt_0 (ai @hex_0 (ai @dc11 (ai @dc12 (ai @dc14 (ai @dc15 p_spec_l26Do_tf.down)))))
  try refine st_by ff ?_
  repeat' (first | exact trivial | refine And.intro sd ?_)
  first
  | (refine cq_call (p_spec_l26Value_does s_a1.Is v16 ev16) (hf_by ff) kr ⟨p_spec_l26Do_sa ff trivial, ?_⟩; clear ff)
  by_cases c17 : v16 = true
  case neg =>
   rw [if_neg c17] at h
   have dc17 := eq_false_of_ne_true c17
   have ff := ai @hrt_0 (ai @hex_0 (ai @dc11 (ai @dc12 (ai @dc14 (ai @dc15 (ai @dc17 p_spec_l26Do_tf.down))))))
   try refine st_by ff ?_
   repeat' (first | exact trivial | refine And.intro sd ?_)
   refine key_0 _ ?_
   refine ⟨true, h, ?_⟩
   exact p_spec_l26Do_pv ff trivial
  rw [if_pos c17] at h
  have dc17 := c17
  have ff := ai @hrt_0 (ai @hex_0 (ai @dc11 (ai @dc12 (ai @dc14 (ai @dc15 (ai @dc17 p_spec_l26Do_tf.down))))))
  try refine st_by ff ?_
  repeat' (first | exact trivial | refine And.intro sd ?_)
  refine key_0 _ ?_
  refine ⟨false, h, ?_⟩
  exact p_spec_l26Do_pv ff trivial
/-! spec.l26Back -/
theorem p_spec_l26Back_rt {F C A : Prop} (hF : F) (hC : C) (h : F → C → A := by intro hF hC; first | (refine sr_by hF ?_; (repeat' (first | exact trivial | apply And.intro)); all_goals (clear hF; first | rfl | (simp only [hC, List.length_append, List.length_cons, List.length_nil, List.append_nil, List.nil_append, List.cons_append, List.length_set, List.append_assoc, Nat.zero_add, List.length_replicate, esStep_app, esStep_cons, esStep_nil, eStep_eq]; done) | (simp [hC, List.length_append, List.length_cons, List.length_nil, List.append_nil, List.nil_append, List.cons_append, List.length_set, List.append_assoc, Nat.zero_add, List.length_replicate, esStep_app, esStep_cons, esStep_nil, eStep_eq]; done) | omega)) | (first | rfl | (simp only [hC, List.length_append, List.length_cons, List.length_nil, List.append_nil, List.nil_append, List.cons_append, List.length_set, List.append_assoc, Nat.zero_add, List.length_replicate, esStep_app, esStep_cons, esStep_nil, eStep_eq]; done) | (simp [hC, List.length_append, List.length_cons, List.length_nil, List.append_nil, List.nil_append, List.cons_append, List.length_set, List.append_assoc, Nat.zero_add, List.length_replicate, esStep_app, esStep_cons, esStep_nil, eStep_eq]; done) | omega)) : A := h hF hC
def p_spec_l26Back_tf := PLift.up (ai @eStep_eq (ai @esStep_len (ai @esStep_nil (ai @esStep_leaf (ai @esStep_fit (ai @esStep_share (ai @esStep_pure (ai @str_beq (ai @Ty.nz9 (ai @Ty.ldA9 (ai @Ty.ldS9 (ai @Ty.sz9 (ai @Ty.szn9 (ai @Ty.nz4 (ai @Ty.ldA4 (ai @Ty.ldS4 (ai @Ty.sz4 (ai @Ty.szn4 (ai @Ty.nz48 (ai @Ty.ldA48 (ai @Ty.sz48 (ai @Ty.szn48 (ai @Ty.fo48_0 (ai @Ty.fk48_0 (ai @Ty.fs48_0 (ai @Ty.fn48_0 (ai @Ty.fo48_3 (ai @Ty.fk48_3 (ai @Ty.fs48_3 (ai @Ty.fn48_3 (ai @Ty.fo48_4 (ai @Ty.fk48_4 (ai @Ty.fs48_4 (ai @Ty.fn48_4 (ai @Ty.fo48_1 (ai @Ty.fk48_1 (ai @Ty.fs48_1 (ai @Ty.fn48_1 (ai @Ty.fo48_2 (ai @Ty.fk48_2 (ai @Ty.fs48_2 (ai @Ty.fn48_2 (ai @Ty.zv48 (ai @Ty.bd48 (ai @Ty.pl48_0 (ai @Ty.pl48_1 (ai @Ty.pl48_2 (ai @Ty.pl48_3 (ai @Ty.pl48_4 (ai @Ty.ag48 @trivial))))))))))))))))))))))))))))))))))))))))))))))))))
def p_spec_l26Back (s_a0 : GStep) : Option (GStep) := some (⟨s_a0.Path, s_a0.Is, s_a0.Has, s_a0.Was, s_a0.Had⟩ : GStep)
theorem p_spec_l26Back_does (s_a0 : GStep) (r : GStep) (h : p_spec_l26Back s_a0 = some r) : Does Tryd.prog 27 [.agg (eStep s_a0)] (.agg (eStep r)) := by
  rw [p_spec_l26Back] at h
  refine Does.walk (nt := 14) Tryd.func27 rfl rfl (by simp) (by decide) rfl (fun G0 X w0 pv => ?_)
  have ff := p_spec_l26Back_tf.down
  try refine st_by ff ?_
  repeat' (first | exact trivial | refine And.intro sd ?_)
  cases h
  exact ret_q1 rfl (p_spec_l26Back_rt ff trivial)
/-! spec.l26Own -/
theorem p_spec_l26Own_rt {F C A : Prop} (hF : F) (hC : C) (h : F → C → A := by intro hF hC; first | (refine sr_by hF ?_; (repeat' (first | exact trivial | apply And.intro)); all_goals (clear hF; first | rfl | (simp only [hC, List.length_append, List.length_cons, List.length_nil, List.append_nil, List.nil_append, List.cons_append, List.length_set, List.append_assoc, Nat.zero_add, List.length_replicate, esEdited_app, esEdited_cons, esEdited_nil, eEdited_eq, esEditedo_app, esEditedo_cons, esEditedo_nil, eEditedo_eq, esStep_app, esStep_cons, esStep_nil, eStep_eq, esProp_app, esProp_cons, esProp_nil, eProp_eq]; done) | (simp [hC, List.length_append, List.length_cons, List.length_nil, List.append_nil, List.nil_append, List.cons_append, List.length_set, List.append_assoc, Nat.zero_add, List.length_replicate, esEdited_app, esEdited_cons, esEdited_nil, eEdited_eq, esEditedo_app, esEditedo_cons, esEditedo_nil, eEditedo_eq, esStep_app, esStep_cons, esStep_nil, eStep_eq, esProp_app, esProp_cons, esProp_nil, eProp_eq]; done) | omega)) | (first | rfl | (simp only [hC, List.length_append, List.length_cons, List.length_nil, List.append_nil, List.nil_append, List.cons_append, List.length_set, List.append_assoc, Nat.zero_add, List.length_replicate, esEdited_app, esEdited_cons, esEdited_nil, eEdited_eq, esEditedo_app, esEditedo_cons, esEditedo_nil, eEditedo_eq, esStep_app, esStep_cons, esStep_nil, eStep_eq, esProp_app, esProp_cons, esProp_nil, eProp_eq]; done) | (simp [hC, List.length_append, List.length_cons, List.length_nil, List.append_nil, List.nil_append, List.cons_append, List.length_set, List.append_assoc, Nat.zero_add, List.length_replicate, esEdited_app, esEdited_cons, esEdited_nil, eEdited_eq, esEditedo_app, esEditedo_cons, esEditedo_nil, eEditedo_eq, esStep_app, esStep_cons, esStep_nil, eStep_eq, esProp_app, esProp_cons, esProp_nil, eProp_eq]; done) | omega)) : A := h hF hC
def p_spec_l26Own_tf := PLift.up (ai @eEdited_eq (ai @esEdited_len (ai @esEdited_nil (ai @esEdited_leaf (ai @esEdited_fit (ai @eEditedo_eq (ai @esEditedo_len (ai @esEditedo_nil (ai @eStep_eq (ai @esStep_len (ai @esStep_nil (ai @esStep_leaf (ai @esStep_fit (ai @eProp_eq (ai @esProp_len (ai @esProp_nil (ai @esProp_leaf (ai @esProp_fit (ai @esEditedo_share (ai @esEditedo_pure (ai @esStep_share (ai @esStep_pure (ai @esProp_share (ai @esProp_pure (ai @str_beq (ai @Ty.nz28 (ai @Ty.ldA28 (ai @Ty.ldS28 (ai @Ty.sz28 (ai @Ty.szn28 (ai @Ty.nz29 (ai @Ty.ldA29 (ai @Ty.ldS29 (ai @Ty.sz29 (ai @Ty.szn29 (ai @Ty.nz31 (ai @Ty.ldA31 (ai @Ty.sz31 (ai @Ty.szn31 (ai @Ty.fo31_0 (ai @Ty.fk31_0 (ai @Ty.fs31_0 (ai @Ty.fn31_0 (ai @Ty.fo31_1 (ai @Ty.fk31_1 (ai @Ty.fs31_1 (ai @Ty.fn31_1 (ai @Ty.fo31_2 (ai @Ty.fk31_2 (ai @Ty.fs31_2 (ai @Ty.fn31_2 (ai @Ty.nze28 (ai @Ty.sl28 (ai @Ty.slz28 (ai @Ty.zok28 (ai @Ty.by28 (ai @Ty.zs28 (ai @Ty.nze29 (ai @Ty.sl29 (ai @Ty.slz29 (ai @Ty.zok29 (ai @Ty.by29 (ai @Ty.zs29 (ai @Ty.zv31 (ai @Ty.bd31 (ai @Ty.pl31_0 (ai @Ty.pl31_1 (ai @Ty.pl31_2 (ai @Ty.ag31 @trivial)))))))))))))))))))))))))))))))))))))))))))))))))))))))))))))))))))))
def p_spec_l26Own (e_a0 : GEdited) : Option (GEdited) := (if e_a0.Props.length < 4294967296 then (if e_a0.Done.length < 4294967296 then (if e_a0.Back.length < 4294967296 then some (⟨e_a0.Props, e_a0.Done, e_a0.Back⟩ : GEdited) else none) else none) else none)
theorem p_spec_l26Own_does (e_a0 : GEdited) (r : GEdited) (h : p_spec_l26Own e_a0 = some r) : Does Tryd.prog 36 [.agg (eEdited e_a0)] (.agg (eEditedo r)) := by
  rw [p_spec_l26Own] at h
  refine Does.bnd (fun hb => ?_)
  have hb2 : e_a0.Props.length ≤ 9223372036854775807 ∧ e_a0.Done.length ≤ 9223372036854775807 ∧ e_a0.Back.length ≤ 9223372036854775807 := by simpa [AV.fitNs, AV.fitN, eEdited] using hb
  obtain ⟨hl0, hl1, hl2⟩ := hb2
  refine Does.walk (nt := 16) Tryd.func36 rfl rfl (by simp) (by decide) rfl (fun G0 X w0 pv => ?_)
  by_cases c1 : e_a0.Props.length < 4294967296
  case neg => rw [if_neg c1] at h; cases h
  rw [if_pos c1] at h
  by_cases c3 : e_a0.Done.length < 4294967296
  case neg => rw [if_neg c3] at h; cases h
  rw [if_pos c3] at h
  by_cases c5 : e_a0.Back.length < 4294967296
  case neg => rw [if_neg c5] at h; cases h
  rw [if_pos c5] at h
  have ff := p_spec_l26Own_tf.down
  try refine st_by ff ?_
  repeat' (first | exact trivial | refine And.intro sd ?_ | (refine aw_drawn (id := 1) ?_ [[], [], [1], [0, 1, 2], [], [], [5], [0, 1, 2, 3, 4, 5, 6], [], [], [9], [0, 1, 2, 3, 4, 5, 6, 7, 8, 9, 10], [0, 1, 2, 3, 4, 5, 6, 7, 8, 9, 10, 11], [0, 1, 2, 3, 4, 5, 6, 7, 8, 9, 10, 11, 12]] 11 ?_ ?_; (· kernel_rfl); (· kernel_rfl); refine st_by ff ?_))
  cases h
  exact ret_q1 rfl (p_spec_l26Own_rt ff trivial)
/-! spec.l26Step -/
def p_spec_l26Step_j0 (e_a0 : GEdited) (s_a1 : GStep) (v1 : List GProp × Bool) (b_2 : Bool) : Option (GEdited × Bool) := (if b_2 = true then some ((⟨([] : List GProp), ([] : List GStep), ([] : List GStep)⟩ : GEdited), false) else ((p_spec_l26Own e_a0).bind fun v4 => (if v4.Done.length < 4294967296 then some ((⟨v1.1, (v4.Done ++ [s_a1]), ([] : List GStep)⟩ : GEdited), true) else none)))
theorem p_spec_l26Step_pv {F C A : Prop} (hF : F) (hC : C) (h : F → C → A := by intro hF hC; first | exact cl_by hF | (refine st_by hF ?_; (repeat' (first | exact trivial | apply And.intro)); all_goals (clear hF; first | rfl | (simp only [hC, List.length_append, List.length_cons, List.length_nil, List.append_nil, List.nil_append, List.cons_append, List.length_set, List.append_assoc, Nat.zero_add, List.length_replicate, esEdited_app, esEdited_cons, esEdited_nil, eEdited_eq, esEditedo_app, esEditedo_cons, esEditedo_nil, eEditedo_eq, esStep_app, esStep_cons, esStep_nil, eStep_eq, esProp_app, esProp_cons, esProp_nil, eProp_eq]; done) | (simp [hC, List.length_append, List.length_cons, List.length_nil, List.append_nil, List.nil_append, List.cons_append, List.length_set, List.append_assoc, Nat.zero_add, List.length_replicate, esEdited_app, esEdited_cons, esEdited_nil, eEdited_eq, esEditedo_app, esEditedo_cons, esEditedo_nil, eEditedo_eq, esStep_app, esStep_cons, esStep_nil, eStep_eq, esProp_app, esProp_cons, esProp_nil, eProp_eq]; done) | omega))) : A := h hF hC
theorem p_spec_l26Step_sa {F C A : Prop} (hF : F) (hC : C) (h : F → C → A := by intro hF hC; first | exact ca_by hF | (refine sa_by hF ?_; (repeat' (first | exact trivial | apply And.intro)); all_goals (clear hF; first | rfl | (simp only [hC, List.length_append, List.length_cons, List.length_nil, List.append_nil, List.nil_append, List.cons_append, List.length_set, List.append_assoc, Nat.zero_add, List.length_replicate, esEdited_app, esEdited_cons, esEdited_nil, eEdited_eq, esEditedo_app, esEditedo_cons, esEditedo_nil, eEditedo_eq, esStep_app, esStep_cons, esStep_nil, eStep_eq, esProp_app, esProp_cons, esProp_nil, eProp_eq]; done) | (simp [hC, List.length_append, List.length_cons, List.length_nil, List.append_nil, List.nil_append, List.cons_append, List.length_set, List.append_assoc, Nat.zero_add, List.length_replicate, esEdited_app, esEdited_cons, esEdited_nil, eEdited_eq, esEditedo_app, esEditedo_cons, esEditedo_nil, eEditedo_eq, esStep_app, esStep_cons, esStep_nil, eStep_eq, esProp_app, esProp_cons, esProp_nil, eProp_eq]; done) | omega))) : A := h hF hC
def p_spec_l26Step_tf := PLift.up (ai @eEdited_eq (ai @esEdited_len (ai @esEdited_nil (ai @esEdited_leaf (ai @esEdited_fit (ai @eEditedo_eq (ai @esEditedo_len (ai @esEditedo_nil (ai @eStep_eq (ai @esStep_len (ai @esStep_nil (ai @esStep_leaf (ai @esStep_fit (ai @eProp_eq (ai @esProp_len (ai @esProp_nil (ai @esProp_leaf (ai @esProp_fit (ai @esEditedo_share (ai @esEditedo_pure (ai @esStep_share (ai @esStep_pure (ai @esProp_share (ai @esProp_pure (ai @str_beq (ai @Ty.nz28 (ai @Ty.ldA28 (ai @Ty.ldS28 (ai @Ty.sz28 (ai @Ty.szn28 (ai @Ty.nz48 (ai @Ty.ldA48 (ai @Ty.sz48 (ai @Ty.szn48 (ai @Ty.nz29 (ai @Ty.ldA29 (ai @Ty.ldS29 (ai @Ty.sz29 (ai @Ty.szn29 (ai @Ty.nz31 (ai @Ty.ldA31 (ai @Ty.sz31 (ai @Ty.szn31 (ai @Ty.fo31_0 (ai @Ty.fk31_0 (ai @Ty.fs31_0 (ai @Ty.fn31_0 (ai @Ty.fo31_1 (ai @Ty.fk31_1 (ai @Ty.fs31_1 (ai @Ty.fn31_1 (ai @Ty.sl29 (ai @Ty.nze29 (ai @Ty.slz29 (ai @Ty.zok29 (ai @Ty.by29 (ai @Ty.zs29 (ai @Ty.zv31 (ai @Ty.bd31 (ai @Ty.pl31_0 (ai @Ty.pl31_1 (ai @Ty.ag31 (ai @Ty.sl28 (ai @Ty.slz28 @trivial))))))))))))))))))))))))))))))))))))))))))))))))))))))))))))))))
def p_spec_l26Step (N : Nat) (e_a0 : GEdited) (s_a1 : GStep) : Option (GEdited × Bool) := ((p_spec_l26Do N e_a0.Props s_a1).bind fun v1 => (if v1.2 = true then p_spec_l26Step_j0 e_a0 s_a1 v1 ((e_a0.Done.length : Int) == 100) else p_spec_l26Step_j0 e_a0 s_a1 v1 true))
theorem p_spec_l26Step_does (N : Nat) (e_a0 : GEdited) (s_a1 : GStep) (r : GEdited × Bool) (h : p_spec_l26Step N e_a0 s_a1 = some r) : Does Tryd.prog 45 [.agg (eEdited e_a0), .agg (eStep s_a1)] (.tup [.agg (eEditedo r.1), B r.2]) := by
  rw [p_spec_l26Step] at h
  refine Does.bnd (fun hb => ?_)
  have hb2 : e_a0.Props.length ≤ 9223372036854775807 ∧ e_a0.Done.length ≤ 9223372036854775807 ∧ e_a0.Back.length ≤ 9223372036854775807 := by simpa [AV.fitNs, AV.fitN, eEdited, eStep] using hb
  obtain ⟨hl0, hl1, hl2⟩ := hb2
  refine Does.walk (nt := 33) Tryd.func45 rfl rfl (by simp) (by decide) rfl (fun G0 X w0 pv => ?_)
  obtain ⟨v1, ev1, h⟩ := Option.bind_eq_some_iff.1 h
  try dsimp only at h
  have ff := p_spec_l26Step_tf.down
  try refine st_by ff ?_
  repeat' (first | exact trivial | refine And.intro sd ?_)
  first
  | (refine cq_own (p_spec_l26Do_does N e_a0.Props s_a1 v1 ev1) (hf_by ff) kr ⟨p_spec_l26Step_sa ff trivial, ?_⟩; clear ff)
  have ff := p_spec_l26Step_tf.down
  try refine st_by ff ?_
  repeat' (first | exact trivial | refine And.intro sd ?_)
  try clear ff
  generalize hk_0 : thenK _ _ = kk_0
  have key_0 : ∀ σ, (∃ b_2 : Bool, (p_spec_l26Step_j0 e_a0 s_a1 v1 b_2 = some r) ∧ σ.t 2 = .ptr 2 [] 0 ∧ σ.t 3 = .ptr 3 [] 0 ∧ σ.t 4 = .ptr 4 [] 0 ∧ σ.t 6 = .sl 12 [0] 0 v1.1.length ∧ σ.t 22 = B b_2 ∧ σ.m 2 = some (.box true [.row false 2 e_a0.Props.length (esProp e_a0.Props), .row false 5 e_a0.Done.length (esStep e_a0.Done), .row false 5 e_a0.Back.length (esStep e_a0.Back)]) ∧ σ.m 3 = some (.box true [S s_a1.Path, S s_a1.Was, B s_a1.Had, S s_a1.Is, B s_a1.Has]) ∧ σ.m 4 = some (.box true [.row true 2 0 [], .row true 5 0 [], .row true 5 0 []]) ∧ σ.m 12 = some (.tup [.row true 2 v1.1.length (esProp v1.1), B v1.2])) → kk_0 .nm σ := by
    rintro σ ⟨b_2, h, g0_j0, g1_j0, g2_j0, g3_j0, g4_j0, g5_j0, g6_j0, g7_j0, g8_j0⟩
    rw [← hk_0]
    rw [p_spec_l26Step_j0] at h
    by_cases c3 : b_2 = true
    · rw [if_pos c3] at h
      have dc3 := c3
      have ff := ai @g0_j0 (ai @g1_j0 (ai @g2_j0 (ai @g3_j0 (ai @g4_j0 (ai @g5_j0 (ai @g6_j0 (ai @g7_j0 (ai @g8_j0 (ai @dc3 p_spec_l26Step_tf.down)))))))))
      try refine st_by ff ?_
      repeat' (first | exact trivial | refine And.intro sd ?_)
      cases h
      exact ret_q2 rfl (p_spec_l26Own_rt ff trivial)
    rw [if_neg c3] at h
    have dc3 := eq_false_of_ne_true c3
    obtain ⟨v4, ev4, h⟩ := Option.bind_eq_some_iff.1 h
    try dsimp only at h
    have ff := ai @g0_j0 (ai @g1_j0 (ai @g2_j0 (ai @g3_j0 (ai @g4_j0 (ai @g5_j0 (ai @g6_j0 (ai @g7_j0 (ai @g8_j0 (ai @dc3 p_spec_l26Step_tf.down)))))))))
    try refine st_by ff ?_
    repeat' (first | exact trivial | refine And.intro sd ?_)
    first
    | (refine cq_own (p_spec_l26Own_does e_a0 v4 ev4) (hf_by ff) kr ⟨p_spec_l26Step_sa ff trivial, ?_⟩; clear ff)
    by_cases c5 : v4.Done.length < 4294967296
    case neg => rw [if_neg c5] at h; cases h
    rw [if_pos c5] at h
    have a6a : esStep v4.Done ++ [S s_a1.Path, S s_a1.Was, B s_a1.Had, S s_a1.Is, B s_a1.Has] = esStep (v4.Done ++ [s_a1]) := by simp [esStep_app, esStep_cons, esStep_nil, eStep_eq, esEdited_nil, esStep_nil, esProp_nil]
    have a6b : v4.Done.length + 1 = (v4.Done ++ [s_a1]).length := by simp
    have ff := ai @g0_j0 (ai @g1_j0 (ai @g2_j0 (ai @g3_j0 (ai @g4_j0 (ai @g5_j0 (ai @g6_j0 (ai @g7_j0 (ai @g8_j0 (ai @dc3 (ai @a6a (ai @a6b p_spec_l26Step_tf.down)))))))))))
    try refine st_by ff ?_
    repeat' (first | exact trivial | refine And.intro sd ?_)
    cases h
    exact ret_q2 rfl (p_spec_l26Own_rt ff trivial)
  have hrt_0 := fun σ : ASt => congrFun (congrFun hk_0.symm AX.rt) σ
  have hex_0 := fun (i : Nat) (σ : ASt) => congrFun (congrFun hk_0.symm (AX.ex i)) σ
  by_cases c7 : v1.2 = true
  case neg =>
   rw [if_neg c7] at h
   have dc7 := eq_false_of_ne_true c7
   have ff := ai @hrt_0 (ai @hex_0 (ai @dc7 p_spec_l26Step_tf.down))
   try refine st_by ff ?_
   repeat' (first | exact trivial | refine And.intro sd ?_)
   refine key_0 _ ?_
   refine ⟨true, h, ?_⟩
   exact p_spec_l26Step_pv ff trivial
  rw [if_pos c7] at h
  have dc7 := c7
  have ff := ai @hrt_0 (ai @hex_0 (ai @dc7 p_spec_l26Step_tf.down))
  try refine st_by ff ?_
  repeat' (first | exact trivial | refine And.intro sd ?_)
  refine key_0 _ ?_
  refine ⟨((e_a0.Done.length : Int) == 100), h, ?_⟩
  exact p_spec_l26Step_pv ff trivial
/-! slices.BinarySearchFunc[[]impl.Prop,impl.Prop,string] -/
def p_slices_BinarySearchFunc_impl_Prop_impl_Prop_string_l0 (x_a0 : List GProp) (target_a1 : ByteArray) (cmp_a2 : GProp → ByteArray → Option Int) : Nat → Int → Int → Option (Int × Int)
  | 0, _, _ => none
  | n_0 + 1, i_6, j_7 => (if i_6 < j_7 then ((idx x_a0 (IntKind.i64.wrap (Int.fdiv (IntKind.u64.wrap (IntKind.i64.wrap (i_6 + j_7))) (2 ^ (min (1 : Int).toNat IntKind.u64.bits))))).bind fun x14 => ((cmp_a2 x14 target_a1).bind fun v16 => (if v16 < 0 then p_slices_BinarySearchFunc_impl_Prop_impl_Prop_string_l0 x_a0 target_a1 cmp_a2 n_0 (IntKind.i64.wrap ((IntKind.i64.wrap (Int.fdiv (IntKind.u64.wrap (IntKind.i64.wrap (i_6 + j_7))) (2 ^ (min (1 : Int).toNat IntKind.u64.bits)))) + 1)) j_7 else p_slices_BinarySearchFunc_impl_Prop_impl_Prop_string_l0 x_a0 target_a1 cmp_a2 n_0 i_6 (IntKind.i64.wrap (Int.fdiv (IntKind.u64.wrap (IntKind.i64.wrap (i_6 + j_7))) (2 ^ (min (1 : Int).toNat IntKind.u64.bits))))))) else some (i_6, j_7))
theorem p_slices_BinarySearchFunc_impl_Prop_impl_Prop_string_sa {F C A : Prop} (hF : F) (hC : C) (h : F → C → A := by intro hF hC; first | exact ca_by hF | (refine sa_by hF ?_; (repeat' (first | exact trivial | apply And.intro)); all_goals (clear hF; first | rfl | (simp only [hC, List.length_append, List.length_cons, List.length_nil, List.append_nil, List.nil_append, List.cons_append, List.length_set, List.append_assoc, Nat.zero_add, List.length_replicate, esProp_app, esProp_cons, esProp_nil, eProp_eq]; done) | (simp [hC, List.length_append, List.length_cons, List.length_nil, List.append_nil, List.nil_append, List.cons_append, List.length_set, List.append_assoc, Nat.zero_add, List.length_replicate, esProp_app, esProp_cons, esProp_nil, eProp_eq]; done) | omega))) : A := h hF hC
def p_slices_BinarySearchFunc_impl_Prop_impl_Prop_string_tf := PLift.up (ai @eProp_eq (ai @esProp_len (ai @esProp_nil (ai @esProp_leaf (ai @esProp_fit (ai @esProp_share (ai @esProp_pure (ai @str_beq (ai @Ty.sl28 (ai @Ty.slz28 (ai @Ty.nz71 (ai @Ty.ldA71 (ai @Ty.sz71 (ai @Ty.szn71 (ai @Ty.int3 (ai @Ty.int102 @trivial))))))))))))))))
def p_slices_BinarySearchFunc_impl_Prop_impl_Prop_string (N : Nat) (x_a0 : List GProp) (target_a1 : ByteArray) (cmp_a2 : GProp → ByteArray → Option Int) : Option (Int × Bool) := ((p_slices_BinarySearchFunc_impl_Prop_impl_Prop_string_l0 x_a0 target_a1 cmp_a2 N 0 (x_a0.length : Int)).bind fun q_0 => match q_0 with | (i_6, j_7) => (if i_6 < (x_a0.length : Int) then ((idx x_a0 i_6).bind fun x19 => ((cmp_a2 x19 target_a1).bind fun v21 => some (i_6, (v21 == 0)))) else some (i_6, false)))
theorem p_slices_BinarySearchFunc_impl_Prop_impl_Prop_string_does (N : Nat) (x_a0 : List GProp) (target_a1 : ByteArray) (f2 : FuncId) (caps2 : List AV) (hc2 : AV.noRefs caps2 = true) (he2 : entB Tryd.prog f2 = true) (cmp_a2 : GProp → ByteArray → Option Int) (hp2 : ∀ (x0_ : GProp) (x1_ : ByteArray) (y_ : Int), cmp_a2 x0_ x1_ = some y_ → Does Tryd.prog f2 ([.agg (eProp x0_), S x1_] ++ caps2) (I y_)) (r : Int × Bool) (h : p_slices_BinarySearchFunc_impl_Prop_impl_Prop_string N x_a0 target_a1 cmp_a2 = some r) : Does Tryd.prog 78 [.row false 2 x_a0.length (esProp x_a0), S target_a1, .fn f2 caps2] (.tup [I r.1, B r.2]) := by
  rw [p_slices_BinarySearchFunc_impl_Prop_impl_Prop_string] at h
  refine Does.bnd (fun hb => ?_)
  have hb2 : x_a0.length ≤ 9223372036854775807 := by simpa [AV.fitNs, AV.fitN] using hb
  have hl0 := hb2
  refine Does.walk (nt := 49) Tryd.func78 rfl rfl (by simp) (by decide) (by simp [AV.noRefs, AV.noRef, hc2]) (fun G0 X w0 pv => ?_)
  obtain ⟨q_0, eq_0, h⟩ := Option.bind_eq_some_iff.1 h
  have ff := ai @hc2 p_slices_BinarySearchFunc_impl_Prop_impl_Prop_string_tf.down
  try refine st_by ff ?_
  repeat' (first | exact trivial | refine And.intro sd ?_)
  obtain ⟨I_0, hI_0⟩ : ∃ I_ : (Nat × Int × Int) → ASt → Prop, I_ = (fun (a : Nat × Int × Int) σ => match a with | (n_0, i_6, j_7) => (p_slices_BinarySearchFunc_impl_Prop_impl_Prop_string_l0 x_a0 target_a1 cmp_a2 n_0 i_6 j_7 = some q_0) ∧ σ.t 0 = .row false 2 x_a0.length (esProp x_a0) ∧ σ.t 1 = S target_a1 ∧ σ.t 2 = .fn f2 caps2 ∧ σ.t 8 = I (x_a0.length : Int) ∧ σ.t 9 = I i_6 ∧ σ.t 10 = I j_7) := ⟨_, rfl⟩
  obtain ⟨M_0, hM_0⟩ : ∃ M_ : (Nat × Int × Int) → Nat, M_ = (fun (a : Nat × Int × Int) => match a with | (n_0, i_6, j_7) => n_0) := ⟨_, rfl⟩
  obtain ⟨J_0, hJ_0⟩ : ∃ J_ : ASt → Prop, J_ = (fun σ => ∃ i_6 : Int, ∃ j_7 : Int, (some (i_6, j_7) = some q_0) ∧ σ.t 0 = .row false 2 x_a0.length (esProp x_a0) ∧ σ.t 1 = S target_a1 ∧ σ.t 2 = .fn f2 caps2 ∧ σ.t 8 = I (x_a0.length : Int) ∧ σ.t 9 = I i_6) := ⟨_, rfl⟩
  refine aw_loopC (id := 0) I_0 M_0 J_0 (N, 0, (x_a0.length : Int)) ?_ ?_ ?_
  · rw [hI_0]
    refine ⟨eq_0, ?_⟩
    exact p_spec_l26Find_pv ff trivial
  · try clear ff
    rintro ⟨n_0, i_6, j_7⟩ σ hg_0
    rw [hI_0] at hg_0
    obtain ⟨h_0, g0_0, g1_0, g2_0, g3_0, g4_0, g5_0⟩ := hg_0
    cases n_0 with
    | zero => rw [p_slices_BinarySearchFunc_impl_Prop_impl_Prop_string_l0] at h_0; cases h_0
    | succ n_0 =>
      rw [p_slices_BinarySearchFunc_impl_Prop_impl_Prop_string_l0] at h_0
      by_cases c13 : i_6 < j_7
      case neg =>
       rw [if_neg c13] at h_0
       have dc13 := decide_eq_false c13
       have ff := ai @hc2 (ai @g0_0 (ai @g1_0 (ai @g2_0 (ai @g3_0 (ai @g4_0 (ai @g5_0 (ai @dc13 p_slices_BinarySearchFunc_impl_Prop_impl_Prop_string_tf.down)))))))
       try refine st_by ff ?_
       repeat' (first | exact trivial | refine And.intro sd ?_)
       refine JW.intro ?_
       rw [hJ_0]
       refine ⟨i_6, j_7, h_0, ?_⟩
       exact p_spec_l26Find_pv ff trivial
      rw [if_pos c13] at h_0
      have dc13 := decide_eq_true c13
      obtain ⟨x14, ex14, h_0⟩ := Option.bind_eq_some_iff.1 h_0
      try dsimp only at h_0
      have f15a := idx_lo ex14
      have f15b := idx_hi ex14
      have f15c : (esProp x_a0).drop (((IntKind.i64.wrap (Int.fdiv (IntKind.u64.wrap (IntKind.i64.wrap (i_6 + j_7))) (2 ^ (min (1 : Int).toNat IntKind.u64.bits)))).toNat) * 2) = eProp x14 ++ esProp (x_a0.drop ((IntKind.i64.wrap (Int.fdiv (IntKind.u64.wrap (IntKind.i64.wrap (i_6 + j_7))) (2 ^ (min (1 : Int).toNat IntKind.u64.bits)))).toNat + 1)) := drop_enc (fun _ => rfl) (idx_get ex14)
      obtain ⟨v16, ev16, h_0⟩ := Option.bind_eq_some_iff.1 h_0
      try dsimp only at h_0
      have ff := ai @hc2 (ai @g0_0 (ai @g1_0 (ai @g2_0 (ai @g3_0 (ai @g4_0 (ai @g5_0 (ai @dc13 (ai @f15c p_slices_BinarySearchFunc_impl_Prop_impl_Prop_string_tf.down))))))))
      try refine st_by ff ?_
      repeat' (first | exact trivial | refine And.intro sd ?_)
      first
      | (refine cq_call (hp2 x14 target_a1 v16 ev16) (hf_by ff) he2 ⟨p_slices_BinarySearchFunc_impl_Prop_impl_Prop_string_sa ff trivial, ?_⟩; clear ff)
      by_cases c17 : v16 < 0
      case neg =>
       rw [if_neg c17] at h_0
       have dc17 := decide_eq_false c17
       have ff := ai @hc2 (ai @g0_0 (ai @g1_0 (ai @g2_0 (ai @g3_0 (ai @g4_0 (ai @g5_0 (ai @dc13 (ai @f15c (ai @dc17 p_slices_BinarySearchFunc_impl_Prop_impl_Prop_string_tf.down)))))))))
       try refine st_by ff ?_
       repeat' (first | exact trivial | refine And.intro sd ?_)
       refine Back.intro (n_0, i_6, (IntKind.i64.wrap (Int.fdiv (IntKind.u64.wrap (IntKind.i64.wrap (i_6 + j_7))) (2 ^ (min (1 : Int).toNat IntKind.u64.bits))))) ?_ ?_
       · rw [hM_0]; exact Nat.lt_succ_self _
       rw [hI_0]
       refine ⟨h_0, ?_⟩
       exact p_spec_l26Find_pv ff trivial
      rw [if_pos c17] at h_0
      have dc17 := decide_eq_true c17
      have ff := ai @hc2 (ai @g0_0 (ai @g1_0 (ai @g2_0 (ai @g3_0 (ai @g4_0 (ai @g5_0 (ai @dc13 (ai @f15c (ai @dc17 p_slices_BinarySearchFunc_impl_Prop_impl_Prop_string_tf.down)))))))))
      try refine st_by ff ?_
      repeat' (first | exact trivial | refine And.intro sd ?_)
      refine Back.intro (n_0, (IntKind.i64.wrap ((IntKind.i64.wrap (Int.fdiv (IntKind.u64.wrap (IntKind.i64.wrap (i_6 + j_7))) (2 ^ (min (1 : Int).toNat IntKind.u64.bits)))) + 1)), j_7) ?_ ?_
      · rw [hM_0]; exact Nat.lt_succ_self _
      rw [hI_0]
      refine ⟨h_0, ?_⟩
      exact p_spec_l26Find_pv ff trivial
  · try clear ff
    rintro σ hg_0
    rw [hJ_0] at hg_0
    obtain ⟨i_6, j_7, hj_0, g0_0a, g1_0a, g2_0a, g3_0a, g4_0a⟩ := hg_0
    cases hj_0
    try dsimp only at h
    by_cases c18 : i_6 < (x_a0.length : Int)
    case neg =>
     rw [if_neg c18] at h
     have dc18 := decide_eq_false c18
     have ff := ai @hc2 (ai @g0_0a (ai @g1_0a (ai @g2_0a (ai @g3_0a (ai @g4_0a (ai @dc18 p_slices_BinarySearchFunc_impl_Prop_impl_Prop_string_tf.down))))))
     try refine st_by ff ?_
     repeat' (first | exact trivial | refine And.intro sd ?_)
     cases h
     exact ret_q2 rfl (p_spec_l26Find_rt ff trivial)
    rw [if_pos c18] at h
    have dc18 := decide_eq_true c18
    obtain ⟨x19, ex19, h⟩ := Option.bind_eq_some_iff.1 h
    try dsimp only at h
    have f20a := idx_lo ex19
    have f20b := idx_hi ex19
    have f20c : (esProp x_a0).drop (i_6.toNat * 2) = eProp x19 ++ esProp (x_a0.drop (i_6.toNat + 1)) := drop_enc (fun _ => rfl) (idx_get ex19)
    obtain ⟨v21, ev21, h⟩ := Option.bind_eq_some_iff.1 h
    try dsimp only at h
    have ff := ai @hc2 (ai @g0_0a (ai @g1_0a (ai @g2_0a (ai @g3_0a (ai @g4_0a (ai @dc18 (ai @f20c p_slices_BinarySearchFunc_impl_Prop_impl_Prop_string_tf.down)))))))
    try refine st_by ff ?_
    repeat' (first | exact trivial | refine And.intro sd ?_)
    first
    | (refine cq_call (hp2 x19 target_a1 v21 ev21) (hf_by ff) he2 ⟨p_slices_BinarySearchFunc_impl_Prop_impl_Prop_string_sa ff trivial, ?_⟩; clear ff)
    have ff := ai @hc2 (ai @g0_0a (ai @g1_0a (ai @g2_0a (ai @g3_0a (ai @g4_0a (ai @dc18 (ai @f20c p_slices_BinarySearchFunc_impl_Prop_impl_Prop_string_tf.down)))))))
    try refine st_by ff ?_
    repeat' (first | exact trivial | refine And.intro sd ?_)
    cases h
    exact ret_q2 rfl (p_spec_l26Find_rt ff trivial)
/-! internal/bytealg.CompareString -/
theorem p_internal_bytealg_CompareString_sa {F C A : Prop} (hF : F) (hC : C) (h : F → C → A := by intro hF hC; first | exact ca_by hF | (refine sa_by hF ?_; (repeat' (first | exact trivial | apply And.intro)); all_goals (clear hF; first | rfl | (simp only [hC, List.length_append, List.length_cons, List.length_nil, List.append_nil, List.nil_append, List.cons_append, List.length_set, List.append_assoc, Nat.zero_add, List.length_replicate]; done) | (simp [hC, List.length_append, List.length_cons, List.length_nil, List.append_nil, List.nil_append, List.cons_append, List.length_set, List.append_assoc, Nat.zero_add, List.length_replicate]; done) | omega))) : A := h hF hC
theorem p_internal_bytealg_CompareString_rt {F C A : Prop} (hF : F) (hC : C) (h : F → C → A := by intro hF hC; first | (refine sr_by hF ?_; (repeat' (first | exact trivial | apply And.intro)); all_goals (clear hF; first | rfl | (simp only [hC, List.length_append, List.length_cons, List.length_nil, List.append_nil, List.nil_append, List.cons_append, List.length_set, List.append_assoc, Nat.zero_add, List.length_replicate]; done) | (simp [hC, List.length_append, List.length_cons, List.length_nil, List.append_nil, List.nil_append, List.cons_append, List.length_set, List.append_assoc, Nat.zero_add, List.length_replicate]; done) | omega)) | (first | rfl | (simp only [hC, List.length_append, List.length_cons, List.length_nil, List.append_nil, List.nil_append, List.cons_append, List.length_set, List.append_assoc, Nat.zero_add, List.length_replicate]; done) | (simp [hC, List.length_append, List.length_cons, List.length_nil, List.append_nil, List.nil_append, List.cons_append, List.length_set, List.append_assoc, Nat.zero_add, List.length_replicate]; done) | omega)) : A := h hF hC
def p_internal_bytealg_CompareString_tf := PLift.up (ai @str_beq @trivial)
def p_internal_bytealg_CompareString (a_a0 : ByteArray) (b_a1 : ByteArray) : Option (Int) := some (cmpB a_a0 b_a1)
theorem p_internal_bytealg_CompareString_does (a_a0 : ByteArray) (b_a1 : ByteArray) (r : Int) (h : p_internal_bytealg_CompareString a_a0 b_a1 = some r) : Does Tryd.prog 87 [S a_a0, S b_a1] (I r) := by
  rw [p_internal_bytealg_CompareString] at h
  refine Does.walk (nt := 8) Tryd.func87 rfl rfl (by simp) (by decide) rfl (fun G0 X w0 pv => ?_)
  have ff := p_internal_bytealg_CompareString_tf.down
  try refine st_by ff ?_
  repeat' (first | exact trivial | refine And.intro sd ?_)
  (refine cq_ext (ext_cmp Tryd.func92 (by kernel_rfl) (by kernel_rfl) (by kernel_rfl) (by kernel_rfl) a_a0 b_a1) ⟨p_internal_bytealg_CompareString_sa ff trivial, ?_⟩; clear ff)
  have ff := p_internal_bytealg_CompareString_tf.down
  try refine st_by ff ?_
  repeat' (first | exact trivial | refine And.intro sd ?_)
  cases h
  exact ret_q1 rfl (p_internal_bytealg_CompareString_rt ff trivial)
/-! strings.Compare -/
def p_strings_Compare_tf := PLift.up (ai @str_beq @trivial)
def p_strings_Compare (a_a0 : ByteArray) (b_a1 : ByteArray) : Option (Int) := ((p_internal_bytealg_CompareString a_a0 b_a1).bind fun v1 => some v1)
theorem p_strings_Compare_does (a_a0 : ByteArray) (b_a1 : ByteArray) (r : Int) (h : p_strings_Compare a_a0 b_a1 = some r) : Does Tryd.prog 80 [S a_a0, S b_a1] (I r) := by
  rw [p_strings_Compare] at h
  refine Does.walk (nt := 8) Tryd.func80 rfl rfl (by simp) (by decide) rfl (fun G0 X w0 pv => ?_)
  obtain ⟨v1, ev1, h⟩ := Option.bind_eq_some_iff.1 h
  try dsimp only at h
  have ff := p_strings_Compare_tf.down
  try refine st_by ff ?_
  repeat' (first | exact trivial | refine And.intro sd ?_)
  first
  | (refine cq_call (p_internal_bytealg_CompareString_does a_a0 b_a1 v1 ev1) (hf_by ff) kr ⟨p_internal_bytealg_CompareString_sa ff trivial, ?_⟩; clear ff)
  have ff := p_strings_Compare_tf.down
  try refine st_by ff ?_
  repeat' (first | exact trivial | refine And.intro sd ?_)
  cases h
  exact ret_q1 rfl (p_internal_bytealg_CompareString_rt ff trivial)
/-! impl.propPlace$1 -/
def p_impl_propPlace_1_tf := PLift.up (ai @eProp_eq (ai @esProp_len (ai @esProp_nil (ai @esProp_leaf (ai @esProp_fit (ai @esProp_share (ai @esProp_pure (ai @str_beq (ai @Ty.nz9 (ai @Ty.ldA9 (ai @Ty.ldS9 (ai @Ty.sz9 (ai @Ty.szn9 (ai @Ty.fo71_0 (ai @Ty.fk71_0 (ai @Ty.fs71_0 (ai @Ty.fn71_0 @trivial)))))))))))))))))
def p_impl_propPlace_1 (p_a0 : GProp) (path_a1 : ByteArray) : Option (Int) := ((p_strings_Compare p_a0.Path path_a1).bind fun v1 => some v1)
theorem p_impl_propPlace_1_does (p_a0 : GProp) (path_a1 : ByteArray) (r : Int) (h : p_impl_propPlace_1 p_a0 path_a1 = some r) : Does Tryd.prog 79 [.agg (eProp p_a0), S path_a1] (I r) := by
  rw [p_impl_propPlace_1] at h
  refine Does.walk (nt := 9) Tryd.func79 rfl rfl (by simp) (by decide) rfl (fun G0 X w0 pv => ?_)
  obtain ⟨v1, ev1, h⟩ := Option.bind_eq_some_iff.1 h
  try dsimp only at h
  have ff := p_impl_propPlace_1_tf.down
  try refine st_by ff ?_
  repeat' (first | exact trivial | refine And.intro sd ?_)
  first
  | (refine cq_call (p_strings_Compare_does p_a0.Path path_a1 v1 ev1) (hf_by ff) kr ⟨p_slices_BinarySearchFunc_impl_Prop_impl_Prop_string_sa ff trivial, ?_⟩; clear ff)
  have ff := p_impl_propPlace_1_tf.down
  try refine st_by ff ?_
  repeat' (first | exact trivial | refine And.intro sd ?_)
  cases h
  exact ret_q1 rfl (p_spec_l26Find_rt ff trivial)
/-! impl.propPlace -/
def p_impl_propPlace_tf := PLift.up (ai @eProp_eq (ai @esProp_len (ai @esProp_nil (ai @esProp_leaf (ai @esProp_fit (ai @esProp_share (ai @esProp_pure (ai @str_beq @trivial))))))))
def p_impl_propPlace (N : Nat) (l_a0 : List GProp) (path_a1 : ByteArray) : Option (Int × Bool) := ((p_slices_BinarySearchFunc_impl_Prop_impl_Prop_string N l_a0 path_a1 (fun x0_ x1_ => p_impl_propPlace_1 x0_ x1_)).bind fun v1 => some (v1.1, v1.2))
theorem p_impl_propPlace_does (N : Nat) (l_a0 : List GProp) (path_a1 : ByteArray) (r : Int × Bool) (h : p_impl_propPlace N l_a0 path_a1 = some r) : Does Tryd.prog 66 [.row false 2 l_a0.length (esProp l_a0), S path_a1] (.tup [I r.1, B r.2]) := by
  rw [p_impl_propPlace] at h
  refine Does.bnd (fun hb => ?_)
  have hb2 : l_a0.length ≤ 9223372036854775807 := by simpa [AV.fitNs, AV.fitN] using hb
  have hl0 := hb2
  refine Does.walk (nt := 11) Tryd.func66 rfl rfl (by simp) (by decide) rfl (fun G0 X w0 pv => ?_)
  obtain ⟨v1, ev1, h⟩ := Option.bind_eq_some_iff.1 h
  try dsimp only at h
  have ff := p_impl_propPlace_tf.down
  try refine st_by ff ?_
  repeat' (first | exact trivial | refine And.intro sd ?_)
  first
  | (refine cq_call (p_slices_BinarySearchFunc_impl_Prop_impl_Prop_string_does N l_a0 path_a1 79 [] (by simp [AV.noRefs, AV.noRef]) kr (fun x0_ x1_ => p_impl_propPlace_1 x0_ x1_) (fun x0_ x1_ y_ h_ => p_impl_propPlace_1_does x0_ x1_ y_ h_) v1 ev1) (hf_by ff) kr ⟨p_slices_BinarySearchFunc_impl_Prop_impl_Prop_string_sa ff trivial, ?_⟩; clear ff)
  have ff := p_impl_propPlace_tf.down
  try refine st_by ff ?_
  repeat' (first | exact trivial | refine And.intro sd ?_)
  cases h
  exact ret_q2 rfl (p_spec_l26Find_rt ff trivial)
/-! impl.propAt -/
def p_impl_propAt_tf := PLift.up (ai @eProp_eq (ai @esProp_len (ai @esProp_nil (ai @esProp_leaf (ai @esProp_fit (ai @esProp_share (ai @esProp_pure (ai @str_beq (ai @Ty.sl28 (ai @Ty.slz28 (ai @Ty.nz9 (ai @Ty.ldA9 (ai @Ty.ldS9 (ai @Ty.sz9 (ai @Ty.szn9 (ai @Ty.fo71_1 (ai @Ty.fk71_1 (ai @Ty.fs71_1 (ai @Ty.fn71_1 @trivial)))))))))))))))))))
def p_impl_propAt (N : Nat) (l_a0 : List GProp) (path_a1 : ByteArray) : Option (ByteArray × Bool) := ((p_impl_propPlace N l_a0 path_a1).bind fun v1 => (if v1.2 = true then ((idx l_a0 v1.1).bind fun x3 => some (x3.Value, true)) else some ((⟨#[]⟩ : ByteArray), false)))
theorem p_impl_propAt_does (N : Nat) (l_a0 : List GProp) (path_a1 : ByteArray) (r : ByteArray × Bool) (h : p_impl_propAt N l_a0 path_a1 = some r) : Does Tryd.prog 46 [.row false 2 l_a0.length (esProp l_a0), S path_a1] (.tup [S r.1, B r.2]) := by
  rw [p_impl_propAt] at h
  refine Does.bnd (fun hb => ?_)
  have hb2 : l_a0.length ≤ 9223372036854775807 := by simpa [AV.fitNs, AV.fitN] using hb
  have hl0 := hb2
  refine Does.walk (nt := 21) Tryd.func46 rfl rfl (by simp) (by decide) rfl (fun G0 X w0 pv => ?_)
  obtain ⟨v1, ev1, h⟩ := Option.bind_eq_some_iff.1 h
  try dsimp only at h
  have ff := p_impl_propAt_tf.down
  try refine st_by ff ?_
  repeat' (first | exact trivial | refine And.intro sd ?_)
  first
  | (refine cq_call (p_impl_propPlace_does N l_a0 path_a1 v1 ev1) (hf_by ff) kr ⟨p_slices_BinarySearchFunc_impl_Prop_impl_Prop_string_sa ff trivial, ?_⟩; clear ff)
  by_cases c2 : v1.2 = true
  case neg =>
   rw [if_neg c2] at h
   have dc2 := eq_false_of_ne_true c2
   have ff := ai @dc2 p_impl_propAt_tf.down
   try refine st_by ff ?_
   repeat' (first | exact trivial | refine And.intro sd ?_)
   cases h
   exact ret_q2 rfl (p_spec_l26Find_rt ff trivial)
  rw [if_pos c2] at h
  have dc2 := c2
  obtain ⟨x3, ex3, h⟩ := Option.bind_eq_some_iff.1 h
  try dsimp only at h
  have f4a := idx_lo ex3
  have f4b := idx_hi ex3
  have f4c : (esProp l_a0).drop (v1.1.toNat * 2) = eProp x3 ++ esProp (l_a0.drop (v1.1.toNat + 1)) := drop_enc (fun _ => rfl) (idx_get ex3)
  have ff := ai @dc2 (ai @f4c p_impl_propAt_tf.down)
  try refine st_by ff ?_
  repeat' (first | exact trivial | refine And.intro sd ?_)
  cases h
  exact ret_q2 rfl (p_spec_l26Find_rt ff trivial)
/-! impl.isStep -/
def p_impl_isStep_j0 (s_a0 : GStep) (b_1 : Bool) : Option (Bool) := (if b_1 = true then some false else ((p_impl_isPath s_a0.Path).bind fun v3 => (if v3 = true then (if s_a0.Was = s_a0.Is then some (!(s_a0.Had == s_a0.Has)) else some true) else some false)))
theorem p_impl_isStep_pv {F C A : Prop} (hF : F) (hC : C) (h : F → C → A := by intro hF hC; first | exact cl_by hF | (refine st_by hF ?_; (repeat' (first | exact trivial | apply And.intro)); all_goals (clear hF; first | rfl | (simp only [hC, List.length_append, List.length_cons, List.length_nil, List.append_nil, List.nil_append, List.cons_append, List.length_set, List.append_assoc, Nat.zero_add, List.length_replicate, esStep_app, esStep_cons, esStep_nil, eStep_eq]; done) | (simp [hC, List.length_append, List.length_cons, List.length_nil, List.append_nil, List.nil_append, List.cons_append, List.length_set, List.append_assoc, Nat.zero_add, List.length_replicate, esStep_app, esStep_cons, esStep_nil, eStep_eq]; done) | omega))) : A := h hF hC
theorem p_impl_isStep_sa {F C A : Prop} (hF : F) (hC : C) (h : F → C → A := by intro hF hC; first | exact ca_by hF | (refine sa_by hF ?_; (repeat' (first | exact trivial | apply And.intro)); all_goals (clear hF; first | rfl | (simp only [hC, List.length_append, List.length_cons, List.length_nil, List.append_nil, List.nil_append, List.cons_append, List.length_set, List.append_assoc, Nat.zero_add, List.length_replicate, esStep_app, esStep_cons, esStep_nil, eStep_eq]; done) | (simp [hC, List.length_append, List.length_cons, List.length_nil, List.append_nil, List.nil_append, List.cons_append, List.length_set, List.append_assoc, Nat.zero_add, List.length_replicate, esStep_app, esStep_cons, esStep_nil, eStep_eq]; done) | omega))) : A := h hF hC
def p_impl_isStep_tf := PLift.up (ai @eStep_eq (ai @esStep_len (ai @esStep_nil (ai @esStep_leaf (ai @esStep_fit (ai @esStep_share (ai @esStep_pure (ai @str_beq (ai @Ty.nz4 (ai @Ty.ldA4 (ai @Ty.ldS4 (ai @Ty.sz4 (ai @Ty.szn4 (ai @Ty.nz9 (ai @Ty.ldA9 (ai @Ty.ldS9 (ai @Ty.sz9 (ai @Ty.szn9 (ai @Ty.fo48_2 (ai @Ty.fk48_2 (ai @Ty.fs48_2 (ai @Ty.fn48_2 (ai @Ty.fo48_1 (ai @Ty.fk48_1 (ai @Ty.fs48_1 (ai @Ty.fn48_1 (ai @Ty.fo48_4 (ai @Ty.fk48_4 (ai @Ty.fs48_4 (ai @Ty.fn48_4 (ai @Ty.fo48_3 (ai @Ty.fk48_3 (ai @Ty.fs48_3 (ai @Ty.fn48_3 (ai @Ty.fo48_0 (ai @Ty.fk48_0 (ai @Ty.fs48_0 (ai @Ty.fn48_0 (ai @Ty.bl4 @trivial)))))))))))))))))))))))))))))))))))))))
def p_impl_isStep (s_a0 : GStep) : Option (Bool) := (if s_a0.Had = true then ((p_impl_isPropValue s_a0.Was).bind fun v7 => (if v7 = true then (if s_a0.Has = true then ((p_impl_isPropValue s_a0.Is).bind fun v10 => (if v10 = true then p_impl_isStep_j0 s_a0 false else p_impl_isStep_j0 s_a0 true)) else p_impl_isStep_j0 s_a0 (!(decide (s_a0.Is = (⟨#[]⟩ : ByteArray))))) else p_impl_isStep_j0 s_a0 true)) else (if s_a0.Was = (⟨#[]⟩ : ByteArray) then (if s_a0.Has = true then ((p_impl_isPropValue s_a0.Is).bind fun v14 => (if v14 = true then p_impl_isStep_j0 s_a0 false else p_impl_isStep_j0 s_a0 true)) else p_impl_isStep_j0 s_a0 (!(decide (s_a0.Is = (⟨#[]⟩ : ByteArray))))) else p_impl_isStep_j0 s_a0 true))
theorem p_impl_isStep_does (s_a0 : GStep) (r : Bool) (h : p_impl_isStep s_a0 = some r) : Does Tryd.prog 61 [.agg (eStep s_a0)] (B r) := by
  rw [p_impl_isStep] at h
  refine Does.walk (nt := 58) Tryd.func61 rfl rfl (by simp) (by decide) rfl (fun G0 X w0 pv => ?_)
  have ff := p_impl_isStep_tf.down
  try refine st_by ff ?_
  repeat' (first | exact trivial | refine And.intro sd ?_)
  try clear ff
  generalize hk_0 : thenK _ _ = kk_0
  have key_0 : ∀ σ, (∃ b_1 : Bool, (p_impl_isStep_j0 s_a0 b_1 = some r) ∧ σ.t 1 = .ptr 1 [] 0 ∧ σ.t 40 = B b_1 ∧ σ.m 1 = some (.box true [S s_a0.Path, S s_a0.Was, B s_a0.Had, S s_a0.Is, B s_a0.Has])) → kk_0 .nm σ := by
    rintro σ ⟨b_1, h, g0_j0, g1_j0, g2_j0⟩
    rw [← hk_0]
    rw [p_impl_isStep_j0] at h
    by_cases c2 : b_1 = true
    · rw [if_pos c2] at h
      have dc2 := c2
      have ff := ai @g0_j0 (ai @g1_j0 (ai @g2_j0 (ai @dc2 p_impl_isStep_tf.down)))
      try refine st_by ff ?_
      repeat' (first | exact trivial | refine And.intro sd ?_)
      cases h
      exact ret_q1 rfl (p_spec_l26Back_rt ff trivial)
    rw [if_neg c2] at h
    have dc2 := eq_false_of_ne_true c2
    obtain ⟨v3, ev3, h⟩ := Option.bind_eq_some_iff.1 h
    try dsimp only at h
    have ff := ai @g0_j0 (ai @g1_j0 (ai @g2_j0 (ai @dc2 p_impl_isStep_tf.down)))
    try refine st_by ff ?_
    repeat' (first | exact trivial | refine And.intro sd ?_)
    first
    | (refine cq_call (p_impl_isPath_does s_a0.Path v3 ev3) (hf_by ff) kr ⟨p_impl_isStep_sa ff trivial, ?_⟩; clear ff)
    by_cases c4 : v3 = true
    case neg =>
     rw [if_neg c4] at h
     have dc4 := eq_false_of_ne_true c4
     have ff := ai @g0_j0 (ai @g1_j0 (ai @g2_j0 (ai @dc2 (ai @dc4 p_impl_isStep_tf.down))))
     try refine st_by ff ?_
     repeat' (first | exact trivial | refine And.intro sd ?_)
     cases h
     exact ret_q1 rfl (p_spec_l26Back_rt ff trivial)
    rw [if_pos c4] at h
    have dc4 := c4
    by_cases c5 : s_a0.Was = s_a0.Is
    case neg =>
     rw [if_neg c5] at h
     have dc5 := decide_eq_false c5
     have ff := ai @g0_j0 (ai @g1_j0 (ai @g2_j0 (ai @dc2 (ai @dc4 (ai @dc5 p_impl_isStep_tf.down)))))
     try refine st_by ff ?_
     repeat' (first | exact trivial | refine And.intro sd ?_)
     cases h
     exact ret_q1 rfl (p_spec_l26Back_rt ff trivial)
    rw [if_pos c5] at h
    have dc5 := decide_eq_true c5
    have ff := ai @g0_j0 (ai @g1_j0 (ai @g2_j0 (ai @dc2 (ai @dc4 (ai @dc5 p_impl_isStep_tf.down)))))
    try refine st_by ff ?_
    repeat' (first | exact trivial | refine And.intro sd ?_)
    cases h
    exact ret_q1 rfl (p_spec_l26Back_rt ff trivial)
  have hrt_0 := fun σ : ASt => congrFun (congrFun hk_0.symm AX.rt) σ
  have hex_0 := fun (i : Nat) (σ : ASt) => congrFun (congrFun hk_0.symm (AX.ex i)) σ
  by_cases c6 : s_a0.Had = true
  case neg =>
   rw [if_neg c6] at h
   have dc6 := eq_false_of_ne_true c6
   by_cases c12 : s_a0.Was = (⟨#[]⟩ : ByteArray)
   case neg =>
    rw [if_neg c12] at h
    have dc12 := decide_eq_false c12
    have ff := ai @hrt_0 (ai @hex_0 (ai @dc6 (ai @dc12 p_impl_isStep_tf.down)))
    try refine st_by ff ?_
    repeat' (first | exact trivial | refine And.intro sd ?_)
    refine key_0 _ ?_
    refine ⟨true, h, ?_⟩
    exact p_impl_isStep_pv ff trivial
   rw [if_pos c12] at h
   have dc12 := decide_eq_true c12
   by_cases c13 : s_a0.Has = true
   case neg =>
    rw [if_neg c13] at h
    have dc13 := eq_false_of_ne_true c13
    have ff := ai @hrt_0 (ai @hex_0 (ai @dc6 (ai @dc12 (ai @dc13 p_impl_isStep_tf.down))))
    try refine st_by ff ?_
    repeat' (first | exact trivial | refine And.intro sd ?_)
    refine key_0 _ ?_
    refine ⟨!(decide (s_a0.Is = (⟨#[]⟩ : ByteArray))), h, ?_⟩
    exact p_impl_isStep_pv ff trivial
   rw [if_pos c13] at h
   have dc13 := c13
   obtain ⟨v14, ev14, h⟩ := Option.bind_eq_some_iff.1 h
   try dsimp only at h
   have ff := ai @hrt_0 (ai @hex_0 (ai @dc6 (ai @dc12 (ai @dc13 p_impl_isStep_tf.down))))
   try refine st_by ff ?_
   repeat' (first | exact trivial | refine And.intro sd ?_)
   first
   | (refine cq_call (p_impl_isPropValue_does s_a0.Is v14 ev14) (hf_by ff) kr ⟨p_impl_isStep_sa ff trivial, ?_⟩; clear ff)
   by_cases c15 : v14 = true
   case neg =>
    rw [if_neg c15] at h
    have dc15 := eq_false_of_ne_true c15
    have ff := ai @hrt_0 (ai @hex_0 (ai @dc6 (ai @dc12 (ai @dc13 (ai @dc15 p_impl_isStep_tf.down)))))
    try refine st_by ff ?_
    repeat' (first | exact trivial | refine And.intro sd ?_)
    refine key_0 _ ?_
    refine ⟨true, h, ?_⟩
    exact p_impl_isStep_pv ff trivial
   rw [if_pos c15] at h
   have dc15 := c15
   have ff := ai @hrt_0 (ai @hex_0 (ai @dc6 (ai @dc12 (ai @dc13 (ai @dc15 p_impl_isStep_tf.down)))))
   try refine st_by ff ?_
   repeat' (first | exact trivial | refine And.intro sd ?_)
   refine key_0 _ ?_
   refine ⟨false, h, ?_⟩
   exact p_impl_isStep_pv ff trivial
  rw [if_pos c6] at h
  have dc6 := c6
  obtain ⟨v7, ev7, h⟩ := Option.bind_eq_some_iff.1 h
  try dsimp only at h
  have ff := ai @hrt_0 (ai @hex_0 (ai @dc6 p_impl_isStep_tf.down))
  try refine st_by ff ?_
  repeat' (first | exact trivial | refine And.intro sd ?_)
  first
  | (refine cq_call (p_impl_isPropValue_does s_a0.Was v7 ev7) (hf_by ff) kr ⟨p_impl_isStep_sa ff trivial, ?_⟩; clear ff)
  by_cases c8 : v7 = true
  case neg =>
   rw [if_neg c8] at h
   have dc8 := eq_false_of_ne_true c8
   have ff := ai @hrt_0 (ai @hex_0 (ai @dc6 (ai @dc8 p_impl_isStep_tf.down)))
   try refine st_by ff ?_
   repeat' (first | exact trivial | refine And.intro sd ?_)
   refine key_0 _ ?_
   refine ⟨true, h, ?_⟩
   exact p_impl_isStep_pv ff trivial
  rw [if_pos c8] at h
  have dc8 := c8
  by_cases c9 : s_a0.Has = true
  case neg =>
   rw [if_neg c9] at h
   have dc9 := eq_false_of_ne_true c9
   have ff := ai @hrt_0 (ai @hex_0 (ai @dc6 (ai @dc8 (ai @dc9 p_impl_isStep_tf.down))))
   try refine st_by ff ?_
   repeat' (first | exact trivial | refine And.intro sd ?_)
   refine key_0 _ ?_
   refine ⟨!(decide (s_a0.Is = (⟨#[]⟩ : ByteArray))), h, ?_⟩
   exact p_impl_isStep_pv ff trivial
  rw [if_pos c9] at h
  have dc9 := c9
  obtain ⟨v10, ev10, h⟩ := Option.bind_eq_some_iff.1 h
  try dsimp only at h
  have ff := ai @hrt_0 (ai @hex_0 (ai @dc6 (ai @dc8 (ai @dc9 p_impl_isStep_tf.down))))
  try refine st_by ff ?_
  repeat' (first | exact trivial | refine And.intro sd ?_)
  first
  | (refine cq_call (p_impl_isPropValue_does s_a0.Is v10 ev10) (hf_by ff) kr ⟨p_impl_isStep_sa ff trivial, ?_⟩; clear ff)
  by_cases c11 : v10 = true
  case neg =>
   rw [if_neg c11] at h
   have dc11 := eq_false_of_ne_true c11
   have ff := ai @hrt_0 (ai @hex_0 (ai @dc6 (ai @dc8 (ai @dc9 (ai @dc11 p_impl_isStep_tf.down)))))
   try refine st_by ff ?_
   repeat' (first | exact trivial | refine And.intro sd ?_)
   refine key_0 _ ?_
   refine ⟨true, h, ?_⟩
   exact p_impl_isStep_pv ff trivial
  rw [if_pos c11] at h
  have dc11 := c11
  have ff := ai @hrt_0 (ai @hex_0 (ai @dc6 (ai @dc8 (ai @dc9 (ai @dc11 p_impl_isStep_tf.down)))))
  try refine st_by ff ?_
  repeat' (first | exact trivial | refine And.intro sd ?_)
  refine key_0 _ ?_
  refine ⟨false, h, ?_⟩
  exact p_impl_isStep_pv ff trivial
/-! slices.Clone[[]impl.Prop,impl.Prop] -/
def p_slices_Clone_impl_Prop_impl_Prop_tf := PLift.up (ai @eProp_eq (ai @esProp_len (ai @esProp_nil (ai @esProp_leaf (ai @esProp_fit (ai @esProp_share (ai @esProp_pure (ai @Ty.nze28 (ai @Ty.sl28 (ai @Ty.slz28 (ai @Ty.zok28 (ai @Ty.by28 (ai @Ty.zs28 @trivial)))))))))))))
def p_slices_Clone_impl_Prop_impl_Prop (l : List GProp) : Option (List GProp) := if l.length < 4294967296 then some l else none
theorem p_slices_Clone_impl_Prop_impl_Prop_does (l : List GProp) (r : List GProp) (h : p_slices_Clone_impl_Prop_impl_Prop l = some r) : Does Tryd.prog 59 [.row false 2 l.length (esProp l)] (.row true 2 r.length (esProp r)) := by
  rw [p_slices_Clone_impl_Prop_impl_Prop] at h
  by_cases c : l.length < 4294967296
  case neg => rw [if_neg c] at h; cases h
  rw [if_pos c] at h
  cases h
  refine Does.walk (nt := 8) Tryd.func59 rfl rfl (by simp) (by decide) rfl (fun G0 X w0 pv => ?_)
  refine st_by p_slices_Clone_impl_Prop_impl_Prop_tf.down ?_
  refine fun b hb => ?_
  cases b
  · have ff := p_slices_Clone_impl_Prop_impl_Prop_tf.down
    try refine st_by ff ?_
    repeat' (first | exact trivial | refine And.intro sd ?_)
    clear ff
    exact ret_q1 rfl (p_spec_l26Find_rt p_slices_Clone_impl_Prop_impl_Prop_tf.down trivial)
  · have h0 : l = [] := List.eq_nil_of_length_eq_zero (by rcases Nat.eq_zero_or_pos l.length with h | h; exact h; exact absurd (hb h) (by decide))
    subst h0
    have ff := p_slices_Clone_impl_Prop_impl_Prop_tf.down
    try refine st_by ff ?_
    repeat' (first | exact trivial | refine And.intro sd ?_)
    clear ff
    exact ret_q1 rfl (p_spec_l26Find_rt p_slices_Clone_impl_Prop_impl_Prop_tf.down trivial)
/-! impl.laid -/
def p_impl_laid_j0 (path_a1 : ByteArray) (value_a2 : ByteArray) (has_a3 : Bool) (v1 : List GProp) (v2 : Int × Bool) (b_3 : Bool) : Option (List GProp) := (if b_3 = true then ((idx v1 v2.1).bind fun x5 => some (v1.set v2.1.toNat (⟨x5.Path, value_a2⟩ : GProp))) else (if v2.2 = true then ((delL v1 v2.1 (IntKind.i64.wrap (v2.1 + 1))).bind fun v9 => some v9) else (if has_a3 = true then ((insL v1 v2.1 ([(⟨path_a1, value_a2⟩ : GProp)] : List GProp)).bind fun v11 => some v11) else some v1)))
def p_impl_laid_tf := PLift.up (ai @eProp_eq (ai @esProp_len (ai @esProp_nil (ai @esProp_leaf (ai @esProp_fit (ai @esProp_share (ai @esProp_pure (ai @str_beq (ai @Ty.sl28 (ai @Ty.slz28 (ai @Ty.nz9 (ai @Ty.ldA9 (ai @Ty.ldS9 (ai @Ty.sz9 (ai @Ty.szn9 (ai @Ty.fo71_1 (ai @Ty.fk71_1 (ai @Ty.fs71_1 (ai @Ty.fn71_1 (ai @Ty.nze28 (ai @Ty.zok28 (ai @Ty.by28 (ai @Ty.zs28 (ai @Ty.bd71 (ai @Ty.zv71 (ai @Ty.pl71_0 (ai @Ty.pl71_1 @trivial)))))))))))))))))))))))))))
def p_impl_laid (N : Nat) (l_a0 : List GProp) (path_a1 : ByteArray) (value_a2 : ByteArray) (has_a3 : Bool) : Option (List GProp) := ((p_slices_Clone_impl_Prop_impl_Prop l_a0).bind fun v1 => ((p_impl_propPlace N l_a0 path_a1).bind fun v2 => (if v2.2 = true then p_impl_laid_j0 path_a1 value_a2 has_a3 v1 v2 has_a3 else p_impl_laid_j0 path_a1 value_a2 has_a3 v1 v2 false)))
theorem p_impl_laid_does (N : Nat) (l_a0 : List GProp) (path_a1 : ByteArray) (value_a2 : ByteArray) (has_a3 : Bool) (r : List GProp) (h : p_impl_laid N l_a0 path_a1 value_a2 has_a3 = some r) : Does Tryd.prog 62 [.row false 2 l_a0.length (esProp l_a0), S path_a1, S value_a2, B has_a3] (.row true 2 r.length (esProp r)) := by
  rw [p_impl_laid] at h
  refine Does.bnd (fun hb => ?_)
  have hb2 : l_a0.length ≤ 9223372036854775807 := by simpa [AV.fitNs, AV.fitN] using hb
  have hl0 := hb2
  refine Does.walk (nt := 47) Tryd.func62 rfl rfl (by simp) (by decide) rfl (fun G0 X w0 pv => ?_)
  obtain ⟨v1, ev1, h⟩ := Option.bind_eq_some_iff.1 h
  try dsimp only at h
  have ff := p_impl_laid_tf.down
  try refine st_by ff ?_
  repeat' (first | exact trivial | refine And.intro sd ?_)
  first
  | (refine cq_own (p_slices_Clone_impl_Prop_impl_Prop_does l_a0 v1 ev1) (hf_by ff) kr ⟨p_slices_BinarySearchFunc_impl_Prop_impl_Prop_string_sa ff trivial, ?_⟩; clear ff)
  obtain ⟨v2, ev2, h⟩ := Option.bind_eq_some_iff.1 h
  try dsimp only at h
  have ff := p_impl_laid_tf.down
  try refine st_by ff ?_
  repeat' (first | exact trivial | refine And.intro sd ?_)
  first
  | (refine cq_call (p_impl_propPlace_does N l_a0 path_a1 v2 ev2) (hf_by ff) kr ⟨p_slices_BinarySearchFunc_impl_Prop_impl_Prop_string_sa ff trivial, ?_⟩; clear ff)
  have ff := p_impl_laid_tf.down
  try refine st_by ff ?_
  repeat' (first | exact trivial | refine And.intro sd ?_)
  try clear ff
  generalize hk_0 : thenK _ _ = kk_0
  have key_0 : ∀ σ, (∃ b_3 : Bool, (p_impl_laid_j0 path_a1 value_a2 has_a3 v1 v2 b_3 = some r) ∧ σ.t 1 = S path_a1 ∧ σ.t 2 = S value_a2 ∧ σ.t 3 = B has_a3 ∧ σ.t 9 = .sl 9 [] 0 v1.length ∧ σ.t 10 = I v2.1 ∧ σ.t 11 = B v2.2 ∧ σ.t 20 = B b_3 ∧ σ.m 9 = some (.row true 2 v1.length (esProp v1))) → kk_0 .nm σ := by
    rintro σ ⟨b_3, h, g0_j0, g1_j0, g2_j0, g3_j0, g4_j0, g5_j0, g6_j0, g7_j0⟩
    rw [← hk_0]
    rw [p_impl_laid_j0] at h
    by_cases c4 : b_3 = true
    · rw [if_pos c4] at h
      have dc4 := c4
      obtain ⟨x5, ex5, h⟩ := Option.bind_eq_some_iff.1 h
      try dsimp only at h
      have f6a := idx_lo ex5
      have f6b := idx_hi ex5
      have f6c : (esProp v1).drop (v2.1.toNat * 2) = eProp x5 ++ esProp (v1.drop (v2.1.toNat + 1)) := drop_enc (fun _ => rfl) (idx_get ex5)
      have f6g0 : (esProp v1).getD (v2.1.toNat * 2) .junk = (eProp x5).getD 0 .junk := getD_enc0 (enc := eProp) (sz := 2) (fun _ => rfl) (idx_get ex5) (by decide)
      have f6g1 : (esProp v1).getD (v2.1.toNat * 2 + 1) .junk = (eProp x5).getD 1 .junk := getD_enc (enc := eProp) (sz := 2) (fun _ => rfl) (idx_get ex5) (by decide)
      have w7l : v2.1.toNat < v1.length := (List.getElem?_eq_some_iff.1 (idx_get ex5)).1
      have w7a : (esProp v1).set (v2.1.toNat * 2 + 1) (S value_a2) = esProp (v1.set v2.1.toNat (⟨x5.Path, value_a2⟩ : GProp)) := set_enc (enc := eProp) (sz := 2) (fun _ => rfl) (idx_get ex5) (by decide) rfl
      have w7b : (v1.set v2.1.toNat (⟨x5.Path, value_a2⟩ : GProp)).length = v1.length := List.length_set
      have ff := ai @g0_j0 (ai @g1_j0 (ai @g2_j0 (ai @g3_j0 (ai @g4_j0 (ai @g5_j0 (ai @g6_j0 (ai @g7_j0 (ai @dc4 (ai @f6c (ai @f6g0 (ai @f6g1 (ai @w7a p_impl_laid_tf.down))))))))))))
      try refine st_by ff ?_
      repeat' (first | exact trivial | refine And.intro sd ?_)
      cases h
      exact ret_q1 rfl (p_spec_l26Find_rt ff trivial)
    rw [if_neg c4] at h
    have dc4 := eq_false_of_ne_true c4
    by_cases c8 : v2.2 = true
    · rw [if_pos c8] at h
      have dc8 := c8
      obtain ⟨v9, ev9, h⟩ := Option.bind_eq_some_iff.1 h
      try dsimp only at h
      have ff := ai @g0_j0 (ai @g1_j0 (ai @g2_j0 (ai @g3_j0 (ai @g4_j0 (ai @g5_j0 (ai @g6_j0 (ai @g7_j0 (ai @dc4 (ai @dc8 p_impl_laid_tf.down)))))))))
      try refine st_by ff ?_
      repeat' (first | exact trivial | refine And.intro sd ?_)
      (refine cq_X [(9, [])] (delProp_does v1 v2.1 (IntKind.i64.wrap (v2.1 + 1)) v9 ev9) (hf_by ff) kr (by first | decide | simp) ⟨p_slices_BinarySearchFunc_impl_Prop_impl_Prop_string_sa ff trivial, ?_⟩; clear ff)
      have ff := ai @g0_j0 (ai @g1_j0 (ai @g2_j0 (ai @g3_j0 (ai @g4_j0 (ai @g5_j0 (ai @g6_j0 (ai @g7_j0 (ai @dc4 (ai @dc8 (ai @isPre0 (ai @isPre1 (ai @isPre2 p_impl_laid_tf.down))))))))))))
      try refine st_by ff ?_
      repeat' (first | exact trivial | refine And.intro sd ?_)
      cases h
      exact ret_q1 rfl (p_spec_l26Find_rt ff trivial)
    rw [if_neg c8] at h
    have dc8 := eq_false_of_ne_true c8
    by_cases c10 : has_a3 = true
    case neg =>
     rw [if_neg c10] at h
     have dc10 := eq_false_of_ne_true c10
     have ff := ai @g0_j0 (ai @g1_j0 (ai @g2_j0 (ai @g3_j0 (ai @g4_j0 (ai @g5_j0 (ai @g6_j0 (ai @g7_j0 (ai @dc4 (ai @dc8 (ai @dc10 p_impl_laid_tf.down))))))))))
     try refine st_by ff ?_
     repeat' (first | exact trivial | refine And.intro sd ?_)
     cases h
     exact ret_q1 rfl (p_spec_l26Find_rt ff trivial)
    rw [if_pos c10] at h
    have dc10 := c10
    obtain ⟨v11, ev11, h⟩ := Option.bind_eq_some_iff.1 h
    try dsimp only at h
    have ff := ai @g0_j0 (ai @g1_j0 (ai @g2_j0 (ai @g3_j0 (ai @g4_j0 (ai @g5_j0 (ai @g6_j0 (ai @g7_j0 (ai @dc4 (ai @dc8 (ai @dc10 p_impl_laid_tf.down))))))))))
    try refine st_by ff ?_
    repeat' (first | exact trivial | refine And.intro sd ?_)
    (refine cq_X [(9, []), (44, [])] (insProp_does v1 v2.1 ([(⟨path_a1, value_a2⟩ : GProp)] : List GProp) v11 ev11) (hf_by ff) kr (by first | decide | simp) ⟨p_slices_BinarySearchFunc_impl_Prop_impl_Prop_string_sa ff trivial, ?_⟩; clear ff)
    have ff := ai @g0_j0 (ai @g1_j0 (ai @g2_j0 (ai @g3_j0 (ai @g4_j0 (ai @g5_j0 (ai @g6_j0 (ai @g7_j0 (ai @dc4 (ai @dc8 (ai @dc10 (ai @isPre0 (ai @isPre1 (ai @isPre2 p_impl_laid_tf.down)))))))))))))
    try refine st_by ff ?_
    repeat' (first | exact trivial | refine And.intro sd ?_)
    cases h
    exact ret_q1 rfl (p_spec_l26Find_rt ff trivial)
  have hrt_0 := fun σ : ASt => congrFun (congrFun hk_0.symm AX.rt) σ
  have hex_0 := fun (i : Nat) (σ : ASt) => congrFun (congrFun hk_0.symm (AX.ex i)) σ
  by_cases c12 : v2.2 = true
  case neg =>
   rw [if_neg c12] at h
   have dc12 := eq_false_of_ne_true c12
   have ff := ai @hrt_0 (ai @hex_0 (ai @dc12 p_impl_laid_tf.down))
   try refine st_by ff ?_
   repeat' (first | exact trivial | refine And.intro sd ?_)
   refine key_0 _ ?_
   refine ⟨false, h, ?_⟩
   exact p_spec_l26Find_pv ff trivial
  rw [if_pos c12] at h
  have dc12 := c12
  have ff := ai @hrt_0 (ai @hex_0 (ai @dc12 p_impl_laid_tf.down))
  try refine st_by ff ?_
  repeat' (first | exact trivial | refine And.intro sd ?_)
  refine key_0 _ ?_
  refine ⟨has_a3, h, ?_⟩
  exact p_spec_l26Find_pv ff trivial
/-! (impl.Step).done -/
def p_impl_Step_done_j0 (N : Nat) (s_a0 : GStep) (l_a1 : List GProp) (b_3 : Bool) : Option (List GProp × Bool) := (if b_3 = true then some (([] : List GProp), false) else ((p_impl_laid N l_a1 s_a0.Path s_a0.Is s_a0.Has).bind fun v5 => ((p_impl_GoodProps v5).bind fun v6 => some (v5, v6))))
def p_impl_Step_done_tf := PLift.up (ai @eStep_eq (ai @esStep_len (ai @esStep_nil (ai @esStep_leaf (ai @esStep_fit (ai @eProp_eq (ai @esProp_len (ai @esProp_nil (ai @esProp_leaf (ai @esProp_fit (ai @esStep_share (ai @esStep_pure (ai @esProp_share (ai @esProp_pure (ai @str_beq (ai @Ty.nz9 (ai @Ty.ldA9 (ai @Ty.ldS9 (ai @Ty.sz9 (ai @Ty.szn9 (ai @Ty.nz48 (ai @Ty.ldA48 (ai @Ty.sz48 (ai @Ty.szn48 (ai @Ty.nz4 (ai @Ty.ldA4 (ai @Ty.ldS4 (ai @Ty.sz4 (ai @Ty.szn4 (ai @Ty.fo48_0 (ai @Ty.fk48_0 (ai @Ty.fs48_0 (ai @Ty.fn48_0 (ai @Ty.fo48_2 (ai @Ty.fk48_2 (ai @Ty.fs48_2 (ai @Ty.fn48_2 (ai @Ty.fo48_1 (ai @Ty.fk48_1 (ai @Ty.fs48_1 (ai @Ty.fn48_1 (ai @Ty.fo48_3 (ai @Ty.fk48_3 (ai @Ty.fs48_3 (ai @Ty.fn48_3 (ai @Ty.fo48_4 (ai @Ty.fk48_4 (ai @Ty.fs48_4 (ai @Ty.fn48_4 (ai @Ty.bl4 (ai @Ty.sl28 (ai @Ty.slz28 @trivial))))))))))))))))))))))))))))))))))))))))))))))))))))
def p_impl_Step_done (N : Nat) (s_a0 : GStep) (l_a1 : List GProp) : Option (List GProp × Bool) := ((p_impl_propAt N l_a1 s_a0.Path).bind fun v1 => ((p_impl_isStep s_a0).bind fun v2 => (if v2 = true then (if (v1.2 == s_a0.Had) = true then p_impl_Step_done_j0 N s_a0 l_a1 (!(decide (v1.1 = s_a0.Was))) else p_impl_Step_done_j0 N s_a0 l_a1 true) else p_impl_Step_done_j0 N s_a0 l_a1 true)))
theorem p_impl_Step_done_does (N : Nat) (s_a0 : GStep) (l_a1 : List GProp) (r : List GProp × Bool) (h : p_impl_Step_done N s_a0 l_a1 = some r) : Does Tryd.prog 38 [.agg (eStep s_a0), .row false 2 l_a1.length (esProp l_a1)] (.tup [.row true 2 r.1.length (esProp r.1), B r.2]) := by
  rw [p_impl_Step_done] at h
  refine Does.bnd (fun hb => ?_)
  have hb2 : l_a1.length ≤ 9223372036854775807 := by simpa [AV.fitNs, AV.fitN, eStep] using hb
  have hl0 := hb2
  refine Does.walk (nt := 42) Tryd.func38 rfl rfl (by simp) (by decide) rfl (fun G0 X w0 pv => ?_)
  obtain ⟨v1, ev1, h⟩ := Option.bind_eq_some_iff.1 h
  try dsimp only at h
  have ff := p_impl_Step_done_tf.down
  try refine st_by ff ?_
  repeat' (first | exact trivial | refine And.intro sd ?_)
  first
  | (refine cq_call (p_impl_propAt_does N l_a1 s_a0.Path v1 ev1) (hf_by ff) kr ⟨p_spec_l26Do_sa ff trivial, ?_⟩; clear ff)
  obtain ⟨v2, ev2, h⟩ := Option.bind_eq_some_iff.1 h
  try dsimp only at h
  have ff := p_impl_Step_done_tf.down
  try refine st_by ff ?_
  repeat' (first | exact trivial | refine And.intro sd ?_)
  first
  | (refine cq_call (p_impl_isStep_does s_a0 v2 ev2) (hf_by ff) kr ⟨p_spec_l26Do_sa ff trivial, ?_⟩; clear ff)
  have ff := p_impl_Step_done_tf.down
  try refine st_by ff ?_
  repeat' (first | exact trivial | refine And.intro sd ?_)
  try clear ff
  generalize hk_0 : thenK _ _ = kk_0
  have key_0 : ∀ σ, (∃ b_3 : Bool, (p_impl_Step_done_j0 N s_a0 l_a1 b_3 = some r) ∧ σ.t 1 = .row false 2 l_a1.length (esProp l_a1) ∧ σ.t 2 = .ptr 2 [] 0 ∧ σ.t 30 = B b_3 ∧ σ.m 2 = some (.box true [S s_a0.Path, S s_a0.Was, B s_a0.Had, S s_a0.Is, B s_a0.Has])) → kk_0 .nm σ := by
    rintro σ ⟨b_3, h, g0_j0, g1_j0, g2_j0, g3_j0⟩
    rw [← hk_0]
    rw [p_impl_Step_done_j0] at h
    by_cases c4 : b_3 = true
    · rw [if_pos c4] at h
      have dc4 := c4
      have ff := ai @g0_j0 (ai @g1_j0 (ai @g2_j0 (ai @g3_j0 (ai @dc4 p_impl_Step_done_tf.down))))
      try refine st_by ff ?_
      repeat' (first | exact trivial | refine And.intro sd ?_)
      cases h
      exact ret_q2 rfl (p_spec_l26Do_rt ff trivial)
    rw [if_neg c4] at h
    have dc4 := eq_false_of_ne_true c4
    obtain ⟨v5, ev5, h⟩ := Option.bind_eq_some_iff.1 h
    try dsimp only at h
    have ff := ai @g0_j0 (ai @g1_j0 (ai @g2_j0 (ai @g3_j0 (ai @dc4 p_impl_Step_done_tf.down))))
    try refine st_by ff ?_
    repeat' (first | exact trivial | refine And.intro sd ?_)
    first
    | (refine cq_own (p_impl_laid_does N l_a1 s_a0.Path s_a0.Is s_a0.Has v5 ev5) (hf_by ff) kr ⟨p_spec_l26Do_sa ff trivial, ?_⟩; clear ff)
    obtain ⟨v6, ev6, h⟩ := Option.bind_eq_some_iff.1 h
    try dsimp only at h
    have ff := ai @g0_j0 (ai @g1_j0 (ai @g2_j0 (ai @g3_j0 (ai @dc4 p_impl_Step_done_tf.down))))
    try refine st_by ff ?_
    repeat' (first | exact trivial | refine And.intro sd ?_)
    first
    | (refine cq_lend (p_impl_GoodProps_does v5 v6 ev6) (hf_by ff) kr ⟨p_spec_l26Do_sa ff trivial, ?_⟩; clear ff)
    have ff := ai @g0_j0 (ai @g1_j0 (ai @g2_j0 (ai @g3_j0 (ai @dc4 p_impl_Step_done_tf.down))))
    try refine st_by ff ?_
    repeat' (first | exact trivial | refine And.intro sd ?_)
    cases h
    exact ret_q2 rfl (p_spec_l26Do_rt ff trivial)
  have hrt_0 := fun σ : ASt => congrFun (congrFun hk_0.symm AX.rt) σ
  have hex_0 := fun (i : Nat) (σ : ASt) => congrFun (congrFun hk_0.symm (AX.ex i)) σ
  by_cases c7 : v2 = true
  case neg =>
   rw [if_neg c7] at h
   have dc7 := eq_false_of_ne_true c7
   have ff := ai @hrt_0 (ai @hex_0 (ai @dc7 p_impl_Step_done_tf.down))
   try refine st_by ff ?_
   repeat' (first | exact trivial | refine And.intro sd ?_)
   refine key_0 _ ?_
   refine ⟨true, h, ?_⟩
   exact p_spec_l26Do_pv ff trivial
  rw [if_pos c7] at h
  have dc7 := c7
  by_cases c8 : (v1.2 == s_a0.Had) = true
  case neg =>
   rw [if_neg c8] at h
   have dc8 := eq_false_of_ne_true c8
   have ff := ai @hrt_0 (ai @hex_0 (ai @dc7 (ai @dc8 p_impl_Step_done_tf.down)))
   try refine st_by ff ?_
   repeat' (first | exact trivial | refine And.intro sd ?_)
   refine key_0 _ ?_
   refine ⟨true, h, ?_⟩
   exact p_spec_l26Do_pv ff trivial
  rw [if_pos c8] at h
  have dc8 := c8
  have ff := ai @hrt_0 (ai @hex_0 (ai @dc7 (ai @dc8 p_impl_Step_done_tf.down)))
  try refine st_by ff ?_
  repeat' (first | exact trivial | refine And.intro sd ?_)
  refine key_0 _ ?_
  refine ⟨!(decide (v1.1 = s_a0.Was)), h, ?_⟩
  exact p_spec_l26Do_pv ff trivial
/-! (impl.Step).back -/
def p_impl_Step_back_tf := PLift.up (ai @eStep_eq (ai @esStep_len (ai @esStep_nil (ai @esStep_leaf (ai @esStep_fit (ai @esStep_share (ai @esStep_pure (ai @str_beq (ai @Ty.nz9 (ai @Ty.ldA9 (ai @Ty.ldS9 (ai @Ty.sz9 (ai @Ty.szn9 (ai @Ty.nz4 (ai @Ty.ldA4 (ai @Ty.ldS4 (ai @Ty.sz4 (ai @Ty.szn4 (ai @Ty.nz48 (ai @Ty.ldA48 (ai @Ty.sz48 (ai @Ty.szn48 (ai @Ty.fo48_0 (ai @Ty.fk48_0 (ai @Ty.fs48_0 (ai @Ty.fn48_0 (ai @Ty.fo48_3 (ai @Ty.fk48_3 (ai @Ty.fs48_3 (ai @Ty.fn48_3 (ai @Ty.fo48_4 (ai @Ty.fk48_4 (ai @Ty.fs48_4 (ai @Ty.fn48_4 (ai @Ty.fo48_1 (ai @Ty.fk48_1 (ai @Ty.fs48_1 (ai @Ty.fn48_1 (ai @Ty.fo48_2 (ai @Ty.fk48_2 (ai @Ty.fs48_2 (ai @Ty.fn48_2 (ai @Ty.zv48 (ai @Ty.bd48 (ai @Ty.pl48_0 (ai @Ty.pl48_1 (ai @Ty.pl48_2 (ai @Ty.pl48_3 (ai @Ty.pl48_4 (ai @Ty.ag48 @trivial))))))))))))))))))))))))))))))))))))))))))))))))))
def p_impl_Step_back (s_a0 : GStep) : Option (GStep) := some (⟨s_a0.Path, s_a0.Is, s_a0.Has, s_a0.Was, s_a0.Had⟩ : GStep)
theorem p_impl_Step_back_does (s_a0 : GStep) (r : GStep) (h : p_impl_Step_back s_a0 = some r) : Does Tryd.prog 32 [.agg (eStep s_a0)] (.agg (eStep r)) := by
  rw [p_impl_Step_back] at h
  refine Does.walk (nt := 14) Tryd.func32 rfl rfl (by simp) (by decide) rfl (fun G0 X w0 pv => ?_)
  have ff := p_impl_Step_back_tf.down
  try refine st_by ff ?_
  repeat' (first | exact trivial | refine And.intro sd ?_)
  cases h
  exact ret_q1 rfl (p_spec_l26Back_rt ff trivial)
/-! spec.GoodEdited -/
def p_spec_GoodEdited_j1 (N : Nat) (e_a0 : GEdited) (l_11 : List GProp) (ok_12 : Bool) (k_13 : Int) (rec_0 : (List GProp) → Bool → Int → Option ((List GProp) × Bool × Int)) (b_21 : Bool) : Option ((List GProp) × Bool × Int) := (if b_21 = true then ((idx e_a0.Done k_13).bind fun x23 => ((p_spec_l26Back x23).bind fun v25 => ((p_spec_l26Do N l_11 v25).bind fun v26 => rec_0 v26.1 v26.2 (IntKind.i64.wrap (k_13 - 1))))) else some (l_11, ok_12, k_13))
def p_spec_GoodEdited_l0 (N : Nat) (e_a0 : GEdited) : Nat → (List GProp) → Bool → Int → Option ((List GProp) × Bool × Int)
  | 0, _, _, _ => none
  | n_0 + 1, l_11, ok_12, k_13 => (if k_13 ≥ 0 then p_spec_GoodEdited_j1 N e_a0 l_11 ok_12 k_13 (p_spec_GoodEdited_l0 N e_a0 n_0) ok_12 else p_spec_GoodEdited_j1 N e_a0 l_11 ok_12 k_13 (p_spec_GoodEdited_l0 N e_a0 n_0) false)
def p_spec_GoodEdited_j2 (N : Nat) (e_a0 : GEdited) (l_35 : List GProp) (ok_36 : Bool) (k_37 : Int) (rec_0 : (List GProp) → Bool → Int → Option ((List GProp) × Bool × Int)) (b_44 : Bool) : Option ((List GProp) × Bool × Int) := (if b_44 = true then ((idx e_a0.Back k_37).bind fun x46 => ((p_spec_l26Do N l_35 x46).bind fun v48 => rec_0 v48.1 v48.2 (IntKind.i64.wrap (k_37 - 1)))) else some (l_35, ok_36, k_37))
def p_spec_GoodEdited_l1 (N : Nat) (e_a0 : GEdited) : Nat → (List GProp) → Bool → Int → Option ((List GProp) × Bool × Int)
  | 0, _, _, _ => none
  | n_1 + 1, l_35, ok_36, k_37 => (if k_37 ≥ 0 then p_spec_GoodEdited_j2 N e_a0 l_35 ok_36 k_37 (p_spec_GoodEdited_l1 N e_a0 n_1) ok_36 else p_spec_GoodEdited_j2 N e_a0 l_35 ok_36 k_37 (p_spec_GoodEdited_l1 N e_a0 n_1) false)
def p_spec_GoodEdited_j0 (N : Nat) (e_a0 : GEdited) (b_2 : Bool) : Option (Bool) := (if b_2 = true then some false else ((p_spec_GoodEdited_l0 N e_a0 N e_a0.Props true (IntKind.i64.wrap ((e_a0.Done.length : Int) - 1))).bind fun q_0 => match q_0 with | (l_11, ok_12, k_13) => (if ok_12 = true then ((p_spec_GoodEdited_l1 N e_a0 N e_a0.Props ok_12 (IntKind.i64.wrap ((e_a0.Back.length : Int) - 1))).bind fun q_1 => match q_1 with | (l_35, ok_36, k_37) => some ok_36) else some false)))
def p_spec_GoodEdited_tf := PLift.up (ai @eEdited_eq (ai @esEdited_len (ai @esEdited_nil (ai @esEdited_leaf (ai @esEdited_fit (ai @eEditedo_eq (ai @esEditedo_len (ai @esEditedo_nil (ai @eStep_eq (ai @esStep_len (ai @esStep_nil (ai @esStep_leaf (ai @esStep_fit (ai @eProp_eq (ai @esProp_len (ai @esProp_nil (ai @esProp_leaf (ai @esProp_fit (ai @esEditedo_share (ai @esEditedo_pure (ai @esStep_share (ai @esStep_pure (ai @esProp_share (ai @esProp_pure (ai @str_beq (ai @Ty.sl29 (ai @Ty.slz29 (ai @Ty.nz28 (ai @Ty.ldA28 (ai @Ty.ldS28 (ai @Ty.sz28 (ai @Ty.szn28 (ai @Ty.nz29 (ai @Ty.ldA29 (ai @Ty.ldS29 (ai @Ty.sz29 (ai @Ty.szn29 (ai @Ty.nz48 (ai @Ty.ldA48 (ai @Ty.sz48 (ai @Ty.szn48 (ai @Ty.fo31_0 (ai @Ty.fk31_0 (ai @Ty.fs31_0 (ai @Ty.fn31_0 (ai @Ty.fo31_1 (ai @Ty.fk31_1 (ai @Ty.fs31_1 (ai @Ty.fn31_1 (ai @Ty.fo31_2 (ai @Ty.fk31_2 (ai @Ty.fs31_2 (ai @Ty.fn31_2 (ai @Ty.sl28 (ai @Ty.slz28 @trivial)))))))))))))))))))))))))))))))))))))))))))))))))))))))
def p_spec_GoodEdited (N : Nat) (e_a0 : GEdited) : Option (Bool) := ((p_spec_GoodProps N e_a0.Props).bind fun v1 => (if v1 = true then (if (e_a0.Done.length : Int) > 100 then p_spec_GoodEdited_j0 N e_a0 true else p_spec_GoodEdited_j0 N e_a0 (decide ((e_a0.Back.length : Int) > 100))) else p_spec_GoodEdited_j0 N e_a0 true))
theorem p_spec_GoodEdited_does (N : Nat) (e_a0 : GEdited) (r : Bool) (h : p_spec_GoodEdited N e_a0 = some r) : Does Tryd.prog 9 [.agg (eEdited e_a0)] (B r) := by
  rw [p_spec_GoodEdited] at h
  refine Does.bnd (fun hb => ?_)
  have hb2 : e_a0.Props.length ≤ 9223372036854775807 ∧ e_a0.Done.length ≤ 9223372036854775807 ∧ e_a0.Back.length ≤ 9223372036854775807 := by simpa [AV.fitNs, AV.fitN, eEdited] using hb
  obtain ⟨hl0, hl1, hl2⟩ := hb2
  refine Does.walk (nt := 73) Tryd.func9 rfl rfl (by simp) (by decide) rfl (fun G0 X w0 pv => ?_)
  obtain ⟨v1, ev1, h⟩ := Option.bind_eq_some_iff.1 h
  try dsimp only at h
  have ff := p_spec_GoodEdited_tf.down
  try refine st_by ff ?_
  repeat' (first | exact trivial | refine And.intro sd ?_)
  first
  | (refine cq_call (p_spec_GoodProps_does N e_a0.Props v1 ev1) (hf_by ff) kr ⟨p_spec_l26Step_sa ff trivial, ?_⟩; clear ff)
  have ff := p_spec_GoodEdited_tf.down
  try refine st_by ff ?_
  repeat' (first | exact trivial | refine And.intro sd ?_)
  try clear ff
  generalize hk_0 : thenK _ _ = kk_0
  have key_0 : ∀ σ, (∃ b_2 : Bool, (p_spec_GoodEdited_j0 N e_a0 b_2 = some r) ∧ σ.t 1 = .ptr 1 [] 0 ∧ σ.t 22 = B b_2 ∧ σ.m 1 = some (.box true [.row false 2 e_a0.Props.length (esProp e_a0.Props), .row false 5 e_a0.Done.length (esStep e_a0.Done), .row false 5 e_a0.Back.length (esStep e_a0.Back)])) → kk_0 .nm σ := by
    rintro σ ⟨b_2, h, g0_j0, g1_j0, g2_j0⟩
    rw [← hk_0]
    rw [p_spec_GoodEdited_j0] at h
    by_cases c3 : b_2 = true
    · rw [if_pos c3] at h
      have dc3 := c3
      have ff := ai @g0_j0 (ai @g1_j0 (ai @g2_j0 (ai @dc3 p_spec_GoodEdited_tf.down)))
      try refine st_by ff ?_
      repeat' (first | exact trivial | refine And.intro sd ?_)
      cases h
      exact ret_q1 rfl (p_spec_l26Own_rt ff trivial)
    rw [if_neg c3] at h
    have dc3 := eq_false_of_ne_true c3
    obtain ⟨q_0, eq_0, h⟩ := Option.bind_eq_some_iff.1 h
    have ff := ai @g0_j0 (ai @g1_j0 (ai @g2_j0 (ai @dc3 p_spec_GoodEdited_tf.down)))
    try refine st_by ff ?_
    repeat' (first | exact trivial | refine And.intro sd ?_)
    obtain ⟨I_0, hI_0⟩ : ∃ I_ : (Nat × (List GProp) × Bool × Int) → ASt → Prop, I_ = (fun (a : Nat × (List GProp) × Bool × Int) σ => match a with | (n_0, l_11, ok_12, k_13) => (p_spec_GoodEdited_l0 N e_a0 n_0 l_11 ok_12 k_13 = some q_0) ∧ σ.t 1 = .ptr 1 [] 0 ∧ σ.t 3 = .row false 2 l_11.length (esProp l_11) ∧ σ.t 4 = B ok_12 ∧ σ.t 5 = I k_13 ∧ σ.m 1 = some (.box true [.row false 2 e_a0.Props.length (esProp e_a0.Props), .row false 5 e_a0.Done.length (esStep e_a0.Done), .row false 5 e_a0.Back.length (esStep e_a0.Back)])) := ⟨_, rfl⟩
    obtain ⟨M_0, hM_0⟩ : ∃ M_ : (Nat × (List GProp) × Bool × Int) → Nat, M_ = (fun (a : Nat × (List GProp) × Bool × Int) => match a with | (n_0, l_11, ok_12, k_13) => n_0) := ⟨_, rfl⟩
    obtain ⟨J_0, hJ_0⟩ : ∃ J_ : ASt → Prop, J_ = (fun σ => ∃ l_11 : List GProp, ∃ ok_12 : Bool, ∃ k_13 : Int, (some (l_11, ok_12, k_13) = some q_0) ∧ σ.t 1 = .ptr 1 [] 0 ∧ σ.t 4 = B ok_12 ∧ σ.m 1 = some (.box true [.row false 2 e_a0.Props.length (esProp e_a0.Props), .row false 5 e_a0.Done.length (esStep e_a0.Done), .row false 5 e_a0.Back.length (esStep e_a0.Back)])) := ⟨_, rfl⟩
    refine aw_loopC (id := 0) I_0 M_0 J_0 (N, e_a0.Props, true, (IntKind.i64.wrap ((e_a0.Done.length : Int) - 1))) ?_ ?_ ?_
    · rw [hI_0]
      refine ⟨eq_0, ?_⟩
      exact p_spec_l26Step_pv ff trivial
    · try clear ff
      rintro ⟨n_0, l_11, ok_12, k_13⟩ σ hg_0
      rw [hI_0] at hg_0
      obtain ⟨h_0, g0_0, g1_0, g2_0, g3_0, g4_0⟩ := hg_0
      cases n_0 with
      | zero => rw [p_spec_GoodEdited_l0] at h_0; cases h_0
      | succ n_0 =>
        rw [p_spec_GoodEdited_l0] at h_0
        have ff := ai @dc3 (ai @g0_0 (ai @g1_0 (ai @g2_0 (ai @g3_0 (ai @g4_0 p_spec_GoodEdited_tf.down)))))
        try refine st_by ff ?_
        repeat' (first | exact trivial | refine And.intro sd ?_)
        try clear ff
        generalize hk_1 : thenK _ _ = kk_1
        have key_1 : ∀ σ, (∃ b_21 : Bool, (p_spec_GoodEdited_j1 N e_a0 l_11 ok_12 k_13 (p_spec_GoodEdited_l0 N e_a0 n_0) b_21 = some q_0) ∧ σ.t 1 = .ptr 1 [] 0 ∧ σ.t 3 = .row false 2 l_11.length (esProp l_11) ∧ σ.t 4 = B ok_12 ∧ σ.t 5 = I k_13 ∧ σ.t 33 = B b_21 ∧ σ.m 1 = some (.box true [.row false 2 e_a0.Props.length (esProp e_a0.Props), .row false 5 e_a0.Done.length (esStep e_a0.Done), .row false 5 e_a0.Back.length (esStep e_a0.Back)])) → kk_1 .nm σ := by
          rintro σ ⟨b_21, h_0, g0_j1, g1_j1, g2_j1, g3_j1, g4_j1, g5_j1⟩
          rw [← hk_1]
          rw [p_spec_GoodEdited_j1] at h_0
          by_cases c22 : b_21 = true
          case neg =>
           rw [if_neg c22] at h_0
           have dc22 := eq_false_of_ne_true c22
           have ff := ai @dc3 (ai @g0_j1 (ai @g1_j1 (ai @g2_j1 (ai @g3_j1 (ai @g4_j1 (ai @g5_j1 (ai @dc22 p_spec_GoodEdited_tf.down)))))))
           try refine st_by ff ?_
           repeat' (first | exact trivial | refine And.intro sd ?_)
           refine JW.intro ?_
           rw [hJ_0]
           refine ⟨l_11, ok_12, k_13, h_0, ?_⟩
           exact p_spec_l26Step_pv ff trivial
          rw [if_pos c22] at h_0
          have dc22 := c22
          obtain ⟨x23, ex23, h_0⟩ := Option.bind_eq_some_iff.1 h_0
          try dsimp only at h_0
          have f24a := idx_lo ex23
          have f24b := idx_hi ex23
          have f24c : (esStep e_a0.Done).drop (k_13.toNat * 5) = eStep x23 ++ esStep (e_a0.Done.drop (k_13.toNat + 1)) := drop_enc (fun _ => rfl) (idx_get ex23)
          obtain ⟨v25, ev25, h_0⟩ := Option.bind_eq_some_iff.1 h_0
          try dsimp only at h_0
          have ff := ai @dc3 (ai @g0_j1 (ai @g1_j1 (ai @g2_j1 (ai @g3_j1 (ai @g4_j1 (ai @g5_j1 (ai @dc22 (ai @f24c p_spec_GoodEdited_tf.down))))))))
          try refine st_by ff ?_
          repeat' (first | exact trivial | refine And.intro sd ?_)
          first
          | (refine cq_call (p_spec_l26Back_does x23 v25 ev25) (hf_by ff) kr ⟨p_spec_l26Step_sa ff trivial, ?_⟩; clear ff)
          obtain ⟨v26, ev26, h_0⟩ := Option.bind_eq_some_iff.1 h_0
          try dsimp only at h_0
          have ff := ai @dc3 (ai @g0_j1 (ai @g1_j1 (ai @g2_j1 (ai @g3_j1 (ai @g4_j1 (ai @g5_j1 (ai @dc22 (ai @f24c p_spec_GoodEdited_tf.down))))))))
          try refine st_by ff ?_
          repeat' (first | exact trivial | refine And.intro sd ?_)
          first
          | (refine cq_call (p_spec_l26Do_does N l_11 v25 v26 ev26) (hf_by ff) kr ⟨p_spec_l26Step_sa ff trivial, ?_⟩; clear ff)
          have ff := ai @dc3 (ai @g0_j1 (ai @g1_j1 (ai @g2_j1 (ai @g3_j1 (ai @g4_j1 (ai @g5_j1 (ai @dc22 (ai @f24c p_spec_GoodEdited_tf.down))))))))
          try refine st_by ff ?_
          repeat' (first | exact trivial | refine And.intro sd ?_)
          refine Back.intro (n_0, v26.1, v26.2, (IntKind.i64.wrap (k_13 - 1))) ?_ ?_
          · rw [hM_0]; exact Nat.lt_succ_self _
          rw [hI_0]
          refine ⟨h_0, ?_⟩
          exact p_spec_l26Step_pv ff trivial
        have hrt_1 := fun σ : ASt => congrFun (congrFun hk_1.symm AX.rt) σ
        have hex_1 := fun (i : Nat) (σ : ASt) => congrFun (congrFun hk_1.symm (AX.ex i)) σ
        by_cases c27 : k_13 ≥ 0
        case neg =>
         rw [if_neg c27] at h_0
         have dc27 := decide_eq_false c27
         have ff := ai @dc3 (ai @g0_0 (ai @g1_0 (ai @g2_0 (ai @g3_0 (ai @g4_0 (ai @hrt_1 (ai @hex_1 (ai @dc27 p_spec_GoodEdited_tf.down))))))))
         try refine st_by ff ?_
         repeat' (first | exact trivial | refine And.intro sd ?_)
         refine key_1 _ ?_
         refine ⟨false, h_0, ?_⟩
         exact p_spec_l26Step_pv ff trivial
        rw [if_pos c27] at h_0
        have dc27 := decide_eq_true c27
        have ff := ai @dc3 (ai @g0_0 (ai @g1_0 (ai @g2_0 (ai @g3_0 (ai @g4_0 (ai @hrt_1 (ai @hex_1 (ai @dc27 p_spec_GoodEdited_tf.down))))))))
        try refine st_by ff ?_
        repeat' (first | exact trivial | refine And.intro sd ?_)
        refine key_1 _ ?_
        refine ⟨ok_12, h_0, ?_⟩
        exact p_spec_l26Step_pv ff trivial
    · try clear ff
      rintro σ hg_0
      rw [hJ_0] at hg_0
      obtain ⟨l_11, ok_12, k_13, hj_0, g0_0a, g1_0a, g2_0a⟩ := hg_0
      cases hj_0
      try dsimp only at h
      by_cases c28 : ok_12 = true
      case neg =>
       rw [if_neg c28] at h
       have dc28 := eq_false_of_ne_true c28
       have ff := ai @dc3 (ai @g0_0a (ai @g1_0a (ai @g2_0a (ai @dc28 p_spec_GoodEdited_tf.down))))
       try refine st_by ff ?_
       repeat' (first | exact trivial | refine And.intro sd ?_)
       cases h
       exact ret_q1 rfl (p_spec_l26Own_rt ff trivial)
      rw [if_pos c28] at h
      have dc28 := c28
      obtain ⟨q_1, eq_1, h⟩ := Option.bind_eq_some_iff.1 h
      have ff := ai @dc3 (ai @g0_0a (ai @g1_0a (ai @g2_0a (ai @dc28 p_spec_GoodEdited_tf.down))))
      try refine st_by ff ?_
      repeat' (first | exact trivial | refine And.intro sd ?_)
      obtain ⟨I_1, hI_1⟩ : ∃ I_ : (Nat × (List GProp) × Bool × Int) → ASt → Prop, I_ = (fun (a : Nat × (List GProp) × Bool × Int) σ => match a with | (n_1, l_35, ok_36, k_37) => (p_spec_GoodEdited_l1 N e_a0 n_1 l_35 ok_36 k_37 = some q_1) ∧ σ.t 1 = .ptr 1 [] 0 ∧ σ.t 3 = .row false 2 l_35.length (esProp l_35) ∧ σ.t 4 = B ok_36 ∧ σ.t 6 = I k_37 ∧ σ.m 1 = some (.box true [.row false 2 e_a0.Props.length (esProp e_a0.Props), .row false 5 e_a0.Done.length (esStep e_a0.Done), .row false 5 e_a0.Back.length (esStep e_a0.Back)])) := ⟨_, rfl⟩
      obtain ⟨M_1, hM_1⟩ : ∃ M_ : (Nat × (List GProp) × Bool × Int) → Nat, M_ = (fun (a : Nat × (List GProp) × Bool × Int) => match a with | (n_1, l_35, ok_36, k_37) => n_1) := ⟨_, rfl⟩
      obtain ⟨J_1, hJ_1⟩ : ∃ J_ : ASt → Prop, J_ = (fun σ => ∃ l_35 : List GProp, ∃ ok_36 : Bool, ∃ k_37 : Int, (some (l_35, ok_36, k_37) = some q_1) ∧ σ.t 4 = B ok_36) := ⟨_, rfl⟩
      refine aw_loopC (id := 2) I_1 M_1 J_1 (N, e_a0.Props, ok_12, (IntKind.i64.wrap ((e_a0.Back.length : Int) - 1))) ?_ ?_ ?_
      · rw [hI_1]
        refine ⟨eq_1, ?_⟩
        exact p_spec_l26Step_pv ff trivial
      · try clear ff
        rintro ⟨n_1, l_35, ok_36, k_37⟩ σ hg_1
        rw [hI_1] at hg_1
        obtain ⟨h_1, g0_1, g1_1, g2_1, g3_1, g4_1⟩ := hg_1
        cases n_1 with
        | zero => rw [p_spec_GoodEdited_l1] at h_1; cases h_1
        | succ n_1 =>
          rw [p_spec_GoodEdited_l1] at h_1
          have ff := ai @dc3 (ai @dc28 (ai @g0_1 (ai @g1_1 (ai @g2_1 (ai @g3_1 (ai @g4_1 p_spec_GoodEdited_tf.down))))))
          try refine st_by ff ?_
          repeat' (first | exact trivial | refine And.intro sd ?_)
          try clear ff
          generalize hk_2 : thenK _ _ = kk_2
          have key_2 : ∀ σ, (∃ b_44 : Bool, (p_spec_GoodEdited_j2 N e_a0 l_35 ok_36 k_37 (p_spec_GoodEdited_l1 N e_a0 n_1) b_44 = some q_1) ∧ σ.t 1 = .ptr 1 [] 0 ∧ σ.t 3 = .row false 2 l_35.length (esProp l_35) ∧ σ.t 4 = B ok_36 ∧ σ.t 6 = I k_37 ∧ σ.t 59 = B b_44 ∧ σ.m 1 = some (.box true [.row false 2 e_a0.Props.length (esProp e_a0.Props), .row false 5 e_a0.Done.length (esStep e_a0.Done), .row false 5 e_a0.Back.length (esStep e_a0.Back)])) → kk_2 .nm σ := by
            rintro σ ⟨b_44, h_1, g0_j2, g1_j2, g2_j2, g3_j2, g4_j2, g5_j2⟩
            rw [← hk_2]
            rw [p_spec_GoodEdited_j2] at h_1
            by_cases c45 : b_44 = true
            case neg =>
             rw [if_neg c45] at h_1
             have dc45 := eq_false_of_ne_true c45
             have ff := ai @dc3 (ai @dc28 (ai @g0_j2 (ai @g1_j2 (ai @g2_j2 (ai @g3_j2 (ai @g4_j2 (ai @g5_j2 (ai @dc45 p_spec_GoodEdited_tf.down))))))))
             try refine st_by ff ?_
             repeat' (first | exact trivial | refine And.intro sd ?_)
             refine JW.intro ?_
             rw [hJ_1]
             refine ⟨l_35, ok_36, k_37, h_1, ?_⟩
             exact p_spec_l26Step_pv ff trivial
            rw [if_pos c45] at h_1
            have dc45 := c45
            obtain ⟨x46, ex46, h_1⟩ := Option.bind_eq_some_iff.1 h_1
            try dsimp only at h_1
            have f47a := idx_lo ex46
            have f47b := idx_hi ex46
            have f47c : (esStep e_a0.Back).drop (k_37.toNat * 5) = eStep x46 ++ esStep (e_a0.Back.drop (k_37.toNat + 1)) := drop_enc (fun _ => rfl) (idx_get ex46)
            obtain ⟨v48, ev48, h_1⟩ := Option.bind_eq_some_iff.1 h_1
            try dsimp only at h_1
            have ff := ai @dc3 (ai @dc28 (ai @g0_j2 (ai @g1_j2 (ai @g2_j2 (ai @g3_j2 (ai @g4_j2 (ai @g5_j2 (ai @dc45 (ai @f47c p_spec_GoodEdited_tf.down)))))))))
            try refine st_by ff ?_
            repeat' (first | exact trivial | refine And.intro sd ?_)
            first
            | (refine cq_call (p_spec_l26Do_does N l_35 x46 v48 ev48) (hf_by ff) kr ⟨p_spec_l26Step_sa ff trivial, ?_⟩; clear ff)
            have ff := ai @dc3 (ai @dc28 (ai @g0_j2 (ai @g1_j2 (ai @g2_j2 (ai @g3_j2 (ai @g4_j2 (ai @g5_j2 (ai @dc45 (ai @f47c p_spec_GoodEdited_tf.down)))))))))
            try refine st_by ff ?_
            repeat' (first | exact trivial | refine And.intro sd ?_)
            refine Back.intro (n_1, v48.1, v48.2, (IntKind.i64.wrap (k_37 - 1))) ?_ ?_
            · rw [hM_1]; exact Nat.lt_succ_self _
            rw [hI_1]
            refine ⟨h_1, ?_⟩
            exact p_spec_l26Step_pv ff trivial
          have hrt_2 := fun σ : ASt => congrFun (congrFun hk_2.symm AX.rt) σ
          have hex_2 := fun (i : Nat) (σ : ASt) => congrFun (congrFun hk_2.symm (AX.ex i)) σ
          by_cases c49 : k_37 ≥ 0
          case neg =>
           rw [if_neg c49] at h_1
           have dc49 := decide_eq_false c49
           have ff := ai @dc3 (ai @dc28 (ai @g0_1 (ai @g1_1 (ai @g2_1 (ai @g3_1 (ai @g4_1 (ai @hrt_2 (ai @hex_2 (ai @dc49 p_spec_GoodEdited_tf.down)))))))))
           try refine st_by ff ?_
           repeat' (first | exact trivial | refine And.intro sd ?_)
           refine key_2 _ ?_
           refine ⟨false, h_1, ?_⟩
           exact p_spec_l26Step_pv ff trivial
          rw [if_pos c49] at h_1
          have dc49 := decide_eq_true c49
          have ff := ai @dc3 (ai @dc28 (ai @g0_1 (ai @g1_1 (ai @g2_1 (ai @g3_1 (ai @g4_1 (ai @hrt_2 (ai @hex_2 (ai @dc49 p_spec_GoodEdited_tf.down)))))))))
          try refine st_by ff ?_
          repeat' (first | exact trivial | refine And.intro sd ?_)
          refine key_2 _ ?_
          refine ⟨ok_36, h_1, ?_⟩
          exact p_spec_l26Step_pv ff trivial
      · try clear ff
        rintro σ hg_1
        rw [hJ_1] at hg_1
        obtain ⟨l_35, ok_36, k_37, hj_1, g0_1a⟩ := hg_1
        cases hj_1
        try dsimp only at h
        have ff := ai @dc3 (ai @dc28 (ai @g0_1a p_spec_GoodEdited_tf.down))
        try refine st_by ff ?_
        repeat' (first | exact trivial | refine And.intro sd ?_)
        cases h
        exact ret_q1 rfl (p_spec_l26Own_rt ff trivial)
  have hrt_0 := fun σ : ASt => congrFun (congrFun hk_0.symm AX.rt) σ
  have hex_0 := fun (i : Nat) (σ : ASt) => congrFun (congrFun hk_0.symm (AX.ex i)) σ
  by_cases c50 : v1 = true
  case neg =>
   rw [if_neg c50] at h
   have dc50 := eq_false_of_ne_true c50
   have ff := ai @hrt_0 (ai @hex_0 (ai @dc50 p_spec_GoodEdited_tf.down))
   try refine st_by ff ?_
   repeat' (first | exact trivial | refine And.intro sd ?_)
   refine key_0 _ ?_
   refine ⟨true, h, ?_⟩
   exact p_spec_l26Step_pv ff trivial
  rw [if_pos c50] at h
  have dc50 := c50
  by_cases c51 : (e_a0.Done.length : Int) > 100
  case neg =>
   rw [if_neg c51] at h
   have dc51 := decide_eq_false c51
   have ff := ai @hrt_0 (ai @hex_0 (ai @dc50 (ai @dc51 p_spec_GoodEdited_tf.down)))
   try refine st_by ff ?_
   repeat' (first | exact trivial | refine And.intro sd ?_)
   refine key_0 _ ?_
   refine ⟨decide ((e_a0.Back.length : Int) > 100), h, ?_⟩
   exact p_spec_l26Step_pv ff trivial
  rw [if_pos c51] at h
  have dc51 := decide_eq_true c51
  have ff := ai @hrt_0 (ai @hex_0 (ai @dc50 (ai @dc51 p_spec_GoodEdited_tf.down)))
  try refine st_by ff ?_
  repeat' (first | exact trivial | refine And.intro sd ?_)
  refine key_0 _ ?_
  refine ⟨true, h, ?_⟩
  exact p_spec_l26Step_pv ff trivial
end Go.Av
end
section
set_option linter.unusedSimpArgs false
set_option linter.unusedVariables false
set_option maxRecDepth 100000
namespace Go.Av
/-! Paths and props: the program and the reference alike. -/
/-- A text in pieces: the piece so far, and what is left. -/
def pcsL (b : UInt8) : List UInt8 → List UInt8 → List (List UInt8)
  | cur, [] => [cur]
  | cur, x :: l => if x = b then cur :: pcsL b [] l else pcsL b (cur ++ [x]) l
theorem pcsL_nil (b : UInt8) (cur : List UInt8) : pcsL b cur [] = [cur] := by rw [pcsL]
theorem pcsL_cons (b : UInt8) (cur : List UInt8) (x : UInt8) (l : List UInt8) : pcsL b cur (x :: l) = if x = b then cur :: pcsL b [] l else pcsL b (cur ++ [x]) l := by rw [pcsL]
def bOf (l : List UInt8) : ByteArray := ⟨l.toArray⟩
theorem bOf_data (s : ByteArray) : bOf s.data.toList = s := by
  unfold bOf; cases s; simp
theorem ixB_miss (b : UInt8) : ∀ (l cur : List UInt8), Lib.indexByte l b = -1 → pcsL b cur l = [cur ++ l]
  | [], cur, _ => by simp [pcsL_nil]
  | x :: l, cur, h => by
    unfold Lib.indexByte at h
    by_cases e : x = b
    · simp [e] at h
    · have e' : (x == b) = false := by simpa using e
      have hge := Lib.indexByte_ge l b
      rw [e'] at h
      simp only [Bool.false_eq_true, if_false] at h
      by_cases h1 : Lib.indexByte l b = -1
      · rw [pcsL_cons, if_neg e, ixB_miss b l _ h1]; simp
      · rw [if_neg (by simpa using h1)] at h; omega
theorem ixB_hit (b : UInt8) : ∀ (l cur : List UInt8) (i : Nat), Lib.indexByte l b = (i : Int) → i < l.length ∧ pcsL b cur l = (cur ++ l.take i) :: pcsL b [] (l.drop (i + 1))
  | [], cur, i, h => by simp [Lib.indexByte] at h
  | x :: l, cur, i, h => by
    unfold Lib.indexByte at h
    by_cases e : x = b
    · rw [if_pos (by simpa using e)] at h
      have : i = 0 := by omega
      subst this
      rw [pcsL_cons, if_pos e]; simp
    · have e' : (x == b) = false := by simpa using e
      have hge := Lib.indexByte_ge l b
      rw [e'] at h
      simp only [Bool.false_eq_true, if_false] at h
      by_cases h1 : Lib.indexByte l b = -1
      · rw [if_pos (by simpa using h1)] at h; omega
      · rw [if_neg (by simpa using h1)] at h
        obtain ⟨j, hj⟩ : ∃ j : Nat, Lib.indexByte l b = j := ⟨(Lib.indexByte l b).toNat, by omega⟩
        obtain ⟨g1, g2⟩ := ixB_hit b l (cur ++ [x]) j hj
        have : i = j + 1 := by omega
        subst this
        refine ⟨by simp; omega, ?_⟩
        rw [pcsL_cons, if_neg e, g2]; simp
theorem indexB_one (s : ByteArray) (b : UInt8) : Lib.indexB s ⟨#[b]⟩ = Lib.indexByte s.data.toList b := by
  show Lib.index s.data.toList [b] = _
  rw [Lib.index_one]
theorem pieces_eq (b : UInt8) : ∀ (k : Nat) (s : ByteArray), Lib.countB s ⟨#[b]⟩ = k → Lib.splitB ⟨#[b]⟩ 0 k s = (pcsL b [] s.data.toList).map bOf := fun k => by
  induction k with
  | zero =>
    intro s hk
    rcases Lib.indexB_cases s ⟨#[b]⟩ with h | ⟨i, h, hle⟩
    · rw [Lib.splitB_miss _ _ _ _ h, ixB_miss b _ _ (by rw [← indexB_one]; exact h)]
      simp [bOf_data]
    · have hc := Lib.countB_hit s ⟨#[b]⟩ i (Nat.le_refl _) h
      omega
  | succ k ih =>
    intro s hk
    rcases Lib.indexB_cases s ⟨#[b]⟩ with h | ⟨i, h, hle⟩
    · rw [Lib.countB_miss _ _ h] at hk; cases hk
    · have hc := Lib.countB_hit s ⟨#[b]⟩ i (Nat.le_refl _) h
      obtain ⟨g1, g2⟩ := ixB_hit b s.data.toList [] i (by rw [← indexB_one]; exact h)
      have e1 : (⟨#[b]⟩ : ByteArray).size = 1 := rfl
      rw [e1] at hc
      have ih := ih (s.extract (i + 1) s.size) (by omega)
      have d1 : (s.extract 0 i).data.toList = s.data.toList.take i := by simp
      have d2 : (s.extract (i + 1) s.size).data.toList = s.data.toList.drop (i + 1) := by
        have : s.size = s.data.size := rfl
        rw [ByteArray.data_extract, Array.toList_extract, List.extract_eq_take_drop]
        exact List.take_of_length_le (by rw [List.length_drop, this, Array.length_toList]; omega)
      rw [Lib.splitB_hit _ _ _ _ i h, g2, e1, Nat.add_zero, ih, d2, List.map_cons, List.nil_append, ← d1, bOf_data]
theorem toList_len (s : ByteArray) : s.data.toList.length = s.size := by rw [Array.length_toList]; rfl
theorem extr (s : ByteArray) (a i : Nat) (h : a ≤ i) (hi : i ≤ s.size) : s.extract a i = bOf ((s.data.toList.drop a).take (i - a)) := by
  rw [← bOf_data (s.extract a i)]; congr 1
  rw [ByteArray.data_extract, Array.toList_extract, List.extract_eq_take_drop]
theorem split_l0 (s : ByteArray) (hl : s.size ≤ 1048576) : ∀ (n a i : Nat) (out : List ByteArray), a ≤ i → i ≤ s.size → s.size - i + 1 < n → out.length ≤ i →
    ∃ a' i', p_spec_l1Split_l0 s 47 n (a : Int) (i : Int) out = some (a', i', out ++ (pcsL 47 ((s.data.toList.drop a).take (i - a)) (s.data.toList.drop i)).map bOf)
  | 0, a, i, out, _, _, h, _ => by omega
  | n + 1, a, i, out, h1, h2, h3, h4 => by
    have hw : IntKind.i64.wrap ((i : Int) + 1) = ((i + 1 : Nat) : Int) := by rw [wI _ (by omega) (by omega)]; omega
    have hb : bslc s (a : Int) (i : Int) = some (bOf ((s.data.toList.drop a).take (i - a))) := by
      unfold bslc; rw [if_pos (by omega), Int.toNat_natCast, Int.toNat_natCast, extr s a i h1 h2]
    have hlen := toList_len s
    unfold p_spec_l1Split_l0
    rw [if_pos (by omega)]
    by_cases c : i = s.size
    · subst c
      rw [if_pos rfl]
      unfold p_spec_l1Split_j0
      rw [if_pos rfl, hb, Option.bind_some, if_pos (by omega), hw]
      match n, h3 with
      | n + 1, _ =>
        unfold p_spec_l1Split_l0
        rw [if_neg (by omega), List.drop_of_length_le (show s.data.toList.length ≤ s.size by omega), pcsL_nil]
        exact ⟨_, _, rfl⟩
    · have hi : i < s.size := by omega
      have hlt : i < s.data.toList.length := by omega
      have hd : s.data.toList.drop i = s.data.toList[i] :: s.data.toList.drop (i + 1) := List.drop_eq_getElem_cons hlt
      have hbi : bidx s (i : Int) = some ((s.data.toList[i].toNat : Nat) : Int) := by
        unfold bidx; rw [if_pos (by omega)]
        unfold byteAt
        rw [dif_pos (by simpa using hi)]
        simp only [Int.toNat_natCast]
        rfl
      rw [if_neg (by omega), hbi, Option.bind_some]
      unfold p_spec_l1Split_j0
      rw [hd, pcsL_cons]
      by_cases e : s.data.toList[i] = 47
      · rw [if_pos (by rw [e]; rfl), hb, Option.bind_some, if_pos (by omega), hw, if_pos e]
        obtain ⟨a', i', r⟩ := split_l0 s hl n (i + 1) (i + 1) (out ++ [bOf ((s.data.toList.drop a).take (i - a))]) (Nat.le_refl _) (by omega) (by omega) (by simp; omega)
        rw [Nat.sub_self, List.take_zero] at r
        exact ⟨a', i', by rw [r]; simp⟩
      · have e' : ¬ (((s.data.toList[i].toNat : Nat) : Int) == 47) = true := fun h => e (by
          have h : ((s.data.toList[i].toNat : Nat) : Int) = 47 := by simpa using h
          exact UInt8.toNat.inj (by show s.data.toList[i].toNat = 47; omega))
        rw [if_neg e', hw, if_neg e]
        obtain ⟨a', i', r⟩ := split_l0 s hl n a (i + 1) out (by omega) (by omega) (by omega) (by omega)
        refine ⟨a', i', ?_⟩
        rw [r]
        have : (s.data.toList.drop a).take (i + 1 - a) = (s.data.toList.drop a).take (i - a) ++ [s.data.toList[i]] := by
          rw [show i + 1 - a = (i - a) + 1 by omega, List.take_add_one, List.getElem?_drop, show a + (i - a) = i by omega, List.getElem?_eq_getElem hlt]; rfl
        rw [this]
theorem specSplit (N : Nat) (s : ByteArray) (hl : s.size ≤ 1048576) (hN : s.size + 1 < N) : p_spec_l1Split N s 47 = some (piecesB 47 s) := by
  unfold p_spec_l1Split
  obtain ⟨a', i', r⟩ := split_l0 s hl N 0 0 [] (Nat.le_refl _) (Nat.zero_le _) (by omega) (Nat.le_refl _)
  rw [show ((0 : Nat) : Int) = 0 from rfl] at r
  rw [r, Option.bind_some]
  unfold piecesB
  rw [pieces_eq 47 _ s rfl]
  simp
theorem pieces_size (b : UInt8) : ∀ (l cur : List UInt8), ∀ p ∈ pcsL b cur l, p.length ≤ cur.length + l.length
  | [], cur, p, h => by rw [pcsL_nil] at h; simp at h; subst h; simp
  | x :: l, cur, p, h => by
    rw [pcsL_cons] at h
    split at h
    · rcases List.mem_cons.1 h with rfl | h
      · simp
      · have := pieces_size b l [] p h; simp at this ⊢; omega
    · have := pieces_size b l _ p h; simp at this ⊢; omega
theorem piece_size {b : UInt8} {s p : ByteArray} (h : p ∈ piecesB b s) : p.size ≤ s.size := by
  unfold piecesB at h
  rw [pieces_eq b _ s rfl] at h
  obtain ⟨q, h1, rfl⟩ := List.mem_map.1 h
  have := pieces_size b _ _ q h1
  rw [toList_len] at this
  show q.toArray.size ≤ _
  simpa using this
/-- What a path is. -/
def pathB (s : ByteArray) : Bool := decide ((piecesB 47 s).length ≤ 5) && (piecesB 47 s).all goodName
theorem spec_path_l0 : ∀ (l : List ByteArray) (i : Nat), (∀ p ∈ l, p.size ≤ 9223372036854775807) → p_spec_l26Path_l0 l i = some (if l.all goodName = true then .out () else .ret false)
  | [], i, _ => by simp [p_spec_l26Path_l0]
  | x :: r, i, h => by
    rw [p_spec_l26Path_l0, if_pos (h x (by simp)), spec_path_l0 r (i + 1) (fun p hp => h p (by simp [hp]))]
    cases hx : goodName x <;> simp [hx]
theorem specPath (N : Nat) (s : ByteArray) (hl : s.size ≤ 1048576) (hN : s.size + 1 < N) : p_spec_l26Path N s = some (pathB s) := by
  unfold p_spec_l26Path pathB
  rw [specSplit N s hl hN, Option.bind_some, spec_path_l0 _ _ (fun p hp => by have := piece_size hp; omega), Option.bind_some]
  cases h : (piecesB 47 s).all goodName with
  | false => simp
  | true => simp; omega
theorem ixS (f : ByteArray → Bool) : ∀ (l : List ByteArray) (i : Nat) (g : ByteArray → Option Bool), (∀ x ∈ l, g x = some (f x)) → ∃ k : Nat, p_slices_IndexFunc_string_string_l0 g l i = some (if l.any f = true then .ret (k : Int) else .out ())
  | [], i, g, _ => ⟨0, by simp [p_slices_IndexFunc_string_string_l0]⟩
  | y :: r, i, g, h => by
    obtain ⟨k, ih⟩ := ixS f r (i + 1) g (fun x hx => h x (by simp [hx]))
    rw [p_slices_IndexFunc_string_string_l0, h y (by simp), Option.bind_some]
    cases hy : f y with
    | true => exact ⟨i, by simp [hy]⟩
    | false => exact ⟨k, by rw [if_neg (by simp), ih]; simp [hy]⟩
theorem implPath (s : ByteArray) (hl : s.size ≤ 1048576) : p_impl_isPath s = some (pathB s) := by
  unfold p_impl_isPath pathB splitP
  rw [if_pos ⟨rfl, by omega⟩, Option.bind_some]
  by_cases c : (piecesB 47 s).length ≤ 5
  · rw [if_pos (by omega)]
    unfold p_slices_ContainsFunc_string_string p_slices_IndexFunc_string_string
    obtain ⟨k, e⟩ := ixS (fun x => !goodName x) (piecesB 47 s) 0 (fun x0_ => p_impl_isPath_1 x0_) (fun x hx => by
      unfold p_impl_isPath_1; rw [if_pos (by have := piece_size hx; omega)])
    rw [e, Option.bind_some]
    have : (piecesB 47 s).all goodName = !((piecesB 47 s).any fun x => !goodName x) := by
      rw [List.not_any_eq_all_not]; simp
    rw [this]
    cases (piecesB 47 s).any fun x => !goodName x <;> simp [c]
  · rw [if_neg (by omega)]; simp [c]
/-- Good props. -/
def okP (l : List GProp) (i : Nat) (x : GProp) : Bool := pathB x.Path && rng (x.Value.size : Int) 1 40 && (if i = 0 then true else (l[i - 1]?).elim false fun p => blt p.Path x.Path)
def okPs (l : List GProp) : Nat → List GProp → Bool
  | _, [] => true
  | i, x :: r => okP l i x && okPs l (i + 1) r
def goodP (l : List GProp) : Bool := decide (l.length ≤ 40) && okPs l 0 l
theorem idxP2 {α : Type} {l : List α} {i : Nat} (h0 : 0 < i) (h : i < l.length) (hl : l.length ≤ 9223372036854775807) : idx l (IntKind.i64.wrap ((i : Int) - 1)) = some (l[i - 1]'(by omega)) := by
  rw [wI _ (by omega) (by omega), show (i : Int) - 1 = ((i - 1 : Nat) : Int) by omega]
  exact idx_of (by omega)
theorem specP_l0 (N : Nat) (l : List GProp) (hl : l.length ≤ 1048576) (hs : ∀ x ∈ l, x.Path.size ≤ 1048576) (hN : ∀ x ∈ l, x.Path.size + 1 < N) : ∀ (r : List GProp) (i : Nat), l.drop i = r → p_spec_GoodProps_l0 N l r i = some (if okPs l i r = true then .out () else .ret false)
  | [], i, _ => by simp [p_spec_GoodProps_l0, okPs]
  | x :: r, i, h => by
    obtain ⟨h1, h2, h3⟩ := drop_cons h
    have hx : x ∈ l := List.mem_of_getElem? h2
    rw [p_spec_GoodProps_l0, specPath N x.Path (hs x hx) (hN x hx), Option.bind_some, specP_l0 N l hl hs hN r (i + 1) h3]
    unfold p_spec_l26Value
    rw [Option.bind_some]
    by_cases c : (i : Int) > 0
    · have e : okPs l i (x :: r) = (pathB x.Path && rng (x.Value.size : Int) 1 40 && Op.bytesLess (l[i - 1]'(by omega)).Path.toList x.Path.toList && okPs l (i + 1) r) := by
        simp only [okPs, okP]
        rw [if_neg (show ¬ i = 0 by omega), List.getElem?_eq_getElem (show i - 1 < l.length by omega)]; rfl
      rw [if_pos c, idxP2 (by omega) h1 (by omega), Option.bind_some, e]
      cases pathB x.Path <;> cases rng (x.Value.size : Int) 1 40 <;> cases Op.bytesLess (l[i - 1]'(by omega)).Path.toList x.Path.toList <;> simp
    · have e : okPs l i (x :: r) = (pathB x.Path && rng (x.Value.size : Int) 1 40 && okPs l (i + 1) r) := by
        simp only [okPs, okP]
        rw [if_pos (show i = 0 by omega), Bool.and_true]
      rw [if_neg c, e]
      cases pathB x.Path <;> cases rng (x.Value.size : Int) 1 40 <;> simp
theorem implP_l0 (l : List GProp) (hl : l.length ≤ 1048576) (hs : ∀ x ∈ l, x.Path.size ≤ 1048576) : ∀ (r : List GProp) (i : Nat), l.drop i = r → p_impl_GoodProps_l0 l r i = some (if okPs l i r = true then .out () else .ret false)
  | [], i, _ => by simp [p_impl_GoodProps_l0, okPs]
  | x :: r, i, h => by
    obtain ⟨h1, h2, h3⟩ := drop_cons h
    have hx : x ∈ l := List.mem_of_getElem? h2
    rw [p_impl_GoodProps_l0, implPath x.Path (hs x hx), Option.bind_some, implP_l0 l hl hs r (i + 1) h3]
    unfold p_impl_isPropValue
    rw [Option.bind_some]
    by_cases c : (i : Int) > 0
    · have e : okPs l i (x :: r) = (pathB x.Path && rng (x.Value.size : Int) 1 40 && Op.bytesLess (l[i - 1]'(by omega)).Path.toList x.Path.toList && okPs l (i + 1) r) := by
        simp only [okPs, okP]
        rw [if_neg (show ¬ i = 0 by omega), List.getElem?_eq_getElem (show i - 1 < l.length by omega)]; rfl
      rw [if_pos c, idxP2 (by omega) h1 (by omega), Option.bind_some, e]
      cases pathB x.Path <;> cases rng (x.Value.size : Int) 1 40 <;> cases Op.bytesLess (l[i - 1]'(by omega)).Path.toList x.Path.toList <;> simp
    · have e : okPs l i (x :: r) = (pathB x.Path && rng (x.Value.size : Int) 1 40 && okPs l (i + 1) r) := by
        simp only [okPs, okP]
        rw [if_pos (show i = 0 by omega), Bool.and_true]
      rw [if_neg c, e]
      cases pathB x.Path <;> cases rng (x.Value.size : Int) 1 40 <;> simp
theorem specProps (N : Nat) (l : List GProp) (hl : l.length ≤ 1048576) (hs : ∀ x ∈ l, x.Path.size ≤ 1048576) (hN : ∀ x ∈ l, x.Path.size + 1 < N) : p_spec_GoodProps N l = some (goodP l) := by
  unfold p_spec_GoodProps goodP
  by_cases c : (l.length : Int) > 40
  · rw [if_pos c, show decide (l.length ≤ 40) = false by simp; omega]; rfl
  · rw [if_neg c, specP_l0 N l hl hs hN l 0 rfl, Option.bind_some, show decide (l.length ≤ 40) = true by simp; omega]
    cases okPs l 0 l <;> simp
theorem implProps (l : List GProp) (hl : l.length ≤ 1048576) (hs : ∀ x ∈ l, x.Path.size ≤ 1048576) : p_impl_GoodProps l = some (goodP l) := by
  unfold p_impl_GoodProps goodP
  rw [implP_l0 l hl hs l 0 rfl, Option.bind_some]
  cases okPs l 0 l with
  | false => simp
  | true => simp; omega
end Go.Av
end
section
set_option linter.unusedSimpArgs false
set_option linter.unusedVariables false
set_option maxRecDepth 100000
namespace Go.Av
/-! Good props as a list that rises; a prop laid into a list. Plain. -/
theorem okPs_iff (l : List GProp) : ∀ (r : List GProp) (i : Nat), okPs l i r = true ↔ ∀ (j : Nat) (x : GProp), r[j]? = some x → okP l (i + j) x = true
  | [], i => by simp [okPs]
  | y :: r, i => by
    simp only [okPs, Bool.and_eq_true, okPs_iff l r (i + 1)]
    constructor
    · rintro ⟨h1, h2⟩ j x hx
      cases j with
      | zero => simp at hx; subst hx; exact h1
      | succ j => have := h2 j x (by simpa using hx); rwa [show i + (j + 1) = i + 1 + j by omega]
    · intro h
      refine ⟨h 0 y rfl, fun j x hx => ?_⟩
      have := h (j + 1) x (by simpa using hx); rwa [show i + 1 + j = i + (j + 1) by omega]
def gdP (l : List GProp) : Prop := Rise GProp.Path l ∧ ∀ x ∈ l, pathB x.Path = true ∧ rng (x.Value.size : Int) 1 40 = true
theorem goodP_iff (l : List GProp) : goodP l = true ↔ l.length ≤ 40 ∧ gdP l := by
  unfold goodP
  rw [Bool.and_eq_true, decide_eq_true_eq, okPs_iff]
  refine and_congr Iff.rfl ?_
  constructor
  · intro h
    refine ⟨rise_of (fun i x y hx hy => ?_), fun x hx => ?_⟩
    · have := h (i + 1) y hy
      simp only [okP, Bool.and_eq_true] at this
      have := this.2
      rw [if_neg (by omega), show 0 + (i + 1) - 1 = i by omega, hx] at this
      exact this
    · obtain ⟨j, hj⟩ := List.getElem?_of_mem hx
      have := h j x hj
      simp only [okP, Bool.and_eq_true] at this
      exact this.1
  · rintro ⟨hr, hg⟩ j x hx
    have hm := hg x (List.mem_of_getElem? hx)
    simp only [okP, Bool.and_eq_true]
    refine ⟨hm, ?_⟩
    by_cases c : j = 0
    · rw [if_pos (by omega)]
    · obtain ⟨hj, _⟩ := List.getElem?_eq_some_iff.1 hx
      rw [if_neg (by omega), show 0 + j - 1 = j - 1 by omega, List.getElem?_eq_getElem (show j - 1 < l.length by omega)]
      exact rise_at hr (show j - 1 < j by omega) (List.getElem?_eq_getElem (show j - 1 < l.length by omega)) hx
/-- A prop laid into a list that rises, or taken out of it. -/
def layR (t v : ByteArray) (has : Bool) : List GProp → List GProp
  | [] => if has = true then [⟨t, v⟩] else []
  | x :: l => if blt x.Path t = true then x :: layR t v has l else if x.Path = t then (if has = true then ⟨t, v⟩ :: l else l) else (if has = true then ⟨t, v⟩ :: x :: l else x :: l)
def atP (l : List GProp) (t : ByteArray) : Bool := (l[spot GProp.Path l t]?).elim false fun a => decide (a.Path = t)
theorem atP_cons {x : GProp} {l : List GProp} {t : ByteArray} (c : blt x.Path t = true) : atP (x :: l) t = atP l t := by
  unfold atP; rw [spot_cons, if_pos c, List.getElem?_cons_succ]
theorem layR_at (t v : ByteArray) (has : Bool) : ∀ l : List GProp, layR t v has l = l.take (spot GProp.Path l t) ++ ((if has = true then [(⟨t, v⟩ : GProp)] else []) ++ l.drop (if atP l t = true then spot GProp.Path l t + 1 else spot GProp.Path l t))
  | [] => by simp [layR, spot_nil]
  | x :: l => by
    rw [layR]
    by_cases c : blt x.Path t = true
    · rw [if_pos c, atP_cons c, spot_cons, if_pos c, layR_at t v has l]
      cases atP l t <;> simp
    · have ha : atP (x :: l) t = decide (x.Path = t) := by unfold atP; rw [spot_cons, if_neg c]; rfl
      rw [if_neg c, ha, spot_cons, if_neg c]
      by_cases e : x.Path = t
      · cases has <;> simp [e]
      · cases has <;> simp [e]
theorem layR_mem {t v : ByteArray} {has : Bool} : ∀ {l : List GProp} {y : GProp}, y ∈ layR t v has l → (has = true ∧ y = ⟨t, v⟩) ∨ y ∈ l
  | [], y, h => by cases has <;> simp_all [layR]
  | x :: l, y, h => by
    rw [layR] at h
    by_cases c : blt x.Path t = true
    · rw [if_pos c] at h
      rcases List.mem_cons.1 h with rfl | h
      · exact .inr (by simp)
      · rcases layR_mem h with h | h
        · exact .inl h
        · exact .inr (by simp [h])
    · rw [if_neg c] at h
      by_cases e : x.Path = t
      · rw [if_pos e] at h
        cases has <;> simp_all
        rcases h with h | h
        · exact .inl h
        · exact .inr (.inr h)
      · rw [if_neg e] at h
        cases has <;> simp_all
theorem layR_rise {t v : ByteArray} {has : Bool} : ∀ {l : List GProp}, Rise GProp.Path l → Rise GProp.Path (layR t v has l)
  | [], _ => by cases has <;> simp [layR, Rise]
  | x :: l, h => by
    rw [layR]
    by_cases c : blt x.Path t = true
    · rw [if_pos c]
      refine ⟨fun y hy => ?_, layR_rise h.2⟩
      rcases layR_mem hy with ⟨_, rfl⟩ | hy
      · exact c
      · exact h.1 y hy
    · rw [if_neg c]
      by_cases e : x.Path = t
      · rw [if_pos e]
        cases has
        · exact h.2
        · exact ⟨fun y hy => by subst e; exact h.1 y hy, h.2⟩
      · rw [if_neg e]
        have hlt : blt t x.Path = true := by
          rcases blt_not (Bool.eq_false_iff.2 c) with h1 | h1
          · exact absurd h1 e
          · exact h1
        cases has
        · exact h
        · refine ⟨fun y hy => ?_, h⟩
          rcases List.mem_cons.1 hy with rfl | hy
          · exact hlt
          · exact blt_trans hlt (h.1 y hy)
theorem layR_len (t v : ByteArray) (has : Bool) : ∀ l : List GProp, (layR t v has l).length ≤ l.length + 1 ∧ (has = true → l.length ≤ (layR t v has l).length)
  | [] => by cases has <;> simp [layR]
  | x :: l => by
    have ih := layR_len t v has l
    rw [layR]
    by_cases c : blt x.Path t = true
    · rw [if_pos c]; simp only [List.length_cons]; exact ⟨by omega, fun h => by have := ih.2 h; omega⟩
    · rw [if_neg c]
      by_cases e : x.Path = t
      · rw [if_pos e]; cases has <;> simp <;> omega
      · rw [if_neg e]; cases has <;> simp <;> omega
theorem layR_gd {t v : ByteArray} {has : Bool} {l : List GProp} (h : gdP l) (ht : has = true → pathB t = true ∧ rng (v.size : Int) 1 40 = true) : gdP (layR t v has l) := by
  refine ⟨layR_rise h.1, fun y hy => ?_⟩
  rcases layR_mem hy with ⟨h1, rfl⟩ | hy
  · exact ht h1
  · exact h.2 y hy
/-- Props laid one after the other. -/
def layAll (l r : List GProp) : List GProp := r.foldl (fun o p => layR p.Path p.Value true o) l
end Go.Av
end
section
set_option linter.unusedSimpArgs false
set_option linter.unusedVariables false
set_option maxRecDepth 100000
namespace Go.Av
/-! Props laid and found: the program and the reference alike. -/
theorem bsP_eq (x : List GProp) (t : ByteArray) (f : GProp → ByteArray → Option Int) : ∀ (n : Nat) (i j : Int), p_slices_BinarySearchFunc_impl_Prop_impl_Prop_string_l0 x t f n i j = bsG x t f n i j
  | 0, i, j => rfl
  | n + 1, i, j => by
    unfold p_slices_BinarySearchFunc_impl_Prop_impl_Prop_string_l0 bsG
    simp only [bsP_eq x t f n]; rfl
theorem placeP_eq (N : Nat) (l : List GProp) (t : ByteArray) (hN : l.length < N) (hr : Rise GProp.Path l) (hl : l.length ≤ 1048576) :
    p_impl_propPlace N l t = some (((spot GProp.Path l t : Nat) : Int), atP l t) := by
  unfold p_impl_propPlace
  have hf : ∀ a : GProp, (fun x0_ x1_ => p_impl_propPlace_1 x0_ x1_) a t = some (cmpB a.Path t) := fun a => by
    simp [p_impl_propPlace_1, p_strings_Compare, p_internal_bytealg_CompareString]
  have := bsW_spec (N := N) (key := GProp.Path) hN hf hr (by omega)
  unfold p_slices_BinarySearchFunc_impl_Prop_impl_Prop_string
  simp only [bsP_eq]
  unfold bsW at this
  rw [this, Option.bind_some]; rfl
theorem atP_true {l : List GProp} {t : ByteArray} (h : atP l t = true) : ∃ x, l[spot GProp.Path l t]? = some x ∧ x.Path = t ∧ spot GProp.Path l t < l.length := by
  unfold atP at h
  cases hg : l[spot GProp.Path l t]? with
  | none => rw [hg] at h; cases h
  | some x => rw [hg] at h; exact ⟨x, rfl, by simpa using h, (List.getElem?_eq_some_iff.1 hg).1⟩
theorem idxNP {α : Type} {l : List α} {k : Nat} {x : α} (h : l[k]? = some x) : idx l (k : Int) = some x := by
  unfold idx; rw [if_pos (by omega), Int.toNat_natCast]; exact h
theorem laid_eq (N : Nat) (l : List GProp) (t v : ByteArray) (has : Bool) (hN : l.length < N) (hr : Rise GProp.Path l) (hl : l.length ≤ 1048576) :
    p_impl_laid N l t v has = some (layR t v has l) := by
  have hle := spot_le (key := GProp.Path) l t
  unfold p_impl_laid p_slices_Clone_impl_Prop_impl_Prop
  rw [if_pos (by omega), Option.bind_some, placeP_eq N l t hN hr hl, Option.bind_some, layR_at]
  cases ha : atP l t with
  | true =>
    obtain ⟨x, hx, hp, hlt⟩ := atP_true ha
    dsimp only
    rw [if_pos rfl, if_pos rfl]
    unfold p_impl_laid_j0
    cases has with
    | true =>
      rw [if_pos rfl]
      dsimp only
      rw [idxNP hx, Option.bind_some, hp, Int.toNat_natCast, List.set_eq_take_append_cons_drop, if_pos hlt]; rfl
    | false =>
      rw [if_neg (by decide)]
      dsimp only
      rw [if_pos rfl, wI _ (by omega) (by omega), show ((spot GProp.Path l t : Nat) : Int) + 1 = ((spot GProp.Path l t + 1 : Nat) : Int) by omega]
      unfold delL
      rw [if_pos (by omega), Option.bind_some]; rfl
  | false =>
    unfold p_impl_laid_j0
    cases has with
    | true =>
      simp only [Bool.false_eq_true, if_false, if_true]
      have : insL l ((spot GProp.Path l t : Nat) : Int) [(⟨t, v⟩ : GProp)] = some (l.take (spot GProp.Path l t) ++ ([(⟨t, v⟩ : GProp)] ++ l.drop (spot GProp.Path l t))) := by
        unfold insL; rw [if_pos ⟨⟨by omega, by omega⟩, by omega, rfl⟩, Int.toNat_natCast]
      rw [this, Option.bind_some]
    | false => simp only [Bool.false_eq_true, if_false, List.nil_append, List.take_append_drop]
/-! ### the reference's laying -/
theorem lay_put (t v : ByteArray) : ∀ (r : List GProp) (i : Nat) (acc : List GProp), acc.length + r.length < 4294967296 → p_spec_l26Lay_l0 t v r i true acc = some (true, acc ++ r.filter fun x => !decide (x.Path = t))
  | [], i, acc, _ => by simp [p_spec_l26Lay_l0]
  | x :: r, i, acc, h => by
    simp only [List.length_cons] at h
    rw [p_spec_l26Lay_l0, if_pos rfl]
    unfold p_spec_l26Lay_j0 p_spec_l26Lay_j1
    rw [if_neg (by decide)]
    by_cases c : x.Path = t
    · rw [if_pos c, lay_put t v r (i + 1) acc (by omega)]; simp [c]
    · rw [if_neg c, if_pos (by omega), lay_put t v r (i + 1) _ (by rw [List.length_append, List.length_singleton]; omega)]; simp [c]
theorem above_filter {t : ByteArray} {r : List GProp} (h : ∀ y ∈ r, blt t y.Path = true) : r.filter (fun x => !decide (x.Path = t)) = r :=
  List.filter_eq_self.2 (fun x hx => by have := blt_ne (h x hx); simpa using fun e => this e.symm)
theorem layR_filter (t v : ByteArray) : ∀ {l : List GProp}, Rise GProp.Path l → layR t v false l = l.filter fun x => !decide (x.Path = t)
  | [], _ => by simp [layR]
  | x :: l, h => by
    rw [layR]
    by_cases c : blt x.Path t = true
    · rw [if_pos c, layR_filter t v h.2]
      have := blt_ne c
      simp [this]
    · rw [if_neg c]
      by_cases e : x.Path = t
      · rw [if_pos e, if_neg (by decide)]
        have := above_filter (t := t) (r := l) (fun y hy => by rw [← e]; exact h.1 y hy)
        simp [e, this]
      · rw [if_neg e, if_neg (by decide)]
        have hlt : blt t x.Path = true := by
          rcases blt_not (Bool.eq_false_iff.2 c) with h1 | h1
          · exact absurd h1 e
          · exact h1
        exact (above_filter (fun y hy => by
          rcases List.mem_cons.1 hy with rfl | hy
          · exact hlt
          · exact blt_trans hlt (h.1 y hy))).symm
theorem lay_l0 (t v : ByteArray) : ∀ (r : List GProp) (i : Nat) (acc : List GProp), Rise GProp.Path r → acc.length + r.length + 1 < 4294967296 →
    ∃ b o, p_spec_l26Lay_l0 t v r i false acc = some (b, o) ∧ (if b = true then o else o ++ [(⟨t, v⟩ : GProp)]) = acc ++ layR t v true r ∧ o.length ≤ acc.length + r.length + 1
  | [], i, acc, _, h => ⟨false, acc, by simp [p_spec_l26Lay_l0], by simp [layR], by simp⟩
  | x :: r, i, acc, hr, h => by
    simp only [List.length_cons] at h
    rw [p_spec_l26Lay_l0, if_neg (by decide), layR]
    unfold p_spec_l26Lay_j0 p_spec_l26Lay_j1
    by_cases c : blt x.Path t = true
    · have c' : Op.bytesLess x.Path.toList t.toList = true := c
      rw [c', if_neg (by decide), if_neg (blt_ne c), if_pos (by omega), if_pos c]
      obtain ⟨b, o, e1, e2, e3⟩ := lay_l0 t v r (i + 1) (acc ++ [x]) hr.2 (by rw [List.length_append, List.length_singleton]; omega)
      refine ⟨b, o, e1, by rw [e2]; simp, ?_⟩
      rw [List.length_append, List.length_singleton] at e3
      simp only [List.length_cons]; omega
    · have c' : Op.bytesLess x.Path.toList t.toList = false := Bool.eq_false_iff.2 c
      rw [c', if_pos (by decide), if_pos (by omega), if_neg c]
      have hle : x.Path = t ∨ blt t x.Path = true := blt_not (Bool.eq_false_iff.2 c)
      have hab : ∀ y ∈ r, blt t y.Path = true := fun y hy => by
        rcases hle with e | e
        · rw [← e]; exact hr.1 y hy
        · exact blt_trans e (hr.1 y hy)
      by_cases e : x.Path = t
      · rw [if_pos e, if_pos e, lay_put t v r (i + 1) _ (by rw [List.length_append, List.length_singleton]; omega), above_filter hab]
        exact ⟨true, _, rfl, by simp, by simp <;> omega⟩
      · rw [if_neg e, if_neg e, if_pos (by rw [List.length_append, List.length_singleton]; omega), lay_put t v r (i + 1) _ (by simp only [List.length_append, List.length_singleton]; omega), above_filter hab]
        exact ⟨true, _, rfl, by simp, by simp <;> omega⟩
theorem lay_eq (l : List GProp) (t v : ByteArray) (has : Bool) (hr : Rise GProp.Path l) (hl : l.length ≤ 1048576) : p_spec_l26Lay l t v has = some (layR t v has l) := by
  unfold p_spec_l26Lay
  cases has with
  | false =>
    rw [show (!false) = true from rfl, lay_put t v l 0 [] (by simp; omega), Option.bind_some, layR_filter t v hr]
    simp
  | true =>
    obtain ⟨b, o, e1, e2, e3⟩ := lay_l0 t v l 0 [] hr (by simp; omega)
    rw [show (!true) = false from rfl, e1, Option.bind_some]
    simp only [List.nil_append, List.length_nil, Nat.zero_add] at e2 e3
    cases b with
    | true => simpa using e2
    | false =>
      show (if false = true then some o else (if o.length < 4294967296 then some (o ++ [(⟨t, v⟩ : GProp)]) else none)) = _
      rw [if_neg (by decide), if_pos (by omega)]; simpa using e2
/-- The value of a path, and whether it is there. -/
def findR (t : ByteArray) : List GProp → ByteArray × Bool
  | [] => ((⟨#[]⟩ : ByteArray), false)
  | x :: l => if x.Path = t then (x.Value, true) else findR t l
theorem find_l0 (t : ByteArray) : ∀ (l : List GProp) (i : Nat), p_spec_l26Find_l0 t l i = some (if (findR t l).2 = true then .ret (findR t l) else .out ())
  | [], i => by simp [p_spec_l26Find_l0, findR]
  | x :: l, i => by
    rw [p_spec_l26Find_l0, findR]
    by_cases c : x.Path = t
    · rw [if_pos c, if_pos c]; simp
    · rw [if_neg c, if_neg c, find_l0 t l (i + 1)]
theorem findR_false {t : ByteArray} : ∀ {l : List GProp}, (findR t l).2 = false → findR t l = ((⟨#[]⟩ : ByteArray), false)
  | [], _ => rfl
  | x :: l, h => by
    rw [findR] at h ⊢
    by_cases c : x.Path = t
    · rw [if_pos c] at h; cases h
    · rw [if_neg c] at h ⊢; exact findR_false h
theorem find_eq (l : List GProp) (t : ByteArray) : p_spec_l26Find l t = some (findR t l) := by
  unfold p_spec_l26Find
  rw [find_l0, Option.bind_some]
  cases h : (findR t l).2 with
  | true => simp
  | false => rw [findR_false h]; simp
theorem findR_none {t : ByteArray} : ∀ {l : List GProp}, (∀ x ∈ l, x.Path ≠ t) → findR t l = ((⟨#[]⟩ : ByteArray), false)
  | [], _ => rfl
  | x :: l, h => by rw [findR, if_neg (h x (by simp)), findR_none (fun y hy => h y (by simp [hy]))]
theorem findR_at {t : ByteArray} : ∀ {l : List GProp} {i : Nat} {x : GProp}, Rise GProp.Path l → l[i]? = some x → x.Path = t → findR t l = (x.Value, true)
  | [], i, x, _, h, _ => by simp at h
  | y :: l, 0, x, hr, h, e => by simp at h; subst h; rw [findR, if_pos e]
  | y :: l, i + 1, x, hr, h, e => by
    have h : l[i]? = some x := by simpa using h
    have := blt_ne (hr.1 x (List.mem_of_getElem? h))
    rw [findR, if_neg (by rw [← e]; exact this), findR_at hr.2 h e]
theorem propAt_eq (N : Nat) (l : List GProp) (t : ByteArray) (hN : l.length < N) (hr : Rise GProp.Path l) (hl : l.length ≤ 1048576) : p_impl_propAt N l t = some (findR t l) := by
  unfold p_impl_propAt
  rw [placeP_eq N l t hN hr hl, Option.bind_some]
  cases ha : atP l t with
  | true =>
    obtain ⟨x, hx, hp, hlt⟩ := atP_true ha
    simp only [if_true]
    rw [idxNP hx, Option.bind_some, findR_at hr hx hp]
  | false =>
    simp only [Bool.false_eq_true, if_false]
    rw [findR_none (fun x hx e => ?_)]
    obtain ⟨i, hi⟩ := List.getElem?_of_mem hx
    have hs := spot_at hr hi
    rw [e] at hs
    unfold atP at ha
    rw [hs, hi] at ha
    simp [e] at ha
end Go.Av
end
section
set_option linter.unusedSimpArgs false
set_option linter.unusedVariables false
/-! slices.Backward over steps: the iterator's contract. -/
namespace Go.Av
open Go.RowKit Go.Shelf Go.Proofs
attribute [local go_sem] Oper.semAt_some
/-- A fact laid aside. -/
structure Hid (p : Prop) : Prop where
  out : p
def okSt (x : GStep) : Prop := x.Path.size ≤ 1048576 ∧ x.Was.size ≤ 1048576 ∧ x.Is.size ≤ 1048576
abbrev StepB := { x : GStep // okSt x }
/-- A step as a value. -/
def stepV (x : GStep) : Value := .agg #[.string x.Path, .string x.Was, .bool x.Had, .string x.Is, .bool x.Has]
/-- The steps from behind, with their numbers. -/
def revN (len : Nat) (zs : Nat → StepB) : List (Nat × StepB) := (List.range len).reverse.map fun j => (j, zs j)
theorem revN_len (len : Nat) (zs : Nat → StepB) : (revN len zs).length = len := by simp [revN]
theorem revN_get {len : Nat} {zs : Nat → StepB} {k : Nat} (h : k < len) : (revN len zs)[k]? = some (len - 1 - k, zs (len - 1 - k)) := by
  have h1 : ((List.range len).reverse)[k]? = some (len - 1 - k) := by
    rw [List.getElem?_reverse (by simpa using h)]
    simp only [List.length_range]
    rw [List.getElem?_range (by omega)]
  rw [revN, List.getElem?_map, h1]; rfl
theorem revN_take {len : Nat} {zs : Nat → StepB} {k : Nat} (h : k < len) : (revN len zs).take (k + 1) = (revN len zs).take k ++ [(len - 1 - k, zs (len - 1 - k))] := by
  rw [List.take_add_one, revN_get h]; rfl
theorem cell_of_heap {A B : World} {p : Addr} (h : B.heap[p.block]? = A.heap[p.block]?) : B.cell? p = A.cell? p := by unfold World.cell?; rw [h]
set_option maxRecDepth 100000 in
set_option maxHeartbeats 2000000 in
theorem back_in (n : Nat) (hn : 1 ≤ n) (l Bs b off len cap : Nat) (zs : Nat → StepB) (hlen : len ≤ 4294967296) (Kp : World → World → Prop) (hKr : ∀ A, Kp A A) (hKt : ∀ A B C, Kp A B → Kp B C → Kp A C) (hKs : ∀ A B, Kp A B → B.heap[Bs]? = A.heap[Bs]? ∧ B.heap[b]? = A.heap[b]?) (J Jx : List (Nat × StepB) → World → Prop)
    (hY : ∀ pre x W, J pre W → pre.length < len → YieldAt Fence.wide (n - 1) Tryd.prog l #[.int .i64 (x.1 : Int), stepV x.2.1] W fun e W' =>
      (e = .returned (.bool true) ∧ J (pre ++ [x]) W' ∧ Kp W W') ∨ (e = .returned (.bool false) ∧ Jx (pre ++ [x]) W'))
    (W : World) (hBs : W.cell? ⟨Bs, 0, none⟩ = some (.slice (some ⟨b, off, none⟩) len cap))
    (hc : ∀ j, j < len → W.cell? ⟨b, off + j * 5, none⟩ = some (.string (zs j).1.Path) ∧ W.cell? ⟨b, off + j * 5 + 1, none⟩ = some (.string (zs j).1.Was) ∧ W.cell? ⟨b, off + j * 5 + 2, none⟩ = some (.bool (zs j).1.Had) ∧ W.cell? ⟨b, off + j * 5 + 3, none⟩ = some (.string (zs j).1.Is) ∧ W.cell? ⟨b, off + j * 5 + 4, none⟩ = some (.bool (zs j).1.Has)) (h0 : J [] W) :
    CallsIn Fence.wide n Tryd.prog 73 #[.func (.yield l) #[] #[], .pointer (some ⟨Bs, 0, none⟩)] W fun e W' => (∃ v, e = .returned v) ∧
      ((∃ ys, ys = revN len zs ∧ J ys W') ∨ (∃ pre, (∃ k, k ≤ len ∧ pre = (revN len zs).take k) ∧ Jx pre W')) := by
  have hro : Fence.wide.round = none := rfl
  have h73 : Fence.wide.fn 73 := trivial
  refine callsIn_of_wp Tryd.func73 rfl h73 ?_ hro
  simp only [Tryd.ntmps73, List.size_toArray, List.length_cons, List.length_nil, Nat.reduceAdd, Nat.reduceSub, Array.replicate_succ, Array.replicate_zero, List.push_toArray, List.append_toArray, List.nil_append, List.cons_append]
  gi_wp2
  gi_loopw [3] (fun i wr => ∃ k : Nat, k ≤ len ∧ i = .int .i64 ((len : Int) - 1 - (k : Int)) ∧ J ((revN len zs).take k) wr ∧ Kp W wr)
    (fun i _ => (intOf i + 1).toNat)
  case atStart => exact ⟨0, Nat.zero_le _, by simp, h0, hKr _⟩
  case round =>
    obtain ⟨k, hk, rfl, hJs, hnx⟩ := hrel
    have hBs' : wr.cell? ⟨Bs, 0, none⟩ = some (.slice (some ⟨b, off, none⟩) len cap) := (cell_of_heap (p := ⟨Bs, 0, none⟩) (hKs _ _ hnx).1).trans hBs
    by_cases hlt : k < len
    · obtain ⟨j, hj⟩ : ∃ j : Nat, j = len - 1 - k := ⟨_, rfl⟩
      have hji : (len : Int) - 1 - (k : Int) = (j : Int) := by omega
      have hjl : j < len := by omega
      obtain ⟨c0, c1, c2, c3, c4⟩ := hc j hjl
      have kc : ∀ o, wr.cell? ⟨b, o, none⟩ = W.cell? ⟨b, o, none⟩ := fun o => cell_of_heap (p := ⟨b, o, none⟩) (hKs _ _ hnx).2
      have c0' := (kc _).trans c0
      have c1' := (kc _).trans c1
      have c2' := (kc _).trans c2
      have c3' := (kc _).trans c3
      have c4' := (kc _).trans c4
      obtain ⟨fn, tmps, assign, body, hy, hR⟩ := hY _ (j, zs j) wr hJs (by rw [List.length_take, revN_len]; omega)
      simp only [stepV] at hy
      rw [hji]
      have X : Hid (j = len - 1 - k) := ⟨hj⟩
      clear hj hji c0 c1 c2 c3 c4 kc hc
      gi_wp2
      refine hR.mono ?_
      rintro e W3 (⟨rfl, hJ3, hk3⟩ | ⟨rfl, hJx3⟩)
      · gi_wp2
        have hj := X.out
        go_roundw
        case rel => exact ⟨k + 1, by omega, by simp; omega, by rw [revN_take hlt, ← hj]; exact hJ3, hKt _ _ _ hnx hk3⟩
        case measure => simp [intOf] <;> omega
      · gi_wp2
        have hj := X.out
        refine bodyPost_ret (results_none rfl _ _ _) rfl ?_
        exact ⟨⟨_, rfl⟩, .inr ⟨_, ⟨k + 1, by omega, rfl⟩, by rw [revN_take hlt, ← hj]; exact hJx3⟩⟩
    · obtain rfl : k = len := by omega
      rw [show (k : Int) - 1 - (k : Int) = -1 by omega]
      gi_wp2
      go_end0
      exact ⟨⟨_, rfl⟩, .inl ⟨_, rfl, by rw [List.take_of_length_le (by rw [revN_len]; omega)] at hJs; exact hJs⟩⟩
set_option maxRecDepth 100000 in
set_option maxHeartbeats 1000000 in
theorem back_nil (n : Nat) (hn : 1 ≤ n) (l Bs cap : Nat) (A : Option Addr) (J : World → Prop) (W : World) (hBs : W.cell? ⟨Bs, 0, none⟩ = some (.slice A 0 cap)) (h0 : J W) :
    CallsIn Fence.wide n Tryd.prog 73 #[.func (.yield l) #[] #[], .pointer (some ⟨Bs, 0, none⟩)] W fun e W' => (∃ v, e = .returned v) ∧ J W' := by
  have hro : Fence.wide.round = none := rfl
  have h73 : Fence.wide.fn 73 := trivial
  refine callsIn_of_wp Tryd.func73 rfl h73 ?_ hro
  simp only [Tryd.ntmps73, List.size_toArray, List.length_cons, List.length_nil, Nat.reduceAdd, Nat.reduceSub, Array.replicate_succ, Array.replicate_zero, List.push_toArray, List.append_toArray, List.nil_append, List.cons_append]
  gi_wp2
  gi_loopw [3] (fun i wr => i = .int .i64 (-1) ∧ J wr) (fun _ _ => 0)
  case atStart => exact ⟨by simp, h0⟩
  case round =>
    obtain ⟨rfl, hJs⟩ := hrel
    gi_wp2
    go_end0
    exact ⟨⟨_, rfl⟩, hJs⟩
set_option maxHeartbeats 1000000 in
theorem backward_in (n : Nat) (A : Option Addr) (len cap : Nat) (w : World) :
    CallsIn Fence.wide n Tryd.prog 56 #[.slice A len cap] w fun e w' => e = .returned (.func (.func 73) #[] #[.pointer (some ⟨w.heap.size, 0, none⟩)]) ∧ w' = w.alloc (.cells #[.slice A len cap] 29) := by
  have hro : Fence.wide.round = none := rfl
  have h56 : Fence.wide.fn 56 := trivial
  refine callsIn_of_wp Tryd.func56 rfl h56 ?_ hro
  simp only [Tryd.ntmps56, List.size_toArray, List.length_cons, List.length_nil, Nat.reduceAdd, Nat.reduceSub, Array.replicate_succ, Array.replicate_zero, List.push_toArray, List.append_toArray, List.nil_append, List.cons_append]
  gi_wp2
  go_ret
  exact ⟨rfl, rfl⟩
def encB (x : Nat × StepB) : Array Value := #[.int .i64 (x.1 : Int), stepV x.2.1]
/-- Where the steps' value lies. -/
def HoldsS (W : World) (A : Option Addr) (len : Nat) (zs : Nat → StepB) : Prop := len = 0 ∨ ∃ b off, A = some ⟨b, off, none⟩ ∧ b < W.heap.size ∧
  ∀ j, j < len → W.cell? ⟨b, off + j * 5, none⟩ = some (.string (zs j).1.Path) ∧ W.cell? ⟨b, off + j * 5 + 1, none⟩ = some (.string (zs j).1.Was) ∧ W.cell? ⟨b, off + j * 5 + 2, none⟩ = some (.bool (zs j).1.Had) ∧ W.cell? ⟨b, off + j * 5 + 3, none⟩ = some (.string (zs j).1.Is) ∧ W.cell? ⟨b, off + j * 5 + 4, none⟩ = some (.bool (zs j).1.Has)
theorem back_stops (n : Nat) (hn : 1 ≤ n) (Bs len cap : Nat) (A : Option Addr) (zs : Nat → StepB) (hlen : len ≤ 4294967296) (Kp : World → World → Prop) (hKr : ∀ A, Kp A A) (hKt : ∀ A B C, Kp A B → Kp B C → Kp A C)
    (w : World) (hKs : ∀ X Y, Kp X Y → Y.heap[Bs]? = X.heap[Bs]? ∧ ∀ a, A = some a → 0 < len → Y.heap[a.block]? = X.heap[a.block]?) (hBn : Bs < w.heap.size) (hBs : w.cell? ⟨Bs, 0, none⟩ = some (.slice A len cap)) (hH : HoldsS w A len zs) :
    SeqStopsK Fence.wide n Tryd.prog 73 #[.pointer (some ⟨Bs, 0, none⟩)] encB Kp (fun ys => ys = revN len zs) (fun pre => ∃ k, k ≤ len ∧ pre = (revN len zs).take k) len w := fun l J Jx W hW _ _ hY h0 => by
  have hBs' := (hW.cell (p := ⟨Bs, 0, none⟩) hBn).trans hBs
  rcases Nat.eq_zero_or_pos len with h | hpos
  · subst h
    exact (back_nil n hn l Bs cap A (J []) W hBs' h0).mono fun e W' ⟨he, hj⟩ => ⟨he, .inl ⟨_, by simp [revN], hj⟩⟩
  · obtain ⟨b, off, rfl, hb, hc⟩ := hH.resolve_left (by omega)
    exact back_in n hn l Bs b off len cap zs hlen Kp hKr hKt (fun X Y h => ⟨(hKs X Y h).1, (hKs X Y h).2 _ rfl hpos⟩) J Jx hY W hBs' (fun j hj => by
      obtain ⟨c0, c1, c2, c3, c4⟩ := hc j hj
      exact ⟨(hW.cell (p := ⟨b, _, none⟩) hb).trans c0, (hW.cell (p := ⟨b, _, none⟩) hb).trans c1, (hW.cell (p := ⟨b, _, none⟩) hb).trans c2, (hW.cell (p := ⟨b, _, none⟩) hb).trans c3, (hW.cell (p := ⟨b, _, none⟩) hb).trans c4⟩) h0
end Go.Av
end
section
set_option linter.unusedSimpArgs false
set_option linter.unusedVariables false
set_option maxRecDepth 100000
namespace Go.Av
/-! Steps done: the program and the reference alike. -/
def valB (h : Bool) (v : ByteArray) : Bool := if h = true then rng (v.size : Int) 1 40 else decide (v = (⟨#[]⟩ : ByteArray))
def stepB (y : GStep) : Bool := (valB y.Had y.Was && valB y.Has y.Is) && (pathB y.Path && !(decide (y.Was = y.Is) && (y.Had == y.Has)))
def doR (l : List GProp) (y : GStep) : List GProp × Bool :=
  if (stepB y && (((findR y.Path l).2 == y.Had) && decide ((findR y.Path l).1 = y.Was))) = true then (layR y.Path y.Is y.Has l, decide ((layR y.Path y.Is y.Has l).length ≤ 40)) else ([], false)
theorem isStep_eq (y : GStep) (h : okSt y) : p_impl_isStep y = some (stepB y) := by
  unfold p_impl_isStep p_impl_isStep_j0 p_impl_isPropValue stepB valB
  rw [implPath y.Path h.1]
  obtain ⟨p, w, a, i, b⟩ := y
  simp only [Option.bind_some]
  cases a <;> cases b <;> simp <;> (repeat' split) <;> simp_all
theorem layR_goodB {l : List GProp} {y : GStep} (hl : goodP l = true) (hy : stepB y = true) : goodP (layR y.Path y.Is y.Has l) = decide ((layR y.Path y.Is y.Has l).length ≤ 40) := by
  have hg := ((goodP_iff l).1 hl).2
  simp only [stepB, valB, Bool.and_eq_true] at hy
  have hgd : gdP (layR y.Path y.Is y.Has l) := layR_gd hg (fun h => ⟨hy.2.1, by have := hy.1.2; rwa [if_pos h] at this⟩)
  rw [Bool.eq_iff_iff, goodP_iff, decide_eq_true_eq]
  exact ⟨fun h => h.1, fun h => ⟨h, hgd⟩⟩
theorem path_ok {l : List GProp} {N : Nat} (h : goodP l = true) : l.length ≤ 40 ∧ Rise GProp.Path l := ⟨((goodP_iff l).1 h).1, ((goodP_iff l).1 h).2.1⟩
def okLp (l : List GProp) : Prop := goodP l = true ∧ ∀ x ∈ l, x.Path.size ≤ 1048576
theorem doR_ok {l : List GProp} {y : GStep} (hl : okLp l) (hy : okSt y) (h : (doR l y).2 = true) : okLp (doR l y).1 := by
  unfold doR at h ⊢
  split at h
  · rename_i c
    rw [if_pos c]
    simp only [Bool.and_eq_true] at c
    refine ⟨(layR_goodB hl.1 c.1).trans h, fun x hx => ?_⟩
    rcases layR_mem hx with ⟨_, rfl⟩ | hx
    · exact hy.1
    · exact hl.2 x hx
  · cases h
theorem done_eq (N : Nat) (l : List GProp) (y : GStep) (hl : okLp l) (hy : okSt y) (hN : 48 < N) : p_impl_Step_done N y l = some (doR l y) := by
  obtain ⟨g1, g2⟩ := (goodP_iff l).1 hl.1
  unfold p_impl_Step_done p_impl_Step_done_j0 doR
  rw [propAt_eq N l _ (by omega) g2.1 (by omega), Option.bind_some, isStep_eq y hy, Option.bind_some, laid_eq N l _ _ _ (by omega) g2.1 (by omega), Option.bind_some]
  have hlen := (layR_len y.Path y.Is y.Has l).1
  rw [implProps _ (by omega) (fun x hx => by
    rcases layR_mem hx with ⟨_, rfl⟩ | hx
    · exact hy.1
    · exact hl.2 x hx), Option.bind_some]
  cases hs : stepB y with
  | false => simp
  | true =>
    rw [layR_goodB hl.1 hs]
    cases h1 : ((findR y.Path l).2 == y.Had) with
    | false => simp
    | true =>
      by_cases h2 : (findR y.Path l).1 = y.Was
      · simp [h2]
      · simp [h2]
theorem do_eq (N : Nat) (l : List GProp) (y : GStep) (hl : okLp l) (hy : okSt y) (hN : 1048577 < N) : p_spec_l26Do N l y = some (doR l y) := by
  obtain ⟨g1, g2⟩ := (goodP_iff l).1 hl.1
  unfold p_spec_l26Do p_spec_l26Do_j0 p_spec_l26Do_j1 p_spec_l26Value doR
  rw [specPath N _ hy.1 (by have := hy.1; omega), Option.bind_some, find_eq, lay_eq l _ _ _ g2.1 (by omega)]
  have e : ∀ n : Nat, decide ((n : Int) ≤ 40) = decide (n ≤ 40) := fun n => decide_eq_decide.2 (by omega)
  simp only [Option.bind_some, e]
  generalize findR y.Path l = f
  obtain ⟨v, h⟩ := f
  obtain ⟨p, w, a, i, b⟩ := y
  simp only [stepB, valB]
  cases pathB p with
  | false => simp
  | true =>
    cases a <;> cases b <;> cases h <;> simp <;> (repeat' split) <;> simp_all
    rename_i hh
    exact absurd (hh.1.1.1.trans hh.1.1.2.symm) hh.1.2
/-- Steps done one after the other. -/
def chRun (of : GStep → GStep) : List GStep → List GProp → Option (List GProp)
  | [], l => some l
  | x :: r, l => if (doR l (of x)).2 = true then chRun of r (doR l (of x)).1 else none
def backR (y : GStep) : GStep := ⟨y.Path, y.Is, y.Has, y.Was, y.Had⟩
theorem okSt_back {y : GStep} (h : okSt y) : okSt (backR y) := ⟨h.1, h.2.2, h.2.1⟩
def goodEd (e : GEdited) : Bool := goodP e.Props && (((chRun backR e.Done.reverse e.Props).isSome && decide (e.Done.length ≤ 100)) && ((chRun id e.Back.reverse e.Props).isSome && decide (e.Back.length ≤ 100)))
theorem rev_take {l : List GStep} {j : Nat} (h : j < l.length) : (l.take (j + 1)).reverse = l[j] :: (l.take j).reverse := by
  rw [List.take_add_one, List.getElem?_eq_getElem h]; simp
theorem idxSt {l : List GStep} {j : Nat} (h : j < l.length) : idx l (j : Int) = some l[j] := by
  unfold idx; rw [if_pos (by omega), Int.toNat_natCast, List.getElem?_eq_getElem h]
theorem spec_l0 (N : Nat) (e : GEdited) (hd : e.Done.length ≤ 1048576) (hs : ∀ x ∈ e.Done, okSt x) (hN : 1048577 < N) : ∀ (j n : Nat) (l : List GProp), j ≤ e.Done.length → j + 1 < n → okLp l →
    ∃ l' k', p_spec_GoodEdited_l0 N e n l true ((j : Int) - 1) = some (l', (chRun backR (e.Done.take j).reverse l).isSome, k')
  | 0, n + 1, l, _, _, _ => by
    rw [p_spec_GoodEdited_l0, if_neg (by omega)]
    unfold p_spec_GoodEdited_j1
    rw [if_neg (by decide)]
    exact ⟨l, ((0 : Nat) : Int) - 1, rfl⟩
  | j + 1, n + 1, l, hj, hn, hl => by
    have hjl : j < e.Done.length := by omega
    have ho := okSt_back (hs _ (List.getElem_mem hjl))
    rw [p_spec_GoodEdited_l0, if_pos (by omega)]
    unfold p_spec_GoodEdited_j1
    rw [if_pos rfl, show ((j + 1 : Nat) : Int) - 1 = (j : Int) by omega, idxSt hjl, Option.bind_some]
    show ∃ l' k', ((some (backR e.Done[j])).bind _) = _
    rw [Option.bind_some, do_eq N l _ hl ho hN, Option.bind_some, rev_take hjl, chRun, show IntKind.i64.wrap ((j : Int) - 1) = (j : Int) - 1 from wI _ (by omega) (by omega)]
    cases hd2 : (doR l (backR e.Done[j])).2 with
    | true =>
      rw [if_pos rfl]
      exact spec_l0 N e hd hs hN j n _ (by omega) (by omega) (doR_ok hl ho hd2)
    | false =>
      rw [if_neg (by decide)]
      match n, hn with
      | n + 1, _ =>
        rw [p_spec_GoodEdited_l0]
        unfold p_spec_GoodEdited_j1
        simp only [Bool.false_eq_true, if_false, ite_self]
        exact ⟨_, _, rfl⟩
theorem spec_l1 (N : Nat) (e : GEdited) (hd : e.Back.length ≤ 1048576) (hs : ∀ x ∈ e.Back, okSt x) (hN : 1048577 < N) : ∀ (j n : Nat) (l : List GProp), j ≤ e.Back.length → j + 1 < n → okLp l →
    ∃ l' k', p_spec_GoodEdited_l1 N e n l true ((j : Int) - 1) = some (l', (chRun id (e.Back.take j).reverse l).isSome, k')
  | 0, n + 1, l, _, _, _ => by
    rw [p_spec_GoodEdited_l1, if_neg (by omega)]
    unfold p_spec_GoodEdited_j2
    rw [if_neg (by decide)]
    exact ⟨l, ((0 : Nat) : Int) - 1, rfl⟩
  | j + 1, n + 1, l, hj, hn, hl => by
    have hjl : j < e.Back.length := by omega
    have ho := hs _ (List.getElem_mem hjl)
    rw [p_spec_GoodEdited_l1, if_pos (by omega)]
    unfold p_spec_GoodEdited_j2
    rw [if_pos rfl, show ((j + 1 : Nat) : Int) - 1 = (j : Int) by omega, idxSt hjl, Option.bind_some, do_eq N l _ hl ho hN, Option.bind_some, rev_take hjl, chRun, show IntKind.i64.wrap ((j : Int) - 1) = (j : Int) - 1 from wI _ (by omega) (by omega)]
    show ∃ l' k', _ = some (l', (if (doR l e.Back[j]).2 = true then chRun id (e.Back.take j).reverse (doR l e.Back[j]).1 else none).isSome, k')
    cases hd2 : (doR l e.Back[j]).2 with
    | true =>
      rw [if_pos rfl]
      exact spec_l1 N e hd hs hN j n _ (by omega) (by omega) (doR_ok hl ho hd2)
    | false =>
      rw [if_neg (by decide)]
      match n, hn with
      | n + 1, _ =>
        rw [p_spec_GoodEdited_l1]
        unfold p_spec_GoodEdited_j2
        simp only [Bool.false_eq_true, if_false, ite_self]
        exact ⟨_, _, rfl⟩
theorem specEd (N : Nat) (e : GEdited) (hp : e.Props.length ≤ 1048576) (hps : ∀ x ∈ e.Props, x.Path.size ≤ 1048576) (hd : e.Done.length ≤ 1048576) (hds : ∀ x ∈ e.Done, okSt x) (hb : e.Back.length ≤ 1048576) (hbs : ∀ x ∈ e.Back, okSt x) (hN : 1048577 < N) : p_spec_GoodEdited N e = some (goodEd e) := by
  unfold p_spec_GoodEdited p_spec_GoodEdited_j0 goodEd
  rw [specProps N _ hp hps (fun x hx => by have := hps x hx; omega), Option.bind_some]
  cases hg : goodP e.Props with
  | false => simp
  | true =>
    simp only [if_true, Bool.true_and]
    by_cases c1 : (e.Done.length : Int) > 100
    · rw [if_pos c1]
      simp [show ¬ e.Done.length ≤ 100 by omega]
    · rw [if_neg c1]
      by_cases c2 : (e.Back.length : Int) > 100
      · simp [c2, show ¬ e.Back.length ≤ 100 by omega]
      · rw [show decide ((e.Back.length : Int) > 100) = false from decide_eq_false c2, if_neg (by decide), show IntKind.i64.wrap ((e.Done.length : Int) - 1) = (e.Done.length : Int) - 1 from wI _ (by omega) (by omega), show IntKind.i64.wrap ((e.Back.length : Int) - 1) = (e.Back.length : Int) - 1 from wI _ (by omega) (by omega)]
        obtain ⟨l', k', h1⟩ := spec_l0 N e hd hds hN e.Done.length N e.Props (Nat.le_refl _) (by omega) ⟨hg, hps⟩
        rw [h1, Option.bind_some, List.take_length]
        cases h2 : (chRun backR e.Done.reverse e.Props).isSome with
        | false => simp
        | true =>
          simp only [if_true]
          obtain ⟨l2, k2, h3⟩ := spec_l1 N e hb hbs hN e.Back.length N e.Props (Nat.le_refl _) (by omega) ⟨hg, hps⟩
          rw [h3, Option.bind_some, List.take_length]
          simp [show e.Done.length ≤ 100 by omega, show e.Back.length ≤ 100 by omega]
end Go.Av
end
section
set_option linter.unusedSimpArgs false
set_option linter.unusedVariables false
set_option maxRecDepth 100000
set_option maxHeartbeats 1000000
/-! A round of impl.chain. -/
namespace Go.Av
open Go.Proofs
/-- The code that a range over a function repeats. -/
def rfBody : Code → Option Code
  | .rangeFunc _ _ _ b => some b
  | .seq x y => (rfBody x).or (rfBody y)
  | .block _ c => rfBody c
  | _ => none
/-- The code of a round. -/
noncomputable def chainBody : Code := (Tryd.f31.body.bind rfBody).getD .skip
theorem chainBody_run {id : Nat} {c : Code} (h : chainBody = .block id c) {E : Env} {l : Nat} {K : AX → ASt → Prop} {s : ASt} (hc : AWPR E l c (blockK id K) s) : AWPR E l chainBody K s := h ▸ AWPR.block hc
/-- How a round ends, where the step's doing gives d. -/
def Kc (d : List GProp × Bool) : AX → ASt → Prop
  | .nm, s => d.2 = true ∧ s.m 1000 = some (.box true [.row false 2 d.1.length (esProp d.1)]) ∧ s.m 1001 = some (.box true [B false])
  | .rt, s => d.2 = false ∧ s.m 1001 = some (.box true [B false])
  | _, _ => False
theorem chain_body {G0 X : Nat → Prop} {w0 : World} {pv : Nat → Option Value} {l : Nat} {s : ASt} {x y : GStep} {lc : List GProp} {f1 : FuncId} {d : List GProp × Bool} {N : Nat} (hn1 : ¬ f1 = 999999) (he1 : entB Tryd.prog f1 = true) (hof : Does Tryd.prog f1 [.agg (eStep x)] (.agg (eStep y))) (hd : p_impl_Step_done N y lc = some d)
    (h3 : s.t 3 = .ptr 1000 [] 0) (h5 : s.t 5 = .box false [.fn f1 []]) (h6 : s.t 6 = .ptr 1001 [] 0) (h8 : s.t 8 = .box false [S x.Path, S x.Was, B x.Had, S x.Is, B x.Has]) (m0 : s.m 1000 = some (.box true [.row false 2 lc.length (esProp lc)])) (m1 : s.m 1001 = some (.box true [B false])) :
    AWPR ⟨Tryd.prog, G0, X, w0, 29, pv⟩ l chainBody (Kc d) s := by
  have k0 : nzT Tryd.prog 49 = [none] := by kernel_rfl
  have k1 : ldA Tryd.prog 49 = false := by kernel_rfl
  have k2 : ldS Tryd.prog 49 = true := by kernel_rfl
  have k3 : szT Tryd.prog 49 = some 1 := by kernel_rfl
  have k4 : szN Tryd.prog 49 = 1 := by kernel_rfl
  have hm : Tryd.prog.follows .mixedOrders = true := by kernel_rfl
  refine chainBody_run rfl (AWPR.seq (aw_drawnR (by decide) hm [[], [], [0, 1], [], [0, 1, 2, 3], [0, 1, 2, 3, 4], [0, 1, 2, 3, 4, 5], [0, 1, 2, 3, 4, 5], [0, 1, 2, 3, 4, 5, 6], [0, 1, 2, 3, 4, 5, 6, 7, 8]] 10 ?_ ?_)); (· kernel_rfl)
  have ff := And.intro @hn1 (And.intro @h3 (And.intro @h5 (And.intro @h6 (And.intro @h8 (And.intro @m0 (And.intro @m1 (And.intro @k0 (And.intro @k1 (And.intro @k2 (And.intro @k3 (And.intro @k4 (And.intro (@eStep_eq) (And.intro (@eProp_eq) (And.intro (@esProp_len) (And.intro (@esProp_share) (And.intro (@esProp_pure) (And.intro (@esProp_leaf) (And.intro (@esProp_fit) (And.intro @Ty.nz48 (And.intro @Ty.ldA48 (And.intro @Ty.sz48 (And.intro @Ty.szn48 (And.intro @Ty.nz28 (And.intro @Ty.ldA28 (And.intro @Ty.ldS28 (And.intro @Ty.sz28 (And.intro @Ty.szn28 (And.intro @Ty.nz4 (And.intro @Ty.ldA4 (And.intro @Ty.ldS4 (And.intro @Ty.sz4 (And.intro @Ty.szn4 (And.intro @Ty.sl29 (And.intro @Ty.zv4 (And.intro @Ty.zv48 (And.intro @Ty.ag4 (And.intro @Ty.sl28 @Ty.slz28)))))))))))))))))))))))))))))))))))))
  refine st_by ff ?_

  refine cq_dcall hof ?_ he1 ⟨?_, ?_⟩
  · first | exact cl_by ff | (refine ca_by ff ?_; rfl) | (refine sa_by ff ?_; rfl) | (refine st_by ff ?_; rfl)
  · first | exact ca_by ff | (refine sa_by ff ?_; repeat' (first | exact trivial | apply And.intro | rfl))
  refine st_by ff ?_
  refine cq_dcall (p_impl_Step_done_does N y lc d hd) (hf_by ff) kr ⟨?_, ?_⟩
  · first | exact ca_by ff | (refine sa_by ff ?_; repeat' (first | exact trivial | apply And.intro | rfl))
  refine st_by ff ?_
  refine awR_sound (by kernel_rfl) ?_
  obtain ⟨d1, d2⟩ := d
  cases d2 with
  | true =>
    refine st_by ff ?_
    refine ⟨rfl, ?_, ?_⟩
    · exact ca_by ff
    · exact ca_by ff
  | false =>
    refine st_by ff ?_
    refine ⟨rfl, ?_⟩
    exact ca_by ff
end Go.Av
end
section
set_option linter.unusedSimpArgs false
set_option linter.unusedVariables false
/-! impl.chain: a range over slices.Backward, whose rounds call. -/
namespace Go.Av
open Go.RowKit Go.Shelf Go.Proofs
attribute [local go_sem] Oper.semAt_some
/-- What a step's doing gives. -/
def doneG (N : Nat) (l : List GProp) (y : GStep) : List GProp × Bool := (p_impl_Step_done N y l).getD ([], false)
/-- Steps done one after the other; none where one can't be. -/
def chL (N : Nat) (of : GStep → GStep) : List GStep → List GProp → Option (List GProp)
  | [], l => some l
  | x :: r, l => if (doneG N l (of x)).2 = true then chL N of r (doneG N l (of x)).1 else none
theorem chL_app (N : Nat) (of : GStep → GStep) : ∀ (a b : List GStep) (l : List GProp), chL N of (a ++ b) l = (chL N of a l).bind fun m => chL N of b m
  | [], b, l => rfl
  | x :: a, b, l => by
    rw [List.cons_append, chL, chL]
    split
    · exact chL_app N of a b _
    · rfl
def chainB (N : Nat) (of : GStep → GStep) (l : List GProp) (steps : List GStep) : Bool := (chL N of steps.reverse l).isSome && decide (steps.length ≤ 100)
/-- Blocks that are cells. -/
def IsC (W : World) (x : Nat) : Prop := ∃ C e fr, W.heap[x]? = some (.cells C e fr)
theorem VR.cells {w : World} {G : Nat → Prop} {m : Nat → Option HT} {a : AV} {v : Value} (h : VR w G m a v) : VR w (fun x => G x ∧ IsC w x) m a v := by
  induction h with
  | lit v => exact .lit v
  | junk v => exact .junk v
  | row0 sz A c => exact .row0 sz A c
  | row sz n c b off cs us C e fr h1 h2 h3 h4 h5 h6 h7 _ ih => exact .row sz n c b off cs us C e fr ⟨h1, _, _, _, h2⟩ h2 h3 h4 h5 h6 h7 ih
  | box b off cs us C e fr h1 h2 h6 h7 _ ih => exact .box b off cs us C e fr ⟨h1, _, _, _, h2⟩ h2 h6 h7 ih
  | agg cs us hl _ ih => exact .agg cs us hl ih
  | tup cs us hl _ ih => exact .tup cs us hl ih
  | fn f cs us hl _ ih => exact .fn f cs us hl ih
  | sl r p off len v h h0 => exact .sl r p off len v h h0
  | ptr r p o v h h' => exact .ptr r p o v h h'
theorem VR.slice {w : World} {G : Nat → Prop} {m : Nat → Option HT} {sz n : Nat} {cs : List AV} {v : Value} (h : VR w G m (.row false sz n cs) v) : ∃ A c, v = .slice A n c := by
  cases h with
  | row0 => exact ⟨_, _, rfl⟩
  | row => exact ⟨_, _, rfl⟩
theorem grown_cells {W W' : World} {row : Option Nat} {B x : Nat} (hg : W.grownBy W' row) (hr : ∀ r, row = some r → B ≤ r ∧ ∃ o : Obj, W.heap[r]? = some o ∧ o.isCells = false) {C : Array Value} {e : TypeId} {fr : Nat × Nat} (h : W.heap[x]? = some (.cells C e fr)) : W'.heap[x]? = some (.cells C e fr) := by
  refine (hg.block x (Array.getElem?_eq_some_iff.1 h).1 ?_).trans h
  intro hx
  obtain ⟨_, o, h1, h2⟩ := hr x hx.symm
  rw [h] at h1; cases h1; cases h2
/-- What holds ahead of each round. -/
structure ChI (G0 : Nat → Prop) (w : World) (f1 : FuncId) (lc : List GProp) (W : World) : Prop where
  l : ∃ v e G, VR W G none_ (.row false 2 lc.length (esProp lc)) v ∧ (∀ x, G x → x < W.heap.size ∧ (G0 x ∨ x = w.heap.size + 1 ∨ w.heap.size + 4 ≤ x) ∧ IsC W x) ∧ W.heap[w.heap.size]? = some (.cells #[v] e (0, 0))
  r : ∃ e, W.heap[w.heap.size + 2]? = some (.cells #[.bool false] e (0, 0))
  f : ∃ e, W.heap[w.heap.size + 1]? = some (.cells #[.func (.func f1) #[] #[]] e (0, 0))
  b : Below w.heap.size w W
  s : w.heap.size + 4 ≤ W.heap.size
theorem ChI.grown {G0 : Nat → Prop} {w : World} {f1 : FuncId} {lc : List GProp} {W W' : World} {row : Option Nat} (h : ChI G0 w f1 lc W) (hg : W.grownBy W' row) (hr : ∀ r, row = some r → w.heap.size + 4 ≤ r ∧ ∃ o : Obj, W.heap[r]? = some o ∧ o.isCells = false) : ChI G0 w f1 lc W' := by
  obtain ⟨⟨v, e, G, h1, h2, h3⟩, ⟨e2, h4⟩, ⟨e3, h5⟩, h6, h7⟩ := h
  refine ⟨⟨v, e, G, h1.congr (fun b hb => ?_) (fun _ h => h), fun x hx => ?_, grown_cells hg hr h3⟩, ⟨e2, grown_cells hg hr h4⟩, ⟨e3, grown_cells hg hr h5⟩, ?_, Nat.le_trans h7 hg.size⟩
  · obtain ⟨_, _, C, e, fr, hc⟩ := h2 b hb
    exact (grown_cells hg hr hc).trans hc.symm
  · obtain ⟨a1, a2, C, e, fr, hc⟩ := h2 x hx
    exact ⟨Nat.lt_of_lt_of_le a1 hg.size, a2, C, e, fr, grown_cells hg hr hc⟩
  · exact h6.grown hg (by omega) (fun k hk => by have := (hr k hk).1; omega)
end Go.Av
end
section
set_option linter.unusedSimpArgs false
set_option linter.unusedVariables false
/-! impl.chain: a round, in the world. -/
namespace Go.Av
open Go.RowKit Go.Shelf Go.Proofs
theorem box_back {E : Env} {M : Nat → Option HT} {G : Nat → Prop} {s : ASt} {a : Act} {w : World} (h : RelX E M G s a w) {r b : Nat} {x : AV} (hm : s.m r = some (.box true [x])) (hp : E.pv r = some (.pointer (some ⟨b, 0, none⟩))) (hx : x.leafOk = true) :
    ∃ v e, w.heap[b]? = some (.cells #[v] e (0, 0)) ∧ VR w G none_ x v := by
  obtain ⟨_, T, hT, hv⟩ := h.pv r _ hp
  have he := h.er r
  rw [hm, hT] at he
  simp only [Option.map_some, Option.some.injEq] at he
  have hs := h.sat r T hT
  cases hs with
  | leaf a v ha _ => simp only [HT.erase] at he; subst he; simp [AV.leafOk] at ha
  | row => simp [HT.erase] at he
  | nilrow => simp [HT.erase] at he
  | agg => simp [HT.erase] at he
  | tup => simp [HT.erase] at he
  | box b' cs C e hb hn hu hk =>
    simp only [HT.value, Value.pointer.injEq, Option.some.injEq, Addr.mk.injEq, and_true] at hv
    subst hv
    simp only [HT.erase, AV.box.injEq, true_and] at he
    match cs, he with
    | [], he => simp [HT.erases] at he
    | _ :: _ :: _, he => simp [HT.erases] at he
    | [c], he =>
      simp only [HT.erases, List.cons.injEq, and_true] at he
      subst he
      have h0 := hu 0 c rfl
      have hC : C = #[c.value] := by
        apply Array.ext
        · simpa using hn.symm
        · intro i h1 h2
          have : i = 0 := by simp at h2; omega
          subst this
          simpa [Array.getElem?_eq_getElem h1] using h0
      refine ⟨c.value, e, by rw [hb, hC], ?_⟩
      cases hk 0 c rfl with
      | leaf a v ha h => exact h
      | row => simp [HT.erase, AV.leafOk] at hx
      | nilrow => simp [HT.erase, AV.leafOk] at hx
      | agg => simp [HT.erase, AV.leafOk] at hx
      | tup => simp [HT.erase, AV.leafOk] at hx
      | box => simp [HT.erase, AV.leafOk] at hx
/-- How a round ends. -/
def chPost (G0 : Nat → Prop) (w : World) (f1 : FuncId) (d : List GProp × Bool) (W : World) : Exit → Act → World → Prop
  | .normal, _, W' => (∀ k, k < W.heap.size → k ≠ w.heap.size → k ≠ w.heap.size + 2 → W'.heap[k]? = W.heap[k]?) ∧ W.heap.size ≤ W'.heap.size ∧ d.2 = true ∧ ChI G0 w f1 d.1 W'
  | .ret, _, W' => (∀ k, k < W.heap.size → k ≠ w.heap.size → k ≠ w.heap.size + 2 → W'.heap[k]? = W.heap[k]?) ∧ W.heap.size ≤ W'.heap.size ∧ d.2 = false ∧ (∃ e, W'.heap[w.heap.size + 2]? = some (.cells #[.bool false] e (0, 0))) ∧ Below w.heap.size w W'
  | _, _, _ => False
def chPv (w : World) (r : Nat) : Option Value := if r = 1000 then some (.pointer (some ⟨w.heap.size, 0, none⟩)) else if r = 1001 then some (.pointer (some ⟨w.heap.size + 2, 0, none⟩)) else none
def chM (w : World) (lc : List GProp) (v : Value) (r : Nat) : Option HT := if r = 1000 then some (.box w.heap.size [.leaf (.row false 2 lc.length (esProp lc)) v]) else if r = 1001 then some (.box (w.heap.size + 2) [.leaf (.lit (.bool false)) (.bool false)]) else none
def chS (w : World) (lc : List GProp) (v : Value) (f1 : FuncId) (x : GStep) : ASt := ⟨fun i => if i = 3 then .ptr 1000 [] 0 else if i = 5 then .box false [.fn f1 []] else if i = 6 then .ptr 1001 [] 0 else if i = 8 then .box false [S x.Path, S x.Was, B x.Had, S x.Is, B x.Has] else .junk, fun r => (chM w lc v r).map HT.erase⟩
theorem chain_round {G0 : Nat → Prop} {w W : World} {f1 : FuncId} {l n : Nat} {x y : GStep} {lc : List GProp} {d : List GProp × Bool} {N : Nat} (hn1 : ¬ f1 = 999999) (he1 : entB Tryd.prog f1 = true) (hof : Does Tryd.prog f1 [.agg (eStep x)] (.agg (eStep y))) (hd : p_impl_Step_done N y lc = some d)
    (hG : ∀ x, G0 x → x < w.heap.size) (hI : ChI G0 w f1 lc W) {Bx : Nat} (hB1 : w.heap.size + 4 ≤ Bx) (hBx : ∃ e, W.heap[Bx]? = some (.cells #[.string x.Path, .string x.Was, .bool x.Had, .string x.Is, .bool x.Has] e (0, 0)))
    {a : Act} (hnt : a.tmps.size = 29) (hdf : a.defers = []) (h3 : a.tmps.getD 3 undef = .pointer (some ⟨w.heap.size, 0, none⟩)) (h5 : a.tmps.getD 5 undef = .pointer (some ⟨w.heap.size + 1, 0, none⟩)) (h6 : a.tmps.getD 6 undef = .pointer (some ⟨w.heap.size + 2, 0, none⟩)) (h8 : a.tmps.getD 8 undef = .pointer (some ⟨Bx, 0, none⟩)) :
    chainBody.wpIn (Fence.wide.inRound l) n Tryd.prog (chPost G0 w f1 d W) a W := by
  obtain ⟨⟨v, e1, G, hv, hg, hc1⟩, ⟨e2, hc2⟩, ⟨e3, hc3⟩, hbl, hsz⟩ := hI
  obtain ⟨e4, hc4⟩ := hBx
  have hBs : Bx < W.heap.size := (Array.getElem?_eq_some_iff.1 hc4).1
  let Gx : Nat → Prop := fun x => G x ∧ x ≠ w.heap.size ∧ x ≠ w.heap.size + 2 ∨ G0 x ∧ x < w.heap.size ∨ x = w.heap.size + 1 ∨ x = Bx
  let X : Nat → Prop := fun x => x = w.heap.size ∨ x = w.heap.size + 2
  have hgx : ∀ x, G x → Gx x := fun x h => .inl ⟨h, by rcases (hg x h).2.1 with h | h | h <;> first | omega | (have := hG x h; omega), by rcases (hg x h).2.1 with h | h | h <;> first | omega | (have := hG x h; omega)⟩
  have hv' : VR W Gx none_ (.row false 2 lc.length (esProp lc)) v := hv.congr (fun _ _ => rfl) hgx
  let E : Env := ⟨Tryd.prog, Gx, X, W, 29, chPv w⟩
  have hX : RelX E (chM w lc v) Gx (chS w lc v f1 x) a W := by
    refine ⟨fun r => rfl, fun r T hT => ?_, fun r T hT => ?_, fun r r' T T' hne hT hT' x hx hx' => ?_, fun r T hT x hx => ?_, fun x hx => ?_, fun x hx => hx, fun i => ?_, Ext.refl _ _, hdf, hnt, by show 29 ≤ 1000; decide, fun r v' hv' => ?_⟩
    · unfold chM at hT
      split at hT
      · cases hT
        exact .box _ _ _ e1 hc1 rfl (fun i T hi => by match i with | 0 => simp at hi; subst hi; rfl | i + 1 => simp at hi) (fun i T hi => by match i with | 0 => simp at hi; subst hi; exact .leaf _ _ rfl hv' | i + 1 => simp at hi)
      · split at hT
        · cases hT
          exact .box _ _ _ e2 hc2 rfl (fun i T hi => by match i with | 0 => simp at hi; subst hi; rfl | i + 1 => simp at hi) (fun i T hi => by match i with | 0 => simp at hi; subst hi; exact .leaf _ _ rfl (.lit _) | i + 1 => simp at hi)
        · cases hT
    · unfold chM at hT
      split at hT
      · cases hT; simp [HT.blocks, HT.blockss]
      · split at hT
        · cases hT; simp [HT.blocks, HT.blockss]
        · cases hT
    · unfold chM at hT hT'
      split at hT
      · cases hT
        split at hT'
        · omega
        · split at hT'
          · cases hT'; simp [HT.blocks, HT.blockss] at hx hx'; omega
          · cases hT'
      · split at hT
        · cases hT
          split at hT'
          · cases hT'; simp [HT.blocks, HT.blockss] at hx hx'; omega
          · split at hT'
            · omega
            · cases hT'
        · cases hT
    · unfold chM at hT
      split at hT
      · cases hT
        simp [HT.blocks, HT.blockss] at hx
        subst hx
        exact ⟨by omega, fun h => by rcases h with h | h | h | h <;> omega, .inr (.inl rfl)⟩
      · split at hT
        · cases hT
          simp [HT.blocks, HT.blockss] at hx
          subst hx
          exact ⟨by omega, fun h => by rcases h with h | h | h | h <;> omega, .inr (.inr rfl)⟩
        · cases hT
    · refine ⟨?_, .inl hx⟩
      rcases hx with h | h | h | h
      · exact (hg x h.1).1
      · omega
      · omega
      · omega
    · show VR W Gx _ (if i = 3 then _ else _) _
      split
      · rename_i e; subst e; rw [h3]
        exact .ptr _ _ _ _ (fun T hT b sz n cap cs hh => by simp [chM] at hT; subst hT; simp [HT.at_] at hh) (fun T hT b cs hh => by simp [chM] at hT; subst hT; simp [HT.at_] at hh; rw [hh.1])
      · split
        · rename_i e; subst e; rw [h5]
          exact .box _ _ _ (fun _ => .func (.func f1) #[] #[]) _ e3 (0, 0) (.inr (.inr (.inl rfl))) hc3 (fun i hi => by simp at hi; subst hi; rfl) (fun a ha => by simp at ha; subst ha; rfl) (fun i a hi => by match i with | 0 => simp at hi; subst hi; exact .fn f1 [] [] rfl (fun i a u x y => by simp at x) | i + 1 => simp at hi)
        · split
          · rename_i e; subst e; rw [h6]
            exact .ptr _ _ _ _ (fun T hT b sz n cap cs hh => by simp [chM] at hT; subst hT; simp [HT.at_] at hh) (fun T hT b cs hh => by simp [chM] at hT; subst hT; simp [HT.at_] at hh; rw [hh.1])
          · split
            · rename_i e; subst e; rw [h8]
              exact .box _ _ _ (fun i => (#[Value.string x.Path, .string x.Was, .bool x.Had, .string x.Is, .bool x.Has][i]?).getD undef) _ e4 (0, 0) (.inr (.inr (.inr rfl))) hc4 (fun i hi => by simp only [List.length_cons, List.length_nil] at hi; match i, hi with | 0, _ => rfl | 1, _ => rfl | 2, _ => rfl | 3, _ => rfl | 4, _ => rfl) (fun a ha => by simp at ha; rcases ha with h | h | h | h | h <;> (subst h; rfl)) (fun i a hi => by match i with | 0 | 1 | 2 | 3 | 4 => (simp at hi; subst hi; exact .lit _) | i + 5 => simp at hi)
            · exact .junk _
    · simp only [E, chPv] at hv'
      split at hv'
      · rename_i e; subst e; cases hv'; exact ⟨by omega, _, rfl, rfl⟩
      · split at hv'
        · rename_i e; subst e; cases hv'; exact ⟨by omega, _, rfl, rfl⟩
        · cases hv'
  have hb := chain_body (G0 := Gx) (X := X) (w0 := W) (pv := chPv w) (l := l) (s := chS w lc v f1 x) hn1 he1 hof hd rfl rfl rfl rfl rfl rfl n a W ⟨_, _, hX⟩
  refine wpIn_mono hb ?_
  rintro ex a' W' hp
  have keep : ∀ {s : ASt} {M' G'}, RelX E M' G' s a' W' → (∀ k, k < W.heap.size → k ≠ w.heap.size → k ≠ w.heap.size + 2 → W'.heap[k]? = W.heap[k]?) ∧ W.heap.size ≤ W'.heap.size ∧ Below w.heap.size w W' := fun hr =>
    ⟨fun k hk h1 h2 => hr.ext.block k hk (fun h => by rcases h with h | h <;> omega), hr.ext.size, hbl.trans ⟨hr.ext.os, hr.ext.tape, hr.ext.output, hr.ext.size, fun k hk => hr.ext.block k (by show k < W.heap.size; omega) (fun h => by rcases h with h | h <;> omega)⟩⟩
  cases ex with
  | normal =>
    obtain ⟨s', ⟨M', G', hr⟩, hd2, hm0, hm1⟩ := hp
    obtain ⟨k1, k2, k3⟩ := keep hr
    obtain ⟨v', e', hc', hvr⟩ := box_back hr hm0 (b := w.heap.size) rfl rfl
    obtain ⟨u', e2', hc2', hvu⟩ := box_back hr hm1 (b := w.heap.size + 2) rfl rfl
    cases hvu
    refine ⟨k1, k2, hd2, ⟨v', e', _, hvr.cells, fun x hx => ?_, hc'⟩, ⟨e2', hc2'⟩, ⟨e3, (k1 _ (by omega) (by omega) (by omega)).trans hc3⟩, k3, by omega⟩
    obtain ⟨g1, g2⟩ := hr.gd x hx.1
    refine ⟨g1, ?_, hx.2⟩
    rcases g2 with g2 | g2
    · rcases g2 with g2 | g2 | g2 | g2
      · exact (hg x g2.1).2.1
      · exact .inl g2.1
      · exact .inr (.inl g2)
      · exact .inr (.inr (by omega))
    · exact .inr (.inr (Nat.le_trans hsz g2))
  | ret =>
    obtain ⟨s', ⟨M', G', hr⟩, hd2, hm1⟩ := hp
    obtain ⟨k1, k2, k3⟩ := keep hr
    obtain ⟨u', e2', hc2', hvu⟩ := box_back hr hm1 (b := w.heap.size + 2) rfl rfl
    cases hvu
    exact ⟨k1, k2, hd2, ⟨e2', hc2'⟩, k3⟩
  | exit id => obtain ⟨s', _, h⟩ := hp; exact h.elim
  | _ => exact hp.elim
end Go.Av
end
section
set_option linter.unusedSimpArgs false
set_option linter.unusedVariables false
/-! impl.chain: its contract. -/
namespace Go.Av
open Go.RowKit Go.Shelf Go.Proofs
attribute [local go_sem] Oper.semAt_some
def zsOf (steps : List GStep) (h : ∀ x ∈ steps, okSt x) (j : Nat) : StepB := if e : j < steps.length then ⟨steps[j], h _ (List.getElem_mem e)⟩ else ⟨⟨.empty, .empty, false, .empty, false⟩, by refine ⟨?_, ?_, ?_⟩ <;> decide⟩
theorem revN_rev (steps : List GStep) (h : ∀ x ∈ steps, okSt x) : (revN steps.length (zsOf steps h)).map (fun p => p.2.1) = steps.reverse := by
  rw [revN, List.map_map, List.map_reverse]
  congr 1
  apply List.ext_getElem
  · simp
  · intro i h1 h2
    simp only [List.getElem_map, List.getElem_range, Function.comp_apply, zsOf]
    rw [dif_pos h2]
theorem holds_of {w : World} {G : Nat → Prop} {steps : List GStep} {v : Value} {A : Option Addr} {c : Nat} (hG : ∀ x, G x → x < w.heap.size) (h : ∀ x ∈ steps, okSt x) (hv : VR w G none_ (.row false 5 steps.length (esStep steps)) v) (e : v = .slice A steps.length c) {W : World} (hW : Below w.heap.size w W) : HoldsS W A steps.length (zsOf steps h) := by
  subst e
  generalize hn : steps.length = n at hv ⊢
  generalize hcs : esStep steps = cs at hv
  cases hv with
  | row0 => exact .inl rfl
  | row _ _ _ b off _ us C e fr h1 h2 h3 h4 h5 h6 h7 h8 =>
    refine .inr ⟨b, off, rfl, Nat.lt_of_lt_of_le (hG b h1) hW.size, fun j hj => ?_⟩
    subst hn; subst hcs
    have hb : W.heap[b]? = some (.cells C e fr) := (hW.block b (hG b h1)).trans h2
    have key : ∀ k x, k < 5 → (esStep steps)[j * 5 + k]? = some (.lit x) → W.cell? ⟨b, off + (j * 5 + k), none⟩ = some x := fun k x hk hx => by
      have hlt : j * 5 + k < (esStep steps).length := (List.getElem?_eq_some_iff.1 hx).1
      have hu := h8 _ _ hx
      have hC := h6 _ hlt
      generalize us (j * 5 + k) = u at hu hC
      cases hu
      simp [World.cell?, hb, hC]
    have e0 : (zsOf steps h j).1 = steps[j] := by simp [zsOf, hj]
    rw [e0]
    refine ⟨?_, ?_, ?_, ?_, ?_⟩
    · exact key 0 _ (by omega) (esStep_get_Path steps j hj)
    · exact key 1 _ (by omega) (esStep_get_Was steps j hj)
    · exact key 2 _ (by omega) (esStep_get_Had steps j hj)
    · exact key 3 _ (by omega) (esStep_get_Is steps j hj)
    · exact key 4 _ (by omega) (esStep_get_Has steps j hj)
end Go.Av
end
section
set_option linter.unusedSimpArgs false
set_option linter.unusedVariables false
/-! impl.chain: its contract. -/
namespace Go.Av
open Go.RowKit Go.Shelf Go.Proofs
attribute [local go_sem] Oper.semAt_some
set_option maxRecDepth 100000 in
set_option maxHeartbeats 2000000 in
theorem chain_raw (N : Nat) (of : GStep → GStep) (f1 : FuncId) (A0 A1 : Option Addr) (n0 c0 c1 : Nat) (w : World) (R : Ending → World → Prop) (G0 : Nat → Prop) (hG : ∀ x, G0 x → x < w.heap.size)
    (hn1 : ¬ f1 = 999999) (he1 : entB Tryd.prog f1 = true) (okL : List GProp → Prop)
    (hT : ∀ l y, okL l → okSt y → p_impl_Step_done N y l = some (doneG N l y) ∧ ((doneG N l y).2 = true → okL (doneG N l y).1))
    (hof : ∀ x, okSt x → okSt (of x) ∧ Does Tryd.prog f1 [.agg (eStep x)] (.agg (eStep (of x))))
    (l : List GProp) (hl : okL l) (steps : List GStep) (hs : ∀ x ∈ steps, okSt x) (hlen : steps.length ≤ 4294967296)
    (hv0 : VR w G0 none_ (.row false 2 l.length (esProp l)) (.slice A0 n0 c0)) (hv1 : VR w G0 none_ (.row false 5 steps.length (esStep steps)) (.slice A1 steps.length c1))
    (hR : ∀ w', Below w.heap.size w w' → R (.returned (.bool (chainB N of l steps))) w') :
    Calls Tryd.prog 31 #[.slice A0 n0 c0, .slice A1 steps.length c1, .func (.func f1) #[] #[]] w R := by
  refine callsIn_wide (n := 9).1 ?_
  have hro : Fence.wide.round = none := rfl
  have h31 : Fence.wide.fn 31 := trivial
  refine callsIn_of_wp_marks Tryd.func31 rfl h31 ?_ hro
  simp only [Tryd.ntmps31, List.size_toArray, List.length_cons, List.length_nil, Nat.reduceAdd, Nat.reduceSub, Array.replicate_succ, Array.replicate_zero, List.push_toArray, List.append_toArray, List.nil_append, List.cons_append]
  gi_wp2
  refine ⟨trivial, ?_⟩
  refine (backward_in _ _ _ _ _).mono ?_
  rintro e w' ⟨rfl, rfl⟩
  gi_wp2
  obtain ⟨w4, hw4⟩ : ∃ w4, w4 = (((w.alloc (.cells #[.slice A0 n0 c0] 28)).alloc (.cells #[.func (.func f1) #[] #[]] 49)).alloc (.cells #[.bool false] 4)).alloc (.cells #[.slice A1 steps.length c1] 29) := ⟨_, rfl⟩
  have hsz : w4.heap.size = w.heap.size + 4 := by rw [hw4]; simp
  rw [← hw4]
  have hb4 : Below w.heap.size w w4 := by rw [hw4]; exact ((((Below.refl _ w).alloc (Nat.le_refl _) _).alloc (by simp) _).alloc (by simp; omega) _).alloc (by simp; omega) _
  have hA : ∀ (u : World) (o : Obj) (k : Nat), k = u.heap.size → (u.alloc o).heap[k]? = some o := fun u o k h => by subst h; exact World.alloc_heap_new u o
  have hO := Below.heap_alloc
  have c0' : w4.heap[w.heap.size]? = some (.cells #[.slice A0 n0 c0] 28) := by rw [hw4, hO _ _ _ (by simp; omega), hO _ _ _ (by simp; omega), hO _ _ _ (by simp), hA _ _ _ (by simp)]
  have c1' : w4.heap[w.heap.size + 1]? = some (.cells #[.func (.func f1) #[] #[]] 49) := by rw [hw4, hO _ _ _ (by simp), hO _ _ _ (by simp), hA _ _ _ (by simp)]
  have c2' : w4.heap[w.heap.size + 2]? = some (.cells #[.bool false] 4) := by rw [hw4, hO _ _ _ (by simp), hA _ _ _ (by simp)]
  have c3' : w4.heap[w.heap.size + 3]? = some (.cells #[.slice A1 steps.length c1] 29) := by rw [hw4, hA _ _ _ (by simp)]
  have hc3 : w4.cell? ⟨w.heap.size + 1 + 1 + 1, 0, none⟩ = some (.slice A1 steps.length c1) := by simp [World.cell?, c3']
  have hH : HoldsS w4 A1 steps.length (zsOf steps hs) := holds_of hG hs hv1 rfl hb4
  have hI0 : ChI G0 w f1 l w4 := ⟨⟨_, _, fun x => G0 x ∧ IsC w x, hv0.cells.congr (fun b hb => hb4.block b (hG b hb.1)) (fun _ h => h), fun x hx => ⟨by have := hG x hx.1; omega, .inl hx.1, by
    obtain ⟨C, e, fr, h⟩ := hx.2
    exact ⟨C, e, fr, (hb4.block x (hG x hx.1)).trans h⟩⟩, c0'⟩, ⟨_, c2'⟩, ⟨_, c1'⟩, hb4, by omega⟩
  refine wpIn_rangeFunc_ownH (w := w4) (w0 := w4) (α := Nat × StepB) (encs := encB) hro (by decide) (gf := 73) (lb := #[.pointer (some ⟨w.heap.size + 1 + 1 + 1, 0, none⟩)]) rfl trivial (enters_of Tryd.func73 (by kernel_rfl) rfl)
    (Kp := fun X Y => ∀ k, k < w.heap.size + 4 → k ≠ w.heap.size → k ≠ w.heap.size + 2 → Y.heap[k]? = X.heap[k]?)
    (back_stops (9 - 1) (by decide) (w.heap.size + 1 + 1 + 1) steps.length c1 A1 (zsOf steps hs) hlen _ (fun A k _ _ _ => rfl) (fun A B C h1 h2 k a b c => (h2 k a b c).trans (h1 k a b c)) w4 ?ks (by omega) hc3 hH)
    (fun h1 h2 k a b c => (h2 k a b c).trans (h1 k a b c)) (fun W l o o' hl _ _ _ k hk _ _ => World.putObj_heap_other (by omega)) (Below.refl _ _) (fun _ => rfl)
    (fun pre W => ∃ lc, chL N of (pre.map (fun p => p.2.1)) l = some lc ∧ okL lc ∧ ChI G0 w f1 lc W)
    (fun c pre W => c = .ret ∧ chL N of (pre.map (fun p => p.2.1)) l = none ∧ (∃ e, W.heap[w.heap.size + 2]? = some (.cells #[.bool false] e (0, 0))) ∧ Below w.heap.size w W)
    ?hI ?hIx ⟨l, rfl, hl, hI0⟩
    (fun x a' W => ∃ Bx e, w.heap.size + 4 ≤ Bx ∧ W.heap[Bx]? = some (.cells #[.string x.2.1.Path, .string x.2.1.Was, .bool x.2.1.Had, .string x.2.1.Is, .bool x.2.1.Has] e (0, 0)) ∧ a'.tmps.size = 29 ∧ a'.defers = [] ∧
      a'.tmps.getD 3 undef = .pointer (some ⟨w.heap.size, 0, none⟩) ∧ a'.tmps.getD 5 undef = .pointer (some ⟨w.heap.size + 1, 0, none⟩) ∧ a'.tmps.getD 6 undef = .pointer (some ⟨w.heap.size + 2, 0, none⟩) ∧ a'.tmps.getD 8 undef = .pointer (some ⟨Bx, 0, none⟩))
    ?hAx ?assign ?body ?done ?stop
  case ks =>
    intro X Y h
    refine ⟨h _ (by omega) (by omega) (by omega), fun a ha hpos => ?_⟩
    have hb : a.block < w.heap.size := by
      subst ha
      generalize hcs : esStep steps = cs at hv1
      generalize hnn : steps.length = nn at hv1
      cases hv1 with
      | row0 => omega
      | row _ _ _ b off _ us C e fr h1 => exact hG _ h1
    exact h _ (by omega) (by omega) (by omega)
  case hI =>
    rintro s W W' row ⟨lc, h1, h2, h3⟩ hg hr
    exact ⟨lc, h1, h2, h3.grown hg (fun r e => by have := hr r e; rw [hsz] at this; exact this)⟩
  case hIx =>
    rintro c s W W' row ⟨h1, h2, ⟨e, h3⟩, h4⟩ hg hr
    exact ⟨h1, h2, ⟨e, grown_cells hg hr h3⟩, h4.grown hg h4.size (fun k hk => by have := (hr k hk).1; omega)⟩
  case hAx =>
    rintro x a' _ W W' row ⟨Bx, e, h1, h2, h3⟩ hg hr
    exact ⟨Bx, e, h1, grown_cells hg hr h2, h3⟩
  case assign =>
    intro l pre x W K hIW hK
    simp only [encB, stepV]
    gi_wp2
    obtain ⟨lc, hI1, hI2, hI3⟩ := hIW
    have hg := World.grownBy_alloc W (.cells #[.string x.2.1.Path, .string x.2.1.Was, .bool x.2.1.Had, .string x.2.1.Is, .bool x.2.1.Has] 48) none
    refine hK _ _ (KeepsFrom.of_grownBy hg (fun j h => by cases h)) (fun k hk _ _ => hO _ _ _ (Nat.lt_of_lt_of_le hk hI3.s)) ⟨lc, hI1, hI2, hI3.grown hg (fun r e => by cases e)⟩ ⟨W.heap.size, 48, hI3.s, hA _ _ _ rfl, rfl, rfl, rfl, rfl, rfl, rfl⟩
  case body =>
    rintro lp pre x a' W hlp _ ⟨lc, hch, hok, hIW⟩ ⟨Bx, e, hB1, hB2, hnt, hdf, h3, h5, h6, h8⟩ _
    obtain ⟨ho1, ho2⟩ := hof x.2.1 x.2.2
    obtain ⟨ht1, ht2⟩ := hT lc (of x.2.1) hok ho1
    refine wpIn_mono (chain_round hn1 he1 ho2 ht1 hG hIW hB1 ⟨e, hB2⟩ hnt hdf h3 h5 h6 h8) ?_
    intro ex a2 W2 hp
    have hap : chL N of ((pre ++ [x]).map (fun p => p.2.1)) l = chL N of [x.2.1] lc := by
      rw [List.map_append, chL_app, hch]; rfl
    cases ex with
    | normal =>
      obtain ⟨k1, k2, k3, k4⟩ := hp
      refine ⟨⟨k2, fun k o hk ho _ => (k1 k (Array.getElem?_eq_some_iff.1 ho).1 (by omega) (by omega)).trans ho⟩, fun k hk h1 h2 => k1 k (Nat.lt_of_lt_of_le hk hIW.s) h1 h2, _, ?_, ht2 k3, k4⟩
      rw [hap, chL, if_pos k3, chL]
    | ret =>
      obtain ⟨k1, k2, k3, k4, k5⟩ := hp
      refine ⟨⟨k2, fun k o hk ho _ => (k1 k (Array.getElem?_eq_some_iff.1 ho).1 (by omega) (by omega)).trans ho⟩, rfl, ?_, k4, k5⟩
      rw [hap, chL, if_neg (by simp [k3])]
    | _ => exact hp.elim
  case done =>
    rintro D ys W hD rfl ⟨lc, hch, hok, ⟨_, ⟨e2, hr2⟩, _, hbW, hsW⟩⟩ hK
    have hcr : W.cell? ⟨w.heap.size + 1 + 1, 0, none⟩ = some (.bool false) := by simp [World.cell?, hr2]
    have hfr : W.frozen? ⟨w.heap.size + 1 + 1, 0, none⟩ = false := by simp [World.frozen?, hr2]
    rw [revN_rev] at hch
    gi_wp2
    have hv : chainB N of l steps = decide ((steps.length : Int) ≤ 100) := by
      simp only [chainB, hch, Option.isSome_some, Bool.true_and]
      exact decide_eq_decide.2 (by omega)
    have hK' := (KeepsOthers.setCell W ⟨w.heap.size + 1 + 1, 0, none⟩ (.bool (decide ((steps.length : Int) ≤ 100)))).same D _ hK rfl
    refine ⟨by simp, .inl ⟨_, _, rfl, run_takeDeferred hK', ?_⟩⟩
    have hc5 := cell_kept (World.cell?_setCell_same' W ⟨w.heap.size + 1 + 1, 0, none⟩ (.bool (decide ((steps.length : Int) ≤ 100))) (by rw [hcr]; rfl)) (grownBy_putObj' _ D (.deferred none)) (fun r e => by cases e; exact ⟨_, hK', rfl⟩)
    refine ⟨.bool (decide ((steps.length : Int) ≤ 100)), ?_, ?_⟩
    · simp [results, Tryd.f31, go_sem, hc5]
    · rw [← hv]
      refine hR _ ((hbW.setCell (p := ⟨w.heap.size + 1 + 1, 0, none⟩) (by show w.heap.size ≤ w.heap.size + 1 + 1; omega) _).trans (belowK_b (w := w) (Nat.le_refl _) _ D _ _ (by omega) (hv ▸ hK') rfl rfl))
  case stop =>
    rintro D c pre W hD ⟨k, hk, rfl⟩ ⟨rfl, hch, ⟨e2, hr2⟩, hbW⟩ hK
    gi_wp2
    have hcr : W.cell? ⟨w.heap.size + 1 + 1, 0, none⟩ = some (.bool false) := by simp [World.cell?, hr2]
    have hv : chainB N of l steps = false := by
      have h1 := revN_rev steps hs
      rw [← List.take_append_drop k (revN steps.length (zsOf steps hs)), List.map_append] at h1
      simp only [chainB, ← h1, chL_app, hch, Option.bind_none, Option.isSome_none, Bool.false_and]
    refine ⟨by simp, .inl ⟨_, _, rfl, run_takeDeferred hK, ?_⟩⟩
    have hc5 := cell_kept hcr (grownBy_putObj' _ D (.deferred none)) (fun r e => by cases e; exact ⟨_, hK, rfl⟩)
    refine ⟨.bool false, ?_, ?_⟩
    · simp [results, Tryd.f31, go_sem, hc5]
    · rw [← hv]
      exact hR _ (hbW.trans (belowK_b (w := w) (Nat.le_refl _) W D _ _ (by omega) hK rfl rfl))
theorem chain_does (N : Nat) (of : GStep → GStep) (f1 : FuncId) (hn1 : ¬ f1 = 999999) (he1 : entB Tryd.prog f1 = true) (okL : List GProp → Prop)
    (hT : ∀ l y, okL l → okSt y → p_impl_Step_done N y l = some (doneG N l y) ∧ ((doneG N l y).2 = true → okL (doneG N l y).1))
    (hof : ∀ x, okSt x → okSt (of x) ∧ Does Tryd.prog f1 [.agg (eStep x)] (.agg (eStep (of x))))
    (l : List GProp) (hl : okL l) (steps : List GStep) (hs : ∀ x ∈ steps, okSt x) (hlen : steps.length ≤ 4294967296) :
    Does Tryd.prog 31 [.row false 2 l.length (esProp l), .row false 5 steps.length (esStep steps), .fn f1 []] (B (chainB N of l steps)) := by
  intro w G vs hG hlen3 hv
  match vs, hlen3 with
  | [v0, v1, v2], _ =>
    have h0 := hv 0 _ v0 rfl rfl
    have h1 := hv 1 _ v1 rfl rfl
    have h2 := hv 2 _ v2 rfl rfl
    obtain ⟨A0, c0, rfl⟩ := h0.slice
    obtain ⟨A1, c1, rfl⟩ := h1.slice
    cases h2 with
    | fn _ _ us hl2 _ =>
      obtain rfl : us = [] := by simpa using hl2
      refine chain_raw N of f1 A0 A1 _ c0 c1 w _ G hG hn1 he1 okL hT hof l hl steps hs hlen h0 h1 (fun w' hb => ?_)
      refine ⟨.leaf (B (chainB N of l steps)) (.bool (chainB N of l steps)), rfl, rfl, ⟨hb.os, hb.tape, hb.output, hb.size, fun k hk _ => hb.block k hk⟩, by simp [HT.blocks], by simp [HT.blocks], G, fun x h => h, fun x h => .inl h, by simp [HT.blocks], .leaf _ _ rfl (.lit _)⟩
end Go.Av
end
section
set_option linter.unusedSimpArgs false
set_option linter.unusedVariables false
set_option maxRecDepth 100000
namespace Go.Av
open Go.Proofs
/-! impl.chain in the form of the printed contracts. -/
theorem doneG_eq {N : Nat} {l : List GProp} {y : GStep} (hl : okLp l) (hy : okSt y) (hN : 48 < N) : doneG N l y = doR l y := by
  unfold doneG; rw [done_eq N l y hl hy hN]; rfl
theorem chL_eq {N : Nat} {of : GStep → GStep} (hN : 48 < N) (hof : ∀ x, okSt x → okSt (of x)) : ∀ (s : List GStep) (l : List GProp), (∀ x ∈ s, okSt x) → okLp l → chL N of s l = chRun of s l
  | [], l, _, _ => rfl
  | x :: s, l, hs, hl => by
    have hy := hof x (hs x (by simp))
    rw [chL, chRun, doneG_eq hl hy hN]
    split
    · rename_i h
      exact chL_eq hN hof s _ (fun y h => hs y (by simp [h])) (doR_ok hl hy h)
    · rfl
structure ChOk (N : Nat) (l : List GProp) (steps : List GStep) (of : GStep → Option GStep) : Prop where
  n : 48 < N
  l : okLp l
  s : ∀ x ∈ steps, okSt x
  k : steps.length ≤ 1048576
  o : ∀ x, okSt x → ∃ y, of x = some y ∧ okSt y
open Classical in
noncomputable def p_impl_chain (N : Nat) (l : List GProp) (steps : List GStep) (of : GStep → Option GStep) : Option Bool :=
  if ChOk N l steps of then some (chainB N (fun x => (of x).getD x) l steps) else none
theorem chain_eq {N : Nat} {l : List GProp} {steps : List GStep} {of : GStep → Option GStep} {g : GStep → GStep} (h : ChOk N l steps of) (hg : ∀ x, of x = some (g x)) : p_impl_chain N l steps of = some ((chRun g steps.reverse l).isSome && decide (steps.length ≤ 100)) := by
  unfold p_impl_chain
  rw [if_pos h]
  have e : (fun x => (of x).getD x) = g := funext fun x => by rw [hg]; rfl
  rw [e]
  unfold chainB
  rw [chL_eq h.n (fun x hx => by obtain ⟨y, h1, h2⟩ := h.o x hx; rw [hg] at h1; cases h1; exact h2) _ _ (fun x hx => h.s x (List.mem_reverse.1 hx)) h.l]
theorem p_impl_chain_does (N : Nat) (l_a0 : List GProp) (steps_a1 : List GStep) (f2 : FuncId) (caps2 : List AV) (hc2 : caps2 = [] ∧ ¬ f2 = 999999) (he2 : entB Tryd.prog f2 = true) (of_a2 : GStep → Option GStep) (hp2 : ∀ (x0_ : GStep) (y_ : GStep), of_a2 x0_ = some y_ → Does Tryd.prog f2 [.agg (eStep x0_)] (.agg (eStep y_))) (r : Bool) (h : p_impl_chain N l_a0 steps_a1 of_a2 = some r) :
    Does Tryd.prog 31 [.row false 2 l_a0.length (esProp l_a0), .row false 5 steps_a1.length (esStep steps_a1), .fn f2 caps2] (B r) := by
  obtain ⟨rfl, hn⟩ := hc2
  unfold p_impl_chain at h
  split at h
  · rename_i c
    cases h
    exact chain_does N _ f2 hn he2 okLp (fun l y hl hy => by rw [doneG_eq hl hy c.n, done_eq N l y hl hy c.n]; exact ⟨rfl, fun h => doR_ok hl hy h⟩)
      (fun x hx => by obtain ⟨y, h1, h2⟩ := c.o x hx; rw [show (of_a2 x).getD x = y by rw [h1]; rfl]; exact ⟨h2, hp2 x y h1⟩) l_a0 c.l steps_a1 c.s (by have := c.k; omega)
  · cases h
end Go.Av
end
section
set_option linter.unusedSimpArgs false
set_option linter.unusedVariables false
set_option maxRecDepth 100000
set_option maxHeartbeats 1000000
noncomputable section
namespace Go.Av
open Go.Proofs
/-! impl.GoodEdited$1 -/
theorem p_impl_GoodEdited_1_rt {F C A : Prop} (hF : F) (hC : C) (h : F → C → A := by intro hF hC; first | (refine sr_by hF ?_; (repeat' (first | exact trivial | apply And.intro)); all_goals (clear hF; first | rfl | (simp only [hC, List.length_append, List.length_cons, List.length_nil, List.append_nil, List.nil_append, List.cons_append, List.length_set, List.append_assoc, Nat.zero_add, List.length_replicate, esStep_app, esStep_cons, esStep_nil, eStep_eq]; done) | (simp [hC, List.length_append, List.length_cons, List.length_nil, List.append_nil, List.nil_append, List.cons_append, List.length_set, List.append_assoc, Nat.zero_add, List.length_replicate, esStep_app, esStep_cons, esStep_nil, eStep_eq]; done) | omega)) | (first | rfl | (simp only [hC, List.length_append, List.length_cons, List.length_nil, List.append_nil, List.nil_append, List.cons_append, List.length_set, List.append_assoc, Nat.zero_add, List.length_replicate, esStep_app, esStep_cons, esStep_nil, eStep_eq]; done) | (simp [hC, List.length_append, List.length_cons, List.length_nil, List.append_nil, List.nil_append, List.cons_append, List.length_set, List.append_assoc, Nat.zero_add, List.length_replicate, esStep_app, esStep_cons, esStep_nil, eStep_eq]; done) | omega)) : A := h hF hC
def p_impl_GoodEdited_1_tf := PLift.up (ai @eStep_eq (ai @esStep_len (ai @esStep_nil (ai @esStep_leaf (ai @esStep_fit (ai @esStep_share (ai @esStep_pure (ai @str_beq (ai @Ty.nz48 (ai @Ty.ldA48 (ai @Ty.sz48 (ai @Ty.szn48 (ai @Ty.zv48 (ai @Ty.ag48 @trivial))))))))))))))
def p_impl_GoodEdited_1 (s_a0 : GStep) : Option (GStep) := some s_a0
theorem p_impl_GoodEdited_1_does (s_a0 : GStep) (r : GStep) (h : p_impl_GoodEdited_1 s_a0 = some r) : Does Tryd.prog 33 [.agg (eStep s_a0)] (.agg (eStep r)) := by
  rw [p_impl_GoodEdited_1] at h
  refine Does.walk (nt := 4) Tryd.func33 rfl rfl (by simp) (by decide) rfl (fun G0 X w0 pv => ?_)
  have ff := p_impl_GoodEdited_1_tf.down
  try refine st_by ff ?_
  repeat' (first | exact trivial | refine And.intro sd ?_)
  cases h
  exact ret_q1 rfl (p_impl_GoodEdited_1_rt ff trivial)
/-! impl.GoodEdited -/
theorem p_impl_GoodEdited_sa {F C A : Prop} (hF : F) (hC : C) (h : F → C → A := by intro hF hC; first | exact ca_by hF | (refine sa_by hF ?_; (repeat' (first | exact trivial | apply And.intro)); all_goals (clear hF; first | rfl | (simp only [hC, List.length_append, List.length_cons, List.length_nil, List.append_nil, List.nil_append, List.cons_append, List.length_set, List.append_assoc, Nat.zero_add, List.length_replicate, esEdited_app, esEdited_cons, esEdited_nil, eEdited_eq, esEditedo_app, esEditedo_cons, esEditedo_nil, eEditedo_eq, esStep_app, esStep_cons, esStep_nil, eStep_eq, esProp_app, esProp_cons, esProp_nil, eProp_eq]; done) | (simp [hC, List.length_append, List.length_cons, List.length_nil, List.append_nil, List.nil_append, List.cons_append, List.length_set, List.append_assoc, Nat.zero_add, List.length_replicate, esEdited_app, esEdited_cons, esEdited_nil, eEdited_eq, esEditedo_app, esEditedo_cons, esEditedo_nil, eEditedo_eq, esStep_app, esStep_cons, esStep_nil, eStep_eq, esProp_app, esProp_cons, esProp_nil, eProp_eq]; done) | omega))) : A := h hF hC
theorem p_impl_GoodEdited_rt {F C A : Prop} (hF : F) (hC : C) (h : F → C → A := by intro hF hC; first | (refine sr_by hF ?_; (repeat' (first | exact trivial | apply And.intro)); all_goals (clear hF; first | rfl | (simp only [hC, List.length_append, List.length_cons, List.length_nil, List.append_nil, List.nil_append, List.cons_append, List.length_set, List.append_assoc, Nat.zero_add, List.length_replicate, esEdited_app, esEdited_cons, esEdited_nil, eEdited_eq, esEditedo_app, esEditedo_cons, esEditedo_nil, eEditedo_eq, esStep_app, esStep_cons, esStep_nil, eStep_eq, esProp_app, esProp_cons, esProp_nil, eProp_eq]; done) | (simp [hC, List.length_append, List.length_cons, List.length_nil, List.append_nil, List.nil_append, List.cons_append, List.length_set, List.append_assoc, Nat.zero_add, List.length_replicate, esEdited_app, esEdited_cons, esEdited_nil, eEdited_eq, esEditedo_app, esEditedo_cons, esEditedo_nil, eEditedo_eq, esStep_app, esStep_cons, esStep_nil, eStep_eq, esProp_app, esProp_cons, esProp_nil, eProp_eq]; done) | omega)) | (first | rfl | (simp only [hC, List.length_append, List.length_cons, List.length_nil, List.append_nil, List.nil_append, List.cons_append, List.length_set, List.append_assoc, Nat.zero_add, List.length_replicate, esEdited_app, esEdited_cons, esEdited_nil, eEdited_eq, esEditedo_app, esEditedo_cons, esEditedo_nil, eEditedo_eq, esStep_app, esStep_cons, esStep_nil, eStep_eq, esProp_app, esProp_cons, esProp_nil, eProp_eq]; done) | (simp [hC, List.length_append, List.length_cons, List.length_nil, List.append_nil, List.nil_append, List.cons_append, List.length_set, List.append_assoc, Nat.zero_add, List.length_replicate, esEdited_app, esEdited_cons, esEdited_nil, eEdited_eq, esEditedo_app, esEditedo_cons, esEditedo_nil, eEditedo_eq, esStep_app, esStep_cons, esStep_nil, eStep_eq, esProp_app, esProp_cons, esProp_nil, eProp_eq]; done) | omega)) : A := h hF hC
def p_impl_GoodEdited_tf := PLift.up (ai @eEdited_eq (ai @esEdited_len (ai @esEdited_nil (ai @esEdited_leaf (ai @esEdited_fit (ai @eEditedo_eq (ai @esEditedo_len (ai @esEditedo_nil (ai @eStep_eq (ai @esStep_len (ai @esStep_nil (ai @esStep_leaf (ai @esStep_fit (ai @eProp_eq (ai @esProp_len (ai @esProp_nil (ai @esProp_leaf (ai @esProp_fit (ai @esEditedo_share (ai @esEditedo_pure (ai @esStep_share (ai @esStep_pure (ai @esProp_share (ai @esProp_pure (ai @str_beq (ai @Ty.nz28 (ai @Ty.ldA28 (ai @Ty.ldS28 (ai @Ty.sz28 (ai @Ty.szn28 (ai @Ty.nz29 (ai @Ty.ldA29 (ai @Ty.ldS29 (ai @Ty.sz29 (ai @Ty.szn29 (ai @Ty.fo31_0 (ai @Ty.fk31_0 (ai @Ty.fs31_0 (ai @Ty.fn31_0 (ai @Ty.fo31_1 (ai @Ty.fk31_1 (ai @Ty.fs31_1 (ai @Ty.fn31_1 (ai @Ty.fo31_2 (ai @Ty.fk31_2 (ai @Ty.fs31_2 (ai @Ty.fn31_2 @trivial)))))))))))))))))))))))))))))))))))))))))))))))
def p_impl_GoodEdited (N : Nat) (e_a0 : GEdited) : Option (Bool) := ((p_impl_GoodProps e_a0.Props).bind fun v1 => (if v1 = true then ((p_impl_chain N e_a0.Props e_a0.Done (fun x0_ => p_impl_Step_back x0_)).bind fun v3 => (if v3 = true then ((p_impl_chain N e_a0.Props e_a0.Back (fun x0_ => p_impl_GoodEdited_1 x0_)).bind fun v5 => some v5) else some false)) else some false))
theorem p_impl_GoodEdited_does (N : Nat) (e_a0 : GEdited) (r : Bool) (h : p_impl_GoodEdited N e_a0 = some r) : Does Tryd.prog 11 [.agg (eEdited e_a0)] (B r) := by
  rw [p_impl_GoodEdited] at h
  refine Does.bnd (fun hb => ?_)
  have hb2 : e_a0.Props.length ≤ 9223372036854775807 ∧ e_a0.Done.length ≤ 9223372036854775807 ∧ e_a0.Back.length ≤ 9223372036854775807 := by simpa [AV.fitNs, AV.fitN, eEdited] using hb
  obtain ⟨hl0, hl1, hl2⟩ := hb2
  refine Does.walk (nt := 20) Tryd.func11 rfl rfl (by simp) (by decide) rfl (fun G0 X w0 pv => ?_)
  obtain ⟨v1, ev1, h⟩ := Option.bind_eq_some_iff.1 h
  try dsimp only at h
  have ff := p_impl_GoodEdited_tf.down
  try refine st_by ff ?_
  repeat' (first | exact trivial | refine And.intro sd ?_)
  first
  | (refine cq_call (p_impl_GoodProps_does e_a0.Props v1 ev1) (hf_by ff) kr ⟨p_impl_GoodEdited_sa ff trivial, ?_⟩; clear ff)
  by_cases c2 : v1 = true
  case neg =>
   rw [if_neg c2] at h
   have dc2 := eq_false_of_ne_true c2
   have ff := ai @dc2 p_impl_GoodEdited_tf.down
   try refine st_by ff ?_
   repeat' (first | exact trivial | refine And.intro sd ?_)
   cases h
   exact ret_q1 rfl (p_impl_GoodEdited_rt ff trivial)
  rw [if_pos c2] at h
  have dc2 := c2
  obtain ⟨v3, ev3, h⟩ := Option.bind_eq_some_iff.1 h
  try dsimp only at h
  have ff := ai @dc2 p_impl_GoodEdited_tf.down
  try refine st_by ff ?_
  repeat' (first | exact trivial | refine And.intro sd ?_)
  first
  | (refine cq_call (p_impl_chain_does N e_a0.Props e_a0.Done 32 [] (by simp [AV.noRefs, AV.noRef]) kr (fun x0_ => p_impl_Step_back x0_) (fun x0_ y_ h_ => p_impl_Step_back_does x0_ y_ h_) v3 ev3) (hf_by ff) kr ⟨p_impl_GoodEdited_sa ff trivial, ?_⟩; clear ff)
  by_cases c4 : v3 = true
  case neg =>
   rw [if_neg c4] at h
   have dc4 := eq_false_of_ne_true c4
   have ff := ai @dc2 (ai @dc4 p_impl_GoodEdited_tf.down)
   try refine st_by ff ?_
   repeat' (first | exact trivial | refine And.intro sd ?_)
   cases h
   exact ret_q1 rfl (p_impl_GoodEdited_rt ff trivial)
  rw [if_pos c4] at h
  have dc4 := c4
  obtain ⟨v5, ev5, h⟩ := Option.bind_eq_some_iff.1 h
  try dsimp only at h
  have ff := ai @dc2 (ai @dc4 p_impl_GoodEdited_tf.down)
  try refine st_by ff ?_
  repeat' (first | exact trivial | refine And.intro sd ?_)
  first
  | (refine cq_call (p_impl_chain_does N e_a0.Props e_a0.Back 33 [] (by simp [AV.noRefs, AV.noRef]) kr (fun x0_ => p_impl_GoodEdited_1 x0_) (fun x0_ y_ h_ => p_impl_GoodEdited_1_does x0_ y_ h_) v5 ev5) (hf_by ff) kr ⟨p_impl_GoodEdited_sa ff trivial, ?_⟩; clear ff)
  have ff := ai @dc2 (ai @dc4 p_impl_GoodEdited_tf.down)
  try refine st_by ff ?_
  repeat' (first | exact trivial | refine And.intro sd ?_)
  cases h
  exact ret_q1 rfl (p_impl_GoodEdited_rt ff trivial)
end Go.Av
end
end
section
set_option linter.unusedSimpArgs false
set_option linter.unusedVariables false
set_option maxRecDepth 100000
set_option maxHeartbeats 1000000
noncomputable section
namespace Go.Av
open Go.Proofs
/-! spec.SetProp -/
def p_spec_SetProp_j1 (N : Nat) (e_a0 : GEdited) (path_a1 : ByteArray) (value_a2 : ByteArray) (v4 : ByteArray × Bool) (b_5 : Bool) : Option (GEdited × Bool) := (if b_5 = true then ((p_spec_l26Own e_a0).bind fun v7 => some ((⟨v7.Props, v7.Done, v7.Back⟩ : GEdited), true)) else ((p_spec_l26Step N e_a0 (⟨path_a1, v4.1, v4.2, value_a2, true⟩ : GStep)).bind fun v8 => some ((⟨v8.1.Props, v8.1.Done, v8.1.Back⟩ : GEdited), v8.2)))
def p_spec_SetProp_j0 (N : Nat) (e_a0 : GEdited) (path_a1 : ByteArray) (value_a2 : ByteArray) (b_2 : Bool) : Option (GEdited × Bool) := (if b_2 = true then some ((⟨([] : List GProp), ([] : List GStep), ([] : List GStep)⟩ : GEdited), false) else ((p_spec_l26Find e_a0.Props path_a1).bind fun v4 => (if v4.2 = true then p_spec_SetProp_j1 N e_a0 path_a1 value_a2 v4 (decide (v4.1 = value_a2)) else p_spec_SetProp_j1 N e_a0 path_a1 value_a2 v4 false)))
def p_spec_SetProp_tf := PLift.up (ai @eEdited_eq (ai @esEdited_len (ai @esEdited_nil (ai @esEdited_leaf (ai @esEdited_fit (ai @eEditedo_eq (ai @esEditedo_len (ai @esEditedo_nil (ai @eStep_eq (ai @esStep_len (ai @esStep_nil (ai @esStep_leaf (ai @esStep_fit (ai @eProp_eq (ai @esProp_len (ai @esProp_nil (ai @esProp_leaf (ai @esProp_fit (ai @esEditedo_share (ai @esEditedo_pure (ai @esStep_share (ai @esStep_pure (ai @esProp_share (ai @esProp_pure (ai @str_beq (ai @Ty.nz31 (ai @Ty.ldA31 (ai @Ty.sz31 (ai @Ty.szn31 (ai @Ty.nz28 (ai @Ty.ldA28 (ai @Ty.ldS28 (ai @Ty.sz28 (ai @Ty.szn28 (ai @Ty.fo31_0 (ai @Ty.fk31_0 (ai @Ty.fs31_0 (ai @Ty.fn31_0 (ai @Ty.zv31 (ai @Ty.bd31 (ai @Ty.bd48 (ai @Ty.zv48 (ai @Ty.pl48_0 (ai @Ty.pl48_1 (ai @Ty.pl48_2 (ai @Ty.pl48_3 (ai @Ty.pl48_4 (ai @Ty.ag31 @trivial))))))))))))))))))))))))))))))))))))))))))))))))
def p_spec_SetProp (N : Nat) (e_a0 : GEdited) (path_a1 : ByteArray) (value_a2 : ByteArray) : Option (GEdited × Bool) := ((p_spec_GoodEdited N e_a0).bind fun v1 => (if v1 = true then ((p_spec_l26Path N path_a1).bind fun v11 => (if v11 = true then ((p_spec_l26Value value_a2).bind fun v13 => p_spec_SetProp_j0 N e_a0 path_a1 value_a2 (!v13)) else p_spec_SetProp_j0 N e_a0 path_a1 value_a2 true)) else p_spec_SetProp_j0 N e_a0 path_a1 value_a2 true))
/-! slices.Clone[[]impl.Step,impl.Step] -/
theorem p_slices_Clone_impl_Step_impl_Step_rt {F C A : Prop} (hF : F) (hC : C) (h : F → C → A := by intro hF hC; first | (refine sr_by hF ?_; (repeat' (first | exact trivial | apply And.intro)); all_goals (clear hF; first | rfl | (simp only [hC, List.length_append, List.length_cons, List.length_nil, List.append_nil, List.nil_append, List.cons_append, List.length_set, List.append_assoc, Nat.zero_add, List.length_replicate, esStep_app, esStep_cons, esStep_nil, eStep_eq]; done) | (simp [hC, List.length_append, List.length_cons, List.length_nil, List.append_nil, List.nil_append, List.cons_append, List.length_set, List.append_assoc, Nat.zero_add, List.length_replicate, esStep_app, esStep_cons, esStep_nil, eStep_eq]; done) | omega)) | (first | rfl | (simp only [hC, List.length_append, List.length_cons, List.length_nil, List.append_nil, List.nil_append, List.cons_append, List.length_set, List.append_assoc, Nat.zero_add, List.length_replicate, esStep_app, esStep_cons, esStep_nil, eStep_eq]; done) | (simp [hC, List.length_append, List.length_cons, List.length_nil, List.append_nil, List.nil_append, List.cons_append, List.length_set, List.append_assoc, Nat.zero_add, List.length_replicate, esStep_app, esStep_cons, esStep_nil, eStep_eq]; done) | omega)) : A := h hF hC
def p_slices_Clone_impl_Step_impl_Step_tf := PLift.up (ai @eStep_eq (ai @esStep_len (ai @esStep_nil (ai @esStep_leaf (ai @esStep_fit (ai @esStep_share (ai @esStep_pure (ai @Ty.nze29 (ai @Ty.sl29 (ai @Ty.slz29 (ai @Ty.zok29 (ai @Ty.by29 (ai @Ty.zs29 @trivial)))))))))))))
def p_slices_Clone_impl_Step_impl_Step (l : List GStep) : Option (List GStep) := if l.length < 4294967296 then some l else none
theorem p_slices_Clone_impl_Step_impl_Step_does (l : List GStep) (r : List GStep) (h : p_slices_Clone_impl_Step_impl_Step l = some r) : Does Tryd.prog 60 [.row false 5 l.length (esStep l)] (.row true 5 r.length (esStep r)) := by
  rw [p_slices_Clone_impl_Step_impl_Step] at h
  by_cases c : l.length < 4294967296
  case neg => rw [if_neg c] at h; cases h
  rw [if_pos c] at h
  cases h
  refine Does.walk (nt := 8) Tryd.func60 rfl rfl (by simp) (by decide) rfl (fun G0 X w0 pv => ?_)
  refine st_by p_slices_Clone_impl_Step_impl_Step_tf.down ?_
  refine fun b hb => ?_
  cases b
  · have ff := p_slices_Clone_impl_Step_impl_Step_tf.down
    try refine st_by ff ?_
    repeat' (first | exact trivial | refine And.intro sd ?_)
    clear ff
    exact ret_q1 rfl (p_slices_Clone_impl_Step_impl_Step_rt p_slices_Clone_impl_Step_impl_Step_tf.down trivial)
  · have h0 : l = [] := List.eq_nil_of_length_eq_zero (by rcases Nat.eq_zero_or_pos l.length with h | h; exact h; exact absurd (hb h) (by decide))
    subst h0
    have ff := p_slices_Clone_impl_Step_impl_Step_tf.down
    try refine st_by ff ?_
    repeat' (first | exact trivial | refine And.intro sd ?_)
    clear ff
    exact ret_q1 rfl (p_slices_Clone_impl_Step_impl_Step_rt p_slices_Clone_impl_Step_impl_Step_tf.down trivial)
/-! (impl.Edited).clone -/
def p_impl_Edited_clone_tf := PLift.up (ai @eEdited_eq (ai @esEdited_len (ai @esEdited_nil (ai @esEdited_leaf (ai @esEdited_fit (ai @eEditedo_eq (ai @esEditedo_len (ai @esEditedo_nil (ai @eStep_eq (ai @esStep_len (ai @esStep_nil (ai @esStep_leaf (ai @esStep_fit (ai @eProp_eq (ai @esProp_len (ai @esProp_nil (ai @esProp_leaf (ai @esProp_fit (ai @esEditedo_share (ai @esEditedo_pure (ai @esStep_share (ai @esStep_pure (ai @esProp_share (ai @esProp_pure (ai @str_beq (ai @Ty.nz28 (ai @Ty.ldA28 (ai @Ty.ldS28 (ai @Ty.sz28 (ai @Ty.szn28 (ai @Ty.nz29 (ai @Ty.ldA29 (ai @Ty.ldS29 (ai @Ty.sz29 (ai @Ty.szn29 (ai @Ty.nz31 (ai @Ty.ldA31 (ai @Ty.sz31 (ai @Ty.szn31 (ai @Ty.fo31_0 (ai @Ty.fk31_0 (ai @Ty.fs31_0 (ai @Ty.fn31_0 (ai @Ty.fo31_1 (ai @Ty.fk31_1 (ai @Ty.fs31_1 (ai @Ty.fn31_1 (ai @Ty.fo31_2 (ai @Ty.fk31_2 (ai @Ty.fs31_2 (ai @Ty.fn31_2 (ai @Ty.zv31 (ai @Ty.bd31 (ai @Ty.pl31_0 (ai @Ty.pl31_1 (ai @Ty.pl31_2 (ai @Ty.ag31 @trivial)))))))))))))))))))))))))))))))))))))))))))))))))))))))))
def p_impl_Edited_clone (e_a0 : GEdited) : Option (GEdited) := ((p_slices_Clone_impl_Prop_impl_Prop e_a0.Props).bind fun v1 => ((p_slices_Clone_impl_Step_impl_Step e_a0.Done).bind fun v2 => ((p_slices_Clone_impl_Step_impl_Step e_a0.Back).bind fun v3 => some (⟨v1, v2, v3⟩ : GEdited))))
/-! (impl.Edited).with -/
def p_impl_Edited_with_j0 (e_a0 : GEdited) (s_a1 : GStep) (v1 : List GProp × Bool) (b_2 : Bool) : Option (GEdited × Bool) := (if b_2 = true then some ((⟨([] : List GProp), ([] : List GStep), ([] : List GStep)⟩ : GEdited), false) else ((p_slices_Clone_impl_Step_impl_Step e_a0.Done).bind fun v4 => (if v4.length < 4294967296 then some ((⟨v1.1, (v4 ++ [s_a1]), ([] : List GStep)⟩ : GEdited), true) else none)))
theorem p_impl_Edited_with_pv {F C A : Prop} (hF : F) (hC : C) (h : F → C → A := by intro hF hC; first | exact cl_by hF | (refine st_by hF ?_; (repeat' (first | exact trivial | apply And.intro)); all_goals (clear hF; first | rfl | (simp only [hC, List.length_append, List.length_cons, List.length_nil, List.append_nil, List.nil_append, List.cons_append, List.length_set, List.append_assoc, Nat.zero_add, List.length_replicate, esEdited_app, esEdited_cons, esEdited_nil, eEdited_eq, esEditedo_app, esEditedo_cons, esEditedo_nil, eEditedo_eq, esStep_app, esStep_cons, esStep_nil, eStep_eq, esProp_app, esProp_cons, esProp_nil, eProp_eq]; done) | (simp [hC, List.length_append, List.length_cons, List.length_nil, List.append_nil, List.nil_append, List.cons_append, List.length_set, List.append_assoc, Nat.zero_add, List.length_replicate, esEdited_app, esEdited_cons, esEdited_nil, eEdited_eq, esEditedo_app, esEditedo_cons, esEditedo_nil, eEditedo_eq, esStep_app, esStep_cons, esStep_nil, eStep_eq, esProp_app, esProp_cons, esProp_nil, eProp_eq]; done) | omega))) : A := h hF hC
theorem p_impl_Edited_with_sa {F C A : Prop} (hF : F) (hC : C) (h : F → C → A := by intro hF hC; first | exact ca_by hF | (refine sa_by hF ?_; (repeat' (first | exact trivial | apply And.intro)); all_goals (clear hF; first | rfl | (simp only [hC, List.length_append, List.length_cons, List.length_nil, List.append_nil, List.nil_append, List.cons_append, List.length_set, List.append_assoc, Nat.zero_add, List.length_replicate, esEdited_app, esEdited_cons, esEdited_nil, eEdited_eq, esEditedo_app, esEditedo_cons, esEditedo_nil, eEditedo_eq, esStep_app, esStep_cons, esStep_nil, eStep_eq, esProp_app, esProp_cons, esProp_nil, eProp_eq]; done) | (simp [hC, List.length_append, List.length_cons, List.length_nil, List.append_nil, List.nil_append, List.cons_append, List.length_set, List.append_assoc, Nat.zero_add, List.length_replicate, esEdited_app, esEdited_cons, esEdited_nil, eEdited_eq, esEditedo_app, esEditedo_cons, esEditedo_nil, eEditedo_eq, esStep_app, esStep_cons, esStep_nil, eStep_eq, esProp_app, esProp_cons, esProp_nil, eProp_eq]; done) | omega))) : A := h hF hC
theorem p_impl_Edited_with_rt {F C A : Prop} (hF : F) (hC : C) (h : F → C → A := by intro hF hC; first | (refine sr_by hF ?_; (repeat' (first | exact trivial | apply And.intro)); all_goals (clear hF; first | rfl | (simp only [hC, List.length_append, List.length_cons, List.length_nil, List.append_nil, List.nil_append, List.cons_append, List.length_set, List.append_assoc, Nat.zero_add, List.length_replicate, esEdited_app, esEdited_cons, esEdited_nil, eEdited_eq, esEditedo_app, esEditedo_cons, esEditedo_nil, eEditedo_eq, esStep_app, esStep_cons, esStep_nil, eStep_eq, esProp_app, esProp_cons, esProp_nil, eProp_eq]; done) | (simp [hC, List.length_append, List.length_cons, List.length_nil, List.append_nil, List.nil_append, List.cons_append, List.length_set, List.append_assoc, Nat.zero_add, List.length_replicate, esEdited_app, esEdited_cons, esEdited_nil, eEdited_eq, esEditedo_app, esEditedo_cons, esEditedo_nil, eEditedo_eq, esStep_app, esStep_cons, esStep_nil, eStep_eq, esProp_app, esProp_cons, esProp_nil, eProp_eq]; done) | omega)) | (first | rfl | (simp only [hC, List.length_append, List.length_cons, List.length_nil, List.append_nil, List.nil_append, List.cons_append, List.length_set, List.append_assoc, Nat.zero_add, List.length_replicate, esEdited_app, esEdited_cons, esEdited_nil, eEdited_eq, esEditedo_app, esEditedo_cons, esEditedo_nil, eEditedo_eq, esStep_app, esStep_cons, esStep_nil, eStep_eq, esProp_app, esProp_cons, esProp_nil, eProp_eq]; done) | (simp [hC, List.length_append, List.length_cons, List.length_nil, List.append_nil, List.nil_append, List.cons_append, List.length_set, List.append_assoc, Nat.zero_add, List.length_replicate, esEdited_app, esEdited_cons, esEdited_nil, eEdited_eq, esEditedo_app, esEditedo_cons, esEditedo_nil, eEditedo_eq, esStep_app, esStep_cons, esStep_nil, eStep_eq, esProp_app, esProp_cons, esProp_nil, eProp_eq]; done) | omega)) : A := h hF hC
def p_impl_Edited_with_tf := PLift.up (ai @eEdited_eq (ai @esEdited_len (ai @esEdited_nil (ai @esEdited_leaf (ai @esEdited_fit (ai @eEditedo_eq (ai @esEditedo_len (ai @esEditedo_nil (ai @eStep_eq (ai @esStep_len (ai @esStep_nil (ai @esStep_leaf (ai @esStep_fit (ai @eProp_eq (ai @esProp_len (ai @esProp_nil (ai @esProp_leaf (ai @esProp_fit (ai @esEditedo_share (ai @esEditedo_pure (ai @esStep_share (ai @esStep_pure (ai @esProp_share (ai @esProp_pure (ai @str_beq (ai @Ty.nz48 (ai @Ty.ldA48 (ai @Ty.sz48 (ai @Ty.szn48 (ai @Ty.nz28 (ai @Ty.ldA28 (ai @Ty.ldS28 (ai @Ty.sz28 (ai @Ty.szn28 (ai @Ty.nz29 (ai @Ty.ldA29 (ai @Ty.ldS29 (ai @Ty.sz29 (ai @Ty.szn29 (ai @Ty.nz31 (ai @Ty.ldA31 (ai @Ty.sz31 (ai @Ty.szn31 (ai @Ty.fo31_0 (ai @Ty.fk31_0 (ai @Ty.fs31_0 (ai @Ty.fn31_0 (ai @Ty.fo31_1 (ai @Ty.fk31_1 (ai @Ty.fs31_1 (ai @Ty.fn31_1 (ai @Ty.sl29 (ai @Ty.nze29 (ai @Ty.slz29 (ai @Ty.zok29 (ai @Ty.by29 (ai @Ty.zs29 (ai @Ty.zv31 (ai @Ty.bd31 (ai @Ty.pl31_0 (ai @Ty.pl31_1 (ai @Ty.ag31 (ai @Ty.sl28 (ai @Ty.slz28 @trivial))))))))))))))))))))))))))))))))))))))))))))))))))))))))))))))))
def p_impl_Edited_with (N : Nat) (e_a0 : GEdited) (s_a1 : GStep) : Option (GEdited × Bool) := ((p_impl_Step_done N s_a1 e_a0.Props).bind fun v1 => (if v1.2 = true then p_impl_Edited_with_j0 e_a0 s_a1 v1 ((e_a0.Done.length : Int) == 100) else p_impl_Edited_with_j0 e_a0 s_a1 v1 true))
theorem p_impl_Edited_with_does (N : Nat) (e_a0 : GEdited) (s_a1 : GStep) (r : GEdited × Bool) (h : p_impl_Edited_with N e_a0 s_a1 = some r) : Does Tryd.prog 48 [.agg (eEdited e_a0), .agg (eStep s_a1)] (.tup [.agg (eEditedo r.1), B r.2]) := by
  rw [p_impl_Edited_with] at h
  refine Does.bnd (fun hb => ?_)
  have hb2 : e_a0.Props.length ≤ 9223372036854775807 ∧ e_a0.Done.length ≤ 9223372036854775807 ∧ e_a0.Back.length ≤ 9223372036854775807 := by simpa [AV.fitNs, AV.fitN, eEdited, eStep] using hb
  obtain ⟨hl0, hl1, hl2⟩ := hb2
  refine Does.walk (nt := 32) Tryd.func48 rfl rfl (by simp) (by decide) rfl (fun G0 X w0 pv => ?_)
  obtain ⟨v1, ev1, h⟩ := Option.bind_eq_some_iff.1 h
  try dsimp only at h
  have ff := p_impl_Edited_with_tf.down
  try refine st_by ff ?_
  repeat' (first | exact trivial | refine And.intro sd ?_)
  first
  | (refine cq_own (p_impl_Step_done_does N s_a1 e_a0.Props v1 ev1) (hf_by ff) kr ⟨p_impl_Edited_with_sa ff trivial, ?_⟩; clear ff)
  | (refine cq_down (p_impl_Step_done_does N s_a1 e_a0.Props v1 ev1) (hf_by ff) kr ⟨p_impl_Edited_with_sa ff trivial, ?_⟩; clear ff)
  have ff := p_impl_Edited_with_tf.down
  try refine st_by ff ?_
  repeat' (first | exact trivial | refine And.intro sd ?_)
  try clear ff
  generalize hk_0 : thenK _ _ = kk_0
  have key_0 : ∀ σ, (∃ b_2 : Bool, (p_impl_Edited_with_j0 e_a0 s_a1 v1 b_2 = some r) ∧ σ.t 2 = .ptr 2 [] 0 ∧ σ.t 3 = .ptr 3 [] 0 ∧ σ.t 4 = .ptr 4 [] 0 ∧ σ.t 6 = .sl 12 [0] 0 v1.1.length ∧ σ.t 22 = B b_2 ∧ σ.m 2 = some (.box true [.row false 2 e_a0.Props.length (esProp e_a0.Props), .row false 5 e_a0.Done.length (esStep e_a0.Done), .row false 5 e_a0.Back.length (esStep e_a0.Back)]) ∧ σ.m 3 = some (.box true [S s_a1.Path, S s_a1.Was, B s_a1.Had, S s_a1.Is, B s_a1.Has]) ∧ σ.m 4 = some (.box true [.row true 2 0 [], .row true 5 0 [], .row true 5 0 []]) ∧ σ.m 12 = some (.tup [.row true 2 v1.1.length (esProp v1.1), B v1.2])) → kk_0 .nm σ := by
    rintro σ ⟨b_2, h, g0_j0, g1_j0, g2_j0, g3_j0, g4_j0, g5_j0, g6_j0, g7_j0, g8_j0⟩
    rw [← hk_0]
    rw [p_impl_Edited_with_j0] at h
    by_cases c3 : b_2 = true
    · rw [if_pos c3] at h
      have dc3 := c3
      have ff := ai @g0_j0 (ai @g1_j0 (ai @g2_j0 (ai @g3_j0 (ai @g4_j0 (ai @g5_j0 (ai @g6_j0 (ai @g7_j0 (ai @g8_j0 (ai @dc3 p_impl_Edited_with_tf.down)))))))))
      try refine st_by ff ?_
      repeat' (first | exact trivial | refine And.intro sd ?_)
      cases h
      exact ret_q2 rfl (p_impl_Edited_with_rt ff trivial)
    rw [if_neg c3] at h
    have dc3 := eq_false_of_ne_true c3
    obtain ⟨v4, ev4, h⟩ := Option.bind_eq_some_iff.1 h
    try dsimp only at h
    have ff := ai @g0_j0 (ai @g1_j0 (ai @g2_j0 (ai @g3_j0 (ai @g4_j0 (ai @g5_j0 (ai @g6_j0 (ai @g7_j0 (ai @g8_j0 (ai @dc3 p_impl_Edited_with_tf.down)))))))))
    try refine st_by ff ?_
    repeat' (first | exact trivial | refine And.intro sd ?_ | (refine aw_drawn (id := 4) ?_ [[], [], [1], [1, 2], [], [4], [1, 2, 3, 4, 5], [0, 1, 2, 3, 4, 5, 6], [0, 1, 2, 3, 4, 5, 6, 7], [0, 1, 2, 3, 4, 5, 6, 7, 8]] 7 ?_ ?_; (· kernel_rfl); (· kernel_rfl); refine st_by ff ?_))
    first
    | (refine cq_own (p_slices_Clone_impl_Step_impl_Step_does e_a0.Done v4 ev4) (hf_by ff) kr ⟨p_impl_Edited_with_sa ff trivial, ?_⟩; clear ff)
    | (refine cq_down (p_slices_Clone_impl_Step_impl_Step_does e_a0.Done v4 ev4) (hf_by ff) kr ⟨p_impl_Edited_with_sa ff trivial, ?_⟩; clear ff)
    by_cases c5 : v4.length < 4294967296
    case neg => rw [if_neg c5] at h; cases h
    rw [if_pos c5] at h
    have a6a : esStep v4 ++ [S s_a1.Path, S s_a1.Was, B s_a1.Had, S s_a1.Is, B s_a1.Has] = esStep (v4 ++ [s_a1]) := by simp [esStep_app, esStep_cons, esStep_nil, eStep_eq, esEdited_nil, esStep_nil, esProp_nil]
    have a6b : v4.length + 1 = (v4 ++ [s_a1]).length := by simp
    have ff := ai @g0_j0 (ai @g1_j0 (ai @g2_j0 (ai @g3_j0 (ai @g4_j0 (ai @g5_j0 (ai @g6_j0 (ai @g7_j0 (ai @g8_j0 (ai @dc3 (ai @a6a (ai @a6b p_impl_Edited_with_tf.down)))))))))))
    try refine st_by ff ?_
    repeat' (first | exact trivial | refine And.intro sd ?_)
    cases h
    exact ret_q2 rfl (p_impl_Edited_with_rt ff trivial)
  have hrt_0 := fun σ : ASt => congrFun (congrFun hk_0.symm AX.rt) σ
  have hex_0 := fun (i : Nat) (σ : ASt) => congrFun (congrFun hk_0.symm (AX.ex i)) σ
  by_cases c7 : v1.2 = true
  case neg =>
   rw [if_neg c7] at h
   have dc7 := eq_false_of_ne_true c7
   have ff := ai @hrt_0 (ai @hex_0 (ai @dc7 p_impl_Edited_with_tf.down))
   try refine st_by ff ?_
   repeat' (first | exact trivial | refine And.intro sd ?_)
   refine key_0 _ ?_
   refine ⟨true, h, ?_⟩
   exact p_impl_Edited_with_pv ff trivial
  rw [if_pos c7] at h
  have dc7 := c7
  have ff := ai @hrt_0 (ai @hex_0 (ai @dc7 p_impl_Edited_with_tf.down))
  try refine st_by ff ?_
  repeat' (first | exact trivial | refine And.intro sd ?_)
  refine key_0 _ ?_
  refine ⟨((e_a0.Done.length : Int) == 100), h, ?_⟩
  exact p_impl_Edited_with_pv ff trivial
/-! impl.SetProp -/
def p_impl_SetProp_j1 (N : Nat) (e_a0 : GEdited) (path_a1 : ByteArray) (value_a2 : ByteArray) (v4 : ByteArray × Bool) (b_5 : Bool) : Option (GEdited × Bool) := (if b_5 = true then ((p_impl_Edited_clone e_a0).bind fun v7 => some ((⟨v7.Props, v7.Done, v7.Back⟩ : GEdited), true)) else ((p_impl_Edited_with N e_a0 (⟨path_a1, v4.1, v4.2, value_a2, true⟩ : GStep)).bind fun v8 => some ((⟨v8.1.Props, v8.1.Done, v8.1.Back⟩ : GEdited), v8.2)))
def p_impl_SetProp_j0 (N : Nat) (e_a0 : GEdited) (path_a1 : ByteArray) (value_a2 : ByteArray) (b_2 : Bool) : Option (GEdited × Bool) := (if b_2 = true then some ((⟨([] : List GProp), ([] : List GStep), ([] : List GStep)⟩ : GEdited), false) else ((p_impl_propAt N e_a0.Props path_a1).bind fun v4 => (if v4.2 = true then p_impl_SetProp_j1 N e_a0 path_a1 value_a2 v4 (decide (v4.1 = value_a2)) else p_impl_SetProp_j1 N e_a0 path_a1 value_a2 v4 false)))
def p_impl_SetProp_tf := PLift.up (ai @eEdited_eq (ai @esEdited_len (ai @esEdited_nil (ai @esEdited_leaf (ai @esEdited_fit (ai @eEditedo_eq (ai @esEditedo_len (ai @esEditedo_nil (ai @eStep_eq (ai @esStep_len (ai @esStep_nil (ai @esStep_leaf (ai @esStep_fit (ai @eProp_eq (ai @esProp_len (ai @esProp_nil (ai @esProp_leaf (ai @esProp_fit (ai @esEditedo_share (ai @esEditedo_pure (ai @esStep_share (ai @esStep_pure (ai @esProp_share (ai @esProp_pure (ai @str_beq (ai @Ty.nz31 (ai @Ty.ldA31 (ai @Ty.sz31 (ai @Ty.szn31 (ai @Ty.nz28 (ai @Ty.ldA28 (ai @Ty.ldS28 (ai @Ty.sz28 (ai @Ty.szn28 (ai @Ty.fo31_0 (ai @Ty.fk31_0 (ai @Ty.fs31_0 (ai @Ty.fn31_0 (ai @Ty.zv31 (ai @Ty.bd31 (ai @Ty.bd48 (ai @Ty.zv48 (ai @Ty.pl48_0 (ai @Ty.pl48_1 (ai @Ty.pl48_2 (ai @Ty.pl48_3 (ai @Ty.pl48_4 (ai @Ty.ag31 @trivial))))))))))))))))))))))))))))))))))))))))))))))))
def p_impl_SetProp (N : Nat) (e_a0 : GEdited) (path_a1 : ByteArray) (value_a2 : ByteArray) : Option (GEdited × Bool) := ((p_impl_GoodEdited N e_a0).bind fun v1 => (if v1 = true then ((p_impl_isPath path_a1).bind fun v11 => (if v11 = true then ((p_impl_isPropValue value_a2).bind fun v13 => p_impl_SetProp_j0 N e_a0 path_a1 value_a2 (!v13)) else p_impl_SetProp_j0 N e_a0 path_a1 value_a2 true)) else p_impl_SetProp_j0 N e_a0 path_a1 value_a2 true))
/-! spec.CutProp -/
def p_spec_CutProp_j0 (N : Nat) (e_a0 : GEdited) (path_a1 : ByteArray) (b_2 : Bool) : Option (GEdited × Bool) := (if b_2 = true then some ((⟨([] : List GProp), ([] : List GStep), ([] : List GStep)⟩ : GEdited), false) else ((p_spec_l26Find e_a0.Props path_a1).bind fun v4 => (if v4.2 = true then ((p_spec_l26Step N e_a0 (⟨path_a1, v4.1, true, (⟨#[]⟩ : ByteArray), false⟩ : GStep)).bind fun v6 => some ((⟨v6.1.Props, v6.1.Done, v6.1.Back⟩ : GEdited), v6.2)) else some ((⟨([] : List GProp), ([] : List GStep), ([] : List GStep)⟩ : GEdited), false))))
def p_spec_CutProp_tf := PLift.up (ai @eEdited_eq (ai @esEdited_len (ai @esEdited_nil (ai @esEdited_leaf (ai @esEdited_fit (ai @eEditedo_eq (ai @esEditedo_len (ai @esEditedo_nil (ai @eStep_eq (ai @esStep_len (ai @esStep_nil (ai @esStep_leaf (ai @esStep_fit (ai @eProp_eq (ai @esProp_len (ai @esProp_nil (ai @esProp_leaf (ai @esProp_fit (ai @esEditedo_share (ai @esEditedo_pure (ai @esStep_share (ai @esStep_pure (ai @esProp_share (ai @esProp_pure (ai @str_beq (ai @Ty.nz31 (ai @Ty.ldA31 (ai @Ty.sz31 (ai @Ty.szn31 (ai @Ty.nz28 (ai @Ty.ldA28 (ai @Ty.ldS28 (ai @Ty.sz28 (ai @Ty.szn28 (ai @Ty.fo31_0 (ai @Ty.fk31_0 (ai @Ty.fs31_0 (ai @Ty.fn31_0 (ai @Ty.zv31 (ai @Ty.bd31 (ai @Ty.bd48 (ai @Ty.zv48 (ai @Ty.pl48_0 (ai @Ty.pl48_1 (ai @Ty.pl48_2 (ai @Ty.ag31 @trivial))))))))))))))))))))))))))))))))))))))))))))))
def p_spec_CutProp (N : Nat) (e_a0 : GEdited) (path_a1 : ByteArray) : Option (GEdited × Bool) := ((p_spec_GoodEdited N e_a0).bind fun v1 => (if v1 = true then ((p_spec_l26Path N path_a1).bind fun v8 => p_spec_CutProp_j0 N e_a0 path_a1 (!v8)) else p_spec_CutProp_j0 N e_a0 path_a1 true))
theorem p_spec_CutProp_does (N : Nat) (e_a0 : GEdited) (path_a1 : ByteArray) (r : GEdited × Bool) (h : p_spec_CutProp N e_a0 path_a1 = some r) : Does Tryd.prog 19 [.agg (eEdited e_a0), S path_a1] (.tup [.agg (eEditedo r.1), B r.2]) := by
  rw [p_spec_CutProp] at h
  refine Does.bnd (fun hb => ?_)
  have hb2 : e_a0.Props.length ≤ 9223372036854775807 ∧ e_a0.Done.length ≤ 9223372036854775807 ∧ e_a0.Back.length ≤ 9223372036854775807 := by simpa [AV.fitNs, AV.fitN, eEdited] using hb
  obtain ⟨hl0, hl1, hl2⟩ := hb2
  refine Does.walk (nt := 34) Tryd.func19 rfl rfl (by simp) (by decide) rfl (fun G0 X w0 pv => ?_)
  obtain ⟨v1, ev1, h⟩ := Option.bind_eq_some_iff.1 h
  try dsimp only at h
  have ff := p_spec_CutProp_tf.down
  try refine st_by ff ?_
  repeat' (first | exact trivial | refine And.intro sd ?_)
  first
  | (refine cq_call (p_spec_GoodEdited_does N e_a0 v1 ev1) (hf_by ff) kr ⟨p_impl_Edited_with_sa ff trivial, ?_⟩; clear ff)
  have ff := p_spec_CutProp_tf.down
  try refine st_by ff ?_
  repeat' (first | exact trivial | refine And.intro sd ?_)
  try clear ff
  generalize hk_0 : thenK _ _ = kk_0
  have key_0 : ∀ σ, (∃ b_2 : Bool, (p_spec_CutProp_j0 N e_a0 path_a1 b_2 = some r) ∧ σ.t 1 = S path_a1 ∧ σ.t 2 = .ptr 2 [] 0 ∧ σ.t 4 = .ptr 4 [] 0 ∧ σ.t 15 = B b_2 ∧ σ.m 2 = some (.box true [.row false 2 e_a0.Props.length (esProp e_a0.Props), .row false 5 e_a0.Done.length (esStep e_a0.Done), .row false 5 e_a0.Back.length (esStep e_a0.Back)]) ∧ σ.m 4 = some (.box true [.row true 2 0 [], .row true 5 0 [], .row true 5 0 []])) → kk_0 .nm σ := by
    rintro σ ⟨b_2, h, g0_j0, g1_j0, g2_j0, g3_j0, g4_j0, g5_j0⟩
    rw [← hk_0]
    rw [p_spec_CutProp_j0] at h
    by_cases c3 : b_2 = true
    · rw [if_pos c3] at h
      have dc3 := c3
      have ff := ai @g0_j0 (ai @g1_j0 (ai @g2_j0 (ai @g3_j0 (ai @g4_j0 (ai @g5_j0 (ai @dc3 p_spec_CutProp_tf.down))))))
      try refine st_by ff ?_
      repeat' (first | exact trivial | refine And.intro sd ?_)
      cases h
      exact ret_q2 rfl (p_impl_Edited_with_rt ff trivial)
    rw [if_neg c3] at h
    have dc3 := eq_false_of_ne_true c3
    obtain ⟨v4, ev4, h⟩ := Option.bind_eq_some_iff.1 h
    try dsimp only at h
    have ff := ai @g0_j0 (ai @g1_j0 (ai @g2_j0 (ai @g3_j0 (ai @g4_j0 (ai @g5_j0 (ai @dc3 p_spec_CutProp_tf.down))))))
    try refine st_by ff ?_
    repeat' (first | exact trivial | refine And.intro sd ?_)
    first
    | (refine cq_call (p_spec_l26Find_does e_a0.Props path_a1 v4 ev4) (hf_by ff) kr ⟨p_impl_Edited_with_sa ff trivial, ?_⟩; clear ff)
    by_cases c5 : v4.2 = true
    case neg =>
     rw [if_neg c5] at h
     have dc5 := eq_false_of_ne_true c5
     have ff := ai @g0_j0 (ai @g1_j0 (ai @g2_j0 (ai @g3_j0 (ai @g4_j0 (ai @g5_j0 (ai @dc3 (ai @dc5 p_spec_CutProp_tf.down)))))))
     try refine st_by ff ?_
     repeat' (first | exact trivial | refine And.intro sd ?_)
     cases h
     exact ret_q2 rfl (p_impl_Edited_with_rt ff trivial)
    rw [if_pos c5] at h
    have dc5 := c5
    obtain ⟨v6, ev6, h⟩ := Option.bind_eq_some_iff.1 h
    try dsimp only at h
    have ff := ai @g0_j0 (ai @g1_j0 (ai @g2_j0 (ai @g3_j0 (ai @g4_j0 (ai @g5_j0 (ai @dc3 (ai @dc5 p_spec_CutProp_tf.down)))))))
    try refine st_by ff ?_
    repeat' (first | exact trivial | refine And.intro sd ?_)
    first
    | (refine cq_own (p_spec_l26Step_does N e_a0 (⟨path_a1, v4.1, true, (⟨#[]⟩ : ByteArray), false⟩ : GStep) v6 ev6) (hf_by ff) kr ⟨p_impl_Edited_with_sa ff trivial, ?_⟩; clear ff)
    have ff := ai @g0_j0 (ai @g1_j0 (ai @g2_j0 (ai @g3_j0 (ai @g4_j0 (ai @g5_j0 (ai @dc3 (ai @dc5 p_spec_CutProp_tf.down)))))))
    try refine st_by ff ?_
    repeat' (first | exact trivial | refine And.intro sd ?_)
    cases h
    exact ret_q2 rfl (p_impl_Edited_with_rt ff trivial)
  have hrt_0 := fun σ : ASt => congrFun (congrFun hk_0.symm AX.rt) σ
  have hex_0 := fun (i : Nat) (σ : ASt) => congrFun (congrFun hk_0.symm (AX.ex i)) σ
  by_cases c7 : v1 = true
  case neg =>
   rw [if_neg c7] at h
   have dc7 := eq_false_of_ne_true c7
   have ff := ai @hrt_0 (ai @hex_0 (ai @dc7 p_spec_CutProp_tf.down))
   try refine st_by ff ?_
   repeat' (first | exact trivial | refine And.intro sd ?_)
   refine key_0 _ ?_
   refine ⟨true, h, ?_⟩
   exact p_impl_Edited_with_pv ff trivial
  rw [if_pos c7] at h
  have dc7 := c7
  obtain ⟨v8, ev8, h⟩ := Option.bind_eq_some_iff.1 h
  try dsimp only at h
  have ff := ai @hrt_0 (ai @hex_0 (ai @dc7 p_spec_CutProp_tf.down))
  try refine st_by ff ?_
  repeat' (first | exact trivial | refine And.intro sd ?_)
  first
  | (refine cq_call (p_spec_l26Path_does N path_a1 v8 ev8) (hf_by ff) kr ⟨p_impl_Edited_with_sa ff trivial, ?_⟩; clear ff)
  have ff := ai @hrt_0 (ai @hex_0 (ai @dc7 p_spec_CutProp_tf.down))
  try refine st_by ff ?_
  repeat' (first | exact trivial | refine And.intro sd ?_)
  refine key_0 _ ?_
  refine ⟨!v8, h, ?_⟩
  exact p_impl_Edited_with_pv ff trivial
/-! impl.CutProp -/
def p_impl_CutProp_j0 (N : Nat) (e_a0 : GEdited) (path_a1 : ByteArray) (v1 : ByteArray × Bool) (b_3 : Bool) : Option (GEdited × Bool) := (if b_3 = true then some ((⟨([] : List GProp), ([] : List GStep), ([] : List GStep)⟩ : GEdited), false) else ((p_impl_Edited_with N e_a0 (⟨path_a1, v1.1, true, (⟨#[]⟩ : ByteArray), false⟩ : GStep)).bind fun v5 => some ((⟨v5.1.Props, v5.1.Done, v5.1.Back⟩ : GEdited), v5.2)))
def p_impl_CutProp_tf := PLift.up (ai @eEdited_eq (ai @esEdited_len (ai @esEdited_nil (ai @esEdited_leaf (ai @esEdited_fit (ai @eEditedo_eq (ai @esEditedo_len (ai @esEditedo_nil (ai @eStep_eq (ai @esStep_len (ai @esStep_nil (ai @esStep_leaf (ai @esStep_fit (ai @eProp_eq (ai @esProp_len (ai @esProp_nil (ai @esProp_leaf (ai @esProp_fit (ai @esEditedo_share (ai @esEditedo_pure (ai @esStep_share (ai @esStep_pure (ai @esProp_share (ai @esProp_pure (ai @str_beq (ai @Ty.nz28 (ai @Ty.ldA28 (ai @Ty.ldS28 (ai @Ty.sz28 (ai @Ty.szn28 (ai @Ty.nz31 (ai @Ty.ldA31 (ai @Ty.sz31 (ai @Ty.szn31 (ai @Ty.fo31_0 (ai @Ty.fk31_0 (ai @Ty.fs31_0 (ai @Ty.fn31_0 (ai @Ty.zv31 (ai @Ty.bd31 (ai @Ty.bd48 (ai @Ty.zv48 (ai @Ty.pl48_0 (ai @Ty.pl48_1 (ai @Ty.pl48_2 (ai @Ty.ag31 @trivial))))))))))))))))))))))))))))))))))))))))))))))
def p_impl_CutProp (N : Nat) (e_a0 : GEdited) (path_a1 : ByteArray) : Option (GEdited × Bool) := ((p_impl_propAt N e_a0.Props path_a1).bind fun v1 => ((p_impl_GoodEdited N e_a0).bind fun v2 => (if v2 = true then ((p_impl_isPath path_a1).bind fun v7 => (if v7 = true then p_impl_CutProp_j0 N e_a0 path_a1 v1 (!v1.2) else p_impl_CutProp_j0 N e_a0 path_a1 v1 true)) else p_impl_CutProp_j0 N e_a0 path_a1 v1 true)))
theorem p_impl_CutProp_does (N : Nat) (e_a0 : GEdited) (path_a1 : ByteArray) (r : GEdited × Bool) (h : p_impl_CutProp N e_a0 path_a1 = some r) : Does Tryd.prog 20 [.agg (eEdited e_a0), S path_a1] (.tup [.agg (eEditedo r.1), B r.2]) := by
  rw [p_impl_CutProp] at h
  refine Does.bnd (fun hb => ?_)
  have hb2 : e_a0.Props.length ≤ 9223372036854775807 ∧ e_a0.Done.length ≤ 9223372036854775807 ∧ e_a0.Back.length ≤ 9223372036854775807 := by simpa [AV.fitNs, AV.fitN, eEdited] using hb
  obtain ⟨hl0, hl1, hl2⟩ := hb2
  refine Does.walk (nt := 35) Tryd.func20 rfl rfl (by simp) (by decide) rfl (fun G0 X w0 pv => ?_)
  obtain ⟨v1, ev1, h⟩ := Option.bind_eq_some_iff.1 h
  try dsimp only at h
  have ff := p_impl_CutProp_tf.down
  try refine st_by ff ?_
  repeat' (first | exact trivial | refine And.intro sd ?_)
  first
  | (refine cq_call (p_impl_propAt_does N e_a0.Props path_a1 v1 ev1) (hf_by ff) kr ⟨p_impl_Edited_with_sa ff trivial, ?_⟩; clear ff)
  obtain ⟨v2, ev2, h⟩ := Option.bind_eq_some_iff.1 h
  try dsimp only at h
  have ff := p_impl_CutProp_tf.down
  try refine st_by ff ?_
  repeat' (first | exact trivial | refine And.intro sd ?_)
  first
  | (refine cq_call (p_impl_GoodEdited_does N e_a0 v2 ev2) (hf_by ff) kr ⟨p_impl_Edited_with_sa ff trivial, ?_⟩; clear ff)
  have ff := p_impl_CutProp_tf.down
  try refine st_by ff ?_
  repeat' (first | exact trivial | refine And.intro sd ?_)
  try clear ff
  generalize hk_0 : thenK _ _ = kk_0
  have key_0 : ∀ σ, (∃ b_3 : Bool, (p_impl_CutProp_j0 N e_a0 path_a1 v1 b_3 = some r) ∧ σ.t 1 = S path_a1 ∧ σ.t 2 = .ptr 2 [] 0 ∧ σ.t 4 = .ptr 4 [] 0 ∧ σ.t 6 = S v1.1 ∧ σ.t 26 = B b_3 ∧ σ.m 2 = some (.box true [.row false 2 e_a0.Props.length (esProp e_a0.Props), .row false 5 e_a0.Done.length (esStep e_a0.Done), .row false 5 e_a0.Back.length (esStep e_a0.Back)]) ∧ σ.m 4 = some (.box true [.row true 2 0 [], .row true 5 0 [], .row true 5 0 []])) → kk_0 .nm σ := by
    rintro σ ⟨b_3, h, g0_j0, g1_j0, g2_j0, g3_j0, g4_j0, g5_j0, g6_j0⟩
    rw [← hk_0]
    rw [p_impl_CutProp_j0] at h
    by_cases c4 : b_3 = true
    · rw [if_pos c4] at h
      have dc4 := c4
      have ff := ai @g0_j0 (ai @g1_j0 (ai @g2_j0 (ai @g3_j0 (ai @g4_j0 (ai @g5_j0 (ai @g6_j0 (ai @dc4 p_impl_CutProp_tf.down)))))))
      try refine st_by ff ?_
      repeat' (first | exact trivial | refine And.intro sd ?_)
      cases h
      exact ret_q2 rfl (p_impl_Edited_with_rt ff trivial)
    rw [if_neg c4] at h
    have dc4 := eq_false_of_ne_true c4
    obtain ⟨v5, ev5, h⟩ := Option.bind_eq_some_iff.1 h
    try dsimp only at h
    have ff := ai @g0_j0 (ai @g1_j0 (ai @g2_j0 (ai @g3_j0 (ai @g4_j0 (ai @g5_j0 (ai @g6_j0 (ai @dc4 p_impl_CutProp_tf.down)))))))
    try refine st_by ff ?_
    repeat' (first | exact trivial | refine And.intro sd ?_)
    first
    | (refine cq_own (p_impl_Edited_with_does N e_a0 (⟨path_a1, v1.1, true, (⟨#[]⟩ : ByteArray), false⟩ : GStep) v5 ev5) (hf_by ff) kr ⟨p_impl_Edited_with_sa ff trivial, ?_⟩; clear ff)
    have ff := ai @g0_j0 (ai @g1_j0 (ai @g2_j0 (ai @g3_j0 (ai @g4_j0 (ai @g5_j0 (ai @g6_j0 (ai @dc4 p_impl_CutProp_tf.down)))))))
    try refine st_by ff ?_
    repeat' (first | exact trivial | refine And.intro sd ?_)
    cases h
    exact ret_q2 rfl (p_impl_Edited_with_rt ff trivial)
  have hrt_0 := fun σ : ASt => congrFun (congrFun hk_0.symm AX.rt) σ
  have hex_0 := fun (i : Nat) (σ : ASt) => congrFun (congrFun hk_0.symm (AX.ex i)) σ
  by_cases c6 : v2 = true
  case neg =>
   rw [if_neg c6] at h
   have dc6 := eq_false_of_ne_true c6
   have ff := ai @hrt_0 (ai @hex_0 (ai @dc6 p_impl_CutProp_tf.down))
   try refine st_by ff ?_
   repeat' (first | exact trivial | refine And.intro sd ?_)
   refine key_0 _ ?_
   refine ⟨true, h, ?_⟩
   exact p_impl_Edited_with_pv ff trivial
  rw [if_pos c6] at h
  have dc6 := c6
  obtain ⟨v7, ev7, h⟩ := Option.bind_eq_some_iff.1 h
  try dsimp only at h
  have ff := ai @hrt_0 (ai @hex_0 (ai @dc6 p_impl_CutProp_tf.down))
  try refine st_by ff ?_
  repeat' (first | exact trivial | refine And.intro sd ?_)
  first
  | (refine cq_call (p_impl_isPath_does path_a1 v7 ev7) (hf_by ff) kr ⟨p_impl_Edited_with_sa ff trivial, ?_⟩; clear ff)
  by_cases c8 : v7 = true
  case neg =>
   rw [if_neg c8] at h
   have dc8 := eq_false_of_ne_true c8
   have ff := ai @hrt_0 (ai @hex_0 (ai @dc6 (ai @dc8 p_impl_CutProp_tf.down)))
   try refine st_by ff ?_
   repeat' (first | exact trivial | refine And.intro sd ?_)
   refine key_0 _ ?_
   refine ⟨true, h, ?_⟩
   exact p_impl_Edited_with_pv ff trivial
  rw [if_pos c8] at h
  have dc8 := c8
  have ff := ai @hrt_0 (ai @hex_0 (ai @dc6 (ai @dc8 p_impl_CutProp_tf.down)))
  try refine st_by ff ?_
  repeat' (first | exact trivial | refine And.intro sd ?_)
  refine key_0 _ ?_
  refine ⟨!v1.2, h, ?_⟩
  exact p_impl_Edited_with_pv ff trivial
end Go.Av
end
end
