/- spec.GoodWorld -/
import Derived.Test.YtohjaenckkppaaaBLC
import Derived.Test.YtohjaenckkppaaaBFA
set_option linter.unusedSimpArgs false
set_option linter.unusedVariables false
set_option maxRecDepth 100000
set_option maxHeartbeats 1000000
namespace Go.Av
open Go.Proofs
/-! spec.GoodWorld -/
def p_spec_GoodWorld_l1 (w_a0 : GWorld) (x_0 : GEntity) : List GPart → Nat → Option (LR (Bool) (Unit))
  | [], i_1 => some (.out ())
  | x_1 :: r_1, i_1 => (if x_1.Name.size ≤ 9223372036854775807 then (if (goodName x_1.Name) = true then (if (rng x_1.Tick 0 w_a0.Tick) = true then (if (i_1 : Int) > 0 then ((idx x_0.Parts (IntKind.i64.wrap ((i_1 : Int) - 1))).bind fun x110 => (if (Op.bytesLess x110.Name.toList x_1.Name.toList) = true then p_spec_GoodWorld_l1 w_a0 x_0 r_1 (i_1 + 1) else some (.ret false))) else p_spec_GoodWorld_l1 w_a0 x_0 r_1 (i_1 + 1)) else some (.ret false)) else some (.ret false)) else none)
def p_spec_GoodWorld_j1 (w_a0 : GWorld) (x_0 : GEntity) (i_0 : Nat) (rec_0 : Nat → Option (LR (Bool) (Unit))) (b_82 : Bool) : Option (LR (Bool) (Unit)) := (if b_82 = true then some (.ret false) else (if x_0.Parts.length ≤ 9223372036854775807 then ((p_spec_GoodWorld_l1 w_a0 x_0 x_0.Parts 0).bind fun q_1 => match q_1 with | .ret r_ => some (.ret r_) | .out _ => rec_0 (i_0 + 1)) else none))
def p_spec_GoodWorld_l0 (w_a0 : GWorld) : List GEntity → Nat → Option (LR (Bool) (Unit))
  | [], i_0 => some (.out ())
  | x_0 :: r_0, i_0 => (if (rng x_0.Id 1 (IntKind.i64.wrap (w_a0.Next - 1))) = true then (if (i_0 : Int) > 0 then ((idx w_a0.Entities (IntKind.i64.wrap ((i_0 : Int) - 1))).bind fun x115 => (if x115.Id ≥ x_0.Id then p_spec_GoodWorld_j1 w_a0 x_0 i_0 (p_spec_GoodWorld_l0 w_a0 r_0) true else p_spec_GoodWorld_j1 w_a0 x_0 i_0 (p_spec_GoodWorld_l0 w_a0 r_0) (decide ((x_0.Parts.length : Int) > 12)))) else p_spec_GoodWorld_j1 w_a0 x_0 i_0 (p_spec_GoodWorld_l0 w_a0 r_0) (decide ((x_0.Parts.length : Int) > 12))) else p_spec_GoodWorld_j1 w_a0 x_0 i_0 (p_spec_GoodWorld_l0 w_a0 r_0) true)
def p_spec_GoodWorld_j0 (w_a0 : GWorld) (b_1 : Bool) : Option (Bool) := (if b_1 = true then some false else ((p_spec_GoodWorld_l0 w_a0 w_a0.Entities 0).bind fun q_0 => match q_0 with | .ret r_ => some r_ | .out _ => some true))
theorem p_spec_GoodWorld_pv {F C A : Prop} (hF : F) (hC : C) (h : F → C → A := by intro hF hC; first | exact cl_by hF | (refine st_by hF ?_; (repeat' (first | exact trivial | apply And.intro)); all_goals (clear hF; first | rfl | (simp only [hC, List.length_append, List.length_cons, List.length_nil, List.append_nil, List.nil_append, List.cons_append, List.length_set, List.append_assoc, Nat.zero_add, List.length_replicate, esWorld_app, esWorld_cons, esWorld_nil, eWorld_eq, esWorldo_app, esWorldo_cons, esWorldo_nil, eWorldo_eq, esEntity_app, esEntity_cons, esEntity_nil, eEntity_eq, esEntityo_app, esEntityo_cons, esEntityo_nil, eEntityo_eq, esPart_app, esPart_cons, esPart_nil, ePart_eq]; done) | (simp [hC, List.length_append, List.length_cons, List.length_nil, List.append_nil, List.nil_append, List.cons_append, List.length_set, List.append_assoc, Nat.zero_add, List.length_replicate, esWorld_app, esWorld_cons, esWorld_nil, eWorld_eq, esWorldo_app, esWorldo_cons, esWorldo_nil, eWorldo_eq, esEntity_app, esEntity_cons, esEntity_nil, eEntity_eq, esEntityo_app, esEntityo_cons, esEntityo_nil, eEntityo_eq, esPart_app, esPart_cons, esPart_nil, ePart_eq]; done) | omega))) : A := h hF hC
theorem p_spec_GoodWorld_sa {F C A : Prop} (hF : F) (hC : C) (h : F → C → A := by intro hF hC; first | exact ca_by hF | (refine sa_by hF ?_; (repeat' (first | exact trivial | apply And.intro)); all_goals (clear hF; first | rfl | (simp only [hC, List.length_append, List.length_cons, List.length_nil, List.append_nil, List.nil_append, List.cons_append, List.length_set, List.append_assoc, Nat.zero_add, List.length_replicate, esWorld_app, esWorld_cons, esWorld_nil, eWorld_eq, esWorldo_app, esWorldo_cons, esWorldo_nil, eWorldo_eq, esEntity_app, esEntity_cons, esEntity_nil, eEntity_eq, esEntityo_app, esEntityo_cons, esEntityo_nil, eEntityo_eq, esPart_app, esPart_cons, esPart_nil, ePart_eq]; done) | (simp [hC, List.length_append, List.length_cons, List.length_nil, List.append_nil, List.nil_append, List.cons_append, List.length_set, List.append_assoc, Nat.zero_add, List.length_replicate, esWorld_app, esWorld_cons, esWorld_nil, eWorld_eq, esWorldo_app, esWorldo_cons, esWorldo_nil, eWorldo_eq, esEntity_app, esEntity_cons, esEntity_nil, eEntity_eq, esEntityo_app, esEntityo_cons, esEntityo_nil, eEntityo_eq, esPart_app, esPart_cons, esPart_nil, ePart_eq]; done) | omega))) : A := h hF hC
theorem p_spec_GoodWorld_rt {F C A : Prop} (hF : F) (hC : C) (h : F → C → A := by intro hF hC; first | (refine sr_by hF ?_; (repeat' (first | exact trivial | apply And.intro)); all_goals (clear hF; first | rfl | (simp only [hC, List.length_append, List.length_cons, List.length_nil, List.append_nil, List.nil_append, List.cons_append, List.length_set, List.append_assoc, Nat.zero_add, List.length_replicate, esWorld_app, esWorld_cons, esWorld_nil, eWorld_eq, esWorldo_app, esWorldo_cons, esWorldo_nil, eWorldo_eq, esEntity_app, esEntity_cons, esEntity_nil, eEntity_eq, esEntityo_app, esEntityo_cons, esEntityo_nil, eEntityo_eq, esPart_app, esPart_cons, esPart_nil, ePart_eq]; done) | (simp [hC, List.length_append, List.length_cons, List.length_nil, List.append_nil, List.nil_append, List.cons_append, List.length_set, List.append_assoc, Nat.zero_add, List.length_replicate, esWorld_app, esWorld_cons, esWorld_nil, eWorld_eq, esWorldo_app, esWorldo_cons, esWorldo_nil, eWorldo_eq, esEntity_app, esEntity_cons, esEntity_nil, eEntity_eq, esEntityo_app, esEntityo_cons, esEntityo_nil, eEntityo_eq, esPart_app, esPart_cons, esPart_nil, ePart_eq]; done) | omega)) | (first | rfl | (simp only [hC, List.length_append, List.length_cons, List.length_nil, List.append_nil, List.nil_append, List.cons_append, List.length_set, List.append_assoc, Nat.zero_add, List.length_replicate, esWorld_app, esWorld_cons, esWorld_nil, eWorld_eq, esWorldo_app, esWorldo_cons, esWorldo_nil, eWorldo_eq, esEntity_app, esEntity_cons, esEntity_nil, eEntity_eq, esEntityo_app, esEntityo_cons, esEntityo_nil, eEntityo_eq, esPart_app, esPart_cons, esPart_nil, ePart_eq]; done) | (simp [hC, List.length_append, List.length_cons, List.length_nil, List.append_nil, List.nil_append, List.cons_append, List.length_set, List.append_assoc, Nat.zero_add, List.length_replicate, esWorld_app, esWorld_cons, esWorld_nil, eWorld_eq, esWorldo_app, esWorldo_cons, esWorldo_nil, eWorldo_eq, esEntity_app, esEntity_cons, esEntity_nil, eEntity_eq, esEntityo_app, esEntityo_cons, esEntityo_nil, eEntityo_eq, esPart_app, esPart_cons, esPart_nil, ePart_eq]; done) | omega)) : A := h hF hC
def p_spec_GoodWorld_tf := PLift.up (And.intro @eWorld_eq (And.intro @esWorld_len (And.intro @esWorld_nil (And.intro @esWorld_leaf (And.intro @esWorld_fit (And.intro @eWorldo_eq (And.intro @esWorldo_len (And.intro @esWorldo_nil (And.intro @eEntity_eq (And.intro @esEntity_len (And.intro @esEntity_nil (And.intro @esEntity_leaf (And.intro @esEntity_fit (And.intro @eEntityo_eq (And.intro @esEntityo_len (And.intro @esEntityo_nil (And.intro @ePart_eq (And.intro @esPart_len (And.intro @esPart_nil (And.intro @esPart_leaf (And.intro @esPart_fit (And.intro @esWorldo_share (And.intro @esWorldo_pure (And.intro @esEntityo_share (And.intro @esEntityo_pure (And.intro @esPart_share (And.intro @esPart_pure (And.intro @str_beq (And.intro @Ty.sl26 (And.intro @Ty.slz26 (And.intro @Ty.sl44 (And.intro @Ty.slz44 (And.intro @Ty.nz3 (And.intro @Ty.ldA3 (And.intro @Ty.ldS3 (And.intro @Ty.sz3 (And.intro @Ty.szn3 (And.intro @Ty.nz26 (And.intro @Ty.ldA26 (And.intro @Ty.ldS26 (And.intro @Ty.sz26 (And.intro @Ty.szn26 (And.intro @Ty.nz46 (And.intro @Ty.ldA46 (And.intro @Ty.sz46 (And.intro @Ty.szn46 (And.intro @Ty.nz44 (And.intro @Ty.ldA44 (And.intro @Ty.ldS44 (And.intro @Ty.sz44 (And.intro @Ty.szn44 (And.intro @Ty.nz58 (And.intro @Ty.ldA58 (And.intro @Ty.sz58 (And.intro @Ty.szn58 (And.intro @Ty.nz9 (And.intro @Ty.ldA9 (And.intro @Ty.ldS9 (And.intro @Ty.sz9 (And.intro @Ty.szn9 (And.intro @Ty.fo28_0 (And.intro @Ty.fk28_0 (And.intro @Ty.fs28_0 (And.intro @Ty.fn28_0 (And.intro @Ty.fo28_1 (And.intro @Ty.fk28_1 (And.intro @Ty.fs28_1 (And.intro @Ty.fn28_1 (And.intro @Ty.fo28_2 (And.intro @Ty.fk28_2 (And.intro @Ty.fs28_2 (And.intro @Ty.fn28_2 (And.intro @Ty.fo46_0 (And.intro @Ty.fk46_0 (And.intro @Ty.fs46_0 (And.intro @Ty.fn46_0 (And.intro @Ty.fo46_1 (And.intro @Ty.fk46_1 (And.intro @Ty.fs46_1 (And.intro @Ty.fn46_1 (And.intro @Ty.fo58_0 (And.intro @Ty.fk58_0 (And.intro @Ty.fs58_0 (And.intro @Ty.fn58_0 (And.intro @Ty.fo58_2 (And.intro @Ty.fk58_2 (And.intro @Ty.fs58_2 (And.intro @Ty.fn58_2 (And.intro @Ty.zv46 (And.intro @Ty.zv58 @trivial))))))))))))))))))))))))))))))))))))))))))))))))))))))))))))))))))))))))))))))))))))))))))
def p_spec_GoodWorld (w_a0 : GWorld) : Option (Bool) := (if (rng w_a0.Next 1 1000000) = true then (if (rng w_a0.Tick 0 1000000) = true then p_spec_GoodWorld_j0 w_a0 (decide ((w_a0.Entities.length : Int) > 60)) else p_spec_GoodWorld_j0 w_a0 true) else p_spec_GoodWorld_j0 w_a0 true)
theorem p_spec_GoodWorld_does (w_a0 : GWorld) (r : Bool) (h : p_spec_GoodWorld w_a0 = some r) : Does Try.prog 15 [.agg (eWorld w_a0)] (B r) := by
  rw [p_spec_GoodWorld] at h
  refine Does.bnd (fun hb => ?_)
  have hb2 : w_a0.Entities.length ≤ 9223372036854775807 := by simpa [AV.fitNs, AV.fitN, eWorld] using hb
  have hl0 := hb2
  refine Does.walk (nt := 98) Try.func15 rfl rfl (by simp) (by decide) rfl (fun G0 X w0 pv => ?_)
  have ff := p_spec_GoodWorld_tf.down
  try refine st_by ff ?_
  repeat' (first | exact trivial | refine And.intro sd ?_)
  first
  | (refine cq_call (l1In_does w_a0.Next 1 1000000) (hf_by ff) kr ⟨p_spec_GoodWorld_sa ff trivial, ?_⟩; clear ff)
  | (refine cq_dcall (l1In_does w_a0.Next 1 1000000) (hf_by ff) kr ⟨p_spec_GoodWorld_sa ff trivial, ?_⟩; clear ff)
  have ff := p_spec_GoodWorld_tf.down
  try refine st_by ff ?_
  repeat' (first | exact trivial | refine And.intro sd ?_)
  try clear ff
  generalize hk_0 : thenK _ _ = kk_0
  have key_0 : ∀ σ, (∃ b_1 : Bool, (p_spec_GoodWorld_j0 w_a0 b_1 = some r) ∧ σ.t 1 = .ptr 1 [] 0 ∧ σ.t 22 = B b_1 ∧ σ.m 1 = some (.box true [I w_a0.Next, I w_a0.Tick, .row false 2 w_a0.Entities.length (esEntity w_a0.Entities)])) → kk_0 .nm σ := by
    rintro σ ⟨b_1, h, g0_j0, g1_j0, g2_j0⟩
    rw [← hk_0]
    rw [p_spec_GoodWorld_j0] at h
    by_cases c2 : b_1 = true
    · rw [if_pos c2] at h
      have dc2 := c2
      have ff := And.intro @g0_j0 (And.intro @g1_j0 (And.intro @g2_j0 (And.intro @dc2 p_spec_GoodWorld_tf.down)))
      try refine st_by ff ?_
      repeat' (first | exact trivial | refine And.intro sd ?_)
      cases h
      exact ret_q1 rfl (p_spec_GoodWorld_rt ff trivial)
    rw [if_neg c2] at h
    have dc2 := eq_false_of_ne_true c2
    have hL_0 : w_a0.Entities.length ≤ 9223372036854775807 := by first | assumption | omega
    obtain ⟨q_0, eq_0, h⟩ := Option.bind_eq_some_iff.1 h
    have ff := And.intro @g0_j0 (And.intro @g1_j0 (And.intro @g2_j0 (And.intro @dc2 p_spec_GoodWorld_tf.down)))
    try refine st_by ff ?_
    repeat' (first | exact trivial | refine And.intro sd ?_)
    obtain ⟨I_0, hI_0⟩ : ∃ I_ : (Nat) → ASt → Prop, I_ = (fun (i_0 : Nat) σ => (i_0 ≤ w_a0.Entities.length ∧ p_spec_GoodWorld_l0 w_a0 (w_a0.Entities.drop i_0) i_0 = some q_0) ∧ σ.t 1 = .ptr 1 [] 0 ∧ σ.t 24 = .row false 2 w_a0.Entities.length (esEntity w_a0.Entities) ∧ σ.t 25 = I (w_a0.Entities.length : Int) ∧ σ.t 26 = I (i_0 : Int) ∧ σ.m 1 = some (.box true [I w_a0.Next, I w_a0.Tick, .row false 2 w_a0.Entities.length (esEntity w_a0.Entities)])) := ⟨_, rfl⟩
    obtain ⟨M_0, hM_0⟩ : ∃ M_ : (Nat) → Nat, M_ = (fun (i_0 : Nat) => w_a0.Entities.length - i_0) := ⟨_, rfl⟩
    obtain ⟨J_0, hJ_0⟩ : ∃ J_ : ASt → Prop, J_ = (fun σ => (some (.out ()) = some q_0) ∧ True) := ⟨_, rfl⟩
    refine aw_loopC (id := 0) I_0 M_0 J_0 (0) ?_ ?_ ?_
    · rw [hI_0]
      refine ⟨⟨Nat.zero_le _, eq_0⟩, ?_⟩
      exact p_spec_GoodWorld_pv ff trivial
    · try clear ff
      rintro i_0 σ hg_0
      rw [hI_0] at hg_0
      obtain ⟨⟨hi_0, h_0⟩, g0_0, g1_0, g2_0, g3_0, g4_0⟩ := hg_0
      cases hr_0 : w_a0.Entities.drop i_0 with
      | nil =>
        rw [hr_0] at h_0
        rw [p_spec_GoodWorld_l0] at h_0
        have hn_0 := drop_nil hr_0
        have dr_0 : decide ((i_0 : Int) < (w_a0.Entities.length : Int)) = false := decide_eq_false (by omega)
        have ff := And.intro @dc2 (And.intro @dr_0 (And.intro @g0_0 (And.intro @g1_0 (And.intro @g2_0 (And.intro @g3_0 (And.intro @g4_0 p_spec_GoodWorld_tf.down))))))
        try refine st_by ff ?_
        repeat' (first | exact trivial | refine And.intro sd ?_)
        refine JW.intro ?_
        rw [hJ_0]
        refine ⟨h_0, ?_⟩
        exact p_spec_GoodWorld_pv ff trivial
      | cons x_0 r_0 =>
        rw [hr_0] at h_0
        rw [p_spec_GoodWorld_l0] at h_0
        obtain ⟨ht_0, hg_0, hd_0⟩ := drop_cons hr_0
        have dr_0 : decide ((i_0 : Int) < (w_a0.Entities.length : Int)) = true := decide_eq_true (by omega)
        have w_0 : IntKind.i64.wrap ((i_0 : Int) + 1) = ((i_0 + 1 : Nat) : Int) := wI _ (by omega) (by omega)
        have kk0c : (esEntity w_a0.Entities).drop (i_0 * 2) = eEntity x_0 ++ esEntity (w_a0.Entities.drop (i_0 + 1)) := drop_enc (fun _ => rfl) (hg_0)
        have ff := And.intro @dc2 (And.intro @dr_0 (And.intro @w_0 (And.intro @g0_0 (And.intro @g1_0 (And.intro @g2_0 (And.intro @g3_0 (And.intro @g4_0 (And.intro @kk0c p_spec_GoodWorld_tf.down))))))))
        try refine st_by ff ?_
        repeat' (first | exact trivial | refine And.intro sd ?_ | (refine aw_drawn (id := 6) ?_ [[], [0], [], [2], [2, 3], [0, 1, 2, 3, 4], [0, 1, 2, 3, 4, 5], [0, 1, 2, 3, 4, 5, 6], [0, 1, 2, 3, 4, 5, 6, 7], [0, 1, 2, 3, 4, 5, 6, 7, 8], [0, 1, 2, 3, 4, 5, 6, 7, 8, 9], [0, 1, 2, 3, 4, 5, 6, 7, 8, 9, 10], [0, 1, 2, 3, 4, 5, 6, 7, 8, 9, 10, 11], [0, 1, 2, 3, 4, 5, 6, 7, 8, 9, 10], [0, 1, 2, 3, 4, 5, 6, 7, 8, 9, 10, 13], [0, 1, 2, 3, 4, 5, 6, 7, 8, 9, 10, 11, 12, 13, 14], [0, 1, 2, 3, 4, 5, 6, 7, 8, 9, 10, 11, 12, 13, 14, 15], [0, 1, 2, 3, 4, 5, 6, 7, 8, 9, 10, 11, 12, 13, 14, 15, 16], [0, 1, 2, 3, 4, 5, 6, 7, 8, 9, 10], [0, 1, 2, 3, 4, 5, 6, 7, 8, 9, 10, 18], [0, 1, 2, 3, 4, 5, 6, 7, 8, 9, 10, 11, 12, 13, 14, 15, 16, 17, 18, 19], [0, 1, 2, 3, 4, 5, 6, 7, 8, 9, 10, 11, 12, 13, 14, 15, 16, 17, 18, 19, 20], [0, 1, 2, 3, 4, 5, 6, 7, 8, 9, 10, 11, 12, 13, 14, 15, 16, 17, 18, 19, 20, 21], [0, 1, 2, 3, 4, 5, 6, 7, 8, 9, 10, 11, 12, 13, 14, 15, 16, 17, 18, 19, 20, 21, 22], [0, 1, 2, 3, 4, 5, 6, 7, 8, 9, 10, 11, 12, 13, 14, 15, 16, 17, 18, 19, 20, 21, 22, 23], [0, 1, 2, 3, 4, 5, 6, 7, 8, 9, 10, 11, 12, 13, 14, 15, 16, 17, 18, 19, 20, 21, 22, 23, 24], [0, 1, 2, 3, 4, 5, 6, 7, 8, 9, 10, 11, 12, 13, 14, 15, 16, 17, 18, 19, 20, 21, 22, 23, 24, 25], [0, 1, 2, 3, 4, 5, 6, 7, 8, 9, 10, 11, 12, 13, 14, 15, 16, 17, 18, 19, 20, 21, 22, 23, 24, 25, 26], [0, 1, 2, 3, 4, 5, 6, 7, 8, 9, 10, 11, 12, 13, 14, 15, 16, 17, 18, 19, 20, 21, 22, 23, 24, 25, 26, 27]] 20 ?_ ?_; (· kernel_rfl); (· kernel_rfl); refine st_by ff ?_))
        first
        | (refine cq_call (l1In_does x_0.Id 1 (IntKind.i64.wrap (w_a0.Next - 1))) (hf_by ff) kr ⟨p_spec_GoodWorld_sa ff trivial, ?_⟩; clear ff)
        | (refine cq_dcall (l1In_does x_0.Id 1 (IntKind.i64.wrap (w_a0.Next - 1))) (hf_by ff) kr ⟨p_spec_GoodWorld_sa ff trivial, ?_⟩; clear ff)
        have ff := And.intro @dc2 (And.intro @dr_0 (And.intro @w_0 (And.intro @g0_0 (And.intro @g1_0 (And.intro @g2_0 (And.intro @g3_0 (And.intro @g4_0 (And.intro @kk0c p_spec_GoodWorld_tf.down))))))))
        try refine st_by ff ?_
        repeat' (first | exact trivial | refine And.intro sd ?_)
        try clear ff
        generalize hk_1 : thenK _ _ = kk_1
        have key_1 : ∀ σ, (∃ b_82 : Bool, (p_spec_GoodWorld_j1 w_a0 x_0 i_0 (p_spec_GoodWorld_l0 w_a0 r_0) b_82 = some q_0) ∧ σ.t 1 = .ptr 1 [] 0 ∧ σ.t 4 = .ptr 4 [] 0 ∧ σ.t 24 = .row false 2 w_a0.Entities.length (esEntity w_a0.Entities) ∧ σ.t 25 = I (w_a0.Entities.length : Int) ∧ σ.t 26 = I (i_0 : Int) ∧ σ.t 59 = B b_82 ∧ σ.m 1 = some (.box true [I w_a0.Next, I w_a0.Tick, .row false 2 w_a0.Entities.length (esEntity w_a0.Entities)]) ∧ σ.m 4 = some (.box true [I x_0.Id, .row false 3 x_0.Parts.length (esPart x_0.Parts)])) → kk_1 .nm σ := by
          rintro σ ⟨b_82, h_0, g0_j1, g1_j1, g2_j1, g3_j1, g4_j1, g5_j1, g6_j1, g7_j1⟩
          rw [← hk_1]
          rw [p_spec_GoodWorld_j1] at h_0
          by_cases c83 : b_82 = true
          · rw [if_pos c83] at h_0
            have dc83 := c83
            cases h_0
            try dsimp only at h
            have ff := And.intro @dc2 (And.intro @dr_0 (And.intro @w_0 (And.intro @kk0c (And.intro @g0_j1 (And.intro @g1_j1 (And.intro @g2_j1 (And.intro @g3_j1 (And.intro @g4_j1 (And.intro @g5_j1 (And.intro @g6_j1 (And.intro @g7_j1 (And.intro @dc83 p_spec_GoodWorld_tf.down))))))))))))
            try refine st_by ff ?_
            repeat' (first | exact trivial | refine And.intro sd ?_)
            cases h
            exact ret_q1 rfl (p_spec_GoodWorld_rt ff trivial)
          rw [if_neg c83] at h_0
          have dc83 := eq_false_of_ne_true c83
          by_cases c84 : x_0.Parts.length ≤ 9223372036854775807
          case neg => rw [if_neg c84] at h_0; cases h_0
          rw [if_pos c84] at h_0
          have hL_1 : x_0.Parts.length ≤ 9223372036854775807 := by first | assumption | omega
          obtain ⟨q_1, eq_1, h_0⟩ := Option.bind_eq_some_iff.1 h_0
          have ff := And.intro @dc2 (And.intro @dr_0 (And.intro @w_0 (And.intro @kk0c (And.intro @g0_j1 (And.intro @g1_j1 (And.intro @g2_j1 (And.intro @g3_j1 (And.intro @g4_j1 (And.intro @g5_j1 (And.intro @g6_j1 (And.intro @g7_j1 (And.intro @dc83 p_spec_GoodWorld_tf.down))))))))))))
          try refine st_by ff ?_
          repeat' (first | exact trivial | refine And.intro sd ?_)
          obtain ⟨I_1, hI_1⟩ : ∃ I_ : (Nat) → ASt → Prop, I_ = (fun (i_1 : Nat) σ => (i_1 ≤ x_0.Parts.length ∧ p_spec_GoodWorld_l1 w_a0 x_0 (x_0.Parts.drop i_1) i_1 = some q_1) ∧ σ.t 1 = .ptr 1 [] 0 ∧ σ.t 4 = .ptr 4 [] 0 ∧ σ.t 24 = .row false 2 w_a0.Entities.length (esEntity w_a0.Entities) ∧ σ.t 25 = I (w_a0.Entities.length : Int) ∧ σ.t 26 = I (i_0 : Int) ∧ σ.t 61 = .row false 3 x_0.Parts.length (esPart x_0.Parts) ∧ σ.t 62 = I (x_0.Parts.length : Int) ∧ σ.t 63 = I (i_1 : Int) ∧ σ.m 1 = some (.box true [I w_a0.Next, I w_a0.Tick, .row false 2 w_a0.Entities.length (esEntity w_a0.Entities)]) ∧ σ.m 4 = some (.box true [I x_0.Id, .row false 3 x_0.Parts.length (esPart x_0.Parts)])) := ⟨_, rfl⟩
          obtain ⟨M_1, hM_1⟩ : ∃ M_ : (Nat) → Nat, M_ = (fun (i_1 : Nat) => x_0.Parts.length - i_1) := ⟨_, rfl⟩
          obtain ⟨J_1, hJ_1⟩ : ∃ J_ : ASt → Prop, J_ = (fun σ => (some (.out ()) = some q_1) ∧ σ.t 1 = .ptr 1 [] 0 ∧ σ.t 24 = .row false 2 w_a0.Entities.length (esEntity w_a0.Entities) ∧ σ.t 25 = I (w_a0.Entities.length : Int) ∧ σ.t 26 = I (i_0 : Int) ∧ σ.m 1 = some (.box true [I w_a0.Next, I w_a0.Tick, .row false 2 w_a0.Entities.length (esEntity w_a0.Entities)])) := ⟨_, rfl⟩
          refine aw_loopC (id := 2) I_1 M_1 J_1 (0) ?_ ?_ ?_
          · rw [hI_1]
            refine ⟨⟨Nat.zero_le _, eq_1⟩, ?_⟩
            exact p_spec_GoodWorld_pv ff trivial
          · try clear ff
            rintro i_1 σ hg_1
            rw [hI_1] at hg_1
            obtain ⟨⟨hi_1, h_1⟩, g0_1, g1_1, g2_1, g3_1, g4_1, g5_1, g6_1, g7_1, g8_1, g9_1⟩ := hg_1
            cases hr_1 : x_0.Parts.drop i_1 with
            | nil =>
              rw [hr_1] at h_1
              rw [p_spec_GoodWorld_l1] at h_1
              have hn_1 := drop_nil hr_1
              have dr_1 : decide ((i_1 : Int) < (x_0.Parts.length : Int)) = false := decide_eq_false (by omega)
              have ff := And.intro @dc2 (And.intro @dr_0 (And.intro @w_0 (And.intro @kk0c (And.intro @dc83 (And.intro @dr_1 (And.intro @g0_1 (And.intro @g1_1 (And.intro @g2_1 (And.intro @g3_1 (And.intro @g4_1 (And.intro @g5_1 (And.intro @g6_1 (And.intro @g7_1 (And.intro @g8_1 (And.intro @g9_1 p_spec_GoodWorld_tf.down)))))))))))))))
              try refine st_by ff ?_
              repeat' (first | exact trivial | refine And.intro sd ?_)
              refine JW.intro ?_
              rw [hJ_1]
              refine ⟨h_1, ?_⟩
              exact p_spec_GoodWorld_pv ff trivial
            | cons x_1 r_1 =>
              rw [hr_1] at h_1
              rw [p_spec_GoodWorld_l1] at h_1
              obtain ⟨ht_1, hg_1, hd_1⟩ := drop_cons hr_1
              have dr_1 : decide ((i_1 : Int) < (x_0.Parts.length : Int)) = true := decide_eq_true (by omega)
              have w_1 : IntKind.i64.wrap ((i_1 : Int) + 1) = ((i_1 + 1 : Nat) : Int) := wI _ (by omega) (by omega)
              have kk1c : (esPart x_0.Parts).drop (i_1 * 3) = ePart x_1 ++ esPart (x_0.Parts.drop (i_1 + 1)) := drop_enc (fun _ => rfl) (hg_1)
              by_cases c106 : x_1.Name.size ≤ 9223372036854775807
              case neg => rw [if_neg c106] at h_1; cases h_1
              rw [if_pos c106] at h_1
              have ff := And.intro @dc2 (And.intro @dr_0 (And.intro @w_0 (And.intro @kk0c (And.intro @dc83 (And.intro @dr_1 (And.intro @w_1 (And.intro @g0_1 (And.intro @g1_1 (And.intro @g2_1 (And.intro @g3_1 (And.intro @g4_1 (And.intro @g5_1 (And.intro @g6_1 (And.intro @g7_1 (And.intro @g8_1 (And.intro @g9_1 (And.intro @kk1c p_spec_GoodWorld_tf.down)))))))))))))))))
              try refine st_by ff ?_
              repeat' (first | exact trivial | refine And.intro sd ?_ | (refine aw_drawn (id := 11) ?_ [[], [0], [0, 1], [0, 1, 2], [0, 1, 2, 3], [0, 1, 2, 3, 4], [0, 1, 2, 3, 4, 5], [0, 1, 2, 3, 4], [0, 1, 2, 3, 4, 7], [0, 1, 2, 3, 4, 5, 6, 7, 8], [0, 1, 2, 3, 4, 5, 6, 7, 8, 9], [0, 1, 2, 3, 4, 5, 6, 7, 8, 9, 10], [0, 1, 2, 3, 4, 5, 6, 7, 8, 9, 10, 11], [0, 1, 2, 3, 4, 5, 6, 7, 8, 9, 10, 11, 12], [0, 1, 2, 3, 4, 5, 6, 7, 8, 9, 10, 11, 12, 13], [0, 1, 2, 3, 4, 5, 6, 7, 8, 9, 10, 11, 12, 13, 14], [0, 1, 2, 3, 4, 5, 6, 7, 8, 9, 10, 11, 12, 13, 14, 15], [0, 1, 2, 3, 4, 5, 6, 7, 8, 9, 10, 11, 12, 13, 14, 15, 16], [0, 1, 2, 3, 4, 5, 6, 7, 8, 9, 10, 11, 12, 13, 14, 15], [0, 1, 2, 3, 4, 5, 6, 7, 8, 9, 10, 11, 12, 13, 14, 15, 18], [0, 1, 2, 3, 4, 5, 6, 7, 8, 9, 10, 11, 12, 13, 14, 15, 16, 17, 18, 19], [0, 1, 2, 3, 4, 5, 6, 7, 8, 9, 10, 11, 12, 13, 14, 15, 16, 17, 18, 19, 20], [0, 1, 2, 3, 4, 5, 6, 7, 8, 9, 10, 11, 12, 13, 14, 15, 16, 17, 18, 19, 20, 21], [0, 1, 2, 3, 4, 5, 6, 7, 8, 9, 10, 11, 12, 13, 14, 15], [0, 1, 2, 3, 4, 5, 6, 7, 8, 9, 10, 11, 12, 13, 14, 15, 23], [0, 1, 2, 3, 4, 5, 6, 7, 8, 9, 10, 11, 12, 13, 14, 15, 16, 17, 18, 19, 20, 21, 22, 23, 24], [0, 1, 2, 3, 4, 5, 6, 7, 8, 9, 10, 11, 12, 13, 14, 15, 16, 17, 18, 19, 20, 21, 22, 23, 24, 25], [0, 1, 2, 3, 4, 5, 6, 7, 8, 9, 10, 11, 12, 13, 14, 15, 16, 17, 18, 19, 20, 21, 22, 23, 24, 25, 26]] 25 ?_ ?_; (· kernel_rfl); (· kernel_rfl); refine st_by ff ?_))
              first
              | (refine cq_call (specGoodName_does x_1.Name (by first | assumption | omega)) (hf_by ff) kr ⟨p_spec_GoodWorld_sa ff trivial, ?_⟩; clear ff)
              | (refine cq_dcall (specGoodName_does x_1.Name (by first | assumption | omega)) (hf_by ff) kr ⟨p_spec_GoodWorld_sa ff trivial, ?_⟩; clear ff)
              by_cases c107 : (goodName x_1.Name) = true
              case neg =>
               rw [if_neg c107] at h_1
               have dc107 := eq_false_of_ne_true c107
               cases h_1
               try dsimp only at h_0
               cases h_0
               try dsimp only at h
               have ff := And.intro @dc2 (And.intro @dr_0 (And.intro @w_0 (And.intro @kk0c (And.intro @dc83 (And.intro @dr_1 (And.intro @w_1 (And.intro @g0_1 (And.intro @g1_1 (And.intro @g2_1 (And.intro @g3_1 (And.intro @g4_1 (And.intro @g5_1 (And.intro @g6_1 (And.intro @g7_1 (And.intro @g8_1 (And.intro @g9_1 (And.intro @kk1c (And.intro @dc107 p_spec_GoodWorld_tf.down))))))))))))))))))
               try refine st_by ff ?_
               repeat' (first | exact trivial | refine And.intro sd ?_)
               cases h
               exact ret_q1 rfl (p_spec_GoodWorld_rt ff trivial)
              rw [if_pos c107] at h_1
              have dc107 := c107
              have ff := And.intro @dc2 (And.intro @dr_0 (And.intro @w_0 (And.intro @kk0c (And.intro @dc83 (And.intro @dr_1 (And.intro @w_1 (And.intro @g0_1 (And.intro @g1_1 (And.intro @g2_1 (And.intro @g3_1 (And.intro @g4_1 (And.intro @g5_1 (And.intro @g6_1 (And.intro @g7_1 (And.intro @g8_1 (And.intro @g9_1 (And.intro @kk1c (And.intro @dc107 p_spec_GoodWorld_tf.down))))))))))))))))))
              try refine st_by ff ?_
              repeat' (first | exact trivial | refine And.intro sd ?_)
              first
              | (refine cq_call (l1In_does x_1.Tick 0 w_a0.Tick) (hf_by ff) kr ⟨p_spec_GoodWorld_sa ff trivial, ?_⟩; clear ff)
              | (refine cq_dcall (l1In_does x_1.Tick 0 w_a0.Tick) (hf_by ff) kr ⟨p_spec_GoodWorld_sa ff trivial, ?_⟩; clear ff)
              by_cases c108 : (rng x_1.Tick 0 w_a0.Tick) = true
              case neg =>
               rw [if_neg c108] at h_1
               have dc108 := eq_false_of_ne_true c108
               cases h_1
               try dsimp only at h_0
               cases h_0
               try dsimp only at h
               have ff := And.intro @dc2 (And.intro @dr_0 (And.intro @w_0 (And.intro @kk0c (And.intro @dc83 (And.intro @dr_1 (And.intro @w_1 (And.intro @g0_1 (And.intro @g1_1 (And.intro @g2_1 (And.intro @g3_1 (And.intro @g4_1 (And.intro @g5_1 (And.intro @g6_1 (And.intro @g7_1 (And.intro @g8_1 (And.intro @g9_1 (And.intro @kk1c (And.intro @dc107 (And.intro @dc108 p_spec_GoodWorld_tf.down)))))))))))))))))))
               try refine st_by ff ?_
               repeat' (first | exact trivial | refine And.intro sd ?_)
               cases h
               exact ret_q1 rfl (p_spec_GoodWorld_rt ff trivial)
              rw [if_pos c108] at h_1
              have dc108 := c108
              by_cases c109 : (i_1 : Int) > 0
              case neg =>
               rw [if_neg c109] at h_1
               have dc109 := decide_eq_false c109
               have ff := And.intro @dc2 (And.intro @dr_0 (And.intro @w_0 (And.intro @kk0c (And.intro @dc83 (And.intro @dr_1 (And.intro @w_1 (And.intro @g0_1 (And.intro @g1_1 (And.intro @g2_1 (And.intro @g3_1 (And.intro @g4_1 (And.intro @g5_1 (And.intro @g6_1 (And.intro @g7_1 (And.intro @g8_1 (And.intro @g9_1 (And.intro @kk1c (And.intro @dc107 (And.intro @dc108 (And.intro @dc109 p_spec_GoodWorld_tf.down))))))))))))))))))))
               try refine st_by ff ?_
               repeat' (first | exact trivial | refine And.intro sd ?_)
               refine Back.intro (i_1 + 1) ?_ ?_
               · clear ff; rw [hM_1]; show x_0.Parts.length - (i_1 + 1) < x_0.Parts.length - i_1; omega
               rw [hI_1]
               refine ⟨⟨by clear ff; show i_1 + 1 ≤ x_0.Parts.length; omega, by show p_spec_GoodWorld_l1 w_a0 x_0 (x_0.Parts.drop (i_1 + 1)) (i_1 + 1) = some q_1; rw [hd_1]; exact h_1⟩, ?_⟩
               exact p_spec_GoodWorld_pv ff trivial
              rw [if_pos c109] at h_1
              have dc109 := decide_eq_true c109
              obtain ⟨x110, ex110, h_1⟩ := Option.bind_eq_some_iff.1 h_1
              try dsimp only at h_1
              have f111a := idx_lo ex110
              have f111b := idx_hi ex110
              have f111c : (esPart x_0.Parts).drop (((IntKind.i64.wrap ((i_1 : Int) - 1)).toNat) * 3) = ePart x110 ++ esPart (x_0.Parts.drop ((IntKind.i64.wrap ((i_1 : Int) - 1)).toNat + 1)) := drop_enc (fun _ => rfl) (idx_get ex110)
              by_cases c112 : (Op.bytesLess x110.Name.toList x_1.Name.toList) = true
              · rw [if_pos c112] at h_1
                have dc112 := c112
                have ff := And.intro @dc2 (And.intro @dr_0 (And.intro @w_0 (And.intro @kk0c (And.intro @dc83 (And.intro @dr_1 (And.intro @w_1 (And.intro @g0_1 (And.intro @g1_1 (And.intro @g2_1 (And.intro @g3_1 (And.intro @g4_1 (And.intro @g5_1 (And.intro @g6_1 (And.intro @g7_1 (And.intro @g8_1 (And.intro @g9_1 (And.intro @kk1c (And.intro @dc107 (And.intro @dc108 (And.intro @dc109 (And.intro @f111c (And.intro @dc112 p_spec_GoodWorld_tf.down))))))))))))))))))))))
                try refine st_by ff ?_
                repeat' (first | exact trivial | refine And.intro sd ?_)
                refine Back.intro (i_1 + 1) ?_ ?_
                · clear ff; rw [hM_1]; show x_0.Parts.length - (i_1 + 1) < x_0.Parts.length - i_1; omega
                rw [hI_1]
                refine ⟨⟨by clear ff; show i_1 + 1 ≤ x_0.Parts.length; omega, by show p_spec_GoodWorld_l1 w_a0 x_0 (x_0.Parts.drop (i_1 + 1)) (i_1 + 1) = some q_1; rw [hd_1]; exact h_1⟩, ?_⟩
                exact p_spec_GoodWorld_pv ff trivial
              rw [if_neg c112] at h_1
              have dc112 := eq_false_of_ne_true c112
              cases h_1
              try dsimp only at h_0
              cases h_0
              try dsimp only at h
              have ff := And.intro @dc2 (And.intro @dr_0 (And.intro @w_0 (And.intro @kk0c (And.intro @dc83 (And.intro @dr_1 (And.intro @w_1 (And.intro @g0_1 (And.intro @g1_1 (And.intro @g2_1 (And.intro @g3_1 (And.intro @g4_1 (And.intro @g5_1 (And.intro @g6_1 (And.intro @g7_1 (And.intro @g8_1 (And.intro @g9_1 (And.intro @kk1c (And.intro @dc107 (And.intro @dc108 (And.intro @dc109 (And.intro @f111c (And.intro @dc112 p_spec_GoodWorld_tf.down))))))))))))))))))))))
              try refine st_by ff ?_
              repeat' (first | exact trivial | refine And.intro sd ?_)
              cases h
              exact ret_q1 rfl (p_spec_GoodWorld_rt ff trivial)
          · try clear ff
            rintro σ hg_1
            rw [hJ_1] at hg_1
            obtain ⟨hj_1, g0_1a, g1_1a, g2_1a, g3_1a, g4_1a⟩ := hg_1
            cases hj_1
            try dsimp only at h_0
            have ff := And.intro @dc2 (And.intro @dr_0 (And.intro @w_0 (And.intro @kk0c (And.intro @dc83 (And.intro @g0_1a (And.intro @g1_1a (And.intro @g2_1a (And.intro @g3_1a (And.intro @g4_1a p_spec_GoodWorld_tf.down)))))))))
            try refine st_by ff ?_
            repeat' (first | exact trivial | refine And.intro sd ?_)
            refine Back.intro (i_0 + 1) ?_ ?_
            · clear ff; rw [hM_0]; show w_a0.Entities.length - (i_0 + 1) < w_a0.Entities.length - i_0; omega
            rw [hI_0]
            refine ⟨⟨by clear ff; show i_0 + 1 ≤ w_a0.Entities.length; omega, by show p_spec_GoodWorld_l0 w_a0 (w_a0.Entities.drop (i_0 + 1)) (i_0 + 1) = some q_0; rw [hd_0]; exact h_0⟩, ?_⟩
            exact p_spec_GoodWorld_pv ff trivial
        have hrt_1 := fun σ : ASt => congrFun (congrFun hk_1.symm AX.rt) σ
        have hex_1 := fun (i : Nat) (σ : ASt) => congrFun (congrFun hk_1.symm (AX.ex i)) σ
        by_cases c113 : (rng x_0.Id 1 (IntKind.i64.wrap (w_a0.Next - 1))) = true
        case neg =>
         rw [if_neg c113] at h_0
         have dc113 := eq_false_of_ne_true c113
         have ff := And.intro @dc2 (And.intro @dr_0 (And.intro @w_0 (And.intro @g0_0 (And.intro @g1_0 (And.intro @g2_0 (And.intro @g3_0 (And.intro @g4_0 (And.intro @kk0c (And.intro @hrt_1 (And.intro @hex_1 (And.intro @dc113 p_spec_GoodWorld_tf.down)))))))))))
         try refine st_by ff ?_
         repeat' (first | exact trivial | refine And.intro sd ?_)
         refine key_1 _ ?_
         refine ⟨true, h_0, ?_⟩
         exact p_spec_GoodWorld_pv ff trivial
        rw [if_pos c113] at h_0
        have dc113 := c113
        by_cases c114 : (i_0 : Int) > 0
        case neg =>
         rw [if_neg c114] at h_0
         have dc114 := decide_eq_false c114
         have ff := And.intro @dc2 (And.intro @dr_0 (And.intro @w_0 (And.intro @g0_0 (And.intro @g1_0 (And.intro @g2_0 (And.intro @g3_0 (And.intro @g4_0 (And.intro @kk0c (And.intro @hrt_1 (And.intro @hex_1 (And.intro @dc113 (And.intro @dc114 p_spec_GoodWorld_tf.down))))))))))))
         try refine st_by ff ?_
         repeat' (first | exact trivial | refine And.intro sd ?_)
         refine key_1 _ ?_
         refine ⟨decide ((x_0.Parts.length : Int) > 12), h_0, ?_⟩
         exact p_spec_GoodWorld_pv ff trivial
        rw [if_pos c114] at h_0
        have dc114 := decide_eq_true c114
        obtain ⟨x115, ex115, h_0⟩ := Option.bind_eq_some_iff.1 h_0
        try dsimp only at h_0
        have f116a := idx_lo ex115
        have f116b := idx_hi ex115
        have f116c : (esEntity w_a0.Entities).drop (((IntKind.i64.wrap ((i_0 : Int) - 1)).toNat) * 2) = eEntity x115 ++ esEntity (w_a0.Entities.drop ((IntKind.i64.wrap ((i_0 : Int) - 1)).toNat + 1)) := drop_enc (fun _ => rfl) (idx_get ex115)
        by_cases c117 : x115.Id ≥ x_0.Id
        case neg =>
         rw [if_neg c117] at h_0
         have dc117 := decide_eq_false c117
         have ff := And.intro @dc2 (And.intro @dr_0 (And.intro @w_0 (And.intro @g0_0 (And.intro @g1_0 (And.intro @g2_0 (And.intro @g3_0 (And.intro @g4_0 (And.intro @kk0c (And.intro @hrt_1 (And.intro @hex_1 (And.intro @dc113 (And.intro @dc114 (And.intro @f116c (And.intro @dc117 p_spec_GoodWorld_tf.down))))))))))))))
         try refine st_by ff ?_
         repeat' (first | exact trivial | refine And.intro sd ?_)
         refine key_1 _ ?_
         refine ⟨decide ((x_0.Parts.length : Int) > 12), h_0, ?_⟩
         exact p_spec_GoodWorld_pv ff trivial
        rw [if_pos c117] at h_0
        have dc117 := decide_eq_true c117
        have ff := And.intro @dc2 (And.intro @dr_0 (And.intro @w_0 (And.intro @g0_0 (And.intro @g1_0 (And.intro @g2_0 (And.intro @g3_0 (And.intro @g4_0 (And.intro @kk0c (And.intro @hrt_1 (And.intro @hex_1 (And.intro @dc113 (And.intro @dc114 (And.intro @f116c (And.intro @dc117 p_spec_GoodWorld_tf.down))))))))))))))
        try refine st_by ff ?_
        repeat' (first | exact trivial | refine And.intro sd ?_)
        refine key_1 _ ?_
        refine ⟨true, h_0, ?_⟩
        exact p_spec_GoodWorld_pv ff trivial
    · try clear ff
      rintro σ hg_0
      rw [hJ_0] at hg_0
      obtain ⟨hj_0, _⟩ := hg_0
      cases hj_0
      try dsimp only at h
      have ff := And.intro @dc2 p_spec_GoodWorld_tf.down
      try refine st_by ff ?_
      repeat' (first | exact trivial | refine And.intro sd ?_)
      cases h
      exact ret_q1 rfl (p_spec_GoodWorld_rt ff trivial)
  have hrt_0 := fun σ : ASt => congrFun (congrFun hk_0.symm AX.rt) σ
  have hex_0 := fun (i : Nat) (σ : ASt) => congrFun (congrFun hk_0.symm (AX.ex i)) σ
  by_cases c118 : (rng w_a0.Next 1 1000000) = true
  case neg =>
   rw [if_neg c118] at h
   have dc118 := eq_false_of_ne_true c118
   have ff := And.intro @hrt_0 (And.intro @hex_0 (And.intro @dc118 p_spec_GoodWorld_tf.down))
   try refine st_by ff ?_
   repeat' (first | exact trivial | refine And.intro sd ?_)
   refine key_0 _ ?_
   refine ⟨true, h, ?_⟩
   exact p_spec_GoodWorld_pv ff trivial
  rw [if_pos c118] at h
  have dc118 := c118
  have ff := And.intro @hrt_0 (And.intro @hex_0 (And.intro @dc118 p_spec_GoodWorld_tf.down))
  try refine st_by ff ?_
  repeat' (first | exact trivial | refine And.intro sd ?_)
  first
  | (refine cq_call (l1In_does w_a0.Tick 0 1000000) (hf_by ff) kr ⟨p_spec_GoodWorld_sa ff trivial, ?_⟩; clear ff)
  | (refine cq_dcall (l1In_does w_a0.Tick 0 1000000) (hf_by ff) kr ⟨p_spec_GoodWorld_sa ff trivial, ?_⟩; clear ff)
  by_cases c119 : (rng w_a0.Tick 0 1000000) = true
  case neg =>
   rw [if_neg c119] at h
   have dc119 := eq_false_of_ne_true c119
   have ff := And.intro @hrt_0 (And.intro @hex_0 (And.intro @dc118 (And.intro @dc119 p_spec_GoodWorld_tf.down)))
   try refine st_by ff ?_
   repeat' (first | exact trivial | refine And.intro sd ?_)
   refine key_0 _ ?_
   refine ⟨true, h, ?_⟩
   exact p_spec_GoodWorld_pv ff trivial
  rw [if_pos c119] at h
  have dc119 := c119
  have ff := And.intro @hrt_0 (And.intro @hex_0 (And.intro @dc118 (And.intro @dc119 p_spec_GoodWorld_tf.down)))
  try refine st_by ff ?_
  repeat' (first | exact trivial | refine And.intro sd ?_)
  refine key_0 _ ?_
  refine ⟨decide ((w_a0.Entities.length : Int) > 60), h, ?_⟩
  exact p_spec_GoodWorld_pv ff trivial
/-! spec.l3Own -/
def p_spec_l3Own_l0 : List GEntity → Nat → (List GEntity) → Option ((List GEntity))
  | [], i_0, l_7 => some l_7
  | x_0 :: r_0, i_0, l_7 => (if x_0.Parts.length < 4294967296 then (if l_7.length < 4294967296 then p_spec_l3Own_l0 r_0 (i_0 + 1) (l_7 ++ [(⟨x_0.Id, x_0.Parts⟩ : GEntity)]) else none) else none)
theorem p_spec_l3Own_pv {F C A : Prop} (hF : F) (hC : C) (h : F → C → A := by intro hF hC; first | exact cl_by hF | (refine st_by hF ?_; (repeat' (first | exact trivial | apply And.intro)); all_goals (clear hF; first | rfl | (simp only [hC, List.length_append, List.length_cons, List.length_nil, List.append_nil, List.nil_append, List.cons_append, List.length_set, List.append_assoc, Nat.zero_add, List.length_replicate, esWorld_app, esWorld_cons, esWorld_nil, eWorld_eq, esWorldo_app, esWorldo_cons, esWorldo_nil, eWorldo_eq, esEntity_app, esEntity_cons, esEntity_nil, eEntity_eq, esEntityo_app, esEntityo_cons, esEntityo_nil, eEntityo_eq, esPart_app, esPart_cons, esPart_nil, ePart_eq]; done) | (simp [hC, List.length_append, List.length_cons, List.length_nil, List.append_nil, List.nil_append, List.cons_append, List.length_set, List.append_assoc, Nat.zero_add, List.length_replicate, esWorld_app, esWorld_cons, esWorld_nil, eWorld_eq, esWorldo_app, esWorldo_cons, esWorldo_nil, eWorldo_eq, esEntity_app, esEntity_cons, esEntity_nil, eEntity_eq, esEntityo_app, esEntityo_cons, esEntityo_nil, eEntityo_eq, esPart_app, esPart_cons, esPart_nil, ePart_eq]; done) | omega))) : A := h hF hC
theorem p_spec_l3Own_sa {F C A : Prop} (hF : F) (hC : C) (h : F → C → A := by intro hF hC; first | exact ca_by hF | (refine sa_by hF ?_; (repeat' (first | exact trivial | apply And.intro)); all_goals (clear hF; first | rfl | (simp only [hC, List.length_append, List.length_cons, List.length_nil, List.append_nil, List.nil_append, List.cons_append, List.length_set, List.append_assoc, Nat.zero_add, List.length_replicate, esWorld_app, esWorld_cons, esWorld_nil, eWorld_eq, esWorldo_app, esWorldo_cons, esWorldo_nil, eWorldo_eq, esEntity_app, esEntity_cons, esEntity_nil, eEntity_eq, esEntityo_app, esEntityo_cons, esEntityo_nil, eEntityo_eq, esPart_app, esPart_cons, esPart_nil, ePart_eq]; done) | (simp [hC, List.length_append, List.length_cons, List.length_nil, List.append_nil, List.nil_append, List.cons_append, List.length_set, List.append_assoc, Nat.zero_add, List.length_replicate, esWorld_app, esWorld_cons, esWorld_nil, eWorld_eq, esWorldo_app, esWorldo_cons, esWorldo_nil, eWorldo_eq, esEntity_app, esEntity_cons, esEntity_nil, eEntity_eq, esEntityo_app, esEntityo_cons, esEntityo_nil, eEntityo_eq, esPart_app, esPart_cons, esPart_nil, ePart_eq]; done) | omega))) : A := h hF hC
theorem p_spec_l3Own_rt {F C A : Prop} (hF : F) (hC : C) (h : F → C → A := by intro hF hC; first | (refine sr_by hF ?_; (repeat' (first | exact trivial | apply And.intro)); all_goals (clear hF; first | rfl | (simp only [hC, List.length_append, List.length_cons, List.length_nil, List.append_nil, List.nil_append, List.cons_append, List.length_set, List.append_assoc, Nat.zero_add, List.length_replicate, esWorld_app, esWorld_cons, esWorld_nil, eWorld_eq, esWorldo_app, esWorldo_cons, esWorldo_nil, eWorldo_eq, esEntity_app, esEntity_cons, esEntity_nil, eEntity_eq, esEntityo_app, esEntityo_cons, esEntityo_nil, eEntityo_eq, esPart_app, esPart_cons, esPart_nil, ePart_eq]; done) | (simp [hC, List.length_append, List.length_cons, List.length_nil, List.append_nil, List.nil_append, List.cons_append, List.length_set, List.append_assoc, Nat.zero_add, List.length_replicate, esWorld_app, esWorld_cons, esWorld_nil, eWorld_eq, esWorldo_app, esWorldo_cons, esWorldo_nil, eWorldo_eq, esEntity_app, esEntity_cons, esEntity_nil, eEntity_eq, esEntityo_app, esEntityo_cons, esEntityo_nil, eEntityo_eq, esPart_app, esPart_cons, esPart_nil, ePart_eq]; done) | omega)) | (first | rfl | (simp only [hC, List.length_append, List.length_cons, List.length_nil, List.append_nil, List.nil_append, List.cons_append, List.length_set, List.append_assoc, Nat.zero_add, List.length_replicate, esWorld_app, esWorld_cons, esWorld_nil, eWorld_eq, esWorldo_app, esWorldo_cons, esWorldo_nil, eWorldo_eq, esEntity_app, esEntity_cons, esEntity_nil, eEntity_eq, esEntityo_app, esEntityo_cons, esEntityo_nil, eEntityo_eq, esPart_app, esPart_cons, esPart_nil, ePart_eq]; done) | (simp [hC, List.length_append, List.length_cons, List.length_nil, List.append_nil, List.nil_append, List.cons_append, List.length_set, List.append_assoc, Nat.zero_add, List.length_replicate, esWorld_app, esWorld_cons, esWorld_nil, eWorld_eq, esWorldo_app, esWorldo_cons, esWorldo_nil, eWorldo_eq, esEntity_app, esEntity_cons, esEntity_nil, eEntity_eq, esEntityo_app, esEntityo_cons, esEntityo_nil, eEntityo_eq, esPart_app, esPart_cons, esPart_nil, ePart_eq]; done) | omega)) : A := h hF hC
def p_spec_l3Own_tf := PLift.up (And.intro @eWorld_eq (And.intro @esWorld_len (And.intro @esWorld_nil (And.intro @esWorld_leaf (And.intro @esWorld_fit (And.intro @eWorldo_eq (And.intro @esWorldo_len (And.intro @esWorldo_nil (And.intro @eEntity_eq (And.intro @esEntity_len (And.intro @esEntity_nil (And.intro @esEntity_leaf (And.intro @esEntity_fit (And.intro @eEntityo_eq (And.intro @esEntityo_len (And.intro @esEntityo_nil (And.intro @ePart_eq (And.intro @esPart_len (And.intro @esPart_nil (And.intro @esPart_leaf (And.intro @esPart_fit (And.intro @esWorldo_share (And.intro @esWorldo_pure (And.intro @esEntityo_share (And.intro @esEntityo_pure (And.intro @esPart_share (And.intro @esPart_pure (And.intro @str_beq (And.intro @Ty.sl26 (And.intro @Ty.slz26 (And.intro @Ty.nz26 (And.intro @Ty.ldA26 (And.intro @Ty.ldS26 (And.intro @Ty.sz26 (And.intro @Ty.szn26 (And.intro @Ty.nz46 (And.intro @Ty.ldA46 (And.intro @Ty.sz46 (And.intro @Ty.szn46 (And.intro @Ty.nz44 (And.intro @Ty.ldA44 (And.intro @Ty.ldS44 (And.intro @Ty.sz44 (And.intro @Ty.szn44 (And.intro @Ty.nz28 (And.intro @Ty.ldA28 (And.intro @Ty.sz28 (And.intro @Ty.szn28 (And.intro @Ty.fo28_2 (And.intro @Ty.fk28_2 (And.intro @Ty.fs28_2 (And.intro @Ty.fn28_2 (And.intro @Ty.fo46_1 (And.intro @Ty.fk46_1 (And.intro @Ty.fs46_1 (And.intro @Ty.fn46_1 (And.intro @Ty.nze44 (And.intro @Ty.sl44 (And.intro @Ty.slz44 (And.intro @Ty.zok44 (And.intro @Ty.by44 (And.intro @Ty.zs44 (And.intro @Ty.nze26 (And.intro @Ty.zok26 (And.intro @Ty.by26 (And.intro @Ty.zs26 (And.intro @Ty.zv28 (And.intro @Ty.zv46 (And.intro @Ty.ag28 @trivial)))))))))))))))))))))))))))))))))))))))))))))))))))))))))))))))))))))
def p_spec_l3Own (w_a0 : GWorld) : Option (GWorld) := ((p_spec_l3Own_l0 w_a0.Entities 0 ([] : List GEntity)).bind fun q_0 => match q_0 with | l_7 => some (⟨w_a0.Next, w_a0.Tick, l_7⟩ : GWorld))
theorem p_spec_l3Own_does (w_a0 : GWorld) (r : GWorld) (h : p_spec_l3Own w_a0 = some r) : Does Try.prog 16 [.agg (eWorld w_a0)] (.agg (eWorldo r)) := by
  rw [p_spec_l3Own] at h
  refine Does.bnd (fun hb => ?_)
  have hb2 : w_a0.Entities.length ≤ 9223372036854775807 := by simpa [AV.fitNs, AV.fitN, eWorld] using hb
  have hl0 := hb2
  refine Does.walk (nt := 26) Try.func16 rfl rfl (by simp) (by decide) rfl (fun G0 X w0 pv => ?_)
  have hL_0 : w_a0.Entities.length ≤ 9223372036854775807 := by first | assumption | omega
  obtain ⟨q_0, eq_0, h⟩ := Option.bind_eq_some_iff.1 h
  have ff := p_spec_l3Own_tf.down
  try refine st_by ff ?_
  repeat' (first | exact trivial | refine And.intro sd ?_)
  obtain ⟨I_0, hI_0⟩ : ∃ I_ : (Nat × (List GEntity)) → ASt → Prop, I_ = (fun (a : Nat × (List GEntity)) σ => match a with | (i_0, l_7) => (i_0 ≤ w_a0.Entities.length ∧ p_spec_l3Own_l0 (w_a0.Entities.drop i_0) i_0 l_7 = some q_0) ∧ σ.t 1 = .ptr 1 [] 0 ∧ σ.t 2 = .ptr 2 [] 0 ∧ σ.t 3 = .sl 3 [] 0 l_7.length ∧ σ.t 7 = .row false 2 w_a0.Entities.length (esEntity w_a0.Entities) ∧ σ.t 8 = I (w_a0.Entities.length : Int) ∧ σ.t 9 = I (i_0 : Int) ∧ σ.m 1 = some (.box true [I w_a0.Next, I w_a0.Tick, .row false 2 w_a0.Entities.length (esEntity w_a0.Entities)]) ∧ σ.m 2 = some (.box true [I 0, I 0, .row true 2 0 []]) ∧ σ.m 3 = some (.row true 2 l_7.length (esEntityo l_7))) := ⟨_, rfl⟩
  obtain ⟨M_0, hM_0⟩ : ∃ M_ : (Nat × (List GEntity)) → Nat, M_ = (fun (a : Nat × (List GEntity)) => match a with | (i_0, l_7) => w_a0.Entities.length - i_0) := ⟨_, rfl⟩
  obtain ⟨J_0, hJ_0⟩ : ∃ J_ : ASt → Prop, J_ = (fun σ => ∃ l_7 : List GEntity, (some l_7 = some q_0) ∧ σ.t 1 = .ptr 1 [] 0 ∧ σ.t 2 = .ptr 2 [] 0 ∧ σ.t 3 = .sl 3 [] 0 l_7.length ∧ σ.m 1 = some (.box true [I w_a0.Next, I w_a0.Tick, .row false 2 w_a0.Entities.length (esEntity w_a0.Entities)]) ∧ σ.m 2 = some (.box true [I 0, I 0, .row true 2 0 []]) ∧ σ.m 3 = some (.row true 2 l_7.length (esEntityo l_7))) := ⟨_, rfl⟩
  refine aw_loopC (id := 0) I_0 M_0 J_0 (0, ([] : List GEntity)) ?_ ?_ ?_
  · rw [hI_0]
    refine ⟨⟨Nat.zero_le _, eq_0⟩, ?_⟩
    exact p_spec_l3Own_pv ff trivial
  · try clear ff
    rintro ⟨i_0, l_7⟩ σ hg_0
    rw [hI_0] at hg_0
    obtain ⟨⟨hi_0, h_0⟩, g0_0, g1_0, g2_0, g3_0, g4_0, g5_0, g6_0, g7_0, g8_0⟩ := hg_0
    cases hr_0 : w_a0.Entities.drop i_0 with
    | nil =>
      rw [hr_0] at h_0
      rw [p_spec_l3Own_l0] at h_0
      have hn_0 := drop_nil hr_0
      have dr_0 : decide ((i_0 : Int) < (w_a0.Entities.length : Int)) = false := decide_eq_false (by omega)
      have ff := And.intro @dr_0 (And.intro @g0_0 (And.intro @g1_0 (And.intro @g2_0 (And.intro @g3_0 (And.intro @g4_0 (And.intro @g5_0 (And.intro @g6_0 (And.intro @g7_0 (And.intro @g8_0 p_spec_l3Own_tf.down)))))))))
      try refine st_by ff ?_
      repeat' (first | exact trivial | refine And.intro sd ?_)
      refine JW.intro ?_
      rw [hJ_0]
      refine ⟨l_7, h_0, ?_⟩
      exact p_spec_l3Own_pv ff trivial
    | cons x_0 r_0 =>
      rw [hr_0] at h_0
      rw [p_spec_l3Own_l0] at h_0
      obtain ⟨ht_0, hg_0, hd_0⟩ := drop_cons hr_0
      have dr_0 : decide ((i_0 : Int) < (w_a0.Entities.length : Int)) = true := decide_eq_true (by omega)
      have w_0 : IntKind.i64.wrap ((i_0 : Int) + 1) = ((i_0 + 1 : Nat) : Int) := wI _ (by omega) (by omega)
      have kk0c : (esEntity w_a0.Entities).drop (i_0 * 2) = eEntity x_0 ++ esEntity (w_a0.Entities.drop (i_0 + 1)) := drop_enc (fun _ => rfl) (hg_0)
      by_cases c15 : x_0.Parts.length < 4294967296
      case neg => rw [if_neg c15] at h_0; cases h_0
      rw [if_pos c15] at h_0
      by_cases c17 : l_7.length < 4294967296
      case neg => rw [if_neg c17] at h_0; cases h_0
      rw [if_pos c17] at h_0
      have a18a : esEntityo l_7 ++ [I x_0.Id, .row true 3 x_0.Parts.length (esPart x_0.Parts)] = esEntityo (l_7 ++ [(⟨x_0.Id, x_0.Parts⟩ : GEntity)]) := by simp [esEntityo_app, esEntityo_cons, esEntityo_nil, eEntityo_eq, esWorld_nil, esEntity_nil, esPart_nil]
      have a18b : l_7.length + 1 = (l_7 ++ [(⟨x_0.Id, x_0.Parts⟩ : GEntity)]).length := by simp
      have ff := And.intro @dr_0 (And.intro @w_0 (And.intro @g0_0 (And.intro @g1_0 (And.intro @g2_0 (And.intro @g3_0 (And.intro @g4_0 (And.intro @g5_0 (And.intro @g6_0 (And.intro @g7_0 (And.intro @g8_0 (And.intro @kk0c (And.intro @a18a (And.intro @a18b p_spec_l3Own_tf.down)))))))))))))
      try refine st_by ff ?_
      repeat' (first | exact trivial | refine And.intro sd ?_)
      refine Back.intro (i_0 + 1, (l_7 ++ [(⟨x_0.Id, x_0.Parts⟩ : GEntity)])) ?_ ?_
      · clear ff; rw [hM_0]; show w_a0.Entities.length - (i_0 + 1) < w_a0.Entities.length - i_0; omega
      rw [hI_0]
      refine ⟨⟨by clear ff; show i_0 + 1 ≤ w_a0.Entities.length; omega, by show p_spec_l3Own_l0 (w_a0.Entities.drop (i_0 + 1)) (i_0 + 1) (l_7 ++ [(⟨x_0.Id, x_0.Parts⟩ : GEntity)]) = some q_0; rw [hd_0]; exact h_0⟩, ?_⟩
      exact p_spec_l3Own_pv ff trivial
  · try clear ff
    rintro σ hg_0
    rw [hJ_0] at hg_0
    obtain ⟨l_7, hj_0, g0_0a, g1_0a, g2_0a, g3_0a, g4_0a, g5_0a⟩ := hg_0
    have hjj_0 := Option.some.inj hj_0
    subst hjj_0
    try dsimp only at h
    have ff := And.intro @g0_0a (And.intro @g1_0a (And.intro @g2_0a (And.intro @g3_0a (And.intro @g4_0a (And.intro @g5_0a p_spec_l3Own_tf.down)))))
    try refine st_by ff ?_
    repeat' (first | exact trivial | refine And.intro sd ?_)
    cases h
    exact ret_q1 rfl (p_spec_l3Own_rt ff trivial)
/-! spec.l3At -/
def p_spec_l3At_l0 (id_a1 : Int) : List GEntity → Nat → Option (LR (Int) (Unit))
  | [], i_0 => some (.out ())
  | x_0 :: r_0, i_0 => (if x_0.Id = id_a1 then some (.ret (i_0 : Int)) else p_spec_l3At_l0 id_a1 r_0 (i_0 + 1))
theorem p_spec_l3At_pv {F C A : Prop} (hF : F) (hC : C) (h : F → C → A := by intro hF hC; first | exact cl_by hF | (refine st_by hF ?_; (repeat' (first | exact trivial | apply And.intro)); all_goals (clear hF; first | rfl | (simp only [hC, List.length_append, List.length_cons, List.length_nil, List.append_nil, List.nil_append, List.cons_append, List.length_set, List.append_assoc, Nat.zero_add, List.length_replicate, esWorld_app, esWorld_cons, esWorld_nil, eWorld_eq, esWorldo_app, esWorldo_cons, esWorldo_nil, eWorldo_eq, esEntity_app, esEntity_cons, esEntity_nil, eEntity_eq, esEntityo_app, esEntityo_cons, esEntityo_nil, eEntityo_eq, esPart_app, esPart_cons, esPart_nil, ePart_eq]; done) | (simp [hC, List.length_append, List.length_cons, List.length_nil, List.append_nil, List.nil_append, List.cons_append, List.length_set, List.append_assoc, Nat.zero_add, List.length_replicate, esWorld_app, esWorld_cons, esWorld_nil, eWorld_eq, esWorldo_app, esWorldo_cons, esWorldo_nil, eWorldo_eq, esEntity_app, esEntity_cons, esEntity_nil, eEntity_eq, esEntityo_app, esEntityo_cons, esEntityo_nil, eEntityo_eq, esPart_app, esPart_cons, esPart_nil, ePart_eq]; done) | omega))) : A := h hF hC
theorem p_spec_l3At_sa {F C A : Prop} (hF : F) (hC : C) (h : F → C → A := by intro hF hC; first | exact ca_by hF | (refine sa_by hF ?_; (repeat' (first | exact trivial | apply And.intro)); all_goals (clear hF; first | rfl | (simp only [hC, List.length_append, List.length_cons, List.length_nil, List.append_nil, List.nil_append, List.cons_append, List.length_set, List.append_assoc, Nat.zero_add, List.length_replicate, esWorld_app, esWorld_cons, esWorld_nil, eWorld_eq, esWorldo_app, esWorldo_cons, esWorldo_nil, eWorldo_eq, esEntity_app, esEntity_cons, esEntity_nil, eEntity_eq, esEntityo_app, esEntityo_cons, esEntityo_nil, eEntityo_eq, esPart_app, esPart_cons, esPart_nil, ePart_eq]; done) | (simp [hC, List.length_append, List.length_cons, List.length_nil, List.append_nil, List.nil_append, List.cons_append, List.length_set, List.append_assoc, Nat.zero_add, List.length_replicate, esWorld_app, esWorld_cons, esWorld_nil, eWorld_eq, esWorldo_app, esWorldo_cons, esWorldo_nil, eWorldo_eq, esEntity_app, esEntity_cons, esEntity_nil, eEntity_eq, esEntityo_app, esEntityo_cons, esEntityo_nil, eEntityo_eq, esPart_app, esPart_cons, esPart_nil, ePart_eq]; done) | omega))) : A := h hF hC
theorem p_spec_l3At_rt {F C A : Prop} (hF : F) (hC : C) (h : F → C → A := by intro hF hC; first | (refine sr_by hF ?_; (repeat' (first | exact trivial | apply And.intro)); all_goals (clear hF; first | rfl | (simp only [hC, List.length_append, List.length_cons, List.length_nil, List.append_nil, List.nil_append, List.cons_append, List.length_set, List.append_assoc, Nat.zero_add, List.length_replicate, esWorld_app, esWorld_cons, esWorld_nil, eWorld_eq, esWorldo_app, esWorldo_cons, esWorldo_nil, eWorldo_eq, esEntity_app, esEntity_cons, esEntity_nil, eEntity_eq, esEntityo_app, esEntityo_cons, esEntityo_nil, eEntityo_eq, esPart_app, esPart_cons, esPart_nil, ePart_eq]; done) | (simp [hC, List.length_append, List.length_cons, List.length_nil, List.append_nil, List.nil_append, List.cons_append, List.length_set, List.append_assoc, Nat.zero_add, List.length_replicate, esWorld_app, esWorld_cons, esWorld_nil, eWorld_eq, esWorldo_app, esWorldo_cons, esWorldo_nil, eWorldo_eq, esEntity_app, esEntity_cons, esEntity_nil, eEntity_eq, esEntityo_app, esEntityo_cons, esEntityo_nil, eEntityo_eq, esPart_app, esPart_cons, esPart_nil, ePart_eq]; done) | omega)) | (first | rfl | (simp only [hC, List.length_append, List.length_cons, List.length_nil, List.append_nil, List.nil_append, List.cons_append, List.length_set, List.append_assoc, Nat.zero_add, List.length_replicate, esWorld_app, esWorld_cons, esWorld_nil, eWorld_eq, esWorldo_app, esWorldo_cons, esWorldo_nil, eWorldo_eq, esEntity_app, esEntity_cons, esEntity_nil, eEntity_eq, esEntityo_app, esEntityo_cons, esEntityo_nil, eEntityo_eq, esPart_app, esPart_cons, esPart_nil, ePart_eq]; done) | (simp [hC, List.length_append, List.length_cons, List.length_nil, List.append_nil, List.nil_append, List.cons_append, List.length_set, List.append_assoc, Nat.zero_add, List.length_replicate, esWorld_app, esWorld_cons, esWorld_nil, eWorld_eq, esWorldo_app, esWorldo_cons, esWorldo_nil, eWorldo_eq, esEntity_app, esEntity_cons, esEntity_nil, eEntity_eq, esEntityo_app, esEntityo_cons, esEntityo_nil, eEntityo_eq, esPart_app, esPart_cons, esPart_nil, ePart_eq]; done) | omega)) : A := h hF hC
def p_spec_l3At_tf := PLift.up (And.intro @eWorld_eq (And.intro @esWorld_len (And.intro @esWorld_nil (And.intro @esWorld_leaf (And.intro @esWorld_fit (And.intro @eWorldo_eq (And.intro @esWorldo_len (And.intro @esWorldo_nil (And.intro @eEntity_eq (And.intro @esEntity_len (And.intro @esEntity_nil (And.intro @esEntity_leaf (And.intro @esEntity_fit (And.intro @eEntityo_eq (And.intro @esEntityo_len (And.intro @esEntityo_nil (And.intro @ePart_eq (And.intro @esPart_len (And.intro @esPart_nil (And.intro @esPart_leaf (And.intro @esPart_fit (And.intro @esWorldo_share (And.intro @esWorldo_pure (And.intro @esEntityo_share (And.intro @esEntityo_pure (And.intro @esPart_share (And.intro @esPart_pure (And.intro @str_beq (And.intro @Ty.sl26 (And.intro @Ty.slz26 (And.intro @Ty.nz26 (And.intro @Ty.ldA26 (And.intro @Ty.ldS26 (And.intro @Ty.sz26 (And.intro @Ty.szn26 (And.intro @Ty.nz46 (And.intro @Ty.ldA46 (And.intro @Ty.sz46 (And.intro @Ty.szn46 (And.intro @Ty.nz3 (And.intro @Ty.ldA3 (And.intro @Ty.ldS3 (And.intro @Ty.sz3 (And.intro @Ty.szn3 (And.intro @Ty.fo28_2 (And.intro @Ty.fk28_2 (And.intro @Ty.fs28_2 (And.intro @Ty.fn28_2 (And.intro @Ty.fo46_0 (And.intro @Ty.fk46_0 (And.intro @Ty.fs46_0 (And.intro @Ty.fn46_0 (And.intro @Ty.zv46 @trivial)))))))))))))))))))))))))))))))))))))))))))))))))))))
def p_spec_l3At (w_a0 : GWorld) (id_a1 : Int) : Option (Int) := ((p_spec_l3At_l0 id_a1 w_a0.Entities 0).bind fun q_0 => match q_0 with | .ret r_ => some r_ | .out _ => some (-1))
theorem p_spec_l3At_does (w_a0 : GWorld) (id_a1 : Int) (r : Int) (h : p_spec_l3At w_a0 id_a1 = some r) : Does Try.prog 17 [.agg (eWorld w_a0), I id_a1] (I r) := by
  rw [p_spec_l3At] at h
  refine Does.bnd (fun hb => ?_)
  have hb2 : w_a0.Entities.length ≤ 9223372036854775807 := by simpa [AV.fitNs, AV.fitN, eWorld] using hb
  have hl0 := hb2
  refine Does.walk (nt := 21) Try.func17 rfl rfl (by simp) (by decide) rfl (fun G0 X w0 pv => ?_)
  have hL_0 : w_a0.Entities.length ≤ 9223372036854775807 := by first | assumption | omega
  obtain ⟨q_0, eq_0, h⟩ := Option.bind_eq_some_iff.1 h
  have ff := p_spec_l3At_tf.down
  try refine st_by ff ?_
  repeat' (first | exact trivial | refine And.intro sd ?_)
  obtain ⟨I_0, hI_0⟩ : ∃ I_ : (Nat) → ASt → Prop, I_ = (fun (i_0 : Nat) σ => (i_0 ≤ w_a0.Entities.length ∧ p_spec_l3At_l0 id_a1 (w_a0.Entities.drop i_0) i_0 = some q_0) ∧ σ.t 1 = I id_a1 ∧ σ.t 8 = .row false 2 w_a0.Entities.length (esEntity w_a0.Entities) ∧ σ.t 9 = I (w_a0.Entities.length : Int) ∧ σ.t 10 = I (i_0 : Int)) := ⟨_, rfl⟩
  obtain ⟨M_0, hM_0⟩ : ∃ M_ : (Nat) → Nat, M_ = (fun (i_0 : Nat) => w_a0.Entities.length - i_0) := ⟨_, rfl⟩
  obtain ⟨J_0, hJ_0⟩ : ∃ J_ : ASt → Prop, J_ = (fun σ => (some (.out ()) = some q_0) ∧ True) := ⟨_, rfl⟩
  refine aw_loopC (id := 0) I_0 M_0 J_0 (0) ?_ ?_ ?_
  · rw [hI_0]
    refine ⟨⟨Nat.zero_le _, eq_0⟩, ?_⟩
    exact p_spec_l3At_pv ff trivial
  · try clear ff
    rintro i_0 σ hg_0
    rw [hI_0] at hg_0
    obtain ⟨⟨hi_0, h_0⟩, g0_0, g1_0, g2_0, g3_0⟩ := hg_0
    cases hr_0 : w_a0.Entities.drop i_0 with
    | nil =>
      rw [hr_0] at h_0
      rw [p_spec_l3At_l0] at h_0
      have hn_0 := drop_nil hr_0
      have dr_0 : decide ((i_0 : Int) < (w_a0.Entities.length : Int)) = false := decide_eq_false (by omega)
      have ff := And.intro @dr_0 (And.intro @g0_0 (And.intro @g1_0 (And.intro @g2_0 (And.intro @g3_0 p_spec_l3At_tf.down))))
      try refine st_by ff ?_
      repeat' (first | exact trivial | refine And.intro sd ?_)
      refine JW.intro ?_
      rw [hJ_0]
      refine ⟨h_0, ?_⟩
      exact p_spec_l3At_pv ff trivial
    | cons x_0 r_0 =>
      rw [hr_0] at h_0
      rw [p_spec_l3At_l0] at h_0
      obtain ⟨ht_0, hg_0, hd_0⟩ := drop_cons hr_0
      have dr_0 : decide ((i_0 : Int) < (w_a0.Entities.length : Int)) = true := decide_eq_true (by omega)
      have w_0 : IntKind.i64.wrap ((i_0 : Int) + 1) = ((i_0 + 1 : Nat) : Int) := wI _ (by omega) (by omega)
      have kk0c : (esEntity w_a0.Entities).drop (i_0 * 2) = eEntity x_0 ++ esEntity (w_a0.Entities.drop (i_0 + 1)) := drop_enc (fun _ => rfl) (hg_0)
      by_cases c10 : x_0.Id = id_a1
      · rw [if_pos c10] at h_0
        have dc10 := beq_yes c10
        cases h_0
        try dsimp only at h
        have ff := And.intro @dr_0 (And.intro @w_0 (And.intro @g0_0 (And.intro @g1_0 (And.intro @g2_0 (And.intro @g3_0 (And.intro @kk0c (And.intro @dc10 p_spec_l3At_tf.down)))))))
        try refine st_by ff ?_
        repeat' (first | exact trivial | refine And.intro sd ?_)
        cases h
        exact ret_q1 rfl (p_spec_l3At_rt ff trivial)
      rw [if_neg c10] at h_0
      have dc10 := beq_no c10
      have ff := And.intro @dr_0 (And.intro @w_0 (And.intro @g0_0 (And.intro @g1_0 (And.intro @g2_0 (And.intro @g3_0 (And.intro @kk0c (And.intro @dc10 p_spec_l3At_tf.down)))))))
      try refine st_by ff ?_
      repeat' (first | exact trivial | refine And.intro sd ?_)
      refine Back.intro (i_0 + 1) ?_ ?_
      · clear ff; rw [hM_0]; show w_a0.Entities.length - (i_0 + 1) < w_a0.Entities.length - i_0; omega
      rw [hI_0]
      refine ⟨⟨by clear ff; show i_0 + 1 ≤ w_a0.Entities.length; omega, by show p_spec_l3At_l0 id_a1 (w_a0.Entities.drop (i_0 + 1)) (i_0 + 1) = some q_0; rw [hd_0]; exact h_0⟩, ?_⟩
      exact p_spec_l3At_pv ff trivial
  · try clear ff
    rintro σ hg_0
    rw [hJ_0] at hg_0
    obtain ⟨hj_0, _⟩ := hg_0
    cases hj_0
    try dsimp only at h
    have ff := p_spec_l3At_tf.down
    try refine st_by ff ?_
    repeat' (first | exact trivial | refine And.intro sd ?_)
    cases h
    exact ret_q1 rfl (p_spec_l3At_rt ff trivial)
/-! spec.Despawn -/
theorem p_spec_Despawn_pv {F C A : Prop} (hF : F) (hC : C) (h : F → C → A := by intro hF hC; first | exact cl_by hF | (refine st_by hF ?_; (repeat' (first | exact trivial | apply And.intro)); all_goals (clear hF; first | rfl | (simp only [hC, List.length_append, List.length_cons, List.length_nil, List.append_nil, List.nil_append, List.cons_append, List.length_set, List.append_assoc, Nat.zero_add, List.length_replicate, esWorld_app, esWorld_cons, esWorld_nil, eWorld_eq, esWorldo_app, esWorldo_cons, esWorldo_nil, eWorldo_eq, esEntity_app, esEntity_cons, esEntity_nil, eEntity_eq, esEntityo_app, esEntityo_cons, esEntityo_nil, eEntityo_eq]; done) | (simp [hC, List.length_append, List.length_cons, List.length_nil, List.append_nil, List.nil_append, List.cons_append, List.length_set, List.append_assoc, Nat.zero_add, List.length_replicate, esWorld_app, esWorld_cons, esWorld_nil, eWorld_eq, esWorldo_app, esWorldo_cons, esWorldo_nil, eWorldo_eq, esEntity_app, esEntity_cons, esEntity_nil, eEntity_eq, esEntityo_app, esEntityo_cons, esEntityo_nil, eEntityo_eq]; done) | omega))) : A := h hF hC
theorem p_spec_Despawn_sa {F C A : Prop} (hF : F) (hC : C) (h : F → C → A := by intro hF hC; first | exact ca_by hF | (refine sa_by hF ?_; (repeat' (first | exact trivial | apply And.intro)); all_goals (clear hF; first | rfl | (simp only [hC, List.length_append, List.length_cons, List.length_nil, List.append_nil, List.nil_append, List.cons_append, List.length_set, List.append_assoc, Nat.zero_add, List.length_replicate, esWorld_app, esWorld_cons, esWorld_nil, eWorld_eq, esWorldo_app, esWorldo_cons, esWorldo_nil, eWorldo_eq, esEntity_app, esEntity_cons, esEntity_nil, eEntity_eq, esEntityo_app, esEntityo_cons, esEntityo_nil, eEntityo_eq]; done) | (simp [hC, List.length_append, List.length_cons, List.length_nil, List.append_nil, List.nil_append, List.cons_append, List.length_set, List.append_assoc, Nat.zero_add, List.length_replicate, esWorld_app, esWorld_cons, esWorld_nil, eWorld_eq, esWorldo_app, esWorldo_cons, esWorldo_nil, eWorldo_eq, esEntity_app, esEntity_cons, esEntity_nil, eEntity_eq, esEntityo_app, esEntityo_cons, esEntityo_nil, eEntityo_eq]; done) | omega))) : A := h hF hC
theorem p_spec_Despawn_rt {F C A : Prop} (hF : F) (hC : C) (h : F → C → A := by intro hF hC; first | (refine sr_by hF ?_; (repeat' (first | exact trivial | apply And.intro)); all_goals (clear hF; first | rfl | (simp only [hC, List.length_append, List.length_cons, List.length_nil, List.append_nil, List.nil_append, List.cons_append, List.length_set, List.append_assoc, Nat.zero_add, List.length_replicate, esWorld_app, esWorld_cons, esWorld_nil, eWorld_eq, esWorldo_app, esWorldo_cons, esWorldo_nil, eWorldo_eq, esEntity_app, esEntity_cons, esEntity_nil, eEntity_eq, esEntityo_app, esEntityo_cons, esEntityo_nil, eEntityo_eq]; done) | (simp [hC, List.length_append, List.length_cons, List.length_nil, List.append_nil, List.nil_append, List.cons_append, List.length_set, List.append_assoc, Nat.zero_add, List.length_replicate, esWorld_app, esWorld_cons, esWorld_nil, eWorld_eq, esWorldo_app, esWorldo_cons, esWorldo_nil, eWorldo_eq, esEntity_app, esEntity_cons, esEntity_nil, eEntity_eq, esEntityo_app, esEntityo_cons, esEntityo_nil, eEntityo_eq]; done) | omega)) | (first | rfl | (simp only [hC, List.length_append, List.length_cons, List.length_nil, List.append_nil, List.nil_append, List.cons_append, List.length_set, List.append_assoc, Nat.zero_add, List.length_replicate, esWorld_app, esWorld_cons, esWorld_nil, eWorld_eq, esWorldo_app, esWorldo_cons, esWorldo_nil, eWorldo_eq, esEntity_app, esEntity_cons, esEntity_nil, eEntity_eq, esEntityo_app, esEntityo_cons, esEntityo_nil, eEntityo_eq]; done) | (simp [hC, List.length_append, List.length_cons, List.length_nil, List.append_nil, List.nil_append, List.cons_append, List.length_set, List.append_assoc, Nat.zero_add, List.length_replicate, esWorld_app, esWorld_cons, esWorld_nil, eWorld_eq, esWorldo_app, esWorldo_cons, esWorldo_nil, eWorldo_eq, esEntity_app, esEntity_cons, esEntity_nil, eEntity_eq, esEntityo_app, esEntityo_cons, esEntityo_nil, eEntityo_eq]; done) | omega)) : A := h hF hC
def p_spec_Despawn_tf := PLift.up (And.intro @eWorld_eq (And.intro @esWorld_len (And.intro @esWorld_nil (And.intro @esWorld_leaf (And.intro @esWorld_fit (And.intro @eWorldo_eq (And.intro @esWorldo_len (And.intro @esWorldo_nil (And.intro @eEntity_eq (And.intro @esEntity_len (And.intro @esEntity_nil (And.intro @esEntity_leaf (And.intro @esEntity_fit (And.intro @eEntityo_eq (And.intro @esEntityo_len (And.intro @esEntityo_nil (And.intro @esWorldo_share (And.intro @esWorldo_pure (And.intro @esEntityo_share (And.intro @esEntityo_pure (And.intro @str_beq (And.intro @Ty.nz28 (And.intro @Ty.ldA28 (And.intro @Ty.sz28 (And.intro @Ty.szn28 (And.intro @Ty.nz26 (And.intro @Ty.ldA26 (And.intro @Ty.ldS26 (And.intro @Ty.sz26 (And.intro @Ty.szn26 (And.intro @Ty.fo28_2 (And.intro @Ty.fk28_2 (And.intro @Ty.fs28_2 (And.intro @Ty.fn28_2 (And.intro @Ty.nze26 (And.intro @Ty.sl26 (And.intro @Ty.slz26 (And.intro @Ty.zok26 (And.intro @Ty.by26 (And.intro @Ty.zs26 (And.intro @Ty.zv28 (And.intro @Ty.bd28 (And.intro @Ty.ag28 @trivial)))))))))))))))))))))))))))))))))))))))))))
def p_spec_Despawn (w_a0 : GWorld) (id_a1 : Int) : Option (GWorld × Int) := ((p_spec_GoodWorld w_a0).bind fun v1 => (if v1 = true then ((p_spec_l3Own w_a0).bind fun v3 => ((p_spec_l3At (⟨v3.Next, v3.Tick, v3.Entities⟩ : GWorld) id_a1).bind fun v4 => (if v4 < 0 then some ((⟨v3.Next, v3.Tick, v3.Entities⟩ : GWorld), 2) else ((slc v3.Entities 0 v4).bind fun m6 => ((slc v3.Entities (IntKind.i64.wrap (v4 + 1)) (v3.Entities.length : Int)).bind fun m8 => (if v3.Entities.length < 4294967296 then (if v4.toNat ≤ (IntKind.i64.wrap (v4 + 1)).toNat then some ((⟨v3.Next, v3.Tick, (m6 ++ m8)⟩ : GWorld), 0) else none) else none)))))) else some ((⟨0, 0, ([] : List GEntity)⟩ : GWorld), 1)))
theorem p_spec_Despawn_does (w_a0 : GWorld) (id_a1 : Int) (r : GWorld × Int) (h : p_spec_Despawn w_a0 id_a1 = some r) : Does Try.prog 6 [.agg (eWorld w_a0), I id_a1] (.tup [.agg (eWorldo r.1), I r.2]) := by
  rw [p_spec_Despawn] at h
  refine Does.bnd (fun hb => ?_)
  have hb2 : w_a0.Entities.length ≤ 9223372036854775807 := by simpa [AV.fitNs, AV.fitN, eWorld] using hb
  have hl0 := hb2
  refine Does.walk (nt := 31) Try.func6 rfl rfl (by simp) (by decide) rfl (fun G0 X w0 pv => ?_)
  obtain ⟨v1, ev1, h⟩ := Option.bind_eq_some_iff.1 h
  try dsimp only at h
  have ff := p_spec_Despawn_tf.down
  try refine st_by ff ?_
  repeat' (first | exact trivial | refine And.intro sd ?_)
  first
  | (refine cq_call (p_spec_GoodWorld_does w_a0 v1 ev1) (hf_by ff) kr ⟨p_spec_Despawn_sa ff trivial, ?_⟩; clear ff)
  | (refine cq_dcall (p_spec_GoodWorld_does w_a0 v1 ev1) (hf_by ff) kr ⟨p_spec_Despawn_sa ff trivial, ?_⟩; clear ff)
  by_cases c2 : v1 = true
  case neg =>
   rw [if_neg c2] at h
   have dc2 := eq_false_of_ne_true c2
   have ff := And.intro @dc2 p_spec_Despawn_tf.down
   try refine st_by ff ?_
   repeat' (first | exact trivial | refine And.intro sd ?_)
   cases h
   exact ret_q2 rfl (p_spec_Despawn_rt ff trivial)
  rw [if_pos c2] at h
  have dc2 := c2
  obtain ⟨v3, ev3, h⟩ := Option.bind_eq_some_iff.1 h
  try dsimp only at h
  have ff := And.intro @dc2 p_spec_Despawn_tf.down
  try refine st_by ff ?_
  repeat' (first | exact trivial | refine And.intro sd ?_)
  first
  | (refine cq_own (p_spec_l3Own_does w_a0 v3 ev3) (hf_by ff) kr ⟨p_spec_Despawn_sa ff trivial, ?_⟩; clear ff)
  | (refine cq_down (p_spec_l3Own_does w_a0 v3 ev3) (hf_by ff) kr ⟨p_spec_Despawn_sa ff trivial, ?_⟩; clear ff)
  obtain ⟨v4, ev4, h⟩ := Option.bind_eq_some_iff.1 h
  try dsimp only at h
  have ff := And.intro @dc2 p_spec_Despawn_tf.down
  try refine st_by ff ?_
  repeat' (first | exact trivial | refine And.intro sd ?_)
  first
  | (refine cq_lend (p_spec_l3At_does (⟨v3.Next, v3.Tick, v3.Entities⟩ : GWorld) id_a1 v4 ev4) (hf_by ff) kr ⟨p_spec_Despawn_sa ff trivial, ?_⟩; clear ff)
  | (refine cq_dlend (p_spec_l3At_does (⟨v3.Next, v3.Tick, v3.Entities⟩ : GWorld) id_a1 v4 ev4) (hf_by ff) kr ⟨p_spec_Despawn_sa ff trivial, ?_⟩; clear ff)
  by_cases c5 : v4 < 0
  · rw [if_pos c5] at h
    have dc5 := decide_eq_true c5
    have ff := And.intro @dc2 (And.intro @dc5 p_spec_Despawn_tf.down)
    try refine st_by ff ?_
    repeat' (first | exact trivial | refine And.intro sd ?_)
    cases h
    exact ret_q2 rfl (p_spec_Despawn_rt ff trivial)
  rw [if_neg c5] at h
  have dc5 := decide_eq_false c5
  obtain ⟨m6, em6, h⟩ := Option.bind_eq_some_iff.1 h
  try dsimp only at h
  obtain ⟨f7a, f7b⟩ := slc_ok em6
  have f7c : (esEntityo v3.Entities).take (v4.toNat * 2) = esEntityo m6 := slc_encL (enc := eEntityo) (fun _ => rfl) em6
  have f7d : m6.length = v4.toNat := (slc_lenL em6).symm
  obtain ⟨m8, em8, h⟩ := Option.bind_eq_some_iff.1 h
  try dsimp only at h
  obtain ⟨f9a, f9b⟩ := slc_ok em8
  have f9c : ((esEntityo v3.Entities).drop (((IntKind.i64.wrap (v4 + 1)).toNat) * 2)).take ((v3.Entities.length - ((IntKind.i64.wrap (v4 + 1)).toNat)) * 2) = esEntityo m8 := slc_encH (enc := eEntityo) (fun _ => rfl) em8
  have f9d : m8.length = v3.Entities.length - ((IntKind.i64.wrap (v4 + 1)).toNat) := (slc_lenH em8).symm
  have f9e : (if (((IntKind.i64.wrap (v4 + 1)).toNat) = 0 ∧ v3.Entities.length - ((IntKind.i64.wrap (v4 + 1)).toNat) = v3.Entities.length) then esEntityo v3.Entities else esEntityo m8) = esEntityo m8 := slc_ite (enc := eEntityo) (sz := 2) (fun _ => rfl) em8
  by_cases c10 : v3.Entities.length < 4294967296
  case neg => rw [if_neg c10] at h; cases h
  rw [if_pos c10] at h
  by_cases c11 : v4.toNat ≤ (IntKind.i64.wrap (v4 + 1)).toNat
  case neg => rw [if_neg c11] at h; cases h
  rw [if_pos c11] at h
  have a12a : esEntityo m6 ++ esEntityo m8 = esEntityo (m6 ++ m8) := by simp [esEntityo_app]
  have a12b : v4.toNat + (v3.Entities.length - ((IntKind.i64.wrap (v4 + 1)).toNat)) = (m6 ++ m8).length := by have h1_ := slc_lenL em6; have h2_ := slc_lenH em8; rw [List.length_append]; omega
  have a12c : (if v4.toNat = v3.Entities.length then esEntityo v3.Entities else esEntityo m6) = esEntityo m6 := slc_iteL (enc := eEntityo) em6
  have a12e : fitCs (esEntityo m8) = true := esEntityo_fit _
  have ff := And.intro @dc2 (And.intro @dc5 (And.intro @f7c (And.intro @f9c (And.intro @f9e (And.intro @a12c (And.intro @a12e (And.intro @a12a (And.intro @a12b p_spec_Despawn_tf.down))))))))
  try refine st_by ff ?_
  repeat' (first | exact trivial | refine And.intro sd ?_ | (refine aw_drawn (id := 7) ?_ [[], [0], [], [0, 1, 2], [], [4], [], [6], [4, 5, 6, 7], [0, 1, 2, 3, 4, 5, 6, 7, 8], [0, 1, 2, 3, 4, 5, 6, 7, 8, 9], [0, 1, 2, 3, 4, 5, 6, 7, 8, 9, 10]] 9 ?_ ?_; (· kernel_rfl); (· kernel_rfl); refine st_by ff ?_))
  cases h
  exact ret_q2 rfl (p_spec_Despawn_rt ff (And.intro @f7d @f9d))
/-! impl.areParts -/
def p_impl_areParts_l0 (list_a0 : List GPart) (tick_a1 : Int) : List GPart → Nat → Option (LR (Bool) (Unit))
  | [], i_0 => some (.out ())
  | x_0 :: r_0, i_0 => (if x_0.Name.size ≤ 9223372036854775807 then (if (goodName x_0.Name) = true then (if (i_0 : Int) > 0 then ((idx list_a0 (IntKind.i64.wrap ((i_0 : Int) - 1))).bind fun x27 => (if (Op.bytesLess x27.Name.toList x_0.Name.toList) = true then (if (rng x_0.Tick 0 tick_a1) = true then p_impl_areParts_l0 list_a0 tick_a1 r_0 (i_0 + 1) else some (.ret false)) else some (.ret false))) else (if (rng x_0.Tick 0 tick_a1) = true then p_impl_areParts_l0 list_a0 tick_a1 r_0 (i_0 + 1) else some (.ret false))) else some (.ret false)) else none)
theorem p_impl_areParts_pv {F C A : Prop} (hF : F) (hC : C) (h : F → C → A := by intro hF hC; first | exact cl_by hF | (refine st_by hF ?_; (repeat' (first | exact trivial | apply And.intro)); all_goals (clear hF; first | rfl | (simp only [hC, List.length_append, List.length_cons, List.length_nil, List.append_nil, List.nil_append, List.cons_append, List.length_set, List.append_assoc, Nat.zero_add, List.length_replicate, esPart_app, esPart_cons, esPart_nil, ePart_eq]; done) | (simp [hC, List.length_append, List.length_cons, List.length_nil, List.append_nil, List.nil_append, List.cons_append, List.length_set, List.append_assoc, Nat.zero_add, List.length_replicate, esPart_app, esPart_cons, esPart_nil, ePart_eq]; done) | omega))) : A := h hF hC
theorem p_impl_areParts_sa {F C A : Prop} (hF : F) (hC : C) (h : F → C → A := by intro hF hC; first | exact ca_by hF | (refine sa_by hF ?_; (repeat' (first | exact trivial | apply And.intro)); all_goals (clear hF; first | rfl | (simp only [hC, List.length_append, List.length_cons, List.length_nil, List.append_nil, List.nil_append, List.cons_append, List.length_set, List.append_assoc, Nat.zero_add, List.length_replicate, esPart_app, esPart_cons, esPart_nil, ePart_eq]; done) | (simp [hC, List.length_append, List.length_cons, List.length_nil, List.append_nil, List.nil_append, List.cons_append, List.length_set, List.append_assoc, Nat.zero_add, List.length_replicate, esPart_app, esPart_cons, esPart_nil, ePart_eq]; done) | omega))) : A := h hF hC
theorem p_impl_areParts_rt {F C A : Prop} (hF : F) (hC : C) (h : F → C → A := by intro hF hC; first | (refine sr_by hF ?_; (repeat' (first | exact trivial | apply And.intro)); all_goals (clear hF; first | rfl | (simp only [hC, List.length_append, List.length_cons, List.length_nil, List.append_nil, List.nil_append, List.cons_append, List.length_set, List.append_assoc, Nat.zero_add, List.length_replicate, esPart_app, esPart_cons, esPart_nil, ePart_eq]; done) | (simp [hC, List.length_append, List.length_cons, List.length_nil, List.append_nil, List.nil_append, List.cons_append, List.length_set, List.append_assoc, Nat.zero_add, List.length_replicate, esPart_app, esPart_cons, esPart_nil, ePart_eq]; done) | omega)) | (first | rfl | (simp only [hC, List.length_append, List.length_cons, List.length_nil, List.append_nil, List.nil_append, List.cons_append, List.length_set, List.append_assoc, Nat.zero_add, List.length_replicate, esPart_app, esPart_cons, esPart_nil, ePart_eq]; done) | (simp [hC, List.length_append, List.length_cons, List.length_nil, List.append_nil, List.nil_append, List.cons_append, List.length_set, List.append_assoc, Nat.zero_add, List.length_replicate, esPart_app, esPart_cons, esPart_nil, ePart_eq]; done) | omega)) : A := h hF hC
def p_impl_areParts_tf := PLift.up (And.intro @ePart_eq (And.intro @esPart_len (And.intro @esPart_nil (And.intro @esPart_leaf (And.intro @esPart_fit (And.intro @esPart_share (And.intro @esPart_pure (And.intro @str_beq (And.intro @Ty.sl44 (And.intro @Ty.slz44 (And.intro @Ty.nz58 (And.intro @Ty.ldA58 (And.intro @Ty.sz58 (And.intro @Ty.szn58 (And.intro @Ty.nz9 (And.intro @Ty.ldA9 (And.intro @Ty.ldS9 (And.intro @Ty.sz9 (And.intro @Ty.szn9 (And.intro @Ty.nz3 (And.intro @Ty.ldA3 (And.intro @Ty.ldS3 (And.intro @Ty.sz3 (And.intro @Ty.szn3 (And.intro @Ty.fo58_0 (And.intro @Ty.fk58_0 (And.intro @Ty.fs58_0 (And.intro @Ty.fn58_0 (And.intro @Ty.fo58_2 (And.intro @Ty.fk58_2 (And.intro @Ty.fs58_2 (And.intro @Ty.fn58_2 (And.intro @Ty.zv58 @trivial)))))))))))))))))))))))))))))))))
def p_impl_areParts (list_a0 : List GPart) (tick_a1 : Int) : Option (Bool) := ((p_impl_areParts_l0 list_a0 tick_a1 list_a0 0).bind fun q_0 => match q_0 with | .ret r_ => some r_ | .out _ => some (decide ((list_a0.length : Int) ≤ 12)))
theorem p_impl_areParts_does (list_a0 : List GPart) (tick_a1 : Int) (r : Bool) (h : p_impl_areParts list_a0 tick_a1 = some r) : Does Try.prog 35 [.row false 3 list_a0.length (esPart list_a0), I tick_a1] (B r) := by
  rw [p_impl_areParts] at h
  refine Does.bnd (fun hb => ?_)
  have hb2 : list_a0.length ≤ 9223372036854775807 := by simpa [AV.fitNs, AV.fitN] using hb
  have hl0 := hb2
  refine Does.walk (nt := 44) Try.func35 rfl rfl (by simp) (by decide) rfl (fun G0 X w0 pv => ?_)
  have hL_0 : list_a0.length ≤ 9223372036854775807 := by first | assumption | omega
  obtain ⟨q_0, eq_0, h⟩ := Option.bind_eq_some_iff.1 h
  have ff := p_impl_areParts_tf.down
  try refine st_by ff ?_
  repeat' (first | exact trivial | refine And.intro sd ?_)
  obtain ⟨I_0, hI_0⟩ : ∃ I_ : (Nat) → ASt → Prop, I_ = (fun (i_0 : Nat) σ => (i_0 ≤ list_a0.length ∧ p_impl_areParts_l0 list_a0 tick_a1 (list_a0.drop i_0) i_0 = some q_0) ∧ σ.t 0 = .row false 3 list_a0.length (esPart list_a0) ∧ σ.t 1 = I tick_a1 ∧ σ.t 7 = .row false 3 list_a0.length (esPart list_a0) ∧ σ.t 8 = I (list_a0.length : Int) ∧ σ.t 9 = I (i_0 : Int)) := ⟨_, rfl⟩
  obtain ⟨M_0, hM_0⟩ : ∃ M_ : (Nat) → Nat, M_ = (fun (i_0 : Nat) => list_a0.length - i_0) := ⟨_, rfl⟩
  obtain ⟨J_0, hJ_0⟩ : ∃ J_ : ASt → Prop, J_ = (fun σ => (some (.out ()) = some q_0) ∧ σ.t 0 = .row false 3 list_a0.length (esPart list_a0)) := ⟨_, rfl⟩
  refine aw_loopC (id := 0) I_0 M_0 J_0 (0) ?_ ?_ ?_
  · rw [hI_0]
    refine ⟨⟨Nat.zero_le _, eq_0⟩, ?_⟩
    exact p_impl_areParts_pv ff trivial
  · try clear ff
    rintro i_0 σ hg_0
    rw [hI_0] at hg_0
    obtain ⟨⟨hi_0, h_0⟩, g0_0, g1_0, g2_0, g3_0, g4_0⟩ := hg_0
    cases hr_0 : list_a0.drop i_0 with
    | nil =>
      rw [hr_0] at h_0
      rw [p_impl_areParts_l0] at h_0
      have hn_0 := drop_nil hr_0
      have dr_0 : decide ((i_0 : Int) < (list_a0.length : Int)) = false := decide_eq_false (by omega)
      have ff := And.intro @dr_0 (And.intro @g0_0 (And.intro @g1_0 (And.intro @g2_0 (And.intro @g3_0 (And.intro @g4_0 p_impl_areParts_tf.down)))))
      try refine st_by ff ?_
      repeat' (first | exact trivial | refine And.intro sd ?_)
      refine JW.intro ?_
      rw [hJ_0]
      refine ⟨h_0, ?_⟩
      exact p_impl_areParts_pv ff trivial
    | cons x_0 r_0 =>
      rw [hr_0] at h_0
      rw [p_impl_areParts_l0] at h_0
      obtain ⟨ht_0, hg_0, hd_0⟩ := drop_cons hr_0
      have dr_0 : decide ((i_0 : Int) < (list_a0.length : Int)) = true := decide_eq_true (by omega)
      have w_0 : IntKind.i64.wrap ((i_0 : Int) + 1) = ((i_0 + 1 : Nat) : Int) := wI _ (by omega) (by omega)
      have kk0c : (esPart list_a0).drop (i_0 * 3) = ePart x_0 ++ esPart (list_a0.drop (i_0 + 1)) := drop_enc (fun _ => rfl) (hg_0)
      by_cases c24 : x_0.Name.size ≤ 9223372036854775807
      case neg => rw [if_neg c24] at h_0; cases h_0
      rw [if_pos c24] at h_0
      have ff := And.intro @dr_0 (And.intro @w_0 (And.intro @g0_0 (And.intro @g1_0 (And.intro @g2_0 (And.intro @g3_0 (And.intro @g4_0 (And.intro @kk0c p_impl_areParts_tf.down)))))))
      try refine st_by ff ?_
      repeat' (first | exact trivial | refine And.intro sd ?_ | (refine aw_drawn (id := 4) ?_ [[], [0], [0, 1], [0, 1, 2], [0, 1, 2, 3], [0, 1, 2, 3, 4], [0, 1, 2, 3, 4, 5], [0, 1, 2, 3, 4, 5, 6], [0, 1, 2, 3, 4, 5, 6, 7], [0, 1, 2, 3, 4, 5, 6, 7], [0, 1, 2, 3, 4, 5, 6, 7, 9], [0, 1, 2, 3, 4, 5, 6, 7, 8, 9, 10], [0, 1, 2, 3, 4, 5, 6, 7, 8, 9, 10, 11], [0, 1, 2, 3, 4, 5, 6, 7, 8, 9, 10, 11, 12], [0, 1, 2, 3, 4, 5, 6, 7], [0, 1, 2, 3, 4, 5, 6, 7, 14], [0, 1, 2, 3, 4, 5, 6, 7, 8, 9, 10, 11, 12, 13, 14, 15], [0, 1, 2, 3, 4, 5, 6, 7, 8, 9, 10, 11, 12, 13, 14, 15, 16], [0, 1, 2, 3, 4, 5, 6, 7, 8, 9, 10, 11, 12, 13, 14, 15, 16, 17], [0, 1, 2, 3, 4, 5, 6, 7, 8, 9, 10, 11, 12, 13, 14, 15, 16, 17, 18], [0, 1, 2, 3, 4, 5, 6, 7, 8, 9, 10, 11, 12, 13, 14, 15, 16, 17, 18, 19], [0, 1, 2, 3, 4, 5, 6, 7, 8, 9, 10, 11, 12, 13, 14, 15, 16, 17, 18, 19, 20], [0, 1, 2, 3, 4, 5, 6, 7, 8, 9, 10, 11, 12, 13, 14, 15, 16, 17, 18, 19], [0, 1, 2, 3, 4, 5, 6, 7, 8, 9, 10, 11, 12, 13, 14, 15, 16, 17, 18, 19, 20, 21, 22], [0, 1, 2, 3, 4, 5, 6, 7, 8, 9, 10, 11, 12, 13, 14, 15, 16, 17, 18, 19, 20, 21, 22, 23], [0, 1, 2, 3, 4, 5, 6, 7, 8, 9, 10, 11, 12, 13, 14, 15, 16, 17, 18, 19, 20, 21, 22, 23, 24]] 23 ?_ ?_; (· kernel_rfl); (· kernel_rfl); refine st_by ff ?_))
      first
      | (refine cq_call (implGoodName_does x_0.Name (by first | assumption | omega)) (hf_by ff) kr ⟨p_impl_areParts_sa ff trivial, ?_⟩; clear ff)
      | (refine cq_dcall (implGoodName_does x_0.Name (by first | assumption | omega)) (hf_by ff) kr ⟨p_impl_areParts_sa ff trivial, ?_⟩; clear ff)
      by_cases c25 : (goodName x_0.Name) = true
      case neg =>
       rw [if_neg c25] at h_0
       have dc25 := eq_false_of_ne_true c25
       cases h_0
       try dsimp only at h
       have ff := And.intro @dr_0 (And.intro @w_0 (And.intro @g0_0 (And.intro @g1_0 (And.intro @g2_0 (And.intro @g3_0 (And.intro @g4_0 (And.intro @kk0c (And.intro @dc25 p_impl_areParts_tf.down))))))))
       try refine st_by ff ?_
       repeat' (first | exact trivial | refine And.intro sd ?_)
       cases h
       exact ret_q1 rfl (p_impl_areParts_rt ff trivial)
      rw [if_pos c25] at h_0
      have dc25 := c25
      by_cases c26 : (i_0 : Int) > 0
      case neg =>
       rw [if_neg c26] at h_0
       have dc26 := decide_eq_false c26
       have ff := And.intro @dr_0 (And.intro @w_0 (And.intro @g0_0 (And.intro @g1_0 (And.intro @g2_0 (And.intro @g3_0 (And.intro @g4_0 (And.intro @kk0c (And.intro @dc25 (And.intro @dc26 p_impl_areParts_tf.down)))))))))
       try refine st_by ff ?_
       repeat' (first | exact trivial | refine And.intro sd ?_)
       first
       | (refine cq_call (inRange_does x_0.Tick 0 tick_a1) (hf_by ff) kr ⟨p_impl_areParts_sa ff trivial, ?_⟩; clear ff)
       | (refine cq_dcall (inRange_does x_0.Tick 0 tick_a1) (hf_by ff) kr ⟨p_impl_areParts_sa ff trivial, ?_⟩; clear ff)
       by_cases c31 : (rng x_0.Tick 0 tick_a1) = true
       case neg =>
        rw [if_neg c31] at h_0
        have dc31 := eq_false_of_ne_true c31
        cases h_0
        try dsimp only at h
        have ff := And.intro @dr_0 (And.intro @w_0 (And.intro @g0_0 (And.intro @g1_0 (And.intro @g2_0 (And.intro @g3_0 (And.intro @g4_0 (And.intro @kk0c (And.intro @dc25 (And.intro @dc26 (And.intro @dc31 p_impl_areParts_tf.down))))))))))
        try refine st_by ff ?_
        repeat' (first | exact trivial | refine And.intro sd ?_)
        cases h
        exact ret_q1 rfl (p_impl_areParts_rt ff trivial)
       rw [if_pos c31] at h_0
       have dc31 := c31
       have ff := And.intro @dr_0 (And.intro @w_0 (And.intro @g0_0 (And.intro @g1_0 (And.intro @g2_0 (And.intro @g3_0 (And.intro @g4_0 (And.intro @kk0c (And.intro @dc25 (And.intro @dc26 (And.intro @dc31 p_impl_areParts_tf.down))))))))))
       try refine st_by ff ?_
       repeat' (first | exact trivial | refine And.intro sd ?_)
       refine Back.intro (i_0 + 1) ?_ ?_
       · clear ff; rw [hM_0]; show list_a0.length - (i_0 + 1) < list_a0.length - i_0; omega
       rw [hI_0]
       refine ⟨⟨by clear ff; show i_0 + 1 ≤ list_a0.length; omega, by show p_impl_areParts_l0 list_a0 tick_a1 (list_a0.drop (i_0 + 1)) (i_0 + 1) = some q_0; rw [hd_0]; exact h_0⟩, ?_⟩
       exact p_impl_areParts_pv ff trivial
      rw [if_pos c26] at h_0
      have dc26 := decide_eq_true c26
      obtain ⟨x27, ex27, h_0⟩ := Option.bind_eq_some_iff.1 h_0
      try dsimp only at h_0
      have f28a := idx_lo ex27
      have f28b := idx_hi ex27
      have f28c : (esPart list_a0).drop (((IntKind.i64.wrap ((i_0 : Int) - 1)).toNat) * 3) = ePart x27 ++ esPart (list_a0.drop ((IntKind.i64.wrap ((i_0 : Int) - 1)).toNat + 1)) := drop_enc (fun _ => rfl) (idx_get ex27)
      by_cases c29 : (Op.bytesLess x27.Name.toList x_0.Name.toList) = true
      case neg =>
       rw [if_neg c29] at h_0
       have dc29 := eq_false_of_ne_true c29
       cases h_0
       try dsimp only at h
       have ff := And.intro @dr_0 (And.intro @w_0 (And.intro @g0_0 (And.intro @g1_0 (And.intro @g2_0 (And.intro @g3_0 (And.intro @g4_0 (And.intro @kk0c (And.intro @dc25 (And.intro @dc26 (And.intro @f28c (And.intro @dc29 p_impl_areParts_tf.down)))))))))))
       try refine st_by ff ?_
       repeat' (first | exact trivial | refine And.intro sd ?_)
       cases h
       exact ret_q1 rfl (p_impl_areParts_rt ff trivial)
      rw [if_pos c29] at h_0
      have dc29 := c29
      have ff := And.intro @dr_0 (And.intro @w_0 (And.intro @g0_0 (And.intro @g1_0 (And.intro @g2_0 (And.intro @g3_0 (And.intro @g4_0 (And.intro @kk0c (And.intro @dc25 (And.intro @dc26 (And.intro @f28c (And.intro @dc29 p_impl_areParts_tf.down)))))))))))
      try refine st_by ff ?_
      repeat' (first | exact trivial | refine And.intro sd ?_)
      first
      | (refine cq_call (inRange_does x_0.Tick 0 tick_a1) (hf_by ff) kr ⟨p_impl_areParts_sa ff trivial, ?_⟩; clear ff)
      | (refine cq_dcall (inRange_does x_0.Tick 0 tick_a1) (hf_by ff) kr ⟨p_impl_areParts_sa ff trivial, ?_⟩; clear ff)
      by_cases c30 : (rng x_0.Tick 0 tick_a1) = true
      case neg =>
       rw [if_neg c30] at h_0
       have dc30 := eq_false_of_ne_true c30
       cases h_0
       try dsimp only at h
       have ff := And.intro @dr_0 (And.intro @w_0 (And.intro @g0_0 (And.intro @g1_0 (And.intro @g2_0 (And.intro @g3_0 (And.intro @g4_0 (And.intro @kk0c (And.intro @dc25 (And.intro @dc26 (And.intro @f28c (And.intro @dc29 (And.intro @dc30 p_impl_areParts_tf.down))))))))))))
       try refine st_by ff ?_
       repeat' (first | exact trivial | refine And.intro sd ?_)
       cases h
       exact ret_q1 rfl (p_impl_areParts_rt ff trivial)
      rw [if_pos c30] at h_0
      have dc30 := c30
      have ff := And.intro @dr_0 (And.intro @w_0 (And.intro @g0_0 (And.intro @g1_0 (And.intro @g2_0 (And.intro @g3_0 (And.intro @g4_0 (And.intro @kk0c (And.intro @dc25 (And.intro @dc26 (And.intro @f28c (And.intro @dc29 (And.intro @dc30 p_impl_areParts_tf.down))))))))))))
      try refine st_by ff ?_
      repeat' (first | exact trivial | refine And.intro sd ?_)
      refine Back.intro (i_0 + 1) ?_ ?_
      · clear ff; rw [hM_0]; show list_a0.length - (i_0 + 1) < list_a0.length - i_0; omega
      rw [hI_0]
      refine ⟨⟨by clear ff; show i_0 + 1 ≤ list_a0.length; omega, by show p_impl_areParts_l0 list_a0 tick_a1 (list_a0.drop (i_0 + 1)) (i_0 + 1) = some q_0; rw [hd_0]; exact h_0⟩, ?_⟩
      exact p_impl_areParts_pv ff trivial
  · try clear ff
    rintro σ hg_0
    rw [hJ_0] at hg_0
    obtain ⟨hj_0, g0_0a⟩ := hg_0
    cases hj_0
    try dsimp only at h
    have ff := And.intro @g0_0a p_impl_areParts_tf.down
    try refine st_by ff ?_
    repeat' (first | exact trivial | refine And.intro sd ?_)
    cases h
    exact ret_q1 rfl (p_impl_areParts_rt ff trivial)
/-! impl.GoodWorld -/
def p_impl_GoodWorld_l0 (w_a0 : GWorld) : List GEntity → Nat → Option (LR (Bool) (Unit))
  | [], i_0 => some (.out ())
  | x_0 :: r_0, i_0 => (if (rng x_0.Id 1 (IntKind.i64.wrap (w_a0.Next - 1))) = true then (if (i_0 : Int) > 0 then ((idx w_a0.Entities (IntKind.i64.wrap ((i_0 : Int) - 1))).bind fun x28 => (if x28.Id ≥ x_0.Id then some (.ret false) else ((p_impl_areParts x_0.Parts w_a0.Tick).bind fun v31 => (if v31 = true then p_impl_GoodWorld_l0 w_a0 r_0 (i_0 + 1) else some (.ret false))))) else ((p_impl_areParts x_0.Parts w_a0.Tick).bind fun v33 => (if v33 = true then p_impl_GoodWorld_l0 w_a0 r_0 (i_0 + 1) else some (.ret false)))) else some (.ret false))
theorem p_impl_GoodWorld_pv {F C A : Prop} (hF : F) (hC : C) (h : F → C → A := by intro hF hC; first | exact cl_by hF | (refine st_by hF ?_; (repeat' (first | exact trivial | apply And.intro)); all_goals (clear hF; first | rfl | (simp only [hC, List.length_append, List.length_cons, List.length_nil, List.append_nil, List.nil_append, List.cons_append, List.length_set, List.append_assoc, Nat.zero_add, List.length_replicate, esWorld_app, esWorld_cons, esWorld_nil, eWorld_eq, esWorldo_app, esWorldo_cons, esWorldo_nil, eWorldo_eq, esEntity_app, esEntity_cons, esEntity_nil, eEntity_eq, esEntityo_app, esEntityo_cons, esEntityo_nil, eEntityo_eq, esPart_app, esPart_cons, esPart_nil, ePart_eq]; done) | (simp [hC, List.length_append, List.length_cons, List.length_nil, List.append_nil, List.nil_append, List.cons_append, List.length_set, List.append_assoc, Nat.zero_add, List.length_replicate, esWorld_app, esWorld_cons, esWorld_nil, eWorld_eq, esWorldo_app, esWorldo_cons, esWorldo_nil, eWorldo_eq, esEntity_app, esEntity_cons, esEntity_nil, eEntity_eq, esEntityo_app, esEntityo_cons, esEntityo_nil, eEntityo_eq, esPart_app, esPart_cons, esPart_nil, ePart_eq]; done) | omega))) : A := h hF hC
theorem p_impl_GoodWorld_sa {F C A : Prop} (hF : F) (hC : C) (h : F → C → A := by intro hF hC; first | exact ca_by hF | (refine sa_by hF ?_; (repeat' (first | exact trivial | apply And.intro)); all_goals (clear hF; first | rfl | (simp only [hC, List.length_append, List.length_cons, List.length_nil, List.append_nil, List.nil_append, List.cons_append, List.length_set, List.append_assoc, Nat.zero_add, List.length_replicate, esWorld_app, esWorld_cons, esWorld_nil, eWorld_eq, esWorldo_app, esWorldo_cons, esWorldo_nil, eWorldo_eq, esEntity_app, esEntity_cons, esEntity_nil, eEntity_eq, esEntityo_app, esEntityo_cons, esEntityo_nil, eEntityo_eq, esPart_app, esPart_cons, esPart_nil, ePart_eq]; done) | (simp [hC, List.length_append, List.length_cons, List.length_nil, List.append_nil, List.nil_append, List.cons_append, List.length_set, List.append_assoc, Nat.zero_add, List.length_replicate, esWorld_app, esWorld_cons, esWorld_nil, eWorld_eq, esWorldo_app, esWorldo_cons, esWorldo_nil, eWorldo_eq, esEntity_app, esEntity_cons, esEntity_nil, eEntity_eq, esEntityo_app, esEntityo_cons, esEntityo_nil, eEntityo_eq, esPart_app, esPart_cons, esPart_nil, ePart_eq]; done) | omega))) : A := h hF hC
theorem p_impl_GoodWorld_rt {F C A : Prop} (hF : F) (hC : C) (h : F → C → A := by intro hF hC; first | (refine sr_by hF ?_; (repeat' (first | exact trivial | apply And.intro)); all_goals (clear hF; first | rfl | (simp only [hC, List.length_append, List.length_cons, List.length_nil, List.append_nil, List.nil_append, List.cons_append, List.length_set, List.append_assoc, Nat.zero_add, List.length_replicate, esWorld_app, esWorld_cons, esWorld_nil, eWorld_eq, esWorldo_app, esWorldo_cons, esWorldo_nil, eWorldo_eq, esEntity_app, esEntity_cons, esEntity_nil, eEntity_eq, esEntityo_app, esEntityo_cons, esEntityo_nil, eEntityo_eq, esPart_app, esPart_cons, esPart_nil, ePart_eq]; done) | (simp [hC, List.length_append, List.length_cons, List.length_nil, List.append_nil, List.nil_append, List.cons_append, List.length_set, List.append_assoc, Nat.zero_add, List.length_replicate, esWorld_app, esWorld_cons, esWorld_nil, eWorld_eq, esWorldo_app, esWorldo_cons, esWorldo_nil, eWorldo_eq, esEntity_app, esEntity_cons, esEntity_nil, eEntity_eq, esEntityo_app, esEntityo_cons, esEntityo_nil, eEntityo_eq, esPart_app, esPart_cons, esPart_nil, ePart_eq]; done) | omega)) | (first | rfl | (simp only [hC, List.length_append, List.length_cons, List.length_nil, List.append_nil, List.nil_append, List.cons_append, List.length_set, List.append_assoc, Nat.zero_add, List.length_replicate, esWorld_app, esWorld_cons, esWorld_nil, eWorld_eq, esWorldo_app, esWorldo_cons, esWorldo_nil, eWorldo_eq, esEntity_app, esEntity_cons, esEntity_nil, eEntity_eq, esEntityo_app, esEntityo_cons, esEntityo_nil, eEntityo_eq, esPart_app, esPart_cons, esPart_nil, ePart_eq]; done) | (simp [hC, List.length_append, List.length_cons, List.length_nil, List.append_nil, List.nil_append, List.cons_append, List.length_set, List.append_assoc, Nat.zero_add, List.length_replicate, esWorld_app, esWorld_cons, esWorld_nil, eWorld_eq, esWorldo_app, esWorldo_cons, esWorldo_nil, eWorldo_eq, esEntity_app, esEntity_cons, esEntity_nil, eEntity_eq, esEntityo_app, esEntityo_cons, esEntityo_nil, eEntityo_eq, esPart_app, esPart_cons, esPart_nil, ePart_eq]; done) | omega)) : A := h hF hC
def p_impl_GoodWorld_tf := PLift.up (And.intro @eWorld_eq (And.intro @esWorld_len (And.intro @esWorld_nil (And.intro @esWorld_leaf (And.intro @esWorld_fit (And.intro @eWorldo_eq (And.intro @esWorldo_len (And.intro @esWorldo_nil (And.intro @eEntity_eq (And.intro @esEntity_len (And.intro @esEntity_nil (And.intro @esEntity_leaf (And.intro @esEntity_fit (And.intro @eEntityo_eq (And.intro @esEntityo_len (And.intro @esEntityo_nil (And.intro @ePart_eq (And.intro @esPart_len (And.intro @esPart_nil (And.intro @esPart_leaf (And.intro @esPart_fit (And.intro @esWorldo_share (And.intro @esWorldo_pure (And.intro @esEntityo_share (And.intro @esEntityo_pure (And.intro @esPart_share (And.intro @esPart_pure (And.intro @str_beq (And.intro @Ty.sl26 (And.intro @Ty.slz26 (And.intro @Ty.nz26 (And.intro @Ty.ldA26 (And.intro @Ty.ldS26 (And.intro @Ty.sz26 (And.intro @Ty.szn26 (And.intro @Ty.nz46 (And.intro @Ty.ldA46 (And.intro @Ty.sz46 (And.intro @Ty.szn46 (And.intro @Ty.nz3 (And.intro @Ty.ldA3 (And.intro @Ty.ldS3 (And.intro @Ty.sz3 (And.intro @Ty.szn3 (And.intro @Ty.nz44 (And.intro @Ty.ldA44 (And.intro @Ty.ldS44 (And.intro @Ty.sz44 (And.intro @Ty.szn44 (And.intro @Ty.fo28_2 (And.intro @Ty.fk28_2 (And.intro @Ty.fs28_2 (And.intro @Ty.fn28_2 (And.intro @Ty.fo46_0 (And.intro @Ty.fk46_0 (And.intro @Ty.fs46_0 (And.intro @Ty.fn46_0 (And.intro @Ty.fo28_0 (And.intro @Ty.fk28_0 (And.intro @Ty.fs28_0 (And.intro @Ty.fn28_0 (And.intro @Ty.fo46_1 (And.intro @Ty.fk46_1 (And.intro @Ty.fs46_1 (And.intro @Ty.fn46_1 (And.intro @Ty.fo28_1 (And.intro @Ty.fk28_1 (And.intro @Ty.fs28_1 (And.intro @Ty.fn28_1 (And.intro @Ty.zv46 @trivial))))))))))))))))))))))))))))))))))))))))))))))))))))))))))))))))))))))
def p_impl_GoodWorld (w_a0 : GWorld) : Option (Bool) := ((p_impl_GoodWorld_l0 w_a0 w_a0.Entities 0).bind fun q_0 => match q_0 with | .ret r_ => some r_ | .out _ => (if (rng w_a0.Next 1 1000000) = true then (if (rng w_a0.Tick 0 1000000) = true then some (decide ((w_a0.Entities.length : Int) ≤ 60)) else some false) else some false))
theorem p_impl_GoodWorld_does (w_a0 : GWorld) (r : Bool) (h : p_impl_GoodWorld w_a0 = some r) : Does Try.prog 19 [.agg (eWorld w_a0)] (B r) := by
  rw [p_impl_GoodWorld] at h
  refine Does.bnd (fun hb => ?_)
  have hb2 : w_a0.Entities.length ≤ 9223372036854775807 := by simpa [AV.fitNs, AV.fitN, eWorld] using hb
  have hl0 := hb2
  refine Does.walk (nt := 59) Try.func19 rfl rfl (by simp) (by decide) rfl (fun G0 X w0 pv => ?_)
  have hL_0 : w_a0.Entities.length ≤ 9223372036854775807 := by first | assumption | omega
  obtain ⟨q_0, eq_0, h⟩ := Option.bind_eq_some_iff.1 h
  have ff := p_impl_GoodWorld_tf.down
  try refine st_by ff ?_
  repeat' (first | exact trivial | refine And.intro sd ?_)
  obtain ⟨I_0, hI_0⟩ : ∃ I_ : (Nat) → ASt → Prop, I_ = (fun (i_0 : Nat) σ => (i_0 ≤ w_a0.Entities.length ∧ p_impl_GoodWorld_l0 w_a0 (w_a0.Entities.drop i_0) i_0 = some q_0) ∧ σ.t 1 = .ptr 1 [] 0 ∧ σ.t 6 = .row false 2 w_a0.Entities.length (esEntity w_a0.Entities) ∧ σ.t 7 = I (w_a0.Entities.length : Int) ∧ σ.t 8 = I (i_0 : Int) ∧ σ.m 1 = some (.box true [I w_a0.Next, I w_a0.Tick, .row false 2 w_a0.Entities.length (esEntity w_a0.Entities)])) := ⟨_, rfl⟩
  obtain ⟨M_0, hM_0⟩ : ∃ M_ : (Nat) → Nat, M_ = (fun (i_0 : Nat) => w_a0.Entities.length - i_0) := ⟨_, rfl⟩
  obtain ⟨J_0, hJ_0⟩ : ∃ J_ : ASt → Prop, J_ = (fun σ => (some (.out ()) = some q_0) ∧ σ.t 1 = .ptr 1 [] 0 ∧ σ.m 1 = some (.box true [I w_a0.Next, I w_a0.Tick, .row false 2 w_a0.Entities.length (esEntity w_a0.Entities)])) := ⟨_, rfl⟩
  refine aw_loopC (id := 0) I_0 M_0 J_0 (0) ?_ ?_ ?_
  · rw [hI_0]
    refine ⟨⟨Nat.zero_le _, eq_0⟩, ?_⟩
    exact p_impl_GoodWorld_pv ff trivial
  · try clear ff
    rintro i_0 σ hg_0
    rw [hI_0] at hg_0
    obtain ⟨⟨hi_0, h_0⟩, g0_0, g1_0, g2_0, g3_0, g4_0⟩ := hg_0
    cases hr_0 : w_a0.Entities.drop i_0 with
    | nil =>
      rw [hr_0] at h_0
      rw [p_impl_GoodWorld_l0] at h_0
      have hn_0 := drop_nil hr_0
      have dr_0 : decide ((i_0 : Int) < (w_a0.Entities.length : Int)) = false := decide_eq_false (by omega)
      have ff := And.intro @dr_0 (And.intro @g0_0 (And.intro @g1_0 (And.intro @g2_0 (And.intro @g3_0 (And.intro @g4_0 p_impl_GoodWorld_tf.down)))))
      try refine st_by ff ?_
      repeat' (first | exact trivial | refine And.intro sd ?_)
      refine JW.intro ?_
      rw [hJ_0]
      refine ⟨h_0, ?_⟩
      exact p_impl_GoodWorld_pv ff trivial
    | cons x_0 r_0 =>
      rw [hr_0] at h_0
      rw [p_impl_GoodWorld_l0] at h_0
      obtain ⟨ht_0, hg_0, hd_0⟩ := drop_cons hr_0
      have dr_0 : decide ((i_0 : Int) < (w_a0.Entities.length : Int)) = true := decide_eq_true (by omega)
      have w_0 : IntKind.i64.wrap ((i_0 : Int) + 1) = ((i_0 + 1 : Nat) : Int) := wI _ (by omega) (by omega)
      have kk0c : (esEntity w_a0.Entities).drop (i_0 * 2) = eEntity x_0 ++ esEntity (w_a0.Entities.drop (i_0 + 1)) := drop_enc (fun _ => rfl) (hg_0)
      have ff := And.intro @dr_0 (And.intro @w_0 (And.intro @g0_0 (And.intro @g1_0 (And.intro @g2_0 (And.intro @g3_0 (And.intro @g4_0 (And.intro @kk0c p_impl_GoodWorld_tf.down)))))))
      try refine st_by ff ?_
      repeat' (first | exact trivial | refine And.intro sd ?_ | (refine aw_drawn (id := 4) ?_ [[], [0], [], [2], [2, 3], [0, 1, 2, 3, 4], [0, 1, 2, 3, 4, 5], [0, 1, 2, 3, 4, 5, 6], [0, 1, 2, 3, 4, 5, 6, 7], [0, 1, 2, 3, 4, 5, 6, 7, 8], [0, 1, 2, 3, 4, 5, 6, 7, 8, 9], [0, 1, 2, 3, 4, 5, 6, 7, 8, 9, 10], [0, 1, 2, 3, 4, 5, 6, 7, 8, 9, 10, 11], [0, 1, 2, 3, 4, 5, 6, 7, 8, 9, 10], [0, 1, 2, 3, 4, 5, 6, 7, 8, 9, 10, 13], [0, 1, 2, 3, 4, 5, 6, 7, 8, 9, 10, 11, 12, 13, 14], [0, 1, 2, 3, 4, 5, 6, 7, 8, 9, 10, 11, 12, 13, 14, 15], [0, 1, 2, 3, 4, 5, 6, 7, 8, 9, 10, 11, 12, 13, 14, 15, 16], [0, 1, 2, 3, 4, 5, 6, 7, 8, 9, 10], [0, 1, 2, 3, 4, 5, 6, 7, 8, 9, 10, 18], [0, 1, 2, 3, 4, 5, 6, 7, 8, 9, 10, 11, 12, 13, 14, 15, 16, 17, 18, 19], [0, 1, 2, 3, 4, 5, 6, 7, 8, 9, 10, 11, 12, 13, 14, 15, 16, 17, 18, 19, 20], [0, 1, 2, 3, 4, 5, 6, 7, 8, 9, 10, 11, 12, 13, 14, 15, 16, 17, 18, 19, 20, 21], [0, 1, 2, 3, 4, 5, 6, 7, 8, 9, 10, 11, 12, 13, 14, 15, 16, 17, 18, 19, 20, 21, 22], [0, 1, 2, 3, 4, 5, 6, 7, 8, 9, 10, 11, 12, 13, 14, 15, 16, 17, 18, 19, 20, 21, 22, 23], [0, 1, 2, 3, 4, 5, 6, 7, 8, 9, 10, 11, 12, 13, 14, 15, 16, 17, 18, 19, 20, 21, 22, 23, 24], [0, 1, 2, 3, 4, 5, 6, 7, 8, 9, 10, 11, 12, 13, 14, 15, 16, 17, 18, 19, 20, 21, 22, 23], [0, 1, 2, 3, 4, 5, 6, 7, 8, 9, 10, 11, 12, 13, 14, 15, 16, 17, 18, 19, 20, 21, 22, 23, 26], [0, 1, 2, 3, 4, 5, 6, 7, 8, 9, 10, 11, 12, 13, 14, 15, 16, 17, 18, 19, 20, 21, 22, 23, 24, 25, 26, 27], [0, 1, 2, 3, 4, 5, 6, 7, 8, 9, 10, 11, 12, 13, 14, 15, 16, 17, 18, 19, 20, 21, 22, 23, 24, 25, 26, 27, 28], [0, 1, 2, 3, 4, 5, 6, 7, 8, 9, 10, 11, 12, 13, 14, 15, 16, 17, 18, 19, 20, 21, 22, 23, 24, 25, 26, 27, 28, 29]] 28 ?_ ?_; (· kernel_rfl); (· kernel_rfl); refine st_by ff ?_))
      first
      | (refine cq_call (inRange_does x_0.Id 1 (IntKind.i64.wrap (w_a0.Next - 1))) (hf_by ff) kr ⟨p_impl_GoodWorld_sa ff trivial, ?_⟩; clear ff)
      | (refine cq_dcall (inRange_does x_0.Id 1 (IntKind.i64.wrap (w_a0.Next - 1))) (hf_by ff) kr ⟨p_impl_GoodWorld_sa ff trivial, ?_⟩; clear ff)
      by_cases c26 : (rng x_0.Id 1 (IntKind.i64.wrap (w_a0.Next - 1))) = true
      case neg =>
       rw [if_neg c26] at h_0
       have dc26 := eq_false_of_ne_true c26
       cases h_0
       try dsimp only at h
       have ff := And.intro @dr_0 (And.intro @w_0 (And.intro @g0_0 (And.intro @g1_0 (And.intro @g2_0 (And.intro @g3_0 (And.intro @g4_0 (And.intro @kk0c (And.intro @dc26 p_impl_GoodWorld_tf.down))))))))
       try refine st_by ff ?_
       repeat' (first | exact trivial | refine And.intro sd ?_)
       cases h
       exact ret_q1 rfl (p_impl_GoodWorld_rt ff trivial)
      rw [if_pos c26] at h_0
      have dc26 := c26
      by_cases c27 : (i_0 : Int) > 0
      case neg =>
       rw [if_neg c27] at h_0
       have dc27 := decide_eq_false c27
       obtain ⟨v33, ev33, h_0⟩ := Option.bind_eq_some_iff.1 h_0
       try dsimp only at h_0
       have ff := And.intro @dr_0 (And.intro @w_0 (And.intro @g0_0 (And.intro @g1_0 (And.intro @g2_0 (And.intro @g3_0 (And.intro @g4_0 (And.intro @kk0c (And.intro @dc26 (And.intro @dc27 p_impl_GoodWorld_tf.down)))))))))
       try refine st_by ff ?_
       repeat' (first | exact trivial | refine And.intro sd ?_)
       first
       | (refine cq_call (p_impl_areParts_does x_0.Parts w_a0.Tick v33 ev33) (hf_by ff) kr ⟨p_impl_GoodWorld_sa ff trivial, ?_⟩; clear ff)
       | (refine cq_dcall (p_impl_areParts_does x_0.Parts w_a0.Tick v33 ev33) (hf_by ff) kr ⟨p_impl_GoodWorld_sa ff trivial, ?_⟩; clear ff)
       by_cases c34 : v33 = true
       case neg =>
        rw [if_neg c34] at h_0
        have dc34 := eq_false_of_ne_true c34
        cases h_0
        try dsimp only at h
        have ff := And.intro @dr_0 (And.intro @w_0 (And.intro @g0_0 (And.intro @g1_0 (And.intro @g2_0 (And.intro @g3_0 (And.intro @g4_0 (And.intro @kk0c (And.intro @dc26 (And.intro @dc27 (And.intro @dc34 p_impl_GoodWorld_tf.down))))))))))
        try refine st_by ff ?_
        repeat' (first | exact trivial | refine And.intro sd ?_)
        cases h
        exact ret_q1 rfl (p_impl_GoodWorld_rt ff trivial)
       rw [if_pos c34] at h_0
       have dc34 := c34
       have ff := And.intro @dr_0 (And.intro @w_0 (And.intro @g0_0 (And.intro @g1_0 (And.intro @g2_0 (And.intro @g3_0 (And.intro @g4_0 (And.intro @kk0c (And.intro @dc26 (And.intro @dc27 (And.intro @dc34 p_impl_GoodWorld_tf.down))))))))))
       try refine st_by ff ?_
       repeat' (first | exact trivial | refine And.intro sd ?_)
       refine Back.intro (i_0 + 1) ?_ ?_
       · clear ff; rw [hM_0]; show w_a0.Entities.length - (i_0 + 1) < w_a0.Entities.length - i_0; omega
       rw [hI_0]
       refine ⟨⟨by clear ff; show i_0 + 1 ≤ w_a0.Entities.length; omega, by show p_impl_GoodWorld_l0 w_a0 (w_a0.Entities.drop (i_0 + 1)) (i_0 + 1) = some q_0; rw [hd_0]; exact h_0⟩, ?_⟩
       exact p_impl_GoodWorld_pv ff trivial
      rw [if_pos c27] at h_0
      have dc27 := decide_eq_true c27
      obtain ⟨x28, ex28, h_0⟩ := Option.bind_eq_some_iff.1 h_0
      try dsimp only at h_0
      have f29a := idx_lo ex28
      have f29b := idx_hi ex28
      have f29c : (esEntity w_a0.Entities).drop (((IntKind.i64.wrap ((i_0 : Int) - 1)).toNat) * 2) = eEntity x28 ++ esEntity (w_a0.Entities.drop ((IntKind.i64.wrap ((i_0 : Int) - 1)).toNat + 1)) := drop_enc (fun _ => rfl) (idx_get ex28)
      by_cases c30 : x28.Id ≥ x_0.Id
      · rw [if_pos c30] at h_0
        have dc30 := decide_eq_true c30
        cases h_0
        try dsimp only at h
        have ff := And.intro @dr_0 (And.intro @w_0 (And.intro @g0_0 (And.intro @g1_0 (And.intro @g2_0 (And.intro @g3_0 (And.intro @g4_0 (And.intro @kk0c (And.intro @dc26 (And.intro @dc27 (And.intro @f29c (And.intro @dc30 p_impl_GoodWorld_tf.down)))))))))))
        try refine st_by ff ?_
        repeat' (first | exact trivial | refine And.intro sd ?_)
        cases h
        exact ret_q1 rfl (p_impl_GoodWorld_rt ff trivial)
      rw [if_neg c30] at h_0
      have dc30 := decide_eq_false c30
      obtain ⟨v31, ev31, h_0⟩ := Option.bind_eq_some_iff.1 h_0
      try dsimp only at h_0
      have ff := And.intro @dr_0 (And.intro @w_0 (And.intro @g0_0 (And.intro @g1_0 (And.intro @g2_0 (And.intro @g3_0 (And.intro @g4_0 (And.intro @kk0c (And.intro @dc26 (And.intro @dc27 (And.intro @f29c (And.intro @dc30 p_impl_GoodWorld_tf.down)))))))))))
      try refine st_by ff ?_
      repeat' (first | exact trivial | refine And.intro sd ?_)
      first
      | (refine cq_call (p_impl_areParts_does x_0.Parts w_a0.Tick v31 ev31) (hf_by ff) kr ⟨p_impl_GoodWorld_sa ff trivial, ?_⟩; clear ff)
      | (refine cq_dcall (p_impl_areParts_does x_0.Parts w_a0.Tick v31 ev31) (hf_by ff) kr ⟨p_impl_GoodWorld_sa ff trivial, ?_⟩; clear ff)
      by_cases c32 : v31 = true
      case neg =>
       rw [if_neg c32] at h_0
       have dc32 := eq_false_of_ne_true c32
       cases h_0
       try dsimp only at h
       have ff := And.intro @dr_0 (And.intro @w_0 (And.intro @g0_0 (And.intro @g1_0 (And.intro @g2_0 (And.intro @g3_0 (And.intro @g4_0 (And.intro @kk0c (And.intro @dc26 (And.intro @dc27 (And.intro @f29c (And.intro @dc30 (And.intro @dc32 p_impl_GoodWorld_tf.down))))))))))))
       try refine st_by ff ?_
       repeat' (first | exact trivial | refine And.intro sd ?_)
       cases h
       exact ret_q1 rfl (p_impl_GoodWorld_rt ff trivial)
      rw [if_pos c32] at h_0
      have dc32 := c32
      have ff := And.intro @dr_0 (And.intro @w_0 (And.intro @g0_0 (And.intro @g1_0 (And.intro @g2_0 (And.intro @g3_0 (And.intro @g4_0 (And.intro @kk0c (And.intro @dc26 (And.intro @dc27 (And.intro @f29c (And.intro @dc30 (And.intro @dc32 p_impl_GoodWorld_tf.down))))))))))))
      try refine st_by ff ?_
      repeat' (first | exact trivial | refine And.intro sd ?_)
      refine Back.intro (i_0 + 1) ?_ ?_
      · clear ff; rw [hM_0]; show w_a0.Entities.length - (i_0 + 1) < w_a0.Entities.length - i_0; omega
      rw [hI_0]
      refine ⟨⟨by clear ff; show i_0 + 1 ≤ w_a0.Entities.length; omega, by show p_impl_GoodWorld_l0 w_a0 (w_a0.Entities.drop (i_0 + 1)) (i_0 + 1) = some q_0; rw [hd_0]; exact h_0⟩, ?_⟩
      exact p_impl_GoodWorld_pv ff trivial
  · try clear ff
    rintro σ hg_0
    rw [hJ_0] at hg_0
    obtain ⟨hj_0, g0_0a, g1_0a⟩ := hg_0
    cases hj_0
    try dsimp only at h
    have ff := And.intro @g0_0a (And.intro @g1_0a p_impl_GoodWorld_tf.down)
    try refine st_by ff ?_
    repeat' (first | exact trivial | refine And.intro sd ?_)
    first
    | (refine cq_call (inRange_does w_a0.Next 1 1000000) (hf_by ff) kr ⟨p_impl_GoodWorld_sa ff trivial, ?_⟩; clear ff)
    | (refine cq_dcall (inRange_does w_a0.Next 1 1000000) (hf_by ff) kr ⟨p_impl_GoodWorld_sa ff trivial, ?_⟩; clear ff)
    by_cases c35 : (rng w_a0.Next 1 1000000) = true
    case neg =>
     rw [if_neg c35] at h
     have dc35 := eq_false_of_ne_true c35
     have ff := And.intro @g0_0a (And.intro @g1_0a (And.intro @dc35 p_impl_GoodWorld_tf.down))
     try refine st_by ff ?_
     repeat' (first | exact trivial | refine And.intro sd ?_)
     cases h
     exact ret_q1 rfl (p_impl_GoodWorld_rt ff trivial)
    rw [if_pos c35] at h
    have dc35 := c35
    have ff := And.intro @g0_0a (And.intro @g1_0a (And.intro @dc35 p_impl_GoodWorld_tf.down))
    try refine st_by ff ?_
    repeat' (first | exact trivial | refine And.intro sd ?_)
    first
    | (refine cq_call (inRange_does w_a0.Tick 0 1000000) (hf_by ff) kr ⟨p_impl_GoodWorld_sa ff trivial, ?_⟩; clear ff)
    | (refine cq_dcall (inRange_does w_a0.Tick 0 1000000) (hf_by ff) kr ⟨p_impl_GoodWorld_sa ff trivial, ?_⟩; clear ff)
    by_cases c36 : (rng w_a0.Tick 0 1000000) = true
    case neg =>
     rw [if_neg c36] at h
     have dc36 := eq_false_of_ne_true c36
     have ff := And.intro @g0_0a (And.intro @g1_0a (And.intro @dc35 (And.intro @dc36 p_impl_GoodWorld_tf.down)))
     try refine st_by ff ?_
     repeat' (first | exact trivial | refine And.intro sd ?_)
     cases h
     exact ret_q1 rfl (p_impl_GoodWorld_rt ff trivial)
    rw [if_pos c36] at h
    have dc36 := c36
    have ff := And.intro @g0_0a (And.intro @g1_0a (And.intro @dc35 (And.intro @dc36 p_impl_GoodWorld_tf.down)))
    try refine st_by ff ?_
    repeat' (first | exact trivial | refine And.intro sd ?_)
    cases h
    exact ret_q1 rfl (p_impl_GoodWorld_rt ff trivial)
/-! slices.Clone[[]impl.Part,impl.Part] -/
theorem p_slices_Clone_impl_Part_impl_Part_rt {F C A : Prop} (hF : F) (hC : C) (h : F → C → A := by intro hF hC; first | (refine sr_by hF ?_; (repeat' (first | exact trivial | apply And.intro)); all_goals (clear hF; first | rfl | (simp only [hC, List.length_append, List.length_cons, List.length_nil, List.append_nil, List.nil_append, List.cons_append, List.length_set, List.append_assoc, Nat.zero_add, List.length_replicate, esPart_app, esPart_cons, esPart_nil, ePart_eq]; done) | (simp [hC, List.length_append, List.length_cons, List.length_nil, List.append_nil, List.nil_append, List.cons_append, List.length_set, List.append_assoc, Nat.zero_add, List.length_replicate, esPart_app, esPart_cons, esPart_nil, ePart_eq]; done) | omega)) | (first | rfl | (simp only [hC, List.length_append, List.length_cons, List.length_nil, List.append_nil, List.nil_append, List.cons_append, List.length_set, List.append_assoc, Nat.zero_add, List.length_replicate, esPart_app, esPart_cons, esPart_nil, ePart_eq]; done) | (simp [hC, List.length_append, List.length_cons, List.length_nil, List.append_nil, List.nil_append, List.cons_append, List.length_set, List.append_assoc, Nat.zero_add, List.length_replicate, esPart_app, esPart_cons, esPart_nil, ePart_eq]; done) | omega)) : A := h hF hC
def p_slices_Clone_impl_Part_impl_Part_tf := PLift.up (And.intro @ePart_eq (And.intro @esPart_len (And.intro @esPart_nil (And.intro @esPart_leaf (And.intro @esPart_fit (And.intro @esPart_share (And.intro @esPart_pure (And.intro @Ty.nze44 (And.intro @Ty.sl44 (And.intro @Ty.slz44 (And.intro @Ty.zok44 (And.intro @Ty.by44 (And.intro @Ty.zs44 @trivial)))))))))))))
def p_slices_Clone_impl_Part_impl_Part (l : List GPart) : Option (List GPart) := if l.length < 4294967296 then some l else none
theorem p_slices_Clone_impl_Part_impl_Part_does (l : List GPart) (r : List GPart) (h : p_slices_Clone_impl_Part_impl_Part l = some r) : Does Try.prog 36 [.row false 3 l.length (esPart l)] (.row true 3 r.length (esPart r)) := by
  rw [p_slices_Clone_impl_Part_impl_Part] at h
  by_cases c : l.length < 4294967296
  case neg => rw [if_neg c] at h; cases h
  rw [if_pos c] at h
  cases h
  refine Does.walk (nt := 8) Try.func36 rfl rfl (by simp) (by decide) rfl (fun G0 X w0 pv => ?_)
  refine st_by p_slices_Clone_impl_Part_impl_Part_tf.down ?_
  refine fun b hb => ?_
  cases b
  · have ff := p_slices_Clone_impl_Part_impl_Part_tf.down
    try refine st_by ff ?_
    repeat' (first | exact trivial | refine And.intro sd ?_)
    clear ff
    exact ret_q1 rfl (p_slices_Clone_impl_Part_impl_Part_rt p_slices_Clone_impl_Part_impl_Part_tf.down trivial)
  · have h0 : l = [] := List.eq_nil_of_length_eq_zero (by rcases Nat.eq_zero_or_pos l.length with h | h; exact h; exact absurd (hb h) (by decide))
    subst h0
    have ff := p_slices_Clone_impl_Part_impl_Part_tf.down
    try refine st_by ff ?_
    repeat' (first | exact trivial | refine And.intro sd ?_)
    clear ff
    exact ret_q1 rfl (p_slices_Clone_impl_Part_impl_Part_rt p_slices_Clone_impl_Part_impl_Part_tf.down trivial)
/-! (impl.World).clone -/
def p_impl_World_clone_l0 : List GEntity → Nat → (List GEntity) → Option ((List GEntity))
  | [], i_0, out_6 => some out_6
  | x_0 :: r_0, i_0, out_6 => ((p_slices_Clone_impl_Part_impl_Part x_0.Parts).bind fun v13 => (if out_6.length < 4294967296 then p_impl_World_clone_l0 r_0 (i_0 + 1) (out_6 ++ [(⟨x_0.Id, v13⟩ : GEntity)]) else none))
theorem p_impl_World_clone_pv {F C A : Prop} (hF : F) (hC : C) (h : F → C → A := by intro hF hC; first | exact cl_by hF | (refine st_by hF ?_; (repeat' (first | exact trivial | apply And.intro)); all_goals (clear hF; first | rfl | (simp only [hC, List.length_append, List.length_cons, List.length_nil, List.append_nil, List.nil_append, List.cons_append, List.length_set, List.append_assoc, Nat.zero_add, List.length_replicate, esWorld_app, esWorld_cons, esWorld_nil, eWorld_eq, esWorldo_app, esWorldo_cons, esWorldo_nil, eWorldo_eq, esEntity_app, esEntity_cons, esEntity_nil, eEntity_eq, esEntityo_app, esEntityo_cons, esEntityo_nil, eEntityo_eq, esPart_app, esPart_cons, esPart_nil, ePart_eq]; done) | (simp [hC, List.length_append, List.length_cons, List.length_nil, List.append_nil, List.nil_append, List.cons_append, List.length_set, List.append_assoc, Nat.zero_add, List.length_replicate, esWorld_app, esWorld_cons, esWorld_nil, eWorld_eq, esWorldo_app, esWorldo_cons, esWorldo_nil, eWorldo_eq, esEntity_app, esEntity_cons, esEntity_nil, eEntity_eq, esEntityo_app, esEntityo_cons, esEntityo_nil, eEntityo_eq, esPart_app, esPart_cons, esPart_nil, ePart_eq]; done) | omega))) : A := h hF hC
theorem p_impl_World_clone_sa {F C A : Prop} (hF : F) (hC : C) (h : F → C → A := by intro hF hC; first | exact ca_by hF | (refine sa_by hF ?_; (repeat' (first | exact trivial | apply And.intro)); all_goals (clear hF; first | rfl | (simp only [hC, List.length_append, List.length_cons, List.length_nil, List.append_nil, List.nil_append, List.cons_append, List.length_set, List.append_assoc, Nat.zero_add, List.length_replicate, esWorld_app, esWorld_cons, esWorld_nil, eWorld_eq, esWorldo_app, esWorldo_cons, esWorldo_nil, eWorldo_eq, esEntity_app, esEntity_cons, esEntity_nil, eEntity_eq, esEntityo_app, esEntityo_cons, esEntityo_nil, eEntityo_eq, esPart_app, esPart_cons, esPart_nil, ePart_eq]; done) | (simp [hC, List.length_append, List.length_cons, List.length_nil, List.append_nil, List.nil_append, List.cons_append, List.length_set, List.append_assoc, Nat.zero_add, List.length_replicate, esWorld_app, esWorld_cons, esWorld_nil, eWorld_eq, esWorldo_app, esWorldo_cons, esWorldo_nil, eWorldo_eq, esEntity_app, esEntity_cons, esEntity_nil, eEntity_eq, esEntityo_app, esEntityo_cons, esEntityo_nil, eEntityo_eq, esPart_app, esPart_cons, esPart_nil, ePart_eq]; done) | omega))) : A := h hF hC
theorem p_impl_World_clone_rt {F C A : Prop} (hF : F) (hC : C) (h : F → C → A := by intro hF hC; first | (refine sr_by hF ?_; (repeat' (first | exact trivial | apply And.intro)); all_goals (clear hF; first | rfl | (simp only [hC, List.length_append, List.length_cons, List.length_nil, List.append_nil, List.nil_append, List.cons_append, List.length_set, List.append_assoc, Nat.zero_add, List.length_replicate, esWorld_app, esWorld_cons, esWorld_nil, eWorld_eq, esWorldo_app, esWorldo_cons, esWorldo_nil, eWorldo_eq, esEntity_app, esEntity_cons, esEntity_nil, eEntity_eq, esEntityo_app, esEntityo_cons, esEntityo_nil, eEntityo_eq, esPart_app, esPart_cons, esPart_nil, ePart_eq]; done) | (simp [hC, List.length_append, List.length_cons, List.length_nil, List.append_nil, List.nil_append, List.cons_append, List.length_set, List.append_assoc, Nat.zero_add, List.length_replicate, esWorld_app, esWorld_cons, esWorld_nil, eWorld_eq, esWorldo_app, esWorldo_cons, esWorldo_nil, eWorldo_eq, esEntity_app, esEntity_cons, esEntity_nil, eEntity_eq, esEntityo_app, esEntityo_cons, esEntityo_nil, eEntityo_eq, esPart_app, esPart_cons, esPart_nil, ePart_eq]; done) | omega)) | (first | rfl | (simp only [hC, List.length_append, List.length_cons, List.length_nil, List.append_nil, List.nil_append, List.cons_append, List.length_set, List.append_assoc, Nat.zero_add, List.length_replicate, esWorld_app, esWorld_cons, esWorld_nil, eWorld_eq, esWorldo_app, esWorldo_cons, esWorldo_nil, eWorldo_eq, esEntity_app, esEntity_cons, esEntity_nil, eEntity_eq, esEntityo_app, esEntityo_cons, esEntityo_nil, eEntityo_eq, esPart_app, esPart_cons, esPart_nil, ePart_eq]; done) | (simp [hC, List.length_append, List.length_cons, List.length_nil, List.append_nil, List.nil_append, List.cons_append, List.length_set, List.append_assoc, Nat.zero_add, List.length_replicate, esWorld_app, esWorld_cons, esWorld_nil, eWorld_eq, esWorldo_app, esWorldo_cons, esWorldo_nil, eWorldo_eq, esEntity_app, esEntity_cons, esEntity_nil, eEntity_eq, esEntityo_app, esEntityo_cons, esEntityo_nil, eEntityo_eq, esPart_app, esPart_cons, esPart_nil, ePart_eq]; done) | omega)) : A := h hF hC
def p_impl_World_clone_tf := PLift.up (And.intro @eWorld_eq (And.intro @esWorld_len (And.intro @esWorld_nil (And.intro @esWorld_leaf (And.intro @esWorld_fit (And.intro @eWorldo_eq (And.intro @esWorldo_len (And.intro @esWorldo_nil (And.intro @eEntity_eq (And.intro @esEntity_len (And.intro @esEntity_nil (And.intro @esEntity_leaf (And.intro @esEntity_fit (And.intro @eEntityo_eq (And.intro @esEntityo_len (And.intro @esEntityo_nil (And.intro @ePart_eq (And.intro @esPart_len (And.intro @esPart_nil (And.intro @esPart_leaf (And.intro @esPart_fit (And.intro @esWorldo_share (And.intro @esWorldo_pure (And.intro @esEntityo_share (And.intro @esEntityo_pure (And.intro @esPart_share (And.intro @esPart_pure (And.intro @str_beq (And.intro @Ty.sl26 (And.intro @Ty.slz26 (And.intro @Ty.nz3 (And.intro @Ty.ldA3 (And.intro @Ty.ldS3 (And.intro @Ty.sz3 (And.intro @Ty.szn3 (And.intro @Ty.nz28 (And.intro @Ty.ldA28 (And.intro @Ty.sz28 (And.intro @Ty.szn28 (And.intro @Ty.nz26 (And.intro @Ty.ldA26 (And.intro @Ty.ldS26 (And.intro @Ty.sz26 (And.intro @Ty.szn26 (And.intro @Ty.nz46 (And.intro @Ty.ldA46 (And.intro @Ty.sz46 (And.intro @Ty.szn46 (And.intro @Ty.nz44 (And.intro @Ty.ldA44 (And.intro @Ty.ldS44 (And.intro @Ty.sz44 (And.intro @Ty.szn44 (And.intro @Ty.fo28_0 (And.intro @Ty.fk28_0 (And.intro @Ty.fs28_0 (And.intro @Ty.fn28_0 (And.intro @Ty.fo28_1 (And.intro @Ty.fk28_1 (And.intro @Ty.fs28_1 (And.intro @Ty.fn28_1 (And.intro @Ty.fo28_2 (And.intro @Ty.fk28_2 (And.intro @Ty.fs28_2 (And.intro @Ty.fn28_2 (And.intro @Ty.fo46_0 (And.intro @Ty.fk46_0 (And.intro @Ty.fs46_0 (And.intro @Ty.fn46_0 (And.intro @Ty.fo46_1 (And.intro @Ty.fk46_1 (And.intro @Ty.fs46_1 (And.intro @Ty.fn46_1 (And.intro @Ty.nze26 (And.intro @Ty.zok26 (And.intro @Ty.by26 (And.intro @Ty.zs26 (And.intro @Ty.zv28 (And.intro @Ty.zv46 (And.intro @Ty.bd28 (And.intro @Ty.pl28_0 (And.intro @Ty.pl28_1 (And.intro @Ty.bd46 (And.intro @Ty.pl46_0 (And.intro @Ty.pl46_1 (And.intro @Ty.ag28 @trivial))))))))))))))))))))))))))))))))))))))))))))))))))))))))))))))))))))))))))))))))))))))
def p_impl_World_clone (w_a0 : GWorld) : Option (GWorld) := ((p_impl_World_clone_l0 w_a0.Entities 0 ([] : List GEntity)).bind fun q_0 => match q_0 with | out_6 => some (⟨w_a0.Next, w_a0.Tick, out_6⟩ : GWorld))
theorem p_impl_World_clone_does (w_a0 : GWorld) (r : GWorld) (h : p_impl_World_clone w_a0 = some r) : Does Try.prog 20 [.agg (eWorld w_a0)] (.agg (eWorldo r)) := by
  rw [p_impl_World_clone] at h
  refine Does.bnd (fun hb => ?_)
  have hb2 : w_a0.Entities.length ≤ 9223372036854775807 := by simpa [AV.fitNs, AV.fitN, eWorld] using hb
  have hl0 := hb2
  refine Does.walk (nt := 31) Try.func20 rfl rfl (by simp) (by decide) rfl (fun G0 X w0 pv => ?_)
  have hL_0 : w_a0.Entities.length ≤ 9223372036854775807 := by first | assumption | omega
  obtain ⟨q_0, eq_0, h⟩ := Option.bind_eq_some_iff.1 h
  have ff := p_impl_World_clone_tf.down
  try refine st_by ff ?_
  repeat' (first | exact trivial | refine And.intro sd ?_)
  obtain ⟨I_0, hI_0⟩ : ∃ I_ : (Nat × (List GEntity)) → ASt → Prop, I_ = (fun (a : Nat × (List GEntity)) σ => match a with | (i_0, out_6) => (i_0 ≤ w_a0.Entities.length ∧ p_impl_World_clone_l0 (w_a0.Entities.drop i_0) i_0 out_6 = some q_0) ∧ σ.t 2 = .ptr 2 [] 0 ∧ σ.t 3 = .ptr 3 [] 0 ∧ σ.t 12 = .row false 2 w_a0.Entities.length (esEntity w_a0.Entities) ∧ σ.t 13 = I (w_a0.Entities.length : Int) ∧ σ.t 14 = I (i_0 : Int) ∧ σ.m 2 = some (.box true [I 0, I 0, .row true 2 0 []]) ∧ σ.m 3 = some (.box true [I w_a0.Next, I w_a0.Tick, .row true 2 out_6.length (esEntityo out_6)])) := ⟨_, rfl⟩
  obtain ⟨M_0, hM_0⟩ : ∃ M_ : (Nat × (List GEntity)) → Nat, M_ = (fun (a : Nat × (List GEntity)) => match a with | (i_0, out_6) => w_a0.Entities.length - i_0) := ⟨_, rfl⟩
  obtain ⟨J_0, hJ_0⟩ : ∃ J_ : ASt → Prop, J_ = (fun σ => ∃ out_6 : List GEntity, (some out_6 = some q_0) ∧ σ.t 2 = .ptr 2 [] 0 ∧ σ.t 3 = .ptr 3 [] 0 ∧ σ.m 2 = some (.box true [I 0, I 0, .row true 2 0 []]) ∧ σ.m 3 = some (.box true [I w_a0.Next, I w_a0.Tick, .row true 2 out_6.length (esEntityo out_6)])) := ⟨_, rfl⟩
  refine aw_loopC (id := 0) I_0 M_0 J_0 (0, ([] : List GEntity)) ?_ ?_ ?_
  · rw [hI_0]
    refine ⟨⟨Nat.zero_le _, eq_0⟩, ?_⟩
    exact p_impl_World_clone_pv ff trivial
  · try clear ff
    rintro ⟨i_0, out_6⟩ σ hg_0
    rw [hI_0] at hg_0
    obtain ⟨⟨hi_0, h_0⟩, g0_0, g1_0, g2_0, g3_0, g4_0, g5_0, g6_0⟩ := hg_0
    cases hr_0 : w_a0.Entities.drop i_0 with
    | nil =>
      rw [hr_0] at h_0
      rw [p_impl_World_clone_l0] at h_0
      have hn_0 := drop_nil hr_0
      have dr_0 : decide ((i_0 : Int) < (w_a0.Entities.length : Int)) = false := decide_eq_false (by omega)
      have ff := And.intro @dr_0 (And.intro @g0_0 (And.intro @g1_0 (And.intro @g2_0 (And.intro @g3_0 (And.intro @g4_0 (And.intro @g5_0 (And.intro @g6_0 p_impl_World_clone_tf.down)))))))
      try refine st_by ff ?_
      repeat' (first | exact trivial | refine And.intro sd ?_)
      refine JW.intro ?_
      rw [hJ_0]
      refine ⟨out_6, h_0, ?_⟩
      exact p_impl_World_clone_pv ff trivial
    | cons x_0 r_0 =>
      rw [hr_0] at h_0
      rw [p_impl_World_clone_l0] at h_0
      obtain ⟨ht_0, hg_0, hd_0⟩ := drop_cons hr_0
      have dr_0 : decide ((i_0 : Int) < (w_a0.Entities.length : Int)) = true := decide_eq_true (by omega)
      have w_0 : IntKind.i64.wrap ((i_0 : Int) + 1) = ((i_0 + 1 : Nat) : Int) := wI _ (by omega) (by omega)
      have kk0c : (esEntity w_a0.Entities).drop (i_0 * 2) = eEntity x_0 ++ esEntity (w_a0.Entities.drop (i_0 + 1)) := drop_enc (fun _ => rfl) (hg_0)
      obtain ⟨v13, ev13, h_0⟩ := Option.bind_eq_some_iff.1 h_0
      try dsimp only at h_0
      have ff := And.intro @dr_0 (And.intro @w_0 (And.intro @g0_0 (And.intro @g1_0 (And.intro @g2_0 (And.intro @g3_0 (And.intro @g4_0 (And.intro @g5_0 (And.intro @g6_0 (And.intro @kk0c p_impl_World_clone_tf.down)))))))))
      try refine st_by ff ?_
      repeat' (first | exact trivial | refine And.intro sd ?_ | (refine aw_drawn (id := 5) ?_ [[], [0], [], [2], [], [4], [4, 5], [2, 3, 4, 5, 6], [2, 3, 4, 5, 6, 7], [0, 1, 2, 3, 4, 5, 6, 7, 8], [0, 1, 2, 3, 4, 5, 6, 7, 8, 9], [0, 1, 2, 3, 4, 5, 6, 7, 8, 9, 10]] 9 ?_ ?_; (· kernel_rfl); (· kernel_rfl); refine st_by ff ?_))
      first
      | (refine cq_own (p_slices_Clone_impl_Part_impl_Part_does x_0.Parts v13 ev13) (hf_by ff) kr ⟨p_impl_World_clone_sa ff trivial, ?_⟩; clear ff)
      | (refine cq_down (p_slices_Clone_impl_Part_impl_Part_does x_0.Parts v13 ev13) (hf_by ff) kr ⟨p_impl_World_clone_sa ff trivial, ?_⟩; clear ff)
      by_cases c14 : out_6.length < 4294967296
      case neg => rw [if_neg c14] at h_0; cases h_0
      rw [if_pos c14] at h_0
      have a15a : esEntityo out_6 ++ [I x_0.Id, .row true 3 v13.length (esPart v13)] = esEntityo (out_6 ++ [(⟨x_0.Id, v13⟩ : GEntity)]) := by simp [esEntityo_app, esEntityo_cons, esEntityo_nil, eEntityo_eq, esWorld_nil, esEntity_nil, esPart_nil]
      have a15b : out_6.length + 1 = (out_6 ++ [(⟨x_0.Id, v13⟩ : GEntity)]).length := by simp
      have ff := And.intro @dr_0 (And.intro @w_0 (And.intro @g0_0 (And.intro @g1_0 (And.intro @g2_0 (And.intro @g3_0 (And.intro @g4_0 (And.intro @g5_0 (And.intro @g6_0 (And.intro @kk0c (And.intro @a15a (And.intro @a15b p_impl_World_clone_tf.down)))))))))))
      try refine st_by ff ?_
      repeat' (first | exact trivial | refine And.intro sd ?_)
      refine Back.intro (i_0 + 1, (out_6 ++ [(⟨x_0.Id, v13⟩ : GEntity)])) ?_ ?_
      · clear ff; rw [hM_0]; show w_a0.Entities.length - (i_0 + 1) < w_a0.Entities.length - i_0; omega
      rw [hI_0]
      refine ⟨⟨by clear ff; show i_0 + 1 ≤ w_a0.Entities.length; omega, by show p_impl_World_clone_l0 (w_a0.Entities.drop (i_0 + 1)) (i_0 + 1) (out_6 ++ [(⟨x_0.Id, v13⟩ : GEntity)]) = some q_0; rw [hd_0]; exact h_0⟩, ?_⟩
      exact p_impl_World_clone_pv ff trivial
  · try clear ff
    rintro σ hg_0
    rw [hJ_0] at hg_0
    obtain ⟨out_6, hj_0, g0_0a, g1_0a, g2_0a, g3_0a⟩ := hg_0
    have hjj_0 := Option.some.inj hj_0
    subst hjj_0
    try dsimp only at h
    have ff := And.intro @g0_0a (And.intro @g1_0a (And.intro @g2_0a (And.intro @g3_0a p_impl_World_clone_tf.down)))
    try refine st_by ff ?_
    repeat' (first | exact trivial | refine And.intro sd ?_)
    cases h
    exact ret_q1 rfl (p_impl_World_clone_rt ff trivial)
/-! (impl.World).place$1 -/
theorem p_impl_World_place_1_pv {F C A : Prop} (hF : F) (hC : C) (h : F → C → A := by intro hF hC; first | exact cl_by hF | (refine st_by hF ?_; (repeat' (first | exact trivial | apply And.intro)); all_goals (clear hF; first | rfl | (simp only [hC, List.length_append, List.length_cons, List.length_nil, List.append_nil, List.nil_append, List.cons_append, List.length_set, List.append_assoc, Nat.zero_add, List.length_replicate, esInt_app, esInt_cons, esInt_nil, eInt_eq, esEntity_app, esEntity_cons, esEntity_nil, eEntity_eq, esEntityo_app, esEntityo_cons, esEntityo_nil, eEntityo_eq, esPart_app, esPart_cons, esPart_nil, ePart_eq]; done) | (simp [hC, List.length_append, List.length_cons, List.length_nil, List.append_nil, List.nil_append, List.cons_append, List.length_set, List.append_assoc, Nat.zero_add, List.length_replicate, esInt_app, esInt_cons, esInt_nil, eInt_eq, esEntity_app, esEntity_cons, esEntity_nil, eEntity_eq, esEntityo_app, esEntityo_cons, esEntityo_nil, eEntityo_eq, esPart_app, esPart_cons, esPart_nil, ePart_eq]; done) | omega))) : A := h hF hC
theorem p_impl_World_place_1_sa {F C A : Prop} (hF : F) (hC : C) (h : F → C → A := by intro hF hC; first | exact ca_by hF | (refine sa_by hF ?_; (repeat' (first | exact trivial | apply And.intro)); all_goals (clear hF; first | rfl | (simp only [hC, List.length_append, List.length_cons, List.length_nil, List.append_nil, List.nil_append, List.cons_append, List.length_set, List.append_assoc, Nat.zero_add, List.length_replicate, esInt_app, esInt_cons, esInt_nil, eInt_eq, esEntity_app, esEntity_cons, esEntity_nil, eEntity_eq, esEntityo_app, esEntityo_cons, esEntityo_nil, eEntityo_eq, esPart_app, esPart_cons, esPart_nil, ePart_eq]; done) | (simp [hC, List.length_append, List.length_cons, List.length_nil, List.append_nil, List.nil_append, List.cons_append, List.length_set, List.append_assoc, Nat.zero_add, List.length_replicate, esInt_app, esInt_cons, esInt_nil, eInt_eq, esEntity_app, esEntity_cons, esEntity_nil, eEntity_eq, esEntityo_app, esEntityo_cons, esEntityo_nil, eEntityo_eq, esPart_app, esPart_cons, esPart_nil, ePart_eq]; done) | omega))) : A := h hF hC
theorem p_impl_World_place_1_rt {F C A : Prop} (hF : F) (hC : C) (h : F → C → A := by intro hF hC; first | (refine sr_by hF ?_; (repeat' (first | exact trivial | apply And.intro)); all_goals (clear hF; first | rfl | (simp only [hC, List.length_append, List.length_cons, List.length_nil, List.append_nil, List.nil_append, List.cons_append, List.length_set, List.append_assoc, Nat.zero_add, List.length_replicate, esInt_app, esInt_cons, esInt_nil, eInt_eq, esEntity_app, esEntity_cons, esEntity_nil, eEntity_eq, esEntityo_app, esEntityo_cons, esEntityo_nil, eEntityo_eq, esPart_app, esPart_cons, esPart_nil, ePart_eq]; done) | (simp [hC, List.length_append, List.length_cons, List.length_nil, List.append_nil, List.nil_append, List.cons_append, List.length_set, List.append_assoc, Nat.zero_add, List.length_replicate, esInt_app, esInt_cons, esInt_nil, eInt_eq, esEntity_app, esEntity_cons, esEntity_nil, eEntity_eq, esEntityo_app, esEntityo_cons, esEntityo_nil, eEntityo_eq, esPart_app, esPart_cons, esPart_nil, ePart_eq]; done) | omega)) | (first | rfl | (simp only [hC, List.length_append, List.length_cons, List.length_nil, List.append_nil, List.nil_append, List.cons_append, List.length_set, List.append_assoc, Nat.zero_add, List.length_replicate, esInt_app, esInt_cons, esInt_nil, eInt_eq, esEntity_app, esEntity_cons, esEntity_nil, eEntity_eq, esEntityo_app, esEntityo_cons, esEntityo_nil, eEntityo_eq, esPart_app, esPart_cons, esPart_nil, ePart_eq]; done) | (simp [hC, List.length_append, List.length_cons, List.length_nil, List.append_nil, List.nil_append, List.cons_append, List.length_set, List.append_assoc, Nat.zero_add, List.length_replicate, esInt_app, esInt_cons, esInt_nil, eInt_eq, esEntity_app, esEntity_cons, esEntity_nil, eEntity_eq, esEntityo_app, esEntityo_cons, esEntityo_nil, eEntityo_eq, esPart_app, esPart_cons, esPart_nil, ePart_eq]; done) | omega)) : A := h hF hC
def p_impl_World_place_1_tf := PLift.up (And.intro @eInt_eq (And.intro @esInt_len (And.intro @esInt_nil (And.intro @esInt_leaf (And.intro @esInt_fit (And.intro @eEntity_eq (And.intro @esEntity_len (And.intro @esEntity_nil (And.intro @esEntity_leaf (And.intro @esEntity_fit (And.intro @eEntityo_eq (And.intro @esEntityo_len (And.intro @esEntityo_nil (And.intro @ePart_eq (And.intro @esPart_len (And.intro @esPart_nil (And.intro @esPart_leaf (And.intro @esPart_fit (And.intro @esInt_share (And.intro @esInt_pure (And.intro @esEntityo_share (And.intro @esEntityo_pure (And.intro @esPart_share (And.intro @esPart_pure (And.intro @str_beq (And.intro @Ty.nz3 (And.intro @Ty.ldA3 (And.intro @Ty.ldS3 (And.intro @Ty.sz3 (And.intro @Ty.szn3 (And.intro @Ty.fo46_0 (And.intro @Ty.fk46_0 (And.intro @Ty.fs46_0 (And.intro @Ty.fn46_0 @trivial))))))))))))))))))))))))))))))))))
def p_impl_World_place_1 (e_a0 : GEntity) (k0_ : Int) : Option (Bool) := some (e_a0.Id == k0_)
theorem p_impl_World_place_1_does (e_a0 : GEntity) (k0_ : Int) (r : Bool) (h : p_impl_World_place_1 e_a0 k0_ = some r) : Does Try.prog 38 [.agg (eEntity e_a0), .box false (eInt k0_)] (B r) := by
  rw [p_impl_World_place_1] at h
  refine Does.bnd (fun hb => ?_)
  have hb2 : e_a0.Parts.length ≤ 9223372036854775807 := by simpa [AV.fitNs, AV.fitN, eEntity] using hb
  have hl0 := hb2
  refine Does.walk (nt := 8) Try.func38 rfl rfl (by simp) (by decide) rfl (fun G0 X w0 pv => ?_)
  have ff := p_impl_World_place_1_tf.down
  try refine st_by ff ?_
  repeat' (first | exact trivial | refine And.intro sd ?_)
  cases h
  exact ret_q1 rfl (p_impl_World_place_1_rt ff trivial)
/-! slices.IndexFunc[[]impl.Entity,impl.Entity] -/
def p_slices_IndexFunc_impl_Entity_impl_Entity_l0 (f_a1 : GEntity → Option Bool) : List GEntity → Nat → Option (LR (Int) (Unit))
  | [], i_0 => some (.out ())
  | x_0 :: r_0, i_0 => ((f_a1 x_0).bind fun v12 => (if v12 = true then some (.ret (i_0 : Int)) else p_slices_IndexFunc_impl_Entity_impl_Entity_l0 f_a1 r_0 (i_0 + 1)))
theorem p_slices_IndexFunc_impl_Entity_impl_Entity_pv {F C A : Prop} (hF : F) (hC : C) (h : F → C → A := by intro hF hC; first | exact cl_by hF | (refine st_by hF ?_; (repeat' (first | exact trivial | apply And.intro)); all_goals (clear hF; first | rfl | (simp only [hC, List.length_append, List.length_cons, List.length_nil, List.append_nil, List.nil_append, List.cons_append, List.length_set, List.append_assoc, Nat.zero_add, List.length_replicate, esEntity_app, esEntity_cons, esEntity_nil, eEntity_eq, esEntityo_app, esEntityo_cons, esEntityo_nil, eEntityo_eq]; done) | (simp [hC, List.length_append, List.length_cons, List.length_nil, List.append_nil, List.nil_append, List.cons_append, List.length_set, List.append_assoc, Nat.zero_add, List.length_replicate, esEntity_app, esEntity_cons, esEntity_nil, eEntity_eq, esEntityo_app, esEntityo_cons, esEntityo_nil, eEntityo_eq]; done) | omega))) : A := h hF hC
theorem p_slices_IndexFunc_impl_Entity_impl_Entity_sa {F C A : Prop} (hF : F) (hC : C) (h : F → C → A := by intro hF hC; first | exact ca_by hF | (refine sa_by hF ?_; (repeat' (first | exact trivial | apply And.intro)); all_goals (clear hF; first | rfl | (simp only [hC, List.length_append, List.length_cons, List.length_nil, List.append_nil, List.nil_append, List.cons_append, List.length_set, List.append_assoc, Nat.zero_add, List.length_replicate, esEntity_app, esEntity_cons, esEntity_nil, eEntity_eq, esEntityo_app, esEntityo_cons, esEntityo_nil, eEntityo_eq]; done) | (simp [hC, List.length_append, List.length_cons, List.length_nil, List.append_nil, List.nil_append, List.cons_append, List.length_set, List.append_assoc, Nat.zero_add, List.length_replicate, esEntity_app, esEntity_cons, esEntity_nil, eEntity_eq, esEntityo_app, esEntityo_cons, esEntityo_nil, eEntityo_eq]; done) | omega))) : A := h hF hC
theorem p_slices_IndexFunc_impl_Entity_impl_Entity_rt {F C A : Prop} (hF : F) (hC : C) (h : F → C → A := by intro hF hC; first | (refine sr_by hF ?_; (repeat' (first | exact trivial | apply And.intro)); all_goals (clear hF; first | rfl | (simp only [hC, List.length_append, List.length_cons, List.length_nil, List.append_nil, List.nil_append, List.cons_append, List.length_set, List.append_assoc, Nat.zero_add, List.length_replicate, esEntity_app, esEntity_cons, esEntity_nil, eEntity_eq, esEntityo_app, esEntityo_cons, esEntityo_nil, eEntityo_eq]; done) | (simp [hC, List.length_append, List.length_cons, List.length_nil, List.append_nil, List.nil_append, List.cons_append, List.length_set, List.append_assoc, Nat.zero_add, List.length_replicate, esEntity_app, esEntity_cons, esEntity_nil, eEntity_eq, esEntityo_app, esEntityo_cons, esEntityo_nil, eEntityo_eq]; done) | omega)) | (first | rfl | (simp only [hC, List.length_append, List.length_cons, List.length_nil, List.append_nil, List.nil_append, List.cons_append, List.length_set, List.append_assoc, Nat.zero_add, List.length_replicate, esEntity_app, esEntity_cons, esEntity_nil, eEntity_eq, esEntityo_app, esEntityo_cons, esEntityo_nil, eEntityo_eq]; done) | (simp [hC, List.length_append, List.length_cons, List.length_nil, List.append_nil, List.nil_append, List.cons_append, List.length_set, List.append_assoc, Nat.zero_add, List.length_replicate, esEntity_app, esEntity_cons, esEntity_nil, eEntity_eq, esEntityo_app, esEntityo_cons, esEntityo_nil, eEntityo_eq]; done) | omega)) : A := h hF hC
def p_slices_IndexFunc_impl_Entity_impl_Entity_tf := PLift.up (And.intro @eEntity_eq (And.intro @esEntity_len (And.intro @esEntity_nil (And.intro @esEntity_leaf (And.intro @esEntity_fit (And.intro @eEntityo_eq (And.intro @esEntityo_len (And.intro @esEntityo_nil (And.intro @esEntityo_share (And.intro @esEntityo_pure (And.intro @str_beq (And.intro @Ty.sl26 (And.intro @Ty.slz26 (And.intro @Ty.nz46 (And.intro @Ty.ldA46 (And.intro @Ty.sz46 (And.intro @Ty.szn46 @trivial)))))))))))))))))
def p_slices_IndexFunc_impl_Entity_impl_Entity (s_a0 : List GEntity) (f_a1 : GEntity → Option Bool) : Option (Int) := ((p_slices_IndexFunc_impl_Entity_impl_Entity_l0 f_a1 s_a0 0).bind fun q_0 => match q_0 with | .ret r_ => some r_ | .out _ => some (-1))
theorem p_slices_IndexFunc_impl_Entity_impl_Entity_does (s_a0 : List GEntity) (f1 : FuncId) (caps1 : List AV) (hc1 : AV.noRefs caps1 = true) (he1 : entB Try.prog f1 = true) (f_a1 : GEntity → Option Bool) (hp1 : ∀ (x0_ : GEntity) (y_ : Bool), f_a1 x0_ = some y_ → Does Try.prog f1 ([.agg (eEntity x0_)] ++ caps1) (B y_)) (r : Int) (h : p_slices_IndexFunc_impl_Entity_impl_Entity s_a0 f_a1 = some r) : Does Try.prog 37 [.row false 2 s_a0.length (esEntity s_a0), .fn f1 caps1] (I r) := by
  rw [p_slices_IndexFunc_impl_Entity_impl_Entity] at h
  refine Does.bnd (fun hb => ?_)
  have hb2 : s_a0.length ≤ 9223372036854775807 := by simpa [AV.fitNs, AV.fitN] using hb
  have hl0 := hb2
  refine Does.walk (nt := 19) Try.func37 rfl rfl (by simp) (by decide) (by simp [AV.noRefs, AV.noRef, hc1]) (fun G0 X w0 pv => ?_)
  have hL_0 : s_a0.length ≤ 9223372036854775807 := by first | assumption | omega
  obtain ⟨q_0, eq_0, h⟩ := Option.bind_eq_some_iff.1 h
  have ff := And.intro @hc1 p_slices_IndexFunc_impl_Entity_impl_Entity_tf.down
  try refine st_by ff ?_
  repeat' (first | exact trivial | refine And.intro sd ?_)
  obtain ⟨I_0, hI_0⟩ : ∃ I_ : (Nat) → ASt → Prop, I_ = (fun (i_0 : Nat) σ => (i_0 ≤ s_a0.length ∧ p_slices_IndexFunc_impl_Entity_impl_Entity_l0 f_a1 (s_a0.drop i_0) i_0 = some q_0) ∧ σ.t 0 = .row false 2 s_a0.length (esEntity s_a0) ∧ σ.t 1 = .fn f1 caps1 ∧ σ.t 7 = I (s_a0.length : Int) ∧ σ.t 8 = I (i_0 : Int)) := ⟨_, rfl⟩
  obtain ⟨M_0, hM_0⟩ : ∃ M_ : (Nat) → Nat, M_ = (fun (i_0 : Nat) => s_a0.length - i_0) := ⟨_, rfl⟩
  obtain ⟨J_0, hJ_0⟩ : ∃ J_ : ASt → Prop, J_ = (fun σ => (some (.out ()) = some q_0) ∧ True) := ⟨_, rfl⟩
  refine aw_loopC (id := 0) I_0 M_0 J_0 (0) ?_ ?_ ?_
  · rw [hI_0]
    refine ⟨⟨Nat.zero_le _, eq_0⟩, ?_⟩
    exact p_slices_IndexFunc_impl_Entity_impl_Entity_pv ff trivial
  · try clear ff
    rintro i_0 σ hg_0
    rw [hI_0] at hg_0
    obtain ⟨⟨hi_0, h_0⟩, g0_0, g1_0, g2_0, g3_0⟩ := hg_0
    cases hr_0 : s_a0.drop i_0 with
    | nil =>
      rw [hr_0] at h_0
      rw [p_slices_IndexFunc_impl_Entity_impl_Entity_l0] at h_0
      have hn_0 := drop_nil hr_0
      have dr_0 : decide ((i_0 : Int) < (s_a0.length : Int)) = false := decide_eq_false (by omega)
      have ff := And.intro @hc1 (And.intro @dr_0 (And.intro @g0_0 (And.intro @g1_0 (And.intro @g2_0 (And.intro @g3_0 p_slices_IndexFunc_impl_Entity_impl_Entity_tf.down)))))
      try refine st_by ff ?_
      repeat' (first | exact trivial | refine And.intro sd ?_)
      refine JW.intro ?_
      rw [hJ_0]
      refine ⟨h_0, ?_⟩
      exact p_slices_IndexFunc_impl_Entity_impl_Entity_pv ff trivial
    | cons x_0 r_0 =>
      rw [hr_0] at h_0
      rw [p_slices_IndexFunc_impl_Entity_impl_Entity_l0] at h_0
      obtain ⟨ht_0, hg_0, hd_0⟩ := drop_cons hr_0
      have dr_0 : decide ((i_0 : Int) < (s_a0.length : Int)) = true := decide_eq_true (by omega)
      have w_0 : IntKind.i64.wrap ((i_0 : Int) + 1) = ((i_0 + 1 : Nat) : Int) := wI _ (by omega) (by omega)
      have kk0c : (esEntity s_a0).drop (i_0 * 2) = eEntity x_0 ++ esEntity (s_a0.drop (i_0 + 1)) := drop_enc (fun _ => rfl) (hg_0)
      obtain ⟨v12, ev12, h_0⟩ := Option.bind_eq_some_iff.1 h_0
      try dsimp only at h_0
      have ff := And.intro @hc1 (And.intro @dr_0 (And.intro @w_0 (And.intro @g0_0 (And.intro @g1_0 (And.intro @g2_0 (And.intro @g3_0 (And.intro @kk0c p_slices_IndexFunc_impl_Entity_impl_Entity_tf.down)))))))
      try refine st_by ff ?_
      repeat' (first | exact trivial | refine And.intro sd ?_)
      first
      | (refine cq_call (hp1 x_0 v12 ev12) (hf_by ff) he1 ⟨p_slices_IndexFunc_impl_Entity_impl_Entity_sa ff trivial, ?_⟩; clear ff)
      by_cases c13 : v12 = true
      · rw [if_pos c13] at h_0
        have dc13 := c13
        cases h_0
        try dsimp only at h
        have ff := And.intro @hc1 (And.intro @dr_0 (And.intro @w_0 (And.intro @g0_0 (And.intro @g1_0 (And.intro @g2_0 (And.intro @g3_0 (And.intro @kk0c (And.intro @dc13 p_slices_IndexFunc_impl_Entity_impl_Entity_tf.down))))))))
        try refine st_by ff ?_
        repeat' (first | exact trivial | refine And.intro sd ?_)
        cases h
        exact ret_q1 rfl (p_slices_IndexFunc_impl_Entity_impl_Entity_rt ff trivial)
      rw [if_neg c13] at h_0
      have dc13 := eq_false_of_ne_true c13
      have ff := And.intro @hc1 (And.intro @dr_0 (And.intro @w_0 (And.intro @g0_0 (And.intro @g1_0 (And.intro @g2_0 (And.intro @g3_0 (And.intro @kk0c (And.intro @dc13 p_slices_IndexFunc_impl_Entity_impl_Entity_tf.down))))))))
      try refine st_by ff ?_
      repeat' (first | exact trivial | refine And.intro sd ?_)
      refine Back.intro (i_0 + 1) ?_ ?_
      · clear ff; rw [hM_0]; show s_a0.length - (i_0 + 1) < s_a0.length - i_0; omega
      rw [hI_0]
      refine ⟨⟨by clear ff; show i_0 + 1 ≤ s_a0.length; omega, by show p_slices_IndexFunc_impl_Entity_impl_Entity_l0 f_a1 (s_a0.drop (i_0 + 1)) (i_0 + 1) = some q_0; rw [hd_0]; exact h_0⟩, ?_⟩
      exact p_slices_IndexFunc_impl_Entity_impl_Entity_pv ff trivial
  · try clear ff
    rintro σ hg_0
    rw [hJ_0] at hg_0
    obtain ⟨hj_0, _⟩ := hg_0
    cases hj_0
    try dsimp only at h
    have ff := And.intro @hc1 p_slices_IndexFunc_impl_Entity_impl_Entity_tf.down
    try refine st_by ff ?_
    repeat' (first | exact trivial | refine And.intro sd ?_)
    cases h
    exact ret_q1 rfl (p_slices_IndexFunc_impl_Entity_impl_Entity_rt ff trivial)
/-! (impl.World).place -/
theorem p_impl_World_place_pv {F C A : Prop} (hF : F) (hC : C) (h : F → C → A := by intro hF hC; first | exact cl_by hF | (refine st_by hF ?_; (repeat' (first | exact trivial | apply And.intro)); all_goals (clear hF; first | rfl | (simp only [hC, List.length_append, List.length_cons, List.length_nil, List.append_nil, List.nil_append, List.cons_append, List.length_set, List.append_assoc, Nat.zero_add, List.length_replicate, esWorld_app, esWorld_cons, esWorld_nil, eWorld_eq, esWorldo_app, esWorldo_cons, esWorldo_nil, eWorldo_eq, esEntity_app, esEntity_cons, esEntity_nil, eEntity_eq, esEntityo_app, esEntityo_cons, esEntityo_nil, eEntityo_eq]; done) | (simp [hC, List.length_append, List.length_cons, List.length_nil, List.append_nil, List.nil_append, List.cons_append, List.length_set, List.append_assoc, Nat.zero_add, List.length_replicate, esWorld_app, esWorld_cons, esWorld_nil, eWorld_eq, esWorldo_app, esWorldo_cons, esWorldo_nil, eWorldo_eq, esEntity_app, esEntity_cons, esEntity_nil, eEntity_eq, esEntityo_app, esEntityo_cons, esEntityo_nil, eEntityo_eq]; done) | omega))) : A := h hF hC
theorem p_impl_World_place_sa {F C A : Prop} (hF : F) (hC : C) (h : F → C → A := by intro hF hC; first | exact ca_by hF | (refine sa_by hF ?_; (repeat' (first | exact trivial | apply And.intro)); all_goals (clear hF; first | rfl | (simp only [hC, List.length_append, List.length_cons, List.length_nil, List.append_nil, List.nil_append, List.cons_append, List.length_set, List.append_assoc, Nat.zero_add, List.length_replicate, esWorld_app, esWorld_cons, esWorld_nil, eWorld_eq, esWorldo_app, esWorldo_cons, esWorldo_nil, eWorldo_eq, esEntity_app, esEntity_cons, esEntity_nil, eEntity_eq, esEntityo_app, esEntityo_cons, esEntityo_nil, eEntityo_eq]; done) | (simp [hC, List.length_append, List.length_cons, List.length_nil, List.append_nil, List.nil_append, List.cons_append, List.length_set, List.append_assoc, Nat.zero_add, List.length_replicate, esWorld_app, esWorld_cons, esWorld_nil, eWorld_eq, esWorldo_app, esWorldo_cons, esWorldo_nil, eWorldo_eq, esEntity_app, esEntity_cons, esEntity_nil, eEntity_eq, esEntityo_app, esEntityo_cons, esEntityo_nil, eEntityo_eq]; done) | omega))) : A := h hF hC
theorem p_impl_World_place_rt {F C A : Prop} (hF : F) (hC : C) (h : F → C → A := by intro hF hC; first | (refine sr_by hF ?_; (repeat' (first | exact trivial | apply And.intro)); all_goals (clear hF; first | rfl | (simp only [hC, List.length_append, List.length_cons, List.length_nil, List.append_nil, List.nil_append, List.cons_append, List.length_set, List.append_assoc, Nat.zero_add, List.length_replicate, esWorld_app, esWorld_cons, esWorld_nil, eWorld_eq, esWorldo_app, esWorldo_cons, esWorldo_nil, eWorldo_eq, esEntity_app, esEntity_cons, esEntity_nil, eEntity_eq, esEntityo_app, esEntityo_cons, esEntityo_nil, eEntityo_eq]; done) | (simp [hC, List.length_append, List.length_cons, List.length_nil, List.append_nil, List.nil_append, List.cons_append, List.length_set, List.append_assoc, Nat.zero_add, List.length_replicate, esWorld_app, esWorld_cons, esWorld_nil, eWorld_eq, esWorldo_app, esWorldo_cons, esWorldo_nil, eWorldo_eq, esEntity_app, esEntity_cons, esEntity_nil, eEntity_eq, esEntityo_app, esEntityo_cons, esEntityo_nil, eEntityo_eq]; done) | omega)) | (first | rfl | (simp only [hC, List.length_append, List.length_cons, List.length_nil, List.append_nil, List.nil_append, List.cons_append, List.length_set, List.append_assoc, Nat.zero_add, List.length_replicate, esWorld_app, esWorld_cons, esWorld_nil, eWorld_eq, esWorldo_app, esWorldo_cons, esWorldo_nil, eWorldo_eq, esEntity_app, esEntity_cons, esEntity_nil, eEntity_eq, esEntityo_app, esEntityo_cons, esEntityo_nil, eEntityo_eq]; done) | (simp [hC, List.length_append, List.length_cons, List.length_nil, List.append_nil, List.nil_append, List.cons_append, List.length_set, List.append_assoc, Nat.zero_add, List.length_replicate, esWorld_app, esWorld_cons, esWorld_nil, eWorld_eq, esWorldo_app, esWorldo_cons, esWorldo_nil, eWorldo_eq, esEntity_app, esEntity_cons, esEntity_nil, eEntity_eq, esEntityo_app, esEntityo_cons, esEntityo_nil, eEntityo_eq]; done) | omega)) : A := h hF hC
def p_impl_World_place_tf := PLift.up (And.intro @eWorld_eq (And.intro @esWorld_len (And.intro @esWorld_nil (And.intro @esWorld_leaf (And.intro @esWorld_fit (And.intro @eWorldo_eq (And.intro @esWorldo_len (And.intro @esWorldo_nil (And.intro @eEntity_eq (And.intro @esEntity_len (And.intro @esEntity_nil (And.intro @esEntity_leaf (And.intro @esEntity_fit (And.intro @eEntityo_eq (And.intro @esEntityo_len (And.intro @esEntityo_nil (And.intro @esWorldo_share (And.intro @esWorldo_pure (And.intro @esEntityo_share (And.intro @esEntityo_pure (And.intro @str_beq (And.intro @Ty.nz26 (And.intro @Ty.ldA26 (And.intro @Ty.ldS26 (And.intro @Ty.sz26 (And.intro @Ty.szn26 (And.intro @Ty.fo28_2 (And.intro @Ty.fk28_2 (And.intro @Ty.fs28_2 (And.intro @Ty.fn28_2 @trivial))))))))))))))))))))))))))))))
def p_impl_World_place (w_a0 : GWorld) (id_a1 : Int) : Option (Int) := ((p_slices_IndexFunc_impl_Entity_impl_Entity w_a0.Entities (fun x0_ => p_impl_World_place_1 x0_ id_a1)).bind fun v1 => some v1)
theorem p_impl_World_place_does (w_a0 : GWorld) (id_a1 : Int) (r : Int) (h : p_impl_World_place w_a0 id_a1 = some r) : Does Try.prog 21 [.agg (eWorld w_a0), I id_a1] (I r) := by
  rw [p_impl_World_place] at h
  refine Does.bnd (fun hb => ?_)
  have hb2 : w_a0.Entities.length ≤ 9223372036854775807 := by simpa [AV.fitNs, AV.fitN, eWorld] using hb
  have hl0 := hb2
  refine Does.walk (nt := 9) Try.func21 rfl rfl (by simp) (by decide) rfl (fun G0 X w0 pv => ?_)
  obtain ⟨v1, ev1, h⟩ := Option.bind_eq_some_iff.1 h
  try dsimp only at h
  have ff := p_impl_World_place_tf.down
  try refine st_by ff ?_
  repeat' (first | exact trivial | refine And.intro sd ?_)
  first
  | (refine cq_lend (p_slices_IndexFunc_impl_Entity_impl_Entity_does w_a0.Entities 38 [.box false (eInt id_a1)] (by simp [AV.noRefs, AV.noRef]) kr (fun x0_ => p_impl_World_place_1 x0_ id_a1) (fun x0_ y_ h_ => p_impl_World_place_1_does x0_ id_a1 y_ h_) v1 ev1) (hf_by ff) kr ⟨p_impl_World_place_sa ff trivial, ?_⟩; clear ff)
  have ff := p_impl_World_place_tf.down
  try refine st_by ff ?_
  repeat' (first | exact trivial | refine And.intro sd ?_)
  cases h
  exact ret_q1 rfl (p_impl_World_place_rt ff trivial)
/-! impl.Despawn -/
theorem p_impl_Despawn_pv {F C A : Prop} (hF : F) (hC : C) (h : F → C → A := by intro hF hC; first | exact cl_by hF | (refine st_by hF ?_; (repeat' (first | exact trivial | apply And.intro)); all_goals (clear hF; first | rfl | (simp only [hC, List.length_append, List.length_cons, List.length_nil, List.append_nil, List.nil_append, List.cons_append, List.length_set, List.append_assoc, Nat.zero_add, List.length_replicate, esWorld_app, esWorld_cons, esWorld_nil, eWorld_eq, esWorldo_app, esWorldo_cons, esWorldo_nil, eWorldo_eq, esEntity_app, esEntity_cons, esEntity_nil, eEntity_eq, esEntityo_app, esEntityo_cons, esEntityo_nil, eEntityo_eq]; done) | (simp [hC, List.length_append, List.length_cons, List.length_nil, List.append_nil, List.nil_append, List.cons_append, List.length_set, List.append_assoc, Nat.zero_add, List.length_replicate, esWorld_app, esWorld_cons, esWorld_nil, eWorld_eq, esWorldo_app, esWorldo_cons, esWorldo_nil, eWorldo_eq, esEntity_app, esEntity_cons, esEntity_nil, eEntity_eq, esEntityo_app, esEntityo_cons, esEntityo_nil, eEntityo_eq]; done) | omega))) : A := h hF hC
theorem p_impl_Despawn_sa {F C A : Prop} (hF : F) (hC : C) (h : F → C → A := by intro hF hC; first | exact ca_by hF | (refine sa_by hF ?_; (repeat' (first | exact trivial | apply And.intro)); all_goals (clear hF; first | rfl | (simp only [hC, List.length_append, List.length_cons, List.length_nil, List.append_nil, List.nil_append, List.cons_append, List.length_set, List.append_assoc, Nat.zero_add, List.length_replicate, esWorld_app, esWorld_cons, esWorld_nil, eWorld_eq, esWorldo_app, esWorldo_cons, esWorldo_nil, eWorldo_eq, esEntity_app, esEntity_cons, esEntity_nil, eEntity_eq, esEntityo_app, esEntityo_cons, esEntityo_nil, eEntityo_eq]; done) | (simp [hC, List.length_append, List.length_cons, List.length_nil, List.append_nil, List.nil_append, List.cons_append, List.length_set, List.append_assoc, Nat.zero_add, List.length_replicate, esWorld_app, esWorld_cons, esWorld_nil, eWorld_eq, esWorldo_app, esWorldo_cons, esWorldo_nil, eWorldo_eq, esEntity_app, esEntity_cons, esEntity_nil, eEntity_eq, esEntityo_app, esEntityo_cons, esEntityo_nil, eEntityo_eq]; done) | omega))) : A := h hF hC
theorem p_impl_Despawn_rt {F C A : Prop} (hF : F) (hC : C) (h : F → C → A := by intro hF hC; first | (refine sr_by hF ?_; (repeat' (first | exact trivial | apply And.intro)); all_goals (clear hF; first | rfl | (simp only [hC, List.length_append, List.length_cons, List.length_nil, List.append_nil, List.nil_append, List.cons_append, List.length_set, List.append_assoc, Nat.zero_add, List.length_replicate, esWorld_app, esWorld_cons, esWorld_nil, eWorld_eq, esWorldo_app, esWorldo_cons, esWorldo_nil, eWorldo_eq, esEntity_app, esEntity_cons, esEntity_nil, eEntity_eq, esEntityo_app, esEntityo_cons, esEntityo_nil, eEntityo_eq]; done) | (simp [hC, List.length_append, List.length_cons, List.length_nil, List.append_nil, List.nil_append, List.cons_append, List.length_set, List.append_assoc, Nat.zero_add, List.length_replicate, esWorld_app, esWorld_cons, esWorld_nil, eWorld_eq, esWorldo_app, esWorldo_cons, esWorldo_nil, eWorldo_eq, esEntity_app, esEntity_cons, esEntity_nil, eEntity_eq, esEntityo_app, esEntityo_cons, esEntityo_nil, eEntityo_eq]; done) | omega)) | (first | rfl | (simp only [hC, List.length_append, List.length_cons, List.length_nil, List.append_nil, List.nil_append, List.cons_append, List.length_set, List.append_assoc, Nat.zero_add, List.length_replicate, esWorld_app, esWorld_cons, esWorld_nil, eWorld_eq, esWorldo_app, esWorldo_cons, esWorldo_nil, eWorldo_eq, esEntity_app, esEntity_cons, esEntity_nil, eEntity_eq, esEntityo_app, esEntityo_cons, esEntityo_nil, eEntityo_eq]; done) | (simp [hC, List.length_append, List.length_cons, List.length_nil, List.append_nil, List.nil_append, List.cons_append, List.length_set, List.append_assoc, Nat.zero_add, List.length_replicate, esWorld_app, esWorld_cons, esWorld_nil, eWorld_eq, esWorldo_app, esWorldo_cons, esWorldo_nil, eWorldo_eq, esEntity_app, esEntity_cons, esEntity_nil, eEntity_eq, esEntityo_app, esEntityo_cons, esEntityo_nil, eEntityo_eq]; done) | omega)) : A := h hF hC
def p_impl_Despawn_tf := PLift.up (And.intro @eWorld_eq (And.intro @esWorld_len (And.intro @esWorld_nil (And.intro @esWorld_leaf (And.intro @esWorld_fit (And.intro @eWorldo_eq (And.intro @esWorldo_len (And.intro @esWorldo_nil (And.intro @eEntity_eq (And.intro @esEntity_len (And.intro @esEntity_nil (And.intro @esEntity_leaf (And.intro @esEntity_fit (And.intro @eEntityo_eq (And.intro @esEntityo_len (And.intro @esEntityo_nil (And.intro @esWorldo_share (And.intro @esWorldo_pure (And.intro @esEntityo_share (And.intro @esEntityo_pure (And.intro @str_beq (And.intro @Ty.nz28 (And.intro @Ty.ldA28 (And.intro @Ty.sz28 (And.intro @Ty.szn28 (And.intro @Ty.nz26 (And.intro @Ty.ldA26 (And.intro @Ty.ldS26 (And.intro @Ty.sz26 (And.intro @Ty.szn26 (And.intro @Ty.fo28_2 (And.intro @Ty.fk28_2 (And.intro @Ty.fs28_2 (And.intro @Ty.fn28_2 (And.intro @Ty.zv28 (And.intro @Ty.bd28 (And.intro @Ty.ag28 @trivial)))))))))))))))))))))))))))))))))))))
def p_impl_Despawn (w_a0 : GWorld) (id_a1 : Int) : Option (GWorld × Int) := ((p_impl_GoodWorld w_a0).bind fun v1 => (if v1 = true then ((p_impl_World_clone w_a0).bind fun v3 => ((p_impl_World_place w_a0 id_a1).bind fun v4 => (if v4 < 0 then some ((⟨v3.Next, v3.Tick, v3.Entities⟩ : GWorld), 2) else ((delL v3.Entities v4 (IntKind.i64.wrap (v4 + 1))).bind fun v6 => some ((⟨v3.Next, v3.Tick, v6⟩ : GWorld), 0))))) else some ((⟨0, 0, ([] : List GEntity)⟩ : GWorld), 1)))
theorem p_impl_Despawn_does (w_a0 : GWorld) (id_a1 : Int) (r : GWorld × Int) (h : p_impl_Despawn w_a0 id_a1 = some r) : Does Try.prog 8 [.agg (eWorld w_a0), I id_a1] (.tup [.agg (eWorldo r.1), I r.2]) := by
  rw [p_impl_Despawn] at h
  refine Does.bnd (fun hb => ?_)
  have hb2 : w_a0.Entities.length ≤ 9223372036854775807 := by simpa [AV.fitNs, AV.fitN, eWorld] using hb
  have hl0 := hb2
  refine Does.walk (nt := 28) Try.func8 rfl rfl (by simp) (by decide) rfl (fun G0 X w0 pv => ?_)
  obtain ⟨v1, ev1, h⟩ := Option.bind_eq_some_iff.1 h
  try dsimp only at h
  have ff := p_impl_Despawn_tf.down
  try refine st_by ff ?_
  repeat' (first | exact trivial | refine And.intro sd ?_)
  first
  | (refine cq_call (p_impl_GoodWorld_does w_a0 v1 ev1) (hf_by ff) kr ⟨p_impl_Despawn_sa ff trivial, ?_⟩; clear ff)
  | (refine cq_dcall (p_impl_GoodWorld_does w_a0 v1 ev1) (hf_by ff) kr ⟨p_impl_Despawn_sa ff trivial, ?_⟩; clear ff)
  by_cases c2 : v1 = true
  case neg =>
   rw [if_neg c2] at h
   have dc2 := eq_false_of_ne_true c2
   have ff := And.intro @dc2 p_impl_Despawn_tf.down
   try refine st_by ff ?_
   repeat' (first | exact trivial | refine And.intro sd ?_)
   cases h
   exact ret_q2 rfl (p_impl_Despawn_rt ff trivial)
  rw [if_pos c2] at h
  have dc2 := c2
  obtain ⟨v3, ev3, h⟩ := Option.bind_eq_some_iff.1 h
  try dsimp only at h
  have ff := And.intro @dc2 p_impl_Despawn_tf.down
  try refine st_by ff ?_
  repeat' (first | exact trivial | refine And.intro sd ?_ | (refine aw_drawn (id := 3) ?_ [[], [0], [], [], [0, 1, 2, 3], [], [0, 1, 2, 3, 4, 5], [0, 1, 2, 3, 4, 5, 6]] 6 ?_ ?_; (· kernel_rfl); (· kernel_rfl); refine st_by ff ?_))
  first
  | (refine cq_own (p_impl_World_clone_does w_a0 v3 ev3) (hf_by ff) kr ⟨p_impl_Despawn_sa ff trivial, ?_⟩; clear ff)
  | (refine cq_down (p_impl_World_clone_does w_a0 v3 ev3) (hf_by ff) kr ⟨p_impl_Despawn_sa ff trivial, ?_⟩; clear ff)
  obtain ⟨v4, ev4, h⟩ := Option.bind_eq_some_iff.1 h
  try dsimp only at h
  have ff := And.intro @dc2 p_impl_Despawn_tf.down
  try refine st_by ff ?_
  repeat' (first | exact trivial | refine And.intro sd ?_)
  first
  | (refine cq_call (p_impl_World_place_does w_a0 id_a1 v4 ev4) (hf_by ff) kr ⟨p_impl_Despawn_sa ff trivial, ?_⟩; clear ff)
  | (refine cq_dcall (p_impl_World_place_does w_a0 id_a1 v4 ev4) (hf_by ff) kr ⟨p_impl_Despawn_sa ff trivial, ?_⟩; clear ff)
  by_cases c5 : v4 < 0
  · rw [if_pos c5] at h
    have dc5 := decide_eq_true c5
    have ff := And.intro @dc2 (And.intro @dc5 p_impl_Despawn_tf.down)
    try refine st_by ff ?_
    repeat' (first | exact trivial | refine And.intro sd ?_)
    cases h
    exact ret_q2 rfl (p_impl_Despawn_rt ff trivial)
  rw [if_neg c5] at h
  have dc5 := decide_eq_false c5
  obtain ⟨v6, ev6, h⟩ := Option.bind_eq_some_iff.1 h
  try dsimp only at h
  have ff := And.intro @dc2 (And.intro @dc5 p_impl_Despawn_tf.down)
  try refine st_by ff ?_
  repeat' (first | exact trivial | refine And.intro sd ?_)
  (refine cq_X [(6, [2])] (delEntity_does v3.Entities v4 (IntKind.i64.wrap (v4 + 1)) v6 ev6) (hf_by ff) kr (by first | decide | simp) ⟨p_impl_Despawn_sa ff trivial, ?_⟩; clear ff)
  have ff := And.intro @dc2 (And.intro @dc5 (And.intro @isPre0 (And.intro @isPre1 (And.intro @isPre2 p_impl_Despawn_tf.down))))
  try refine st_by ff ?_
  repeat' (first | exact trivial | refine And.intro sd ?_)
  cases h
  exact ret_q2 rfl (p_impl_Despawn_rt ff trivial)
end Go.Av
