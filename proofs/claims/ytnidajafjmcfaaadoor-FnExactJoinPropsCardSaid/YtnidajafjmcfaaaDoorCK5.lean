/- spec.l1PutText -/
import Derived.Test.YtnidajafjmcfaaaDoorCK4
import Derived.Test.YtnidajafjmcfaaaDoorCK3
section
set_option linter.unusedSimpArgs false
set_option linter.unusedVariables false
set_option maxRecDepth 100000
set_option maxHeartbeats 1000000
namespace Go.Av
open Go.Proofs
/-! spec.l1PutText -/
def p_spec_l1PutText_l0 (l_a0 : List ByteArray) (s_a1 : ByteArray) : Nat → Int → Option (Int)
  | 0, _ => none
  | n_0 + 1, k_5 => (if k_5 < (l_a0.length : Int) then ((idx l_a0 k_5).bind fun x11 => (if (Op.bytesLess x11.toList s_a1.toList) = true then p_spec_l1PutText_l0 l_a0 s_a1 n_0 (IntKind.i64.wrap (k_5 + 1)) else some k_5)) else some k_5)
def p_spec_l1PutText_j0 (l_a0 : List ByteArray) (s_a1 : ByteArray) (k_5 : Int) (b_14 : Bool) : Option (List ByteArray) := (if b_14 = true then some l_a0 else ((slc l_a0 0 k_5).bind fun m16 => (if m16.length < 4294967296 then ((slc l_a0 k_5 (l_a0.length : Int)).bind fun m21 => (if (m16 ++ [s_a1]).length < 4294967296 then (if m21.length < 4294967296 then some ((m16 ++ [s_a1]) ++ m21) else none) else none)) else none)))
theorem p_spec_l1PutText_pv {F C A : Prop} (hF : F) (hC : C) (h : F → C → A := by intro hF hC; first | exact cl_by hF | (refine st_by hF ?_; (repeat' (first | exact trivial | apply And.intro)); all_goals (clear hF; first | rfl | (simp only [hC, List.length_append, List.length_cons, List.length_nil, List.append_nil, List.nil_append, List.cons_append, List.length_set, List.append_assoc, Nat.zero_add, List.length_replicate, esStr_app, esStr_cons, esStr_nil, eStr_eq]; done) | (simp [hC, List.length_append, List.length_cons, List.length_nil, List.append_nil, List.nil_append, List.cons_append, List.length_set, List.append_assoc, Nat.zero_add, List.length_replicate, esStr_app, esStr_cons, esStr_nil, eStr_eq]; done) | omega))) : A := h hF hC
theorem p_spec_l1PutText_rt {F C A : Prop} (hF : F) (hC : C) (h : F → C → A := by intro hF hC; first | (refine sr_by hF ?_; (repeat' (first | exact trivial | apply And.intro)); all_goals (clear hF; first | rfl | (simp only [hC, List.length_append, List.length_cons, List.length_nil, List.append_nil, List.nil_append, List.cons_append, List.length_set, List.append_assoc, Nat.zero_add, List.length_replicate, esStr_app, esStr_cons, esStr_nil, eStr_eq]; done) | (simp [hC, List.length_append, List.length_cons, List.length_nil, List.append_nil, List.nil_append, List.cons_append, List.length_set, List.append_assoc, Nat.zero_add, List.length_replicate, esStr_app, esStr_cons, esStr_nil, eStr_eq]; done) | omega)) | (first | rfl | (simp only [hC, List.length_append, List.length_cons, List.length_nil, List.append_nil, List.nil_append, List.cons_append, List.length_set, List.append_assoc, Nat.zero_add, List.length_replicate, esStr_app, esStr_cons, esStr_nil, eStr_eq]; done) | (simp [hC, List.length_append, List.length_cons, List.length_nil, List.append_nil, List.nil_append, List.cons_append, List.length_set, List.append_assoc, Nat.zero_add, List.length_replicate, esStr_app, esStr_cons, esStr_nil, eStr_eq]; done) | omega)) : A := h hF hC
def p_spec_l1PutText_tf := PLift.up (ai @eStr_eq (ai @esStr_len (ai @esStr_nil (ai @esStr_leaf (ai @esStr_fit (ai @esStr_share (ai @esStr_pure (ai @str_beq (ai @Ty.sl39 (ai @Ty.slz39 (ai @Ty.nz9 (ai @Ty.ldA9 (ai @Ty.ldS9 (ai @Ty.sz9 (ai @Ty.szn9 (ai @Ty.nze39 (ai @Ty.zok39 (ai @Ty.by39 (ai @Ty.zs39 @trivial)))))))))))))))))))
def p_spec_l1PutText (N : Nat) (l_a0 : List ByteArray) (s_a1 : ByteArray) : Option (List ByteArray) := ((p_spec_l1PutText_l0 l_a0 s_a1 N 0).bind fun q_0 => match q_0 with | k_5 => (if k_5 < (l_a0.length : Int) then ((idx l_a0 k_5).bind fun x27 => p_spec_l1PutText_j0 l_a0 s_a1 k_5 (decide (x27 = s_a1))) else p_spec_l1PutText_j0 l_a0 s_a1 k_5 false))
theorem p_spec_l1PutText_does (N : Nat) (l_a0 : List ByteArray) (s_a1 : ByteArray) (r : List ByteArray) (h : p_spec_l1PutText N l_a0 s_a1 = some r) : DoesX Tryd.prog 41 [.sl 1000 [] 0 l_a0.length, S s_a1] [.row true 1 l_a0.length (esStr l_a0)] (.row true 1 r.length (esStr r)) [.junk] := by
  rw [p_spec_l1PutText] at h
  refine DoesX.walk (nt := 48) Tryd.func41 rfl rfl (by simp) (by decide) rfl (fun G0 X w0 pv => ?_)
  obtain ⟨q_0, eq_0, h⟩ := Option.bind_eq_some_iff.1 h
  have ff := p_spec_l1PutText_tf.down
  try refine st_by ff ?_
  repeat' (first | exact trivial | refine And.intro sd ?_)
  obtain ⟨I_0, hI_0⟩ : ∃ I_ : (Nat × Int) → ASt → Prop, I_ = (fun (a : Nat × Int) σ => match a with | (n_0, k_5) => (p_spec_l1PutText_l0 l_a0 s_a1 n_0 k_5 = some q_0) ∧ σ.t 0 = .sl 1000 [] 0 l_a0.length ∧ σ.t 1 = S s_a1 ∧ σ.t 5 = I k_5 ∧ σ.m 1000 = some (.row true 1 l_a0.length (esStr l_a0))) := ⟨_, rfl⟩
  obtain ⟨M_0, hM_0⟩ : ∃ M_ : (Nat × Int) → Nat, M_ = (fun (a : Nat × Int) => match a with | (n_0, k_5) => n_0) := ⟨_, rfl⟩
  obtain ⟨J_0, hJ_0⟩ : ∃ J_ : ASt → Prop, J_ = (fun σ => ∃ k_5 : Int, (some k_5 = some q_0) ∧ σ.t 0 = .sl 1000 [] 0 l_a0.length ∧ σ.t 1 = S s_a1 ∧ σ.t 5 = I k_5 ∧ σ.m 1000 = some (.row true 1 l_a0.length (esStr l_a0))) := ⟨_, rfl⟩
  refine aw_loopC (id := 0) I_0 M_0 J_0 (N, 0) ?_ ?_ ?_
  · rw [hI_0]
    refine ⟨eq_0, ?_⟩
    exact p_spec_l1PutText_pv ff trivial
  · try clear ff
    rintro ⟨n_0, k_5⟩ σ hg_0
    rw [hI_0] at hg_0
    obtain ⟨h_0, g0_0, g1_0, g2_0, g3_0⟩ := hg_0
    cases n_0 with
    | zero => rw [p_spec_l1PutText_l0] at h_0; cases h_0
    | succ n_0 =>
      rw [p_spec_l1PutText_l0] at h_0
      by_cases c10 : k_5 < (l_a0.length : Int)
      case neg =>
       rw [if_neg c10] at h_0
       have dc10 := decide_eq_false c10
       have ff := ai @g0_0 (ai @g1_0 (ai @g2_0 (ai @g3_0 (ai @dc10 p_spec_l1PutText_tf.down))))
       try refine st_by ff ?_
       repeat' (first | exact trivial | refine And.intro sd ?_)
       refine JW.intro ?_
       rw [hJ_0]
       refine ⟨k_5, h_0, ?_⟩
       exact p_spec_l1PutText_pv ff trivial
      rw [if_pos c10] at h_0
      have dc10 := decide_eq_true c10
      obtain ⟨x11, ex11, h_0⟩ := Option.bind_eq_some_iff.1 h_0
      try dsimp only at h_0
      have f12a := idx_lo ex11
      have f12b := idx_hi ex11
      have f12c : (esStr l_a0).drop (k_5.toNat * 1) = eStr x11 ++ esStr (l_a0.drop (k_5.toNat + 1)) := drop_enc (fun _ => rfl) (idx_get ex11)
      have f12d := f12c
      rw [Nat.mul_one] at f12d
      have f12g0 : (esStr l_a0).getD (k_5.toNat * 1) .junk = (eStr x11).getD 0 .junk := getD_enc0 (enc := eStr) (sz := 1) (fun _ => rfl) (idx_get ex11) (by decide)
      rw [Nat.mul_one] at f12g0
      by_cases c13 : (Op.bytesLess x11.toList s_a1.toList) = true
      case neg =>
       rw [if_neg c13] at h_0
       have dc13 := eq_false_of_ne_true c13
       have ff := ai @g0_0 (ai @g1_0 (ai @g2_0 (ai @g3_0 (ai @dc10 (ai @f12c (ai @f12d (ai @f12g0 (ai @dc13 p_spec_l1PutText_tf.down))))))))
       try refine st_by ff ?_
       repeat' (first | exact trivial | refine And.intro sd ?_)
       refine JW.intro ?_
       rw [hJ_0]
       refine ⟨k_5, h_0, ?_⟩
       exact p_spec_l1PutText_pv ff trivial
      rw [if_pos c13] at h_0
      have dc13 := c13
      have ff := ai @g0_0 (ai @g1_0 (ai @g2_0 (ai @g3_0 (ai @dc10 (ai @f12c (ai @f12d (ai @f12g0 (ai @dc13 p_spec_l1PutText_tf.down))))))))
      try refine st_by ff ?_
      repeat' (first | exact trivial | refine And.intro sd ?_)
      refine Back.intro (n_0, (IntKind.i64.wrap (k_5 + 1))) ?_ ?_
      · rw [hM_0]; exact Nat.lt_succ_self _
      rw [hI_0]
      refine ⟨h_0, ?_⟩
      exact p_spec_l1PutText_pv ff trivial
  · try clear ff
    rintro σ hg_0
    rw [hJ_0] at hg_0
    obtain ⟨k_5, hj_0, g0_0a, g1_0a, g2_0a, g3_0a⟩ := hg_0
    have hjj_0 := Option.some.inj hj_0
    subst hjj_0
    try dsimp only at h
    have ff := ai @g0_0a (ai @g1_0a (ai @g2_0a (ai @g3_0a p_spec_l1PutText_tf.down)))
    try refine st_by ff ?_
    repeat' (first | exact trivial | refine And.intro sd ?_)
    try clear ff
    generalize hk_0 : thenK _ _ = kk_0
    have key_0 : ∀ σ, (∃ b_14 : Bool, (p_spec_l1PutText_j0 l_a0 s_a1 k_5 b_14 = some r) ∧ σ.t 0 = .sl 1000 [] 0 l_a0.length ∧ σ.t 1 = S s_a1 ∧ σ.t 5 = I k_5 ∧ σ.t 32 = B b_14 ∧ σ.m 1000 = some (.row true 1 l_a0.length (esStr l_a0))) → kk_0 .nm σ := by
      rintro σ ⟨b_14, h, g0_j0, g1_j0, g2_j0, g3_j0, g4_j0⟩
      rw [← hk_0]
      rw [p_spec_l1PutText_j0] at h
      by_cases c15 : b_14 = true
      · rw [if_pos c15] at h
        have dc15 := c15
        have ff := ai @g0_j0 (ai @g1_j0 (ai @g2_j0 (ai @g3_j0 (ai @g4_j0 (ai @dc15 p_spec_l1PutText_tf.down)))))
        try refine st_by ff ?_
        repeat' (first | exact trivial | refine And.intro sd ?_)
        cases h
        exact retX_p1 rfl (p_spec_l1PutText_rt ff trivial)
      rw [if_neg c15] at h
      have dc15 := eq_false_of_ne_true c15
      obtain ⟨m16, em16, h⟩ := Option.bind_eq_some_iff.1 h
      try dsimp only at h
      obtain ⟨f17a, f17b⟩ := slc_ok em16
      have f17d : k_5.toNat = m16.length := slc_lenL em16
      have f17c : (esStr l_a0).take (m16.length * 1) = esStr m16 := slc_encML (enc := eStr) (fun _ => rfl) em16
      rw [Nat.mul_one] at f17c
      have f17e : (if m16.length = l_a0.length then esStr l_a0 else esStr m16) = esStr m16 := by have t_ := slc_iteL (enc := eStr) em16; rw [f17d] at t_; exact t_
      by_cases c18 : m16.length < 4294967296
      case neg => rw [if_neg c18] at h; cases h
      rw [if_pos c18] at h
      have a20a : esStr m16 ++ [S s_a1] = esStr (m16 ++ [s_a1]) := by simp [esStr_app, esStr_cons, esStr_nil, eStr_eq, esStr_nil]
      have a20b : m16.length + 1 = (m16 ++ [s_a1]).length := by simp
      obtain ⟨m21, em21, h⟩ := Option.bind_eq_some_iff.1 h
      try dsimp only at h
      obtain ⟨f22a, f22b⟩ := slc_ok em21
      have f22c : ((esStr l_a0).drop (k_5.toNat * 1)).take ((l_a0.length - k_5.toNat) * 1) = esStr m21 := slc_encH (enc := eStr) (fun _ => rfl) em21
      have f22d : m21.length = l_a0.length - k_5.toNat := (slc_lenH em21).symm
      have f22e : (if (k_5.toNat = 0 ∧ l_a0.length - k_5.toNat = l_a0.length) then esStr l_a0 else esStr m21) = esStr m21 := slc_ite (enc := eStr) (sz := 1) (fun _ => rfl) em21
      rw [f17d] at f22c
      rw [f17d] at f22d
      rw [f17d] at f22e
      rw [Nat.mul_one, Nat.mul_one] at f22c
      by_cases c23 : (m16 ++ [s_a1]).length < 4294967296
      case neg => rw [if_neg c23] at h; cases h
      rw [if_pos c23] at h
      by_cases c24 : m21.length < 4294967296
      case neg => rw [if_neg c24] at h; cases h
      rw [if_pos c24] at h
      have a25a : esStr (m16 ++ [s_a1]) ++ esStr m21 = esStr ((m16 ++ [s_a1]) ++ m21) := (esStr_app _ _).symm
      have a25b : (m16 ++ [s_a1]).length + (l_a0.length - m16.length) = ((m16 ++ [s_a1]) ++ m21).length := by have h2_ := slc_lenH em21; simp only [List.length_append]; omega
      have ff := ai @g0_j0 (ai @g1_j0 (ai @g2_j0 (ai @g3_j0 (ai @g4_j0 (ai @dc15 (ai @f17c (ai @f17d (ai @f17e (ai @a20a (ai @a20b (ai @f22c (ai @f22e (ai @a25a (ai @a25b p_spec_l1PutText_tf.down))))))))))))))
      try refine st_by ff ?_
      repeat' (first | exact trivial | refine And.intro sd ?_)
      cases h
      exact RetX.dropR (retX_p1 rfl (p_spec_l1PutText_rt ff @f22d))
    have hrt_0 := fun σ : ASt => congrFun (congrFun hk_0.symm AX.rt) σ
    have hex_0 := fun (i : Nat) (σ : ASt) => congrFun (congrFun hk_0.symm (AX.ex i)) σ
    by_cases c26 : k_5 < (l_a0.length : Int)
    case neg =>
     rw [if_neg c26] at h
     have dc26 := decide_eq_false c26
     have ff := ai @g0_0a (ai @g1_0a (ai @g2_0a (ai @g3_0a (ai @hrt_0 (ai @hex_0 (ai @dc26 p_spec_l1PutText_tf.down))))))
     try refine st_by ff ?_
     repeat' (first | exact trivial | refine And.intro sd ?_)
     refine key_0 _ ?_
     refine ⟨false, h, ?_⟩
     exact p_spec_l1PutText_pv ff trivial
    rw [if_pos c26] at h
    have dc26 := decide_eq_true c26
    obtain ⟨x27, ex27, h⟩ := Option.bind_eq_some_iff.1 h
    try dsimp only at h
    have f28a := idx_lo ex27
    have f28b := idx_hi ex27
    have f28c : (esStr l_a0).drop (k_5.toNat * 1) = eStr x27 ++ esStr (l_a0.drop (k_5.toNat + 1)) := drop_enc (fun _ => rfl) (idx_get ex27)
    have f28d := f28c
    rw [Nat.mul_one] at f28d
    have f28g0 : (esStr l_a0).getD (k_5.toNat * 1) .junk = (eStr x27).getD 0 .junk := getD_enc0 (enc := eStr) (sz := 1) (fun _ => rfl) (idx_get ex27) (by decide)
    rw [Nat.mul_one] at f28g0
    have ff := ai @g0_0a (ai @g1_0a (ai @g2_0a (ai @g3_0a (ai @hrt_0 (ai @hex_0 (ai @dc26 (ai @f28c (ai @f28d (ai @f28g0 p_spec_l1PutText_tf.down)))))))))
    try refine st_by ff ?_
    repeat' (first | exact trivial | refine And.intro sd ?_)
    refine key_0 _ ?_
    refine ⟨decide (x27 = s_a1), h, ?_⟩
    exact p_spec_l1PutText_pv ff trivial
/-! spec.JoinProps -/
def p_spec_JoinProps_l1 (N : Nat)  : List GProp → Nat → (List ByteArray) → Option ((List ByteArray))
  | [], i_1, paths_42 => some paths_42
  | x_1 :: r_1, i_1, paths_42 => ((p_spec_l1PutText N paths_42 x_1.Path).bind fun v47 => p_spec_JoinProps_l1 N r_1 (i_1 + 1) v47)
def p_spec_JoinProps_l0 (N : Nat)  : List (List GProp) → Nat → (List ByteArray) → Option ((List ByteArray))
  | [], i_0, paths_20 => some paths_20
  | x_0 :: r_0, i_0, paths_20 => (if x_0.length ≤ 9223372036854775807 then ((p_spec_JoinProps_l1 N x_0 0 paths_20).bind fun q_1 => match q_1 with | paths_42 => p_spec_JoinProps_l0 N r_0 (i_0 + 1) paths_42) else none)
def p_spec_JoinProps_j3 (out_70 : List GProp) (out_71 : List ByteArray) (x_2 : ByteArray) (i_2 : Nat) (v103 : ByteArray × Bool) (v104 : ByteArray × Bool) (v105 : ByteArray × Bool) (we_106 : Bool) (they_107 : Bool) (rec_0 : Nat → (List GProp) → (List ByteArray) → Option ((List GProp) × (List ByteArray))) (b_108 : Bool) : Option ((List GProp) × (List ByteArray)) := (if b_108 = true then (if out_71.length < 4294967296 then (if v103.2 = true then (if out_70.length < 4294967296 then rec_0 (i_2 + 1) (out_70 ++ [(⟨x_2, v103.1⟩ : GProp)]) (out_71 ++ [x_2]) else none) else rec_0 (i_2 + 1) out_70 (out_71 ++ [x_2])) else none) else (if we_106 = true then (if v104.2 = true then (if out_70.length < 4294967296 then rec_0 (i_2 + 1) (out_70 ++ [(⟨x_2, v104.1⟩ : GProp)]) out_71 else none) else rec_0 (i_2 + 1) out_70 out_71) else (if they_107 = true then (if v105.2 = true then (if out_70.length < 4294967296 then rec_0 (i_2 + 1) (out_70 ++ [(⟨x_2, v105.1⟩ : GProp)]) out_71 else none) else rec_0 (i_2 + 1) out_70 out_71) else (if v103.2 = true then (if out_70.length < 4294967296 then rec_0 (i_2 + 1) (out_70 ++ [(⟨x_2, v103.1⟩ : GProp)]) out_71 else none) else rec_0 (i_2 + 1) out_70 out_71))))
def p_spec_JoinProps_j2 (out_70 : List GProp) (out_71 : List ByteArray) (x_2 : ByteArray) (i_2 : Nat) (v103 : ByteArray × Bool) (v104 : ByteArray × Bool) (v105 : ByteArray × Bool) (we_106 : Bool) (rec_0 : Nat → (List GProp) → (List ByteArray) → Option ((List GProp) × (List ByteArray))) (they_107 : Bool) : Option ((List GProp) × (List ByteArray)) := (if we_106 = true then (if they_107 = true then (if (v104.2 == v105.2) = true then p_spec_JoinProps_j3 out_70 out_71 x_2 i_2 v103 v104 v105 we_106 they_107 (rec_0) (!(decide (v104.1 = v105.1))) else p_spec_JoinProps_j3 out_70 out_71 x_2 i_2 v103 v104 v105 we_106 they_107 (rec_0) true) else p_spec_JoinProps_j3 out_70 out_71 x_2 i_2 v103 v104 v105 we_106 they_107 (rec_0) false) else p_spec_JoinProps_j3 out_70 out_71 x_2 i_2 v103 v104 v105 we_106 they_107 (rec_0) false)
def p_spec_JoinProps_j1 (out_70 : List GProp) (out_71 : List ByteArray) (x_2 : ByteArray) (i_2 : Nat) (v103 : ByteArray × Bool) (v104 : ByteArray × Bool) (v105 : ByteArray × Bool) (rec_0 : Nat → (List GProp) → (List ByteArray) → Option ((List GProp) × (List ByteArray))) (we_106 : Bool) : Option ((List GProp) × (List ByteArray)) := (if (v105.2 == v103.2) = true then p_spec_JoinProps_j2 out_70 out_71 x_2 i_2 v103 v104 v105 we_106 (rec_0) (!(decide (v105.1 = v103.1))) else p_spec_JoinProps_j2 out_70 out_71 x_2 i_2 v103 v104 v105 we_106 (rec_0) true)
def p_spec_JoinProps_l2 (base_a0 : List GProp) (ours_a1 : List GProp) (theirs_a2 : List GProp) : List ByteArray → Nat → (List GProp) → (List ByteArray) → Option ((List GProp) × (List ByteArray))
  | [], i_2, out_70, out_71 => some (out_70, out_71)
  | x_2 :: r_2, i_2, out_70, out_71 => ((p_spec_l26Find base_a0 x_2).bind fun v103 => ((p_spec_l26Find ours_a1 x_2).bind fun v104 => ((p_spec_l26Find theirs_a2 x_2).bind fun v105 => (if (v104.2 == v103.2) = true then p_spec_JoinProps_j1 out_70 out_71 x_2 i_2 v103 v104 v105 (p_spec_JoinProps_l2 base_a0 ours_a1 theirs_a2 r_2) (!(decide (v104.1 = v103.1))) else p_spec_JoinProps_j1 out_70 out_71 x_2 i_2 v103 v104 v105 (p_spec_JoinProps_l2 base_a0 ours_a1 theirs_a2 r_2) true))))
def p_spec_JoinProps_j0 (N : Nat) (base_a0 : List GProp) (ours_a1 : List GProp) (theirs_a2 : List GProp) (b_2 : Bool) : Option (GJoined × Bool) := (if b_2 = true then some ((⟨([] : List GProp), ([] : List ByteArray)⟩ : GJoined), false) else ((p_spec_JoinProps_l0 N ([base_a0, ours_a1, theirs_a2] : List (List GProp)) 0 ([] : List ByteArray)).bind fun q_0 => match q_0 with | paths_20 => ((p_spec_JoinProps_l2 base_a0 ours_a1 theirs_a2 paths_20 0 ([] : List GProp) ([] : List ByteArray)).bind fun q_2 => match q_2 with | (out_70, out_71) => (if (out_70.length : Int) > 40 then some ((⟨([] : List GProp), ([] : List ByteArray)⟩ : GJoined), false) else some ((⟨out_70, out_71⟩ : GJoined), true)))))
theorem p_spec_JoinProps_pv {F C A : Prop} (hF : F) (hC : C) (h : F → C → A := by intro hF hC; first | exact cl_by hF | (refine st_by hF ?_; (repeat' (first | exact trivial | apply And.intro)); all_goals (clear hF; first | rfl | (simp only [hC, List.length_append, List.length_cons, List.length_nil, List.append_nil, List.nil_append, List.cons_append, List.length_set, List.append_assoc, Nat.zero_add, List.length_replicate, esStr_app, esStr_cons, esStr_nil, eStr_eq, esLProp_app, esLProp_cons, esLProp_nil, eLProp_eq, esLPropo_app, esLPropo_cons, esLPropo_nil, eLPropo_eq, esJoined_app, esJoined_cons, esJoined_nil, eJoined_eq, esJoinedo_app, esJoinedo_cons, esJoinedo_nil, eJoinedo_eq, esProp_app, esProp_cons, esProp_nil, eProp_eq]; done) | (simp [hC, List.length_append, List.length_cons, List.length_nil, List.append_nil, List.nil_append, List.cons_append, List.length_set, List.append_assoc, Nat.zero_add, List.length_replicate, esStr_app, esStr_cons, esStr_nil, eStr_eq, esLProp_app, esLProp_cons, esLProp_nil, eLProp_eq, esLPropo_app, esLPropo_cons, esLPropo_nil, eLPropo_eq, esJoined_app, esJoined_cons, esJoined_nil, eJoined_eq, esJoinedo_app, esJoinedo_cons, esJoinedo_nil, eJoinedo_eq, esProp_app, esProp_cons, esProp_nil, eProp_eq]; done) | omega))) : A := h hF hC
theorem p_spec_JoinProps_sa {F C A : Prop} (hF : F) (hC : C) (h : F → C → A := by intro hF hC; first | exact ca_by hF | (refine sa_by hF ?_; (repeat' (first | exact trivial | apply And.intro)); all_goals (clear hF; first | rfl | (simp only [hC, List.length_append, List.length_cons, List.length_nil, List.append_nil, List.nil_append, List.cons_append, List.length_set, List.append_assoc, Nat.zero_add, List.length_replicate, esStr_app, esStr_cons, esStr_nil, eStr_eq, esLProp_app, esLProp_cons, esLProp_nil, eLProp_eq, esLPropo_app, esLPropo_cons, esLPropo_nil, eLPropo_eq, esJoined_app, esJoined_cons, esJoined_nil, eJoined_eq, esJoinedo_app, esJoinedo_cons, esJoinedo_nil, eJoinedo_eq, esProp_app, esProp_cons, esProp_nil, eProp_eq]; done) | (simp [hC, List.length_append, List.length_cons, List.length_nil, List.append_nil, List.nil_append, List.cons_append, List.length_set, List.append_assoc, Nat.zero_add, List.length_replicate, esStr_app, esStr_cons, esStr_nil, eStr_eq, esLProp_app, esLProp_cons, esLProp_nil, eLProp_eq, esLPropo_app, esLPropo_cons, esLPropo_nil, eLPropo_eq, esJoined_app, esJoined_cons, esJoined_nil, eJoined_eq, esJoinedo_app, esJoinedo_cons, esJoinedo_nil, eJoinedo_eq, esProp_app, esProp_cons, esProp_nil, eProp_eq]; done) | omega))) : A := h hF hC
theorem p_spec_JoinProps_rt {F C A : Prop} (hF : F) (hC : C) (h : F → C → A := by intro hF hC; first | (refine sr_by hF ?_; (repeat' (first | exact trivial | apply And.intro)); all_goals (clear hF; first | rfl | (simp only [hC, List.length_append, List.length_cons, List.length_nil, List.append_nil, List.nil_append, List.cons_append, List.length_set, List.append_assoc, Nat.zero_add, List.length_replicate, esStr_app, esStr_cons, esStr_nil, eStr_eq, esLProp_app, esLProp_cons, esLProp_nil, eLProp_eq, esLPropo_app, esLPropo_cons, esLPropo_nil, eLPropo_eq, esJoined_app, esJoined_cons, esJoined_nil, eJoined_eq, esJoinedo_app, esJoinedo_cons, esJoinedo_nil, eJoinedo_eq, esProp_app, esProp_cons, esProp_nil, eProp_eq]; done) | (simp [hC, List.length_append, List.length_cons, List.length_nil, List.append_nil, List.nil_append, List.cons_append, List.length_set, List.append_assoc, Nat.zero_add, List.length_replicate, esStr_app, esStr_cons, esStr_nil, eStr_eq, esLProp_app, esLProp_cons, esLProp_nil, eLProp_eq, esLPropo_app, esLPropo_cons, esLPropo_nil, eLPropo_eq, esJoined_app, esJoined_cons, esJoined_nil, eJoined_eq, esJoinedo_app, esJoinedo_cons, esJoinedo_nil, eJoinedo_eq, esProp_app, esProp_cons, esProp_nil, eProp_eq]; done) | omega)) | (first | rfl | (simp only [hC, List.length_append, List.length_cons, List.length_nil, List.append_nil, List.nil_append, List.cons_append, List.length_set, List.append_assoc, Nat.zero_add, List.length_replicate, esStr_app, esStr_cons, esStr_nil, eStr_eq, esLProp_app, esLProp_cons, esLProp_nil, eLProp_eq, esLPropo_app, esLPropo_cons, esLPropo_nil, eLPropo_eq, esJoined_app, esJoined_cons, esJoined_nil, eJoined_eq, esJoinedo_app, esJoinedo_cons, esJoinedo_nil, eJoinedo_eq, esProp_app, esProp_cons, esProp_nil, eProp_eq]; done) | (simp [hC, List.length_append, List.length_cons, List.length_nil, List.append_nil, List.nil_append, List.cons_append, List.length_set, List.append_assoc, Nat.zero_add, List.length_replicate, esStr_app, esStr_cons, esStr_nil, eStr_eq, esLProp_app, esLProp_cons, esLProp_nil, eLProp_eq, esLPropo_app, esLPropo_cons, esLPropo_nil, eLPropo_eq, esJoined_app, esJoined_cons, esJoined_nil, eJoined_eq, esJoinedo_app, esJoinedo_cons, esJoinedo_nil, eJoinedo_eq, esProp_app, esProp_cons, esProp_nil, eProp_eq]; done) | omega)) : A := h hF hC
def p_spec_JoinProps_tf := PLift.up (ai @eStr_eq (ai @esStr_len (ai @esStr_nil (ai @esStr_leaf (ai @esStr_fit (ai @eLProp_eq (ai @esLProp_len (ai @esLProp_nil (ai @esLProp_leaf (ai @esLProp_fit (ai @eLPropo_eq (ai @esLPropo_len (ai @esLPropo_nil (ai @eJoined_eq (ai @esJoined_len (ai @esJoined_nil (ai @esJoined_leaf (ai @esJoined_fit (ai @eJoinedo_eq (ai @esJoinedo_len (ai @esJoinedo_nil (ai @eProp_eq (ai @esProp_len (ai @esProp_nil (ai @esProp_leaf (ai @esProp_fit (ai @esStr_share (ai @esStr_pure (ai @esLPropo_share (ai @esLPropo_pure (ai @esLProp_share (ai @esJoinedo_share (ai @esJoinedo_pure (ai @esJoined_share (ai @esProp_share (ai @esProp_pure (ai @str_beq (ai @Ty.sl68 (ai @Ty.slz68 (ai @Ty.sl24 (ai @Ty.slz24 (ai @Ty.sl39 (ai @Ty.slz39 (ai @Ty.nz41 (ai @Ty.ldA41 (ai @Ty.sz41 (ai @Ty.szn41 (ai @Ty.nz24 (ai @Ty.ldA24 (ai @Ty.ldS24 (ai @Ty.sz24 (ai @Ty.szn24 (ai @Ty.nz59 (ai @Ty.ldA59 (ai @Ty.sz59 (ai @Ty.szn59 (ai @Ty.nz9 (ai @Ty.ldA9 (ai @Ty.ldS9 (ai @Ty.sz9 (ai @Ty.szn9 (ai @Ty.nz39 (ai @Ty.ldA39 (ai @Ty.ldS39 (ai @Ty.sz39 (ai @Ty.szn39 (ai @Ty.fo59_0 (ai @Ty.fk59_0 (ai @Ty.fs59_0 (ai @Ty.fn59_0 (ai @Ty.fo41_1 (ai @Ty.fk41_1 (ai @Ty.fs41_1 (ai @Ty.fn41_1 (ai @Ty.fo41_0 (ai @Ty.fk41_0 (ai @Ty.fs41_0 (ai @Ty.fn41_0 (ai @Ty.nze68 (ai @Ty.zok68 (ai @Ty.by68 (ai @Ty.zs68 (ai @Ty.nze39 (ai @Ty.zok39 (ai @Ty.by39 (ai @Ty.zs39 (ai @Ty.nze24 (ai @Ty.zok24 (ai @Ty.by24 (ai @Ty.zs24 (ai @Ty.bl4 (ai @Ty.zv41 (ai @Ty.zv59 (ai @Ty.bd41 (ai @Ty.bd59 (ai @Ty.pl59_0 (ai @Ty.pl59_1 (ai @Ty.ag41 @trivial))))))))))))))))))))))))))))))))))))))))))))))))))))))))))))))))))))))))))))))))))))))))))))))))))
def p_spec_JoinProps (N : Nat) (base_a0 : List GProp) (ours_a1 : List GProp) (theirs_a2 : List GProp) : Option (GJoined × Bool) := ((p_spec_GoodProps N base_a0).bind fun v1 => (if v1 = true then ((p_spec_GoodProps N ours_a1).bind fun v133 => (if v133 = true then ((p_spec_GoodProps N theirs_a2).bind fun v135 => p_spec_JoinProps_j0 N base_a0 ours_a1 theirs_a2 (!v135)) else p_spec_JoinProps_j0 N base_a0 ours_a1 theirs_a2 true)) else p_spec_JoinProps_j0 N base_a0 ours_a1 theirs_a2 true))
theorem p_spec_JoinProps_does (N : Nat) (base_a0 : List GProp) (ours_a1 : List GProp) (theirs_a2 : List GProp) (r : GJoined × Bool) (h : p_spec_JoinProps N base_a0 ours_a1 theirs_a2 = some r) : Does Tryd.prog 19 [.row false 2 base_a0.length (esProp base_a0), .row false 2 ours_a1.length (esProp ours_a1), .row false 2 theirs_a2.length (esProp theirs_a2)] (.tup [.agg (eJoinedo r.1), B r.2]) := by
  rw [p_spec_JoinProps] at h
  refine Does.bnd (fun hb => ?_)
  have hb2 : base_a0.length ≤ 9223372036854775807 ∧ ours_a1.length ≤ 9223372036854775807 ∧ theirs_a2.length ≤ 9223372036854775807 := by simpa [AV.fitNs, AV.fitN] using hb
  obtain ⟨hl0, hl1, hl2⟩ := hb2
  refine Does.walk (nt := 149) Tryd.func19 rfl rfl (by simp) (by decide) rfl (fun G0 X w0 pv => ?_)
  obtain ⟨v1, ev1, h⟩ := Option.bind_eq_some_iff.1 h
  try dsimp only at h
  have ff := p_spec_JoinProps_tf.down
  try refine st_by ff ?_
  repeat' (first | exact trivial | refine And.intro sd ?_)
  first
  | (refine cq_call (p_spec_GoodProps_does N base_a0 v1 ev1) (hf_by ff) kr ⟨p_spec_JoinProps_sa ff trivial, ?_⟩; clear ff)
  have ff := p_spec_JoinProps_tf.down
  try refine st_by ff ?_
  repeat' (first | exact trivial | refine And.intro sd ?_)
  try clear ff
  generalize hk_0 : thenK _ _ = kk_0
  have key_0 : ∀ σ, (∃ b_2 : Bool, (p_spec_JoinProps_j0 N base_a0 ours_a1 theirs_a2 b_2 = some r) ∧ σ.t 0 = .row false 2 base_a0.length (esProp base_a0) ∧ σ.t 1 = .row false 2 ours_a1.length (esProp ours_a1) ∧ σ.t 2 = .row false 2 theirs_a2.length (esProp theirs_a2) ∧ σ.t 6 = .ptr 6 [] 0 ∧ σ.t 38 = B b_2 ∧ σ.m 6 = some (.box true [.row true 2 0 [], .row true 1 0 []])) → kk_0 .nm σ := by
    rintro σ ⟨b_2, h, g0_j0, g1_j0, g2_j0, g3_j0, g4_j0, g5_j0⟩
    rw [← hk_0]
    rw [p_spec_JoinProps_j0] at h
    by_cases c3 : b_2 = true
    · rw [if_pos c3] at h
      have dc3 := c3
      have ff := ai @g0_j0 (ai @g1_j0 (ai @g2_j0 (ai @g3_j0 (ai @g4_j0 (ai @g5_j0 (ai @dc3 p_spec_JoinProps_tf.down))))))
      try refine st_by ff ?_
      repeat' (first | exact trivial | refine And.intro sd ?_)
      cases h
      exact ret_q2 rfl (p_spec_JoinProps_rt ff trivial)
    rw [if_neg c3] at h
    have dc3 := eq_false_of_ne_true c3
    obtain ⟨q_0, eq_0, h⟩ := Option.bind_eq_some_iff.1 h
    have ff := ai @g0_j0 (ai @g1_j0 (ai @g2_j0 (ai @g3_j0 (ai @g4_j0 (ai @g5_j0 (ai @dc3 p_spec_JoinProps_tf.down))))))
    try refine st_by ff ?_
    repeat' (first | exact trivial | refine And.intro sd ?_)
    refine aw_bnd (r := 43) (p := []) (sz := 1) (n := ([base_a0, ours_a1, theirs_a2] : List (List GProp)).length) (cs := esLProp ([base_a0, ours_a1, theirs_a2] : List (List GProp))) (p_spec_JoinProps_pv ff trivial) (fun hL_0 => ?_)
    obtain ⟨I_0, hI_0⟩ : ∃ I_ : (Nat × (List ByteArray)) → ASt → Prop, I_ = (fun (a : Nat × (List ByteArray)) σ => match a with | (i_0, paths_20) => (i_0 ≤ ([base_a0, ours_a1, theirs_a2] : List (List GProp)).length ∧ p_spec_JoinProps_l0 N (([base_a0, ours_a1, theirs_a2] : List (List GProp)).drop i_0) i_0 paths_20 = some q_0) ∧ σ.t 0 = .row false 2 base_a0.length (esProp base_a0) ∧ σ.t 1 = .row false 2 ours_a1.length (esProp ours_a1) ∧ σ.t 2 = .row false 2 theirs_a2.length (esProp theirs_a2) ∧ σ.t 6 = .ptr 6 [] 0 ∧ σ.t 8 = .sl 8 [] 0 paths_20.length ∧ σ.t 43 = .sl 43 [] 0 (([base_a0, ours_a1, theirs_a2] : List (List GProp)).length) ∧ σ.t 44 = I (([base_a0, ours_a1, theirs_a2] : List (List GProp)).length : Int) ∧ σ.t 45 = I (i_0 : Int) ∧ σ.m 6 = some (.box true [.row true 2 0 [], .row true 1 0 []]) ∧ σ.m 8 = some (.row true 1 paths_20.length (esStr paths_20)) ∧ σ.m 43 = some (.row true 1 ([base_a0, ours_a1, theirs_a2] : List (List GProp)).length (esLProp ([base_a0, ours_a1, theirs_a2] : List (List GProp))))) := ⟨_, rfl⟩
    obtain ⟨M_0, hM_0⟩ : ∃ M_ : (Nat × (List ByteArray)) → Nat, M_ = (fun (a : Nat × (List ByteArray)) => match a with | (i_0, paths_20) => ([base_a0, ours_a1, theirs_a2] : List (List GProp)).length - i_0) := ⟨_, rfl⟩
    obtain ⟨J_0, hJ_0⟩ : ∃ J_ : ASt → Prop, J_ = (fun σ => ∃ paths_20 : List ByteArray, (some paths_20 = some q_0) ∧ σ.t 0 = .row false 2 base_a0.length (esProp base_a0) ∧ σ.t 1 = .row false 2 ours_a1.length (esProp ours_a1) ∧ σ.t 2 = .row false 2 theirs_a2.length (esProp theirs_a2) ∧ σ.t 6 = .ptr 6 [] 0 ∧ σ.t 8 = .sl 8 [] 0 paths_20.length ∧ σ.m 6 = some (.box true [.row true 2 0 [], .row true 1 0 []]) ∧ σ.m 8 = some (.row true 1 paths_20.length (esStr paths_20))) := ⟨_, rfl⟩
    refine aw_loopC (id := 0) I_0 M_0 J_0 (0, ([] : List ByteArray)) ?_ ?_ ?_
    · rw [hI_0]
      refine ⟨⟨Nat.zero_le _, eq_0⟩, ?_⟩
      exact p_spec_JoinProps_pv ff trivial
    · try clear ff
      rintro ⟨i_0, paths_20⟩ σ hg_0
      rw [hI_0] at hg_0
      obtain ⟨⟨hi_0, h_0⟩, g0_0, g1_0, g2_0, g3_0, g4_0, g5_0, g6_0, g7_0, g8_0, g9_0, g10_0⟩ := hg_0
      cases hr_0 : ([base_a0, ours_a1, theirs_a2] : List (List GProp)).drop i_0 with
      | nil =>
        rw [hr_0] at h_0
        rw [p_spec_JoinProps_l0] at h_0
        have hn_0 := drop_nil hr_0
        have dr_0 : decide ((i_0 : Int) < ((3 : Nat) : Int)) = false := decide_eq_false (by have hlit_ : ([base_a0, ours_a1, theirs_a2] : List (List GProp)).length = 3 := rfl; omega)
        have ff := ai @dc3 (ai @dr_0 (ai @g0_0 (ai @g1_0 (ai @g2_0 (ai @g3_0 (ai @g4_0 (ai @g5_0 (ai @g6_0 (ai @g7_0 (ai @g8_0 (ai @g9_0 (ai @g10_0 p_spec_JoinProps_tf.down))))))))))))
        try refine st_by ff ?_
        repeat' (first | exact trivial | refine And.intro sd ?_)
        refine JW.intro ?_
        rw [hJ_0]
        refine ⟨paths_20, h_0, ?_⟩
        exact p_spec_JoinProps_pv ff trivial
      | cons x_0 r_0 =>
        rw [hr_0] at h_0
        rw [p_spec_JoinProps_l0] at h_0
        obtain ⟨ht_0, hg_0, hd_0⟩ := drop_cons hr_0
        have dr_0 : decide ((i_0 : Int) < ((3 : Nat) : Int)) = true := decide_eq_true (by have hlit_ : ([base_a0, ours_a1, theirs_a2] : List (List GProp)).length = 3 := rfl; omega)
        have w_0 : IntKind.i64.wrap ((i_0 : Int) + 1) = ((i_0 + 1 : Nat) : Int) := wI _ (by omega) (by omega)
        have hlt_0 : i_0 < 3 := by have hlit_ : ([base_a0, ours_a1, theirs_a2] : List (List GProp)).length = 3 := rfl; omega
        have kk0c : (esLProp ([base_a0, ours_a1, theirs_a2] : List (List GProp))).drop (i_0 * 1) = eLProp x_0 ++ esLProp (([base_a0, ours_a1, theirs_a2] : List (List GProp)).drop (i_0 + 1)) := drop_enc (fun _ => rfl) (hg_0)
        have kk0d := kk0c
        rw [Nat.mul_one] at kk0d
        have kk0g0 : (esLProp ([base_a0, ours_a1, theirs_a2] : List (List GProp))).getD (i_0 * 1) .junk = (eLProp x_0).getD 0 .junk := getD_enc0 (enc := eLProp) (sz := 1) (fun _ => rfl) (hg_0) (by decide)
        rw [Nat.mul_one] at kk0g0
        by_cases c36 : x_0.length ≤ 9223372036854775807
        case neg => rw [if_neg c36] at h_0; cases h_0
        rw [if_pos c36] at h_0
        have hL_1 : x_0.length ≤ 9223372036854775807 := by first | assumption | omega
        obtain ⟨q_1, eq_1, h_0⟩ := Option.bind_eq_some_iff.1 h_0
        have ff := ai @dc3 (ai @dr_0 (ai @w_0 (ai @g0_0 (ai @g1_0 (ai @g2_0 (ai @g3_0 (ai @g4_0 (ai @g5_0 (ai @g6_0 (ai @g7_0 (ai @g8_0 (ai @g9_0 (ai @g10_0 (ai @kk0c (ai @kk0d (ai @kk0g0 p_spec_JoinProps_tf.down))))))))))))))))
        try refine st_by ff ?_
        repeat' (first | exact trivial | refine And.intro sd ?_)
        obtain ⟨I_1, hI_1⟩ : ∃ I_ : (Nat × (List ByteArray)) → ASt → Prop, I_ = (fun (a : Nat × (List ByteArray)) σ => match a with | (i_1, paths_42) => (i_1 ≤ x_0.length ∧ p_spec_JoinProps_l1 N (x_0.drop i_1) i_1 paths_42 = some q_1) ∧ σ.t 0 = .row false 2 base_a0.length (esProp base_a0) ∧ σ.t 1 = .row false 2 ours_a1.length (esProp ours_a1) ∧ σ.t 2 = .row false 2 theirs_a2.length (esProp theirs_a2) ∧ σ.t 6 = .ptr 6 [] 0 ∧ σ.t 8 = .sl 8 [] 0 paths_42.length ∧ σ.t 43 = .sl 43 [] 0 (([base_a0, ours_a1, theirs_a2] : List (List GProp)).length) ∧ σ.t 44 = I (([base_a0, ours_a1, theirs_a2] : List (List GProp)).length : Int) ∧ σ.t 45 = I (i_0 : Int) ∧ σ.t 49 = .row false 2 x_0.length (esProp x_0) ∧ σ.t 50 = I (x_0.length : Int) ∧ σ.t 51 = I (i_1 : Int) ∧ σ.m 6 = some (.box true [.row true 2 0 [], .row true 1 0 []]) ∧ σ.m 8 = some (.row true 1 paths_42.length (esStr paths_42)) ∧ σ.m 43 = some (.row true 1 ([base_a0, ours_a1, theirs_a2] : List (List GProp)).length (esLProp ([base_a0, ours_a1, theirs_a2] : List (List GProp))))) := ⟨_, rfl⟩
        obtain ⟨M_1, hM_1⟩ : ∃ M_ : (Nat × (List ByteArray)) → Nat, M_ = (fun (a : Nat × (List ByteArray)) => match a with | (i_1, paths_42) => x_0.length - i_1) := ⟨_, rfl⟩
        obtain ⟨J_1, hJ_1⟩ : ∃ J_ : ASt → Prop, J_ = (fun σ => ∃ paths_42 : List ByteArray, (some paths_42 = some q_1) ∧ σ.t 0 = .row false 2 base_a0.length (esProp base_a0) ∧ σ.t 1 = .row false 2 ours_a1.length (esProp ours_a1) ∧ σ.t 2 = .row false 2 theirs_a2.length (esProp theirs_a2) ∧ σ.t 6 = .ptr 6 [] 0 ∧ σ.t 8 = .sl 8 [] 0 paths_42.length ∧ σ.t 43 = .sl 43 [] 0 (([base_a0, ours_a1, theirs_a2] : List (List GProp)).length) ∧ σ.t 44 = I (([base_a0, ours_a1, theirs_a2] : List (List GProp)).length : Int) ∧ σ.t 45 = I (i_0 : Int) ∧ σ.m 6 = some (.box true [.row true 2 0 [], .row true 1 0 []]) ∧ σ.m 8 = some (.row true 1 paths_42.length (esStr paths_42)) ∧ σ.m 43 = some (.row true 1 ([base_a0, ours_a1, theirs_a2] : List (List GProp)).length (esLProp ([base_a0, ours_a1, theirs_a2] : List (List GProp))))) := ⟨_, rfl⟩
        refine aw_loopC (id := 2) I_1 M_1 J_1 (0, paths_20) ?_ ?_ ?_
        · rw [hI_1]
          refine ⟨⟨Nat.zero_le _, eq_1⟩, ?_⟩
          exact p_spec_JoinProps_pv ff trivial
        · try clear ff
          rintro ⟨i_1, paths_42⟩ σ hg_1
          rw [hI_1] at hg_1
          obtain ⟨⟨hi_1, h_1⟩, g0_1, g1_1, g2_1, g3_1, g4_1, g5_1, g6_1, g7_1, g8_1, g9_1, g10_1, g11_1, g12_1, g13_1⟩ := hg_1
          cases hr_1 : x_0.drop i_1 with
          | nil =>
            rw [hr_1] at h_1
            rw [p_spec_JoinProps_l1] at h_1
            have hn_1 := drop_nil hr_1
            have dr_1 : decide ((i_1 : Int) < (x_0.length : Int)) = false := decide_eq_false (by omega)
            have ff := ai @dc3 (ai @dr_0 (ai @w_0 (ai @kk0c (ai @kk0d (ai @kk0g0 (ai @dr_1 (ai @g0_1 (ai @g1_1 (ai @g2_1 (ai @g3_1 (ai @g4_1 (ai @g5_1 (ai @g6_1 (ai @g7_1 (ai @g8_1 (ai @g9_1 (ai @g10_1 (ai @g11_1 (ai @g12_1 (ai @g13_1 p_spec_JoinProps_tf.down))))))))))))))))))))
            try refine st_by ff ?_
            repeat' (first | exact trivial | refine And.intro sd ?_)
            refine JW.intro ?_
            rw [hJ_1]
            refine ⟨paths_42, h_1, ?_⟩
            exact p_spec_JoinProps_pv ff trivial
          | cons x_1 r_1 =>
            rw [hr_1] at h_1
            rw [p_spec_JoinProps_l1] at h_1
            obtain ⟨ht_1, hg_1, hd_1⟩ := drop_cons hr_1
            have dr_1 : decide ((i_1 : Int) < (x_0.length : Int)) = true := decide_eq_true (by omega)
            have w_1 : IntKind.i64.wrap ((i_1 : Int) + 1) = ((i_1 + 1 : Nat) : Int) := wI _ (by omega) (by omega)
            have kk1c : (esProp x_0).drop (i_1 * 2) = eProp x_1 ++ esProp (x_0.drop (i_1 + 1)) := drop_enc (fun _ => rfl) (hg_1)
            obtain ⟨v47, ev47, h_1⟩ := Option.bind_eq_some_iff.1 h_1
            try dsimp only at h_1
            have ff := ai @dc3 (ai @dr_0 (ai @w_0 (ai @kk0c (ai @kk0d (ai @kk0g0 (ai @dr_1 (ai @w_1 (ai @g0_1 (ai @g1_1 (ai @g2_1 (ai @g3_1 (ai @g4_1 (ai @g5_1 (ai @g6_1 (ai @g7_1 (ai @g8_1 (ai @g9_1 (ai @g10_1 (ai @g11_1 (ai @g12_1 (ai @g13_1 (ai @kk1c p_spec_JoinProps_tf.down))))))))))))))))))))))
            try refine st_by ff ?_
            repeat' (first | exact trivial | refine And.intro sd ?_)
            (refine cq_X [(8, [])] (p_spec_l1PutText_does N paths_42 x_1.Path v47 ev47) (hf_by ff) kr (by first | decide | simp) ⟨p_spec_JoinProps_sa ff trivial, ?_⟩; clear ff)
            have ff := ai @dc3 (ai @dr_0 (ai @w_0 (ai @kk0c (ai @kk0d (ai @kk0g0 (ai @dr_1 (ai @w_1 (ai @g0_1 (ai @g1_1 (ai @g2_1 (ai @g3_1 (ai @g4_1 (ai @g5_1 (ai @g6_1 (ai @g7_1 (ai @g8_1 (ai @g9_1 (ai @g10_1 (ai @g11_1 (ai @g12_1 (ai @g13_1 (ai @kk1c (ai @isPre0 (ai @isPre1 (ai @isPre2 p_spec_JoinProps_tf.down)))))))))))))))))))))))))
            try refine st_by ff ?_
            repeat' (first | exact trivial | refine And.intro sd ?_)
            refine Back.intro (i_1 + 1, v47) ?_ ?_
            · clear ff; rw [hM_1]; show x_0.length - (i_1 + 1) < x_0.length - i_1; omega
            rw [hI_1]
            refine ⟨⟨by clear ff; show i_1 + 1 ≤ x_0.length; omega, by show p_spec_JoinProps_l1 N (x_0.drop (i_1 + 1)) (i_1 + 1) v47 = some q_1; rw [hd_1]; exact h_1⟩, ?_⟩
            exact p_spec_JoinProps_pv ff trivial
        · try clear ff
          rintro σ hg_1
          rw [hJ_1] at hg_1
          obtain ⟨paths_42, hj_1, g0_1a, g1_1a, g2_1a, g3_1a, g4_1a, g5_1a, g6_1a, g7_1a, g8_1a, g9_1a, g10_1a⟩ := hg_1
          have hjj_1 := Option.some.inj hj_1
          subst hjj_1
          try dsimp only at h_0
          have ff := ai @dc3 (ai @dr_0 (ai @w_0 (ai @kk0c (ai @kk0d (ai @kk0g0 (ai @g0_1a (ai @g1_1a (ai @g2_1a (ai @g3_1a (ai @g4_1a (ai @g5_1a (ai @g6_1a (ai @g7_1a (ai @g8_1a (ai @g9_1a (ai @g10_1a p_spec_JoinProps_tf.down))))))))))))))))
          try refine st_by ff ?_
          repeat' (first | exact trivial | refine And.intro sd ?_)
          refine Back.intro (i_0 + 1, paths_42) ?_ ?_
          · clear ff; rw [hM_0]; show ([base_a0, ours_a1, theirs_a2] : List (List GProp)).length - (i_0 + 1) < ([base_a0, ours_a1, theirs_a2] : List (List GProp)).length - i_0; omega
          rw [hI_0]
          refine ⟨⟨by clear ff; show i_0 + 1 ≤ ([base_a0, ours_a1, theirs_a2] : List (List GProp)).length; omega, by show p_spec_JoinProps_l0 N (([base_a0, ours_a1, theirs_a2] : List (List GProp)).drop (i_0 + 1)) (i_0 + 1) paths_42 = some q_0; rw [hd_0]; exact h_0⟩, ?_⟩
          exact p_spec_JoinProps_pv ff trivial
    · try clear ff
      rintro σ hg_0
      rw [hJ_0] at hg_0
      obtain ⟨paths_20, hj_0, g0_0a, g1_0a, g2_0a, g3_0a, g4_0a, g5_0a, g6_0a⟩ := hg_0
      have hjj_0 := Option.some.inj hj_0
      subst hjj_0
      try dsimp only at h
      obtain ⟨q_2, eq_2, h⟩ := Option.bind_eq_some_iff.1 h
      have ff := ai @dc3 (ai @g0_0a (ai @g1_0a (ai @g2_0a (ai @g3_0a (ai @g4_0a (ai @g5_0a (ai @g6_0a p_spec_JoinProps_tf.down)))))))
      try refine st_by ff ?_
      repeat' (first | exact trivial | refine And.intro sd ?_)
      refine aw_bnd (r := 8) (p := []) (sz := 1) (n := paths_20.length) (cs := esStr paths_20) (p_spec_JoinProps_pv ff trivial) (fun hL_2 => ?_)
      obtain ⟨I_2, hI_2⟩ : ∃ I_ : (Nat × (List GProp) × (List ByteArray)) → ASt → Prop, I_ = (fun (a : Nat × (List GProp) × (List ByteArray)) σ => match a with | (i_2, out_70, out_71) => (i_2 ≤ paths_20.length ∧ p_spec_JoinProps_l2 base_a0 ours_a1 theirs_a2 (paths_20.drop i_2) i_2 out_70 out_71 = some q_2) ∧ σ.t 0 = .row false 2 base_a0.length (esProp base_a0) ∧ σ.t 1 = .row false 2 ours_a1.length (esProp ours_a1) ∧ σ.t 2 = .row false 2 theirs_a2.length (esProp theirs_a2) ∧ σ.t 6 = .ptr 6 [] 0 ∧ σ.t 13 = .ptr 13 [] 0 ∧ σ.t 62 = .sl 8 [] 0 paths_20.length ∧ σ.t 63 = I (paths_20.length : Int) ∧ σ.t 64 = I (i_2 : Int) ∧ σ.m 6 = some (.box true [.row true 2 0 [], .row true 1 0 []]) ∧ σ.m 13 = some (.box true [.row true 2 out_70.length (esProp out_70), .row true 1 out_71.length (esStr out_71)]) ∧ σ.m 8 = some (.row true 1 paths_20.length (esStr paths_20))) := ⟨_, rfl⟩
      obtain ⟨M_2, hM_2⟩ : ∃ M_ : (Nat × (List GProp) × (List ByteArray)) → Nat, M_ = (fun (a : Nat × (List GProp) × (List ByteArray)) => match a with | (i_2, out_70, out_71) => paths_20.length - i_2) := ⟨_, rfl⟩
      obtain ⟨J_2, hJ_2⟩ : ∃ J_ : ASt → Prop, J_ = (fun σ => ∃ out_70 : List GProp, ∃ out_71 : List ByteArray, (some (out_70, out_71) = some q_2) ∧ σ.t 6 = .ptr 6 [] 0 ∧ σ.t 13 = .ptr 13 [] 0 ∧ σ.m 6 = some (.box true [.row true 2 0 [], .row true 1 0 []]) ∧ σ.m 13 = some (.box true [.row true 2 out_70.length (esProp out_70), .row true 1 out_71.length (esStr out_71)])) := ⟨_, rfl⟩
      refine aw_loopC (id := 4) I_2 M_2 J_2 (0, ([] : List GProp), ([] : List ByteArray)) ?_ ?_ ?_
      · rw [hI_2]
        refine ⟨⟨Nat.zero_le _, eq_2⟩, ?_⟩
        exact p_spec_JoinProps_pv ff trivial
      · try clear ff
        rintro ⟨i_2, out_70, out_71⟩ σ hg_2
        rw [hI_2] at hg_2
        obtain ⟨⟨hi_2, h_2⟩, g0_2, g1_2, g2_2, g3_2, g4_2, g5_2, g6_2, g7_2, g8_2, g9_2, g10_2⟩ := hg_2
        cases hr_2 : paths_20.drop i_2 with
        | nil =>
          rw [hr_2] at h_2
          rw [p_spec_JoinProps_l2] at h_2
          have hn_2 := drop_nil hr_2
          have dr_2 : decide ((i_2 : Int) < (paths_20.length : Int)) = false := decide_eq_false (by omega)
          have ff := ai @dc3 (ai @dr_2 (ai @g0_2 (ai @g1_2 (ai @g2_2 (ai @g3_2 (ai @g4_2 (ai @g5_2 (ai @g6_2 (ai @g7_2 (ai @g8_2 (ai @g9_2 (ai @g10_2 p_spec_JoinProps_tf.down))))))))))))
          try refine st_by ff ?_
          repeat' (first | exact trivial | refine And.intro sd ?_)
          refine JW.intro ?_
          rw [hJ_2]
          refine ⟨out_70, out_71, h_2, ?_⟩
          exact p_spec_JoinProps_pv ff trivial
        | cons x_2 r_2 =>
          rw [hr_2] at h_2
          rw [p_spec_JoinProps_l2] at h_2
          obtain ⟨ht_2, hg_2, hd_2⟩ := drop_cons hr_2
          have dr_2 : decide ((i_2 : Int) < (paths_20.length : Int)) = true := decide_eq_true (by omega)
          have w_2 : IntKind.i64.wrap ((i_2 : Int) + 1) = ((i_2 + 1 : Nat) : Int) := wI _ (by omega) (by omega)
          have kk2c : (esStr paths_20).drop (i_2 * 1) = eStr x_2 ++ esStr (paths_20.drop (i_2 + 1)) := drop_enc (fun _ => rfl) (hg_2)
          have kk2d := kk2c
          rw [Nat.mul_one] at kk2d
          have kk2g0 : (esStr paths_20).getD (i_2 * 1) .junk = (eStr x_2).getD 0 .junk := getD_enc0 (enc := eStr) (sz := 1) (fun _ => rfl) (hg_2) (by decide)
          rw [Nat.mul_one] at kk2g0
          obtain ⟨v103, ev103, h_2⟩ := Option.bind_eq_some_iff.1 h_2
          try dsimp only at h_2
          have ff := ai @dc3 (ai @dr_2 (ai @w_2 (ai @g0_2 (ai @g1_2 (ai @g2_2 (ai @g3_2 (ai @g4_2 (ai @g5_2 (ai @g6_2 (ai @g7_2 (ai @g8_2 (ai @g9_2 (ai @g10_2 (ai @kk2c (ai @kk2d (ai @kk2g0 p_spec_JoinProps_tf.down))))))))))))))))
          try refine st_by ff ?_
          repeat' (first | exact trivial | refine And.intro sd ?_)
          first
          | (refine cq_call (p_spec_l26Find_does base_a0 x_2 v103 ev103) (hf_by ff) kr ⟨p_spec_JoinProps_sa ff trivial, ?_⟩; clear ff)
          obtain ⟨v104, ev104, h_2⟩ := Option.bind_eq_some_iff.1 h_2
          try dsimp only at h_2
          have ff := ai @dc3 (ai @dr_2 (ai @w_2 (ai @g0_2 (ai @g1_2 (ai @g2_2 (ai @g3_2 (ai @g4_2 (ai @g5_2 (ai @g6_2 (ai @g7_2 (ai @g8_2 (ai @g9_2 (ai @g10_2 (ai @kk2c (ai @kk2d (ai @kk2g0 p_spec_JoinProps_tf.down))))))))))))))))
          try refine st_by ff ?_
          repeat' (first | exact trivial | refine And.intro sd ?_)
          first
          | (refine cq_call (p_spec_l26Find_does ours_a1 x_2 v104 ev104) (hf_by ff) kr ⟨p_spec_JoinProps_sa ff trivial, ?_⟩; clear ff)
          obtain ⟨v105, ev105, h_2⟩ := Option.bind_eq_some_iff.1 h_2
          try dsimp only at h_2
          have ff := ai @dc3 (ai @dr_2 (ai @w_2 (ai @g0_2 (ai @g1_2 (ai @g2_2 (ai @g3_2 (ai @g4_2 (ai @g5_2 (ai @g6_2 (ai @g7_2 (ai @g8_2 (ai @g9_2 (ai @g10_2 (ai @kk2c (ai @kk2d (ai @kk2g0 p_spec_JoinProps_tf.down))))))))))))))))
          try refine st_by ff ?_
          repeat' (first | exact trivial | refine And.intro sd ?_)
          first
          | (refine cq_call (p_spec_l26Find_does theirs_a2 x_2 v105 ev105) (hf_by ff) kr ⟨p_spec_JoinProps_sa ff trivial, ?_⟩; clear ff)
          have ff := ai @dc3 (ai @dr_2 (ai @w_2 (ai @g0_2 (ai @g1_2 (ai @g2_2 (ai @g3_2 (ai @g4_2 (ai @g5_2 (ai @g6_2 (ai @g7_2 (ai @g8_2 (ai @g9_2 (ai @g10_2 (ai @kk2c (ai @kk2d (ai @kk2g0 p_spec_JoinProps_tf.down))))))))))))))))
          try refine st_by ff ?_
          repeat' (first | exact trivial | refine And.intro sd ?_)
          try clear ff
          generalize hk_1 : thenK _ _ = kk_1
          have key_1 : ∀ σ, (∃ we_106 : Bool, (p_spec_JoinProps_j1 out_70 out_71 x_2 i_2 v103 v104 v105 (p_spec_JoinProps_l2 base_a0 ours_a1 theirs_a2 r_2) we_106 = some q_2) ∧ σ.t 0 = .row false 2 base_a0.length (esProp base_a0) ∧ σ.t 1 = .row false 2 ours_a1.length (esProp ours_a1) ∧ σ.t 2 = .row false 2 theirs_a2.length (esProp theirs_a2) ∧ σ.t 6 = .ptr 6 [] 0 ∧ σ.t 13 = .ptr 13 [] 0 ∧ σ.t 15 = S x_2 ∧ σ.t 16 = S v103.1 ∧ σ.t 17 = B v103.2 ∧ σ.t 18 = S v104.1 ∧ σ.t 19 = B v104.2 ∧ σ.t 20 = S v105.1 ∧ σ.t 21 = B v105.2 ∧ σ.t 22 = B we_106 ∧ σ.t 62 = .sl 8 [] 0 paths_20.length ∧ σ.t 63 = I (paths_20.length : Int) ∧ σ.t 64 = I (i_2 : Int) ∧ σ.m 6 = some (.box true [.row true 2 0 [], .row true 1 0 []]) ∧ σ.m 13 = some (.box true [.row true 2 out_70.length (esProp out_70), .row true 1 out_71.length (esStr out_71)]) ∧ σ.m 8 = some (.row true 1 paths_20.length (esStr paths_20))) → kk_1 .nm σ := by
            rintro σ ⟨we_106, h_2, g0_j1, g1_j1, g2_j1, g3_j1, g4_j1, g5_j1, g6_j1, g7_j1, g8_j1, g9_j1, g10_j1, g11_j1, g12_j1, g13_j1, g14_j1, g15_j1, g16_j1, g17_j1, g18_j1⟩
            rw [← hk_1]
            rw [p_spec_JoinProps_j1] at h_2
            have ff := ai @dc3 (ai @dr_2 (ai @w_2 (ai @kk2c (ai @kk2d (ai @kk2g0 (ai @g0_j1 (ai @g1_j1 (ai @g2_j1 (ai @g3_j1 (ai @g4_j1 (ai @g5_j1 (ai @g6_j1 (ai @g7_j1 (ai @g8_j1 (ai @g9_j1 (ai @g10_j1 (ai @g11_j1 (ai @g12_j1 (ai @g13_j1 (ai @g14_j1 (ai @g15_j1 (ai @g16_j1 (ai @g17_j1 (ai @g18_j1 p_spec_JoinProps_tf.down))))))))))))))))))))))))
            try refine st_by ff ?_
            repeat' (first | exact trivial | refine And.intro sd ?_)
            try clear ff
            generalize hk_2 : thenK _ _ = kk_2
            have key_2 : ∀ σ, (∃ they_107 : Bool, (p_spec_JoinProps_j2 out_70 out_71 x_2 i_2 v103 v104 v105 we_106 (p_spec_JoinProps_l2 base_a0 ours_a1 theirs_a2 r_2) they_107 = some q_2) ∧ σ.t 0 = .row false 2 base_a0.length (esProp base_a0) ∧ σ.t 1 = .row false 2 ours_a1.length (esProp ours_a1) ∧ σ.t 2 = .row false 2 theirs_a2.length (esProp theirs_a2) ∧ σ.t 6 = .ptr 6 [] 0 ∧ σ.t 13 = .ptr 13 [] 0 ∧ σ.t 15 = S x_2 ∧ σ.t 16 = S v103.1 ∧ σ.t 17 = B v103.2 ∧ σ.t 18 = S v104.1 ∧ σ.t 19 = B v104.2 ∧ σ.t 20 = S v105.1 ∧ σ.t 21 = B v105.2 ∧ σ.t 22 = B we_106 ∧ σ.t 23 = B they_107 ∧ σ.t 62 = .sl 8 [] 0 paths_20.length ∧ σ.t 63 = I (paths_20.length : Int) ∧ σ.t 64 = I (i_2 : Int) ∧ σ.m 6 = some (.box true [.row true 2 0 [], .row true 1 0 []]) ∧ σ.m 13 = some (.box true [.row true 2 out_70.length (esProp out_70), .row true 1 out_71.length (esStr out_71)]) ∧ σ.m 8 = some (.row true 1 paths_20.length (esStr paths_20))) → kk_2 .nm σ := by
              rintro σ ⟨they_107, h_2, g0_j2, g1_j2, g2_j2, g3_j2, g4_j2, g5_j2, g6_j2, g7_j2, g8_j2, g9_j2, g10_j2, g11_j2, g12_j2, g13_j2, g14_j2, g15_j2, g16_j2, g17_j2, g18_j2, g19_j2⟩
              rw [← hk_2]
              rw [p_spec_JoinProps_j2] at h_2
              have ff := ai @dc3 (ai @dr_2 (ai @w_2 (ai @kk2c (ai @kk2d (ai @kk2g0 (ai @g0_j2 (ai @g1_j2 (ai @g2_j2 (ai @g3_j2 (ai @g4_j2 (ai @g5_j2 (ai @g6_j2 (ai @g7_j2 (ai @g8_j2 (ai @g9_j2 (ai @g10_j2 (ai @g11_j2 (ai @g12_j2 (ai @g13_j2 (ai @g14_j2 (ai @g15_j2 (ai @g16_j2 (ai @g17_j2 (ai @g18_j2 (ai @g19_j2 p_spec_JoinProps_tf.down)))))))))))))))))))))))))
              try refine st_by ff ?_
              repeat' (first | exact trivial | refine And.intro sd ?_)
              try clear ff
              generalize hk_3 : thenK _ _ = kk_3
              have key_3 : ∀ σ, (∃ b_108 : Bool, (p_spec_JoinProps_j3 out_70 out_71 x_2 i_2 v103 v104 v105 we_106 they_107 (p_spec_JoinProps_l2 base_a0 ours_a1 theirs_a2 r_2) b_108 = some q_2) ∧ σ.t 0 = .row false 2 base_a0.length (esProp base_a0) ∧ σ.t 1 = .row false 2 ours_a1.length (esProp ours_a1) ∧ σ.t 2 = .row false 2 theirs_a2.length (esProp theirs_a2) ∧ σ.t 6 = .ptr 6 [] 0 ∧ σ.t 13 = .ptr 13 [] 0 ∧ σ.t 15 = S x_2 ∧ σ.t 18 = S v104.1 ∧ σ.t 19 = B v104.2 ∧ σ.t 20 = S v105.1 ∧ σ.t 21 = B v105.2 ∧ σ.t 22 = B we_106 ∧ σ.t 23 = B they_107 ∧ σ.t 24 = S v103.1 ∧ σ.t 25 = B v103.2 ∧ σ.t 62 = .sl 8 [] 0 paths_20.length ∧ σ.t 63 = I (paths_20.length : Int) ∧ σ.t 64 = I (i_2 : Int) ∧ σ.t 104 = B b_108 ∧ σ.m 6 = some (.box true [.row true 2 0 [], .row true 1 0 []]) ∧ σ.m 13 = some (.box true [.row true 2 out_70.length (esProp out_70), .row true 1 out_71.length (esStr out_71)]) ∧ σ.m 8 = some (.row true 1 paths_20.length (esStr paths_20))) → kk_3 .nm σ := by
                rintro σ ⟨b_108, h_2, g0_j3, g1_j3, g2_j3, g3_j3, g4_j3, g5_j3, g6_j3, g7_j3, g8_j3, g9_j3, g10_j3, g11_j3, g12_j3, g13_j3, g14_j3, g15_j3, g16_j3, g17_j3, g18_j3, g19_j3, g20_j3⟩
                rw [← hk_3]
                rw [p_spec_JoinProps_j3] at h_2
                by_cases c109 : b_108 = true
                · rw [if_pos c109] at h_2
                  have dc109 := c109
                  by_cases c110 : out_71.length < 4294967296
                  case neg => rw [if_neg c110] at h_2; cases h_2
                  rw [if_pos c110] at h_2
                  have a111a : esStr out_71 ++ [S x_2] = esStr (out_71 ++ [x_2]) := by simp [esStr_app, esStr_cons, esStr_nil, eStr_eq, esStr_nil, esLProp_nil, esJoined_nil, esProp_nil]
                  have a111b : out_71.length + 1 = (out_71 ++ [x_2]).length := by simp
                  by_cases c112 : v103.2 = true
                  case neg =>
                   rw [if_neg c112] at h_2
                   have dc112 := eq_false_of_ne_true c112
                   have ff := ai @dc3 (ai @dr_2 (ai @w_2 (ai @kk2c (ai @kk2d (ai @kk2g0 (ai @g0_j3 (ai @g1_j3 (ai @g2_j3 (ai @g3_j3 (ai @g4_j3 (ai @g5_j3 (ai @g6_j3 (ai @g7_j3 (ai @g8_j3 (ai @g9_j3 (ai @g10_j3 (ai @g11_j3 (ai @g12_j3 (ai @g13_j3 (ai @g14_j3 (ai @g15_j3 (ai @g16_j3 (ai @g17_j3 (ai @g18_j3 (ai @g19_j3 (ai @g20_j3 (ai @dc109 (ai @a111a (ai @a111b (ai @dc112 p_spec_JoinProps_tf.down))))))))))))))))))))))))))))))
                   try refine st_by ff ?_
                   repeat' (first | exact trivial | refine And.intro sd ?_)
                   refine Back.intro (i_2 + 1, out_70, (out_71 ++ [x_2])) ?_ ?_
                   · clear ff; rw [hM_2]; show paths_20.length - (i_2 + 1) < paths_20.length - i_2; omega
                   rw [hI_2]
                   refine ⟨⟨by clear ff; show i_2 + 1 ≤ paths_20.length; omega, by show p_spec_JoinProps_l2 base_a0 ours_a1 theirs_a2 (paths_20.drop (i_2 + 1)) (i_2 + 1) out_70 (out_71 ++ [x_2]) = some q_2; rw [hd_2]; exact h_2⟩, ?_⟩
                   exact p_spec_JoinProps_pv ff trivial
                  rw [if_pos c112] at h_2
                  have dc112 := c112
                  by_cases c113 : out_70.length < 4294967296
                  case neg => rw [if_neg c113] at h_2; cases h_2
                  rw [if_pos c113] at h_2
                  have a114a : esProp out_70 ++ [S x_2, S v103.1] = esProp (out_70 ++ [(⟨x_2, v103.1⟩ : GProp)]) := by simp [esProp_app, esProp_cons, esProp_nil, eProp_eq, esStr_nil, esLProp_nil, esJoined_nil, esProp_nil]
                  have a114b : out_70.length + 1 = (out_70 ++ [(⟨x_2, v103.1⟩ : GProp)]).length := by simp
                  have ff := ai @dc3 (ai @dr_2 (ai @w_2 (ai @kk2c (ai @kk2d (ai @kk2g0 (ai @g0_j3 (ai @g1_j3 (ai @g2_j3 (ai @g3_j3 (ai @g4_j3 (ai @g5_j3 (ai @g6_j3 (ai @g7_j3 (ai @g8_j3 (ai @g9_j3 (ai @g10_j3 (ai @g11_j3 (ai @g12_j3 (ai @g13_j3 (ai @g14_j3 (ai @g15_j3 (ai @g16_j3 (ai @g17_j3 (ai @g18_j3 (ai @g19_j3 (ai @g20_j3 (ai @dc109 (ai @a111a (ai @a111b (ai @dc112 (ai @a114a (ai @a114b p_spec_JoinProps_tf.down))))))))))))))))))))))))))))))))
                  try refine st_by ff ?_
                  repeat' (first | exact trivial | refine And.intro sd ?_)
                  refine Back.intro (i_2 + 1, (out_70 ++ [(⟨x_2, v103.1⟩ : GProp)]), (out_71 ++ [x_2])) ?_ ?_
                  · clear ff; rw [hM_2]; show paths_20.length - (i_2 + 1) < paths_20.length - i_2; omega
                  rw [hI_2]
                  refine ⟨⟨by clear ff; show i_2 + 1 ≤ paths_20.length; omega, by show p_spec_JoinProps_l2 base_a0 ours_a1 theirs_a2 (paths_20.drop (i_2 + 1)) (i_2 + 1) (out_70 ++ [(⟨x_2, v103.1⟩ : GProp)]) (out_71 ++ [x_2]) = some q_2; rw [hd_2]; exact h_2⟩, ?_⟩
                  exact p_spec_JoinProps_pv ff trivial
                rw [if_neg c109] at h_2
                have dc109 := eq_false_of_ne_true c109
                by_cases c115 : we_106 = true
                · rw [if_pos c115] at h_2
                  have dc115 := c115
                  by_cases c116 : v104.2 = true
                  case neg =>
                   rw [if_neg c116] at h_2
                   have dc116 := eq_false_of_ne_true c116
                   have ff := ai @dc3 (ai @dr_2 (ai @w_2 (ai @kk2c (ai @kk2d (ai @kk2g0 (ai @g0_j3 (ai @g1_j3 (ai @g2_j3 (ai @g3_j3 (ai @g4_j3 (ai @g5_j3 (ai @g6_j3 (ai @g7_j3 (ai @g8_j3 (ai @g9_j3 (ai @g10_j3 (ai @g11_j3 (ai @g12_j3 (ai @g13_j3 (ai @g14_j3 (ai @g15_j3 (ai @g16_j3 (ai @g17_j3 (ai @g18_j3 (ai @g19_j3 (ai @g20_j3 (ai @dc109 (ai @dc115 (ai @dc116 p_spec_JoinProps_tf.down)))))))))))))))))))))))))))))
                   try refine st_by ff ?_
                   repeat' (first | exact trivial | refine And.intro sd ?_)
                   refine Back.intro (i_2 + 1, out_70, out_71) ?_ ?_
                   · clear ff; rw [hM_2]; show paths_20.length - (i_2 + 1) < paths_20.length - i_2; omega
                   rw [hI_2]
                   refine ⟨⟨by clear ff; show i_2 + 1 ≤ paths_20.length; omega, by show p_spec_JoinProps_l2 base_a0 ours_a1 theirs_a2 (paths_20.drop (i_2 + 1)) (i_2 + 1) out_70 out_71 = some q_2; rw [hd_2]; exact h_2⟩, ?_⟩
                   exact p_spec_JoinProps_pv ff trivial
                  rw [if_pos c116] at h_2
                  have dc116 := c116
                  by_cases c117 : out_70.length < 4294967296
                  case neg => rw [if_neg c117] at h_2; cases h_2
                  rw [if_pos c117] at h_2
                  have a118a : esProp out_70 ++ [S x_2, S v104.1] = esProp (out_70 ++ [(⟨x_2, v104.1⟩ : GProp)]) := by simp [esProp_app, esProp_cons, esProp_nil, eProp_eq, esStr_nil, esLProp_nil, esJoined_nil, esProp_nil]
                  have a118b : out_70.length + 1 = (out_70 ++ [(⟨x_2, v104.1⟩ : GProp)]).length := by simp
                  have ff := ai @dc3 (ai @dr_2 (ai @w_2 (ai @kk2c (ai @kk2d (ai @kk2g0 (ai @g0_j3 (ai @g1_j3 (ai @g2_j3 (ai @g3_j3 (ai @g4_j3 (ai @g5_j3 (ai @g6_j3 (ai @g7_j3 (ai @g8_j3 (ai @g9_j3 (ai @g10_j3 (ai @g11_j3 (ai @g12_j3 (ai @g13_j3 (ai @g14_j3 (ai @g15_j3 (ai @g16_j3 (ai @g17_j3 (ai @g18_j3 (ai @g19_j3 (ai @g20_j3 (ai @dc109 (ai @dc115 (ai @dc116 (ai @a118a (ai @a118b p_spec_JoinProps_tf.down)))))))))))))))))))))))))))))))
                  try refine st_by ff ?_
                  repeat' (first | exact trivial | refine And.intro sd ?_)
                  refine Back.intro (i_2 + 1, (out_70 ++ [(⟨x_2, v104.1⟩ : GProp)]), out_71) ?_ ?_
                  · clear ff; rw [hM_2]; show paths_20.length - (i_2 + 1) < paths_20.length - i_2; omega
                  rw [hI_2]
                  refine ⟨⟨by clear ff; show i_2 + 1 ≤ paths_20.length; omega, by show p_spec_JoinProps_l2 base_a0 ours_a1 theirs_a2 (paths_20.drop (i_2 + 1)) (i_2 + 1) (out_70 ++ [(⟨x_2, v104.1⟩ : GProp)]) out_71 = some q_2; rw [hd_2]; exact h_2⟩, ?_⟩
                  exact p_spec_JoinProps_pv ff trivial
                rw [if_neg c115] at h_2
                have dc115 := eq_false_of_ne_true c115
                by_cases c119 : they_107 = true
                case neg =>
                 rw [if_neg c119] at h_2
                 have dc119 := eq_false_of_ne_true c119
                 by_cases c123 : v103.2 = true
                 case neg =>
                  rw [if_neg c123] at h_2
                  have dc123 := eq_false_of_ne_true c123
                  have ff := ai @dc3 (ai @dr_2 (ai @w_2 (ai @kk2c (ai @kk2d (ai @kk2g0 (ai @g0_j3 (ai @g1_j3 (ai @g2_j3 (ai @g3_j3 (ai @g4_j3 (ai @g5_j3 (ai @g6_j3 (ai @g7_j3 (ai @g8_j3 (ai @g9_j3 (ai @g10_j3 (ai @g11_j3 (ai @g12_j3 (ai @g13_j3 (ai @g14_j3 (ai @g15_j3 (ai @g16_j3 (ai @g17_j3 (ai @g18_j3 (ai @g19_j3 (ai @g20_j3 (ai @dc109 (ai @dc115 (ai @dc119 (ai @dc123 p_spec_JoinProps_tf.down))))))))))))))))))))))))))))))
                  try refine st_by ff ?_
                  repeat' (first | exact trivial | refine And.intro sd ?_)
                  refine Back.intro (i_2 + 1, out_70, out_71) ?_ ?_
                  · clear ff; rw [hM_2]; show paths_20.length - (i_2 + 1) < paths_20.length - i_2; omega
                  rw [hI_2]
                  refine ⟨⟨by clear ff; show i_2 + 1 ≤ paths_20.length; omega, by show p_spec_JoinProps_l2 base_a0 ours_a1 theirs_a2 (paths_20.drop (i_2 + 1)) (i_2 + 1) out_70 out_71 = some q_2; rw [hd_2]; exact h_2⟩, ?_⟩
                  exact p_spec_JoinProps_pv ff trivial
                 rw [if_pos c123] at h_2
                 have dc123 := c123
                 by_cases c124 : out_70.length < 4294967296
                 case neg => rw [if_neg c124] at h_2; cases h_2
                 rw [if_pos c124] at h_2
                 have a125a : esProp out_70 ++ [S x_2, S v103.1] = esProp (out_70 ++ [(⟨x_2, v103.1⟩ : GProp)]) := by simp [esProp_app, esProp_cons, esProp_nil, eProp_eq, esStr_nil, esLProp_nil, esJoined_nil, esProp_nil]
                 have a125b : out_70.length + 1 = (out_70 ++ [(⟨x_2, v103.1⟩ : GProp)]).length := by simp
                 have ff := ai @dc3 (ai @dr_2 (ai @w_2 (ai @kk2c (ai @kk2d (ai @kk2g0 (ai @g0_j3 (ai @g1_j3 (ai @g2_j3 (ai @g3_j3 (ai @g4_j3 (ai @g5_j3 (ai @g6_j3 (ai @g7_j3 (ai @g8_j3 (ai @g9_j3 (ai @g10_j3 (ai @g11_j3 (ai @g12_j3 (ai @g13_j3 (ai @g14_j3 (ai @g15_j3 (ai @g16_j3 (ai @g17_j3 (ai @g18_j3 (ai @g19_j3 (ai @g20_j3 (ai @dc109 (ai @dc115 (ai @dc119 (ai @dc123 (ai @a125a (ai @a125b p_spec_JoinProps_tf.down))))))))))))))))))))))))))))))))
                 try refine st_by ff ?_
                 repeat' (first | exact trivial | refine And.intro sd ?_)
                 refine Back.intro (i_2 + 1, (out_70 ++ [(⟨x_2, v103.1⟩ : GProp)]), out_71) ?_ ?_
                 · clear ff; rw [hM_2]; show paths_20.length - (i_2 + 1) < paths_20.length - i_2; omega
                 rw [hI_2]
                 refine ⟨⟨by clear ff; show i_2 + 1 ≤ paths_20.length; omega, by show p_spec_JoinProps_l2 base_a0 ours_a1 theirs_a2 (paths_20.drop (i_2 + 1)) (i_2 + 1) (out_70 ++ [(⟨x_2, v103.1⟩ : GProp)]) out_71 = some q_2; rw [hd_2]; exact h_2⟩, ?_⟩
                 exact p_spec_JoinProps_pv ff trivial
                rw [if_pos c119] at h_2
                have dc119 := c119
                by_cases c120 : v105.2 = true
                case neg =>
                 rw [if_neg c120] at h_2
                 have dc120 := eq_false_of_ne_true c120
                 have ff := ai @dc3 (ai @dr_2 (ai @w_2 (ai @kk2c (ai @kk2d (ai @kk2g0 (ai @g0_j3 (ai @g1_j3 (ai @g2_j3 (ai @g3_j3 (ai @g4_j3 (ai @g5_j3 (ai @g6_j3 (ai @g7_j3 (ai @g8_j3 (ai @g9_j3 (ai @g10_j3 (ai @g11_j3 (ai @g12_j3 (ai @g13_j3 (ai @g14_j3 (ai @g15_j3 (ai @g16_j3 (ai @g17_j3 (ai @g18_j3 (ai @g19_j3 (ai @g20_j3 (ai @dc109 (ai @dc115 (ai @dc119 (ai @dc120 p_spec_JoinProps_tf.down))))))))))))))))))))))))))))))
                 try refine st_by ff ?_
                 repeat' (first | exact trivial | refine And.intro sd ?_)
                 refine Back.intro (i_2 + 1, out_70, out_71) ?_ ?_
                 · clear ff; rw [hM_2]; show paths_20.length - (i_2 + 1) < paths_20.length - i_2; omega
                 rw [hI_2]
                 refine ⟨⟨by clear ff; show i_2 + 1 ≤ paths_20.length; omega, by show p_spec_JoinProps_l2 base_a0 ours_a1 theirs_a2 (paths_20.drop (i_2 + 1)) (i_2 + 1) out_70 out_71 = some q_2; rw [hd_2]; exact h_2⟩, ?_⟩
                 exact p_spec_JoinProps_pv ff trivial
                rw [if_pos c120] at h_2
                have dc120 := c120
                by_cases c121 : out_70.length < 4294967296
                case neg => rw [if_neg c121] at h_2; cases h_2
                rw [if_pos c121] at h_2
                have a122a : esProp out_70 ++ [S x_2, S v105.1] = esProp (out_70 ++ [(⟨x_2, v105.1⟩ : GProp)]) := by simp [esProp_app, esProp_cons, esProp_nil, eProp_eq, esStr_nil, esLProp_nil, esJoined_nil, esProp_nil]
                have a122b : out_70.length + 1 = (out_70 ++ [(⟨x_2, v105.1⟩ : GProp)]).length := by simp
                have ff := ai @dc3 (ai @dr_2 (ai @w_2 (ai @kk2c (ai @kk2d (ai @kk2g0 (ai @g0_j3 (ai @g1_j3 (ai @g2_j3 (ai @g3_j3 (ai @g4_j3 (ai @g5_j3 (ai @g6_j3 (ai @g7_j3 (ai @g8_j3 (ai @g9_j3 (ai @g10_j3 (ai @g11_j3 (ai @g12_j3 (ai @g13_j3 (ai @g14_j3 (ai @g15_j3 (ai @g16_j3 (ai @g17_j3 (ai @g18_j3 (ai @g19_j3 (ai @g20_j3 (ai @dc109 (ai @dc115 (ai @dc119 (ai @dc120 (ai @a122a (ai @a122b p_spec_JoinProps_tf.down))))))))))))))))))))))))))))))))
                try refine st_by ff ?_
                repeat' (first | exact trivial | refine And.intro sd ?_)
                refine Back.intro (i_2 + 1, (out_70 ++ [(⟨x_2, v105.1⟩ : GProp)]), out_71) ?_ ?_
                · clear ff; rw [hM_2]; show paths_20.length - (i_2 + 1) < paths_20.length - i_2; omega
                rw [hI_2]
                refine ⟨⟨by clear ff; show i_2 + 1 ≤ paths_20.length; omega, by show p_spec_JoinProps_l2 base_a0 ours_a1 theirs_a2 (paths_20.drop (i_2 + 1)) (i_2 + 1) (out_70 ++ [(⟨x_2, v105.1⟩ : GProp)]) out_71 = some q_2; rw [hd_2]; exact h_2⟩, ?_⟩
                exact p_spec_JoinProps_pv ff trivial
              have hrt_3 := fun σ : ASt => congrFun (congrFun hk_3.symm AX.rt) σ
              have hex_3 := fun (i : Nat) (σ : ASt) => congrFun (congrFun hk_3.symm (AX.ex i)) σ
              by_cases c126 : we_106 = true
              case neg =>
               rw [if_neg c126] at h_2
               have dc126 := eq_false_of_ne_true c126
               have ff := ai @dc3 (ai @dr_2 (ai @w_2 (ai @kk2c (ai @kk2d (ai @kk2g0 (ai @g0_j2 (ai @g1_j2 (ai @g2_j2 (ai @g3_j2 (ai @g4_j2 (ai @g5_j2 (ai @g6_j2 (ai @g7_j2 (ai @g8_j2 (ai @g9_j2 (ai @g10_j2 (ai @g11_j2 (ai @g12_j2 (ai @g13_j2 (ai @g14_j2 (ai @g15_j2 (ai @g16_j2 (ai @g17_j2 (ai @g18_j2 (ai @g19_j2 (ai @hrt_3 (ai @hex_3 (ai @dc126 p_spec_JoinProps_tf.down))))))))))))))))))))))))))))
               try refine st_by ff ?_
               repeat' (first | exact trivial | refine And.intro sd ?_)
               refine key_3 _ ?_
               refine ⟨false, h_2, ?_⟩
               exact p_spec_JoinProps_pv ff trivial
              rw [if_pos c126] at h_2
              have dc126 := c126
              by_cases c127 : they_107 = true
              case neg =>
               rw [if_neg c127] at h_2
               have dc127 := eq_false_of_ne_true c127
               have ff := ai @dc3 (ai @dr_2 (ai @w_2 (ai @kk2c (ai @kk2d (ai @kk2g0 (ai @g0_j2 (ai @g1_j2 (ai @g2_j2 (ai @g3_j2 (ai @g4_j2 (ai @g5_j2 (ai @g6_j2 (ai @g7_j2 (ai @g8_j2 (ai @g9_j2 (ai @g10_j2 (ai @g11_j2 (ai @g12_j2 (ai @g13_j2 (ai @g14_j2 (ai @g15_j2 (ai @g16_j2 (ai @g17_j2 (ai @g18_j2 (ai @g19_j2 (ai @hrt_3 (ai @hex_3 (ai @dc126 (ai @dc127 p_spec_JoinProps_tf.down)))))))))))))))))))))))))))))
               try refine st_by ff ?_
               repeat' (first | exact trivial | refine And.intro sd ?_)
               refine key_3 _ ?_
               refine ⟨false, h_2, ?_⟩
               exact p_spec_JoinProps_pv ff trivial
              rw [if_pos c127] at h_2
              have dc127 := c127
              by_cases c128 : (v104.2 == v105.2) = true
              case neg =>
               rw [if_neg c128] at h_2
               have dc128 := eq_false_of_ne_true c128
               have ff := ai @dc3 (ai @dr_2 (ai @w_2 (ai @kk2c (ai @kk2d (ai @kk2g0 (ai @g0_j2 (ai @g1_j2 (ai @g2_j2 (ai @g3_j2 (ai @g4_j2 (ai @g5_j2 (ai @g6_j2 (ai @g7_j2 (ai @g8_j2 (ai @g9_j2 (ai @g10_j2 (ai @g11_j2 (ai @g12_j2 (ai @g13_j2 (ai @g14_j2 (ai @g15_j2 (ai @g16_j2 (ai @g17_j2 (ai @g18_j2 (ai @g19_j2 (ai @hrt_3 (ai @hex_3 (ai @dc126 (ai @dc127 (ai @dc128 p_spec_JoinProps_tf.down))))))))))))))))))))))))))))))
               try refine st_by ff ?_
               repeat' (first | exact trivial | refine And.intro sd ?_)
               refine key_3 _ ?_
               refine ⟨true, h_2, ?_⟩
               exact p_spec_JoinProps_pv ff trivial
              rw [if_pos c128] at h_2
              have dc128 := c128
              have ff := ai @dc3 (ai @dr_2 (ai @w_2 (ai @kk2c (ai @kk2d (ai @kk2g0 (ai @g0_j2 (ai @g1_j2 (ai @g2_j2 (ai @g3_j2 (ai @g4_j2 (ai @g5_j2 (ai @g6_j2 (ai @g7_j2 (ai @g8_j2 (ai @g9_j2 (ai @g10_j2 (ai @g11_j2 (ai @g12_j2 (ai @g13_j2 (ai @g14_j2 (ai @g15_j2 (ai @g16_j2 (ai @g17_j2 (ai @g18_j2 (ai @g19_j2 (ai @hrt_3 (ai @hex_3 (ai @dc126 (ai @dc127 (ai @dc128 p_spec_JoinProps_tf.down))))))))))))))))))))))))))))))
              try refine st_by ff ?_
              repeat' (first | exact trivial | refine And.intro sd ?_)
              refine key_3 _ ?_
              refine ⟨!(decide (v104.1 = v105.1)), h_2, ?_⟩
              exact p_spec_JoinProps_pv ff trivial
            have hrt_2 := fun σ : ASt => congrFun (congrFun hk_2.symm AX.rt) σ
            have hex_2 := fun (i : Nat) (σ : ASt) => congrFun (congrFun hk_2.symm (AX.ex i)) σ
            by_cases c129 : (v105.2 == v103.2) = true
            case neg =>
             rw [if_neg c129] at h_2
             have dc129 := eq_false_of_ne_true c129
             have ff := ai @dc3 (ai @dr_2 (ai @w_2 (ai @kk2c (ai @kk2d (ai @kk2g0 (ai @g0_j1 (ai @g1_j1 (ai @g2_j1 (ai @g3_j1 (ai @g4_j1 (ai @g5_j1 (ai @g6_j1 (ai @g7_j1 (ai @g8_j1 (ai @g9_j1 (ai @g10_j1 (ai @g11_j1 (ai @g12_j1 (ai @g13_j1 (ai @g14_j1 (ai @g15_j1 (ai @g16_j1 (ai @g17_j1 (ai @g18_j1 (ai @hrt_2 (ai @hex_2 (ai @dc129 p_spec_JoinProps_tf.down)))))))))))))))))))))))))))
             try refine st_by ff ?_
             repeat' (first | exact trivial | refine And.intro sd ?_)
             refine key_2 _ ?_
             refine ⟨true, h_2, ?_⟩
             exact p_spec_JoinProps_pv ff trivial
            rw [if_pos c129] at h_2
            have dc129 := c129
            have ff := ai @dc3 (ai @dr_2 (ai @w_2 (ai @kk2c (ai @kk2d (ai @kk2g0 (ai @g0_j1 (ai @g1_j1 (ai @g2_j1 (ai @g3_j1 (ai @g4_j1 (ai @g5_j1 (ai @g6_j1 (ai @g7_j1 (ai @g8_j1 (ai @g9_j1 (ai @g10_j1 (ai @g11_j1 (ai @g12_j1 (ai @g13_j1 (ai @g14_j1 (ai @g15_j1 (ai @g16_j1 (ai @g17_j1 (ai @g18_j1 (ai @hrt_2 (ai @hex_2 (ai @dc129 p_spec_JoinProps_tf.down)))))))))))))))))))))))))))
            try refine st_by ff ?_
            repeat' (first | exact trivial | refine And.intro sd ?_)
            refine key_2 _ ?_
            refine ⟨!(decide (v105.1 = v103.1)), h_2, ?_⟩
            exact p_spec_JoinProps_pv ff trivial
          have hrt_1 := fun σ : ASt => congrFun (congrFun hk_1.symm AX.rt) σ
          have hex_1 := fun (i : Nat) (σ : ASt) => congrFun (congrFun hk_1.symm (AX.ex i)) σ
          by_cases c130 : (v104.2 == v103.2) = true
          case neg =>
           rw [if_neg c130] at h_2
           have dc130 := eq_false_of_ne_true c130
           have ff := ai @dc3 (ai @dr_2 (ai @w_2 (ai @g0_2 (ai @g1_2 (ai @g2_2 (ai @g3_2 (ai @g4_2 (ai @g5_2 (ai @g6_2 (ai @g7_2 (ai @g8_2 (ai @g9_2 (ai @g10_2 (ai @kk2c (ai @kk2d (ai @kk2g0 (ai @hrt_1 (ai @hex_1 (ai @dc130 p_spec_JoinProps_tf.down)))))))))))))))))))
           try refine st_by ff ?_
           repeat' (first | exact trivial | refine And.intro sd ?_)
           refine key_1 _ ?_
           refine ⟨true, h_2, ?_⟩
           exact p_spec_JoinProps_pv ff trivial
          rw [if_pos c130] at h_2
          have dc130 := c130
          have ff := ai @dc3 (ai @dr_2 (ai @w_2 (ai @g0_2 (ai @g1_2 (ai @g2_2 (ai @g3_2 (ai @g4_2 (ai @g5_2 (ai @g6_2 (ai @g7_2 (ai @g8_2 (ai @g9_2 (ai @g10_2 (ai @kk2c (ai @kk2d (ai @kk2g0 (ai @hrt_1 (ai @hex_1 (ai @dc130 p_spec_JoinProps_tf.down)))))))))))))))))))
          try refine st_by ff ?_
          repeat' (first | exact trivial | refine And.intro sd ?_)
          refine key_1 _ ?_
          refine ⟨!(decide (v104.1 = v103.1)), h_2, ?_⟩
          exact p_spec_JoinProps_pv ff trivial
      · try clear ff
        rintro σ hg_2
        rw [hJ_2] at hg_2
        obtain ⟨out_70, out_71, hj_2, g0_2a, g1_2a, g2_2a, g3_2a⟩ := hg_2
        cases hj_2
        try dsimp only at h
        by_cases c131 : (out_70.length : Int) > 40
        case neg =>
         rw [if_neg c131] at h
         have dc131 := decide_eq_false c131
         have ff := ai @dc3 (ai @g0_2a (ai @g1_2a (ai @g2_2a (ai @g3_2a (ai @dc131 p_spec_JoinProps_tf.down)))))
         try refine st_by ff ?_
         repeat' (first | exact trivial | refine And.intro sd ?_)
         cases h
         exact ret_q2 rfl (p_spec_JoinProps_rt ff trivial)
        rw [if_pos c131] at h
        have dc131 := decide_eq_true c131
        have ff := ai @dc3 (ai @g0_2a (ai @g1_2a (ai @g2_2a (ai @g3_2a (ai @dc131 p_spec_JoinProps_tf.down)))))
        try refine st_by ff ?_
        repeat' (first | exact trivial | refine And.intro sd ?_)
        cases h
        exact ret_q2 rfl (p_spec_JoinProps_rt ff trivial)
  have hrt_0 := fun σ : ASt => congrFun (congrFun hk_0.symm AX.rt) σ
  have hex_0 := fun (i : Nat) (σ : ASt) => congrFun (congrFun hk_0.symm (AX.ex i)) σ
  by_cases c132 : v1 = true
  case neg =>
   rw [if_neg c132] at h
   have dc132 := eq_false_of_ne_true c132
   have ff := ai @hrt_0 (ai @hex_0 (ai @dc132 p_spec_JoinProps_tf.down))
   try refine st_by ff ?_
   repeat' (first | exact trivial | refine And.intro sd ?_)
   refine key_0 _ ?_
   refine ⟨true, h, ?_⟩
   exact p_spec_JoinProps_pv ff trivial
  rw [if_pos c132] at h
  have dc132 := c132
  obtain ⟨v133, ev133, h⟩ := Option.bind_eq_some_iff.1 h
  try dsimp only at h
  have ff := ai @hrt_0 (ai @hex_0 (ai @dc132 p_spec_JoinProps_tf.down))
  try refine st_by ff ?_
  repeat' (first | exact trivial | refine And.intro sd ?_)
  first
  | (refine cq_call (p_spec_GoodProps_does N ours_a1 v133 ev133) (hf_by ff) kr ⟨p_spec_JoinProps_sa ff trivial, ?_⟩; clear ff)
  by_cases c134 : v133 = true
  case neg =>
   rw [if_neg c134] at h
   have dc134 := eq_false_of_ne_true c134
   have ff := ai @hrt_0 (ai @hex_0 (ai @dc132 (ai @dc134 p_spec_JoinProps_tf.down)))
   try refine st_by ff ?_
   repeat' (first | exact trivial | refine And.intro sd ?_)
   refine key_0 _ ?_
   refine ⟨true, h, ?_⟩
   exact p_spec_JoinProps_pv ff trivial
  rw [if_pos c134] at h
  have dc134 := c134
  obtain ⟨v135, ev135, h⟩ := Option.bind_eq_some_iff.1 h
  try dsimp only at h
  have ff := ai @hrt_0 (ai @hex_0 (ai @dc132 (ai @dc134 p_spec_JoinProps_tf.down)))
  try refine st_by ff ?_
  repeat' (first | exact trivial | refine And.intro sd ?_)
  first
  | (refine cq_call (p_spec_GoodProps_does N theirs_a2 v135 ev135) (hf_by ff) kr ⟨p_spec_JoinProps_sa ff trivial, ?_⟩; clear ff)
  have ff := ai @hrt_0 (ai @hex_0 (ai @dc132 (ai @dc134 p_spec_JoinProps_tf.down)))
  try refine st_by ff ?_
  repeat' (first | exact trivial | refine And.intro sd ?_)
  refine key_0 _ ?_
  refine ⟨!v135, h, ?_⟩
  exact p_spec_JoinProps_pv ff trivial
/-! impl.stateAt -/
theorem p_impl_stateAt_sa {F C A : Prop} (hF : F) (hC : C) (h : F → C → A := by intro hF hC; first | exact ca_by hF | (refine sa_by hF ?_; (repeat' (first | exact trivial | apply And.intro)); all_goals (clear hF; first | rfl | (simp only [hC, List.length_append, List.length_cons, List.length_nil, List.append_nil, List.nil_append, List.cons_append, List.length_set, List.append_assoc, Nat.zero_add, List.length_replicate, esProp_app, esProp_cons, esProp_nil, eProp_eq, esstate_app, esstate_cons, esstate_nil, estate_eq]; done) | (simp [hC, List.length_append, List.length_cons, List.length_nil, List.append_nil, List.nil_append, List.cons_append, List.length_set, List.append_assoc, Nat.zero_add, List.length_replicate, esProp_app, esProp_cons, esProp_nil, eProp_eq, esstate_app, esstate_cons, esstate_nil, estate_eq]; done) | omega))) : A := h hF hC
theorem p_impl_stateAt_rt {F C A : Prop} (hF : F) (hC : C) (h : F → C → A := by intro hF hC; first | (refine sr_by hF ?_; (repeat' (first | exact trivial | apply And.intro)); all_goals (clear hF; first | rfl | (simp only [hC, List.length_append, List.length_cons, List.length_nil, List.append_nil, List.nil_append, List.cons_append, List.length_set, List.append_assoc, Nat.zero_add, List.length_replicate, esProp_app, esProp_cons, esProp_nil, eProp_eq, esstate_app, esstate_cons, esstate_nil, estate_eq]; done) | (simp [hC, List.length_append, List.length_cons, List.length_nil, List.append_nil, List.nil_append, List.cons_append, List.length_set, List.append_assoc, Nat.zero_add, List.length_replicate, esProp_app, esProp_cons, esProp_nil, eProp_eq, esstate_app, esstate_cons, esstate_nil, estate_eq]; done) | omega)) | (first | rfl | (simp only [hC, List.length_append, List.length_cons, List.length_nil, List.append_nil, List.nil_append, List.cons_append, List.length_set, List.append_assoc, Nat.zero_add, List.length_replicate, esProp_app, esProp_cons, esProp_nil, eProp_eq, esstate_app, esstate_cons, esstate_nil, estate_eq]; done) | (simp [hC, List.length_append, List.length_cons, List.length_nil, List.append_nil, List.nil_append, List.cons_append, List.length_set, List.append_assoc, Nat.zero_add, List.length_replicate, esProp_app, esProp_cons, esProp_nil, eProp_eq, esstate_app, esstate_cons, esstate_nil, estate_eq]; done) | omega)) : A := h hF hC
def p_impl_stateAt_tf := PLift.up (ai @eProp_eq (ai @esProp_len (ai @esProp_nil (ai @esProp_leaf (ai @esProp_fit (ai @estate_eq (ai @esstate_len (ai @esstate_nil (ai @esstate_leaf (ai @esstate_fit (ai @esProp_share (ai @esProp_pure (ai @esstate_share (ai @esstate_pure (ai @str_beq (ai @Ty.nz74 (ai @Ty.ldA74 (ai @Ty.sz74 (ai @Ty.szn74 (ai @Ty.zv74 (ai @Ty.bd74 (ai @Ty.pl74_0 (ai @Ty.pl74_1 (ai @Ty.ag74 @trivial))))))))))))))))))))))))
def p_impl_stateAt (N : Nat) (l_a0 : List GProp) (path_a1 : ByteArray) : Option (Gstate) := ((p_impl_propAt N l_a0 path_a1).bind fun v1 => some (⟨v1.1, v1.2⟩ : Gstate))
theorem p_impl_stateAt_does (N : Nat) (l_a0 : List GProp) (path_a1 : ByteArray) (r : Gstate) (h : p_impl_stateAt N l_a0 path_a1 = some r) : Does Tryd.prog 45 [.row false 2 l_a0.length (esProp l_a0), S path_a1] (.agg (estate r)) := by
  rw [p_impl_stateAt] at h
  refine Does.bnd (fun hb => ?_)
  have hb2 : l_a0.length ≤ 9223372036854775807 := by simpa [AV.fitNs, AV.fitN] using hb
  have hl0 := hb2
  refine Does.walk (nt := 16) Tryd.func45 rfl rfl (by simp) (by decide) rfl (fun G0 X w0 pv => ?_)
  obtain ⟨v1, ev1, h⟩ := Option.bind_eq_some_iff.1 h
  try dsimp only at h
  have ff := p_impl_stateAt_tf.down
  try refine st_by ff ?_
  repeat' (first | exact trivial | refine And.intro sd ?_)
  first
  | (refine cq_call (p_impl_propAt_does N l_a0 path_a1 v1 ev1) (hf_by ff) kr ⟨p_impl_stateAt_sa ff trivial, ?_⟩; clear ff)
  have ff := p_impl_stateAt_tf.down
  try refine st_by ff ?_
  repeat' (first | exact trivial | refine And.intro sd ?_)
  cases h
  exact ret_q1 rfl (p_impl_stateAt_rt ff trivial)
/-! impl.JoinProps -/
def p_impl_JoinProps_l0 : List GProp → Nat → (List ByteArray) → Option ((List ByteArray))
  | [], i_0, paths_9 => some paths_9
  | x_0 :: r_0, i_0, paths_9 => (if paths_9.length < 4294967296 then p_impl_JoinProps_l0 r_0 (i_0 + 1) (paths_9 ++ [x_0.Path]) else none)
def p_impl_JoinProps_j1 (out_34 : List GProp) (out_35 : List ByteArray) (x_1 : ByteArray) (i_1 : Nat) (v57 : Gstate) (v58 : Gstate) (v59 : Gstate) (rec_0 : Nat → (List GProp) → (List ByteArray) → Option ((List GProp) × (List ByteArray))) (b_60 : Bool) : Option ((List GProp) × (List ByteArray)) := (if b_60 = true then (if v58.has = true then (if out_34.length < 4294967296 then rec_0 (i_1 + 1) (out_34 ++ [(⟨x_1, v58.value⟩ : GProp)]) out_35 else none) else rec_0 (i_1 + 1) out_34 out_35) else (if (decide (v58.value = v57.value) && (v58.has == v57.has)) = true then (if v59.has = true then (if out_34.length < 4294967296 then rec_0 (i_1 + 1) (out_34 ++ [(⟨x_1, v59.value⟩ : GProp)]) out_35 else none) else rec_0 (i_1 + 1) out_34 out_35) else (if out_35.length < 4294967296 then (if v57.has = true then (if out_34.length < 4294967296 then rec_0 (i_1 + 1) (out_34 ++ [(⟨x_1, v57.value⟩ : GProp)]) (out_35 ++ [x_1]) else none) else rec_0 (i_1 + 1) out_34 (out_35 ++ [x_1])) else none)))
def p_impl_JoinProps_l1 (N : Nat) (base_a0 : List GProp) (ours_a1 : List GProp) (theirs_a2 : List GProp) : List ByteArray → Nat → (List GProp) → (List ByteArray) → Option ((List GProp) × (List ByteArray))
  | [], i_1, out_34, out_35 => some (out_34, out_35)
  | x_1 :: r_1, i_1, out_34, out_35 => ((p_impl_stateAt N base_a0 x_1).bind fun v57 => ((p_impl_stateAt N ours_a1 x_1).bind fun v58 => ((p_impl_stateAt N theirs_a2 x_1).bind fun v59 => (if (decide (v58.value = v59.value) && (v58.has == v59.has)) = true then p_impl_JoinProps_j1 out_34 out_35 x_1 i_1 v57 v58 v59 (p_impl_JoinProps_l1 N base_a0 ours_a1 theirs_a2 r_1) true else p_impl_JoinProps_j1 out_34 out_35 x_1 i_1 v57 v58 v59 (p_impl_JoinProps_l1 N base_a0 ours_a1 theirs_a2 r_1) (decide (v59.value = v57.value) && (v59.has == v57.has))))))
def p_impl_JoinProps_j0 (N : Nat) (base_a0 : List GProp) (ours_a1 : List GProp) (theirs_a2 : List GProp) (b_2 : Bool) : Option (GJoined × Bool) := (if b_2 = true then some ((⟨([] : List GProp), ([] : List ByteArray)⟩ : GJoined), false) else ((p_slices_Concat_impl_Prop_impl_Prop ([base_a0, ours_a1, theirs_a2] : List (List GProp))).bind fun v4 => ((p_impl_JoinProps_l0 v4 0 ([] : List ByteArray)).bind fun q_0 => match q_0 with | paths_9 => ((sortP paths_9).bind fun v17 => ((compP v17).bind fun v19 => ((p_impl_JoinProps_l1 N base_a0 ours_a1 theirs_a2 v19 0 ([] : List GProp) ([] : List ByteArray)).bind fun q_1 => match q_1 with | (out_34, out_35) => (if (out_34.length : Int) > 40 then some ((⟨([] : List GProp), ([] : List ByteArray)⟩ : GJoined), false) else some ((⟨out_34, out_35⟩ : GJoined), true))))))))
theorem p_impl_JoinProps_pv {F C A : Prop} (hF : F) (hC : C) (h : F → C → A := by intro hF hC; first | exact cl_by hF | (refine st_by hF ?_; (repeat' (first | exact trivial | apply And.intro)); all_goals (clear hF; first | rfl | (simp only [hC, List.length_append, List.length_cons, List.length_nil, List.append_nil, List.nil_append, List.cons_append, List.length_set, List.append_assoc, Nat.zero_add, List.length_replicate, esStr_app, esStr_cons, esStr_nil, eStr_eq, esLProp_app, esLProp_cons, esLProp_nil, eLProp_eq, esLPropo_app, esLPropo_cons, esLPropo_nil, eLPropo_eq, esJoined_app, esJoined_cons, esJoined_nil, eJoined_eq, esJoinedo_app, esJoinedo_cons, esJoinedo_nil, eJoinedo_eq, esProp_app, esProp_cons, esProp_nil, eProp_eq, esstate_app, esstate_cons, esstate_nil, estate_eq]; done) | (simp [hC, List.length_append, List.length_cons, List.length_nil, List.append_nil, List.nil_append, List.cons_append, List.length_set, List.append_assoc, Nat.zero_add, List.length_replicate, esStr_app, esStr_cons, esStr_nil, eStr_eq, esLProp_app, esLProp_cons, esLProp_nil, eLProp_eq, esLPropo_app, esLPropo_cons, esLPropo_nil, eLPropo_eq, esJoined_app, esJoined_cons, esJoined_nil, eJoined_eq, esJoinedo_app, esJoinedo_cons, esJoinedo_nil, eJoinedo_eq, esProp_app, esProp_cons, esProp_nil, eProp_eq, esstate_app, esstate_cons, esstate_nil, estate_eq]; done) | omega))) : A := h hF hC
theorem p_impl_JoinProps_sa {F C A : Prop} (hF : F) (hC : C) (h : F → C → A := by intro hF hC; first | exact ca_by hF | (refine sa_by hF ?_; (repeat' (first | exact trivial | apply And.intro)); all_goals (clear hF; first | rfl | (simp only [hC, List.length_append, List.length_cons, List.length_nil, List.append_nil, List.nil_append, List.cons_append, List.length_set, List.append_assoc, Nat.zero_add, List.length_replicate, esStr_app, esStr_cons, esStr_nil, eStr_eq, esLProp_app, esLProp_cons, esLProp_nil, eLProp_eq, esLPropo_app, esLPropo_cons, esLPropo_nil, eLPropo_eq, esJoined_app, esJoined_cons, esJoined_nil, eJoined_eq, esJoinedo_app, esJoinedo_cons, esJoinedo_nil, eJoinedo_eq, esProp_app, esProp_cons, esProp_nil, eProp_eq, esstate_app, esstate_cons, esstate_nil, estate_eq]; done) | (simp [hC, List.length_append, List.length_cons, List.length_nil, List.append_nil, List.nil_append, List.cons_append, List.length_set, List.append_assoc, Nat.zero_add, List.length_replicate, esStr_app, esStr_cons, esStr_nil, eStr_eq, esLProp_app, esLProp_cons, esLProp_nil, eLProp_eq, esLPropo_app, esLPropo_cons, esLPropo_nil, eLPropo_eq, esJoined_app, esJoined_cons, esJoined_nil, eJoined_eq, esJoinedo_app, esJoinedo_cons, esJoinedo_nil, eJoinedo_eq, esProp_app, esProp_cons, esProp_nil, eProp_eq, esstate_app, esstate_cons, esstate_nil, estate_eq]; done) | omega))) : A := h hF hC
theorem p_impl_JoinProps_rt {F C A : Prop} (hF : F) (hC : C) (h : F → C → A := by intro hF hC; first | (refine sr_by hF ?_; (repeat' (first | exact trivial | apply And.intro)); all_goals (clear hF; first | rfl | (simp only [hC, List.length_append, List.length_cons, List.length_nil, List.append_nil, List.nil_append, List.cons_append, List.length_set, List.append_assoc, Nat.zero_add, List.length_replicate, esStr_app, esStr_cons, esStr_nil, eStr_eq, esLProp_app, esLProp_cons, esLProp_nil, eLProp_eq, esLPropo_app, esLPropo_cons, esLPropo_nil, eLPropo_eq, esJoined_app, esJoined_cons, esJoined_nil, eJoined_eq, esJoinedo_app, esJoinedo_cons, esJoinedo_nil, eJoinedo_eq, esProp_app, esProp_cons, esProp_nil, eProp_eq, esstate_app, esstate_cons, esstate_nil, estate_eq]; done) | (simp [hC, List.length_append, List.length_cons, List.length_nil, List.append_nil, List.nil_append, List.cons_append, List.length_set, List.append_assoc, Nat.zero_add, List.length_replicate, esStr_app, esStr_cons, esStr_nil, eStr_eq, esLProp_app, esLProp_cons, esLProp_nil, eLProp_eq, esLPropo_app, esLPropo_cons, esLPropo_nil, eLPropo_eq, esJoined_app, esJoined_cons, esJoined_nil, eJoined_eq, esJoinedo_app, esJoinedo_cons, esJoinedo_nil, eJoinedo_eq, esProp_app, esProp_cons, esProp_nil, eProp_eq, esstate_app, esstate_cons, esstate_nil, estate_eq]; done) | omega)) | (first | rfl | (simp only [hC, List.length_append, List.length_cons, List.length_nil, List.append_nil, List.nil_append, List.cons_append, List.length_set, List.append_assoc, Nat.zero_add, List.length_replicate, esStr_app, esStr_cons, esStr_nil, eStr_eq, esLProp_app, esLProp_cons, esLProp_nil, eLProp_eq, esLPropo_app, esLPropo_cons, esLPropo_nil, eLPropo_eq, esJoined_app, esJoined_cons, esJoined_nil, eJoined_eq, esJoinedo_app, esJoinedo_cons, esJoinedo_nil, eJoinedo_eq, esProp_app, esProp_cons, esProp_nil, eProp_eq, esstate_app, esstate_cons, esstate_nil, estate_eq]; done) | (simp [hC, List.length_append, List.length_cons, List.length_nil, List.append_nil, List.nil_append, List.cons_append, List.length_set, List.append_assoc, Nat.zero_add, List.length_replicate, esStr_app, esStr_cons, esStr_nil, eStr_eq, esLProp_app, esLProp_cons, esLProp_nil, eLProp_eq, esLPropo_app, esLPropo_cons, esLPropo_nil, eLPropo_eq, esJoined_app, esJoined_cons, esJoined_nil, eJoined_eq, esJoinedo_app, esJoinedo_cons, esJoinedo_nil, eJoinedo_eq, esProp_app, esProp_cons, esProp_nil, eProp_eq, esstate_app, esstate_cons, esstate_nil, estate_eq]; done) | omega)) : A := h hF hC
def p_impl_JoinProps_tf := PLift.up (ai @eStr_eq (ai @esStr_len (ai @esStr_nil (ai @esStr_leaf (ai @esStr_fit (ai @eLProp_eq (ai @esLProp_len (ai @esLProp_nil (ai @esLProp_leaf (ai @esLProp_fit (ai @eLPropo_eq (ai @esLPropo_len (ai @esLPropo_nil (ai @eJoined_eq (ai @esJoined_len (ai @esJoined_nil (ai @esJoined_leaf (ai @esJoined_fit (ai @eJoinedo_eq (ai @esJoinedo_len (ai @esJoinedo_nil (ai @eProp_eq (ai @esProp_len (ai @esProp_nil (ai @esProp_leaf (ai @esProp_fit (ai @estate_eq (ai @esstate_len (ai @esstate_nil (ai @esstate_leaf (ai @esstate_fit (ai @esStr_share (ai @esStr_pure (ai @esLPropo_share (ai @esLPropo_pure (ai @esLProp_share (ai @esJoinedo_share (ai @esJoinedo_pure (ai @esJoined_share (ai @esProp_share (ai @esProp_pure (ai @esstate_share (ai @esstate_pure (ai @str_beq (ai @binS_agg (ai (@aggState) (ai @Ty.sl24 (ai @Ty.slz24 (ai @Ty.sl39 (ai @Ty.slz39 (ai @Ty.nz41 (ai @Ty.ldA41 (ai @Ty.sz41 (ai @Ty.szn41 (ai @Ty.nz59 (ai @Ty.ldA59 (ai @Ty.sz59 (ai @Ty.szn59 (ai @Ty.nz9 (ai @Ty.ldA9 (ai @Ty.ldS9 (ai @Ty.sz9 (ai @Ty.szn9 (ai @Ty.nz74 (ai @Ty.ldA74 (ai @Ty.sz74 (ai @Ty.szn74 (ai @Ty.nz39 (ai @Ty.ldA39 (ai @Ty.ldS39 (ai @Ty.sz39 (ai @Ty.szn39 (ai @Ty.nz4 (ai @Ty.ldA4 (ai @Ty.ldS4 (ai @Ty.sz4 (ai @Ty.szn4 (ai @Ty.nz24 (ai @Ty.ldA24 (ai @Ty.ldS24 (ai @Ty.sz24 (ai @Ty.szn24 (ai @Ty.fo59_0 (ai @Ty.fk59_0 (ai @Ty.fs59_0 (ai @Ty.fn59_0 (ai @Ty.fo41_1 (ai @Ty.fk41_1 (ai @Ty.fs41_1 (ai @Ty.fn41_1 (ai @Ty.fo74_1 (ai @Ty.fk74_1 (ai @Ty.fs74_1 (ai @Ty.fn74_1 (ai @Ty.fo41_0 (ai @Ty.fk41_0 (ai @Ty.fs41_0 (ai @Ty.fn41_0 (ai @Ty.fo74_0 (ai @Ty.fk74_0 (ai @Ty.fs74_0 (ai @Ty.fn74_0 (ai @Ty.nze39 (ai @Ty.zok39 (ai @Ty.by39 (ai @Ty.zs39 (ai @Ty.nze68 (ai @Ty.sl68 (ai @Ty.slz68 (ai @Ty.zok68 (ai @Ty.by68 (ai @Ty.zs68 (ai @Ty.nze24 (ai @Ty.zok24 (ai @Ty.by24 (ai @Ty.zs24 (ai @Ty.zv41 (ai @Ty.zv59 (ai @Ty.zv74 (ai @Ty.bd41 (ai @Ty.bd59 (ai @Ty.pl59_0 (ai @Ty.pl59_1 (ai @Ty.ag41 @trivial))))))))))))))))))))))))))))))))))))))))))))))))))))))))))))))))))))))))))))))))))))))))))))))))))))))))))))))))))))))))))))
def p_impl_JoinProps (N : Nat) (base_a0 : List GProp) (ours_a1 : List GProp) (theirs_a2 : List GProp) : Option (GJoined × Bool) := ((p_impl_GoodProps base_a0).bind fun v1 => (if v1 = true then ((p_impl_GoodProps ours_a1).bind fun v77 => (if v77 = true then ((p_impl_GoodProps theirs_a2).bind fun v79 => p_impl_JoinProps_j0 N base_a0 ours_a1 theirs_a2 (!v79)) else p_impl_JoinProps_j0 N base_a0 ours_a1 theirs_a2 true)) else p_impl_JoinProps_j0 N base_a0 ours_a1 theirs_a2 true))
theorem p_impl_JoinProps_does (N : Nat) (base_a0 : List GProp) (ours_a1 : List GProp) (theirs_a2 : List GProp) (r : GJoined × Bool) (h : p_impl_JoinProps N base_a0 ours_a1 theirs_a2 = some r) : Does Tryd.prog 20 [.row false 2 base_a0.length (esProp base_a0), .row false 2 ours_a1.length (esProp ours_a1), .row false 2 theirs_a2.length (esProp theirs_a2)] (.tup [.agg (eJoinedo r.1), B r.2]) := by
  rw [p_impl_JoinProps] at h
  refine Does.bnd (fun hb => ?_)
  have hb2 : base_a0.length ≤ 9223372036854775807 ∧ ours_a1.length ≤ 9223372036854775807 ∧ theirs_a2.length ≤ 9223372036854775807 := by simpa [AV.fitNs, AV.fitN] using hb
  obtain ⟨hl0, hl1, hl2⟩ := hb2
  refine Does.walk (nt := 108) Tryd.func20 rfl rfl (by simp) (by decide) rfl (fun G0 X w0 pv => ?_)
  obtain ⟨v1, ev1, h⟩ := Option.bind_eq_some_iff.1 h
  try dsimp only at h
  have ff := p_impl_JoinProps_tf.down
  try refine st_by ff ?_
  repeat' (first | exact trivial | refine And.intro sd ?_)
  first
  | (refine cq_call (p_impl_GoodProps_does base_a0 v1 ev1) (hf_by ff) kr ⟨p_impl_JoinProps_sa ff trivial, ?_⟩; clear ff)
  have ff := p_impl_JoinProps_tf.down
  try refine st_by ff ?_
  repeat' (first | exact trivial | refine And.intro sd ?_)
  try clear ff
  generalize hk_0 : thenK _ _ = kk_0
  have key_0 : ∀ σ, (∃ b_2 : Bool, (p_impl_JoinProps_j0 N base_a0 ours_a1 theirs_a2 b_2 = some r) ∧ σ.t 0 = .row false 2 base_a0.length (esProp base_a0) ∧ σ.t 1 = .row false 2 ours_a1.length (esProp ours_a1) ∧ σ.t 2 = .row false 2 theirs_a2.length (esProp theirs_a2) ∧ σ.t 6 = .ptr 6 [] 0 ∧ σ.t 30 = B b_2 ∧ σ.m 6 = some (.box true [.row true 2 0 [], .row true 1 0 []])) → kk_0 .nm σ := by
    rintro σ ⟨b_2, h, g0_j0, g1_j0, g2_j0, g3_j0, g4_j0, g5_j0⟩
    rw [← hk_0]
    rw [p_impl_JoinProps_j0] at h
    by_cases c3 : b_2 = true
    · rw [if_pos c3] at h
      have dc3 := c3
      have ff := ai @g0_j0 (ai @g1_j0 (ai @g2_j0 (ai @g3_j0 (ai @g4_j0 (ai @g5_j0 (ai @dc3 p_impl_JoinProps_tf.down))))))
      try refine st_by ff ?_
      repeat' (first | exact trivial | refine And.intro sd ?_)
      cases h
      exact ret_q2 rfl (p_impl_JoinProps_rt ff trivial)
    rw [if_neg c3] at h
    have dc3 := eq_false_of_ne_true c3
    obtain ⟨v4, ev4, h⟩ := Option.bind_eq_some_iff.1 h
    try dsimp only at h
    have ff := ai @g0_j0 (ai @g1_j0 (ai @g2_j0 (ai @g3_j0 (ai @g4_j0 (ai @g5_j0 (ai @dc3 p_impl_JoinProps_tf.down))))))
    try refine st_by ff ?_
    repeat' (first | exact trivial | refine And.intro sd ?_)
    first
    | (refine cq_lendOwn (p_slices_Concat_impl_Prop_impl_Prop_does ([base_a0, ours_a1, theirs_a2] : List (List GProp)) v4 ev4) (hf_by ff) kr ⟨p_impl_JoinProps_sa ff trivial, ?_⟩; clear ff)
    obtain ⟨q_0, eq_0, h⟩ := Option.bind_eq_some_iff.1 h
    have ff := ai @g0_j0 (ai @g1_j0 (ai @g2_j0 (ai @g3_j0 (ai @g4_j0 (ai @g5_j0 (ai @dc3 p_impl_JoinProps_tf.down))))))
    try refine st_by ff ?_
    repeat' (first | exact trivial | refine And.intro sd ?_)
    refine aw_bnd (r := 37) (p := []) (sz := 2) (n := v4.length) (cs := esProp v4) (p_impl_JoinProps_pv ff trivial) (fun hL_0 => ?_)
    obtain ⟨I_0, hI_0⟩ : ∃ I_ : (Nat × (List ByteArray)) → ASt → Prop, I_ = (fun (a : Nat × (List ByteArray)) σ => match a with | (i_0, paths_9) => (i_0 ≤ v4.length ∧ p_impl_JoinProps_l0 (v4.drop i_0) i_0 paths_9 = some q_0) ∧ σ.t 0 = .row false 2 base_a0.length (esProp base_a0) ∧ σ.t 1 = .row false 2 ours_a1.length (esProp ours_a1) ∧ σ.t 2 = .row false 2 theirs_a2.length (esProp theirs_a2) ∧ σ.t 6 = .ptr 6 [] 0 ∧ σ.t 8 = .sl 8 [] 0 paths_9.length ∧ σ.t 37 = .sl 37 [] 0 v4.length ∧ σ.t 38 = I (v4.length : Int) ∧ σ.t 39 = I (i_0 : Int) ∧ σ.m 6 = some (.box true [.row true 2 0 [], .row true 1 0 []]) ∧ σ.m 8 = some (.row true 1 paths_9.length (esStr paths_9)) ∧ σ.m 37 = some (.row true 2 v4.length (esProp v4))) := ⟨_, rfl⟩
    obtain ⟨M_0, hM_0⟩ : ∃ M_ : (Nat × (List ByteArray)) → Nat, M_ = (fun (a : Nat × (List ByteArray)) => match a with | (i_0, paths_9) => v4.length - i_0) := ⟨_, rfl⟩
    obtain ⟨J_0, hJ_0⟩ : ∃ J_ : ASt → Prop, J_ = (fun σ => ∃ paths_9 : List ByteArray, (some paths_9 = some q_0) ∧ σ.t 0 = .row false 2 base_a0.length (esProp base_a0) ∧ σ.t 1 = .row false 2 ours_a1.length (esProp ours_a1) ∧ σ.t 2 = .row false 2 theirs_a2.length (esProp theirs_a2) ∧ σ.t 6 = .ptr 6 [] 0 ∧ σ.t 8 = .sl 8 [] 0 paths_9.length ∧ σ.m 6 = some (.box true [.row true 2 0 [], .row true 1 0 []]) ∧ σ.m 8 = some (.row true 1 paths_9.length (esStr paths_9))) := ⟨_, rfl⟩
    refine aw_loopC (id := 0) I_0 M_0 J_0 (0, ([] : List ByteArray)) ?_ ?_ ?_
    · rw [hI_0]
      refine ⟨⟨Nat.zero_le _, eq_0⟩, ?_⟩
      exact p_impl_JoinProps_pv ff trivial
    · try clear ff
      rintro ⟨i_0, paths_9⟩ σ hg_0
      rw [hI_0] at hg_0
      obtain ⟨⟨hi_0, h_0⟩, g0_0, g1_0, g2_0, g3_0, g4_0, g5_0, g6_0, g7_0, g8_0, g9_0, g10_0⟩ := hg_0
      cases hr_0 : v4.drop i_0 with
      | nil =>
        rw [hr_0] at h_0
        rw [p_impl_JoinProps_l0] at h_0
        have hn_0 := drop_nil hr_0
        have dr_0 : decide ((i_0 : Int) < (v4.length : Int)) = false := decide_eq_false (by omega)
        have ff := ai @dc3 (ai @dr_0 (ai @g0_0 (ai @g1_0 (ai @g2_0 (ai @g3_0 (ai @g4_0 (ai @g5_0 (ai @g6_0 (ai @g7_0 (ai @g8_0 (ai @g9_0 (ai @g10_0 p_impl_JoinProps_tf.down))))))))))))
        try refine st_by ff ?_
        repeat' (first | exact trivial | refine And.intro sd ?_)
        refine JW.intro ?_
        rw [hJ_0]
        refine ⟨paths_9, h_0, ?_⟩
        exact p_impl_JoinProps_pv ff trivial
      | cons x_0 r_0 =>
        rw [hr_0] at h_0
        rw [p_impl_JoinProps_l0] at h_0
        obtain ⟨ht_0, hg_0, hd_0⟩ := drop_cons hr_0
        have dr_0 : decide ((i_0 : Int) < (v4.length : Int)) = true := decide_eq_true (by omega)
        have w_0 : IntKind.i64.wrap ((i_0 : Int) + 1) = ((i_0 + 1 : Nat) : Int) := wI _ (by omega) (by omega)
        have kk0c : (esProp v4).drop (i_0 * 2) = eProp x_0 ++ esProp (v4.drop (i_0 + 1)) := drop_enc (fun _ => rfl) (hg_0)
        have kk0g0 : (esProp v4).getD (i_0 * 2) .junk = (eProp x_0).getD 0 .junk := getD_enc0 (enc := eProp) (sz := 2) (fun _ => rfl) (hg_0) (by decide)
        have kk0g1 : (esProp v4).getD (i_0 * 2 + 1) .junk = (eProp x_0).getD 1 .junk := getD_enc (enc := eProp) (sz := 2) (fun _ => rfl) (hg_0) (by decide)
        by_cases c15 : paths_9.length < 4294967296
        case neg => rw [if_neg c15] at h_0; cases h_0
        rw [if_pos c15] at h_0
        have a16a : esStr paths_9 ++ [S x_0.Path] = esStr (paths_9 ++ [x_0.Path]) := by simp [esStr_app, esStr_cons, esStr_nil, eStr_eq, esStr_nil, esLProp_nil, esJoined_nil, esProp_nil]
        have a16b : paths_9.length + 1 = (paths_9 ++ [x_0.Path]).length := by simp
        have ff := ai @dc3 (ai @dr_0 (ai @w_0 (ai @g0_0 (ai @g1_0 (ai @g2_0 (ai @g3_0 (ai @g4_0 (ai @g5_0 (ai @g6_0 (ai @g7_0 (ai @g8_0 (ai @g9_0 (ai @g10_0 (ai @kk0c (ai @kk0g0 (ai @kk0g1 (ai @a16a (ai @a16b p_impl_JoinProps_tf.down))))))))))))))))))
        try refine st_by ff ?_
        repeat' (first | exact trivial | refine And.intro sd ?_)
        refine Back.intro (i_0 + 1, (paths_9 ++ [x_0.Path])) ?_ ?_
        · clear ff; rw [hM_0]; show v4.length - (i_0 + 1) < v4.length - i_0; omega
        rw [hI_0]
        refine ⟨⟨by clear ff; show i_0 + 1 ≤ v4.length; omega, by show p_impl_JoinProps_l0 (v4.drop (i_0 + 1)) (i_0 + 1) (paths_9 ++ [x_0.Path]) = some q_0; rw [hd_0]; exact h_0⟩, ?_⟩
        exact p_impl_JoinProps_pv ff trivial
    · try clear ff
      rintro σ hg_0
      rw [hJ_0] at hg_0
      obtain ⟨paths_9, hj_0, g0_0a, g1_0a, g2_0a, g3_0a, g4_0a, g5_0a, g6_0a⟩ := hg_0
      have hjj_0 := Option.some.inj hj_0
      subst hjj_0
      try dsimp only at h
      obtain ⟨v17, ev17, h⟩ := Option.bind_eq_some_iff.1 h
      try dsimp only at h
      have ff := ai @dc3 (ai @g0_0a (ai @g1_0a (ai @g2_0a (ai @g3_0a (ai @g4_0a (ai @g5_0a (ai @g6_0a p_impl_JoinProps_tf.down)))))))
      try refine st_by ff ?_
      repeat' (first | exact trivial | refine And.intro sd ?_)
      (refine cq_Xs [(8, [])] (sort_does paths_9 v17 ev17) (hf_by ff) kr (by decide) ⟨p_impl_JoinProps_sa ff trivial, ?_⟩; clear ff)
      have f18 := sortP_len paths_9 v17 ev17
      obtain ⟨v19, ev19, h⟩ := Option.bind_eq_some_iff.1 h
      try dsimp only at h
      have ff := ai @dc3 (ai @g0_0a (ai @g1_0a (ai @g2_0a (ai @g3_0a (ai @g4_0a (ai @g5_0a (ai @g6_0a (ai @f18 p_impl_JoinProps_tf.down))))))))
      try refine st_by ff ?_
      repeat' (first | exact trivial | refine And.intro sd ?_)
      (refine cq_X [(8, [])] (comp_does v17 v19 ev19) (hf_by ff) kr (by first | decide | simp) ⟨p_impl_JoinProps_sa ff trivial, ?_⟩; clear ff)
      obtain ⟨q_1, eq_1, h⟩ := Option.bind_eq_some_iff.1 h
      have ff := ai @dc3 (ai @g0_0a (ai @g1_0a (ai @g2_0a (ai @g3_0a (ai @g4_0a (ai @g5_0a (ai @g6_0a (ai @f18 (ai @isPre0 (ai @isPre1 (ai @isPre2 p_impl_JoinProps_tf.down)))))))))))
      try refine st_by ff ?_
      repeat' (first | exact trivial | refine And.intro sd ?_)
      refine aw_bnd (r := 53) (p := []) (sz := 1) (n := v19.length) (cs := esStr v19) (p_impl_JoinProps_pv ff trivial) (fun hL_1 => ?_)
      obtain ⟨I_1, hI_1⟩ : ∃ I_ : (Nat × (List GProp) × (List ByteArray)) → ASt → Prop, I_ = (fun (a : Nat × (List GProp) × (List ByteArray)) σ => match a with | (i_1, out_34, out_35) => (i_1 ≤ v19.length ∧ p_impl_JoinProps_l1 N base_a0 ours_a1 theirs_a2 (v19.drop i_1) i_1 out_34 out_35 = some q_1) ∧ σ.t 0 = .row false 2 base_a0.length (esProp base_a0) ∧ σ.t 1 = .row false 2 ours_a1.length (esProp ours_a1) ∧ σ.t 2 = .row false 2 theirs_a2.length (esProp theirs_a2) ∧ σ.t 6 = .ptr 6 [] 0 ∧ σ.t 11 = .ptr 11 [] 0 ∧ σ.t 53 = .sl 53 [] 0 v19.length ∧ σ.t 54 = I (v19.length : Int) ∧ σ.t 55 = I (i_1 : Int) ∧ σ.m 6 = some (.box true [.row true 2 0 [], .row true 1 0 []]) ∧ σ.m 11 = some (.box true [.row true 2 out_34.length (esProp out_34), .row true 1 out_35.length (esStr out_35)]) ∧ σ.m 53 = some (.row true 1 v19.length (esStr v19))) := ⟨_, rfl⟩
      obtain ⟨M_1, hM_1⟩ : ∃ M_ : (Nat × (List GProp) × (List ByteArray)) → Nat, M_ = (fun (a : Nat × (List GProp) × (List ByteArray)) => match a with | (i_1, out_34, out_35) => v19.length - i_1) := ⟨_, rfl⟩
      obtain ⟨J_1, hJ_1⟩ : ∃ J_ : ASt → Prop, J_ = (fun σ => ∃ out_34 : List GProp, ∃ out_35 : List ByteArray, (some (out_34, out_35) = some q_1) ∧ σ.t 6 = .ptr 6 [] 0 ∧ σ.t 11 = .ptr 11 [] 0 ∧ σ.m 6 = some (.box true [.row true 2 0 [], .row true 1 0 []]) ∧ σ.m 11 = some (.box true [.row true 2 out_34.length (esProp out_34), .row true 1 out_35.length (esStr out_35)])) := ⟨_, rfl⟩
      refine aw_loopC (id := 2) I_1 M_1 J_1 (0, ([] : List GProp), ([] : List ByteArray)) ?_ ?_ ?_
      · rw [hI_1]
        refine ⟨⟨Nat.zero_le _, eq_1⟩, ?_⟩
        exact p_impl_JoinProps_pv ff trivial
      · try clear ff
        rintro ⟨i_1, out_34, out_35⟩ σ hg_1
        rw [hI_1] at hg_1
        obtain ⟨⟨hi_1, h_1⟩, g0_1, g1_1, g2_1, g3_1, g4_1, g5_1, g6_1, g7_1, g8_1, g9_1, g10_1⟩ := hg_1
        cases hr_1 : v19.drop i_1 with
        | nil =>
          rw [hr_1] at h_1
          rw [p_impl_JoinProps_l1] at h_1
          have hn_1 := drop_nil hr_1
          have dr_1 : decide ((i_1 : Int) < (v19.length : Int)) = false := decide_eq_false (by omega)
          have ff := ai @dc3 (ai @f18 (ai @isPre0 (ai @isPre1 (ai @isPre2 (ai @dr_1 (ai @g0_1 (ai @g1_1 (ai @g2_1 (ai @g3_1 (ai @g4_1 (ai @g5_1 (ai @g6_1 (ai @g7_1 (ai @g8_1 (ai @g9_1 (ai @g10_1 p_impl_JoinProps_tf.down))))))))))))))))
          try refine st_by ff ?_
          repeat' (first | exact trivial | refine And.intro sd ?_)
          refine JW.intro ?_
          rw [hJ_1]
          refine ⟨out_34, out_35, h_1, ?_⟩
          exact p_impl_JoinProps_pv ff trivial
        | cons x_1 r_1 =>
          rw [hr_1] at h_1
          rw [p_impl_JoinProps_l1] at h_1
          obtain ⟨ht_1, hg_1, hd_1⟩ := drop_cons hr_1
          have dr_1 : decide ((i_1 : Int) < (v19.length : Int)) = true := decide_eq_true (by omega)
          have w_1 : IntKind.i64.wrap ((i_1 : Int) + 1) = ((i_1 + 1 : Nat) : Int) := wI _ (by omega) (by omega)
          have kk1c : (esStr v19).drop (i_1 * 1) = eStr x_1 ++ esStr (v19.drop (i_1 + 1)) := drop_enc (fun _ => rfl) (hg_1)
          have kk1d := kk1c
          rw [Nat.mul_one] at kk1d
          have kk1g0 : (esStr v19).getD (i_1 * 1) .junk = (eStr x_1).getD 0 .junk := getD_enc0 (enc := eStr) (sz := 1) (fun _ => rfl) (hg_1) (by decide)
          rw [Nat.mul_one] at kk1g0
          obtain ⟨v57, ev57, h_1⟩ := Option.bind_eq_some_iff.1 h_1
          try dsimp only at h_1
          have ff := ai @dc3 (ai @f18 (ai @isPre0 (ai @isPre1 (ai @isPre2 (ai @dr_1 (ai @w_1 (ai @g0_1 (ai @g1_1 (ai @g2_1 (ai @g3_1 (ai @g4_1 (ai @g5_1 (ai @g6_1 (ai @g7_1 (ai @g8_1 (ai @g9_1 (ai @g10_1 (ai @kk1c (ai @kk1d (ai @kk1g0 p_impl_JoinProps_tf.down))))))))))))))))))))
          try refine st_by ff ?_
          repeat' (first | exact trivial | refine And.intro sd ?_)
          first
          | (refine cq_call (p_impl_stateAt_does N base_a0 x_1 v57 ev57) (hf_by ff) kr ⟨p_impl_JoinProps_sa ff trivial, ?_⟩; clear ff)
          obtain ⟨v58, ev58, h_1⟩ := Option.bind_eq_some_iff.1 h_1
          try dsimp only at h_1
          have ff := ai @dc3 (ai @f18 (ai @isPre0 (ai @isPre1 (ai @isPre2 (ai @dr_1 (ai @w_1 (ai @g0_1 (ai @g1_1 (ai @g2_1 (ai @g3_1 (ai @g4_1 (ai @g5_1 (ai @g6_1 (ai @g7_1 (ai @g8_1 (ai @g9_1 (ai @g10_1 (ai @kk1c (ai @kk1d (ai @kk1g0 p_impl_JoinProps_tf.down))))))))))))))))))))
          try refine st_by ff ?_
          repeat' (first | exact trivial | refine And.intro sd ?_)
          first
          | (refine cq_call (p_impl_stateAt_does N ours_a1 x_1 v58 ev58) (hf_by ff) kr ⟨p_impl_JoinProps_sa ff trivial, ?_⟩; clear ff)
          obtain ⟨v59, ev59, h_1⟩ := Option.bind_eq_some_iff.1 h_1
          try dsimp only at h_1
          have ff := ai @dc3 (ai @f18 (ai @isPre0 (ai @isPre1 (ai @isPre2 (ai @dr_1 (ai @w_1 (ai @g0_1 (ai @g1_1 (ai @g2_1 (ai @g3_1 (ai @g4_1 (ai @g5_1 (ai @g6_1 (ai @g7_1 (ai @g8_1 (ai @g9_1 (ai @g10_1 (ai @kk1c (ai @kk1d (ai @kk1g0 p_impl_JoinProps_tf.down))))))))))))))))))))
          try refine st_by ff ?_
          repeat' (first | exact trivial | refine And.intro sd ?_)
          first
          | (refine cq_call (p_impl_stateAt_does N theirs_a2 x_1 v59 ev59) (hf_by ff) kr ⟨p_impl_JoinProps_sa ff trivial, ?_⟩; clear ff)
          have ff := ai @dc3 (ai @f18 (ai @isPre0 (ai @isPre1 (ai @isPre2 (ai @dr_1 (ai @w_1 (ai @g0_1 (ai @g1_1 (ai @g2_1 (ai @g3_1 (ai @g4_1 (ai @g5_1 (ai @g6_1 (ai @g7_1 (ai @g8_1 (ai @g9_1 (ai @g10_1 (ai @kk1c (ai @kk1d (ai @kk1g0 p_impl_JoinProps_tf.down))))))))))))))))))))
          try refine st_by ff ?_
          repeat' (first | exact trivial | refine And.intro sd ?_)
          try clear ff
          generalize hk_1 : thenK _ _ = kk_1
          have key_1 : ∀ σ, (∃ b_60 : Bool, (p_impl_JoinProps_j1 out_34 out_35 x_1 i_1 v57 v58 v59 (p_impl_JoinProps_l1 N base_a0 ours_a1 theirs_a2 r_1) b_60 = some q_1) ∧ σ.t 0 = .row false 2 base_a0.length (esProp base_a0) ∧ σ.t 1 = .row false 2 ours_a1.length (esProp ours_a1) ∧ σ.t 2 = .row false 2 theirs_a2.length (esProp theirs_a2) ∧ σ.t 6 = .ptr 6 [] 0 ∧ σ.t 11 = .ptr 11 [] 0 ∧ σ.t 13 = S x_1 ∧ σ.t 14 = .ptr 14 [] 0 ∧ σ.t 15 = .ptr 15 [] 0 ∧ σ.t 16 = .ptr 16 [] 0 ∧ σ.t 17 = .ptr 17 [] 0 ∧ σ.t 53 = .sl 53 [] 0 v19.length ∧ σ.t 54 = I (v19.length : Int) ∧ σ.t 55 = I (i_1 : Int) ∧ σ.t 75 = B b_60 ∧ σ.m 6 = some (.box true [.row true 2 0 [], .row true 1 0 []]) ∧ σ.m 11 = some (.box true [.row true 2 out_34.length (esProp out_34), .row true 1 out_35.length (esStr out_35)]) ∧ σ.m 14 = some (.box true [S v57.value, B v57.has]) ∧ σ.m 15 = some (.box true [S v58.value, B v58.has]) ∧ σ.m 16 = some (.box true [S v59.value, B v59.has]) ∧ σ.m 17 = some (.box true [S v57.value, B v57.has]) ∧ σ.m 53 = some (.row true 1 v19.length (esStr v19))) → kk_1 .nm σ := by
            rintro σ ⟨b_60, h_1, g0_j1, g1_j1, g2_j1, g3_j1, g4_j1, g5_j1, g6_j1, g7_j1, g8_j1, g9_j1, g10_j1, g11_j1, g12_j1, g13_j1, g14_j1, g15_j1, g16_j1, g17_j1, g18_j1, g19_j1, g20_j1⟩
            rw [← hk_1]
            rw [p_impl_JoinProps_j1] at h_1
            by_cases c61 : b_60 = true
            · rw [if_pos c61] at h_1
              have dc61 := c61
              by_cases c62 : v58.has = true
              case neg =>
               rw [if_neg c62] at h_1
               have dc62 := eq_false_of_ne_true c62
               have ff := ai @dc3 (ai @f18 (ai @isPre0 (ai @isPre1 (ai @isPre2 (ai @dr_1 (ai @w_1 (ai @kk1c (ai @kk1d (ai @kk1g0 (ai @g0_j1 (ai @g1_j1 (ai @g2_j1 (ai @g3_j1 (ai @g4_j1 (ai @g5_j1 (ai @g6_j1 (ai @g7_j1 (ai @g8_j1 (ai @g9_j1 (ai @g10_j1 (ai @g11_j1 (ai @g12_j1 (ai @g13_j1 (ai @g14_j1 (ai @g15_j1 (ai @g16_j1 (ai @g17_j1 (ai @g18_j1 (ai @g19_j1 (ai @g20_j1 (ai @dc61 (ai @dc62 p_impl_JoinProps_tf.down))))))))))))))))))))))))))))))))
               try refine st_by ff ?_
               repeat' (first | exact trivial | refine And.intro sd ?_)
               refine Back.intro (i_1 + 1, out_34, out_35) ?_ ?_
               · clear ff; rw [hM_1]; show v19.length - (i_1 + 1) < v19.length - i_1; omega
               rw [hI_1]
               refine ⟨⟨by clear ff; show i_1 + 1 ≤ v19.length; omega, by show p_impl_JoinProps_l1 N base_a0 ours_a1 theirs_a2 (v19.drop (i_1 + 1)) (i_1 + 1) out_34 out_35 = some q_1; rw [hd_1]; exact h_1⟩, ?_⟩
               exact p_impl_JoinProps_pv ff trivial
              rw [if_pos c62] at h_1
              have dc62 := c62
              by_cases c63 : out_34.length < 4294967296
              case neg => rw [if_neg c63] at h_1; cases h_1
              rw [if_pos c63] at h_1
              have a64a : esProp out_34 ++ [S x_1, S v58.value] = esProp (out_34 ++ [(⟨x_1, v58.value⟩ : GProp)]) := by simp [esProp_app, esProp_cons, esProp_nil, eProp_eq, esStr_nil, esLProp_nil, esJoined_nil, esProp_nil, esstate_nil]
              have a64b : out_34.length + 1 = (out_34 ++ [(⟨x_1, v58.value⟩ : GProp)]).length := by simp
              have ff := ai @dc3 (ai @f18 (ai @isPre0 (ai @isPre1 (ai @isPre2 (ai @dr_1 (ai @w_1 (ai @kk1c (ai @kk1d (ai @kk1g0 (ai @g0_j1 (ai @g1_j1 (ai @g2_j1 (ai @g3_j1 (ai @g4_j1 (ai @g5_j1 (ai @g6_j1 (ai @g7_j1 (ai @g8_j1 (ai @g9_j1 (ai @g10_j1 (ai @g11_j1 (ai @g12_j1 (ai @g13_j1 (ai @g14_j1 (ai @g15_j1 (ai @g16_j1 (ai @g17_j1 (ai @g18_j1 (ai @g19_j1 (ai @g20_j1 (ai @dc61 (ai @dc62 (ai @a64a (ai @a64b p_impl_JoinProps_tf.down))))))))))))))))))))))))))))))))))
              try refine st_by ff ?_
              repeat' (first | exact trivial | refine And.intro sd ?_)
              refine Back.intro (i_1 + 1, (out_34 ++ [(⟨x_1, v58.value⟩ : GProp)]), out_35) ?_ ?_
              · clear ff; rw [hM_1]; show v19.length - (i_1 + 1) < v19.length - i_1; omega
              rw [hI_1]
              refine ⟨⟨by clear ff; show i_1 + 1 ≤ v19.length; omega, by show p_impl_JoinProps_l1 N base_a0 ours_a1 theirs_a2 (v19.drop (i_1 + 1)) (i_1 + 1) (out_34 ++ [(⟨x_1, v58.value⟩ : GProp)]) out_35 = some q_1; rw [hd_1]; exact h_1⟩, ?_⟩
              exact p_impl_JoinProps_pv ff trivial
            rw [if_neg c61] at h_1
            have dc61 := eq_false_of_ne_true c61
            by_cases c65 : (decide (v58.value = v57.value) && (v58.has == v57.has)) = true
            · rw [if_pos c65] at h_1
              have dc65 := c65
              have ff := ai @dc3 (ai @f18 (ai @isPre0 (ai @isPre1 (ai @isPre2 (ai @dr_1 (ai @w_1 (ai @kk1c (ai @kk1d (ai @kk1g0 (ai @g0_j1 (ai @g1_j1 (ai @g2_j1 (ai @g3_j1 (ai @g4_j1 (ai @g5_j1 (ai @g6_j1 (ai @g7_j1 (ai @g8_j1 (ai @g9_j1 (ai @g10_j1 (ai @g11_j1 (ai @g12_j1 (ai @g13_j1 (ai @g14_j1 (ai @g15_j1 (ai @g16_j1 (ai @g17_j1 (ai @g18_j1 (ai @g19_j1 (ai @g20_j1 (ai @dc61 (ai @dc65 p_impl_JoinProps_tf.down))))))))))))))))))))))))))))))))
              try refine st_by ff ?_
              repeat' (first | exact trivial | refine And.intro sd ?_ | fail)
              by_cases c66 : v59.has = true
              case neg =>
               rw [if_neg c66] at h_1
               have dc66 := eq_false_of_ne_true c66
               have ff := ai @dc3 (ai @f18 (ai @isPre0 (ai @isPre1 (ai @isPre2 (ai @dr_1 (ai @w_1 (ai @kk1c (ai @kk1d (ai @kk1g0 (ai @g0_j1 (ai @g1_j1 (ai @g2_j1 (ai @g3_j1 (ai @g4_j1 (ai @g5_j1 (ai @g6_j1 (ai @g7_j1 (ai @g8_j1 (ai @g9_j1 (ai @g10_j1 (ai @g11_j1 (ai @g12_j1 (ai @g13_j1 (ai @g14_j1 (ai @g15_j1 (ai @g16_j1 (ai @g17_j1 (ai @g18_j1 (ai @g19_j1 (ai @g20_j1 (ai @dc61 (ai @dc65 (ai @dc66 p_impl_JoinProps_tf.down)))))))))))))))))))))))))))))))))
               try refine st_by ff ?_
               repeat' (first | exact trivial | refine And.intro sd ?_)
               refine Back.intro (i_1 + 1, out_34, out_35) ?_ ?_
               · clear ff; rw [hM_1]; show v19.length - (i_1 + 1) < v19.length - i_1; omega
               rw [hI_1]
               refine ⟨⟨by clear ff; show i_1 + 1 ≤ v19.length; omega, by show p_impl_JoinProps_l1 N base_a0 ours_a1 theirs_a2 (v19.drop (i_1 + 1)) (i_1 + 1) out_34 out_35 = some q_1; rw [hd_1]; exact h_1⟩, ?_⟩
               exact p_impl_JoinProps_pv ff trivial
              rw [if_pos c66] at h_1
              have dc66 := c66
              by_cases c67 : out_34.length < 4294967296
              case neg => rw [if_neg c67] at h_1; cases h_1
              rw [if_pos c67] at h_1
              have a68a : esProp out_34 ++ [S x_1, S v59.value] = esProp (out_34 ++ [(⟨x_1, v59.value⟩ : GProp)]) := by simp [esProp_app, esProp_cons, esProp_nil, eProp_eq, esStr_nil, esLProp_nil, esJoined_nil, esProp_nil, esstate_nil]
              have a68b : out_34.length + 1 = (out_34 ++ [(⟨x_1, v59.value⟩ : GProp)]).length := by simp
              have ff := ai @dc3 (ai @f18 (ai @isPre0 (ai @isPre1 (ai @isPre2 (ai @dr_1 (ai @w_1 (ai @kk1c (ai @kk1d (ai @kk1g0 (ai @g0_j1 (ai @g1_j1 (ai @g2_j1 (ai @g3_j1 (ai @g4_j1 (ai @g5_j1 (ai @g6_j1 (ai @g7_j1 (ai @g8_j1 (ai @g9_j1 (ai @g10_j1 (ai @g11_j1 (ai @g12_j1 (ai @g13_j1 (ai @g14_j1 (ai @g15_j1 (ai @g16_j1 (ai @g17_j1 (ai @g18_j1 (ai @g19_j1 (ai @g20_j1 (ai @dc61 (ai @dc65 (ai @dc66 (ai @a68a (ai @a68b p_impl_JoinProps_tf.down)))))))))))))))))))))))))))))))))))
              try refine st_by ff ?_
              repeat' (first | exact trivial | refine And.intro sd ?_)
              refine Back.intro (i_1 + 1, (out_34 ++ [(⟨x_1, v59.value⟩ : GProp)]), out_35) ?_ ?_
              · clear ff; rw [hM_1]; show v19.length - (i_1 + 1) < v19.length - i_1; omega
              rw [hI_1]
              refine ⟨⟨by clear ff; show i_1 + 1 ≤ v19.length; omega, by show p_impl_JoinProps_l1 N base_a0 ours_a1 theirs_a2 (v19.drop (i_1 + 1)) (i_1 + 1) (out_34 ++ [(⟨x_1, v59.value⟩ : GProp)]) out_35 = some q_1; rw [hd_1]; exact h_1⟩, ?_⟩
              exact p_impl_JoinProps_pv ff trivial
            rw [if_neg c65] at h_1
            have dc65 := eq_false_of_ne_true c65
            have ff := ai @dc3 (ai @f18 (ai @isPre0 (ai @isPre1 (ai @isPre2 (ai @dr_1 (ai @w_1 (ai @kk1c (ai @kk1d (ai @kk1g0 (ai @g0_j1 (ai @g1_j1 (ai @g2_j1 (ai @g3_j1 (ai @g4_j1 (ai @g5_j1 (ai @g6_j1 (ai @g7_j1 (ai @g8_j1 (ai @g9_j1 (ai @g10_j1 (ai @g11_j1 (ai @g12_j1 (ai @g13_j1 (ai @g14_j1 (ai @g15_j1 (ai @g16_j1 (ai @g17_j1 (ai @g18_j1 (ai @g19_j1 (ai @g20_j1 (ai @dc61 (ai @dc65 p_impl_JoinProps_tf.down))))))))))))))))))))))))))))))))
            try refine st_by ff ?_
            repeat' (first | exact trivial | refine And.intro sd ?_ | fail)
            by_cases c69 : out_35.length < 4294967296
            case neg => rw [if_neg c69] at h_1; cases h_1
            rw [if_pos c69] at h_1
            have a70a : esStr out_35 ++ [S x_1] = esStr (out_35 ++ [x_1]) := by simp [esStr_app, esStr_cons, esStr_nil, eStr_eq, esStr_nil, esLProp_nil, esJoined_nil, esProp_nil, esstate_nil]
            have a70b : out_35.length + 1 = (out_35 ++ [x_1]).length := by simp
            by_cases c71 : v57.has = true
            case neg =>
             rw [if_neg c71] at h_1
             have dc71 := eq_false_of_ne_true c71
             have ff := ai @dc3 (ai @f18 (ai @isPre0 (ai @isPre1 (ai @isPre2 (ai @dr_1 (ai @w_1 (ai @kk1c (ai @kk1d (ai @kk1g0 (ai @g0_j1 (ai @g1_j1 (ai @g2_j1 (ai @g3_j1 (ai @g4_j1 (ai @g5_j1 (ai @g6_j1 (ai @g7_j1 (ai @g8_j1 (ai @g9_j1 (ai @g10_j1 (ai @g11_j1 (ai @g12_j1 (ai @g13_j1 (ai @g14_j1 (ai @g15_j1 (ai @g16_j1 (ai @g17_j1 (ai @g18_j1 (ai @g19_j1 (ai @g20_j1 (ai @dc61 (ai @dc65 (ai @a70a (ai @a70b (ai @dc71 p_impl_JoinProps_tf.down)))))))))))))))))))))))))))))))))))
             try refine st_by ff ?_
             repeat' (first | exact trivial | refine And.intro sd ?_)
             refine Back.intro (i_1 + 1, out_34, (out_35 ++ [x_1])) ?_ ?_
             · clear ff; rw [hM_1]; show v19.length - (i_1 + 1) < v19.length - i_1; omega
             rw [hI_1]
             refine ⟨⟨by clear ff; show i_1 + 1 ≤ v19.length; omega, by show p_impl_JoinProps_l1 N base_a0 ours_a1 theirs_a2 (v19.drop (i_1 + 1)) (i_1 + 1) out_34 (out_35 ++ [x_1]) = some q_1; rw [hd_1]; exact h_1⟩, ?_⟩
             exact p_impl_JoinProps_pv ff trivial
            rw [if_pos c71] at h_1
            have dc71 := c71
            by_cases c72 : out_34.length < 4294967296
            case neg => rw [if_neg c72] at h_1; cases h_1
            rw [if_pos c72] at h_1
            have a73a : esProp out_34 ++ [S x_1, S v57.value] = esProp (out_34 ++ [(⟨x_1, v57.value⟩ : GProp)]) := by simp [esProp_app, esProp_cons, esProp_nil, eProp_eq, esStr_nil, esLProp_nil, esJoined_nil, esProp_nil, esstate_nil]
            have a73b : out_34.length + 1 = (out_34 ++ [(⟨x_1, v57.value⟩ : GProp)]).length := by simp
            have ff := ai @dc3 (ai @f18 (ai @isPre0 (ai @isPre1 (ai @isPre2 (ai @dr_1 (ai @w_1 (ai @kk1c (ai @kk1d (ai @kk1g0 (ai @g0_j1 (ai @g1_j1 (ai @g2_j1 (ai @g3_j1 (ai @g4_j1 (ai @g5_j1 (ai @g6_j1 (ai @g7_j1 (ai @g8_j1 (ai @g9_j1 (ai @g10_j1 (ai @g11_j1 (ai @g12_j1 (ai @g13_j1 (ai @g14_j1 (ai @g15_j1 (ai @g16_j1 (ai @g17_j1 (ai @g18_j1 (ai @g19_j1 (ai @g20_j1 (ai @dc61 (ai @dc65 (ai @a70a (ai @a70b (ai @dc71 (ai @a73a (ai @a73b p_impl_JoinProps_tf.down)))))))))))))))))))))))))))))))))))))
            try refine st_by ff ?_
            repeat' (first | exact trivial | refine And.intro sd ?_)
            refine Back.intro (i_1 + 1, (out_34 ++ [(⟨x_1, v57.value⟩ : GProp)]), (out_35 ++ [x_1])) ?_ ?_
            · clear ff; rw [hM_1]; show v19.length - (i_1 + 1) < v19.length - i_1; omega
            rw [hI_1]
            refine ⟨⟨by clear ff; show i_1 + 1 ≤ v19.length; omega, by show p_impl_JoinProps_l1 N base_a0 ours_a1 theirs_a2 (v19.drop (i_1 + 1)) (i_1 + 1) (out_34 ++ [(⟨x_1, v57.value⟩ : GProp)]) (out_35 ++ [x_1]) = some q_1; rw [hd_1]; exact h_1⟩, ?_⟩
            exact p_impl_JoinProps_pv ff trivial
          have hrt_1 := fun σ : ASt => congrFun (congrFun hk_1.symm AX.rt) σ
          have hex_1 := fun (i : Nat) (σ : ASt) => congrFun (congrFun hk_1.symm (AX.ex i)) σ
          by_cases c74 : (decide (v58.value = v59.value) && (v58.has == v59.has)) = true
          case neg =>
           rw [if_neg c74] at h_1
           have dc74 := eq_false_of_ne_true c74
           have ff := ai @dc3 (ai @f18 (ai @isPre0 (ai @isPre1 (ai @isPre2 (ai @dr_1 (ai @w_1 (ai @g0_1 (ai @g1_1 (ai @g2_1 (ai @g3_1 (ai @g4_1 (ai @g5_1 (ai @g6_1 (ai @g7_1 (ai @g8_1 (ai @g9_1 (ai @g10_1 (ai @kk1c (ai @kk1d (ai @kk1g0 (ai @hrt_1 (ai @hex_1 (ai @dc74 p_impl_JoinProps_tf.down)))))))))))))))))))))))
           try refine st_by ff ?_
           repeat' (first | exact trivial | refine And.intro sd ?_ | fail)
           have ff := ai @dc3 (ai @f18 (ai @isPre0 (ai @isPre1 (ai @isPre2 (ai @dr_1 (ai @w_1 (ai @g0_1 (ai @g1_1 (ai @g2_1 (ai @g3_1 (ai @g4_1 (ai @g5_1 (ai @g6_1 (ai @g7_1 (ai @g8_1 (ai @g9_1 (ai @g10_1 (ai @kk1c (ai @kk1d (ai @kk1g0 (ai @hrt_1 (ai @hex_1 (ai @dc74 p_impl_JoinProps_tf.down)))))))))))))))))))))))
           try refine st_by ff ?_
           repeat' (first | exact trivial | refine And.intro sd ?_)
           refine key_1 _ ?_
           refine ⟨(decide (v59.value = v57.value) && (v59.has == v57.has)), h_1, ?_⟩
           exact p_impl_JoinProps_pv ff trivial
          rw [if_pos c74] at h_1
          have dc74 := c74
          have ff := ai @dc3 (ai @f18 (ai @isPre0 (ai @isPre1 (ai @isPre2 (ai @dr_1 (ai @w_1 (ai @g0_1 (ai @g1_1 (ai @g2_1 (ai @g3_1 (ai @g4_1 (ai @g5_1 (ai @g6_1 (ai @g7_1 (ai @g8_1 (ai @g9_1 (ai @g10_1 (ai @kk1c (ai @kk1d (ai @kk1g0 (ai @hrt_1 (ai @hex_1 (ai @dc74 p_impl_JoinProps_tf.down)))))))))))))))))))))))
          try refine st_by ff ?_
          repeat' (first | exact trivial | refine And.intro sd ?_ | fail)
          have ff := ai @dc3 (ai @f18 (ai @isPre0 (ai @isPre1 (ai @isPre2 (ai @dr_1 (ai @w_1 (ai @g0_1 (ai @g1_1 (ai @g2_1 (ai @g3_1 (ai @g4_1 (ai @g5_1 (ai @g6_1 (ai @g7_1 (ai @g8_1 (ai @g9_1 (ai @g10_1 (ai @kk1c (ai @kk1d (ai @kk1g0 (ai @hrt_1 (ai @hex_1 (ai @dc74 p_impl_JoinProps_tf.down)))))))))))))))))))))))
          try refine st_by ff ?_
          repeat' (first | exact trivial | refine And.intro sd ?_)
          refine key_1 _ ?_
          refine ⟨true, h_1, ?_⟩
          exact p_impl_JoinProps_pv ff trivial
      · try clear ff
        rintro σ hg_1
        rw [hJ_1] at hg_1
        obtain ⟨out_34, out_35, hj_1, g0_1a, g1_1a, g2_1a, g3_1a⟩ := hg_1
        cases hj_1
        try dsimp only at h
        by_cases c75 : (out_34.length : Int) > 40
        case neg =>
         rw [if_neg c75] at h
         have dc75 := decide_eq_false c75
         have ff := ai @dc3 (ai @f18 (ai @isPre0 (ai @isPre1 (ai @isPre2 (ai @g0_1a (ai @g1_1a (ai @g2_1a (ai @g3_1a (ai @dc75 p_impl_JoinProps_tf.down)))))))))
         try refine st_by ff ?_
         repeat' (first | exact trivial | refine And.intro sd ?_)
         cases h
         exact ret_q2 rfl (p_impl_JoinProps_rt ff trivial)
        rw [if_pos c75] at h
        have dc75 := decide_eq_true c75
        have ff := ai @dc3 (ai @f18 (ai @isPre0 (ai @isPre1 (ai @isPre2 (ai @g0_1a (ai @g1_1a (ai @g2_1a (ai @g3_1a (ai @dc75 p_impl_JoinProps_tf.down)))))))))
        try refine st_by ff ?_
        repeat' (first | exact trivial | refine And.intro sd ?_)
        cases h
        exact ret_q2 rfl (p_impl_JoinProps_rt ff trivial)
  have hrt_0 := fun σ : ASt => congrFun (congrFun hk_0.symm AX.rt) σ
  have hex_0 := fun (i : Nat) (σ : ASt) => congrFun (congrFun hk_0.symm (AX.ex i)) σ
  by_cases c76 : v1 = true
  case neg =>
   rw [if_neg c76] at h
   have dc76 := eq_false_of_ne_true c76
   have ff := ai @hrt_0 (ai @hex_0 (ai @dc76 p_impl_JoinProps_tf.down))
   try refine st_by ff ?_
   repeat' (first | exact trivial | refine And.intro sd ?_)
   refine key_0 _ ?_
   refine ⟨true, h, ?_⟩
   exact p_impl_JoinProps_pv ff trivial
  rw [if_pos c76] at h
  have dc76 := c76
  obtain ⟨v77, ev77, h⟩ := Option.bind_eq_some_iff.1 h
  try dsimp only at h
  have ff := ai @hrt_0 (ai @hex_0 (ai @dc76 p_impl_JoinProps_tf.down))
  try refine st_by ff ?_
  repeat' (first | exact trivial | refine And.intro sd ?_)
  first
  | (refine cq_call (p_impl_GoodProps_does ours_a1 v77 ev77) (hf_by ff) kr ⟨p_impl_JoinProps_sa ff trivial, ?_⟩; clear ff)
  by_cases c78 : v77 = true
  case neg =>
   rw [if_neg c78] at h
   have dc78 := eq_false_of_ne_true c78
   have ff := ai @hrt_0 (ai @hex_0 (ai @dc76 (ai @dc78 p_impl_JoinProps_tf.down)))
   try refine st_by ff ?_
   repeat' (first | exact trivial | refine And.intro sd ?_)
   refine key_0 _ ?_
   refine ⟨true, h, ?_⟩
   exact p_impl_JoinProps_pv ff trivial
  rw [if_pos c78] at h
  have dc78 := c78
  obtain ⟨v79, ev79, h⟩ := Option.bind_eq_some_iff.1 h
  try dsimp only at h
  have ff := ai @hrt_0 (ai @hex_0 (ai @dc76 (ai @dc78 p_impl_JoinProps_tf.down)))
  try refine st_by ff ?_
  repeat' (first | exact trivial | refine And.intro sd ?_)
  first
  | (refine cq_call (p_impl_GoodProps_does theirs_a2 v79 ev79) (hf_by ff) kr ⟨p_impl_JoinProps_sa ff trivial, ?_⟩; clear ff)
  have ff := ai @hrt_0 (ai @hex_0 (ai @dc76 (ai @dc78 p_impl_JoinProps_tf.down)))
  try refine st_by ff ?_
  repeat' (first | exact trivial | refine And.intro sd ?_)
  refine key_0 _ ?_
  refine ⟨!v79, h, ?_⟩
  exact p_impl_JoinProps_pv ff trivial
end Go.Av
end
section
set_option linter.unusedSimpArgs false
set_option linter.unusedVariables false
set_option maxRecDepth 100000
namespace Go.Av
/-! Paths and props: the program and the reference alike. -/
/-- A text in pieces: the piece so far, and what is left. -/
def pcsL (b : UInt8) : List UInt8 → List UInt8 → List (List UInt8)
  | cur, [] => [cur]
  | cur, x :: l => if x = b then cur :: pcsL b [] l else pcsL b (cur ++ [x]) l
theorem pcsL_nil (b : UInt8) (cur : List UInt8) : pcsL b cur [] = [cur] := by rw [pcsL]
theorem pcsL_cons (b : UInt8) (cur : List UInt8) (x : UInt8) (l : List UInt8) : pcsL b cur (x :: l) = if x = b then cur :: pcsL b [] l else pcsL b (cur ++ [x]) l := by rw [pcsL]
def bOf (l : List UInt8) : ByteArray := ⟨l.toArray⟩
theorem bOf_data (s : ByteArray) : bOf s.data.toList = s := by
  unfold bOf; cases s; simp
theorem ixB_miss (b : UInt8) : ∀ (l cur : List UInt8), Lib.indexByte l b = -1 → pcsL b cur l = [cur ++ l]
  | [], cur, _ => by simp [pcsL_nil]
  | x :: l, cur, h => by
    unfold Lib.indexByte at h
    by_cases e : x = b
    · simp [e] at h
    · have e' : (x == b) = false := by simpa using e
      have hge := Lib.indexByte_ge l b
      rw [e'] at h
      simp only [Bool.false_eq_true, if_false] at h
      by_cases h1 : Lib.indexByte l b = -1
      · rw [pcsL_cons, if_neg e, ixB_miss b l _ h1]; simp
      · rw [if_neg (by simpa using h1)] at h; omega
theorem ixB_hit (b : UInt8) : ∀ (l cur : List UInt8) (i : Nat), Lib.indexByte l b = (i : Int) → i < l.length ∧ pcsL b cur l = (cur ++ l.take i) :: pcsL b [] (l.drop (i + 1))
  | [], cur, i, h => by simp [Lib.indexByte] at h
  | x :: l, cur, i, h => by
    unfold Lib.indexByte at h
    by_cases e : x = b
    · rw [if_pos (by simpa using e)] at h
      have : i = 0 := by omega
      subst this
      rw [pcsL_cons, if_pos e]; simp
    · have e' : (x == b) = false := by simpa using e
      have hge := Lib.indexByte_ge l b
      rw [e'] at h
      simp only [Bool.false_eq_true, if_false] at h
      by_cases h1 : Lib.indexByte l b = -1
      · rw [if_pos (by simpa using h1)] at h; omega
      · rw [if_neg (by simpa using h1)] at h
        obtain ⟨j, hj⟩ : ∃ j : Nat, Lib.indexByte l b = j := ⟨(Lib.indexByte l b).toNat, by omega⟩
        obtain ⟨g1, g2⟩ := ixB_hit b l (cur ++ [x]) j hj
        have : i = j + 1 := by omega
        subst this
        refine ⟨by simp; omega, ?_⟩
        rw [pcsL_cons, if_neg e, g2]; simp
theorem indexB_one (s : ByteArray) (b : UInt8) : Lib.indexB s ⟨#[b]⟩ = Lib.indexByte s.data.toList b := by
  show Lib.index s.data.toList [b] = _
  rw [Lib.index_one]
theorem pieces_eq (b : UInt8) : ∀ (k : Nat) (s : ByteArray), Lib.countB s ⟨#[b]⟩ = k → Lib.splitB ⟨#[b]⟩ 0 k s = (pcsL b [] s.data.toList).map bOf := fun k => by
  induction k with
  | zero =>
    intro s hk
    rcases Lib.indexB_cases s ⟨#[b]⟩ with h | ⟨i, h, hle⟩
    · rw [Lib.splitB_miss _ _ _ _ h, ixB_miss b _ _ (by rw [← indexB_one]; exact h)]
      simp [bOf_data]
    · have hc := Lib.countB_hit s ⟨#[b]⟩ i (Nat.le_refl _) h
      omega
  | succ k ih =>
    intro s hk
    rcases Lib.indexB_cases s ⟨#[b]⟩ with h | ⟨i, h, hle⟩
    · rw [Lib.countB_miss _ _ h] at hk; cases hk
    · have hc := Lib.countB_hit s ⟨#[b]⟩ i (Nat.le_refl _) h
      obtain ⟨g1, g2⟩ := ixB_hit b s.data.toList [] i (by rw [← indexB_one]; exact h)
      have e1 : (⟨#[b]⟩ : ByteArray).size = 1 := rfl
      rw [e1] at hc
      have ih := ih (s.extract (i + 1) s.size) (by omega)
      have d1 : (s.extract 0 i).data.toList = s.data.toList.take i := by simp
      have d2 : (s.extract (i + 1) s.size).data.toList = s.data.toList.drop (i + 1) := by
        have : s.size = s.data.size := rfl
        rw [ByteArray.data_extract, Array.toList_extract, List.extract_eq_take_drop]
        exact List.take_of_length_le (by rw [List.length_drop, this, Array.length_toList]; omega)
      rw [Lib.splitB_hit _ _ _ _ i h, g2, e1, Nat.add_zero, ih, d2, List.map_cons, List.nil_append, ← d1, bOf_data]
theorem toList_len (s : ByteArray) : s.data.toList.length = s.size := by rw [Array.length_toList]; rfl
theorem extr (s : ByteArray) (a i : Nat) (h : a ≤ i) (hi : i ≤ s.size) : s.extract a i = bOf ((s.data.toList.drop a).take (i - a)) := by
  rw [← bOf_data (s.extract a i)]; congr 1
  rw [ByteArray.data_extract, Array.toList_extract, List.extract_eq_take_drop]
theorem split_l0 (s : ByteArray) (hl : s.size ≤ 1048576) : ∀ (n a i : Nat) (out : List ByteArray), a ≤ i → i ≤ s.size → s.size - i + 1 < n → out.length ≤ i →
    ∃ a' i', p_spec_l1Split_l0 s 47 n (a : Int) (i : Int) out = some (a', i', out ++ (pcsL 47 ((s.data.toList.drop a).take (i - a)) (s.data.toList.drop i)).map bOf)
  | 0, a, i, out, _, _, h, _ => by omega
  | n + 1, a, i, out, h1, h2, h3, h4 => by
    have hw : IntKind.i64.wrap ((i : Int) + 1) = ((i + 1 : Nat) : Int) := by rw [wI _ (by omega) (by omega)]; omega
    have hb : bslc s (a : Int) (i : Int) = some (bOf ((s.data.toList.drop a).take (i - a))) := by
      unfold bslc; rw [if_pos (by omega), Int.toNat_natCast, Int.toNat_natCast, extr s a i h1 h2]
    have hlen := toList_len s
    unfold p_spec_l1Split_l0
    rw [if_pos (by omega)]
    by_cases c : i = s.size
    · subst c
      rw [if_pos rfl]
      unfold p_spec_l1Split_j0
      rw [if_pos rfl, hb, Option.bind_some, if_pos (by omega), hw]
      match n, h3 with
      | n + 1, _ =>
        unfold p_spec_l1Split_l0
        rw [if_neg (by omega), List.drop_of_length_le (show s.data.toList.length ≤ s.size by omega), pcsL_nil]
        exact ⟨_, _, rfl⟩
    · have hi : i < s.size := by omega
      have hlt : i < s.data.toList.length := by omega
      have hd : s.data.toList.drop i = s.data.toList[i] :: s.data.toList.drop (i + 1) := List.drop_eq_getElem_cons hlt
      have hbi : bidx s (i : Int) = some ((s.data.toList[i].toNat : Nat) : Int) := by
        unfold bidx; rw [if_pos (by omega)]
        unfold byteAt
        rw [dif_pos (by simpa using hi)]
        simp only [Int.toNat_natCast]
        rfl
      rw [if_neg (by omega), hbi, Option.bind_some]
      unfold p_spec_l1Split_j0
      rw [hd, pcsL_cons]
      by_cases e : s.data.toList[i] = 47
      · rw [if_pos (by rw [e]; rfl), hb, Option.bind_some, if_pos (by omega), hw, if_pos e]
        obtain ⟨a', i', r⟩ := split_l0 s hl n (i + 1) (i + 1) (out ++ [bOf ((s.data.toList.drop a).take (i - a))]) (Nat.le_refl _) (by omega) (by omega) (by simp; omega)
        rw [Nat.sub_self, List.take_zero] at r
        exact ⟨a', i', by rw [r]; simp⟩
      · have e' : ¬ (((s.data.toList[i].toNat : Nat) : Int) == 47) = true := fun h => e (by
          have h : ((s.data.toList[i].toNat : Nat) : Int) = 47 := by simpa using h
          exact UInt8.toNat.inj (by show s.data.toList[i].toNat = 47; omega))
        rw [if_neg e', hw, if_neg e]
        obtain ⟨a', i', r⟩ := split_l0 s hl n a (i + 1) out (by omega) (by omega) (by omega) (by omega)
        refine ⟨a', i', ?_⟩
        rw [r]
        have : (s.data.toList.drop a).take (i + 1 - a) = (s.data.toList.drop a).take (i - a) ++ [s.data.toList[i]] := by
          rw [show i + 1 - a = (i - a) + 1 by omega, List.take_add_one, List.getElem?_drop, show a + (i - a) = i by omega, List.getElem?_eq_getElem hlt]; rfl
        rw [this]
theorem specSplit (N : Nat) (s : ByteArray) (hl : s.size ≤ 1048576) (hN : s.size + 1 < N) : p_spec_l1Split N s 47 = some (piecesB 47 s) := by
  unfold p_spec_l1Split
  obtain ⟨a', i', r⟩ := split_l0 s hl N 0 0 [] (Nat.le_refl _) (Nat.zero_le _) (by omega) (Nat.le_refl _)
  rw [show ((0 : Nat) : Int) = 0 from rfl] at r
  rw [r, Option.bind_some]
  unfold piecesB
  rw [pieces_eq 47 _ s rfl]
  simp
theorem pieces_size (b : UInt8) : ∀ (l cur : List UInt8), ∀ p ∈ pcsL b cur l, p.length ≤ cur.length + l.length
  | [], cur, p, h => by rw [pcsL_nil] at h; simp at h; subst h; simp
  | x :: l, cur, p, h => by
    rw [pcsL_cons] at h
    split at h
    · rcases List.mem_cons.1 h with rfl | h
      · simp
      · have := pieces_size b l [] p h; simp at this ⊢; omega
    · have := pieces_size b l _ p h; simp at this ⊢; omega
theorem piece_size {b : UInt8} {s p : ByteArray} (h : p ∈ piecesB b s) : p.size ≤ s.size := by
  unfold piecesB at h
  rw [pieces_eq b _ s rfl] at h
  obtain ⟨q, h1, rfl⟩ := List.mem_map.1 h
  have := pieces_size b _ _ q h1
  rw [toList_len] at this
  show q.toArray.size ≤ _
  simpa using this
/-- What a path is. -/
def pathB (s : ByteArray) : Bool := decide ((piecesB 47 s).length ≤ 5) && (piecesB 47 s).all goodName
theorem spec_path_l0 : ∀ (l : List ByteArray) (i : Nat), (∀ p ∈ l, p.size ≤ 9223372036854775807) → p_spec_l26Path_l0 l i = some (if l.all goodName = true then .out () else .ret false)
  | [], i, _ => by simp [p_spec_l26Path_l0]
  | x :: r, i, h => by
    rw [p_spec_l26Path_l0, if_pos (h x (by simp)), spec_path_l0 r (i + 1) (fun p hp => h p (by simp [hp]))]
    cases hx : goodName x <;> simp [hx]
theorem specPath (N : Nat) (s : ByteArray) (hl : s.size ≤ 1048576) (hN : s.size + 1 < N) : p_spec_l26Path N s = some (pathB s) := by
  unfold p_spec_l26Path pathB
  rw [specSplit N s hl hN, Option.bind_some, spec_path_l0 _ _ (fun p hp => by have := piece_size hp; omega), Option.bind_some]
  cases h : (piecesB 47 s).all goodName with
  | false => simp
  | true => simp; omega
theorem ixS (f : ByteArray → Bool) : ∀ (l : List ByteArray) (i : Nat) (g : ByteArray → Option Bool), (∀ x ∈ l, g x = some (f x)) → ∃ k : Nat, p_slices_IndexFunc_string_string_l0 g l i = some (if l.any f = true then .ret (k : Int) else .out ())
  | [], i, g, _ => ⟨0, by simp [p_slices_IndexFunc_string_string_l0]⟩
  | y :: r, i, g, h => by
    obtain ⟨k, ih⟩ := ixS f r (i + 1) g (fun x hx => h x (by simp [hx]))
    rw [p_slices_IndexFunc_string_string_l0, h y (by simp), Option.bind_some]
    cases hy : f y with
    | true => exact ⟨i, by simp [hy]⟩
    | false => exact ⟨k, by rw [if_neg (by simp), ih]; simp [hy]⟩
theorem implPath (s : ByteArray) (hl : s.size ≤ 1048576) : p_impl_isPath s = some (pathB s) := by
  unfold p_impl_isPath pathB splitP
  rw [if_pos ⟨rfl, by omega⟩, Option.bind_some]
  by_cases c : (piecesB 47 s).length ≤ 5
  · rw [if_pos (by omega)]
    unfold p_slices_ContainsFunc_string_string p_slices_IndexFunc_string_string
    obtain ⟨k, e⟩ := ixS (fun x => !goodName x) (piecesB 47 s) 0 (fun x0_ => p_impl_isPath_1 x0_) (fun x hx => by
      unfold p_impl_isPath_1; rw [if_pos (by have := piece_size hx; omega)])
    rw [e, Option.bind_some]
    have : (piecesB 47 s).all goodName = !((piecesB 47 s).any fun x => !goodName x) := by
      rw [List.not_any_eq_all_not]; simp
    rw [this]
    cases (piecesB 47 s).any fun x => !goodName x <;> simp [c]
  · rw [if_neg (by omega)]; simp [c]
/-- Good props. -/
def okP (l : List GProp) (i : Nat) (x : GProp) : Bool := pathB x.Path && rng (x.Value.size : Int) 1 40 && (if i = 0 then true else (l[i - 1]?).elim false fun p => blt p.Path x.Path)
def okPs (l : List GProp) : Nat → List GProp → Bool
  | _, [] => true
  | i, x :: r => okP l i x && okPs l (i + 1) r
def goodP (l : List GProp) : Bool := decide (l.length ≤ 40) && okPs l 0 l
theorem idxP2 {α : Type} {l : List α} {i : Nat} (h0 : 0 < i) (h : i < l.length) (hl : l.length ≤ 9223372036854775807) : idx l (IntKind.i64.wrap ((i : Int) - 1)) = some (l[i - 1]'(by omega)) := by
  rw [wI _ (by omega) (by omega), show (i : Int) - 1 = ((i - 1 : Nat) : Int) by omega]
  exact idx_of (by omega)
theorem specP_l0 (N : Nat) (l : List GProp) (hl : l.length ≤ 1048576) (hs : ∀ x ∈ l, x.Path.size ≤ 1048576) (hN : ∀ x ∈ l, x.Path.size + 1 < N) : ∀ (r : List GProp) (i : Nat), l.drop i = r → p_spec_GoodProps_l0 N l r i = some (if okPs l i r = true then .out () else .ret false)
  | [], i, _ => by simp [p_spec_GoodProps_l0, okPs]
  | x :: r, i, h => by
    obtain ⟨h1, h2, h3⟩ := drop_cons h
    have hx : x ∈ l := List.mem_of_getElem? h2
    rw [p_spec_GoodProps_l0, specPath N x.Path (hs x hx) (hN x hx), Option.bind_some, specP_l0 N l hl hs hN r (i + 1) h3]
    unfold p_spec_l26Value
    rw [Option.bind_some]
    by_cases c : (i : Int) > 0
    · have e : okPs l i (x :: r) = (pathB x.Path && rng (x.Value.size : Int) 1 40 && Op.bytesLess (l[i - 1]'(by omega)).Path.toList x.Path.toList && okPs l (i + 1) r) := by
        simp only [okPs, okP]
        rw [if_neg (show ¬ i = 0 by omega), List.getElem?_eq_getElem (show i - 1 < l.length by omega)]; rfl
      rw [if_pos c, idxP2 (by omega) h1 (by omega), Option.bind_some, e]
      cases pathB x.Path <;> cases rng (x.Value.size : Int) 1 40 <;> cases Op.bytesLess (l[i - 1]'(by omega)).Path.toList x.Path.toList <;> simp
    · have e : okPs l i (x :: r) = (pathB x.Path && rng (x.Value.size : Int) 1 40 && okPs l (i + 1) r) := by
        simp only [okPs, okP]
        rw [if_pos (show i = 0 by omega), Bool.and_true]
      rw [if_neg c, e]
      cases pathB x.Path <;> cases rng (x.Value.size : Int) 1 40 <;> simp
theorem implP_l0 (l : List GProp) (hl : l.length ≤ 1048576) (hs : ∀ x ∈ l, x.Path.size ≤ 1048576) : ∀ (r : List GProp) (i : Nat), l.drop i = r → p_impl_GoodProps_l0 l r i = some (if okPs l i r = true then .out () else .ret false)
  | [], i, _ => by simp [p_impl_GoodProps_l0, okPs]
  | x :: r, i, h => by
    obtain ⟨h1, h2, h3⟩ := drop_cons h
    have hx : x ∈ l := List.mem_of_getElem? h2
    rw [p_impl_GoodProps_l0, implPath x.Path (hs x hx), Option.bind_some, implP_l0 l hl hs r (i + 1) h3]
    unfold p_impl_isPropValue
    rw [Option.bind_some]
    by_cases c : (i : Int) > 0
    · have e : okPs l i (x :: r) = (pathB x.Path && rng (x.Value.size : Int) 1 40 && Op.bytesLess (l[i - 1]'(by omega)).Path.toList x.Path.toList && okPs l (i + 1) r) := by
        simp only [okPs, okP]
        rw [if_neg (show ¬ i = 0 by omega), List.getElem?_eq_getElem (show i - 1 < l.length by omega)]; rfl
      rw [if_pos c, idxP2 (by omega) h1 (by omega), Option.bind_some, e]
      cases pathB x.Path <;> cases rng (x.Value.size : Int) 1 40 <;> cases Op.bytesLess (l[i - 1]'(by omega)).Path.toList x.Path.toList <;> simp
    · have e : okPs l i (x :: r) = (pathB x.Path && rng (x.Value.size : Int) 1 40 && okPs l (i + 1) r) := by
        simp only [okPs, okP]
        rw [if_pos (show i = 0 by omega), Bool.and_true]
      rw [if_neg c, e]
      cases pathB x.Path <;> cases rng (x.Value.size : Int) 1 40 <;> simp
theorem specProps (N : Nat) (l : List GProp) (hl : l.length ≤ 1048576) (hs : ∀ x ∈ l, x.Path.size ≤ 1048576) (hN : ∀ x ∈ l, x.Path.size + 1 < N) : p_spec_GoodProps N l = some (goodP l) := by
  unfold p_spec_GoodProps goodP
  by_cases c : (l.length : Int) > 40
  · rw [if_pos c, show decide (l.length ≤ 40) = false by simp; omega]; rfl
  · rw [if_neg c, specP_l0 N l hl hs hN l 0 rfl, Option.bind_some, show decide (l.length ≤ 40) = true by simp; omega]
    cases okPs l 0 l <;> simp
theorem implProps (l : List GProp) (hl : l.length ≤ 1048576) (hs : ∀ x ∈ l, x.Path.size ≤ 1048576) : p_impl_GoodProps l = some (goodP l) := by
  unfold p_impl_GoodProps goodP
  rw [implP_l0 l hl hs l 0 rfl, Option.bind_some]
  cases okPs l 0 l with
  | false => simp
  | true => simp; omega
end Go.Av
end
section
set_option linter.unusedSimpArgs false
set_option linter.unusedVariables false
set_option maxRecDepth 100000
namespace Go.Av
/-! GoodPrefabs: the program and the reference alike. -/
/-- Where a prefab of a name stands first, or -1. -/
def ixN (t : ByteArray) (l : List GPrefab) : Int := if (l.any fun x => decide (x.Name = t)) = true then ((l.findIdx fun x => decide (x.Name = t) : Nat) : Int) else -1
def dep (l : List GPrefab) (i : Nat) (nest : List Int) (x : GPrefab) : Option Int := if x.From = (⟨#[]⟩ : ByteArray) then some 1 else (if ixN x.From (l.take i) < 0 then none else some (nest.getD (ixN x.From (l.take i)).toNat 0 + 1))
def gpL (l : List GPrefab) : List GPrefab → Nat → List Int → Bool
  | [], _, _ => true
  | x :: r, i, nest => (dep l i nest x).elim false fun d => goodName x.Name && decide (ixN x.Name (l.take i) = -1) && decide (d ≤ 5) && goodP x.Props && gpL l r (i + 1) (nest ++ [d])
def okN (nest : List Int) : Prop := ∀ d ∈ nest, 1 ≤ d ∧ d ≤ 5
def okPf (x : GPrefab) : Prop := x.Name.size ≤ 1048576 ∧ x.Props.length ≤ 1048576 ∧ ∀ y ∈ x.Props, y.Path.size ≤ 1048576
def goodPf (l : List GPrefab) : Bool := decide (l.length ≤ 40) && gpL l l 0 []
end Go.Av
end
section
set_option linter.unusedSimpArgs false
set_option linter.unusedVariables false
set_option maxRecDepth 100000
namespace Go.Av
/-! Good props as a list that rises; a prop laid into a list. Plain. -/
theorem okPs_iff (l : List GProp) : ∀ (r : List GProp) (i : Nat), okPs l i r = true ↔ ∀ (j : Nat) (x : GProp), r[j]? = some x → okP l (i + j) x = true
  | [], i => by simp [okPs]
  | y :: r, i => by
    simp only [okPs, Bool.and_eq_true, okPs_iff l r (i + 1)]
    constructor
    · rintro ⟨h1, h2⟩ j x hx
      cases j with
      | zero => simp at hx; subst hx; exact h1
      | succ j => have := h2 j x (by simpa using hx); rwa [show i + (j + 1) = i + 1 + j by omega]
    · intro h
      refine ⟨h 0 y rfl, fun j x hx => ?_⟩
      have := h (j + 1) x (by simpa using hx); rwa [show i + 1 + j = i + (j + 1) by omega]
def gdP (l : List GProp) : Prop := Rise GProp.Path l ∧ ∀ x ∈ l, pathB x.Path = true ∧ rng (x.Value.size : Int) 1 40 = true
theorem goodP_iff (l : List GProp) : goodP l = true ↔ l.length ≤ 40 ∧ gdP l := by
  unfold goodP
  rw [Bool.and_eq_true, decide_eq_true_eq, okPs_iff]
  refine and_congr Iff.rfl ?_
  constructor
  · intro h
    refine ⟨rise_of (fun i x y hx hy => ?_), fun x hx => ?_⟩
    · have := h (i + 1) y hy
      simp only [okP, Bool.and_eq_true] at this
      have := this.2
      rw [if_neg (by omega), show 0 + (i + 1) - 1 = i by omega, hx] at this
      exact this
    · obtain ⟨j, hj⟩ := List.getElem?_of_mem hx
      have := h j x hj
      simp only [okP, Bool.and_eq_true] at this
      exact this.1
  · rintro ⟨hr, hg⟩ j x hx
    have hm := hg x (List.mem_of_getElem? hx)
    simp only [okP, Bool.and_eq_true]
    refine ⟨hm, ?_⟩
    by_cases c : j = 0
    · rw [if_pos (by omega)]
    · obtain ⟨hj, _⟩ := List.getElem?_eq_some_iff.1 hx
      rw [if_neg (by omega), show 0 + j - 1 = j - 1 by omega, List.getElem?_eq_getElem (show j - 1 < l.length by omega)]
      exact rise_at hr (show j - 1 < j by omega) (List.getElem?_eq_getElem (show j - 1 < l.length by omega)) hx
/-- A prop laid into a list that rises, or taken out of it. -/
def layR (t v : ByteArray) (has : Bool) : List GProp → List GProp
  | [] => if has = true then [⟨t, v⟩] else []
  | x :: l => if blt x.Path t = true then x :: layR t v has l else if x.Path = t then (if has = true then ⟨t, v⟩ :: l else l) else (if has = true then ⟨t, v⟩ :: x :: l else x :: l)
def atP (l : List GProp) (t : ByteArray) : Bool := (l[spot GProp.Path l t]?).elim false fun a => decide (a.Path = t)
/-- Props laid one after the other. -/
def layAll (l r : List GProp) : List GProp := r.foldl (fun o p => layR p.Path p.Value true o) l
end Go.Av
end
section
set_option linter.unusedSimpArgs false
set_option linter.unusedVariables false
set_option maxRecDepth 100000
namespace Go.Av
/-! PropsOf: the program and the reference alike. -/
theorem bsP_eq (x : List GProp) (t : ByteArray) (f : GProp → ByteArray → Option Int) : ∀ (n : Nat) (i j : Int), p_slices_BinarySearchFunc_impl_Prop_impl_Prop_string_l0 x t f n i j = bsG x t f n i j
  | 0, i, j => rfl
  | n + 1, i, j => by
    unfold p_slices_BinarySearchFunc_impl_Prop_impl_Prop_string_l0 bsG
    simp only [bsP_eq x t f n]; rfl
theorem placeP_eq (N : Nat) (l : List GProp) (t : ByteArray) (hN : l.length < N) (hr : Rise GProp.Path l) (hl : l.length ≤ 1048576) :
    p_impl_propPlace N l t = some (((spot GProp.Path l t : Nat) : Int), atP l t) := by
  unfold p_impl_propPlace
  have hf : ∀ a : GProp, (fun x0_ x1_ => p_impl_propPlace_1 x0_ x1_) a t = some (cmpB a.Path t) := fun a => by
    simp [p_impl_propPlace_1, p_strings_Compare, p_internal_bytealg_CompareString]
  have := bsW_spec (N := N) (key := GProp.Path) hN hf hr (by omega)
  unfold p_slices_BinarySearchFunc_impl_Prop_impl_Prop_string
  simp only [bsP_eq]
  unfold bsW at this
  rw [this, Option.bind_some]; rfl
theorem atP_true {l : List GProp} {t : ByteArray} (h : atP l t = true) : ∃ x, l[spot GProp.Path l t]? = some x ∧ x.Path = t ∧ spot GProp.Path l t < l.length := by
  unfold atP at h
  cases hg : l[spot GProp.Path l t]? with
  | none => rw [hg] at h; cases h
  | some x => rw [hg] at h; exact ⟨x, rfl, by simpa using h, (List.getElem?_eq_some_iff.1 hg).1⟩
theorem idxNP {α : Type} {l : List α} {k : Nat} {x : α} (h : l[k]? = some x) : idx l (k : Int) = some x := by
  unfold idx; rw [if_pos (by omega), Int.toNat_natCast]; exact h
/-! ### the reference's laying -/
/-! ### many props laid -/
/-! ### good prefabs -/
/-- What the props of prefab i come to: the program and the reference. -/
def PfR (N : Nat) (l : List GPrefab) (i : Nat) (x : GPrefab) : Prop :=
  ∃ out, p_spec_l26Props N l x.Name = some out ∧ p_impl_propsOf N l (i : Int) = some (out, decide (out.length ≤ 40)) ∧ gdP out ∧ out.length ≤ 40 * (i + 1) ∧ ∀ y ∈ out, ∃ p ∈ l, y ∈ p.Props
def PropsR (N : Nat) (l : List GPrefab) (t : ByteArray) : Prop :=
  ∃ r, p_spec_PropsOf N l t = some r ∧ p_impl_PropsOf N l t = some r ∧ gdP r.1 ∧ r.1.length ≤ 40 ∧ (∀ y ∈ r.1, ∃ p ∈ l, y ∈ p.Props)
end Go.Av
end
section
set_option linter.unusedSimpArgs false
set_option linter.unusedVariables false
set_option maxRecDepth 100000
namespace Go.Av
/-! OverridesOf: the program and the reference alike. -/
/-- The value of a path, and whether it is there. -/
def findR (t : ByteArray) : List GProp → ByteArray × Bool
  | [] => ((⟨#[]⟩ : ByteArray), false)
  | x :: l => if x.Path = t then (x.Value, true) else findR t l
theorem find_l0 (t : ByteArray) : ∀ (l : List GProp) (i : Nat), p_spec_l26Find_l0 t l i = some (if (findR t l).2 = true then .ret (findR t l) else .out ())
  | [], i => by simp [p_spec_l26Find_l0, findR]
  | x :: l, i => by
    rw [p_spec_l26Find_l0, findR]
    by_cases c : x.Path = t
    · rw [if_pos c, if_pos c]; simp
    · rw [if_neg c, if_neg c, find_l0 t l (i + 1)]
theorem findR_false {t : ByteArray} : ∀ {l : List GProp}, (findR t l).2 = false → findR t l = ((⟨#[]⟩ : ByteArray), false)
  | [], _ => rfl
  | x :: l, h => by
    rw [findR] at h ⊢
    by_cases c : x.Path = t
    · rw [if_pos c] at h; cases h
    · rw [if_neg c] at h ⊢; exact findR_false h
theorem find_eq (l : List GProp) (t : ByteArray) : p_spec_l26Find l t = some (findR t l) := by
  unfold p_spec_l26Find
  rw [find_l0, Option.bind_some]
  cases h : (findR t l).2 with
  | true => simp
  | false => rw [findR_false h]; simp
theorem findR_none {t : ByteArray} : ∀ {l : List GProp}, (∀ x ∈ l, x.Path ≠ t) → findR t l = ((⟨#[]⟩ : ByteArray), false)
  | [], _ => rfl
  | x :: l, h => by rw [findR, if_neg (h x (by simp)), findR_none (fun y hy => h y (by simp [hy]))]
theorem findR_at {t : ByteArray} : ∀ {l : List GProp} {i : Nat} {x : GProp}, Rise GProp.Path l → l[i]? = some x → x.Path = t → findR t l = (x.Value, true)
  | [], i, x, _, h, _ => by simp at h
  | y :: l, 0, x, hr, h, e => by simp at h; subst h; rw [findR, if_pos e]
  | y :: l, i + 1, x, hr, h, e => by
    have h : l[i]? = some x := by simpa using h
    have := blt_ne (hr.1 x (List.mem_of_getElem? h))
    rw [findR, if_neg (by rw [← e]; exact this), findR_at hr.2 h e]
theorem propAt_eq (N : Nat) (l : List GProp) (t : ByteArray) (hN : l.length < N) (hr : Rise GProp.Path l) (hl : l.length ≤ 1048576) : p_impl_propAt N l t = some (findR t l) := by
  unfold p_impl_propAt
  rw [placeP_eq N l t hN hr hl, Option.bind_some]
  cases ha : atP l t with
  | true =>
    obtain ⟨x, hx, hp, hlt⟩ := atP_true ha
    simp only [if_true]
    rw [idxNP hx, Option.bind_some, findR_at hr hx hp]
  | false =>
    simp only [Bool.false_eq_true, if_false]
    rw [findR_none (fun x hx e => ?_)]
    obtain ⟨i, hi⟩ := List.getElem?_of_mem hx
    have hs := spot_at hr hi
    rw [e] at hs
    unfold atP at ha
    rw [hs, hi] at ha
    simp [e] at ha
def ovK (a : List GProp) (x : GProp) : Bool := !((findR x.Path a).2 && decide ((findR x.Path a).1 = x.Value))
def OverR (N : Nat) (l : List GPrefab) (t : ByteArray) (w : List GProp) : Prop :=
  ∃ r, p_spec_OverridesOf N l t w = some r ∧ p_impl_OverridesOf N l t w = some r ∧ r.1.length ≤ w.length ∧ ∀ y ∈ r.1, y ∈ w
end Go.Av
end
section
set_option linter.unusedSimpArgs false
set_option linter.unusedVariables false
set_option maxRecDepth 100000
namespace Go.Av
/-! JoinProps: the program and the reference alike. -/
/-! ### names in order -/
def idB (x : ByteArray) : ByteArray := x
def putN (a : List ByteArray) (s : ByteArray) : List ByteArray := if a[spot idB a s]? = some s then a else a.take (spot idB a s) ++ (s :: a.drop (spot idB a s))
theorem rise_put : ∀ {a : List ByteArray} {s : ByteArray}, Rise idB a → Rise idB (putN a s) ∧ (putN a s)[spot idB a s]? = some s ∧ (∀ y, y ∈ putN a s ↔ y = s ∨ y ∈ a)
  | [], s, _ => by simp [putN, spot_nil, Rise]
  | x :: a, s, h => by
    have ih := rise_put (s := s) h.2
    rw [spot_cons]
    show Rise idB (putN (x :: a) s) ∧ (putN (x :: a) s)[if blt (idB x) s = true then spot idB a s + 1 else 0]? = some s ∧ _
    unfold putN
    rw [spot_cons]
    by_cases c : blt (idB x) s = true
    · simp only [if_pos c, List.getElem?_cons_succ, List.take_succ_cons, List.drop_succ_cons, List.cons_append]
      have e : (if a[spot idB a s]? = some s then x :: a else x :: (a.take (spot idB a s) ++ s :: a.drop (spot idB a s))) = x :: putN a s := by
        unfold putN; split <;> rfl
      rw [e]
      refine ⟨⟨fun y hy => ?_, ih.1⟩, by simpa using ih.2.1, fun y => ?_⟩
      · rcases (ih.2.2 y).1 hy with rfl | hy
        · exact c
        · exact h.1 y hy
      · rw [List.mem_cons, List.mem_cons, ih.2.2]
        constructor
        · rintro (h | h | h)
          · exact .inr (.inl h)
          · exact .inl h
          · exact .inr (.inr h)
        · rintro (h | h | h)
          · exact .inr (.inl h)
          · exact .inl h
          · exact .inr (.inr h)
    · simp only [if_neg c, List.getElem?_cons_zero, List.take_zero, List.drop_zero, List.nil_append]
      by_cases e : x = s
      · rw [if_pos (by rw [e])]
        exact ⟨h, by rw [e]; rfl, fun y => by rw [← e]; simp⟩
      · rw [if_neg (by simpa using e)]
        have hlt : blt s x = true := by
          rcases blt_not (Bool.eq_false_iff.2 c) with h1 | h1
          · exact absurd h1 e
          · exact h1
        refine ⟨⟨fun y hy => ?_, h⟩, rfl, fun y => by simp⟩
        rcases List.mem_cons.1 hy with rfl | hy
        · exact hlt
        · exact blt_trans hlt (h.1 y hy)
theorem put_l0 {a : List ByteArray} {s : ByteArray} (hr : Rise idB a) (hl : a.length ≤ 4611686018427387903) : ∀ (n k : Nat), k ≤ spot idB a s → spot idB a s - k < n → p_spec_l1PutText_l0 a s n (k : Int) = some ((spot idB a s : Nat) : Int)
  | 0, k, _, h => by omega
  | n + 1, k, h1, h2 => by
    unfold p_spec_l1PutText_l0
    have hle := spot_le (key := idB) a s
    by_cases hk : k < a.length
    · rw [if_pos (by omega), idx_of hk, Option.bind_some]
      have hx : a[k]? = some a[k] := List.getElem?_eq_getElem hk
      by_cases c : Op.bytesLess a[k].toList s.toList = true
      · rw [if_pos c, wI _ (by omega) (by omega)]
        have : k < spot idB a s := by
          rcases Nat.lt_or_ge k (spot idB a s) with g | g
          · exact g
          · have := spot_ge hr g hx; exact absurd c (by rw [show Op.bytesLess a[k].toList s.toList = blt (idB a[k]) s from rfl, this]; decide)
        have := put_l0 (s := s) hr hl n (k + 1) (by omega) (by omega)
        rw [← this]; congr 1
      · rw [if_neg c]
        rcases Nat.lt_or_ge k (spot idB a s) with g | g
        · exact absurd (spot_lt g hx) c
        · congr 1; omega
    · rw [if_neg (by omega)]; congr 1; omega
theorem put_eq {a : List ByteArray} {s : ByteArray} {N : Nat} (hr : Rise idB a) (hl : a.length ≤ 1048576) (hN : a.length < N) : p_spec_l1PutText N a s = some (putN a s) := by
  unfold p_spec_l1PutText
  have hle := spot_le (key := idB) a s
  have := put_l0 (s := s) hr (by omega) N 0 (Nat.zero_le _) (by omega)
  rw [show ((0 : Nat) : Int) = 0 from rfl] at this
  rw [this, Option.bind_some]
  have s1 : slc a 0 ((spot idB a s : Nat) : Int) = some (a.take (spot idB a s)) := by unfold slc; rw [if_pos (by omega)]; simp
  have s2 : slc a ((spot idB a s : Nat) : Int) (a.length : Int) = some (a.drop (spot idB a s)) := by
    unfold slc; rw [if_pos (by omega)]
    simp only [Int.toNat_natCast]
    rw [List.take_of_length_le (by simp)]
  have j0 : p_spec_l1PutText_j0 a s ((spot idB a s : Nat) : Int) false = some (a.take (spot idB a s) ++ (s :: a.drop (spot idB a s))) := by
    unfold p_spec_l1PutText_j0
    rw [if_neg (by decide), s1, s2, Option.bind_some, Option.bind_some, if_pos (by simp; omega), if_pos (by simp; omega), if_pos (by simp; omega)]
    simp
  unfold putN
  show (if ((spot idB a s : Nat) : Int) < (a.length : Int) then _ else _) = _
  by_cases h : spot idB a s < a.length
  · rw [if_pos (by omega), idx_of h, Option.bind_some, List.getElem?_eq_getElem h]
    by_cases c : a[spot idB a s] = s
    · rw [if_pos (by rw [c]), decide_eq_true c]; unfold p_spec_l1PutText_j0; rw [if_pos rfl]
    · rw [if_neg (by simpa using c), decide_eq_false c, j0]
  · rw [if_neg (by omega), List.getElem?_eq_none (by omega), if_neg (by simp), j0]
theorem put_len (a : List ByteArray) (s : ByteArray) : (putN a s).length ≤ a.length + 1 := by
  unfold putN
  split
  · omega
  · have := spot_le (key := idB) a s
    simp; omega
/-! ### sorted and compacted: the list that rises -/
theorem rise_ext : ∀ {a b : List ByteArray}, Rise idB a → Rise idB b → (∀ y, y ∈ a ↔ y ∈ b) → a = b
  | [], [], _, _, _ => rfl
  | [], y :: b, _, _, h => by have := (h y).2 (by simp); simp at this
  | x :: a, [], _, _, h => by have := (h x).1 (by simp); simp at this
  | x :: a, y :: b, ha, hb, h => by
    have e : x = y := by
      rcases List.mem_cons.1 ((h x).1 (by simp)) with e | e
      · exact e
      · rcases List.mem_cons.1 ((h y).2 (by simp)) with e2 | e2
        · exact e2.symm
        · have h1 := hb.1 x e
          have h2 := ha.1 y e2
          rw [blt_asymm h2] at h1; cases h1
    subst e
    have ht : a = b := rise_ext ha.2 hb.2 (fun z => ⟨fun hz => by
      rcases List.mem_cons.1 ((h z).1 (by simp [hz])) with e | e
      · exact absurd e.symm (blt_ne (ha.1 z hz))
      · exact e, fun hz => by
      rcases List.mem_cons.1 ((h z).2 (by simp [hz])) with e | e
      · exact absurd e.symm (blt_ne (hb.1 z hz))
      · exact e⟩)
    rw [ht]
theorem rise_snoc {α : Type} {key : α → ByteArray} : ∀ {l : List α} {y : α}, Rise key l → (∀ x ∈ l, blt (key x) (key y) = true) → Rise key (l ++ [y])
  | [], y, _, _ => ⟨by simp, trivial⟩
  | x :: l, y, h, hy => ⟨fun z hz => by
      rcases List.mem_append.1 hz with hz | hz
      · exact h.1 z hz
      · rw [List.mem_singleton.1 hz]; exact hy x (by simp), rise_snoc h.2 (fun z hz => hy z (by simp [hz]))⟩
theorem le_bl {x y : List UInt8} (h : x ≤ y) : x = y ∨ Op.bytesLess x y = true := by
  rcases bl_tri x y with h1 | h1 | h1
  · exact .inr h1
  · exact .inl h1
  · rw [Go.Proofs.bytesLess_eq] at h1; exact absurd h (List.not_le.2 (of_decide_eq_true h1))
theorem ofL_list (x : List UInt8) : (ofL x).toList = x := by rw [← toList_data]; simp [ofL]
theorem blt_of {x y : List UInt8} (h : Op.bytesLess x y = true) : blt (idB (ofL x)) (idB (ofL y)) = true := by
  show Op.bytesLess (ofL x).toList (ofL y).toList = true
  rw [ofL_list, ofL_list]; exact h
theorem comp_inv (d : Array (List UInt8)) (hs : ∀ i j, i ≤ j → j < d.size → d[i]! ≤ d[j]!) : ∀ m, m ≤ d.size → Rise idB ((Lib.compactUpTo d m).map ofL) ∧ ∀ y, y ∈ Lib.compactUpTo d m ↔ ∃ j, j < m ∧ d[j]! = y
  | 0, _ => by simp [Lib.compactUpTo, Rise]
  | m + 1, hm => by
    obtain ⟨h1, h2⟩ := comp_inv d hs m (by omega)
    rw [Lib.compactUpTo_succ]
    cases hk : Lib.keeps d m with
    | true =>
      simp only [if_true]
      refine ⟨?_, fun y => ?_⟩
      · rw [List.map_append]
        refine rise_snoc h1 (fun x hx => ?_)
        obtain ⟨z, hz, rfl⟩ := List.mem_map.1 hx
        obtain ⟨j, hj, rfl⟩ := (h2 z).1 hz
        refine blt_of ?_
        have hne : d[m]! ≠ d[m - 1]! := by
          unfold Lib.keeps at hk
          simp only [decide_eq_true_eq] at hk
          rcases hk with h | h
          · omega
          · exact h
        rcases le_bl (hs (m - 1) m (by omega) (by omega)) with e | e
        · exact absurd e.symm hne
        · rcases le_bl (hs j (m - 1) (by omega) (by omega)) with e2 | e2
          · rw [e2]; exact e
          · exact bl_trans e2 e
      · rw [List.mem_append, h2, List.mem_singleton]
        constructor
        · rintro (⟨j, hj, e⟩ | e)
          · exact ⟨j, by omega, e⟩
          · exact ⟨m, by omega, e.symm⟩
        · rintro ⟨j, hj, e⟩
          by_cases c : j = m
          · subst c; exact .inr e.symm
          · exact .inl ⟨j, by omega, e⟩
    | false =>
      simp only [Bool.false_eq_true, if_false, List.append_nil]
      refine ⟨h1, fun y => ?_⟩
      rw [h2]
      constructor
      · rintro ⟨j, hj, e⟩; exact ⟨j, by omega, e⟩
      · rintro ⟨j, hj, e⟩
        by_cases c : j = m
        · subst c
          have hke : j ≠ 0 ∧ d[j]! = d[j - 1]! := by
            unfold Lib.keeps at hk
            simp only [decide_eq_false_iff_not, not_or, Decidable.not_not] at hk
            exact hk
          exact ⟨j - 1, by omega, by rw [← hke.2]; exact e⟩
        · exact ⟨j, by omega, e⟩
theorem comp_sort (l : List ByteArray) : Rise idB (compS (sortS l)) ∧ ∀ y, y ∈ compS (sortS l) ↔ y ∈ l := by
  obtain ⟨zs, hz⟩ : ∃ zs, ((l.map toL).mergeSort fun x y => decide (x ≤ y)) = zs := ⟨_, rfl⟩
  have hp : List.Pairwise (fun a b => decide (a ≤ b) = true) zs := by
    rw [← hz]
    exact List.pairwise_mergeSort (le := fun x y : List UInt8 => decide (x ≤ y)) (fun a b c h1 h2 => by simp only [decide_eq_true_eq] at *; exact List.le_trans h1 h2) (fun a b => by simp only [Bool.or_eq_true, decide_eq_true_eq]; exact List.le_total a b) _
  have hm : ∀ y, y ∈ zs ↔ y ∈ l.map toL := fun y => by rw [← hz]; exact List.mem_mergeSort
  have e1 : (sortS l).map toL = zs := by
    unfold sortS
    rw [hz, List.map_map]
    have : (toL ∘ ofL) = id := by funext x; exact toL_ofL x
    rw [this, List.map_id]
  have hget : ∀ i, i < zs.length → zs.toArray[i]! = zs.getD i [] := fun i hi => by simp [hi]
  have hs : ∀ i j, i ≤ j → j < zs.toArray.size → zs.toArray[i]! ≤ zs.toArray[j]! := fun i j hij hj => by
    have hj' : j < zs.length := by simpa using hj
    rcases Nat.lt_or_ge i j with h | h
    · have := List.pairwise_iff_getElem.1 hp i j (by omega) hj' h
      have hi' : i < zs.length := by omega
      simpa [hi', hj'] using this
    · have : i = j := by omega
      subst this; exact List.le_refl _
  obtain ⟨g1, g2⟩ := comp_inv zs.toArray hs zs.length (by simp)
  unfold compS Lib.compact
  rw [e1]
  refine ⟨g1, fun y => ?_⟩
  rw [List.mem_map]
  constructor
  · rintro ⟨x, hx, rfl⟩
    obtain ⟨j, hj, rfl⟩ := (g2 x).1 hx
    have : zs.toArray[j]! ∈ zs := by simp [hj]
    obtain ⟨z, hz1, hz2⟩ := List.mem_map.1 ((hm _).1 this)
    rw [← hz2, ofL_toL]; exact hz1
  · intro hy
    refine ⟨toL y, ?_, ofL_toL y⟩
    rw [g2]
    obtain ⟨j, hj, e⟩ := List.getElem_of_mem ((hm _).2 (List.mem_map_of_mem hy))
    exact ⟨j, hj, by simp [hj, e]⟩
/-! ### the reference's paths -/
def putAll (o : List ByteArray) (r : List GProp) : List ByteArray := r.foldl (fun a x => putN a x.Path) o
theorem putAll_spec : ∀ (r : List GProp) (o : List ByteArray), Rise idB o → Rise idB (putAll o r) ∧ (∀ y, y ∈ putAll o r ↔ y ∈ o ∨ ∃ x ∈ r, x.Path = y) ∧ (putAll o r).length ≤ o.length + r.length
  | [], o, h => ⟨h, by simp [putAll], by simp [putAll]⟩
  | x :: r, o, h => by
    obtain ⟨h1, _, h2⟩ := rise_put (s := x.Path) h
    obtain ⟨g1, g2, g3⟩ := putAll_spec r (putN o x.Path) h1
    have hl := put_len o x.Path
    refine ⟨g1, fun y => ?_, by simp only [List.length_cons]; unfold putAll at *; rw [List.foldl_cons]; omega⟩
    rw [show putAll o (x :: r) = putAll (putN o x.Path) r from rfl, g2, h2]
    simp only [List.mem_cons, exists_eq_or_imp]
    constructor
    · rintro ((h | h) | h)
      · exact .inr (.inl h.symm)
      · exact .inl h
      · exact .inr (.inr h)
    · rintro (h | h | h)
      · exact .inl (.inr h)
      · exact .inl (.inl h.symm)
      · exact .inr h
theorem js_l1 (N : Nat) : ∀ (r : List GProp) (i : Nat) (o : List ByteArray), Rise idB o → o.length + r.length ≤ 1048576 → o.length + r.length < N → p_spec_JoinProps_l1 N r i o = some (putAll o r)
  | [], i, o, _, _, _ => by simp [p_spec_JoinProps_l1, putAll]
  | x :: r, i, o, h, hl, hN => by
    simp only [List.length_cons] at hl hN
    have := put_len o x.Path
    rw [p_spec_JoinProps_l1, put_eq h (by omega) (by omega), Option.bind_some, js_l1 N r (i + 1) _ (rise_put h).1 (by omega) (by omega)]; rfl
/-! ### one path -/
def eqS (a b : ByteArray × Bool) : Bool := decide (a.1 = b.1) && (a.2 == b.2)
/-- Do they clash, and what counts. -/
def cnt (B O T : ByteArray × Bool) : Bool × (ByteArray × Bool) :=
  if (!(eqS O B) && !(eqS T B) && !(eqS O T)) = true then (true, B) else if eqS O B = false then (false, O) else if eqS T B = false then (false, T) else (false, B)
def nP (x : ByteArray) (B O T : ByteArray × Bool) (P : List GProp) : List GProp := if (cnt B O T).2.2 = true then P ++ [⟨x, (cnt B O T).2.1⟩] else P
def nC (x : ByteArray) (B O T : ByteArray × Bool) (C : List ByteArray) : List ByteArray := if (cnt B O T).1 = true then C ++ [x] else C
theorem js_step (b o t : List GProp) (x : ByteArray) (r : List ByteArray) (i : Nat) (P : List GProp) (C : List ByteArray) (hP : P.length < 4294967296) (hC : C.length < 4294967296) :
    p_spec_JoinProps_l2 b o t (x :: r) i P C = p_spec_JoinProps_l2 b o t r (i + 1) (nP x (findR x b) (findR x o) (findR x t) P) (nC x (findR x b) (findR x o) (findR x t) C) := by
  rw [p_spec_JoinProps_l2, find_eq, find_eq, find_eq, Option.bind_some, Option.bind_some, Option.bind_some]
  generalize findR x b = B
  generalize findR x o = O
  generalize findR x t = T
  obtain ⟨b1, b2⟩ := B
  obtain ⟨o1, o2⟩ := O
  obtain ⟨t1, t2⟩ := T
  unfold p_spec_JoinProps_j1 p_spec_JoinProps_j2 p_spec_JoinProps_j3 nP nC cnt eqS
  by_cases h1 : o1 = b1
  · subst h1
    by_cases h2 : t1 = o1
    · subst h2
      cases b2 <;> cases o2 <;> cases t2 <;> simp [hP, hC]
    · have h2' : ¬ o1 = t1 := fun e => h2 e.symm
      cases b2 <;> cases o2 <;> cases t2 <;> simp [hP, hC, h2, h2']
  · by_cases h2 : t1 = b1
    · subst h2
      cases b2 <;> cases o2 <;> cases t2 <;> simp [hP, hC, h1]
    · by_cases h3 : o1 = t1
      · subst h3
        cases b2 <;> cases o2 <;> cases t2 <;> simp [hP, hC, h1]
      · cases b2 <;> cases o2 <;> cases t2 <;> simp [hP, hC, h1, h2, h3]
theorem ji_step (N : Nat) (b o t : List GProp) (hb : Rise GProp.Path b) (ho : Rise GProp.Path o) (ht : Rise GProp.Path t) (lb : b.length ≤ 40) (lo : o.length ≤ 40) (lt : t.length ≤ 40) (hN : 40 < N) (x : ByteArray) (r : List ByteArray) (i : Nat) (P : List GProp) (C : List ByteArray) (hP : P.length < 4294967296) (hC : C.length < 4294967296) :
    p_impl_JoinProps_l1 N b o t (x :: r) i P C = p_impl_JoinProps_l1 N b o t r (i + 1) (nP x (findR x b) (findR x o) (findR x t) P) (nC x (findR x b) (findR x o) (findR x t) C) := by
  have st : ∀ l : List GProp, Rise GProp.Path l → l.length ≤ 40 → p_impl_stateAt N l x = some ⟨(findR x l).1, (findR x l).2⟩ := fun l hl h40 => by
    unfold p_impl_stateAt; rw [propAt_eq N l x (by omega) hl (by omega), Option.bind_some]
  rw [p_impl_JoinProps_l1, st b hb lb, st o ho lo, st t ht lt, Option.bind_some, Option.bind_some, Option.bind_some]
  generalize findR x b = B
  generalize findR x o = O
  generalize findR x t = T
  obtain ⟨b1, b2⟩ := B
  obtain ⟨o1, o2⟩ := O
  obtain ⟨t1, t2⟩ := T
  unfold p_impl_JoinProps_j1 nP nC cnt eqS
  by_cases h1 : o1 = b1
  · subst h1
    by_cases h2 : t1 = o1
    · subst h2
      cases b2 <;> cases o2 <;> cases t2 <;> simp [hP, hC]
    · have h2' : ¬ o1 = t1 := fun e => h2 e.symm
      cases b2 <;> cases o2 <;> cases t2 <;> simp [hP, hC, h2, h2']
  · by_cases h2 : t1 = b1
    · subst h2
      cases b2 <;> cases o2 <;> cases t2 <;> simp [hP, hC, h1]
    · by_cases h3 : o1 = t1
      · subst h3
        cases b2 <;> cases o2 <;> cases t2 <;> simp [hP, hC, h1]
      · cases b2 <;> cases o2 <;> cases t2 <;> simp [hP, hC, h1, h2, h3]
theorem findR_size {M : Nat} {t : ByteArray} : ∀ {l : List GProp}, (∀ x ∈ l, x.Value.size ≤ M) → (findR t l).1.size ≤ M
  | [], _ => Nat.zero_le _
  | x :: l, h => by
    rw [findR]; split
    · exact h x (by simp)
    · exact findR_size (fun y hy => h y (by simp [hy]))
def okS (M : Nat) (b : List GProp) : Prop := ∀ x ∈ b, x.Path.size ≤ M ∧ x.Value.size ≤ M
theorem cnt_size {M : Nat} {B O T : ByteArray × Bool} (hB : B.1.size ≤ M) (hO : O.1.size ≤ M) (hT : T.1.size ≤ M) : (cnt B O T).2.1.size ≤ M := by
  unfold cnt
  split
  · exact hB
  · split
    · exact hO
    · split
      · exact hT
      · exact hB
theorem loop_both (N M : Nat) (b o t : List GProp) (hb : Rise GProp.Path b) (ho : Rise GProp.Path o) (ht : Rise GProp.Path t) (lb : b.length ≤ 40) (lo : o.length ≤ 40) (lt : t.length ≤ 40) (hN : 40 < N) (sb : okS M b) (so : okS M o) (st : okS M t) :
    ∀ (r : List ByteArray) (i j : Nat) (P : List GProp) (C : List ByteArray), P.length + r.length < 4294967296 → C.length + r.length < 4294967296 → okS M P → (∀ y ∈ C, y.size ≤ M) → (∀ y ∈ r, y.size ≤ M) →
      ∃ P' C', p_spec_JoinProps_l2 b o t r i P C = some (P', C') ∧ p_impl_JoinProps_l1 N b o t r j P C = some (P', C') ∧ P'.length ≤ P.length + r.length ∧ C'.length ≤ C.length + r.length ∧ okS M P' ∧ ∀ y ∈ C', y.size ≤ M
  | [], i, j, P, C, _, _, h1, h2, _ => ⟨P, C, by simp [p_spec_JoinProps_l2], by simp [p_impl_JoinProps_l1], by simp, by simp, h1, h2⟩
  | x :: r, i, j, P, C, hP, hC, h1, h2, h3 => by
    simp only [List.length_cons] at hP hC
    have lP : (nP x (findR x b) (findR x o) (findR x t) P).length ≤ P.length + 1 := by unfold nP; split <;> simp
    have lC : (nC x (findR x b) (findR x o) (findR x t) C).length ≤ C.length + 1 := by unfold nC; split <;> simp
    have cs := cnt_size (findR_size (t := x) (fun y hy => (sb y hy).2)) (findR_size (t := x) (fun y hy => (so y hy).2)) (findR_size (t := x) (fun y hy => (st y hy).2))
    obtain ⟨P', C', e1, e2, e3, e4, e5, e6⟩ := loop_both N M b o t hb ho ht lb lo lt hN sb so st r (i + 1) (j + 1) (nP x (findR x b) (findR x o) (findR x t) P) (nC x (findR x b) (findR x o) (findR x t) C) (by omega) (by omega)
      (fun y hy => by
        unfold nP at hy
        split at hy
        · rcases List.mem_append.1 hy with hy | hy
          · exact h1 y hy
          · rw [List.mem_singleton.1 hy]; exact ⟨h3 x (by simp), cs⟩
        · exact h1 y hy)
      (fun y hy => by
        unfold nC at hy
        split at hy
        · rcases List.mem_append.1 hy with hy | hy
          · exact h2 y hy
          · rw [List.mem_singleton.1 hy]; exact h3 x (by simp)
        · exact h2 y hy) (fun y hy => h3 y (by simp [hy]))
    refine ⟨P', C', ?_, ?_, by simp only [List.length_cons]; omega, by simp only [List.length_cons]; omega, e5, e6⟩
    · rw [js_step b o t x r i P C (by omega) (by omega)]; exact e1
    · rw [ji_step N b o t hb ho ht lb lo lt hN x r j P C (by omega) (by omega)]; exact e2
/-! ### the whole -/
theorem ji_l0 : ∀ (r : List GProp) (i : Nat) (o : List ByteArray), o.length + r.length < 4294967296 → p_impl_JoinProps_l0 r i o = some (o ++ r.map GProp.Path)
  | [], i, o, _ => by simp [p_impl_JoinProps_l0]
  | x :: r, i, o, h => by
    simp only [List.length_cons] at h
    rw [p_impl_JoinProps_l0, if_pos (by omega), ji_l0 r (i + 1) _ (by rw [List.length_append, List.length_singleton]; omega)]; simp
theorem concat3 (b o t : List GProp) (lb : b.length ≤ 40) (lo : o.length ≤ 40) (lt : t.length ≤ 40) : p_slices_Concat_impl_Prop_impl_Prop [b, o, t] = some (b ++ (o ++ t)) := by
  unfold p_slices_Concat_impl_Prop_impl_Prop
  have w : ∀ z : Int, 0 ≤ z → z ≤ 120 → IntKind.i64.wrap z = z := fun z h1 h2 => wI _ (by omega) (by omega)
  simp only [p_slices_Concat_impl_Prop_impl_Prop_l0]
  rw [w (0 + (b.length : Int)) (by omega) (by omega), if_neg (by omega), w (0 + (b.length : Int) + (o.length : Int)) (by omega) (by omega), if_neg (by omega), w _ (by omega) (by omega), if_neg (by omega), Option.bind_some]
  have g : growL ([] : List GProp) (0 + (b.length : Int) + (o.length : Int) + (t.length : Int)) = some [] := by unfold growL; rw [if_pos ⟨rfl, by omega, by omega⟩]
  simp only [p_slices_Concat_impl_Prop_impl_Prop_l1]
  rw [g, Option.bind_some, if_pos (by simp), if_pos (by omega), if_pos (by simp; omega), if_pos (by omega), if_pos (by simp; omega), if_pos (by omega)]
  simp
def JoinR (N M : Nat) (b o t : List GProp) : Prop :=
  ∃ r, p_spec_JoinProps N b o t = some r ∧ p_impl_JoinProps N b o t = some r ∧ r.1.Props.length ≤ 120 ∧ r.1.Clash.length ≤ 120 ∧ okS M r.1.Props ∧ ∀ y ∈ r.1.Clash, y.size ≤ M
theorem join_both (N : Nat) (b o t : List GProp) (lb : b.length ≤ 1048576) (lo : o.length ≤ 1048576) (lt : t.length ≤ 1048576) (sb : okS 1048576 b) (so : okS 1048576 o) (st : okS 1048576 t) (hN : 1048577 < N) : JoinR N 1048576 b o t := by
  have gs := fun (l : List GProp) (h : l.length ≤ 1048576) (s : okS 1048576 l) => specProps N l h (fun x hx => (s x hx).1) (fun x hx => by have := (s x hx).1; omega)
  have gi := fun (l : List GProp) (h : l.length ≤ 1048576) (s : okS 1048576 l) => implProps l h (fun x hx => (s x hx).1)
  have bad : ∃ r : GJoined × Bool, some (⟨[], []⟩, false) = some r ∧ some (⟨[], []⟩, false) = some r ∧ r.1.Props.length ≤ 120 ∧ r.1.Clash.length ≤ 120 ∧ okS 1048576 r.1.Props ∧ ∀ y ∈ r.1.Clash, y.size ≤ 1048576 :=
    ⟨_, rfl, rfl, by simp, by simp, fun y hy => by simp at hy, fun y hy => by simp at hy⟩
  unfold JoinR p_spec_JoinProps p_impl_JoinProps
  rw [gs b lb sb, gi b lb sb, gs o lo so, gi o lo so, gs t lt st, gi t lt st]
  simp only [Option.bind_some]
  unfold p_spec_JoinProps_j0 p_impl_JoinProps_j0
  cases hb : goodP b with
  | false => simpa using bad
  | true =>
  cases ho : goodP o with
  | false => simpa using bad
  | true =>
  cases ht : goodP t with
  | false => simpa using bad
  | true =>
    obtain ⟨b1, b2⟩ := (goodP_iff b).1 hb
    obtain ⟨o1, o2⟩ := (goodP_iff o).1 ho
    obtain ⟨t1, t2⟩ := (goodP_iff t).1 ht
    obtain ⟨u1, u2, u3⟩ := putAll_spec b [] trivial
    obtain ⟨v1, v2, v3⟩ := putAll_spec o _ u1
    obtain ⟨w1, w2, w3⟩ := putAll_spec t _ v1
    have es : p_spec_JoinProps_l0 N [b, o, t] 0 [] = some (putAll (putAll (putAll [] b) o) t) := by
      simp only [p_spec_JoinProps_l0]
      simp only [List.length_nil] at u3
      rw [if_pos (by omega), js_l1 N b 0 [] trivial (by simp; omega) (by simp; omega), Option.bind_some]
      rw [if_pos (by omega), js_l1 N o 0 _ u1 (by omega) (by omega), Option.bind_some]
      rw [if_pos (by omega), js_l1 N t 0 _ v1 (by omega) (by omega), Option.bind_some]
    have hsz : (b ++ (o ++ t)).length ≤ 120 := by simp; omega
    have ei : ((sortP ((b ++ (o ++ t)).map GProp.Path)).bind fun v17 => compP v17) = some (putAll (putAll (putAll [] b) o) t) := by
      unfold sortP
      rw [if_pos (by rw [List.length_map]; omega), Option.bind_some]
      unfold compP
      congr 1
      obtain ⟨c1, c2⟩ := comp_sort ((b ++ (o ++ t)).map GProp.Path)
      refine rise_ext c1 w1 (fun y => ?_)
      rw [c2, w2, v2, u2]
      simp only [List.mem_map, List.mem_append, List.not_mem_nil, false_or]
      constructor
      · rintro ⟨x, h | h | h, rfl⟩
        · exact .inl (.inl ⟨x, h, rfl⟩)
        · exact .inl (.inr ⟨x, h, rfl⟩)
        · exact .inr ⟨x, h, rfl⟩
      · rintro ((⟨x, h, rfl⟩ | ⟨x, h, rfl⟩) | ⟨x, h, rfl⟩)
        · exact ⟨x, .inl h, rfl⟩
        · exact ⟨x, .inr (.inl h), rfl⟩
        · exact ⟨x, .inr (.inr h), rfl⟩
    have hps : ∀ y ∈ putAll (putAll (putAll [] b) o) t, y.size ≤ 1048576 := fun y hy => by
      rw [w2, v2, u2] at hy
      rcases hy with ((hy | ⟨x, hx, rfl⟩) | ⟨x, hx, rfl⟩) | ⟨x, hx, rfl⟩
      · simp at hy
      · exact (sb x hx).1
      · exact (so x hx).1
      · exact (st x hx).1
    simp only [List.length_nil] at u3
    generalize hpp : putAll (putAll (putAll [] b) o) t = paths at *
    obtain ⟨P', C', e1, e2, e3, e4, e5, e6⟩ := loop_both N 1048576 b o t b2.1 o2.1 t2.1 b1 o1 t1 (by omega) sb so st paths 0 0 [] [] (by simp; omega) (by simp; omega) (fun y hy => by simp at hy) (fun y hy => by simp at hy) hps
    simp only [if_true, Bool.not_true, Bool.false_eq_true, if_false]
    rw [es, concat3 b o t b1 o1 t1, Option.bind_some, Option.bind_some, e1, Option.bind_some, ji_l0 _ 0 [] (by simp; omega), Option.bind_some]
    simp only [List.nil_append]
    cases hsp : sortP ((b ++ (o ++ t)).map GProp.Path) with
    | none => rw [hsp] at ei; cases ei
    | some s17 =>
      rw [hsp, Option.bind_some] at ei
      rw [Option.bind_some, ei, Option.bind_some, e2, Option.bind_some]
      simp only [List.length_nil, Nat.zero_add] at e3 e4
      by_cases c : (P'.length : Int) > 40
      · simp only [if_pos c]; exact bad
      · simp only [if_neg c]
        exact ⟨_, rfl, rfl, by show P'.length ≤ 120; omega, by show C'.length ≤ 120; omega, e5, e6⟩
end Go.Av
end
section
set_option linter.unusedSimpArgs false
set_option linter.unusedVariables false
set_option maxRecDepth 100000
namespace Go.Av
open Go.Proofs

/-- The digits that a mark is written with. -/
def mdig (k : Int) (out : ByteArray) : ByteArray := if h : 0 < k then mdig (k.tdiv 10) (strOf [IntKind.u8.wrap (IntKind.i64.wrap (48 + k.tmod 10))] ++ out) else out
termination_by k.toNat
decreasing_by
  have := Int.tdiv_eq_ediv_of_nonneg (a := k) (b := 10) (by omega)
  omega
def mtext (k : Int) : ByteArray := if k ≤ 0 then ⟨#[109, 48]⟩ else ⟨#[109]⟩ ++ mdig k ⟨#[]⟩
def mStr (x : ByteArray) (k : Int) : ByteArray := mtext k
theorem mdig_pos {k : Int} (h : 0 < k) (out : ByteArray) : mdig k out = mdig (k.tdiv 10) (strOf [IntKind.u8.wrap (IntKind.i64.wrap (48 + k.tmod 10))] ++ out) := by
  conv => lhs; rw [mdig]
  simp [h]
theorem mdig_neg {k : Int} (h : ¬ 0 < k) (out : ByteArray) : mdig k out = out := by rw [mdig]; simp [h]
theorem strOf_size (l : List Int) : (strOf l).size = l.length := by simp [strOf, ByteArray.size]

theorem markText_does (k : Int) (hk : k ≤ 4611686018427387904) : Does Tryd.prog 34 [I k] (S (mtext k)) := by
  refine Does.walk (nt := 20) Tryd.func34 rfl rfl (by simp) (by decide) rfl (fun G0 X w0 pv => ?_)
  have ff := And.intro @Ty.nze84 (And.intro @Ty.sl84 (And.intro @Ty.slz84 (And.intro @Ty.zok84 (And.intro @Ty.by84 (And.intro @Ty.zs84 (And.intro @Ty.int3 (And.intro @Ty.int5 (And.intro @Ty.str9 @Ty.u884))))))))
  try refine st_by ff ?_
  repeat' (first
    | exact trivial
    | (refine And.intro ?_ ?_; · (try clear ff; first | omega))
    | (refine ret_q1 rfl ?_; (try refine sr_by ff ?_); all_goals (try clear ff); all_goals (try exact trivial); all_goals (simp_all [mtext]))
    | (with_reducible refine CBC_eq (fun hp hd => ?_) (fun hp hd => ?_) <;> refine st_by (And.intro hd ff) ?_)
    | (with_reducible refine CBC_ne (fun hp hd => ?_) (fun hp hd => ?_) <;> refine st_by (And.intro hd ff) ?_)
    | (with_reducible refine CBC_decT ?_ (fun hd => ?_); (· try clear ff; first | assumption | omega); refine st_by (And.intro hd ff) ?_)
    | (with_reducible refine CBC_decF ?_ (fun hd => ?_); (· try clear ff; first | assumption | omega); refine st_by (And.intro hd ff) ?_)
    | (with_reducible refine CBC_dec (fun hp hd => ?_) (fun hp hd => ?_) <;> refine st_by (And.intro hd ff) ?_)
    | (refine CBC_bool (fun hd => ?_) (fun hd => ?_) <;> refine st_by (And.intro hd ff) ?_)
    | (with_reducible refine GQ_eq (fun hp hd => ?_) (fun hp hd => ?_) <;> refine st_by (And.intro hd ff) ?_)
    | (with_reducible refine GQ_ne (fun hp hd => ?_) (fun hp hd => ?_) <;> refine st_by (And.intro hd ff) ?_)
    | (with_reducible refine GQ_decT ?_ (fun hd => ?_); (· try clear ff; first | assumption | omega); refine st_by (And.intro hd ff) ?_)
    | (with_reducible refine GQ_decF ?_ (fun hd => ?_); (· try clear ff; first | assumption | omega); refine st_by (And.intro hd ff) ?_)
    | (with_reducible refine GQ_dec (fun hp hd => ?_) (fun hp hd => ?_) <;> refine st_by (And.intro hd ff) ?_)
    | (with_reducible refine GQ_ndT ?_ (fun hd => ?_); (· try clear ff; first | assumption | omega); refine st_by (And.intro hd ff) ?_)
    | (with_reducible refine GQ_ndF ?_ (fun hd => ?_); (· try clear ff; first | assumption | omega); refine st_by (And.intro hd ff) ?_)
    | (with_reducible refine GQ_nd (fun hp hd => ?_) (fun hp hd => ?_) <;> refine st_by (And.intro hd ff) ?_)
    | (refine GQ_nb (fun hd => ?_) (fun hd => ?_) <;> refine st_by (And.intro hd ff) ?_)
    | (refine GQ_bool (fun hd => ?_) (fun hd => ?_) <;> refine st_by (And.intro hd ff) ?_))
  all_goals try clear ff
  refine aw_loop (ι := Int × ByteArray) (fun z σ => (0 ≤ z.1 ∧ z.1 ≤ 4611686018427387904 ∧ (z.2.size : Int) + z.1 ≤ 4611686018427387904 ∧ mdig z.1 z.2 = mdig k ⟨#[]⟩) ∧ σ.t 0 = I z.1 ∧ σ.t 3 = S z.2) (fun z => z.1.toNat) (k, ⟨#[]⟩) ?_ ?_
  · (first | exact cl_by trivial | refine st_by trivial ?_)
    simp [ByteArray.size]
    omega
  · rintro ⟨n, out⟩ σ ⟨⟨h1, h2, h3, h4⟩, g0, g3⟩
    simp only at h1 h2 h3 h4 g0 g3
    have e1 : n.tdiv 10 = n / 10 := Int.tdiv_eq_ediv_of_nonneg (by omega)
    have e2 : n.tmod 10 = n % 10 := Int.tmod_eq_emod_of_nonneg (by omega)
    have w1 : IntKind.i64.wrap (n.tdiv 10) = n.tdiv 10 := wI _ (by omega) (by omega)
    have hs := strOf_size [IntKind.u8.wrap (IntKind.i64.wrap (48 + n.tmod 10))]
    have hs2 : ∀ x y : ByteArray, (x ++ y).size = x.size + y.size := fun x y => ByteArray.size_append ..
    simp only [List.length_cons, List.length_nil] at hs
    have ff := And.intro @g0 (And.intro @g3 (And.intro @w1 (And.intro @Ty.nze84 (And.intro @Ty.sl84 (And.intro @Ty.slz84 (And.intro @Ty.zok84 (And.intro @Ty.by84 (And.intro @Ty.zs84 (And.intro @Ty.int3 (And.intro @Ty.int5 (And.intro @Ty.str9 @Ty.u884)))))))))))
    try refine st_by ff ?_
    repeat' (first
      | exact trivial
      | (refine And.intro ?_ ?_; · (try clear ff; first | omega | (rw [hs]; omega) | (have hz : (ByteArray.mk #[109]).size = 1 := rfl; omega) | decide))
      | (refine ret_q1 rfl ?_; (try refine sr_by ff ?_); all_goals (try clear ff); all_goals (try exact trivial); all_goals ((have hk0 : ¬ k ≤ 0 := by omega); simp only [mtext, hk0, if_false]; rw [← h4, mdig_neg (by omega)]))
      | (with_reducible refine CBC_eq (fun hp hd => ?_) (fun hp hd => ?_) <;> refine st_by (And.intro hd ff) ?_)
      | (with_reducible refine CBC_ne (fun hp hd => ?_) (fun hp hd => ?_) <;> refine st_by (And.intro hd ff) ?_)
      | (with_reducible refine CBC_decT ?_ (fun hd => ?_); (· try clear ff; first | assumption | omega); refine st_by (And.intro hd ff) ?_)
      | (with_reducible refine CBC_decF ?_ (fun hd => ?_); (· try clear ff; first | assumption | omega); refine st_by (And.intro hd ff) ?_)
      | (with_reducible refine CBC_dec (fun hp hd => ?_) (fun hp hd => ?_) <;> refine st_by (And.intro hd ff) ?_)
      | (refine CBC_bool (fun hd => ?_) (fun hd => ?_) <;> refine st_by (And.intro hd ff) ?_)
      | (with_reducible refine GQ_eq (fun hp hd => ?_) (fun hp hd => ?_) <;> refine st_by (And.intro hd ff) ?_)
      | (with_reducible refine GQ_ne (fun hp hd => ?_) (fun hp hd => ?_) <;> refine st_by (And.intro hd ff) ?_)
      | (with_reducible refine GQ_decT ?_ (fun hd => ?_); (· try clear ff; first | assumption | omega); refine st_by (And.intro hd ff) ?_)
      | (with_reducible refine GQ_decF ?_ (fun hd => ?_); (· try clear ff; first | assumption | omega); refine st_by (And.intro hd ff) ?_)
      | (with_reducible refine GQ_dec (fun hp hd => ?_) (fun hp hd => ?_) <;> refine st_by (And.intro hd ff) ?_)
      | (with_reducible refine GQ_ndT ?_ (fun hd => ?_); (· try clear ff; first | assumption | omega); refine st_by (And.intro hd ff) ?_)
      | (with_reducible refine GQ_ndF ?_ (fun hd => ?_); (· try clear ff; first | assumption | omega); refine st_by (And.intro hd ff) ?_)
      | (with_reducible refine GQ_nd (fun hp hd => ?_) (fun hp hd => ?_) <;> refine st_by (And.intro hd ff) ?_)
      | (refine GQ_nb (fun hd => ?_) (fun hd => ?_) <;> refine st_by (And.intro hd ff) ?_)
      | (refine GQ_bool (fun hd => ?_) (fun hd => ?_) <;> refine st_by (And.intro hd ff) ?_)
      | ((try clear ff); refine ⟨(n.tdiv 10, _), ⟨⟨?_, ?_, ?_, ?_⟩, rfl, rfl⟩, ?_⟩; (· simp only; omega); (· simp only; omega); (· simp only [hs2, hs]; omega); (· simp only; rw [← h4]; exact (mdig_pos (by assumption) out).symm); (· simp only; omega)))
    all_goals try clear ff
end Go.Av
end
