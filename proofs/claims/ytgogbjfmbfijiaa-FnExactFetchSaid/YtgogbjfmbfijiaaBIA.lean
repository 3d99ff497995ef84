/- Contracts of functions of this seat, each for every argument within its bounds. -/
import Derived.Test.YtgogbjfmbfijiaaBYi
import Derived.Test.YtgogbjfmbfijiaaBG3
set_option linter.unusedSimpArgs false
set_option linter.unusedVariables false
set_option maxRecDepth 100000
set_option maxHeartbeats 1000000
namespace Go.Av
open Go.Proofs
theorem insResident_walk (l : List GResident) (x : GResident) (i : Nat) (hi : i ≤ l.length) (hl : l.length < 4294967296) : DoesX Try.prog 65 [.sl 1000 [] 0 l.length, I i, .sl 1001 [] 0 1] [.row true 4 l.length (esResident l), .row true 4 1 (eResident x)] (.row true 4 (l.length + 1) (esResident (l.take i ++ x :: l.drop i))) [.junk, .row true 4 1 (eResident x)] := by
  have z44 : zOk Try.prog 44 = true := by kernel_rfl
  have sz44 : slSz Try.prog 44 = 4 := by kernel_rfl
  have hL : (esResident l).length = l.length * 4 := esResident_len l
  have w1 : IntKind.i64.wrap ((l.length : Int) + ((1 : Nat) : Int)) = ((l.length + 1 : Nat) : Int) := by rw [wI _ (by omega) (by omega)]; omega
  have w2 : IntKind.i64.wrap ((i : Int) + ((1 : Nat) : Int)) = ((i + 1 : Nat) : Int) := by rw [wI _ (by omega) (by omega)]; omega
  have w3 : IntKind.i64.wrap (((l.length + 1 : Nat) : Int) - (i : Int)) = ((l.length + 1 - i : Nat) : Int) := by rw [wI _ (by omega) (by omega)]; omega
  have lx : leafCs (eResident x) = true := rfl
  have fx : fitCs (eResident x) = true := rfl
  have nx : (eResident x).length = 4 := rfl
  have c0 : (((1 : Nat) : Int) == 0) = false := rfl
  have ff := And.intro @Ty.sl44 (And.intro @Ty.nze44 (And.intro @Ty.slz44 (And.intro @Ty.zok44 (And.intro @Ty.by44 (And.intro @Ty.zs44 (And.intro @w1 (And.intro @w2 (And.intro @w3 (And.intro @c0 (And.intro @lx (And.intro @fx @nx)))))))))))
  refine DoesX.walkLA (nt := 95) Try.func65 rfl rfl (by simp) (by decide) rfl (fun a ha => by simp only [List.mem_cons, List.not_mem_nil, or_false] at ha; rcases ha with rfl | rfl | rfl <;> trivial) rfl (fun G0 X w0 vals hv1 hv2 => ?_)
  obtain ⟨v0, v1, rfl⟩ := len2 hv1
  refine awp_pvcap (r := 1000) (v := v0) rfl rfl (fun A c hv hc1 hc2 => ?_)
  subst hv
  show AWP _ _ _ (startX [.sl 1000 [] 0 l.length, I i, .sl 1001 [] 0 1] [.row true 4 l.length (esResident l), .row true 4 1 (eResident x)])
  refine AWP.seq (aw_sound ?_)
  (first | exact cl_by ff | refine st_by ff ?_)
  (repeat' (first | exact trivial | refine And.intro sd ?_ | fail))
  refine AWP.seq (aw_sound ?_)
  (first | exact cl_by ff | refine st_by ff ?_)
  (repeat' (first | exact trivial | refine And.intro sd ?_ | fail))
  refine AWP.seq (aw_sound ?_)
  (first | exact cl_by ff | refine st_by ff ?_)
  (repeat' (first | exact trivial | refine And.intro sd ?_ | fail))
  refine AWP.seq (aw_sound ?_)
  (first | exact cl_by ff | refine st_by ff ?_)
  (repeat' (first | exact trivial | refine And.intro sd ?_ | fail))
  refine AWP.seq (aw_sound ?_)
  (first | exact cl_by ff | refine st_by ff ?_)
  (repeat' (first | exact trivial | refine And.intro sd ?_ | fail))
  refine AWP.seq (aw_sound ?_)
  (first | exact cl_by ff | refine st_by ff ?_)
  refine CBC_bool (fun hd => ?_) (fun hd => ?_)
  · have hi' : i = l.length := by have := eq_of_beq hd; omega
    simp only [hd]
    (first | exact cl_by ff | refine st_by ff ?_)
    (repeat' (first | exact trivial | refine And.intro sd ?_ | fail))
    refine retX_p1 rfl ?_
    simp only [retXq1, retXCq, rview]
    (first | exact cl_by (And.intro @regsQ_cons (And.intro @regsQ_nil ff)) | refine st_by (And.intro @regsQ_cons (And.intro @regsQ_nil ff)) ?_)
    simp [hi', esResident_app, esResident_cons, esResident_nil]
  have hi' : i < l.length := by have : ¬ ((i : Int) = (l.length : Int)) := by simpa using hd
                                omega
  simp only [hd]
  (first | exact cl_by ff | refine st_by ff ?_)
  obtain ⟨z1, z2, z3, z4⟩ := of_zOk z44
  have hmn : min 1 (l.length + 1 - i) = 1 := by omega
  refine AWP.seq (AWP.seq (AWP.region ?_))
  refine seq_st rfl ?_
  (first | exact cl_by ff | refine st_by ff ?_)
  (repeat' (first | exact trivial | refine And.intro sd ?_ | fail))
  refine seq_st rfl ?_
  (first | exact cl_by ff | refine st_by ff ?_)
  (repeat' (first | exact trivial | refine And.intro sd ?_ | fail))
  refine seq_st rfl ?_
  (first | exact cl_by ff | refine st_by ff ?_)
  (repeat' (first | exact trivial | refine And.intro sd ?_ | fail))
  refine seq_st rfl ?_
  (first | exact cl_by ff | refine st_by ff ?_)
  (repeat' (first | exact trivial | refine And.intro sd ?_ | fail))
  refine seq_lj rfl (l_cap (n := l.length) (sz := 4) (c := c) (cs := esResident l) (A := A) (r := 1000) (by show 30 < 95; decide) Ty.sl44 ?_ ?_ rfl ?_)
  · (first | exact cl_by ff | refine st_by ff ?_)
  · (first | exact cl_by ff | refine st_by ff ?_)
  refine seq_st rfl ?_
  (first | exact cl_by ff | refine st_by ff ?_)
  (repeat' (first | exact trivial | refine And.intro sd ?_ | fail))
  refine Seq.nil ?_
  (first | exact cl_by ff | refine st_by ff ?_)
  refine AWP.cond (b := decide (((l.length + 1 : Nat) : Int) > (c : Int))) ?_ (fun hd => ?_) (fun hd => ?_)
  · (first | exact cl_by ff | refine st_by ff ?_)
  · have hg : c < l.length + 1 := by have := of_decide_eq_true hd; omega
    refine AWP.seq (AWP.region ?_)
    refine seq_st rfl ?_
    (first | exact cl_by ff | refine st_by ff ?_)
    (repeat' (first | exact trivial | refine And.intro sd ?_ | fail))
    refine seq_st rfl ?_
    (first | exact cl_by ff | refine st_by ff ?_)
    (repeat' (first | exact trivial | refine And.intro sd ?_ | fail))
    refine seq_st rfl ?_
    (first | exact cl_by ff | refine st_by ff ?_)
    (repeat' (first | exact trivial | refine And.intro sd ?_ | fail))
    refine seq_st rfl ?_
    (first | exact cl_by ff | refine st_by ff ?_)
    (repeat' (first | exact trivial | refine And.intro sd ?_ | fail))
    refine seq_st rfl ?_
    (first | exact cl_by ff | refine st_by ff ?_)
    (repeat' (first | exact trivial | refine And.intro sd ?_ | fail))
    refine seq_st rfl ?_
    (first | exact cl_by ff | refine st_by ff ?_)
    (repeat' (first | exact trivial | refine And.intro sd ?_ | fail))
    refine seq_st rfl ?_
    (first | exact cl_by ff | refine st_by ff ?_)
    (repeat' (first | exact trivial | refine And.intro sd ?_ | fail))
    refine seq_st rfl ?_
    (first | exact cl_by ff | refine st_by ff ?_)
    (repeat' (first | exact trivial | refine And.intro sd ?_ | fail))
    refine seq_lj rfl (l_appGrowZ (nn := l.length + 1 - i) (k := i) (n := l.length) (sz := 4) (c := c) (cs := esResident l) (A := A) (r := 1000) (by show 40 < 95; decide) z1 (z3.symm.trans sz44) Ty.int3 ?_ ?_ ?_ rfl (by omega) (by omega) (by omega) (by omega) (esResident_leaf _) (by omega) (by rw [Ty.by44]; omega) ?_)
    · (first | exact cl_by ff | refine st_by ff ?_)
    · (first | exact cl_by ff | refine st_by ff ?_)
    · (first | exact cl_by ff | refine st_by ff ?_)
    have e1 : i + (l.length + 1 - i) = l.length + 1 := by omega
    rw [e1]
    have hBt : ((esResident l).take (i * 4) ++ (zCells (zsN Try.prog 44) (l.length + 1 - i)).map AV.lit).take (i * 4) = esResident (l.take i) := by
      rw [esResident_takek, List.take_append_of_le_length (by rw [esResident_len]; simp; omega), List.take_of_length_le (by rw [esResident_len]; simp; omega)]
    have hBl : ((esResident l).take (i * 4) ++ (zCells (zsN Try.prog 44) (l.length + 1 - i)).map AV.lit).length = (l.length + 1) * 4 := by
      rw [List.length_append, List.length_take, hL, List.length_map, zCells, List.length_map, List.length_range, ← z3, sz44]; omega
    generalize ((esResident l).take (i * 4) ++ (zCells (zsN Try.prog 44) (l.length + 1 - i)).map AV.lit) = B at hBt hBl
    refine seq_st rfl ?_
    (first | exact cl_by ff | refine st_by ff ?_)
    (repeat' (first | exact trivial | refine And.intro sd ?_ | fail))
    refine Seq.nil ?_
    (first | exact cl_by ff | refine st_by ff ?_)
    refine AWP.seq (AWP.region ?_)
    refine seq_st rfl ?_
    (first | exact cl_by ff | refine st_by ff ?_)
    (repeat' (first | exact trivial | refine And.intro sd ?_ | fail))
    refine seq_st rfl ?_
    (first | exact cl_by ff | refine st_by ff ?_)
    (repeat' (first | exact trivial | refine And.intro sd ?_ | fail))
    refine seq_st rfl ?_
    (first | exact cl_by ff | refine st_by ff ?_)
    (repeat' (first | exact trivial | refine And.intro sd ?_ | fail))
    refine seq_st rfl ?_
    (first | exact cl_by ff | refine st_by ff ?_)
    (repeat' (first | exact trivial | refine And.intro sd ?_ | fail))
    refine seq_lj rfl (l_copy (dd := some 45) (r := 9) (p := []) (o := i) (l1 := l.length + 1 - i) (l2 := 1) (n := l.length + 1) (sz := 4) (cs := B) (es := eResident x) (fun d hd => by cases hd; show 45 < 95; decide) Ty.sl44 ?_ ?_ (by omega) ?_ lx (by omega) ?_)
    · (first | exact cl_by ff | refine st_by ff ?_)
    · (first | exact cl_by ff | refine st_by ff ?_)
    · rw [hmn, show (ASt.ev _ (Operand.tmp 44)) = AV.sl 1001 [] 0 1 by (first | exact cl_by ff | refine st_by ff ?_)]
      refine yk_own (off := 0) (m := 1) (k := 1) (n := 1) (cs := eResident x) (sz := 4) (r := 1001) (p := []) ?_ (by omega) (by omega) lx fx
      (first | exact cl_by ff | refine st_by ff ?_)
    intro s' hs'
    subst hs'
    generalize hC1 : setL B (i * 4) (eResident x) = C1
    refine Seq.nil ?_
    (first | exact cl_by ff | refine st_by ff ?_)
    refine AWP.seq (awp_drawn (id := 11) ?_ [[], [], [], [1, 2], [0, 1, 2, 3], [], [], [5, 6], [0, 1, 2, 3, 4, 5, 6, 7]] 8 ?_ ?_)
    · kernel_rfl
    · kernel_rfl
    (first | exact cl_by ff | refine st_by ff ?_)
    refine ⟨⟨by omega, by omega, by omega⟩, ⟨by omega, by omega, by omega⟩, ?_⟩
    have hmm : min (l.length - i) (l.length + 1 - (i + 1)) = l.length - i := by omega
    have hVe : ((esResident l).drop (i * 4)).take ((l.length - i) * 4) = esResident (l.drop i) := by
      rw [esResident_dropk, List.take_of_length_le (by rw [esResident_len]; simp)]
    refine seq_lj rfl (l_copy (dd := some 54) (r := 9) (p := []) (o := i + 1) (l1 := l.length + 1 - (i + 1)) (l2 := l.length - i) (n := l.length + 1) (sz := 4) (cs := C1) (es := esResident (l.drop i)) (fun d hd => by cases hd; show 54 < 95; decide) Ty.sl44 ?_ ?_ (by omega) ?_ (esResident_leaf _) (by omega) ?_)
    · (first | exact cl_by ff | refine st_by ff ?_)
    · (first | exact cl_by ff | refine st_by ff ?_)
    · rw [hmm, show (ASt.ev _ (Operand.tmp 53)) = AV.sl 1000 [] i (l.length - i) by (first | exact cl_by ff | refine st_by ff ?_), ← hVe]
      refine yk_own (off := i) (m := l.length - i) (k := l.length - i) (n := l.length) (cs := esResident l) (sz := 4) (r := 1000) (p := []) ?_ (by omega) (by omega) (by rw [hVe]; exact esResident_leaf _) (by rw [hVe]; exact esResident_fit _)
      (first | exact cl_by ff | refine st_by ff ?_)
    intro s' hs'
    subst hs'
    generalize hC2 : setL C1 ((i + 1) * 4) (esResident (l.drop i)) = C2
    refine Seq.nil ?_
    (first | exact cl_by ff | refine st_by ff ?_)
    refine AWP.seq (aw_sound ?_)
    (first | exact cl_by ff | refine st_by ff ?_)
    refine awp_drop (r := 1000) (A := .row true 4 l.length (esResident l)) ?_ ?_
    · (first | exact cl_by ff | refine st_by ff ?_)
    refine AWP.ret ?_
    (first | exact cl_by ff | refine st_by ff ?_)
    refine retX_p1 rfl ?_
    simp only [retXq1, retXCq, rview]
    (first | exact cl_by (And.intro @regsQ_cons (And.intro @regsQ_nil ff)) | refine st_by (And.intro @regsQ_cons (And.intro @regsQ_nil ff)) ?_)
    refine congrArg _ ?_
    have hXl : (eResident x).length = 4 := rfl
    rw [← hC2, ← hC1, ins_cellsB (n := (l.length + 1) * 4) (by rw [hXl]; omega) (by rw [esResident_len]; simp; omega) hBl, hBt]
    simp [esResident_app, esResident_cons]
  refine AWP.skip ?_
  (first | exact cl_by ff | refine st_by ff ?_)
  refine AWP.seq (AWP.region ?_)
  refine seq_st rfl ?_
  (first | exact cl_by ff | refine st_by ff ?_)
  (repeat' (first | exact trivial | refine And.intro sd ?_ | fail))
  refine seq_st rfl ?_
  (first | exact cl_by ff | refine st_by ff ?_)
  (repeat' (first | exact trivial | refine And.intro sd ?_ | fail))
  refine seq_st rfl ?_
  (first | exact cl_by ff | refine st_by ff ?_)
  (repeat' (first | exact trivial | refine And.intro sd ?_ | fail))
  refine seq_st rfl ?_
  (first | exact cl_by ff | refine st_by ff ?_)
  (repeat' (first | exact trivial | refine And.intro sd ?_ | fail))
  have hc : l.length + 1 ≤ c := by have := of_decide_eq_false hd; omega
  refine seq_lj rfl (l_slExt (n := l.length) (sz := 4) (c := c) (h := l.length + 1) (cs := esResident l) (A := A) (r := 1000) (k := .i64) (by show 60 < 95; decide) Ty.sl44 ?_ ?_ rfl ?_ (by omega) hc ?_)
  · (first | exact cl_by ff | refine st_by ff ?_)
  · (first | exact cl_by ff | refine st_by ff ?_)
  · (first | exact cl_by ff | refine st_by ff ?_)
  have hBt : (esResident l ++ List.replicate ((l.length + 1) * 4 - l.length * 4) AV.junk).take (i * 4) = esResident (l.take i) := by
    rw [List.take_append_of_le_length (by rw [hL]; omega), esResident_takek]
  have hBd : ((esResident l ++ List.replicate ((l.length + 1) * 4 - l.length * 4) AV.junk).drop (i * 4)).take ((l.length - i) * 4) = esResident (l.drop i) := by
    rw [List.drop_append_of_le_length (by rw [hL]; omega), esResident_dropk, List.take_append_of_le_length (by rw [esResident_len]; simp), List.take_of_length_le (by rw [esResident_len]; simp)]
  have hBl : (esResident l ++ List.replicate ((l.length + 1) * 4 - l.length * 4) AV.junk).length = (l.length + 1) * 4 := by
    rw [List.length_append, List.length_replicate, hL]; omega
  generalize (esResident l ++ List.replicate ((l.length + 1) * 4 - l.length * 4) AV.junk) = B at hBt hBd hBl
  refine seq_st rfl ?_
  (first | exact cl_by ff | refine st_by ff ?_)
  (repeat' (first | exact trivial | refine And.intro sd ?_ | fail))
  refine Seq.nil ?_
  (first | exact cl_by ff | refine st_by ff ?_)
  refine AWP.seq (AWP.seq (AWP.region ?_))
  refine seq_st rfl ?_
  (first | exact cl_by ff | refine st_by ff ?_)
  (repeat' (first | exact trivial | refine And.intro sd ?_ | fail))
  refine seq_st rfl ?_
  (first | exact cl_by ff | refine st_by ff ?_)
  (repeat' (first | exact trivial | refine And.intro sd ?_ | fail))
  refine seq_st rfl ?_
  (first | exact cl_by ff | refine st_by ff ?_)
  (repeat' (first | exact trivial | refine And.intro sd ?_ | fail))
  refine seq_st rfl ?_
  (first | exact cl_by ff | refine st_by ff ?_)
  (repeat' (first | exact trivial | refine And.intro sd ?_ | fail))
  refine seq_st rfl ?_
  (first | exact cl_by ff | refine st_by ff ?_)
  (repeat' (first | exact trivial | refine And.intro sd ?_ | fail))
  refine seq_st rfl ?_
  (first | exact cl_by ff | refine st_by ff ?_)
  (repeat' (first | exact trivial | refine And.intro sd ?_ | fail))
  refine seq_lj rfl (l_overlaps (f := 91) (fn := Try.f91) (fo := .func 91) (rt := 4) (r1 := 1001) (r2 := 0) (o1 := 0) (o2 := i + 1) (l1 := 1) (l2 := l.length + 1 - (i + 1)) (n1 := 1) (n2 := l.length + 1) (sz := 4) (cs1 := eResident x) (cs2 := B) (by show 67 < 95; decide) Ty.sl44 ?_ Try.func91 (by kernel_rfl) (by kernel_rfl) (by kernel_rfl) (by kernel_rfl) ?_ ?_ ?_ ?_ (by decide) (by omega) (by omega) (by omega) (by omega) ?_)
  · (first | exact cl_by ff | refine st_by ff ?_)
  · (first | exact cl_by ff | refine st_by ff ?_)
  · (first | exact cl_by ff | refine st_by ff ?_)
  · (first | exact cl_by ff | refine st_by ff ?_)
  · (first | exact cl_by ff | refine st_by ff ?_)
  refine seq_st rfl ?_
  (first | exact cl_by ff | refine st_by ff ?_)
  (repeat' (first | exact trivial | refine And.intro sd ?_ | fail))
  refine Seq.nil ?_
  (first | exact cl_by ff | refine st_by ff ?_)
  refine AWP.cond (b := true) ?_ (fun hd => ?_) (fun hd => by cases hd)
  · (first | exact cl_by ff | refine st_by ff ?_)
  refine AWP.seq (awp_drawn (id := 15) ?_ [[], [], [], [1, 2], [0, 1, 2, 3], [], [], [5, 6], [0, 1, 2, 3, 4, 5, 6, 7]] 8 ?_ ?_)
  · kernel_rfl
  · kernel_rfl
  (first | exact cl_by ff | refine st_by ff ?_)
  refine ⟨⟨by omega, by omega, by omega⟩, ⟨by omega, by omega, by omega⟩, ?_⟩
  have hmm : min (l.length + 1 - i) (l.length + 1 - (i + 1)) = l.length - i := by omega
  refine seq_lj rfl (l_copy (dd := some 77) (r := 0) (p := []) (o := i + 1) (l1 := l.length + 1 - (i + 1)) (l2 := l.length + 1 - i) (n := l.length + 1) (sz := 4) (cs := B) (es := esResident (l.drop i)) (fun d hd => by cases hd; show 77 < 95; decide) Ty.sl44 ?_ ?_ (by omega) ?_ (esResident_leaf _) (by omega) ?_)
  · (first | exact cl_by ff | refine st_by ff ?_)
  · (first | exact cl_by ff | refine st_by ff ?_)
  · rw [hmm, show (ASt.ev _ (Operand.tmp 76)) = AV.sl 0 [] i (l.length + 1 - i) by (first | exact cl_by ff | refine st_by ff ?_), ← hBd]
    refine yk_own (off := i) (m := l.length + 1 - i) (k := l.length - i) (n := l.length + 1) (cs := B) (sz := 4) (r := 0) (p := []) ?_ (by omega) (by omega) (by rw [hBd]; exact esResident_leaf _) (by rw [hBd]; exact esResident_fit _)
    (first | exact cl_by ff | refine st_by ff ?_)
  intro s' hs'
  subst hs'
  generalize hC1 : setL B ((i + 1) * 4) (esResident (l.drop i)) = C1
  refine Seq.nil ?_
  (first | exact cl_by ff | refine st_by ff ?_)
  refine AWP.seq (AWP.region ?_)
  refine seq_st rfl ?_
  (first | exact cl_by ff | refine st_by ff ?_)
  (repeat' (first | exact trivial | refine And.intro sd ?_ | fail))
  refine seq_st rfl ?_
  (first | exact cl_by ff | refine st_by ff ?_)
  (repeat' (first | exact trivial | refine And.intro sd ?_ | fail))
  refine seq_st rfl ?_
  (first | exact cl_by ff | refine st_by ff ?_)
  (repeat' (first | exact trivial | refine And.intro sd ?_ | fail))
  refine seq_st rfl ?_
  (first | exact cl_by ff | refine st_by ff ?_)
  (repeat' (first | exact trivial | refine And.intro sd ?_ | fail))
  refine seq_lj rfl (l_copy (dd := some 82) (r := 0) (p := []) (o := i) (l1 := l.length + 1 - i) (l2 := 1) (n := l.length + 1) (sz := 4) (cs := C1) (es := eResident x) (fun d hd => by cases hd; show 82 < 95; decide) Ty.sl44 ?_ ?_ (by omega) ?_ lx (by omega) ?_)
  · (first | exact cl_by ff | refine st_by ff ?_)
  · (first | exact cl_by ff | refine st_by ff ?_)
  · rw [hmn, show (ASt.ev _ (Operand.tmp 81)) = AV.sl 1001 [] 0 1 by (first | exact cl_by ff | refine st_by ff ?_)]
    refine yk_own (off := 0) (m := 1) (k := 1) (n := 1) (cs := eResident x) (sz := 4) (r := 1001) (p := []) ?_ (by omega) (by omega) lx fx
    (first | exact cl_by ff | refine st_by ff ?_)
  intro s' hs'
  subst hs'
  generalize hC2 : setL C1 (i * 4) (eResident x) = C2
  refine Seq.nil ?_
  (first | exact cl_by ff | refine st_by ff ?_)
  refine AWP.seq (aw_sound ?_)
  (first | exact cl_by ff | refine st_by ff ?_)
  refine AWP.ret ?_
  (first | exact cl_by ff | refine st_by ff ?_)
  refine retX_p1 rfl ?_
  simp only [retXq1, retXCq, rview]
  (first | exact cl_by (And.intro @regsQ_cons (And.intro @regsQ_nil ff)) | refine st_by (And.intro @regsQ_cons (And.intro @regsQ_nil ff)) ?_)
  refine congrArg _ ?_
  have hXl : (eResident x).length = 4 := rfl
  rw [← hC2, ← hC1, ins_cellsA (n := (l.length + 1) * 4) (by rw [hXl]; omega) (by rw [esResident_len]; simp; omega) hBl, hBt]
  simp [esResident_app, esResident_cons]
theorem insResident_does (l : List GResident) (i : Int) (v x : List GResident) (h : insL l i v = some x) : DoesX Try.prog 65 [.sl 1000 [] 0 l.length, I i, .sl 1001 [] 0 v.length] [.row true 4 l.length (esResident l), .row true 4 v.length (esResident v)] (.row true 4 x.length (esResident x)) [.junk, .row true 4 v.length (esResident v)] := by
  unfold insL at h
  split at h
  · rename_i hc
    cases h
    obtain ⟨i, rfl⟩ := Int.eq_ofNat_of_zero_le hc.1.1
    obtain ⟨a, rfl⟩ := List.length_eq_one_iff.1 hc.2.2
    have := insResident_walk l a i (by omega) hc.2.1
    have e1 : esResident [a] = eResident a := by rw [esResident_cons, esResident_nil, List.append_nil]
    have e2 : (l.take i ++ ([a] ++ l.drop i)).length = l.length + 1 := by simp; omega
    rw [e1, Int.toNat_natCast, e2]
    exact this
  · cases h
end Go.Av
