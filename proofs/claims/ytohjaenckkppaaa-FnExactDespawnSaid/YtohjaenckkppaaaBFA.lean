/- Contracts of functions of this seat, each for every argument within its bounds. -/
import Derived.Test.YtohjaenckkppaaaBYh
import Derived.Test.YtohjaenckkppaaaBG3
set_option linter.unusedSimpArgs false
set_option linter.unusedVariables false
set_option maxRecDepth 100000
set_option maxHeartbeats 1000000
namespace Go.Av
open Go.Proofs
theorem dt_by {F A B : Prop} (hF : F) (hb : B) (h : F → A = B := by intro hF; simp only [hF, aw_skip, aw_ret, aw_exit, aw_seq, aw_block, aw_cond, aw_region, thenK_nm, thenK_rt, thenK_ex, blockK_nm, blockK_rt, blockK_ex, cutK_nm, cutK_rt, cutK_ex, sq_nil, sq_none, sq_some, GQ_same, GQ_tf, GQ_ft, GQ_undef, CBC_true, CBC_false, CBC_not, set_t, set_m, ev_tmp, ev_const, ev_func, skip1_some, skip1_none, startT_t, st_move, st_pick, st_bin, binS_lit, binS_row, st_un, st_conv, st_len, st_max, st_min, st_indexAddr, idxS_row, idxS_sl, idxS_lit, st_index, st_fieldAddr, st_load, st_nck, nilQ, st_field, st_extract, st_makeFunc, st_build, st_make, st_box, st_alloc, st_buildSlice, st_assign, st_call, st_store, pickQ, binQ, unQ, convQ, lenQ, maxQ, minQ, indexAddrQ, indexQ, fieldAddrQ, loadQ, storeQ, makeQ, fieldQ, extractQ, assignQ, appQ, appA, appB, appRow, appMv, appOk, buildQ, buildR, cellsOk, cellOk, partsA, buildSliceQ, rowQ, bsOk, bsA, sliceQ, sliceSl, sliceSh, sliceSt, bndQ, fillA, convSl, rowB, bytesA, fltV, ren_t, ren_m, renF, swap_t, swap_m, swapF, repP, newA, intOk, intV, strOk, strV, new_t, new_m, updM_t, updM_m, nodeOf_nil, upd_nil, AV.mapRef, AV.mapRefs, AV.share, AV.shares, retK_rt, retK_nm, List.map_cons, List.map_nil, List.nil_append, List.cons_append, List.append_nil, Nat.reduceEqDiff, Nat.reduceLT, Nat.reduceAdd, Nat.reduceMul, ↓reduceIte, true_and, and_true, List.getElem?_cons_succ, List.getElem?_cons_zero, List.getD_cons_succ, List.getD_cons_zero, cond_true, cond_false, Bool.not_true, Bool.not_false, Option.isSome_some, memN, cellsOf, setN, openC, stOk, Value.oneCell', Option.map_some, List.length_cons, List.length_nil, reduceCtorEq, or_true, true_or, treeQ, treeR, nilTs_cons, nilTs_nil, nilTs_end, nilRq, nilB_nil, nilB_none, nilB_some, nilA_none, nilA_nil, nilA_row, nilRs, boxQ, allocQ, closeV, closeVs, fitC, fitCs, leafCs, AV.leafOk, AV.parts, setNs, setL, mapT_t, mapT_m, killR, under, openCs, List.set_cons_zero, List.set_cons_succ, Nat.reduceLeDiff, Nat.reduceSub, AV.noRefs, AV.noRef, Bool.and_true, Bool.true_and, Bool.and_false, Bool.false_and, List.drop_succ_cons, List.drop_zero, List.take_succ_cons, List.take_zero, List.take_nil, List.drop_nil, Bool.false_eq_true, nodeOf_cons, AV.at_, AV.kids, AV.upd, AV.withKids, ↓reduceDIte, Nat.zero_add, Int.toNat_natCast, Nat.mul_one, Nat.one_mul, Nat.add_zero, Nat.zero_mul, Nat.sub_zero, Int.toNat_zero, List.length_map, Bool.or_false, Bool.or_true, Bool.true_or, Bool.false_or, rowIn_eq, rowAny_eq, rowInM, rowAnyM, killF, List.isPrefixOf_nil_left, List.isPrefixOf_cons_nil, and_false, false_and, ne_eq, not_false_eq_true, Nat.le_refl, Nat.lt_add_one, Nat.zero_le, and_self, retXK_rt, retXK_nm, startX_t, startX_m, openV, openVs, regs, Option.getD_some, Int.sub_zero, Int.zero_add, Int.add_zero, decide_true, decide_false, not_true_eq_false, Option.bind_some, bne_self_eq_false, beq_self_eq_true, updOne_tu, upL_nil, upL_cons, allUp_nil, allUp_cons, ptrsC_nil, ptrsC_cons, getMs_nil, getMs_cons, dxL_some, dqX_def, dqA_nil, dqA_cons, dqx2_cons, dqx3_def, dqC_nil, dqC_cons, dqB_nil, dqB_cons, fixP_nil, fixP_cons, sameP_nil, sameP_none, sameP_some, dxS_none, dxS_some, dxA_none, dxA_some, dx_store, dx_app, base1_t, base1_m, fOf_ptr, mapRef_idF, dst_none, dst_some, dst_store, dq_nil, dq_none, dq_some, dq_store, dstoreQ, pickU, upd, updOne_st, updOne_sm, updOne_sn, dq_bs, dbs, dbs1_s, dbs1_n, dbs2_s, splitS_nil, splitS_sl, splitS_lit, splitS_row, splitS_box, dnx1_n, dnx1_s, tkC_n, tkC_s, tkV_mark, outV_mark, unO_mark, unO_none, unO_some, allRef_mark, tkV_fn, outV_fn, moV_fn, tkV_lit, outV_lit, moV_lit, tkV_junk, outV_junk, moV_junk, tkV_row, outV_row, moV_row, tkV_box, outV_box, moV_box, tkV_sl, outV_sl, moV_sl, tkV_ptr, outV_ptr, moV_ptr, tkV_agg, outV_agg, moV_agg, tkV_tup, outV_tup, moV_tup, noUp, upOk, Option.isNone_none, List.range_succ, dq_move, dq_pick, dq_bin, dq_un, dq_conv, dq_len, dq_max, dq_min, dq_indexAddr, dq_index, dq_fieldAddr, dq_load, dq_nck, dq_field, dq_extract, dq_makeFunc, dq_build, dq_slice, dq_assign, dq_call, dq_alloc, dq_make, dalloc, dmk, dnx, dOf, SV_t, SV_m, GD_same, GD_tf, GD_ft, GD_undef, wh, memB, okV, AV.allRef, AV.allRefs, killL, Option.some.injEq, Nat.reduceBEq]; exact rfl) : A := (h hF) ▸ hb
theorem dc_by {F A : Prop} (hF : F) (h : F → A := by intro hF; first | (simp only [hF, aw_skip, aw_ret, aw_exit, aw_seq, aw_block, aw_cond, aw_region, thenK_nm, thenK_rt, thenK_ex, blockK_nm, blockK_rt, blockK_ex, cutK_nm, cutK_rt, cutK_ex, sq_nil, sq_none, sq_some, GQ_same, GQ_tf, GQ_ft, GQ_undef, CBC_true, CBC_false, CBC_not, set_t, set_m, ev_tmp, ev_const, ev_func, skip1_some, skip1_none, startT_t, st_move, st_pick, st_bin, binS_lit, binS_row, st_un, st_conv, st_len, st_max, st_min, st_indexAddr, idxS_row, idxS_sl, idxS_lit, st_index, st_fieldAddr, st_load, st_nck, nilQ, st_field, st_extract, st_makeFunc, st_build, st_make, st_box, st_alloc, st_buildSlice, st_assign, st_call, st_store, pickQ, binQ, unQ, convQ, lenQ, maxQ, minQ, indexAddrQ, indexQ, fieldAddrQ, loadQ, storeQ, makeQ, fieldQ, extractQ, assignQ, appQ, appA, appB, appRow, appMv, appOk, buildQ, buildR, cellsOk, cellOk, partsA, buildSliceQ, rowQ, bsOk, bsA, sliceQ, sliceSl, sliceSh, sliceSt, bndQ, fillA, convSl, rowB, bytesA, fltV, ren_t, ren_m, renF, swap_t, swap_m, swapF, repP, newA, intOk, intV, strOk, strV, new_t, new_m, updM_t, updM_m, nodeOf_nil, upd_nil, AV.mapRef, AV.mapRefs, AV.share, AV.shares, retK_rt, retK_nm, List.map_cons, List.map_nil, List.nil_append, List.cons_append, List.append_nil, Nat.reduceEqDiff, Nat.reduceLT, Nat.reduceAdd, Nat.reduceMul, ↓reduceIte, true_and, and_true, List.getElem?_cons_succ, List.getElem?_cons_zero, List.getD_cons_succ, List.getD_cons_zero, cond_true, cond_false, Bool.not_true, Bool.not_false, Option.isSome_some, memN, cellsOf, setN, openC, stOk, Value.oneCell', Option.map_some, List.length_cons, List.length_nil, reduceCtorEq, or_true, true_or, treeQ, treeR, nilTs_cons, nilTs_nil, nilTs_end, nilRq, nilB_nil, nilB_none, nilB_some, nilA_none, nilA_nil, nilA_row, nilRs, boxQ, allocQ, closeV, closeVs, fitC, fitCs, leafCs, AV.leafOk, AV.parts, setNs, setL, mapT_t, mapT_m, killR, under, openCs, List.set_cons_zero, List.set_cons_succ, Nat.reduceLeDiff, Nat.reduceSub, AV.noRefs, AV.noRef, Bool.and_true, Bool.true_and, Bool.and_false, Bool.false_and, List.drop_succ_cons, List.drop_zero, List.take_succ_cons, List.take_zero, List.take_nil, List.drop_nil, Bool.false_eq_true, nodeOf_cons, AV.at_, AV.kids, AV.upd, AV.withKids, ↓reduceDIte, Nat.zero_add, Int.toNat_natCast, Nat.mul_one, Nat.one_mul, Nat.add_zero, Nat.zero_mul, Nat.sub_zero, Int.toNat_zero, List.length_map, Bool.or_false, Bool.or_true, Bool.true_or, Bool.false_or, rowIn_eq, rowAny_eq, rowInM, rowAnyM, killF, List.isPrefixOf_nil_left, List.isPrefixOf_cons_nil, and_false, false_and, ne_eq, not_false_eq_true, Nat.le_refl, Nat.lt_add_one, Nat.zero_le, and_self, retXK_rt, retXK_nm, startX_t, startX_m, openV, openVs, regs, Option.getD_some, Int.sub_zero, Int.zero_add, Int.add_zero, decide_true, decide_false, not_true_eq_false, Option.bind_some, bne_self_eq_false, beq_self_eq_true, fnId, capsOf]; done) | (simp only [hF, aw_skip, aw_ret, aw_exit, aw_seq, aw_block, aw_cond, aw_region, thenK_nm, thenK_rt, thenK_ex, blockK_nm, blockK_rt, blockK_ex, cutK_nm, cutK_rt, cutK_ex, sq_nil, sq_none, sq_some, GQ_same, GQ_tf, GQ_ft, GQ_undef, CBC_true, CBC_false, CBC_not, set_t, set_m, ev_tmp, ev_const, ev_func, skip1_some, skip1_none, startT_t, st_move, st_pick, st_bin, binS_lit, binS_row, st_un, st_conv, st_len, st_max, st_min, st_indexAddr, idxS_row, idxS_sl, idxS_lit, st_index, st_fieldAddr, st_load, st_nck, nilQ, st_field, st_extract, st_makeFunc, st_build, st_make, st_box, st_alloc, st_buildSlice, st_assign, st_call, st_store, pickQ, binQ, unQ, convQ, lenQ, maxQ, minQ, indexAddrQ, indexQ, fieldAddrQ, loadQ, storeQ, makeQ, fieldQ, extractQ, assignQ, appQ, appA, appB, appRow, appMv, appOk, buildQ, buildR, cellsOk, cellOk, partsA, buildSliceQ, rowQ, bsOk, bsA, sliceQ, sliceSl, sliceSh, sliceSt, bndQ, fillA, convSl, rowB, bytesA, fltV, ren_t, ren_m, renF, swap_t, swap_m, swapF, repP, newA, intOk, intV, strOk, strV, new_t, new_m, updM_t, updM_m, nodeOf_nil, upd_nil, AV.mapRef, AV.mapRefs, AV.share, AV.shares, retK_rt, retK_nm, List.map_cons, List.map_nil, List.nil_append, List.cons_append, List.append_nil, Nat.reduceEqDiff, Nat.reduceLT, Nat.reduceAdd, Nat.reduceMul, ↓reduceIte, true_and, and_true, List.getElem?_cons_succ, List.getElem?_cons_zero, List.getD_cons_succ, List.getD_cons_zero, cond_true, cond_false, Bool.not_true, Bool.not_false, Option.isSome_some, memN, cellsOf, setN, openC, stOk, Value.oneCell', Option.map_some, List.length_cons, List.length_nil, reduceCtorEq, or_true, true_or, treeQ, treeR, nilTs_cons, nilTs_nil, nilTs_end, nilRq, nilB_nil, nilB_none, nilB_some, nilA_none, nilA_nil, nilA_row, nilRs, boxQ, allocQ, closeV, closeVs, fitC, fitCs, leafCs, AV.leafOk, AV.parts, setNs, setL, mapT_t, mapT_m, killR, under, openCs, List.set_cons_zero, List.set_cons_succ, Nat.reduceLeDiff, Nat.reduceSub, AV.noRefs, AV.noRef, Bool.and_true, Bool.true_and, Bool.and_false, Bool.false_and, List.drop_succ_cons, List.drop_zero, List.take_succ_cons, List.take_zero, List.take_nil, List.drop_nil, Bool.false_eq_true, nodeOf_cons, AV.at_, AV.kids, AV.upd, AV.withKids, ↓reduceDIte, Nat.zero_add, Int.toNat_natCast, Nat.mul_one, Nat.one_mul, Nat.add_zero, Nat.zero_mul, Nat.sub_zero, Int.toNat_zero, List.length_map, Bool.or_false, Bool.or_true, Bool.true_or, Bool.false_or, rowIn_eq, rowAny_eq, rowInM, rowAnyM, killF, List.isPrefixOf_nil_left, List.isPrefixOf_cons_nil, and_false, false_and, ne_eq, not_false_eq_true, Nat.le_refl, Nat.lt_add_one, Nat.zero_le, and_self, retXK_rt, retXK_nm, startX_t, startX_m, openV, openVs, regs, Option.getD_some, Int.sub_zero, Int.zero_add, Int.add_zero, decide_true, decide_false, not_true_eq_false, Option.bind_some, bne_self_eq_false, beq_self_eq_true, fnId, capsOf]; exact rfl)) : A := h hF
theorem delPart_walk (l : List GPart) (i j : Nat) (hij : i ≤ j) (hj : j ≤ l.length) : DoesX Try.prog 30 [.sl 1000 [] 0 l.length, I i, I j] [.row true 3 l.length (esPart l)] (.row true 3 (l.length - (j - i)) (esPart (l.take i ++ l.drop j))) [.junk] := by
  have z44 : zOk Try.prog 44 = true := by kernel_rfl
  have sz44 : slSz Try.prog 44 = 3 := by kernel_rfl
  have hL : (esPart l).length = l.length * 3 := esPart_len l
  refine DoesX.walkA (nt := 33) Try.func30 rfl rfl (by simp) (by decide) rfl (fun G0 X w0 pv => ?_)
  refine AWP.seq (aw_sound ?_)
  (first | exact dc_by (And.intro @Ty.sl44 (And.intro @Ty.nze44 (And.intro @Ty.slz44 (And.intro @Ty.zok44 (And.intro @Ty.by44 @Ty.zs44))))) | refine dt_by (And.intro @Ty.sl44 (And.intro @Ty.nze44 (And.intro @Ty.slz44 (And.intro @Ty.zok44 (And.intro @Ty.by44 @Ty.zs44))))) ?_)
  refine AWP.seq (aw_sound ?_)
  (first | exact dc_by (And.intro @Ty.sl44 (And.intro @Ty.nze44 (And.intro @Ty.slz44 (And.intro @Ty.zok44 (And.intro @Ty.by44 @Ty.zs44))))) | refine dt_by (And.intro @Ty.sl44 (And.intro @Ty.nze44 (And.intro @Ty.slz44 (And.intro @Ty.zok44 (And.intro @Ty.by44 @Ty.zs44))))) ?_)
  refine l_sl3 (n := l.length) (cs := esPart l) (l := i) (h := j) (m := l.length) (kh := .i64) (km := .i64) (by show 13 < 33; decide) Ty.sl44 (len := l.length) (r := 1000) (p := []) ?_ ?_ (Nat.le_refl _) ?_ ?_ ?_ (by omega) (by omega) (by omega) (by omega) ?_
  · (first | exact dc_by (And.intro @Ty.sl44 (And.intro @Ty.nze44 (And.intro @Ty.slz44 (And.intro @Ty.zok44 (And.intro @Ty.by44 @Ty.zs44))))) | refine dt_by (And.intro @Ty.sl44 (And.intro @Ty.nze44 (And.intro @Ty.slz44 (And.intro @Ty.zok44 (And.intro @Ty.by44 @Ty.zs44))))) ?_)
  · (first | exact dc_by (And.intro @Ty.sl44 (And.intro @Ty.nze44 (And.intro @Ty.slz44 (And.intro @Ty.zok44 (And.intro @Ty.by44 @Ty.zs44))))) | refine dt_by (And.intro @Ty.sl44 (And.intro @Ty.nze44 (And.intro @Ty.slz44 (And.intro @Ty.zok44 (And.intro @Ty.by44 @Ty.zs44))))) ?_)
  · simp only [bndQ]; (first | exact dc_by (And.intro @Ty.sl44 (And.intro @Ty.nze44 (And.intro @Ty.slz44 (And.intro @Ty.zok44 (And.intro @Ty.by44 @Ty.zs44))))) | refine dt_by (And.intro @Ty.sl44 (And.intro @Ty.nze44 (And.intro @Ty.slz44 (And.intro @Ty.zok44 (And.intro @Ty.by44 @Ty.zs44))))) ?_)
  · (first | exact dc_by (And.intro @Ty.sl44 (And.intro @Ty.nze44 (And.intro @Ty.slz44 (And.intro @Ty.zok44 (And.intro @Ty.by44 @Ty.zs44))))) | refine dt_by (And.intro @Ty.sl44 (And.intro @Ty.nze44 (And.intro @Ty.slz44 (And.intro @Ty.zok44 (And.intro @Ty.by44 @Ty.zs44))))) ?_)
  · (first | exact dc_by (And.intro @Ty.sl44 (And.intro @Ty.nze44 (And.intro @Ty.slz44 (And.intro @Ty.zok44 (And.intro @Ty.by44 @Ty.zs44))))) | refine dt_by (And.intro @Ty.sl44 (And.intro @Ty.nze44 (And.intro @Ty.slz44 (And.intro @Ty.zok44 (And.intro @Ty.by44 @Ty.zs44))))) ?_)
  (first | exact dc_by (And.intro @Ty.sl44 (And.intro @Ty.nze44 (And.intro @Ty.slz44 (And.intro @Ty.zok44 (And.intro @Ty.by44 @Ty.zs44))))) | refine dt_by (And.intro @Ty.sl44 (And.intro @Ty.nze44 (And.intro @Ty.slz44 (And.intro @Ty.zok44 (And.intro @Ty.by44 @Ty.zs44))))) ?_)
  refine AWP.seq (aw_sound ?_)
  (first | exact dc_by (And.intro @Ty.sl44 (And.intro @Ty.nze44 (And.intro @Ty.slz44 (And.intro @Ty.zok44 (And.intro @Ty.by44 @Ty.zs44))))) | refine dt_by (And.intro @Ty.sl44 (And.intro @Ty.nze44 (And.intro @Ty.slz44 (And.intro @Ty.zok44 (And.intro @Ty.by44 @Ty.zs44))))) ?_)
  refine CBC_bool (fun hd => ?_) (fun hd => ?_)
  · have hd' : i = j := by simp at hd; omega
    subst hd'
    (first | exact dc_by (And.intro @Ty.sl44 (And.intro @Ty.nze44 (And.intro @Ty.slz44 (And.intro @Ty.zok44 (And.intro @Ty.by44 @Ty.zs44))))) | refine dt_by (And.intro @Ty.sl44 (And.intro @Ty.nze44 (And.intro @Ty.slz44 (And.intro @Ty.zok44 (And.intro @Ty.by44 @Ty.zs44))))) ?_)
    refine retX_p1 rfl ?_
    simp only [retXq1, retXCq, rview]; (first | exact dc_by (And.intro @Ty.sl44 (And.intro @Ty.nze44 (And.intro @Ty.slz44 (And.intro @Ty.zok44 (And.intro @Ty.by44 (And.intro @Ty.zs44 (And.intro @regsQ_cons @regsQ_nil))))))) | refine dt_by (And.intro @Ty.sl44 (And.intro @Ty.nze44 (And.intro @Ty.slz44 (And.intro @Ty.zok44 (And.intro @Ty.by44 (And.intro @Ty.zs44 (And.intro @regsQ_cons @regsQ_nil))))))) ?_)
    simp
  have hd' : i ≠ j := by simp at hd; omega
  (first | exact dc_by (And.intro @Ty.sl44 (And.intro @Ty.nze44 (And.intro @Ty.slz44 (And.intro @Ty.zok44 (And.intro @Ty.by44 (And.intro @Ty.zs44 @hd)))))) | refine dt_by (And.intro @Ty.sl44 (And.intro @Ty.nze44 (And.intro @Ty.slz44 (And.intro @Ty.zok44 (And.intro @Ty.by44 (And.intro @Ty.zs44 @hd)))))) ?_)
  refine AWP.seq (aw_sound ?_)
  (first | exact dc_by (And.intro @Ty.sl44 (And.intro @Ty.nze44 (And.intro @Ty.slz44 (And.intro @Ty.zok44 (And.intro @Ty.by44 @Ty.zs44))))) | refine dt_by (And.intro @Ty.sl44 (And.intro @Ty.nze44 (And.intro @Ty.slz44 (And.intro @Ty.zok44 (And.intro @Ty.by44 @Ty.zs44))))) ?_)
  refine AWP.seq (awp_drawn (id := 5) ?_ [[], [], [0, 1], [], [], [3, 4], [0, 1, 2, 3, 4, 5], [0, 1, 2, 3, 4, 5, 6]] 6 ?_ ?_)
  · kernel_rfl
  · kernel_rfl
  (first | exact dc_by (And.intro @Ty.sl44 (And.intro @Ty.nze44 (And.intro @Ty.slz44 (And.intro @Ty.zok44 (And.intro @Ty.by44 @Ty.zs44))))) | refine dt_by (And.intro @Ty.sl44 (And.intro @Ty.nze44 (And.intro @Ty.slz44 (And.intro @Ty.zok44 (And.intro @Ty.by44 @Ty.zs44))))) ?_)
  refine ⟨⟨by omega, by omega, by omega⟩, ⟨by omega, by omega, by omega⟩, ?_⟩
  by_cases hjl : j < l.length
  · refine seq_lj rfl (l_appIn (n := l.length) (cs := esPart l) (k := i) (off := j) (m := l.length - j) (r := 1000) (p := []) (by show 26 < 33; decide) z44 ?_ ?_ ?_ (by omega) (by omega) (by omega) ?_ ?_ ?_)
    · (first | exact dc_by (And.intro @Ty.sl44 (And.intro @Ty.nze44 (And.intro @Ty.slz44 (And.intro @Ty.zok44 (And.intro @Ty.by44 @Ty.zs44))))) | refine dt_by (And.intro @Ty.sl44 (And.intro @Ty.nze44 (And.intro @Ty.slz44 (And.intro @Ty.zok44 (And.intro @Ty.by44 @Ty.zs44))))) ?_)
    · (first | exact dc_by (And.intro @Ty.sl44 (And.intro @Ty.nze44 (And.intro @Ty.slz44 (And.intro @Ty.zok44 (And.intro @Ty.by44 @Ty.zs44))))) | refine dt_by (And.intro @Ty.sl44 (And.intro @Ty.nze44 (And.intro @Ty.slz44 (And.intro @Ty.zok44 (And.intro @Ty.by44 @Ty.zs44))))) ?_)
    · (first | exact dc_by (And.intro @Ty.sl44 (And.intro @Ty.nze44 (And.intro @Ty.slz44 (And.intro @Ty.zok44 (And.intro @Ty.by44 (And.intro @Ty.zs44 @sz44)))))) | refine dt_by (And.intro @Ty.sl44 (And.intro @Ty.nze44 (And.intro @Ty.slz44 (And.intro @Ty.zok44 (And.intro @Ty.by44 (And.intro @Ty.zs44 @sz44)))))) ?_)
    · rw [sz44, esPart_dropk, esPart_takek]; exact esPart_leaf _
    · rw [sz44, esPart_dropk, esPart_takek]; exact esPart_fit _
    rw [sz44]
    generalize hcs2 : setL (esPart l) _ _ = cs2
    refine seq_st rfl ?_
    (first | exact dc_by (And.intro @Ty.sl44 (And.intro @Ty.nze44 (And.intro @Ty.slz44 (And.intro @Ty.zok44 (And.intro @Ty.by44 @Ty.zs44))))) | refine dt_by (And.intro @Ty.sl44 (And.intro @Ty.nze44 (And.intro @Ty.slz44 (And.intro @Ty.zok44 (And.intro @Ty.by44 @Ty.zs44))))) ?_)
    refine Seq.nil ?_
    (first | exact dc_by (And.intro @Ty.sl44 (And.intro @Ty.nze44 (And.intro @Ty.slz44 (And.intro @Ty.zok44 (And.intro @Ty.by44 @Ty.zs44))))) | refine dt_by (And.intro @Ty.sl44 (And.intro @Ty.nze44 (And.intro @Ty.slz44 (And.intro @Ty.zok44 (And.intro @Ty.by44 @Ty.zs44))))) ?_)
    refine AWP.seq (AWP.region ?_)
    refine seq_st rfl ?_
    (first | exact dc_by (And.intro @Ty.sl44 (And.intro @Ty.nze44 (And.intro @Ty.slz44 (And.intro @Ty.zok44 (And.intro @Ty.by44 @Ty.zs44))))) | refine dt_by (And.intro @Ty.sl44 (And.intro @Ty.nze44 (And.intro @Ty.slz44 (And.intro @Ty.zok44 (And.intro @Ty.by44 @Ty.zs44))))) ?_)
    refine seq_st rfl ?_
    (first | exact dc_by (And.intro @Ty.sl44 (And.intro @Ty.nze44 (And.intro @Ty.slz44 (And.intro @Ty.zok44 (And.intro @Ty.by44 @Ty.zs44))))) | refine dt_by (And.intro @Ty.sl44 (And.intro @Ty.nze44 (And.intro @Ty.slz44 (And.intro @Ty.zok44 (And.intro @Ty.by44 @Ty.zs44))))) ?_)
    refine seq_st rfl ?_
    (first | exact dc_by (And.intro @Ty.sl44 (And.intro @Ty.nze44 (And.intro @Ty.slz44 (And.intro @Ty.zok44 (And.intro @Ty.by44 @Ty.zs44))))) | refine dt_by (And.intro @Ty.sl44 (And.intro @Ty.nze44 (And.intro @Ty.slz44 (And.intro @Ty.zok44 (And.intro @Ty.by44 @Ty.zs44))))) ?_)
    refine ⟨by omega, ?_⟩
    refine seq_st rfl ?_
    (first | exact dc_by (And.intro @Ty.sl44 (And.intro @Ty.nze44 (And.intro @Ty.slz44 (And.intro @Ty.zok44 (And.intro @Ty.by44 @Ty.zs44))))) | refine dt_by (And.intro @Ty.sl44 (And.intro @Ty.nze44 (And.intro @Ty.slz44 (And.intro @Ty.zok44 (And.intro @Ty.by44 @Ty.zs44))))) ?_)
    refine seq_lj rfl (l_slCap (n := l.length) (cs := cs2) (l := ((i + (l.length - j) : Nat) : Int)) (h := l.length) (len := i + (l.length - j)) (r := 1000) (p := []) (by show 31 < 33; decide) Ty.sl44 ?_ ?_ (by omega) ?_ ?_ (by omega) (by omega) (by omega) ?_)
    · (first | exact dc_by (And.intro @Ty.sl44 (And.intro @Ty.nze44 (And.intro @Ty.slz44 (And.intro @Ty.zok44 (And.intro @Ty.by44 @Ty.zs44))))) | refine dt_by (And.intro @Ty.sl44 (And.intro @Ty.nze44 (And.intro @Ty.slz44 (And.intro @Ty.zok44 (And.intro @Ty.by44 @Ty.zs44))))) ?_)
    · (first | exact dc_by (And.intro @Ty.sl44 (And.intro @Ty.nze44 (And.intro @Ty.slz44 (And.intro @Ty.zok44 (And.intro @Ty.by44 @Ty.zs44))))) | refine dt_by (And.intro @Ty.sl44 (And.intro @Ty.nze44 (And.intro @Ty.slz44 (And.intro @Ty.zok44 (And.intro @Ty.by44 @Ty.zs44))))) ?_)
    · simp only [bndQ]; (first | exact dc_by (And.intro @Ty.sl44 (And.intro @Ty.nze44 (And.intro @Ty.slz44 (And.intro @Ty.zok44 (And.intro @Ty.by44 @Ty.zs44))))) | refine dt_by (And.intro @Ty.sl44 (And.intro @Ty.nze44 (And.intro @Ty.slz44 (And.intro @Ty.zok44 (And.intro @Ty.by44 @Ty.zs44))))) ?_)
    · refine ⟨_, rfl, ?_⟩; simp only [bndQ]; (first | exact dc_by (And.intro @Ty.sl44 (And.intro @Ty.nze44 (And.intro @Ty.slz44 (And.intro @Ty.zok44 (And.intro @Ty.by44 @Ty.zs44))))) | refine dt_by (And.intro @Ty.sl44 (And.intro @Ty.nze44 (And.intro @Ty.slz44 (And.intro @Ty.zok44 (And.intro @Ty.by44 @Ty.zs44))))) ?_)
    simp only [Int.toNat_natCast]
    refine seq_lj rfl (l_clear (n := l.length) (cs := cs2) (off := i + (l.length - j)) (m := l.length - (i + (l.length - j))) (r := 1000) (p := []) z44 ?_ ?_ (by omega) (by omega) ?_)
    · (first | exact dc_by (And.intro @Ty.sl44 (And.intro @Ty.nze44 (And.intro @Ty.slz44 (And.intro @Ty.zok44 (And.intro @Ty.by44 @Ty.zs44))))) | refine dt_by (And.intro @Ty.sl44 (And.intro @Ty.nze44 (And.intro @Ty.slz44 (And.intro @Ty.zok44 (And.intro @Ty.by44 @Ty.zs44))))) ?_)
    · (first | exact dc_by (And.intro @Ty.sl44 (And.intro @Ty.nze44 (And.intro @Ty.slz44 (And.intro @Ty.zok44 (And.intro @Ty.by44 (And.intro @Ty.zs44 @sz44)))))) | refine dt_by (And.intro @Ty.sl44 (And.intro @Ty.nze44 (And.intro @Ty.slz44 (And.intro @Ty.zok44 (And.intro @Ty.by44 (And.intro @Ty.zs44 @sz44)))))) ?_)
    rw [sz44]
    generalize hcs3 : setL cs2 _ _ = cs3
    refine Seq.nil ?_
    (first | exact dc_by (And.intro @Ty.sl44 (And.intro @Ty.nze44 (And.intro @Ty.slz44 (And.intro @Ty.zok44 (And.intro @Ty.by44 @Ty.zs44))))) | refine dt_by (And.intro @Ty.sl44 (And.intro @Ty.nze44 (And.intro @Ty.slz44 (And.intro @Ty.zok44 (And.intro @Ty.by44 @Ty.zs44))))) ?_)
    refine AWP.seq (aw_sound ?_)
    (first | exact dc_by (And.intro @Ty.sl44 (And.intro @Ty.nze44 (And.intro @Ty.slz44 (And.intro @Ty.zok44 (And.intro @Ty.by44 @Ty.zs44))))) | refine dt_by (And.intro @Ty.sl44 (And.intro @Ty.nze44 (And.intro @Ty.slz44 (And.intro @Ty.zok44 (And.intro @Ty.by44 @Ty.zs44))))) ?_)
    refine AWP.ret ?_
    (first | exact dc_by (And.intro @Ty.sl44 (And.intro @Ty.nze44 (And.intro @Ty.slz44 (And.intro @Ty.zok44 (And.intro @Ty.by44 @Ty.zs44))))) | refine dt_by (And.intro @Ty.sl44 (And.intro @Ty.nze44 (And.intro @Ty.slz44 (And.intro @Ty.zok44 (And.intro @Ty.by44 @Ty.zs44))))) ?_)
    refine retX_cut (n := l.length) (len := i + (l.length - j)) (cs := cs3) (r := 1000) (p := []) (sz := 3) rfl ?_ ?_ (by omega) ?_ ?_
    · (first | exact dc_by (And.intro @Ty.sl44 (And.intro @Ty.nze44 (And.intro @Ty.slz44 (And.intro @Ty.zok44 (And.intro @Ty.by44 @Ty.zs44))))) | refine dt_by (And.intro @Ty.sl44 (And.intro @Ty.nze44 (And.intro @Ty.slz44 (And.intro @Ty.zok44 (And.intro @Ty.by44 @Ty.zs44))))) ?_)
    · (first | exact dc_by (And.intro @Ty.sl44 (And.intro @Ty.nze44 (And.intro @Ty.slz44 (And.intro @Ty.zok44 (And.intro @Ty.by44 @Ty.zs44))))) | refine dt_by (And.intro @Ty.sl44 (And.intro @Ty.nze44 (And.intro @Ty.slz44 (And.intro @Ty.zok44 (And.intro @Ty.by44 @Ty.zs44))))) ?_)
    · rw [show l.length - (j - i) = i + (l.length - j) by omega, ← hcs3, ← hcs2]
      exact congrArg _ (del_cells (enc := ePart) (fun _ => rfl) hij hj _)
    · (first | exact dc_by (And.intro @Ty.sl44 (And.intro @Ty.nze44 (And.intro @Ty.slz44 (And.intro @Ty.zok44 (And.intro @Ty.by44 (And.intro @Ty.zs44 (And.intro @regsQ_cons @regsQ_nil))))))) | refine dt_by (And.intro @Ty.sl44 (And.intro @Ty.nze44 (And.intro @Ty.slz44 (And.intro @Ty.zok44 (And.intro @Ty.by44 (And.intro @Ty.zs44 (And.intro @regsQ_cons @regsQ_nil))))))) ?_)
  · have hjl' : j = l.length := by omega
    have e0 : l.length - j = 0 := by omega
    refine seq_lj rfl (l_appIn0 (n := l.length) (cs := esPart l) (k := i) (off := j) (r := 1000) (p := []) (by show 26 < 33; decide) z44 ?_ ?_ ?_ (by omega) (by omega) ?_)
    · (first | exact dc_by (And.intro @Ty.sl44 (And.intro @Ty.nze44 (And.intro @Ty.slz44 (And.intro @Ty.zok44 (And.intro @Ty.by44 (And.intro @Ty.zs44 @e0)))))) | refine dt_by (And.intro @Ty.sl44 (And.intro @Ty.nze44 (And.intro @Ty.slz44 (And.intro @Ty.zok44 (And.intro @Ty.by44 (And.intro @Ty.zs44 @e0)))))) ?_)
    · (first | exact dc_by (And.intro @Ty.sl44 (And.intro @Ty.nze44 (And.intro @Ty.slz44 (And.intro @Ty.zok44 (And.intro @Ty.by44 (And.intro @Ty.zs44 @e0)))))) | refine dt_by (And.intro @Ty.sl44 (And.intro @Ty.nze44 (And.intro @Ty.slz44 (And.intro @Ty.zok44 (And.intro @Ty.by44 (And.intro @Ty.zs44 @e0)))))) ?_)
    · (first | exact dc_by (And.intro @Ty.sl44 (And.intro @Ty.nze44 (And.intro @Ty.slz44 (And.intro @Ty.zok44 (And.intro @Ty.by44 (And.intro @Ty.zs44 @sz44)))))) | refine dt_by (And.intro @Ty.sl44 (And.intro @Ty.nze44 (And.intro @Ty.slz44 (And.intro @Ty.zok44 (And.intro @Ty.by44 (And.intro @Ty.zs44 @sz44)))))) ?_)
    obtain ⟨cs2, hcs2⟩ : ∃ c, c = esPart l := ⟨_, rfl⟩
    rw [show (AV.sl 1000 [] 0 i) = .sl 1000 [] 0 (i + (l.length - j)) by rw [e0]; rfl]
    refine seq_st rfl ?_
    (first | exact dc_by (And.intro @Ty.sl44 (And.intro @Ty.nze44 (And.intro @Ty.slz44 (And.intro @Ty.zok44 (And.intro @Ty.by44 @Ty.zs44))))) | refine dt_by (And.intro @Ty.sl44 (And.intro @Ty.nze44 (And.intro @Ty.slz44 (And.intro @Ty.zok44 (And.intro @Ty.by44 @Ty.zs44))))) ?_)
    refine Seq.nil ?_
    (first | exact dc_by (And.intro @Ty.sl44 (And.intro @Ty.nze44 (And.intro @Ty.slz44 (And.intro @Ty.zok44 (And.intro @Ty.by44 @Ty.zs44))))) | refine dt_by (And.intro @Ty.sl44 (And.intro @Ty.nze44 (And.intro @Ty.slz44 (And.intro @Ty.zok44 (And.intro @Ty.by44 @Ty.zs44))))) ?_)
    refine AWP.seq (AWP.region ?_)
    refine seq_st rfl ?_
    (first | exact dc_by (And.intro @Ty.sl44 (And.intro @Ty.nze44 (And.intro @Ty.slz44 (And.intro @Ty.zok44 (And.intro @Ty.by44 @Ty.zs44))))) | refine dt_by (And.intro @Ty.sl44 (And.intro @Ty.nze44 (And.intro @Ty.slz44 (And.intro @Ty.zok44 (And.intro @Ty.by44 @Ty.zs44))))) ?_)
    refine seq_st rfl ?_
    (first | exact dc_by (And.intro @Ty.sl44 (And.intro @Ty.nze44 (And.intro @Ty.slz44 (And.intro @Ty.zok44 (And.intro @Ty.by44 @Ty.zs44))))) | refine dt_by (And.intro @Ty.sl44 (And.intro @Ty.nze44 (And.intro @Ty.slz44 (And.intro @Ty.zok44 (And.intro @Ty.by44 @Ty.zs44))))) ?_)
    refine seq_st rfl ?_
    (first | exact dc_by (And.intro @Ty.sl44 (And.intro @Ty.nze44 (And.intro @Ty.slz44 (And.intro @Ty.zok44 (And.intro @Ty.by44 @Ty.zs44))))) | refine dt_by (And.intro @Ty.sl44 (And.intro @Ty.nze44 (And.intro @Ty.slz44 (And.intro @Ty.zok44 (And.intro @Ty.by44 @Ty.zs44))))) ?_)
    refine ⟨by omega, ?_⟩
    refine seq_st rfl ?_
    (first | exact dc_by (And.intro @Ty.sl44 (And.intro @Ty.nze44 (And.intro @Ty.slz44 (And.intro @Ty.zok44 (And.intro @Ty.by44 @Ty.zs44))))) | refine dt_by (And.intro @Ty.sl44 (And.intro @Ty.nze44 (And.intro @Ty.slz44 (And.intro @Ty.zok44 (And.intro @Ty.by44 @Ty.zs44))))) ?_)
    refine seq_lj rfl (l_slCap (n := l.length) (cs := cs2) (l := ((i + (l.length - j) : Nat) : Int)) (h := l.length) (len := i + (l.length - j)) (r := 1000) (p := []) (by show 31 < 33; decide) Ty.sl44 ?_ ?_ (by omega) ?_ ?_ (by omega) (by omega) (by omega) ?_)
    · (first | exact dc_by (And.intro @Ty.sl44 (And.intro @Ty.nze44 (And.intro @Ty.slz44 (And.intro @Ty.zok44 (And.intro @Ty.by44 (And.intro @Ty.zs44 @e0)))))) | refine dt_by (And.intro @Ty.sl44 (And.intro @Ty.nze44 (And.intro @Ty.slz44 (And.intro @Ty.zok44 (And.intro @Ty.by44 (And.intro @Ty.zs44 @e0)))))) ?_)
    · (first | exact dc_by (And.intro @Ty.sl44 (And.intro @Ty.nze44 (And.intro @Ty.slz44 (And.intro @Ty.zok44 (And.intro @Ty.by44 (And.intro @Ty.zs44 (And.intro @e0 @hcs2))))))) | refine dt_by (And.intro @Ty.sl44 (And.intro @Ty.nze44 (And.intro @Ty.slz44 (And.intro @Ty.zok44 (And.intro @Ty.by44 (And.intro @Ty.zs44 (And.intro @e0 @hcs2))))))) ?_)
    · simp only [bndQ]; (first | exact dc_by (And.intro @Ty.sl44 (And.intro @Ty.nze44 (And.intro @Ty.slz44 (And.intro @Ty.zok44 (And.intro @Ty.by44 @Ty.zs44))))) | refine dt_by (And.intro @Ty.sl44 (And.intro @Ty.nze44 (And.intro @Ty.slz44 (And.intro @Ty.zok44 (And.intro @Ty.by44 @Ty.zs44))))) ?_)
    · refine ⟨_, rfl, ?_⟩; simp only [bndQ]; (first | exact dc_by (And.intro @Ty.sl44 (And.intro @Ty.nze44 (And.intro @Ty.slz44 (And.intro @Ty.zok44 (And.intro @Ty.by44 @Ty.zs44))))) | refine dt_by (And.intro @Ty.sl44 (And.intro @Ty.nze44 (And.intro @Ty.slz44 (And.intro @Ty.zok44 (And.intro @Ty.by44 @Ty.zs44))))) ?_)
    simp only [Int.toNat_natCast]
    refine seq_lj rfl (l_clear (n := l.length) (cs := cs2) (off := i + (l.length - j)) (m := l.length - (i + (l.length - j))) (r := 1000) (p := []) z44 ?_ ?_ (by omega) (by omega) ?_)
    · (first | exact dc_by (And.intro @Ty.sl44 (And.intro @Ty.nze44 (And.intro @Ty.slz44 (And.intro @Ty.zok44 (And.intro @Ty.by44 (And.intro @Ty.zs44 @e0)))))) | refine dt_by (And.intro @Ty.sl44 (And.intro @Ty.nze44 (And.intro @Ty.slz44 (And.intro @Ty.zok44 (And.intro @Ty.by44 (And.intro @Ty.zs44 @e0)))))) ?_)
    · (first | exact dc_by (And.intro @Ty.sl44 (And.intro @Ty.nze44 (And.intro @Ty.slz44 (And.intro @Ty.zok44 (And.intro @Ty.by44 (And.intro @Ty.zs44 (And.intro @sz44 @hcs2))))))) | refine dt_by (And.intro @Ty.sl44 (And.intro @Ty.nze44 (And.intro @Ty.slz44 (And.intro @Ty.zok44 (And.intro @Ty.by44 (And.intro @Ty.zs44 (And.intro @sz44 @hcs2))))))) ?_)
    rw [sz44]
    generalize hcs3 : setL cs2 _ _ = cs3
    refine Seq.nil ?_
    (first | exact dc_by (And.intro @Ty.sl44 (And.intro @Ty.nze44 (And.intro @Ty.slz44 (And.intro @Ty.zok44 (And.intro @Ty.by44 @Ty.zs44))))) | refine dt_by (And.intro @Ty.sl44 (And.intro @Ty.nze44 (And.intro @Ty.slz44 (And.intro @Ty.zok44 (And.intro @Ty.by44 @Ty.zs44))))) ?_)
    refine AWP.seq (aw_sound ?_)
    (first | exact dc_by (And.intro @Ty.sl44 (And.intro @Ty.nze44 (And.intro @Ty.slz44 (And.intro @Ty.zok44 (And.intro @Ty.by44 @Ty.zs44))))) | refine dt_by (And.intro @Ty.sl44 (And.intro @Ty.nze44 (And.intro @Ty.slz44 (And.intro @Ty.zok44 (And.intro @Ty.by44 @Ty.zs44))))) ?_)
    refine AWP.ret ?_
    (first | exact dc_by (And.intro @Ty.sl44 (And.intro @Ty.nze44 (And.intro @Ty.slz44 (And.intro @Ty.zok44 (And.intro @Ty.by44 @Ty.zs44))))) | refine dt_by (And.intro @Ty.sl44 (And.intro @Ty.nze44 (And.intro @Ty.slz44 (And.intro @Ty.zok44 (And.intro @Ty.by44 @Ty.zs44))))) ?_)
    refine retX_cut (n := l.length) (len := i + (l.length - j)) (cs := cs3) (r := 1000) (p := []) (sz := 3) rfl ?_ ?_ (by omega) ?_ ?_
    · (first | exact dc_by (And.intro @Ty.sl44 (And.intro @Ty.nze44 (And.intro @Ty.slz44 (And.intro @Ty.zok44 (And.intro @Ty.by44 (And.intro @Ty.zs44 @e0)))))) | refine dt_by (And.intro @Ty.sl44 (And.intro @Ty.nze44 (And.intro @Ty.slz44 (And.intro @Ty.zok44 (And.intro @Ty.by44 (And.intro @Ty.zs44 @e0)))))) ?_)
    · (first | exact dc_by (And.intro @Ty.sl44 (And.intro @Ty.nze44 (And.intro @Ty.slz44 (And.intro @Ty.zok44 (And.intro @Ty.by44 (And.intro @Ty.zs44 @e0)))))) | refine dt_by (And.intro @Ty.sl44 (And.intro @Ty.nze44 (And.intro @Ty.slz44 (And.intro @Ty.zok44 (And.intro @Ty.by44 (And.intro @Ty.zs44 @e0)))))) ?_)
    · rw [show l.length - (j - i) = i + (l.length - j) by omega, ← hcs3, hcs2, hjl', Nat.sub_self, Nat.add_zero]
      exact congrArg _ (del_cells0 (enc := ePart) (fun _ => rfl) (by omega) _)
    · (first | exact dc_by (And.intro @Ty.sl44 (And.intro @Ty.nze44 (And.intro @Ty.slz44 (And.intro @Ty.zok44 (And.intro @Ty.by44 (And.intro @Ty.zs44 (And.intro @regsQ_cons @regsQ_nil))))))) | refine dt_by (And.intro @Ty.sl44 (And.intro @Ty.nze44 (And.intro @Ty.slz44 (And.intro @Ty.zok44 (And.intro @Ty.by44 (And.intro @Ty.zs44 (And.intro @regsQ_cons @regsQ_nil))))))) ?_)
theorem delPart_does (l : List GPart) (i j : Int) (x : List GPart) (h : delL l i j = some x) : DoesX Try.prog 30 [.sl 1000 [] 0 l.length, I i, I j] [.row true 3 l.length (esPart l)] (.row true 3 x.length (esPart x)) [.junk] := by
  unfold delL at h
  split at h
  · rename_i hc
    cases h
    obtain ⟨i, rfl⟩ := Int.eq_ofNat_of_zero_le hc.1
    obtain ⟨j, rfl⟩ := Int.eq_ofNat_of_zero_le (Int.le_trans hc.1 hc.2.1)
    have := delPart_walk l i j (by omega) (by omega)
    rw [show l.length - (j - i) = (l.take i ++ l.drop j).length by simp; omega] at this
    exact this
  · cases h
theorem delEntity_walk (l : List GEntity) (i j : Nat) (hij : i ≤ j) (hj : j ≤ l.length) : DoesX Try.prog 22 [.sl 1000 [] 0 l.length, I i, I j] [.row true 2 l.length (esEntityo l)] (.row true 2 (l.length - (j - i)) (esEntityo (l.take i ++ l.drop j))) [.junk] := by
  have z26 : zOk Try.prog 26 = true := by kernel_rfl
  have sz26 : slSz Try.prog 26 = 2 := by kernel_rfl
  have hL : (esEntityo l).length = l.length * 2 := esEntityo_len l
  refine DoesX.walkA (nt := 33) Try.func22 rfl rfl (by simp) (by decide) rfl (fun G0 X w0 pv => ?_)
  refine AWP.seq (aw_sound ?_)
  (first | exact dc_by (And.intro @Ty.sl26 (And.intro @Ty.nze26 (And.intro @Ty.slz26 (And.intro @Ty.zok26 (And.intro @Ty.by26 @Ty.zs26))))) | refine dt_by (And.intro @Ty.sl26 (And.intro @Ty.nze26 (And.intro @Ty.slz26 (And.intro @Ty.zok26 (And.intro @Ty.by26 @Ty.zs26))))) ?_)
  refine AWP.seq (aw_sound ?_)
  (first | exact dc_by (And.intro @Ty.sl26 (And.intro @Ty.nze26 (And.intro @Ty.slz26 (And.intro @Ty.zok26 (And.intro @Ty.by26 @Ty.zs26))))) | refine dt_by (And.intro @Ty.sl26 (And.intro @Ty.nze26 (And.intro @Ty.slz26 (And.intro @Ty.zok26 (And.intro @Ty.by26 @Ty.zs26))))) ?_)
  refine l_sl3 (n := l.length) (cs := esEntityo l) (l := i) (h := j) (m := l.length) (kh := .i64) (km := .i64) (by show 13 < 33; decide) Ty.sl26 (len := l.length) (r := 1000) (p := []) ?_ ?_ (Nat.le_refl _) ?_ ?_ ?_ (by omega) (by omega) (by omega) (by omega) ?_
  · (first | exact dc_by (And.intro @Ty.sl26 (And.intro @Ty.nze26 (And.intro @Ty.slz26 (And.intro @Ty.zok26 (And.intro @Ty.by26 @Ty.zs26))))) | refine dt_by (And.intro @Ty.sl26 (And.intro @Ty.nze26 (And.intro @Ty.slz26 (And.intro @Ty.zok26 (And.intro @Ty.by26 @Ty.zs26))))) ?_)
  · (first | exact dc_by (And.intro @Ty.sl26 (And.intro @Ty.nze26 (And.intro @Ty.slz26 (And.intro @Ty.zok26 (And.intro @Ty.by26 @Ty.zs26))))) | refine dt_by (And.intro @Ty.sl26 (And.intro @Ty.nze26 (And.intro @Ty.slz26 (And.intro @Ty.zok26 (And.intro @Ty.by26 @Ty.zs26))))) ?_)
  · simp only [bndQ]; (first | exact dc_by (And.intro @Ty.sl26 (And.intro @Ty.nze26 (And.intro @Ty.slz26 (And.intro @Ty.zok26 (And.intro @Ty.by26 @Ty.zs26))))) | refine dt_by (And.intro @Ty.sl26 (And.intro @Ty.nze26 (And.intro @Ty.slz26 (And.intro @Ty.zok26 (And.intro @Ty.by26 @Ty.zs26))))) ?_)
  · (first | exact dc_by (And.intro @Ty.sl26 (And.intro @Ty.nze26 (And.intro @Ty.slz26 (And.intro @Ty.zok26 (And.intro @Ty.by26 @Ty.zs26))))) | refine dt_by (And.intro @Ty.sl26 (And.intro @Ty.nze26 (And.intro @Ty.slz26 (And.intro @Ty.zok26 (And.intro @Ty.by26 @Ty.zs26))))) ?_)
  · (first | exact dc_by (And.intro @Ty.sl26 (And.intro @Ty.nze26 (And.intro @Ty.slz26 (And.intro @Ty.zok26 (And.intro @Ty.by26 @Ty.zs26))))) | refine dt_by (And.intro @Ty.sl26 (And.intro @Ty.nze26 (And.intro @Ty.slz26 (And.intro @Ty.zok26 (And.intro @Ty.by26 @Ty.zs26))))) ?_)
  (first | exact dc_by (And.intro @Ty.sl26 (And.intro @Ty.nze26 (And.intro @Ty.slz26 (And.intro @Ty.zok26 (And.intro @Ty.by26 @Ty.zs26))))) | refine dt_by (And.intro @Ty.sl26 (And.intro @Ty.nze26 (And.intro @Ty.slz26 (And.intro @Ty.zok26 (And.intro @Ty.by26 @Ty.zs26))))) ?_)
  refine AWP.seq (aw_sound ?_)
  (first | exact dc_by (And.intro @Ty.sl26 (And.intro @Ty.nze26 (And.intro @Ty.slz26 (And.intro @Ty.zok26 (And.intro @Ty.by26 @Ty.zs26))))) | refine dt_by (And.intro @Ty.sl26 (And.intro @Ty.nze26 (And.intro @Ty.slz26 (And.intro @Ty.zok26 (And.intro @Ty.by26 @Ty.zs26))))) ?_)
  refine CBC_bool (fun hd => ?_) (fun hd => ?_)
  · have hd' : i = j := by simp at hd; omega
    subst hd'
    (first | exact dc_by (And.intro @Ty.sl26 (And.intro @Ty.nze26 (And.intro @Ty.slz26 (And.intro @Ty.zok26 (And.intro @Ty.by26 @Ty.zs26))))) | refine dt_by (And.intro @Ty.sl26 (And.intro @Ty.nze26 (And.intro @Ty.slz26 (And.intro @Ty.zok26 (And.intro @Ty.by26 @Ty.zs26))))) ?_)
    refine retX_p1 rfl ?_
    simp only [retXq1, retXCq, rview]; (first | exact dc_by (And.intro @Ty.sl26 (And.intro @Ty.nze26 (And.intro @Ty.slz26 (And.intro @Ty.zok26 (And.intro @Ty.by26 (And.intro @Ty.zs26 (And.intro @regsQ_cons @regsQ_nil))))))) | refine dt_by (And.intro @Ty.sl26 (And.intro @Ty.nze26 (And.intro @Ty.slz26 (And.intro @Ty.zok26 (And.intro @Ty.by26 (And.intro @Ty.zs26 (And.intro @regsQ_cons @regsQ_nil))))))) ?_)
    simp
  have hd' : i ≠ j := by simp at hd; omega
  (first | exact dc_by (And.intro @Ty.sl26 (And.intro @Ty.nze26 (And.intro @Ty.slz26 (And.intro @Ty.zok26 (And.intro @Ty.by26 (And.intro @Ty.zs26 @hd)))))) | refine dt_by (And.intro @Ty.sl26 (And.intro @Ty.nze26 (And.intro @Ty.slz26 (And.intro @Ty.zok26 (And.intro @Ty.by26 (And.intro @Ty.zs26 @hd)))))) ?_)
  refine AWP.seq (aw_sound ?_)
  (first | exact dc_by (And.intro @Ty.sl26 (And.intro @Ty.nze26 (And.intro @Ty.slz26 (And.intro @Ty.zok26 (And.intro @Ty.by26 @Ty.zs26))))) | refine dt_by (And.intro @Ty.sl26 (And.intro @Ty.nze26 (And.intro @Ty.slz26 (And.intro @Ty.zok26 (And.intro @Ty.by26 @Ty.zs26))))) ?_)
  refine AWP.seq (awp_drawn (id := 5) ?_ [[], [], [0, 1], [], [], [3, 4], [0, 1, 2, 3, 4, 5], [0, 1, 2, 3, 4, 5, 6]] 6 ?_ ?_)
  · kernel_rfl
  · kernel_rfl
  (first | exact dc_by (And.intro @Ty.sl26 (And.intro @Ty.nze26 (And.intro @Ty.slz26 (And.intro @Ty.zok26 (And.intro @Ty.by26 @Ty.zs26))))) | refine dt_by (And.intro @Ty.sl26 (And.intro @Ty.nze26 (And.intro @Ty.slz26 (And.intro @Ty.zok26 (And.intro @Ty.by26 @Ty.zs26))))) ?_)
  refine ⟨⟨by omega, by omega, by omega⟩, ⟨by omega, by omega, by omega⟩, ?_⟩
  by_cases hjl : j < l.length
  · refine seq_lj rfl (l_appInK (n := l.length) (cs := esEntityo l) (k := i) (off := j) (m := l.length - j) (r := 1000) (p := []) (by show 26 < 33; decide) z26 ?_ ?_ ?_ (by omega) (by omega) (by omega) ?_ ?_)
    · (first | exact dc_by (And.intro @Ty.sl26 (And.intro @Ty.nze26 (And.intro @Ty.slz26 (And.intro @Ty.zok26 (And.intro @Ty.by26 @Ty.zs26))))) | refine dt_by (And.intro @Ty.sl26 (And.intro @Ty.nze26 (And.intro @Ty.slz26 (And.intro @Ty.zok26 (And.intro @Ty.by26 @Ty.zs26))))) ?_)
    · (first | exact dc_by (And.intro @Ty.sl26 (And.intro @Ty.nze26 (And.intro @Ty.slz26 (And.intro @Ty.zok26 (And.intro @Ty.by26 @Ty.zs26))))) | refine dt_by (And.intro @Ty.sl26 (And.intro @Ty.nze26 (And.intro @Ty.slz26 (And.intro @Ty.zok26 (And.intro @Ty.by26 @Ty.zs26))))) ?_)
    · (first | exact dc_by (And.intro @Ty.sl26 (And.intro @Ty.nze26 (And.intro @Ty.slz26 (And.intro @Ty.zok26 (And.intro @Ty.by26 (And.intro @Ty.zs26 @sz26)))))) | refine dt_by (And.intro @Ty.sl26 (And.intro @Ty.nze26 (And.intro @Ty.slz26 (And.intro @Ty.zok26 (And.intro @Ty.by26 (And.intro @Ty.zs26 @sz26)))))) ?_)
    · rw [sz26, esEntityo_dropk, esEntityo_takek]; exact esEntityo_fit _
    rw [sz26]
    generalize hZs : List.replicate _ AV.junk = Zs
    generalize hcs2 : mvL (esEntityo l) _ _ _ Zs = cs2
    generalize hkk : j * 2 + (l.length - j) * 2 - i * 2 = kk
    refine seq_st rfl ?_
    (first | exact dc_by (And.intro @Ty.sl26 (And.intro @Ty.nze26 (And.intro @Ty.slz26 (And.intro @Ty.zok26 (And.intro @Ty.by26 @Ty.zs26))))) | refine dt_by (And.intro @Ty.sl26 (And.intro @Ty.nze26 (And.intro @Ty.slz26 (And.intro @Ty.zok26 (And.intro @Ty.by26 @Ty.zs26))))) ?_)
    refine Seq.nil ?_
    (first | exact dc_by (And.intro @Ty.sl26 (And.intro @Ty.nze26 (And.intro @Ty.slz26 (And.intro @Ty.zok26 (And.intro @Ty.by26 @Ty.zs26))))) | refine dt_by (And.intro @Ty.sl26 (And.intro @Ty.nze26 (And.intro @Ty.slz26 (And.intro @Ty.zok26 (And.intro @Ty.by26 @Ty.zs26))))) ?_)
    refine AWP.seq (AWP.region ?_)
    refine seq_st rfl ?_
    (first | exact dc_by (And.intro @Ty.sl26 (And.intro @Ty.nze26 (And.intro @Ty.slz26 (And.intro @Ty.zok26 (And.intro @Ty.by26 @Ty.zs26))))) | refine dt_by (And.intro @Ty.sl26 (And.intro @Ty.nze26 (And.intro @Ty.slz26 (And.intro @Ty.zok26 (And.intro @Ty.by26 @Ty.zs26))))) ?_)
    refine seq_st rfl ?_
    (first | exact dc_by (And.intro @Ty.sl26 (And.intro @Ty.nze26 (And.intro @Ty.slz26 (And.intro @Ty.zok26 (And.intro @Ty.by26 @Ty.zs26))))) | refine dt_by (And.intro @Ty.sl26 (And.intro @Ty.nze26 (And.intro @Ty.slz26 (And.intro @Ty.zok26 (And.intro @Ty.by26 @Ty.zs26))))) ?_)
    refine seq_st rfl ?_
    (first | exact dc_by (And.intro @Ty.sl26 (And.intro @Ty.nze26 (And.intro @Ty.slz26 (And.intro @Ty.zok26 (And.intro @Ty.by26 @Ty.zs26))))) | refine dt_by (And.intro @Ty.sl26 (And.intro @Ty.nze26 (And.intro @Ty.slz26 (And.intro @Ty.zok26 (And.intro @Ty.by26 @Ty.zs26))))) ?_)
    refine ⟨by omega, ?_⟩
    refine seq_st rfl ?_
    (first | exact dc_by (And.intro @Ty.sl26 (And.intro @Ty.nze26 (And.intro @Ty.slz26 (And.intro @Ty.zok26 (And.intro @Ty.by26 @Ty.zs26))))) | refine dt_by (And.intro @Ty.sl26 (And.intro @Ty.nze26 (And.intro @Ty.slz26 (And.intro @Ty.zok26 (And.intro @Ty.by26 @Ty.zs26))))) ?_)
    refine seq_lj rfl (l_slCap (n := l.length) (cs := cs2) (l := ((i + (l.length - j) : Nat) : Int)) (h := l.length) (len := i + (l.length - j)) (r := 1000) (p := []) (by show 31 < 33; decide) Ty.sl26 ?_ ?_ (by omega) ?_ ?_ (by omega) (by omega) (by omega) ?_)
    · (first | exact dc_by (And.intro @Ty.sl26 (And.intro @Ty.nze26 (And.intro @Ty.slz26 (And.intro @Ty.zok26 (And.intro @Ty.by26 @Ty.zs26))))) | refine dt_by (And.intro @Ty.sl26 (And.intro @Ty.nze26 (And.intro @Ty.slz26 (And.intro @Ty.zok26 (And.intro @Ty.by26 @Ty.zs26))))) ?_)
    · (first | exact dc_by (And.intro @Ty.sl26 (And.intro @Ty.nze26 (And.intro @Ty.slz26 (And.intro @Ty.zok26 (And.intro @Ty.by26 @Ty.zs26))))) | refine dt_by (And.intro @Ty.sl26 (And.intro @Ty.nze26 (And.intro @Ty.slz26 (And.intro @Ty.zok26 (And.intro @Ty.by26 @Ty.zs26))))) ?_)
    · simp only [bndQ]; (first | exact dc_by (And.intro @Ty.sl26 (And.intro @Ty.nze26 (And.intro @Ty.slz26 (And.intro @Ty.zok26 (And.intro @Ty.by26 @Ty.zs26))))) | refine dt_by (And.intro @Ty.sl26 (And.intro @Ty.nze26 (And.intro @Ty.slz26 (And.intro @Ty.zok26 (And.intro @Ty.by26 @Ty.zs26))))) ?_)
    · refine ⟨_, rfl, ?_⟩; simp only [bndQ]; (first | exact dc_by (And.intro @Ty.sl26 (And.intro @Ty.nze26 (And.intro @Ty.slz26 (And.intro @Ty.zok26 (And.intro @Ty.by26 @Ty.zs26))))) | refine dt_by (And.intro @Ty.sl26 (And.intro @Ty.nze26 (And.intro @Ty.slz26 (And.intro @Ty.zok26 (And.intro @Ty.by26 @Ty.zs26))))) ?_)
    simp only [Int.toNat_natCast]
    refine seq_lj rfl (l_clear (n := l.length) (cs := cs2) (off := i + (l.length - j)) (m := l.length - (i + (l.length - j))) (r := 1000) (p := []) z26 ?_ ?_ (by omega) (by omega) ?_)
    · (first | exact dc_by (And.intro @Ty.sl26 (And.intro @Ty.nze26 (And.intro @Ty.slz26 (And.intro @Ty.zok26 (And.intro @Ty.by26 @Ty.zs26))))) | refine dt_by (And.intro @Ty.sl26 (And.intro @Ty.nze26 (And.intro @Ty.slz26 (And.intro @Ty.zok26 (And.intro @Ty.by26 @Ty.zs26))))) ?_)
    · (first | exact dc_by (And.intro @Ty.sl26 (And.intro @Ty.nze26 (And.intro @Ty.slz26 (And.intro @Ty.zok26 (And.intro @Ty.by26 (And.intro @Ty.zs26 @sz26)))))) | refine dt_by (And.intro @Ty.sl26 (And.intro @Ty.nze26 (And.intro @Ty.slz26 (And.intro @Ty.zok26 (And.intro @Ty.by26 (And.intro @Ty.zs26 @sz26)))))) ?_)
    rw [sz26]
    generalize hcs3 : setL cs2 _ _ = cs3
    refine Seq.nil ?_
    (first | exact dc_by (And.intro @Ty.sl26 (And.intro @Ty.nze26 (And.intro @Ty.slz26 (And.intro @Ty.zok26 (And.intro @Ty.by26 @Ty.zs26))))) | refine dt_by (And.intro @Ty.sl26 (And.intro @Ty.nze26 (And.intro @Ty.slz26 (And.intro @Ty.zok26 (And.intro @Ty.by26 @Ty.zs26))))) ?_)
    refine AWP.seq (aw_sound ?_)
    (first | exact dc_by (And.intro @Ty.sl26 (And.intro @Ty.nze26 (And.intro @Ty.slz26 (And.intro @Ty.zok26 (And.intro @Ty.by26 @Ty.zs26))))) | refine dt_by (And.intro @Ty.sl26 (And.intro @Ty.nze26 (And.intro @Ty.slz26 (And.intro @Ty.zok26 (And.intro @Ty.by26 @Ty.zs26))))) ?_)
    refine AWP.ret ?_
    (first | exact dc_by (And.intro @Ty.sl26 (And.intro @Ty.nze26 (And.intro @Ty.slz26 (And.intro @Ty.zok26 (And.intro @Ty.by26 @Ty.zs26))))) | refine dt_by (And.intro @Ty.sl26 (And.intro @Ty.nze26 (And.intro @Ty.slz26 (And.intro @Ty.zok26 (And.intro @Ty.by26 @Ty.zs26))))) ?_)
    refine retX_cut (n := l.length) (len := i + (l.length - j)) (cs := cs3) (r := 1000) (p := []) (sz := 2) rfl ?_ ?_ (by omega) ?_ ?_
    · (first | exact dc_by (And.intro @Ty.sl26 (And.intro @Ty.nze26 (And.intro @Ty.slz26 (And.intro @Ty.zok26 (And.intro @Ty.by26 @Ty.zs26))))) | refine dt_by (And.intro @Ty.sl26 (And.intro @Ty.nze26 (And.intro @Ty.slz26 (And.intro @Ty.zok26 (And.intro @Ty.by26 @Ty.zs26))))) ?_)
    · (first | exact dc_by (And.intro @Ty.sl26 (And.intro @Ty.nze26 (And.intro @Ty.slz26 (And.intro @Ty.zok26 (And.intro @Ty.by26 @Ty.zs26))))) | refine dt_by (And.intro @Ty.sl26 (And.intro @Ty.nze26 (And.intro @Ty.slz26 (And.intro @Ty.zok26 (And.intro @Ty.by26 @Ty.zs26))))) ?_)
    · rw [show l.length - (j - i) = i + (l.length - j) by omega, ← hcs3, ← hcs2]
      exact congrArg _ (del_cellsK (enc := eEntityo) (fun _ => rfl) hij hj _ (by rw [← hZs]; simp))
    · (first | exact dc_by (And.intro @Ty.sl26 (And.intro @Ty.nze26 (And.intro @Ty.slz26 (And.intro @Ty.zok26 (And.intro @Ty.by26 (And.intro @Ty.zs26 (And.intro @regsQ_cons @regsQ_nil))))))) | refine dt_by (And.intro @Ty.sl26 (And.intro @Ty.nze26 (And.intro @Ty.slz26 (And.intro @Ty.zok26 (And.intro @Ty.by26 (And.intro @Ty.zs26 (And.intro @regsQ_cons @regsQ_nil))))))) ?_)
  · have hjl' : j = l.length := by omega
    have e0 : l.length - j = 0 := by omega
    refine seq_lj rfl (l_appIn0 (n := l.length) (cs := esEntityo l) (k := i) (off := j) (r := 1000) (p := []) (by show 26 < 33; decide) z26 ?_ ?_ ?_ (by omega) (by omega) ?_)
    · (first | exact dc_by (And.intro @Ty.sl26 (And.intro @Ty.nze26 (And.intro @Ty.slz26 (And.intro @Ty.zok26 (And.intro @Ty.by26 (And.intro @Ty.zs26 @e0)))))) | refine dt_by (And.intro @Ty.sl26 (And.intro @Ty.nze26 (And.intro @Ty.slz26 (And.intro @Ty.zok26 (And.intro @Ty.by26 (And.intro @Ty.zs26 @e0)))))) ?_)
    · (first | exact dc_by (And.intro @Ty.sl26 (And.intro @Ty.nze26 (And.intro @Ty.slz26 (And.intro @Ty.zok26 (And.intro @Ty.by26 (And.intro @Ty.zs26 @e0)))))) | refine dt_by (And.intro @Ty.sl26 (And.intro @Ty.nze26 (And.intro @Ty.slz26 (And.intro @Ty.zok26 (And.intro @Ty.by26 (And.intro @Ty.zs26 @e0)))))) ?_)
    · (first | exact dc_by (And.intro @Ty.sl26 (And.intro @Ty.nze26 (And.intro @Ty.slz26 (And.intro @Ty.zok26 (And.intro @Ty.by26 (And.intro @Ty.zs26 @sz26)))))) | refine dt_by (And.intro @Ty.sl26 (And.intro @Ty.nze26 (And.intro @Ty.slz26 (And.intro @Ty.zok26 (And.intro @Ty.by26 (And.intro @Ty.zs26 @sz26)))))) ?_)
    obtain ⟨cs2, hcs2⟩ : ∃ c, c = esEntityo l := ⟨_, rfl⟩
    rw [show (AV.sl 1000 [] 0 i) = .sl 1000 [] 0 (i + (l.length - j)) by rw [e0]; rfl]
    refine seq_st rfl ?_
    (first | exact dc_by (And.intro @Ty.sl26 (And.intro @Ty.nze26 (And.intro @Ty.slz26 (And.intro @Ty.zok26 (And.intro @Ty.by26 @Ty.zs26))))) | refine dt_by (And.intro @Ty.sl26 (And.intro @Ty.nze26 (And.intro @Ty.slz26 (And.intro @Ty.zok26 (And.intro @Ty.by26 @Ty.zs26))))) ?_)
    refine Seq.nil ?_
    (first | exact dc_by (And.intro @Ty.sl26 (And.intro @Ty.nze26 (And.intro @Ty.slz26 (And.intro @Ty.zok26 (And.intro @Ty.by26 @Ty.zs26))))) | refine dt_by (And.intro @Ty.sl26 (And.intro @Ty.nze26 (And.intro @Ty.slz26 (And.intro @Ty.zok26 (And.intro @Ty.by26 @Ty.zs26))))) ?_)
    refine AWP.seq (AWP.region ?_)
    refine seq_st rfl ?_
    (first | exact dc_by (And.intro @Ty.sl26 (And.intro @Ty.nze26 (And.intro @Ty.slz26 (And.intro @Ty.zok26 (And.intro @Ty.by26 @Ty.zs26))))) | refine dt_by (And.intro @Ty.sl26 (And.intro @Ty.nze26 (And.intro @Ty.slz26 (And.intro @Ty.zok26 (And.intro @Ty.by26 @Ty.zs26))))) ?_)
    refine seq_st rfl ?_
    (first | exact dc_by (And.intro @Ty.sl26 (And.intro @Ty.nze26 (And.intro @Ty.slz26 (And.intro @Ty.zok26 (And.intro @Ty.by26 @Ty.zs26))))) | refine dt_by (And.intro @Ty.sl26 (And.intro @Ty.nze26 (And.intro @Ty.slz26 (And.intro @Ty.zok26 (And.intro @Ty.by26 @Ty.zs26))))) ?_)
    refine seq_st rfl ?_
    (first | exact dc_by (And.intro @Ty.sl26 (And.intro @Ty.nze26 (And.intro @Ty.slz26 (And.intro @Ty.zok26 (And.intro @Ty.by26 @Ty.zs26))))) | refine dt_by (And.intro @Ty.sl26 (And.intro @Ty.nze26 (And.intro @Ty.slz26 (And.intro @Ty.zok26 (And.intro @Ty.by26 @Ty.zs26))))) ?_)
    refine ⟨by omega, ?_⟩
    refine seq_st rfl ?_
    (first | exact dc_by (And.intro @Ty.sl26 (And.intro @Ty.nze26 (And.intro @Ty.slz26 (And.intro @Ty.zok26 (And.intro @Ty.by26 @Ty.zs26))))) | refine dt_by (And.intro @Ty.sl26 (And.intro @Ty.nze26 (And.intro @Ty.slz26 (And.intro @Ty.zok26 (And.intro @Ty.by26 @Ty.zs26))))) ?_)
    refine seq_lj rfl (l_slCap (n := l.length) (cs := cs2) (l := ((i + (l.length - j) : Nat) : Int)) (h := l.length) (len := i + (l.length - j)) (r := 1000) (p := []) (by show 31 < 33; decide) Ty.sl26 ?_ ?_ (by omega) ?_ ?_ (by omega) (by omega) (by omega) ?_)
    · (first | exact dc_by (And.intro @Ty.sl26 (And.intro @Ty.nze26 (And.intro @Ty.slz26 (And.intro @Ty.zok26 (And.intro @Ty.by26 (And.intro @Ty.zs26 @e0)))))) | refine dt_by (And.intro @Ty.sl26 (And.intro @Ty.nze26 (And.intro @Ty.slz26 (And.intro @Ty.zok26 (And.intro @Ty.by26 (And.intro @Ty.zs26 @e0)))))) ?_)
    · (first | exact dc_by (And.intro @Ty.sl26 (And.intro @Ty.nze26 (And.intro @Ty.slz26 (And.intro @Ty.zok26 (And.intro @Ty.by26 (And.intro @Ty.zs26 (And.intro @e0 @hcs2))))))) | refine dt_by (And.intro @Ty.sl26 (And.intro @Ty.nze26 (And.intro @Ty.slz26 (And.intro @Ty.zok26 (And.intro @Ty.by26 (And.intro @Ty.zs26 (And.intro @e0 @hcs2))))))) ?_)
    · simp only [bndQ]; (first | exact dc_by (And.intro @Ty.sl26 (And.intro @Ty.nze26 (And.intro @Ty.slz26 (And.intro @Ty.zok26 (And.intro @Ty.by26 @Ty.zs26))))) | refine dt_by (And.intro @Ty.sl26 (And.intro @Ty.nze26 (And.intro @Ty.slz26 (And.intro @Ty.zok26 (And.intro @Ty.by26 @Ty.zs26))))) ?_)
    · refine ⟨_, rfl, ?_⟩; simp only [bndQ]; (first | exact dc_by (And.intro @Ty.sl26 (And.intro @Ty.nze26 (And.intro @Ty.slz26 (And.intro @Ty.zok26 (And.intro @Ty.by26 @Ty.zs26))))) | refine dt_by (And.intro @Ty.sl26 (And.intro @Ty.nze26 (And.intro @Ty.slz26 (And.intro @Ty.zok26 (And.intro @Ty.by26 @Ty.zs26))))) ?_)
    simp only [Int.toNat_natCast]
    refine seq_lj rfl (l_clear (n := l.length) (cs := cs2) (off := i + (l.length - j)) (m := l.length - (i + (l.length - j))) (r := 1000) (p := []) z26 ?_ ?_ (by omega) (by omega) ?_)
    · (first | exact dc_by (And.intro @Ty.sl26 (And.intro @Ty.nze26 (And.intro @Ty.slz26 (And.intro @Ty.zok26 (And.intro @Ty.by26 (And.intro @Ty.zs26 @e0)))))) | refine dt_by (And.intro @Ty.sl26 (And.intro @Ty.nze26 (And.intro @Ty.slz26 (And.intro @Ty.zok26 (And.intro @Ty.by26 (And.intro @Ty.zs26 @e0)))))) ?_)
    · (first | exact dc_by (And.intro @Ty.sl26 (And.intro @Ty.nze26 (And.intro @Ty.slz26 (And.intro @Ty.zok26 (And.intro @Ty.by26 (And.intro @Ty.zs26 (And.intro @sz26 @hcs2))))))) | refine dt_by (And.intro @Ty.sl26 (And.intro @Ty.nze26 (And.intro @Ty.slz26 (And.intro @Ty.zok26 (And.intro @Ty.by26 (And.intro @Ty.zs26 (And.intro @sz26 @hcs2))))))) ?_)
    rw [sz26]
    generalize hcs3 : setL cs2 _ _ = cs3
    refine Seq.nil ?_
    (first | exact dc_by (And.intro @Ty.sl26 (And.intro @Ty.nze26 (And.intro @Ty.slz26 (And.intro @Ty.zok26 (And.intro @Ty.by26 @Ty.zs26))))) | refine dt_by (And.intro @Ty.sl26 (And.intro @Ty.nze26 (And.intro @Ty.slz26 (And.intro @Ty.zok26 (And.intro @Ty.by26 @Ty.zs26))))) ?_)
    refine AWP.seq (aw_sound ?_)
    (first | exact dc_by (And.intro @Ty.sl26 (And.intro @Ty.nze26 (And.intro @Ty.slz26 (And.intro @Ty.zok26 (And.intro @Ty.by26 @Ty.zs26))))) | refine dt_by (And.intro @Ty.sl26 (And.intro @Ty.nze26 (And.intro @Ty.slz26 (And.intro @Ty.zok26 (And.intro @Ty.by26 @Ty.zs26))))) ?_)
    refine AWP.ret ?_
    (first | exact dc_by (And.intro @Ty.sl26 (And.intro @Ty.nze26 (And.intro @Ty.slz26 (And.intro @Ty.zok26 (And.intro @Ty.by26 @Ty.zs26))))) | refine dt_by (And.intro @Ty.sl26 (And.intro @Ty.nze26 (And.intro @Ty.slz26 (And.intro @Ty.zok26 (And.intro @Ty.by26 @Ty.zs26))))) ?_)
    refine retX_cut (n := l.length) (len := i + (l.length - j)) (cs := cs3) (r := 1000) (p := []) (sz := 2) rfl ?_ ?_ (by omega) ?_ ?_
    · (first | exact dc_by (And.intro @Ty.sl26 (And.intro @Ty.nze26 (And.intro @Ty.slz26 (And.intro @Ty.zok26 (And.intro @Ty.by26 (And.intro @Ty.zs26 @e0)))))) | refine dt_by (And.intro @Ty.sl26 (And.intro @Ty.nze26 (And.intro @Ty.slz26 (And.intro @Ty.zok26 (And.intro @Ty.by26 (And.intro @Ty.zs26 @e0)))))) ?_)
    · (first | exact dc_by (And.intro @Ty.sl26 (And.intro @Ty.nze26 (And.intro @Ty.slz26 (And.intro @Ty.zok26 (And.intro @Ty.by26 (And.intro @Ty.zs26 @e0)))))) | refine dt_by (And.intro @Ty.sl26 (And.intro @Ty.nze26 (And.intro @Ty.slz26 (And.intro @Ty.zok26 (And.intro @Ty.by26 (And.intro @Ty.zs26 @e0)))))) ?_)
    · rw [show l.length - (j - i) = i + (l.length - j) by omega, ← hcs3, hcs2, hjl', Nat.sub_self, Nat.add_zero]
      exact congrArg _ (del_cells0 (enc := eEntityo) (fun _ => rfl) (by omega) _)
    · (first | exact dc_by (And.intro @Ty.sl26 (And.intro @Ty.nze26 (And.intro @Ty.slz26 (And.intro @Ty.zok26 (And.intro @Ty.by26 (And.intro @Ty.zs26 (And.intro @regsQ_cons @regsQ_nil))))))) | refine dt_by (And.intro @Ty.sl26 (And.intro @Ty.nze26 (And.intro @Ty.slz26 (And.intro @Ty.zok26 (And.intro @Ty.by26 (And.intro @Ty.zs26 (And.intro @regsQ_cons @regsQ_nil))))))) ?_)
theorem delEntity_does (l : List GEntity) (i j : Int) (x : List GEntity) (h : delL l i j = some x) : DoesX Try.prog 22 [.sl 1000 [] 0 l.length, I i, I j] [.row true 2 l.length (esEntityo l)] (.row true 2 x.length (esEntityo x)) [.junk] := by
  unfold delL at h
  split at h
  · rename_i hc
    cases h
    obtain ⟨i, rfl⟩ := Int.eq_ofNat_of_zero_le hc.1
    obtain ⟨j, rfl⟩ := Int.eq_ofNat_of_zero_le (Int.le_trans hc.1 hc.2.1)
    have := delEntity_walk l i j (by omega) (by omega)
    rw [show l.length - (j - i) = (l.take i ++ l.drop j).length by simp; omega] at this
    exact this
  · cases h
end Go.Av
