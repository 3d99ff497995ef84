/- Contracts of functions of this seat, each for every argument within its bounds. -/
import Derived.Test.YtnmnkcmogbencaaP3
set_option linter.unusedSimpArgs false
set_option linter.unusedVariables false
set_option maxRecDepth 100000
namespace Go.Av
open Go.Proofs

theorem zI (n : Nat) : (zCells [.int .i64 0] n).map AV.lit = encI (List.replicate n 0) := by
  apply List.ext_getElem?
  intro i
  by_cases h : i < n
  · simp [zCells, encI, h, Nat.mod_one]
  · simp [zCells, encI, h]
theorem shares_encI (l : List Int) : AV.shares (encI l) = encI l := by simp [AV.shares_eq, encI, AV.share]

theorem set_encI (l : List Int) (k : Nat) (h : k < l.length) :
    (encI (l.take k ++ List.replicate (l.length - k) 0)).set k (I l[k]) = encI (l.take (k+1) ++ List.replicate (l.length - (k+1)) 0) := by
  apply List.ext_getElem?
  intro i
  simp only [encI, List.getElem?_set, List.getElem?_map, List.getElem?_append, List.length_map, List.length_append, List.length_take, List.length_replicate, List.getElem?_take, List.getElem?_replicate]
  by_cases h1 : i = k
  · subst h1
    simp [Nat.min_eq_left (Nat.le_of_lt h), Nat.min_eq_left (Nat.succ_le_of_lt h), h]
    omega
  · have h2 : ¬ k = i := fun h => h1 h.symm
    simp only [h2, if_false, Nat.min_eq_left (Nat.le_of_lt h), Nat.min_eq_left (Nat.succ_le_of_lt h)]
    by_cases h3 : i < k
    · simp [h3, Nat.lt_succ_of_lt h3]
    · have h4 : ¬ i < k + 1 := by omega
      simp only [h3, h4, if_false]
      by_cases h5 : i < l.length
      · have a : i - k < l.length - k := by omega
        have b : i - (k+1) < l.length - (k+1) := by omega
        simp [a, b]
      · have a : ¬ i - k < l.length - k := by omega
        have b : ¬ i - (k+1) < l.length - (k+1) := by omega
        simp [a, b]

theorem toIntS_does (l : List Int) (hl : l.length ≤ 1048576) : Does Try.prog 15 [rowI l] (.row true 1 l.length (encI l)) := by
  refine Does.walk (nt := 22) Try.func15 rfl rfl (by simp) (by decide) rfl (fun G0 X w0 pv => ?_)
  simp only [aw_skip, aw_ret, aw_exit, aw_seq, aw_block, aw_cond, aw_region, thenK_nm, thenK_rt, thenK_ex, blockK_nm, blockK_rt, blockK_ex, sq_nil, sq_none, sq_some, GQ_same, GQ_tf, GQ_ft, CBC_true, CBC_false, CBC_not, set_t, set_m, ev_tmp, ev_const, ev_func, skip1_some, skip1_none, startT_t, st1, qv, qn, pickQ, binQ, unQ, convQ, lenQ, maxQ, minQ, indexAddrQ, indexQ, fieldAddrQ, loadQ, storeQ, makeQ, fieldQ, extractQ, intOk, intV, strOk, strV, new_t, new_m, updM_t, updM_m, nodeOf_nil, upd_nil, AV.mapRef, AV.mapRefs, AV.share, AV.shares, retK_rt, retK_nm, List.map_cons, List.map_nil, List.nil_append, List.cons_append, List.append_nil, Nat.reduceEqDiff, Nat.reduceLT, Nat.reduceAdd, ↓reduceIte, true_and, and_true, List.getElem?_cons_succ, List.getElem?_cons_zero, List.getD_cons_succ, List.getD_cons_zero, cond_true, cond_false, Bool.not_true, Bool.not_false, Option.isSome_some, memN, cellsOf, setN, openC, stOk, Value.oneCell', Option.map_some, Ty.sl22, Ty.slz22, Ty.ldA3, Ty.ldS3, Ty.sz3, Ty.szn3, Ty.zok22, Ty.by22, Ty.zs22]
  refine ⟨⟨by omega, by omega, by omega⟩, ?_⟩
  simp only [Int.toNat_natCast, zI, aw_skip, aw_ret, aw_exit, aw_seq, aw_block, aw_cond, aw_region, thenK_nm, thenK_rt, thenK_ex, blockK_nm, blockK_rt, blockK_ex, sq_nil, sq_none, sq_some, GQ_same, GQ_tf, GQ_ft, CBC_true, CBC_false, CBC_not, set_t, set_m, ev_tmp, ev_const, ev_func, skip1_some, skip1_none, startT_t, st1, qv, qn, pickQ, binQ, unQ, convQ, lenQ, maxQ, minQ, indexAddrQ, indexQ, fieldAddrQ, loadQ, storeQ, makeQ, fieldQ, extractQ, intOk, intV, strOk, strV, new_t, new_m, updM_t, updM_m, nodeOf_nil, upd_nil, AV.mapRef, AV.mapRefs, AV.share, AV.shares, retK_rt, retK_nm, List.map_cons, List.map_nil, List.nil_append, List.cons_append, List.append_nil, Nat.reduceEqDiff, Nat.reduceLT, Nat.reduceAdd, ↓reduceIte, true_and, and_true, List.getElem?_cons_succ, List.getElem?_cons_zero, List.getD_cons_succ, List.getD_cons_zero, cond_true, cond_false, Bool.not_true, Bool.not_false, Option.isSome_some, memN, cellsOf, setN, openC, stOk, Value.oneCell', Option.map_some]
  refine aw_loop (ι := Nat) (fun k s => k ≤ l.length ∧ s.t 0 = rowI l ∧ s.t 3 = .sl 7 [] 0 l.length ∧ s.t 4 = I k ∧ s.m 7 = some (.row true 1 l.length (encI (l.take k ++ List.replicate (l.length - k) 0)))) (fun k => l.length - k) 0 ?_ ?_
  · simp only [aw_skip, aw_ret, aw_exit, aw_seq, aw_block, aw_cond, aw_region, thenK_nm, thenK_rt, thenK_ex, blockK_nm, blockK_rt, blockK_ex, sq_nil, sq_none, sq_some, GQ_same, GQ_tf, GQ_ft, CBC_true, CBC_false, CBC_not, set_t, set_m, ev_tmp, ev_const, ev_func, skip1_some, skip1_none, startT_t, st1, qv, qn, pickQ, binQ, unQ, convQ, lenQ, maxQ, minQ, indexAddrQ, indexQ, fieldAddrQ, loadQ, storeQ, makeQ, fieldQ, extractQ, intOk, intV, strOk, strV, new_t, new_m, updM_t, updM_m, nodeOf_nil, upd_nil, AV.mapRef, AV.mapRefs, AV.share, AV.shares, retK_rt, retK_nm, List.map_cons, List.map_nil, List.nil_append, List.cons_append, List.append_nil, Nat.reduceEqDiff, Nat.reduceLT, Nat.reduceAdd, ↓reduceIte, true_and, and_true, List.getElem?_cons_succ, List.getElem?_cons_zero, List.getD_cons_succ, List.getD_cons_zero, cond_true, cond_false, Bool.not_true, Bool.not_false, Option.isSome_some, memN, cellsOf, setN, openC, stOk, Value.oneCell', Option.map_some]
    simp
  · rintro k s ⟨hk, h0, h3, h4, hm⟩
    simp only [h0, h3, h4, hm, aw_skip, aw_ret, aw_exit, aw_seq, aw_block, aw_cond, aw_region, thenK_nm, thenK_rt, thenK_ex, blockK_nm, blockK_rt, blockK_ex, sq_nil, sq_none, sq_some, GQ_same, GQ_tf, GQ_ft, CBC_true, CBC_false, CBC_not, set_t, set_m, ev_tmp, ev_const, ev_func, skip1_some, skip1_none, startT_t, st1, qv, qn, pickQ, binQ, unQ, convQ, lenQ, maxQ, minQ, indexAddrQ, indexQ, fieldAddrQ, loadQ, storeQ, makeQ, fieldQ, extractQ, intOk, intV, strOk, strV, new_t, new_m, updM_t, updM_m, nodeOf_nil, upd_nil, AV.mapRef, AV.mapRefs, AV.share, AV.shares, retK_rt, retK_nm, List.map_cons, List.map_nil, List.nil_append, List.cons_append, List.append_nil, Nat.reduceEqDiff, Nat.reduceLT, Nat.reduceAdd, ↓reduceIte, true_and, and_true, List.getElem?_cons_succ, List.getElem?_cons_zero, List.getD_cons_succ, List.getD_cons_zero, cond_true, cond_false, Bool.not_true, Bool.not_false, Option.isSome_some, memN, cellsOf, setN, openC, stOk, Value.oneCell', Option.map_some, Ty.sl22, Ty.slz22, Ty.ldA3, Ty.ldS3, Ty.sz3, Ty.szn3, Ty.zok22, Ty.by22, Ty.zs22]
    by_cases hlt : k < l.length
    · have hb : decide ((k : Int) < (l.length : Int)) = true := by simp; exact hlt
      have hx : ((encI l).drop ((k : Int).toNat * 1)).getD 0 .junk = I l[k] := encI_at l k hlt
      simp only [hb, h0, h3, h4, hm, aw_skip, aw_ret, aw_exit, aw_seq, aw_block, aw_cond, aw_region, thenK_nm, thenK_rt, thenK_ex, blockK_nm, blockK_rt, blockK_ex, sq_nil, sq_none, sq_some, GQ_same, GQ_tf, GQ_ft, CBC_true, CBC_false, CBC_not, set_t, set_m, ev_tmp, ev_const, ev_func, skip1_some, skip1_none, startT_t, st1, qv, qn, pickQ, binQ, unQ, convQ, lenQ, maxQ, minQ, indexAddrQ, indexQ, fieldAddrQ, loadQ, storeQ, makeQ, fieldQ, extractQ, intOk, intV, strOk, strV, new_t, new_m, updM_t, updM_m, nodeOf_nil, upd_nil, AV.mapRef, AV.mapRefs, AV.share, AV.shares, retK_rt, retK_nm, List.map_cons, List.map_nil, List.nil_append, List.cons_append, List.append_nil, Nat.reduceEqDiff, Nat.reduceLT, Nat.reduceAdd, ↓reduceIte, true_and, and_true, List.getElem?_cons_succ, List.getElem?_cons_zero, List.getD_cons_succ, List.getD_cons_zero, cond_true, cond_false, Bool.not_true, Bool.not_false, Option.isSome_some, memN, cellsOf, setN, openC, stOk, Value.oneCell', Option.map_some, Ty.sl22, Ty.slz22, Ty.ldA3, Ty.ldS3, Ty.sz3, Ty.szn3, Ty.zok22, Ty.by22, Ty.zs22]
      refine ⟨⟨by omega, by omega⟩, encI_drop _ _ (by simpa using hlt), ?_⟩
      rw [hx]
      refine ⟨⟨⟨_, _, by simp only [nodeOf_nil, set_m]; exact hm, by omega⟩, by omega, by omega⟩, ⟨by simp [encI]; omega, rfl⟩, k + 1, ⟨by omega, ?_, ?_⟩, by omega⟩
      · rw [wI _ (by omega) (by omega)]; rfl
      · simp only [Nat.zero_add, Int.toNat_natCast, Nat.mul_one]
        rw [set_encI _ _ hlt]
    · have hb : decide ((k : Int) < (l.length : Int)) = false := by simp; omega
      have hk' : k = l.length := by omega
      simp only [hb, h0, h3, h4, hm, aw_skip, aw_ret, aw_exit, aw_seq, aw_block, aw_cond, aw_region, thenK_nm, thenK_rt, thenK_ex, blockK_nm, blockK_rt, blockK_ex, sq_nil, sq_none, sq_some, GQ_same, GQ_tf, GQ_ft, CBC_true, CBC_false, CBC_not, set_t, set_m, ev_tmp, ev_const, ev_func, skip1_some, skip1_none, startT_t, st1, qv, qn, pickQ, binQ, unQ, convQ, lenQ, maxQ, minQ, indexAddrQ, indexQ, fieldAddrQ, loadQ, storeQ, makeQ, fieldQ, extractQ, intOk, intV, strOk, strV, new_t, new_m, updM_t, updM_m, nodeOf_nil, upd_nil, AV.mapRef, AV.mapRefs, AV.share, AV.shares, retK_rt, retK_nm, List.map_cons, List.map_nil, List.nil_append, List.cons_append, List.append_nil, Nat.reduceEqDiff, Nat.reduceLT, Nat.reduceAdd, ↓reduceIte, true_and, and_true, List.getElem?_cons_succ, List.getElem?_cons_zero, List.getD_cons_succ, List.getD_cons_zero, cond_true, cond_false, Bool.not_true, Bool.not_false, Option.isSome_some, memN, cellsOf, setN, openC, stOk, Value.oneCell', Option.map_some, Ty.sl22, Ty.slz22, Ty.ldA3, Ty.ldS3, Ty.sz3, Ty.szn3, Ty.zok22, Ty.by22, Ty.zs22]
      subst hk'
      refine ret_sl rfl (r := 7) (cs := encI l) (by simp only [aw_skip, aw_ret, aw_exit, aw_seq, aw_block, aw_cond, aw_region, thenK_nm, thenK_rt, thenK_ex, blockK_nm, blockK_rt, blockK_ex, sq_nil, sq_none, sq_some, GQ_same, GQ_tf, GQ_ft, CBC_true, CBC_false, CBC_not, set_t, set_m, ev_tmp, ev_const, ev_func, skip1_some, skip1_none, startT_t, st1, qv, qn, pickQ, binQ, unQ, convQ, lenQ, maxQ, minQ, indexAddrQ, indexQ, fieldAddrQ, loadQ, storeQ, makeQ, fieldQ, extractQ, intOk, intV, strOk, strV, new_t, new_m, updM_t, updM_m, nodeOf_nil, upd_nil, AV.mapRef, AV.mapRefs, AV.share, AV.shares, retK_rt, retK_nm, List.map_cons, List.map_nil, List.nil_append, List.cons_append, List.append_nil, Nat.reduceEqDiff, Nat.reduceLT, Nat.reduceAdd, ↓reduceIte, true_and, and_true, List.getElem?_cons_succ, List.getElem?_cons_zero, List.getD_cons_succ, List.getD_cons_zero, cond_true, cond_false, Bool.not_true, Bool.not_false, Option.isSome_some, memN, cellsOf, setN, openC, stOk, Value.oneCell', Option.map_some]) ?_ (by simp [encI])
      simp only [aw_skip, aw_ret, aw_exit, aw_seq, aw_block, aw_cond, aw_region, thenK_nm, thenK_rt, thenK_ex, blockK_nm, blockK_rt, blockK_ex, sq_nil, sq_none, sq_some, GQ_same, GQ_tf, GQ_ft, CBC_true, CBC_false, CBC_not, set_t, set_m, ev_tmp, ev_const, ev_func, skip1_some, skip1_none, startT_t, st1, qv, qn, pickQ, binQ, unQ, convQ, lenQ, maxQ, minQ, indexAddrQ, indexQ, fieldAddrQ, loadQ, storeQ, makeQ, fieldQ, extractQ, intOk, intV, strOk, strV, new_t, new_m, updM_t, updM_m, nodeOf_nil, upd_nil, AV.mapRef, AV.mapRefs, AV.share, AV.shares, retK_rt, retK_nm, List.map_cons, List.map_nil, List.nil_append, List.cons_append, List.append_nil, Nat.reduceEqDiff, Nat.reduceLT, Nat.reduceAdd, ↓reduceIte, true_and, and_true, List.getElem?_cons_succ, List.getElem?_cons_zero, List.getD_cons_succ, List.getD_cons_zero, cond_true, cond_false, Bool.not_true, Bool.not_false, Option.isSome_some, memN, cellsOf, setN, openC, stOk, Value.oneCell', Option.map_some, hm]
      simp
end Go.Av
