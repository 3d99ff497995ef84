/- Contracts of functions of this seat, each for every argument within its bounds. -/
import Derived.Test.YtnmnkcmogbencaaND1
set_option linter.unusedSimpArgs false
set_option linter.unusedVariables false
set_option maxRecDepth 100000
namespace Go.Av
open Go.Proofs
structure DS where
  n : Int
  f : Int
  x0 : Int
  y0 : Int
  x1 : Int
  y1 : Int
def dsStep (w : Int) (k : Int) (s : DS) : DS :=
  ⟨s.n + 1, if s.n = 0 then k else s.f, if k.tmod w < s.x0 then k.tmod w else s.x0, if k.tdiv w < s.y0 then k.tdiv w else s.y0, if k.tmod w > s.x1 then k.tmod w else s.x1, if k.tdiv w > s.y1 then k.tdiv w else s.y1⟩
def dsN (a b : List Int) (w h : Int) : Nat → DS
  | 0 => ⟨0, -1, w, h, -1, -1⟩
  | k + 1 => if a.getD k 0 = b.getD k 0 then dsN a b w h k else dsStep w k (dsN a b w h k)
theorem tdm {w : Int} (hw : 1 ≤ w) (hw2 : w ≤ 24) (k : Nat) : 0 ≤ (k : Int).tmod w ∧ (k : Int).tmod w < 24 ∧ 0 ≤ (k : Int).tdiv w ∧ (k : Int).tdiv w ≤ k := by
  have e1 : (k : Int).tdiv w = k / w := Int.tdiv_eq_ediv_of_nonneg (by omega)
  have e2 : (k : Int).tmod w = k % w := Int.tmod_eq_emod_of_nonneg (by omega)
  have h1 := Int.emod_nonneg (k : Int) (by omega : w ≠ 0)
  have h2 := Int.emod_lt_of_pos (k : Int) (by omega : 0 < w)
  have h3 : (k : Int) / w ≤ k := Int.ediv_le_self _ (by omega)
  have h4 : 0 ≤ (k : Int) / w := Int.ediv_nonneg (by omega) (by omega)
  omega
theorem dsN_bd {a b : List Int} {w h : Int} (hw : 1 ≤ w) (hw2 : w ≤ 24) (hh : 1 ≤ h) (hh2 : h ≤ 24) : ∀ k : Nat, 0 ≤ (dsN a b w h k).n ∧ (dsN a b w h k).n ≤ k ∧ 0 ≤ (dsN a b w h k).x0 ∧ (dsN a b w h k).x0 ≤ 24 ∧ 0 ≤ (dsN a b w h k).y0 ∧ (dsN a b w h k).y0 ≤ 24 ∧ -1 ≤ (dsN a b w h k).x1 ∧ (dsN a b w h k).x1 ≤ 24 ∧ -1 ≤ (dsN a b w h k).y1 ∧ (dsN a b w h k).y1 ≤ k
  | 0 => by simp only [dsN]; omega
  | k + 1 => by
    have := dsN_bd (a := a) (b := b) hw hw2 hh hh2 k
    have := tdm hw hw2 k
    simp only [dsN]
    split
    · omega
    · simp only [dsStep]
      repeat' split
      all_goals omega
theorem tdiv_mono {w : Int} (hw : 1 ≤ w) (k : Nat) : (k : Int).tdiv w ≤ ((k + 1 : Nat) : Int).tdiv w := by
  have e1 : (k : Int).tdiv w = k / w := Int.tdiv_eq_ediv_of_nonneg (by omega)
  have e2 : ((k + 1 : Nat) : Int).tdiv w = ((k + 1 : Nat) : Int) / w := Int.tdiv_eq_ediv_of_nonneg (by omega)
  rw [e1, e2]
  exact Int.ediv_le_ediv (by omega) (by omega)
theorem dsN_y1 {a b : List Int} {w h : Int} (hw : 1 ≤ w) : ∀ k : Nat, (dsN a b w h k).y1 ≤ (k : Int).tdiv w
  | 0 => by simp [dsN]
  | k + 1 => by
    have h1 := dsN_y1 (a := a) (b := b) (h := h) hw k
    have h2 := tdiv_mono hw k
    simp only [dsN]
    split
    · omega
    · simp only [dsStep]
      split <;> omega
def dsEnd (s : DS) : GDiff := ⟨s.n, s.f, if s.n > 0 then ⟨s.x0, s.y0, s.x1 - s.x0 + 1, s.y1 - s.y0 + 1⟩ else ⟨0, 0, 0, 0⟩⟩
def dsBad (a b : GSheet) : Bool := !goodSheet a || (!goodSheet b || (a.Wide != b.Wide || a.High != b.High))
def diffS (a b : GSheet) : GDiff := if dsBad a b = true then ⟨0, 0, ⟨0, 0, 0, 0⟩⟩ else dsEnd (dsN a.Pixels b.Pixels a.Wide a.High a.Pixels.length)
theorem goodSheet_bd {s : GSheet} (h : goodSheet s = true) : 1 ≤ s.Wide ∧ s.Wide ≤ 24 ∧ 1 ≤ s.High ∧ s.High ≤ 24 ∧ (s.Pixels.length : Int) = s.Wide * s.High ∧ s.Pixels.length ≤ 576 := by
  simp only [goodSheet, rng, Bool.and_eq_true, decide_eq_true_eq, beq_iff_eq] at h
  obtain ⟨h1, h2, h3, _⟩ := h
  have h4 : s.Wide * s.High ≤ 24 * 24 := Int.mul_le_mul h1.2 h2.2 (by omega) (by omega)
  have h5 : 0 ≤ s.Wide * s.High := Int.mul_nonneg (by omega) (by omega)
  rw [wI _ (by omega) (by omega)] at h3
  omega
theorem dsGood {a b : GSheet} (h : dsBad a b = false) : goodSheet a = true ∧ goodSheet b = true ∧ a.Wide = b.Wide ∧ a.High = b.High ∧ a.Pixels.length = b.Pixels.length := by
  simp only [dsBad, Bool.or_eq_false_iff, Bool.not_eq_false', bne_eq_false_iff_eq] at h
  obtain ⟨h1, h2, h3, h4⟩ := h
  have g1 := (goodSheet_bd h1).2.2.2.2.1
  have g2 := (goodSheet_bd h2).2.2.2.2.1
  rw [← h3, ← h4] at g2
  exact ⟨h1, h2, h3, h4, by omega⟩
theorem implDiffSheets_does (a b : GSheet) (ha : a.Pixels.length ≤ 9223372036854775807) (hb : b.Pixels.length ≤ 9223372036854775807) : Does Try.prog 31 [.agg (eSheet a), .agg (eSheet b)] (.tup [.agg (eDiff (diffS a b)), B (!dsBad a b)]) := by
  refine Does.walk (nt := 104) Try.func31 rfl rfl (by simp) (by decide) rfl (fun G0 X w0 pv => ?_)
  have ff := And.intro @eSheet_eq (And.intro @Ty.sl22 (And.intro @Ty.slz22 (And.intro @Ty.ldA51 (And.intro @Ty.sz51 (And.intro @Ty.szn51 (And.intro @Ty.ldA3 (And.intro @Ty.ldS3 (And.intro @Ty.sz3 (And.intro @Ty.szn3 (And.intro @Ty.ldA48 (And.intro @Ty.sz48 (And.intro @Ty.szn48 (And.intro @Ty.ldA22 (And.intro @Ty.ldS22 (And.intro @Ty.sz22 (And.intro @Ty.szn22 (And.intro @Ty.ldA46 (And.intro @Ty.sz46 (And.intro @Ty.szn46 (And.intro @Ty.fo51_0 (And.intro @Ty.fk51_0 (And.intro @Ty.fs51_0 (And.intro @Ty.fn51_0 (And.intro @Ty.fo51_1 (And.intro @Ty.fk51_1 (And.intro @Ty.fs51_1 (And.intro @Ty.fn51_1 (And.intro @Ty.fo51_2 (And.intro @Ty.fk51_2 (And.intro @Ty.fs51_2 (And.intro @Ty.fn51_2 (And.intro @Ty.fo48_0 (And.intro @Ty.fk48_0 (And.intro @Ty.fs48_0 (And.intro @Ty.fn48_0 (And.intro @Ty.fo48_1 (And.intro @Ty.fk48_1 (And.intro @Ty.fs48_1 (And.intro @Ty.fn48_1 (And.intro @Ty.fo48_2 (And.intro @Ty.fk48_2 (And.intro @Ty.fn48_2 (And.intro @Ty.zv48 (And.intro @Ty.bd48 (And.intro @Ty.pl48_1 (And.intro @Ty.bd46 (And.intro @Ty.zv46 (And.intro @Ty.pl46_0 (And.intro @Ty.pl46_1 (And.intro @Ty.pl46_2 (And.intro @Ty.pl46_3 @Ty.ag48)))))))))))))))))))))))))))))))))))))))))))))))))))
  try refine st_by ff ?_
  repeat' (first
    | exact trivial
    | (refine And.intro ?_ ?_; · (try clear ff; first | omega | rfl | decide))
    | (refine ret_q2 rfl ?_; (try refine sr_by ff ?_); all_goals (try clear ff); all_goals (try exact trivial); all_goals ((have hbad : dsBad a b = true := by simp_all [dsBad]); simp [diffS, hbad, eDiff]))
    | (refine cq_call (implGoodSheet_does a ha) ?_ ?_ ⟨?_, ?_⟩; (· first | rfl | exact cl_by ff); (· first | assumption | kernel_rfl); (· first | exact ca_by ff | (refine sa_by ff ?_; try clear ff; first | exact trivial | omega | rfl | decide)); refine st_by ff ?_)
    | (refine cq_dcall (implGoodSheet_does a ha) ?_ ?_ ⟨?_, ?_⟩; (· first | rfl | exact cl_by ff); (· first | assumption | kernel_rfl); (· first | exact ca_by ff | (refine sa_by ff ?_; try clear ff; first | exact trivial | omega | rfl | decide)); refine st_by ff ?_)
    | (refine cq_call (implGoodSheet_does b hb) ?_ ?_ ⟨?_, ?_⟩; (· first | rfl | exact cl_by ff); (· first | assumption | kernel_rfl); (· first | exact ca_by ff | (refine sa_by ff ?_; try clear ff; first | exact trivial | omega | rfl | decide)); refine st_by ff ?_)
    | (refine cq_dcall (implGoodSheet_does b hb) ?_ ?_ ⟨?_, ?_⟩; (· first | rfl | exact cl_by ff); (· first | assumption | kernel_rfl); (· first | exact ca_by ff | (refine sa_by ff ?_; try clear ff; first | exact trivial | omega | rfl | decide)); refine st_by ff ?_)
    | (refine aw_drawn (id := 4) ?_ [[], [0], [], [2], [0, 1], [0, 1, 2, 3, 4], [0, 1, 2, 3, 4, 5], [0, 1, 2, 3, 4, 5, 6]] 5 ?_ ?_; (· kernel_rfl); (· kernel_rfl); refine st_by ff ?_)
    | (refine aw_drawn (id := 12) ?_ [[], [], [1], [0, 1, 2], [], [], [5], [4, 5, 6], [0, 1, 2, 3], [0, 1, 2, 3, 4, 5, 6, 7, 8]] 9 ?_ ?_; (· kernel_rfl); (· kernel_rfl); refine st_by ff ?_)
    | (with_reducible refine CBC_eq (fun hp hd => ?_) (fun hp hd => ?_) <;> refine st_by (And.intro hd ff) ?_)
    | (with_reducible refine CBC_ne (fun hp hd => ?_) (fun hp hd => ?_) <;> refine st_by (And.intro hd ff) ?_)
    | (with_reducible refine CBC_decT ?_ (fun hd => ?_); (· try clear ff; first | assumption | omega); refine st_by (And.intro hd ff) ?_)
    | (with_reducible refine CBC_decF ?_ (fun hd => ?_); (· try clear ff; first | assumption | omega); refine st_by (And.intro hd ff) ?_)
    | (with_reducible refine CBC_dec (fun hp hd => ?_) (fun hp hd => ?_) <;> refine st_by (And.intro hd ff) ?_)
    | (refine CBC_bool (fun hd => ?_) (fun hd => ?_) <;> refine st_by (And.intro hd ff) ?_)
    | (with_reducible refine GQ_eq (fun hp hd => ?_) (fun hp hd => ?_) <;> refine st_by (And.intro hd ff) ?_)
    | (with_reducible refine GQ_ne (fun hp hd => ?_) (fun hp hd => ?_) <;> refine st_by (And.intro hd ff) ?_)
    | (with_reducible refine GQ_decT ?_ (fun hd => ?_); (· try clear ff; first | assumption | omega); refine st_by (And.intro hd ff) ?_)
    | (with_reducible refine GQ_decF ?_ (fun hd => ?_); (· try clear ff; first | assumption | omega); refine st_by (And.intro hd ff) ?_)
    | (with_reducible refine GQ_dec (fun hp hd => ?_) (fun hp hd => ?_) <;> refine st_by (And.intro hd ff) ?_)
    | (with_reducible refine GQ_ndT ?_ (fun hd => ?_); (· try clear ff; first | assumption | omega); refine st_by (And.intro hd ff) ?_)
    | (with_reducible refine GQ_ndF ?_ (fun hd => ?_); (· try clear ff; first | assumption | omega); refine st_by (And.intro hd ff) ?_)
    | (with_reducible refine GQ_nd (fun hp hd => ?_) (fun hp hd => ?_) <;> refine st_by (And.intro hd ff) ?_)
    | (refine GQ_nb (fun hd => ?_) (fun hd => ?_) <;> refine st_by (And.intro hd ff) ?_)
    | (refine GQ_bool (fun hd => ?_) (fun hd => ?_) <;> refine st_by (And.intro hd ff) ?_)
    | (with_reducible refine GD_eq (fun hp hd => ?_) (fun hp hd => ?_) <;> refine st_by (And.intro hd ff) ?_)
    | (with_reducible refine GD_ne (fun hp hd => ?_) (fun hp hd => ?_) <;> refine st_by (And.intro hd ff) ?_)
    | (with_reducible refine GD_decT ?_ (fun hd => ?_); (· try clear ff; first | assumption | omega); refine st_by (And.intro hd ff) ?_)
    | (with_reducible refine GD_decF ?_ (fun hd => ?_); (· try clear ff; first | assumption | omega); refine st_by (And.intro hd ff) ?_)
    | (with_reducible refine GD_dec (fun hp hd => ?_) (fun hp hd => ?_) <;> refine st_by (And.intro hd ff) ?_)
    | (with_reducible refine GD_ndT ?_ (fun hd => ?_); (· try clear ff; first | assumption | omega); refine st_by (And.intro hd ff) ?_)
    | (with_reducible refine GD_ndF ?_ (fun hd => ?_); (· try clear ff; first | assumption | omega); refine st_by (And.intro hd ff) ?_)
    | (with_reducible refine GD_nd (fun hp hd => ?_) (fun hp hd => ?_) <;> refine st_by (And.intro hd ff) ?_)
    | (refine GD_nb (fun hd => ?_) (fun hd => ?_) <;> refine st_by (And.intro hd ff) ?_)
    | (refine GD_bool (fun hd => ?_) (fun hd => ?_) <;> refine st_by (And.intro hd ff) ?_))
  all_goals try clear ff
  have hbad : dsBad a b = false := by simp_all [dsBad]
  clear hp hd
  obtain ⟨q1, q2, q3, q4, q5⟩ := dsGood hbad
  obtain ⟨b1, b2, b3, b4, b5, b6⟩ := goodSheet_bd q1
  have hres : diffS a b = dsEnd (dsN a.Pixels b.Pixels a.Wide a.High a.Pixels.length) := by simp [diffS, hbad]
  rw [hres, hbad]
  refine aw_loop (ι := Nat) (fun i σ => i ≤ a.Pixels.length ∧ σ.t 2 = .ptr 2 [] 0 ∧ σ.m 2 = some (.box true (eSheet a)) ∧ σ.t 3 = .ptr 3 [] 0 ∧ σ.m 3 = some (.box true (eSheet b)) ∧ σ.t 4 = .ptr 4 [] 0 ∧ σ.m 4 = some (.box true [I 0, I 0, I 0, I 0, I 0, I 0]) ∧
    σ.t 6 = .ptr 6 [] 0 ∧ σ.m 6 = some (.box true [I (dsN a.Pixels b.Pixels a.Wide a.High i).n, I (dsN a.Pixels b.Pixels a.Wide a.High i).f, I 0, I 0, I 0, I 0]) ∧ σ.t 44 = .row false 1 a.Pixels.length (esInt a.Pixels) ∧ σ.t 45 = I a.Pixels.length ∧ σ.t 46 = I i ∧
    σ.t 7 = I (dsN a.Pixels b.Pixels a.Wide a.High i).x0 ∧ σ.t 8 = I (dsN a.Pixels b.Pixels a.Wide a.High i).y0 ∧ σ.t 9 = I (dsN a.Pixels b.Pixels a.Wide a.High i).x1 ∧ σ.t 10 = I (dsN a.Pixels b.Pixels a.Wide a.High i).y1) (fun i => a.Pixels.length - i) 0 ?_ ?_
  · (first | exact cl_by @eSheet_eq | refine st_by @eSheet_eq ?_)
    simp [dsN]
  · rintro i σ ⟨h2, g2, m2, g3, m3, g4, m4, g6, m6, g44, g45, g46, g7, g8, g9, g10⟩
    have hbd := dsN_bd (a := a.Pixels) (b := b.Pixels) b1 b2 b3 b4 i
    by_cases hi : i < a.Pixels.length
    · have hi' : i < b.Pixels.length := by omega
      have w2 : IntKind.i64.wrap ((i : Int) + 1) = ((i + 1 : Nat) : Int) := wI _ (by omega) (by omega)
      have hdm := tdm b1 b2 i
      have hsame : a.Pixels[i] = b.Pixels[i] → dsN a.Pixels b.Pixels a.Wide a.High (i + 1) = dsN a.Pixels b.Pixels a.Wide a.High i := fun h => by
        simp only [dsN, List.getD, List.getElem?_eq_getElem hi, List.getElem?_eq_getElem hi', Option.getD_some, h, if_true]
      have hdif : ¬ a.Pixels[i] = b.Pixels[i] → dsN a.Pixels b.Pixels a.Wide a.High (i + 1) = dsStep a.Wide i (dsN a.Pixels b.Pixels a.Wide a.High i) := fun h => by
        simp only [dsN, List.getD, List.getElem?_eq_getElem hi, List.getElem?_eq_getElem hi', Option.getD_some, h, if_false]
      have wq : IntKind.i64.wrap ((i : Int).tdiv a.Wide) = (i : Int).tdiv a.Wide := wI _ (by omega) (by omega)
      have wn : IntKind.i64.wrap ((dsN a.Pixels b.Pixels a.Wide a.High i).n + 1) = (dsN a.Pixels b.Pixels a.Wide a.High i).n + 1 := wI _ (by omega) (by omega)
      generalize dsN a.Pixels b.Pixels a.Wide a.High i = d at *
      have ff := And.intro @g2 (And.intro @m2 (And.intro @g3 (And.intro @m3 (And.intro @g4 (And.intro @m4 (And.intro @g6 (And.intro @m6 (And.intro @g44 (And.intro @g45 (And.intro @g46 (And.intro @g7 (And.intro @g8 (And.intro @g9 (And.intro @g10 (And.intro @w2 (And.intro @wq (And.intro @wn (And.intro @hi (And.intro @hi' (And.intro @eSheet_eq (And.intro ((esInt_drop a.Pixels i hi)) (And.intro ((esInt_drop1 a.Pixels i hi)) (And.intro ((esInt_drop b.Pixels i hi')) (And.intro ((esInt_drop1 b.Pixels i hi')) (And.intro @esInt_len (And.intro @eInt_eq (And.intro @Ty.sl22 (And.intro @Ty.slz22 (And.intro @Ty.ldA51 (And.intro @Ty.sz51 (And.intro @Ty.szn51 (And.intro @Ty.ldA3 (And.intro @Ty.ldS3 (And.intro @Ty.sz3 (And.intro @Ty.szn3 (And.intro @Ty.ldA48 (And.intro @Ty.sz48 (And.intro @Ty.szn48 (And.intro @Ty.ldA22 (And.intro @Ty.ldS22 (And.intro @Ty.sz22 (And.intro @Ty.szn22 (And.intro @Ty.ldA46 (And.intro @Ty.sz46 (And.intro @Ty.szn46 (And.intro @Ty.fo51_0 (And.intro @Ty.fk51_0 (And.intro @Ty.fs51_0 (And.intro @Ty.fn51_0 (And.intro @Ty.fo51_1 (And.intro @Ty.fk51_1 (And.intro @Ty.fs51_1 (And.intro @Ty.fn51_1 (And.intro @Ty.fo51_2 (And.intro @Ty.fk51_2 (And.intro @Ty.fs51_2 (And.intro @Ty.fn51_2 (And.intro @Ty.fo48_0 (And.intro @Ty.fk48_0 (And.intro @Ty.fs48_0 (And.intro @Ty.fn48_0 (And.intro @Ty.fo48_1 (And.intro @Ty.fk48_1 (And.intro @Ty.fs48_1 (And.intro @Ty.fn48_1 (And.intro @Ty.fo48_2 (And.intro @Ty.fk48_2 (And.intro @Ty.fn48_2 (And.intro @Ty.zv48 (And.intro @Ty.bd48 (And.intro @Ty.pl48_1 (And.intro @Ty.bd46 (And.intro @Ty.zv46 (And.intro @Ty.pl46_0 (And.intro @Ty.pl46_1 (And.intro @Ty.pl46_2 (And.intro @Ty.pl46_3 @Ty.ag48)))))))))))))))))))))))))))))))))))))))))))))))))))))))))))))))))))))))))))))
      try refine st_by ff ?_
      repeat' (first
        | exact trivial
        | (refine And.intro ?_ ?_; · (try clear ff; first | omega | (simp [esInt_len]; omega) | decide | rfl))
        | (refine ret_q2 rfl ?_; (try refine sr_by ff ?_); all_goals (try clear ff); all_goals (try exact trivial); all_goals (skip))
        | (refine aw_drawn (id := 4) ?_ [[], [0], [], [2], [0, 1], [0, 1, 2, 3, 4], [0, 1, 2, 3, 4, 5], [0, 1, 2, 3, 4, 5, 6]] 5 ?_ ?_; (· kernel_rfl); (· kernel_rfl); refine st_by ff ?_)
        | (refine aw_drawn (id := 12) ?_ [[], [], [1], [0, 1, 2], [], [], [5], [4, 5, 6], [0, 1, 2, 3], [0, 1, 2, 3, 4, 5, 6, 7, 8]] 9 ?_ ?_; (· kernel_rfl); (· kernel_rfl); refine st_by ff ?_)
        | (with_reducible refine CBC_eq (fun hp hd => ?_) (fun hp hd => ?_) <;> refine st_by (And.intro hd ff) ?_)
        | (with_reducible refine CBC_ne (fun hp hd => ?_) (fun hp hd => ?_) <;> refine st_by (And.intro hd ff) ?_)
        | (with_reducible refine CBC_decT ?_ (fun hd => ?_); (· try clear ff; first | assumption | omega); refine st_by (And.intro hd ff) ?_)
        | (with_reducible refine CBC_decF ?_ (fun hd => ?_); (· try clear ff; first | assumption | omega); refine st_by (And.intro hd ff) ?_)
        | (with_reducible refine CBC_dec (fun hp hd => ?_) (fun hp hd => ?_) <;> refine st_by (And.intro hd ff) ?_)
        | (refine CBC_bool (fun hd => ?_) (fun hd => ?_) <;> refine st_by (And.intro hd ff) ?_)
        | (with_reducible refine GQ_eq (fun hp hd => ?_) (fun hp hd => ?_) <;> refine st_by (And.intro hd ff) ?_)
        | (with_reducible refine GQ_ne (fun hp hd => ?_) (fun hp hd => ?_) <;> refine st_by (And.intro hd ff) ?_)
        | (with_reducible refine GQ_decT ?_ (fun hd => ?_); (· try clear ff; first | assumption | omega); refine st_by (And.intro hd ff) ?_)
        | (with_reducible refine GQ_decF ?_ (fun hd => ?_); (· try clear ff; first | assumption | omega); refine st_by (And.intro hd ff) ?_)
        | (with_reducible refine GQ_dec (fun hp hd => ?_) (fun hp hd => ?_) <;> refine st_by (And.intro hd ff) ?_)
        | (with_reducible refine GQ_ndT ?_ (fun hd => ?_); (· try clear ff; first | assumption | omega); refine st_by (And.intro hd ff) ?_)
        | (with_reducible refine GQ_ndF ?_ (fun hd => ?_); (· try clear ff; first | assumption | omega); refine st_by (And.intro hd ff) ?_)
        | (with_reducible refine GQ_nd (fun hp hd => ?_) (fun hp hd => ?_) <;> refine st_by (And.intro hd ff) ?_)
        | (refine GQ_nb (fun hd => ?_) (fun hd => ?_) <;> refine st_by (And.intro hd ff) ?_)
        | (refine GQ_bool (fun hd => ?_) (fun hd => ?_) <;> refine st_by (And.intro hd ff) ?_)
        | (with_reducible refine GD_eq (fun hp hd => ?_) (fun hp hd => ?_) <;> refine st_by (And.intro hd ff) ?_)
        | (with_reducible refine GD_ne (fun hp hd => ?_) (fun hp hd => ?_) <;> refine st_by (And.intro hd ff) ?_)
        | (with_reducible refine GD_decT ?_ (fun hd => ?_); (· try clear ff; first | assumption | omega); refine st_by (And.intro hd ff) ?_)
        | (with_reducible refine GD_decF ?_ (fun hd => ?_); (· try clear ff; first | assumption | omega); refine st_by (And.intro hd ff) ?_)
        | (with_reducible refine GD_dec (fun hp hd => ?_) (fun hp hd => ?_) <;> refine st_by (And.intro hd ff) ?_)
        | (with_reducible refine GD_ndT ?_ (fun hd => ?_); (· try clear ff; first | assumption | omega); refine st_by (And.intro hd ff) ?_)
        | (with_reducible refine GD_ndF ?_ (fun hd => ?_); (· try clear ff; first | assumption | omega); refine st_by (And.intro hd ff) ?_)
        | (with_reducible refine GD_nd (fun hp hd => ?_) (fun hp hd => ?_) <;> refine st_by (And.intro hd ff) ?_)
        | (refine GD_nb (fun hd => ?_) (fun hd => ?_) <;> refine st_by (And.intro hd ff) ?_)
        | (refine GD_bool (fun hd => ?_) (fun hd => ?_) <;> refine st_by (And.intro hd ff) ?_)
        | (try clear ff; refine ⟨i + 1, ⟨?_, ?_⟩, ?_⟩; (· omega); (· first | (rw [hsame (by assumption)]; simp; done) | (rw [hdif (by assumption)]; simp [dsStep, *]; done)); (· omega)))
      all_goals try clear ff
    · have e1 : i = a.Pixels.length := by omega
      subst e1
      generalize dsN a.Pixels b.Pixels a.Wide a.High a.Pixels.length = d at *
      have wa : IntKind.i64.wrap (d.x1 - d.x0) = d.x1 - d.x0 := wI _ (by omega) (by omega)
      have wb : IntKind.i64.wrap (d.x1 - d.x0 + 1) = d.x1 - d.x0 + 1 := wI _ (by omega) (by omega)
      have wc : IntKind.i64.wrap (d.y1 - d.y0) = d.y1 - d.y0 := wI _ (by omega) (by omega)
      have wd : IntKind.i64.wrap (d.y1 - d.y0 + 1) = d.y1 - d.y0 + 1 := wI _ (by omega) (by omega)
      have ff := And.intro @g2 (And.intro @m2 (And.intro @g3 (And.intro @m3 (And.intro @g4 (And.intro @m4 (And.intro @g6 (And.intro @m6 (And.intro @g44 (And.intro @g45 (And.intro @g46 (And.intro @g7 (And.intro @g8 (And.intro @g9 (And.intro @g10 (And.intro @wa (And.intro @wb (And.intro @wc (And.intro @wd (And.intro @eSheet_eq (And.intro @Ty.sl22 (And.intro @Ty.slz22 (And.intro @Ty.ldA51 (And.intro @Ty.sz51 (And.intro @Ty.szn51 (And.intro @Ty.ldA3 (And.intro @Ty.ldS3 (And.intro @Ty.sz3 (And.intro @Ty.szn3 (And.intro @Ty.ldA48 (And.intro @Ty.sz48 (And.intro @Ty.szn48 (And.intro @Ty.ldA22 (And.intro @Ty.ldS22 (And.intro @Ty.sz22 (And.intro @Ty.szn22 (And.intro @Ty.ldA46 (And.intro @Ty.sz46 (And.intro @Ty.szn46 (And.intro @Ty.fo51_0 (And.intro @Ty.fk51_0 (And.intro @Ty.fs51_0 (And.intro @Ty.fn51_0 (And.intro @Ty.fo51_1 (And.intro @Ty.fk51_1 (And.intro @Ty.fs51_1 (And.intro @Ty.fn51_1 (And.intro @Ty.fo51_2 (And.intro @Ty.fk51_2 (And.intro @Ty.fs51_2 (And.intro @Ty.fn51_2 (And.intro @Ty.fo48_0 (And.intro @Ty.fk48_0 (And.intro @Ty.fs48_0 (And.intro @Ty.fn48_0 (And.intro @Ty.fo48_1 (And.intro @Ty.fk48_1 (And.intro @Ty.fs48_1 (And.intro @Ty.fn48_1 (And.intro @Ty.fo48_2 (And.intro @Ty.fk48_2 (And.intro @Ty.fn48_2 (And.intro @Ty.zv48 (And.intro @Ty.bd48 (And.intro @Ty.pl48_1 (And.intro @Ty.bd46 (And.intro @Ty.zv46 (And.intro @Ty.pl46_0 (And.intro @Ty.pl46_1 (And.intro @Ty.pl46_2 (And.intro @Ty.pl46_3 @Ty.ag48))))))))))))))))))))))))))))))))))))))))))))))))))))))))))))))))))))))
      try refine st_by ff ?_
      repeat' (first
        | exact trivial
        | (refine And.intro ?_ ?_; · (try clear ff; first | omega | decide | rfl))
        | (refine ret_q2 rfl ?_; (try refine sr_by ff ?_); all_goals (try clear ff); all_goals (try exact trivial); all_goals (simp [dsEnd, eDiff, *]))
        | (refine aw_drawn (id := 4) ?_ [[], [0], [], [2], [0, 1], [0, 1, 2, 3, 4], [0, 1, 2, 3, 4, 5], [0, 1, 2, 3, 4, 5, 6]] 5 ?_ ?_; (· kernel_rfl); (· kernel_rfl); refine st_by ff ?_)
        | (refine aw_drawn (id := 12) ?_ [[], [], [1], [0, 1, 2], [], [], [5], [4, 5, 6], [0, 1, 2, 3], [0, 1, 2, 3, 4, 5, 6, 7, 8]] 9 ?_ ?_; (· kernel_rfl); (· kernel_rfl); refine st_by ff ?_)
        | (with_reducible refine CBC_eq (fun hp hd => ?_) (fun hp hd => ?_) <;> refine st_by (And.intro hd ff) ?_)
        | (with_reducible refine CBC_ne (fun hp hd => ?_) (fun hp hd => ?_) <;> refine st_by (And.intro hd ff) ?_)
        | (with_reducible refine CBC_decT ?_ (fun hd => ?_); (· try clear ff; first | assumption | omega); refine st_by (And.intro hd ff) ?_)
        | (with_reducible refine CBC_decF ?_ (fun hd => ?_); (· try clear ff; first | assumption | omega); refine st_by (And.intro hd ff) ?_)
        | (with_reducible refine CBC_dec (fun hp hd => ?_) (fun hp hd => ?_) <;> refine st_by (And.intro hd ff) ?_)
        | (refine CBC_bool (fun hd => ?_) (fun hd => ?_) <;> refine st_by (And.intro hd ff) ?_)
        | (with_reducible refine GQ_eq (fun hp hd => ?_) (fun hp hd => ?_) <;> refine st_by (And.intro hd ff) ?_)
        | (with_reducible refine GQ_ne (fun hp hd => ?_) (fun hp hd => ?_) <;> refine st_by (And.intro hd ff) ?_)
        | (with_reducible refine GQ_decT ?_ (fun hd => ?_); (· try clear ff; first | assumption | omega); refine st_by (And.intro hd ff) ?_)
        | (with_reducible refine GQ_decF ?_ (fun hd => ?_); (· try clear ff; first | assumption | omega); refine st_by (And.intro hd ff) ?_)
        | (with_reducible refine GQ_dec (fun hp hd => ?_) (fun hp hd => ?_) <;> refine st_by (And.intro hd ff) ?_)
        | (with_reducible refine GQ_ndT ?_ (fun hd => ?_); (· try clear ff; first | assumption | omega); refine st_by (And.intro hd ff) ?_)
        | (with_reducible refine GQ_ndF ?_ (fun hd => ?_); (· try clear ff; first | assumption | omega); refine st_by (And.intro hd ff) ?_)
        | (with_reducible refine GQ_nd (fun hp hd => ?_) (fun hp hd => ?_) <;> refine st_by (And.intro hd ff) ?_)
        | (refine GQ_nb (fun hd => ?_) (fun hd => ?_) <;> refine st_by (And.intro hd ff) ?_)
        | (refine GQ_bool (fun hd => ?_) (fun hd => ?_) <;> refine st_by (And.intro hd ff) ?_)
        | (with_reducible refine GD_eq (fun hp hd => ?_) (fun hp hd => ?_) <;> refine st_by (And.intro hd ff) ?_)
        | (with_reducible refine GD_ne (fun hp hd => ?_) (fun hp hd => ?_) <;> refine st_by (And.intro hd ff) ?_)
        | (with_reducible refine GD_decT ?_ (fun hd => ?_); (· try clear ff; first | assumption | omega); refine st_by (And.intro hd ff) ?_)
        | (with_reducible refine GD_decF ?_ (fun hd => ?_); (· try clear ff; first | assumption | omega); refine st_by (And.intro hd ff) ?_)
        | (with_reducible refine GD_dec (fun hp hd => ?_) (fun hp hd => ?_) <;> refine st_by (And.intro hd ff) ?_)
        | (with_reducible refine GD_ndT ?_ (fun hd => ?_); (· try clear ff; first | assumption | omega); refine st_by (And.intro hd ff) ?_)
        | (with_reducible refine GD_ndF ?_ (fun hd => ?_); (· try clear ff; first | assumption | omega); refine st_by (And.intro hd ff) ?_)
        | (with_reducible refine GD_nd (fun hp hd => ?_) (fun hp hd => ?_) <;> refine st_by (And.intro hd ff) ?_)
        | (refine GD_nb (fun hd => ?_) (fun hd => ?_) <;> refine st_by (And.intro hd ff) ?_)
        | (refine GD_bool (fun hd => ?_) (fun hd => ?_) <;> refine st_by (And.intro hd ff) ?_))
      all_goals try clear ff
theorem specDiffSheets_does (a b : GSheet) (ha : a.Pixels.length ≤ 9223372036854775807) (hb : b.Pixels.length ≤ 9223372036854775807) : Does Try.prog 29 [.agg (eSheet a), .agg (eSheet b)] (.tup [.agg (eDiff (diffS a b)), B (!dsBad a b)]) := by
  refine Does.walk (nt := 105) Try.func29 rfl rfl (by simp) (by decide) rfl (fun G0 X w0 pv => ?_)
  have ff := And.intro @eSheet_eq (And.intro @Ty.sl22 (And.intro @Ty.slz22 (And.intro @Ty.ldA51 (And.intro @Ty.sz51 (And.intro @Ty.szn51 (And.intro @Ty.ldA3 (And.intro @Ty.ldS3 (And.intro @Ty.sz3 (And.intro @Ty.szn3 (And.intro @Ty.ldA48 (And.intro @Ty.sz48 (And.intro @Ty.szn48 (And.intro @Ty.ldA22 (And.intro @Ty.ldS22 (And.intro @Ty.sz22 (And.intro @Ty.szn22 (And.intro @Ty.ldA46 (And.intro @Ty.sz46 (And.intro @Ty.szn46 (And.intro @Ty.fo51_0 (And.intro @Ty.fk51_0 (And.intro @Ty.fs51_0 (And.intro @Ty.fn51_0 (And.intro @Ty.fo51_1 (And.intro @Ty.fk51_1 (And.intro @Ty.fs51_1 (And.intro @Ty.fn51_1 (And.intro @Ty.fo51_2 (And.intro @Ty.fk51_2 (And.intro @Ty.fs51_2 (And.intro @Ty.fn51_2 (And.intro @Ty.fo48_0 (And.intro @Ty.fk48_0 (And.intro @Ty.fs48_0 (And.intro @Ty.fn48_0 (And.intro @Ty.fo48_1 (And.intro @Ty.fk48_1 (And.intro @Ty.fs48_1 (And.intro @Ty.fn48_1 (And.intro @Ty.fo48_2 (And.intro @Ty.fk48_2 (And.intro @Ty.fn48_2 (And.intro @Ty.zv48 (And.intro @Ty.bd48 (And.intro @Ty.pl48_1 (And.intro @Ty.bd46 (And.intro @Ty.zv46 (And.intro @Ty.pl46_0 (And.intro @Ty.pl46_1 (And.intro @Ty.pl46_2 (And.intro @Ty.pl46_3 @Ty.ag48)))))))))))))))))))))))))))))))))))))))))))))))))))
  try refine st_by ff ?_
  repeat' (first
    | exact trivial
    | (refine And.intro ?_ ?_; · (try clear ff; first | omega | rfl | decide))
    | (refine ret_q2 rfl ?_; (try refine sr_by ff ?_); all_goals (try clear ff); all_goals (try exact trivial); all_goals ((have hbad : dsBad a b = true := by simp_all [dsBad]); simp [diffS, hbad, eDiff]))
    | (refine cq_call (specGoodSheet_does a ha) ?_ ?_ ⟨?_, ?_⟩; (· first | rfl | exact cl_by ff); (· first | assumption | kernel_rfl); (· first | exact ca_by ff | (refine sa_by ff ?_; try clear ff; first | exact trivial | omega | rfl | decide)); refine st_by ff ?_)
    | (refine cq_call (specGoodSheet_does b hb) ?_ ?_ ⟨?_, ?_⟩; (· first | rfl | exact cl_by ff); (· first | assumption | kernel_rfl); (· first | exact ca_by ff | (refine sa_by ff ?_; try clear ff; first | exact trivial | omega | rfl | decide)); refine st_by ff ?_)
    | (with_reducible refine CBC_eq (fun hp hd => ?_) (fun hp hd => ?_) <;> refine st_by (And.intro hd ff) ?_)
    | (with_reducible refine CBC_ne (fun hp hd => ?_) (fun hp hd => ?_) <;> refine st_by (And.intro hd ff) ?_)
    | (with_reducible refine CBC_decT ?_ (fun hd => ?_); (· try clear ff; first | assumption | omega); refine st_by (And.intro hd ff) ?_)
    | (with_reducible refine CBC_decF ?_ (fun hd => ?_); (· try clear ff; first | assumption | omega); refine st_by (And.intro hd ff) ?_)
    | (with_reducible refine CBC_dec (fun hp hd => ?_) (fun hp hd => ?_) <;> refine st_by (And.intro hd ff) ?_)
    | (refine CBC_bool (fun hd => ?_) (fun hd => ?_) <;> refine st_by (And.intro hd ff) ?_)
    | (with_reducible refine GQ_eq (fun hp hd => ?_) (fun hp hd => ?_) <;> refine st_by (And.intro hd ff) ?_)
    | (with_reducible refine GQ_ne (fun hp hd => ?_) (fun hp hd => ?_) <;> refine st_by (And.intro hd ff) ?_)
    | (with_reducible refine GQ_decT ?_ (fun hd => ?_); (· try clear ff; first | assumption | omega); refine st_by (And.intro hd ff) ?_)
    | (with_reducible refine GQ_decF ?_ (fun hd => ?_); (· try clear ff; first | assumption | omega); refine st_by (And.intro hd ff) ?_)
    | (with_reducible refine GQ_dec (fun hp hd => ?_) (fun hp hd => ?_) <;> refine st_by (And.intro hd ff) ?_)
    | (with_reducible refine GQ_ndT ?_ (fun hd => ?_); (· try clear ff; first | assumption | omega); refine st_by (And.intro hd ff) ?_)
    | (with_reducible refine GQ_ndF ?_ (fun hd => ?_); (· try clear ff; first | assumption | omega); refine st_by (And.intro hd ff) ?_)
    | (with_reducible refine GQ_nd (fun hp hd => ?_) (fun hp hd => ?_) <;> refine st_by (And.intro hd ff) ?_)
    | (refine GQ_nb (fun hd => ?_) (fun hd => ?_) <;> refine st_by (And.intro hd ff) ?_)
    | (refine GQ_bool (fun hd => ?_) (fun hd => ?_) <;> refine st_by (And.intro hd ff) ?_))
  all_goals try clear ff
  have hbad : dsBad a b = false := by simp_all [dsBad]
  clear hp hd
  obtain ⟨q1, q2, q3, q4, q5⟩ := dsGood hbad
  obtain ⟨b1, b2, b3, b4, b5, b6⟩ := goodSheet_bd q1
  have hres : diffS a b = dsEnd (dsN a.Pixels b.Pixels a.Wide a.High a.Pixels.length) := by simp [diffS, hbad]
  rw [hres, hbad]
  refine aw_loop (ι := Nat) (fun i σ => i ≤ a.Pixels.length ∧ σ.t 2 = .ptr 2 [] 0 ∧ σ.m 2 = some (.box true (eSheet a)) ∧ σ.t 3 = .ptr 3 [] 0 ∧ σ.m 3 = some (.box true (eSheet b)) ∧ σ.t 4 = .ptr 4 [] 0 ∧ σ.m 4 = some (.box true [I 0, I 0, I 0, I 0, I 0, I 0]) ∧
    σ.t 6 = .ptr 6 [] 0 ∧ σ.m 6 = some (.box true [I (dsN a.Pixels b.Pixels a.Wide a.High i).n, I (dsN a.Pixels b.Pixels a.Wide a.High i).f, I 0, I 0, I 0, I 0]) ∧ σ.t 44 = .row false 1 a.Pixels.length (esInt a.Pixels) ∧ σ.t 45 = I a.Pixels.length ∧ σ.t 46 = I i ∧
    σ.t 7 = I (dsN a.Pixels b.Pixels a.Wide a.High i).x0 ∧ σ.t 8 = I (dsN a.Pixels b.Pixels a.Wide a.High i).y0 ∧ σ.t 9 = I (dsN a.Pixels b.Pixels a.Wide a.High i).x1 ∧ σ.t 10 = I (dsN a.Pixels b.Pixels a.Wide a.High i).y1) (fun i => a.Pixels.length - i) 0 ?_ ?_
  · (first | exact cl_by @eSheet_eq | refine st_by @eSheet_eq ?_)
    simp [dsN]
  · rintro i σ ⟨h2, g2, m2, g3, m3, g4, m4, g6, m6, g44, g45, g46, g7, g8, g9, g10⟩
    have hbd := dsN_bd (a := a.Pixels) (b := b.Pixels) b1 b2 b3 b4 i
    by_cases hi : i < a.Pixels.length
    · have hi' : i < b.Pixels.length := by omega
      have w2 : IntKind.i64.wrap ((i : Int) + 1) = ((i + 1 : Nat) : Int) := wI _ (by omega) (by omega)
      have hdm := tdm b1 b2 i
      have hsame : a.Pixels[i] = b.Pixels[i] → dsN a.Pixels b.Pixels a.Wide a.High (i + 1) = dsN a.Pixels b.Pixels a.Wide a.High i := fun h => by
        simp only [dsN, List.getD, List.getElem?_eq_getElem hi, List.getElem?_eq_getElem hi', Option.getD_some, h, if_true]
      have hdif : ¬ a.Pixels[i] = b.Pixels[i] → dsN a.Pixels b.Pixels a.Wide a.High (i + 1) = dsStep a.Wide i (dsN a.Pixels b.Pixels a.Wide a.High i) := fun h => by
        simp only [dsN, List.getD, List.getElem?_eq_getElem hi, List.getElem?_eq_getElem hi', Option.getD_some, h, if_false]
      have hy1 := dsN_y1 (a := a.Pixels) (b := b.Pixels) (h := a.High) b1 i
      have wq : IntKind.i64.wrap ((i : Int).tdiv a.Wide) = (i : Int).tdiv a.Wide := wI _ (by omega) (by omega)
      have wn : IntKind.i64.wrap ((dsN a.Pixels b.Pixels a.Wide a.High i).n + 1) = (dsN a.Pixels b.Pixels a.Wide a.High i).n + 1 := wI _ (by omega) (by omega)
      generalize dsN a.Pixels b.Pixels a.Wide a.High i = d at *
      simp only [dsStep] at hdif
      obtain ⟨x, hx⟩ : ∃ x, (i : Int).tmod a.Wide = x := ⟨_, rfl⟩
      obtain ⟨y, hy⟩ : ∃ y, (i : Int).tdiv a.Wide = y := ⟨_, rfl⟩
      rw [hx] at hdif hdm
      rw [hy] at hdif hdm wq hy1
      have hy2 : (if y > d.y1 then y else d.y1) = y := by split <;> omega
      rw [hy2] at hdif
      have ff := And.intro @g2 (And.intro @m2 (And.intro @g3 (And.intro @m3 (And.intro @g4 (And.intro @m4 (And.intro @g6 (And.intro @m6 (And.intro @g44 (And.intro @g45 (And.intro @g46 (And.intro @g7 (And.intro @g8 (And.intro @g9 (And.intro @g10 (And.intro @w2 (And.intro @wq (And.intro @wn (And.intro @hx (And.intro @hy (And.intro @hi (And.intro @hi' (And.intro @eSheet_eq (And.intro ((esInt_drop a.Pixels i hi)) (And.intro ((esInt_drop1 a.Pixels i hi)) (And.intro ((esInt_drop b.Pixels i hi')) (And.intro ((esInt_drop1 b.Pixels i hi')) (And.intro @esInt_len (And.intro @eInt_eq (And.intro @Ty.sl22 (And.intro @Ty.slz22 (And.intro @Ty.ldA51 (And.intro @Ty.sz51 (And.intro @Ty.szn51 (And.intro @Ty.ldA3 (And.intro @Ty.ldS3 (And.intro @Ty.sz3 (And.intro @Ty.szn3 (And.intro @Ty.ldA48 (And.intro @Ty.sz48 (And.intro @Ty.szn48 (And.intro @Ty.ldA22 (And.intro @Ty.ldS22 (And.intro @Ty.sz22 (And.intro @Ty.szn22 (And.intro @Ty.ldA46 (And.intro @Ty.sz46 (And.intro @Ty.szn46 (And.intro @Ty.fo51_0 (And.intro @Ty.fk51_0 (And.intro @Ty.fs51_0 (And.intro @Ty.fn51_0 (And.intro @Ty.fo51_1 (And.intro @Ty.fk51_1 (And.intro @Ty.fs51_1 (And.intro @Ty.fn51_1 (And.intro @Ty.fo51_2 (And.intro @Ty.fk51_2 (And.intro @Ty.fs51_2 (And.intro @Ty.fn51_2 (And.intro @Ty.fo48_0 (And.intro @Ty.fk48_0 (And.intro @Ty.fs48_0 (And.intro @Ty.fn48_0 (And.intro @Ty.fo48_1 (And.intro @Ty.fk48_1 (And.intro @Ty.fs48_1 (And.intro @Ty.fn48_1 (And.intro @Ty.fo48_2 (And.intro @Ty.fk48_2 (And.intro @Ty.fn48_2 (And.intro @Ty.zv48 (And.intro @Ty.bd48 (And.intro @Ty.pl48_1 (And.intro @Ty.bd46 (And.intro @Ty.zv46 (And.intro @Ty.pl46_0 (And.intro @Ty.pl46_1 (And.intro @Ty.pl46_2 (And.intro @Ty.pl46_3 @Ty.ag48)))))))))))))))))))))))))))))))))))))))))))))))))))))))))))))))))))))))))))))))
      try refine st_by ff ?_
      repeat' (first
        | exact trivial
        | (refine And.intro ?_ ?_; · (try clear ff; first | omega | (simp [esInt_len]; omega) | decide | rfl))
        | (refine ret_q2 rfl ?_; (try refine sr_by ff ?_); all_goals (try clear ff); all_goals (try exact trivial); all_goals (skip))
        | (with_reducible refine CBC_eq (fun hp hd => ?_) (fun hp hd => ?_) <;> refine st_by (And.intro hd ff) ?_)
        | (with_reducible refine CBC_ne (fun hp hd => ?_) (fun hp hd => ?_) <;> refine st_by (And.intro hd ff) ?_)
        | (with_reducible refine CBC_decT ?_ (fun hd => ?_); (· try clear ff; first | assumption | omega); refine st_by (And.intro hd ff) ?_)
        | (with_reducible refine CBC_decF ?_ (fun hd => ?_); (· try clear ff; first | assumption | omega); refine st_by (And.intro hd ff) ?_)
        | (with_reducible refine CBC_dec (fun hp hd => ?_) (fun hp hd => ?_) <;> refine st_by (And.intro hd ff) ?_)
        | (refine CBC_bool (fun hd => ?_) (fun hd => ?_) <;> refine st_by (And.intro hd ff) ?_)
        | (with_reducible refine GQ_eq (fun hp hd => ?_) (fun hp hd => ?_) <;> refine st_by (And.intro hd ff) ?_)
        | (with_reducible refine GQ_ne (fun hp hd => ?_) (fun hp hd => ?_) <;> refine st_by (And.intro hd ff) ?_)
        | (with_reducible refine GQ_decT ?_ (fun hd => ?_); (· try clear ff; first | assumption | omega); refine st_by (And.intro hd ff) ?_)
        | (with_reducible refine GQ_decF ?_ (fun hd => ?_); (· try clear ff; first | assumption | omega); refine st_by (And.intro hd ff) ?_)
        | (with_reducible refine GQ_dec (fun hp hd => ?_) (fun hp hd => ?_) <;> refine st_by (And.intro hd ff) ?_)
        | (with_reducible refine GQ_ndT ?_ (fun hd => ?_); (· try clear ff; first | assumption | omega); refine st_by (And.intro hd ff) ?_)
        | (with_reducible refine GQ_ndF ?_ (fun hd => ?_); (· try clear ff; first | assumption | omega); refine st_by (And.intro hd ff) ?_)
        | (with_reducible refine GQ_nd (fun hp hd => ?_) (fun hp hd => ?_) <;> refine st_by (And.intro hd ff) ?_)
        | (refine GQ_nb (fun hd => ?_) (fun hd => ?_) <;> refine st_by (And.intro hd ff) ?_)
        | (refine GQ_bool (fun hd => ?_) (fun hd => ?_) <;> refine st_by (And.intro hd ff) ?_)
        | (try clear ff; refine ⟨i + 1, ⟨?_, ?_⟩, ?_⟩; (· omega); (· first | (rw [hsame (by assumption)]; simp; done) | (rw [hdif (by assumption)]; simp [*]; done)); (· omega)))
      all_goals try clear ff
    · have e1 : i = a.Pixels.length := by omega
      subst e1
      generalize dsN a.Pixels b.Pixels a.Wide a.High a.Pixels.length = d at *
      have wa : IntKind.i64.wrap (d.x1 - d.x0) = d.x1 - d.x0 := wI _ (by omega) (by omega)
      have wb : IntKind.i64.wrap (d.x1 - d.x0 + 1) = d.x1 - d.x0 + 1 := wI _ (by omega) (by omega)
      have wc : IntKind.i64.wrap (d.y1 - d.y0) = d.y1 - d.y0 := wI _ (by omega) (by omega)
      have wd : IntKind.i64.wrap (d.y1 - d.y0 + 1) = d.y1 - d.y0 + 1 := wI _ (by omega) (by omega)
      have ff := And.intro @g2 (And.intro @m2 (And.intro @g3 (And.intro @m3 (And.intro @g4 (And.intro @m4 (And.intro @g6 (And.intro @m6 (And.intro @g44 (And.intro @g45 (And.intro @g46 (And.intro @g7 (And.intro @g8 (And.intro @g9 (And.intro @g10 (And.intro @wa (And.intro @wb (And.intro @wc (And.intro @wd (And.intro @eSheet_eq (And.intro @Ty.sl22 (And.intro @Ty.slz22 (And.intro @Ty.ldA51 (And.intro @Ty.sz51 (And.intro @Ty.szn51 (And.intro @Ty.ldA3 (And.intro @Ty.ldS3 (And.intro @Ty.sz3 (And.intro @Ty.szn3 (And.intro @Ty.ldA48 (And.intro @Ty.sz48 (And.intro @Ty.szn48 (And.intro @Ty.ldA22 (And.intro @Ty.ldS22 (And.intro @Ty.sz22 (And.intro @Ty.szn22 (And.intro @Ty.ldA46 (And.intro @Ty.sz46 (And.intro @Ty.szn46 (And.intro @Ty.fo51_0 (And.intro @Ty.fk51_0 (And.intro @Ty.fs51_0 (And.intro @Ty.fn51_0 (And.intro @Ty.fo51_1 (And.intro @Ty.fk51_1 (And.intro @Ty.fs51_1 (And.intro @Ty.fn51_1 (And.intro @Ty.fo51_2 (And.intro @Ty.fk51_2 (And.intro @Ty.fs51_2 (And.intro @Ty.fn51_2 (And.intro @Ty.fo48_0 (And.intro @Ty.fk48_0 (And.intro @Ty.fs48_0 (And.intro @Ty.fn48_0 (And.intro @Ty.fo48_1 (And.intro @Ty.fk48_1 (And.intro @Ty.fs48_1 (And.intro @Ty.fn48_1 (And.intro @Ty.fo48_2 (And.intro @Ty.fk48_2 (And.intro @Ty.fn48_2 (And.intro @Ty.zv48 (And.intro @Ty.bd48 (And.intro @Ty.pl48_1 (And.intro @Ty.bd46 (And.intro @Ty.zv46 (And.intro @Ty.pl46_0 (And.intro @Ty.pl46_1 (And.intro @Ty.pl46_2 (And.intro @Ty.pl46_3 @Ty.ag48))))))))))))))))))))))))))))))))))))))))))))))))))))))))))))))))))))))
      try refine st_by ff ?_
      repeat' (first
        | exact trivial
        | (refine And.intro ?_ ?_; · (try clear ff; first | omega | decide | rfl))
        | (refine ret_q2 rfl ?_; (try refine sr_by ff ?_); all_goals (try clear ff); all_goals (try exact trivial); all_goals (simp [dsEnd, eDiff, *]))
        | (with_reducible refine CBC_eq (fun hp hd => ?_) (fun hp hd => ?_) <;> refine st_by (And.intro hd ff) ?_)
        | (with_reducible refine CBC_ne (fun hp hd => ?_) (fun hp hd => ?_) <;> refine st_by (And.intro hd ff) ?_)
        | (with_reducible refine CBC_decT ?_ (fun hd => ?_); (· try clear ff; first | assumption | omega); refine st_by (And.intro hd ff) ?_)
        | (with_reducible refine CBC_decF ?_ (fun hd => ?_); (· try clear ff; first | assumption | omega); refine st_by (And.intro hd ff) ?_)
        | (with_reducible refine CBC_dec (fun hp hd => ?_) (fun hp hd => ?_) <;> refine st_by (And.intro hd ff) ?_)
        | (refine CBC_bool (fun hd => ?_) (fun hd => ?_) <;> refine st_by (And.intro hd ff) ?_)
        | (with_reducible refine GQ_eq (fun hp hd => ?_) (fun hp hd => ?_) <;> refine st_by (And.intro hd ff) ?_)
        | (with_reducible refine GQ_ne (fun hp hd => ?_) (fun hp hd => ?_) <;> refine st_by (And.intro hd ff) ?_)
        | (with_reducible refine GQ_decT ?_ (fun hd => ?_); (· try clear ff; first | assumption | omega); refine st_by (And.intro hd ff) ?_)
        | (with_reducible refine GQ_decF ?_ (fun hd => ?_); (· try clear ff; first | assumption | omega); refine st_by (And.intro hd ff) ?_)
        | (with_reducible refine GQ_dec (fun hp hd => ?_) (fun hp hd => ?_) <;> refine st_by (And.intro hd ff) ?_)
        | (with_reducible refine GQ_ndT ?_ (fun hd => ?_); (· try clear ff; first | assumption | omega); refine st_by (And.intro hd ff) ?_)
        | (with_reducible refine GQ_ndF ?_ (fun hd => ?_); (· try clear ff; first | assumption | omega); refine st_by (And.intro hd ff) ?_)
        | (with_reducible refine GQ_nd (fun hp hd => ?_) (fun hp hd => ?_) <;> refine st_by (And.intro hd ff) ?_)
        | (refine GQ_nb (fun hd => ?_) (fun hd => ?_) <;> refine st_by (And.intro hd ff) ?_)
        | (refine GQ_bool (fun hd => ?_) (fun hd => ?_) <;> refine st_by (And.intro hd ff) ?_))
      all_goals try clear ff
end Go.Av
