/- Tick27 -/
import Derived.Test.YtnmnkcmogbencaaSLA
set_option linter.unusedSimpArgs false
set_option linter.unusedVariables false
set_option maxRecDepth 100000
namespace Go.Av
open Go.Proofs
/-! Tick27 -/
def wfTick27 (n : Nat) (x : GTick27) : Prop := x.Name.size ≤ n
def szTick27 (x : GTick27) (left : Int) : Int := szStep (left - x.Name.size) fun left => left
theorem szTick27_ok : szOk szTick27 := fun x left h => szStep_le h (by omega) (fun left h => Int.le_refl _)
theorem szTick27_does (x : GTick27) (left : Int) (h0 : 0 ≤ left) (h1 : left ≤ 1048576) (hx : wfTick27 9223372036854775807 x) : Does Try.prog 99 [.agg (eTick27 x), I left] (I (szTick27 x left)) := by
  unfold wfTick27 at hx
  refine Does.walk (nt := 13) Try.func99 rfl rfl (by simp) (by decide) rfl (fun G0 X w0 pv => ?_)
  unfold szTick27
  have hv0 : (left - (x.Name.size : Int) : Int) ≤ left := by omega
  have w0 : IntKind.i64.wrap (left - (x.Name.size : Int)) = left - (x.Name.size : Int) := wI _ (by omega) (by omega)
  have ff := And.intro @eTick27_eq (And.intro @w0 (And.intro @Ty.ldA9 (And.intro @Ty.ldS9 (And.intro @Ty.sz9 (And.intro @Ty.szn9 (And.intro @Ty.fo124_1 (And.intro @Ty.fk124_1 (And.intro @Ty.fs124_1 (And.intro @Ty.fn124_1 @Ty.str9)))))))))
  try refine st_by ff ?_
  repeat' (first
    | exact trivial
    | (refine And.intro ?_ ?_; · (try clear ff; first | omega))
    | (refine ret_q1 rfl ?_; (try refine sr_by ff ?_); all_goals (try clear ff); all_goals (try exact trivial); all_goals ((first | rw [szStep_neg (by assumption)] | rw [szStep_pos (by assumption)])))
    | (with_reducible refine CBC_eq (fun hp hd => ?_) (fun hp hd => ?_) <;> refine st_by (And.intro hd ff) ?_)
    | (with_reducible refine CBC_ne (fun hp hd => ?_) (fun hp hd => ?_) <;> refine st_by (And.intro hd ff) ?_)
    | (with_reducible refine CBC_decT ?_ (fun hd => ?_); (· try clear ff; first | assumption | omega); refine st_by (And.intro hd ff) ?_)
    | (with_reducible refine CBC_decF ?_ (fun hd => ?_); (· try clear ff; first | assumption | omega); refine st_by (And.intro hd ff) ?_)
    | (with_reducible refine CBC_dec (fun hp hd => ?_) (fun hp hd => ?_) <;> refine st_by (And.intro hd ff) ?_)
    | (refine CBC_bool (fun hd => ?_) (fun hd => ?_) <;> refine st_by (And.intro hd ff) ?_)
    | (with_reducible refine GQ_eq (fun hp hd => ?_) (fun hp hd => ?_) <;> refine st_by (And.intro hd ff) ?_)
    | (with_reducible refine GQ_ne (fun hp hd => ?_) (fun hp hd => ?_) <;> refine st_by (And.intro hd ff) ?_)
    | (with_reducible refine GQ_decT ?_ (fun hd => ?_); (· try clear ff; first | assumption | omega); refine st_by (And.intro hd ff) ?_)
    | (with_reducible refine GQ_decF ?_ (fun hd => ?_); (· try clear ff; first | assumption | omega); refine st_by (And.intro hd ff) ?_)
    | (with_reducible refine GQ_dec (fun hp hd => ?_) (fun hp hd => ?_) <;> refine st_by (And.intro hd ff) ?_)
    | (with_reducible refine GQ_ndT ?_ (fun hd => ?_); (· try clear ff; first | assumption | omega); refine st_by (And.intro hd ff) ?_)
    | (with_reducible refine GQ_ndF ?_ (fun hd => ?_); (· try clear ff; first | assumption | omega); refine st_by (And.intro hd ff) ?_)
    | (with_reducible refine GQ_nd (fun hp hd => ?_) (fun hp hd => ?_) <;> refine st_by (And.intro hd ff) ?_)
    | (refine GQ_nb (fun hd => ?_) (fun hd => ?_) <;> refine st_by (And.intro hd ff) ?_)
    | (refine GQ_bool (fun hd => ?_) (fun hd => ?_) <;> refine st_by (And.intro hd ff) ?_))
  all_goals try clear ff
theorem toTick27_does (x : GTick27) : Does Try.prog 100 [.agg (eTick27 x)] (.agg (eTick27 x)) := by
  refine Does.walk (nt := 14) Try.func100 rfl rfl (by simp) (by decide) rfl (fun G0 X w0 pv => ?_)
  have ff := And.intro @eTick27_eq (And.intro @Ty.ldA3 (And.intro @Ty.ldS3 (And.intro @Ty.sz3 (And.intro @Ty.szn3 (And.intro @Ty.ldA9 (And.intro @Ty.ldS9 (And.intro @Ty.sz9 (And.intro @Ty.szn9 (And.intro @Ty.ldA4 (And.intro @Ty.ldS4 (And.intro @Ty.sz4 (And.intro @Ty.szn4 (And.intro @Ty.ldA125 (And.intro @Ty.sz125 (And.intro @Ty.szn125 (And.intro @Ty.fo124_0 (And.intro @Ty.fk124_0 (And.intro @Ty.fs124_0 (And.intro @Ty.fn124_0 (And.intro @Ty.fo125_0 (And.intro @Ty.fk125_0 (And.intro @Ty.fs125_0 (And.intro @Ty.fn125_0 (And.intro @Ty.fo124_1 (And.intro @Ty.fk124_1 (And.intro @Ty.fs124_1 (And.intro @Ty.fn124_1 (And.intro @Ty.fo125_1 (And.intro @Ty.fk125_1 (And.intro @Ty.fs125_1 (And.intro @Ty.fn125_1 (And.intro @Ty.fo124_2 (And.intro @Ty.fk124_2 (And.intro @Ty.fs124_2 (And.intro @Ty.fn124_2 (And.intro @Ty.fo125_2 (And.intro @Ty.fk125_2 (And.intro @Ty.fs125_2 (And.intro @Ty.fn125_2 (And.intro @Ty.zv125 @Ty.ag125))))))))))))))))))))))))))))))))))))))))
  try refine st_by ff ?_
  repeat' (first
    | exact trivial
    | (refine And.intro ?_ ?_; · (try clear ff; first | omega | decide))
    | (refine ret_q1 rfl ?_; (try refine sr_by ff ?_); all_goals (try clear ff); all_goals (try exact trivial); all_goals (skip))
    | (with_reducible refine CBC_eq (fun hp hd => ?_) (fun hp hd => ?_) <;> refine st_by (And.intro hd ff) ?_)
    | (with_reducible refine CBC_ne (fun hp hd => ?_) (fun hp hd => ?_) <;> refine st_by (And.intro hd ff) ?_)
    | (with_reducible refine CBC_decT ?_ (fun hd => ?_); (· try clear ff; first | assumption | omega); refine st_by (And.intro hd ff) ?_)
    | (with_reducible refine CBC_decF ?_ (fun hd => ?_); (· try clear ff; first | assumption | omega); refine st_by (And.intro hd ff) ?_)
    | (with_reducible refine CBC_dec (fun hp hd => ?_) (fun hp hd => ?_) <;> refine st_by (And.intro hd ff) ?_)
    | (refine CBC_bool (fun hd => ?_) (fun hd => ?_) <;> refine st_by (And.intro hd ff) ?_)
    | (with_reducible refine GQ_eq (fun hp hd => ?_) (fun hp hd => ?_) <;> refine st_by (And.intro hd ff) ?_)
    | (with_reducible refine GQ_ne (fun hp hd => ?_) (fun hp hd => ?_) <;> refine st_by (And.intro hd ff) ?_)
    | (with_reducible refine GQ_decT ?_ (fun hd => ?_); (· try clear ff; first | assumption | omega); refine st_by (And.intro hd ff) ?_)
    | (with_reducible refine GQ_decF ?_ (fun hd => ?_); (· try clear ff; first | assumption | omega); refine st_by (And.intro hd ff) ?_)
    | (with_reducible refine GQ_dec (fun hp hd => ?_) (fun hp hd => ?_) <;> refine st_by (And.intro hd ff) ?_)
    | (with_reducible refine GQ_ndT ?_ (fun hd => ?_); (· try clear ff; first | assumption | omega); refine st_by (And.intro hd ff) ?_)
    | (with_reducible refine GQ_ndF ?_ (fun hd => ?_); (· try clear ff; first | assumption | omega); refine st_by (And.intro hd ff) ?_)
    | (with_reducible refine GQ_nd (fun hp hd => ?_) (fun hp hd => ?_) <;> refine st_by (And.intro hd ff) ?_)
    | (refine GQ_nb (fun hd => ?_) (fun hd => ?_) <;> refine st_by (And.intro hd ff) ?_)
    | (refine GQ_bool (fun hd => ?_) (fun hd => ?_) <;> refine st_by (And.intro hd ff) ?_))
  all_goals try clear ff
theorem eqTick27_does (x y : GTick27) : Does Try.prog 101 [.agg (eTick27 x), .agg (eTick27 y)] (B (decide (x = y))) := by
  have hxy : decide (x = y) = decide (x.Time = y.Time ∧ x.Name = y.Name ∧ x.Open = y.Open) := decide_eq_decide.2 (by cases x; cases y; simp)
  rw [hxy]
  refine Does.walk (nt := 20) Try.func101 rfl rfl (by simp) (by decide) rfl (fun G0 X w0 pv => ?_)
  have ff := And.intro @eTick27_eq (And.intro @str_beq (And.intro @Ty.ldA3 (And.intro @Ty.ldS3 (And.intro @Ty.sz3 (And.intro @Ty.szn3 (And.intro @Ty.ldA9 (And.intro @Ty.ldS9 (And.intro @Ty.sz9 (And.intro @Ty.szn9 (And.intro @Ty.ldA4 (And.intro @Ty.ldS4 (And.intro @Ty.sz4 (And.intro @Ty.szn4 (And.intro @Ty.fo125_0 (And.intro @Ty.fk125_0 (And.intro @Ty.fs125_0 (And.intro @Ty.fn125_0 (And.intro @Ty.fo125_1 (And.intro @Ty.fk125_1 (And.intro @Ty.fs125_1 (And.intro @Ty.fn125_1 (And.intro @Ty.fo125_2 (And.intro @Ty.fk125_2 (And.intro @Ty.fs125_2 (And.intro @Ty.fn125_2 @Ty.bl4)))))))))))))))))))))))))
  try refine st_by ff ?_
  repeat' (first
    | exact trivial
    | (refine And.intro ?_ ?_; · (try clear ff; first | omega))
    | (refine ret_q1 rfl ?_; (try refine sr_by ff ?_); all_goals (try clear ff); all_goals (try exact trivial); all_goals (simp_all))
    | (with_reducible refine CBC_eq (fun hp hd => ?_) (fun hp hd => ?_) <;> refine st_by (And.intro hd ff) ?_)
    | (with_reducible refine CBC_ne (fun hp hd => ?_) (fun hp hd => ?_) <;> refine st_by (And.intro hd ff) ?_)
    | (with_reducible refine CBC_decT ?_ (fun hd => ?_); (· try clear ff; first | assumption | omega); refine st_by (And.intro hd ff) ?_)
    | (with_reducible refine CBC_decF ?_ (fun hd => ?_); (· try clear ff; first | assumption | omega); refine st_by (And.intro hd ff) ?_)
    | (with_reducible refine CBC_dec (fun hp hd => ?_) (fun hp hd => ?_) <;> refine st_by (And.intro hd ff) ?_)
    | (refine CBC_bool (fun hd => ?_) (fun hd => ?_) <;> refine st_by (And.intro hd ff) ?_)
    | (with_reducible refine GQ_eq (fun hp hd => ?_) (fun hp hd => ?_) <;> refine st_by (And.intro hd ff) ?_)
    | (with_reducible refine GQ_ne (fun hp hd => ?_) (fun hp hd => ?_) <;> refine st_by (And.intro hd ff) ?_)
    | (with_reducible refine GQ_decT ?_ (fun hd => ?_); (· try clear ff; first | assumption | omega); refine st_by (And.intro hd ff) ?_)
    | (with_reducible refine GQ_decF ?_ (fun hd => ?_); (· try clear ff; first | assumption | omega); refine st_by (And.intro hd ff) ?_)
    | (with_reducible refine GQ_dec (fun hp hd => ?_) (fun hp hd => ?_) <;> refine st_by (And.intro hd ff) ?_)
    | (with_reducible refine GQ_ndT ?_ (fun hd => ?_); (· try clear ff; first | assumption | omega); refine st_by (And.intro hd ff) ?_)
    | (with_reducible refine GQ_ndF ?_ (fun hd => ?_); (· try clear ff; first | assumption | omega); refine st_by (And.intro hd ff) ?_)
    | (with_reducible refine GQ_nd (fun hp hd => ?_) (fun hp hd => ?_) <;> refine st_by (And.intro hd ff) ?_)
    | (refine GQ_nb (fun hd => ?_) (fun hd => ?_) <;> refine st_by (And.intro hd ff) ?_)
    | (refine GQ_bool (fun hd => ?_) (fun hd => ?_) <;> refine st_by (And.intro hd ff) ?_))
  all_goals try clear ff
/-! []Tick27 -/
theorem szTick27S_does (l : List GTick27) (left : Int) (h0 : 0 ≤ left) (h1 : left ≤ 1048576) (hl : l.length ≤ 9223372036854775807) (hx : ∀ x ∈ l, wfTick27 9223372036854775807 x) : Does Try.prog 41 [.row false 3 l.length (esTick27 l), I left] (I (szRow szTick27 l left)) := by
  have w1 : IntKind.i64.wrap (left - (l.length : Int)) = left - l.length := wI _ (by omega) (by omega)
  refine Does.walk (nt := 27) Try.func41 rfl rfl (by simp) (by decide) rfl (fun G0 X w0 pv => ?_)
  have ff := And.intro @w1 (And.intro @Ty.sl64 (And.intro @Ty.slz64 (And.intro @Ty.ldA124 (And.intro @Ty.sz124 @Ty.szn124))))
  try refine st_by ff ?_
  repeat' (first
    | exact trivial
    | (refine And.intro ?_ ?_; · (try clear ff; first | omega))
    | (refine ret_q1 rfl ?_; (try refine sr_by ff ?_); all_goals (try clear ff); all_goals (try exact trivial); all_goals ((simp only [szRow]; first | rw [szStep_neg (by omega)] | rw [szStep_pos (by omega)])))
    | (with_reducible refine CBC_eq (fun hp hd => ?_) (fun hp hd => ?_) <;> refine st_by (And.intro hd ff) ?_)
    | (with_reducible refine CBC_ne (fun hp hd => ?_) (fun hp hd => ?_) <;> refine st_by (And.intro hd ff) ?_)
    | (with_reducible refine CBC_decT ?_ (fun hd => ?_); (· try clear ff; first | assumption | omega); refine st_by (And.intro hd ff) ?_)
    | (with_reducible refine CBC_decF ?_ (fun hd => ?_); (· try clear ff; first | assumption | omega); refine st_by (And.intro hd ff) ?_)
    | (with_reducible refine CBC_dec (fun hp hd => ?_) (fun hp hd => ?_) <;> refine st_by (And.intro hd ff) ?_)
    | (refine CBC_bool (fun hd => ?_) (fun hd => ?_) <;> refine st_by (And.intro hd ff) ?_)
    | (with_reducible refine GQ_eq (fun hp hd => ?_) (fun hp hd => ?_) <;> refine st_by (And.intro hd ff) ?_)
    | (with_reducible refine GQ_ne (fun hp hd => ?_) (fun hp hd => ?_) <;> refine st_by (And.intro hd ff) ?_)
    | (with_reducible refine GQ_decT ?_ (fun hd => ?_); (· try clear ff; first | assumption | omega); refine st_by (And.intro hd ff) ?_)
    | (with_reducible refine GQ_decF ?_ (fun hd => ?_); (· try clear ff; first | assumption | omega); refine st_by (And.intro hd ff) ?_)
    | (with_reducible refine GQ_dec (fun hp hd => ?_) (fun hp hd => ?_) <;> refine st_by (And.intro hd ff) ?_)
    | (with_reducible refine GQ_ndT ?_ (fun hd => ?_); (· try clear ff; first | assumption | omega); refine st_by (And.intro hd ff) ?_)
    | (with_reducible refine GQ_ndF ?_ (fun hd => ?_); (· try clear ff; first | assumption | omega); refine st_by (And.intro hd ff) ?_)
    | (with_reducible refine GQ_nd (fun hp hd => ?_) (fun hp hd => ?_) <;> refine st_by (And.intro hd ff) ?_)
    | (refine GQ_nb (fun hd => ?_) (fun hd => ?_) <;> refine st_by (And.intro hd ff) ?_)
    | (refine GQ_bool (fun hd => ?_) (fun hd => ?_) <;> refine st_by (And.intro hd ff) ?_))
  all_goals try clear ff
  have e0 : szRow szTick27 l left = szL szTick27 l (left - l.length) := by simp only [szRow]; rw [szStep_pos (by omega)]
  rw [e0]
  refine aw_loop (ι := Nat × Int) (fun z σ => (z.1 ≤ l.length ∧ 0 ≤ z.2 ∧ z.2 ≤ 1048576 ∧ szL szTick27 (l.drop z.1) z.2 = szL szTick27 l (left - l.length)) ∧ σ.t 0 = .row false 3 l.length (esTick27 l) ∧ σ.t 1 = I z.2 ∧ σ.t 5 = I z.1) (fun z => l.length - z.1) (0, left - l.length) ?_ ?_
  · (first | exact cl_by trivial | refine st_by trivial ?_)
    simp [w1]; omega
  · rintro ⟨i, a⟩ σ ⟨⟨h2, h3, h4, h5⟩, g0, g1, g5⟩
    simp only at h2 h3 h4 h5 g0 g1 g5
    by_cases hi : i < l.length
    · have w2 : IntKind.i64.wrap ((i : Int) + 1) = ((i + 1 : Nat) : Int) := wI _ (by omega) (by omega)
      have hle := szTick27_ok l[i] a h3
      have hd0 := szL_drop (f := szTick27) l i hi a
      have hx0 := hx l[i] (List.getElem_mem hi)
      have ff := And.intro @g0 (And.intro @g1 (And.intro @g5 (And.intro @w2 (And.intro @hi (And.intro ((esTick27_drop l i hi)) (And.intro @esTick27_len (And.intro @eTick27_eq (And.intro @Ty.sl64 (And.intro @Ty.slz64 (And.intro @Ty.ldA124 (And.intro @Ty.sz124 @Ty.szn124)))))))))))
      try refine st_by ff ?_
      repeat' (first
        | exact trivial
        | (refine And.intro ?_ ?_; · (try clear ff; first | omega | (rw [List.length_append]; simp [esTick27_len]; omega) | (simp [eTick27]; done) | decide | (simp [esTick27_len]; omega) | rfl))
        | (refine ret_q1 rfl ?_; (try refine sr_by ff ?_); all_goals (try clear ff); all_goals (try exact trivial); all_goals (first | (rw [← h5, hd0, szStep_neg (by first | assumption | omega)]; done) | (exfalso; omega)))
        | (refine cq_call (szTick27_does l[i] a h3 h4 hx0) ?_ ?_ ⟨?_, ?_⟩; (· first | rfl | exact cl_by ff); (· first | assumption | kernel_rfl); (· first | exact ca_by ff | (refine sa_by ff ?_; try clear ff; first | exact trivial | omega | (rw [List.length_append]; simp [esTick27_len]; omega) | (simp [eTick27]; done) | decide | (simp [esTick27_len]; omega) | rfl)); refine st_by ff ?_)
        | (with_reducible refine CBC_eq (fun hp hd => ?_) (fun hp hd => ?_) <;> refine st_by (And.intro hd ff) ?_)
        | (with_reducible refine CBC_ne (fun hp hd => ?_) (fun hp hd => ?_) <;> refine st_by (And.intro hd ff) ?_)
        | (with_reducible refine CBC_decT ?_ (fun hd => ?_); (· try clear ff; first | assumption | omega); refine st_by (And.intro hd ff) ?_)
        | (with_reducible refine CBC_decF ?_ (fun hd => ?_); (· try clear ff; first | assumption | omega); refine st_by (And.intro hd ff) ?_)
        | (with_reducible refine CBC_dec (fun hp hd => ?_) (fun hp hd => ?_) <;> refine st_by (And.intro hd ff) ?_)
        | (refine CBC_bool (fun hd => ?_) (fun hd => ?_) <;> refine st_by (And.intro hd ff) ?_)
        | (with_reducible refine GQ_eq (fun hp hd => ?_) (fun hp hd => ?_) <;> refine st_by (And.intro hd ff) ?_)
        | (with_reducible refine GQ_ne (fun hp hd => ?_) (fun hp hd => ?_) <;> refine st_by (And.intro hd ff) ?_)
        | (with_reducible refine GQ_decT ?_ (fun hd => ?_); (· try clear ff; first | assumption | omega); refine st_by (And.intro hd ff) ?_)
        | (with_reducible refine GQ_decF ?_ (fun hd => ?_); (· try clear ff; first | assumption | omega); refine st_by (And.intro hd ff) ?_)
        | (with_reducible refine GQ_dec (fun hp hd => ?_) (fun hp hd => ?_) <;> refine st_by (And.intro hd ff) ?_)
        | (with_reducible refine GQ_ndT ?_ (fun hd => ?_); (· try clear ff; first | assumption | omega); refine st_by (And.intro hd ff) ?_)
        | (with_reducible refine GQ_ndF ?_ (fun hd => ?_); (· try clear ff; first | assumption | omega); refine st_by (And.intro hd ff) ?_)
        | (with_reducible refine GQ_nd (fun hp hd => ?_) (fun hp hd => ?_) <;> refine st_by (And.intro hd ff) ?_)
        | (refine GQ_nb (fun hd => ?_) (fun hd => ?_) <;> refine st_by (And.intro hd ff) ?_)
        | (refine GQ_bool (fun hd => ?_) (fun hd => ?_) <;> refine st_by (And.intro hd ff) ?_)
        | (try clear ff; refine ⟨(i + 1, szTick27 l[i] a), ⟨⟨?_, ?_, ?_, ?_⟩, rfl, rfl⟩, ?_⟩; (· simp only; omega); (· simp only; omega); (· simp only; omega); (· simp only; rw [← h5, hd0, szStep_pos (by first | assumption | omega)]); (· simp only; omega)))
      all_goals try clear ff
    · have e1 : l.drop i = [] := List.drop_of_length_le (by omega)
      have ff := And.intro @g0 (And.intro @g1 (And.intro @g5 (And.intro @Ty.sl64 (And.intro @Ty.slz64 (And.intro @Ty.ldA124 (And.intro @Ty.sz124 @Ty.szn124))))))
      try refine st_by ff ?_
      repeat' (first
        | exact trivial
        | (refine And.intro ?_ ?_; · (try clear ff; first | omega))
        | (refine ret_q1 rfl ?_; (try refine sr_by ff ?_); all_goals (try clear ff); all_goals (try exact trivial); all_goals (rw [← h5, e1]; rfl))
        | (with_reducible refine CBC_eq (fun hp hd => ?_) (fun hp hd => ?_) <;> refine st_by (And.intro hd ff) ?_)
        | (with_reducible refine CBC_ne (fun hp hd => ?_) (fun hp hd => ?_) <;> refine st_by (And.intro hd ff) ?_)
        | (with_reducible refine CBC_decT ?_ (fun hd => ?_); (· try clear ff; first | assumption | omega); refine st_by (And.intro hd ff) ?_)
        | (with_reducible refine CBC_decF ?_ (fun hd => ?_); (· try clear ff; first | assumption | omega); refine st_by (And.intro hd ff) ?_)
        | (with_reducible refine CBC_dec (fun hp hd => ?_) (fun hp hd => ?_) <;> refine st_by (And.intro hd ff) ?_)
        | (refine CBC_bool (fun hd => ?_) (fun hd => ?_) <;> refine st_by (And.intro hd ff) ?_)
        | (with_reducible refine GQ_eq (fun hp hd => ?_) (fun hp hd => ?_) <;> refine st_by (And.intro hd ff) ?_)
        | (with_reducible refine GQ_ne (fun hp hd => ?_) (fun hp hd => ?_) <;> refine st_by (And.intro hd ff) ?_)
        | (with_reducible refine GQ_decT ?_ (fun hd => ?_); (· try clear ff; first | assumption | omega); refine st_by (And.intro hd ff) ?_)
        | (with_reducible refine GQ_decF ?_ (fun hd => ?_); (· try clear ff; first | assumption | omega); refine st_by (And.intro hd ff) ?_)
        | (with_reducible refine GQ_dec (fun hp hd => ?_) (fun hp hd => ?_) <;> refine st_by (And.intro hd ff) ?_)
        | (with_reducible refine GQ_ndT ?_ (fun hd => ?_); (· try clear ff; first | assumption | omega); refine st_by (And.intro hd ff) ?_)
        | (with_reducible refine GQ_ndF ?_ (fun hd => ?_); (· try clear ff; first | assumption | omega); refine st_by (And.intro hd ff) ?_)
        | (with_reducible refine GQ_nd (fun hp hd => ?_) (fun hp hd => ?_) <;> refine st_by (And.intro hd ff) ?_)
        | (refine GQ_nb (fun hd => ?_) (fun hd => ?_) <;> refine st_by (And.intro hd ff) ?_)
        | (refine GQ_bool (fun hd => ?_) (fun hd => ?_) <;> refine st_by (And.intro hd ff) ?_))
      all_goals try clear ff
theorem toTick27S_does (l : List GTick27) (hl : l.length ≤ 1048576) : Does Try.prog 43 [.row false 3 l.length (esTick27 l)] (.row true 3 l.length (esTick27 l)) := by
  have hz := zRows (enc := eTick27) (z := (⟨0, ⟨#[]⟩, false⟩ : GTick27)) (zs := [.int .i64 0, .string ⟨#[]⟩, .bool false]) (by decide) rfl l.length
  refine Does.walk (nt := 23) Try.func43 rfl rfl (by simp) (by decide) rfl (fun G0 X w0 pv => ?_)
  have ff := And.intro @Ty.sl64 (And.intro @Ty.slz64 (And.intro @Ty.sl68 (And.intro @Ty.slz68 (And.intro @Ty.ldA124 (And.intro @Ty.sz124 (And.intro @Ty.szn124 (And.intro @Ty.ldA125 (And.intro @Ty.sz125 (And.intro @Ty.szn125 (And.intro @Ty.zok68 (And.intro @Ty.by68 @Ty.zs68)))))))))))
  try refine st_by ff ?_
  repeat' (first
    | exact trivial
    | (refine And.intro ?_ ?_; · (try clear ff; first | omega | decide | rfl))
    | (refine ret_q1 rfl ?_; (try refine sr_by ff ?_); all_goals (try clear ff); all_goals (try exact trivial); all_goals (skip))
    | (with_reducible refine CBC_eq (fun hp hd => ?_) (fun hp hd => ?_) <;> refine st_by (And.intro hd ff) ?_)
    | (with_reducible refine CBC_ne (fun hp hd => ?_) (fun hp hd => ?_) <;> refine st_by (And.intro hd ff) ?_)
    | (with_reducible refine CBC_decT ?_ (fun hd => ?_); (· try clear ff; first | assumption | omega); refine st_by (And.intro hd ff) ?_)
    | (with_reducible refine CBC_decF ?_ (fun hd => ?_); (· try clear ff; first | assumption | omega); refine st_by (And.intro hd ff) ?_)
    | (with_reducible refine CBC_dec (fun hp hd => ?_) (fun hp hd => ?_) <;> refine st_by (And.intro hd ff) ?_)
    | (refine CBC_bool (fun hd => ?_) (fun hd => ?_) <;> refine st_by (And.intro hd ff) ?_)
    | (with_reducible refine GQ_eq (fun hp hd => ?_) (fun hp hd => ?_) <;> refine st_by (And.intro hd ff) ?_)
    | (with_reducible refine GQ_ne (fun hp hd => ?_) (fun hp hd => ?_) <;> refine st_by (And.intro hd ff) ?_)
    | (with_reducible refine GQ_decT ?_ (fun hd => ?_); (· try clear ff; first | assumption | omega); refine st_by (And.intro hd ff) ?_)
    | (with_reducible refine GQ_decF ?_ (fun hd => ?_); (· try clear ff; first | assumption | omega); refine st_by (And.intro hd ff) ?_)
    | (with_reducible refine GQ_dec (fun hp hd => ?_) (fun hp hd => ?_) <;> refine st_by (And.intro hd ff) ?_)
    | (with_reducible refine GQ_ndT ?_ (fun hd => ?_); (· try clear ff; first | assumption | omega); refine st_by (And.intro hd ff) ?_)
    | (with_reducible refine GQ_ndF ?_ (fun hd => ?_); (· try clear ff; first | assumption | omega); refine st_by (And.intro hd ff) ?_)
    | (with_reducible refine GQ_nd (fun hp hd => ?_) (fun hp hd => ?_) <;> refine st_by (And.intro hd ff) ?_)
    | (refine GQ_nb (fun hd => ?_) (fun hd => ?_) <;> refine st_by (And.intro hd ff) ?_)
    | (refine GQ_bool (fun hd => ?_) (fun hd => ?_) <;> refine st_by (And.intro hd ff) ?_))
  all_goals try clear ff
  refine aw_loop (ι := Nat) (fun i σ => i ≤ l.length ∧ σ.t 0 = .row false 3 l.length (esTick27 l) ∧ σ.t 4 = I i ∧ σ.t 3 = .sl 3 [] 0 l.length ∧ σ.m 3 = some (.row true 3 l.length (esTick27 (l.take i ++ List.replicate (l.length - i) ⟨0, ⟨#[]⟩, false⟩)))) (fun i => l.length - i) 0 ?_ ?_
  · (first | exact cl_by (And.intro @Ty.sl64 (And.intro @Ty.slz64 (And.intro @Ty.sl68 (And.intro @Ty.slz68 (And.intro @Ty.ldA124 (And.intro @Ty.sz124 (And.intro @Ty.szn124 (And.intro @Ty.ldA125 (And.intro @Ty.sz125 (And.intro @Ty.szn125 (And.intro @Ty.zok68 (And.intro @Ty.by68 @Ty.zs68)))))))))))) | refine st_by (And.intro @Ty.sl64 (And.intro @Ty.slz64 (And.intro @Ty.sl68 (And.intro @Ty.slz68 (And.intro @Ty.ldA124 (And.intro @Ty.sz124 (And.intro @Ty.szn124 (And.intro @Ty.ldA125 (And.intro @Ty.sz125 (And.intro @Ty.szn125 (And.intro @Ty.zok68 (And.intro @Ty.by68 @Ty.zs68)))))))))))) ?_)
    simp [esTick27, hz]
  · rintro i σ ⟨h2, g0, g4, g3, m3⟩
    by_cases hi : i < l.length
    · have w2 : IntKind.i64.wrap ((i : Int) + 1) = ((i + 1 : Nat) : Int) := wI _ (by omega) (by omega)
      have hlen : (l.take i ++ List.replicate (l.length - i) (⟨0, ⟨#[]⟩, false⟩ : GTick27)).length = l.length := by simp; omega
      have hset := take_rep_set l ⟨0, ⟨#[]⟩, false⟩ i hi
      have hsl := esTick27_setL (l.take i ++ List.replicate (l.length - i) ⟨0, ⟨#[]⟩, false⟩) i l[i] (by omega)
      generalize l.take i ++ List.replicate (l.length - i) (⟨0, ⟨#[]⟩, false⟩ : GTick27) = L at m3 hlen hset hsl
      rw [hset] at hsl
      have ff := And.intro @g0 (And.intro @g3 (And.intro @g4 (And.intro @m3 (And.intro @w2 (And.intro @hi (And.intro ((esTick27_drop l i hi)) (And.intro @esTick27_len (And.intro @eTick27_eq (And.intro @esTick27_len (And.intro @Ty.sl64 (And.intro @Ty.slz64 (And.intro @Ty.sl68 (And.intro @Ty.slz68 (And.intro @Ty.ldA124 (And.intro @Ty.sz124 (And.intro @Ty.szn124 (And.intro @Ty.ldA125 (And.intro @Ty.sz125 (And.intro @Ty.szn125 (And.intro @Ty.zok68 (And.intro @Ty.by68 @Ty.zs68)))))))))))))))))))))
      try refine st_by ff ?_
      repeat' (first
        | exact trivial
        | (refine And.intro ?_ ?_; · (try clear ff; first | omega | (rw [List.length_append]; simp [esTick27_len]; omega) | (simp [eTick27]; done) | decide | (simp [esTick27_len]; omega) | rfl | (simp [esTick27_len, hlen]; omega)))
        | (refine ret_q1 rfl ?_; (try refine sr_by ff ?_); all_goals (try clear ff); all_goals (try exact trivial); all_goals (skip))
        | (refine cq_call (toTick27_does l[i]) ?_ ?_ ⟨?_, ?_⟩; (· first | rfl | exact cl_by ff); (· first | assumption | kernel_rfl); (· first | exact ca_by ff | (refine sa_by ff ?_; try clear ff; first | exact trivial | omega | (rw [List.length_append]; simp [esTick27_len]; omega) | (simp [eTick27]; done) | decide | (simp [esTick27_len]; omega) | rfl | (simp [esTick27_len, hlen]; omega))); refine st_by ff ?_)
        | (with_reducible refine CBC_eq (fun hp hd => ?_) (fun hp hd => ?_) <;> refine st_by (And.intro hd ff) ?_)
        | (with_reducible refine CBC_ne (fun hp hd => ?_) (fun hp hd => ?_) <;> refine st_by (And.intro hd ff) ?_)
        | (with_reducible refine CBC_decT ?_ (fun hd => ?_); (· try clear ff; first | assumption | omega); refine st_by (And.intro hd ff) ?_)
        | (with_reducible refine CBC_decF ?_ (fun hd => ?_); (· try clear ff; first | assumption | omega); refine st_by (And.intro hd ff) ?_)
        | (with_reducible refine CBC_dec (fun hp hd => ?_) (fun hp hd => ?_) <;> refine st_by (And.intro hd ff) ?_)
        | (refine CBC_bool (fun hd => ?_) (fun hd => ?_) <;> refine st_by (And.intro hd ff) ?_)
        | (with_reducible refine GQ_eq (fun hp hd => ?_) (fun hp hd => ?_) <;> refine st_by (And.intro hd ff) ?_)
        | (with_reducible refine GQ_ne (fun hp hd => ?_) (fun hp hd => ?_) <;> refine st_by (And.intro hd ff) ?_)
        | (with_reducible refine GQ_decT ?_ (fun hd => ?_); (· try clear ff; first | assumption | omega); refine st_by (And.intro hd ff) ?_)
        | (with_reducible refine GQ_decF ?_ (fun hd => ?_); (· try clear ff; first | assumption | omega); refine st_by (And.intro hd ff) ?_)
        | (with_reducible refine GQ_dec (fun hp hd => ?_) (fun hp hd => ?_) <;> refine st_by (And.intro hd ff) ?_)
        | (with_reducible refine GQ_ndT ?_ (fun hd => ?_); (· try clear ff; first | assumption | omega); refine st_by (And.intro hd ff) ?_)
        | (with_reducible refine GQ_ndF ?_ (fun hd => ?_); (· try clear ff; first | assumption | omega); refine st_by (And.intro hd ff) ?_)
        | (with_reducible refine GQ_nd (fun hp hd => ?_) (fun hp hd => ?_) <;> refine st_by (And.intro hd ff) ?_)
        | (refine GQ_nb (fun hd => ?_) (fun hd => ?_) <;> refine st_by (And.intro hd ff) ?_)
        | (refine GQ_bool (fun hd => ?_) (fun hd => ?_) <;> refine st_by (And.intro hd ff) ?_)
        | (try clear ff; refine ⟨i + 1, ⟨?_, rfl, ?_⟩, ?_⟩; (· omega); (· first | (rw [← hsl]; rfl) | (simp only [← hsl, eTick27]; rfl)); (· omega)))
      all_goals try clear ff
    · have e1 : l.take i ++ List.replicate (l.length - i) (⟨0, ⟨#[]⟩, false⟩ : GTick27) = l := by rw [List.take_of_length_le (by omega)]; simp; omega
      rw [e1] at m3
      have ff := And.intro @g0 (And.intro @g3 (And.intro @g4 (And.intro @m3 (And.intro @Ty.sl64 (And.intro @Ty.slz64 (And.intro @Ty.sl68 (And.intro @Ty.slz68 (And.intro @Ty.ldA124 (And.intro @Ty.sz124 (And.intro @Ty.szn124 (And.intro @Ty.ldA125 (And.intro @Ty.sz125 (And.intro @Ty.szn125 (And.intro @Ty.zok68 (And.intro @Ty.by68 @Ty.zs68)))))))))))))))
      try refine st_by ff ?_
      repeat' (first
        | exact trivial
        | (refine And.intro ?_ ?_; · (try clear ff; first | omega))
        | (refine ret_q1 rfl ?_; (try refine sr_by ff ?_); all_goals (try clear ff); all_goals (try exact trivial); all_goals (rfl))
        | (with_reducible refine CBC_eq (fun hp hd => ?_) (fun hp hd => ?_) <;> refine st_by (And.intro hd ff) ?_)
        | (with_reducible refine CBC_ne (fun hp hd => ?_) (fun hp hd => ?_) <;> refine st_by (And.intro hd ff) ?_)
        | (with_reducible refine CBC_decT ?_ (fun hd => ?_); (· try clear ff; first | assumption | omega); refine st_by (And.intro hd ff) ?_)
        | (with_reducible refine CBC_decF ?_ (fun hd => ?_); (· try clear ff; first | assumption | omega); refine st_by (And.intro hd ff) ?_)
        | (with_reducible refine CBC_dec (fun hp hd => ?_) (fun hp hd => ?_) <;> refine st_by (And.intro hd ff) ?_)
        | (refine CBC_bool (fun hd => ?_) (fun hd => ?_) <;> refine st_by (And.intro hd ff) ?_)
        | (with_reducible refine GQ_eq (fun hp hd => ?_) (fun hp hd => ?_) <;> refine st_by (And.intro hd ff) ?_)
        | (with_reducible refine GQ_ne (fun hp hd => ?_) (fun hp hd => ?_) <;> refine st_by (And.intro hd ff) ?_)
        | (with_reducible refine GQ_decT ?_ (fun hd => ?_); (· try clear ff; first | assumption | omega); refine st_by (And.intro hd ff) ?_)
        | (with_reducible refine GQ_decF ?_ (fun hd => ?_); (· try clear ff; first | assumption | omega); refine st_by (And.intro hd ff) ?_)
        | (with_reducible refine GQ_dec (fun hp hd => ?_) (fun hp hd => ?_) <;> refine st_by (And.intro hd ff) ?_)
        | (with_reducible refine GQ_ndT ?_ (fun hd => ?_); (· try clear ff; first | assumption | omega); refine st_by (And.intro hd ff) ?_)
        | (with_reducible refine GQ_ndF ?_ (fun hd => ?_); (· try clear ff; first | assumption | omega); refine st_by (And.intro hd ff) ?_)
        | (with_reducible refine GQ_nd (fun hp hd => ?_) (fun hp hd => ?_) <;> refine st_by (And.intro hd ff) ?_)
        | (refine GQ_nb (fun hd => ?_) (fun hd => ?_) <;> refine st_by (And.intro hd ff) ?_)
        | (refine GQ_bool (fun hd => ?_) (fun hd => ?_) <;> refine st_by (And.intro hd ff) ?_))
      all_goals try clear ff
theorem eqTick27S_does (l k : List GTick27) (hl : l.length ≤ 9223372036854775807) (hk : k.length ≤ 9223372036854775807) : Does Try.prog 45 [.row false 3 l.length (esTick27 l), .row false 3 k.length (esTick27 k)] (B (decide (l = k))) := by
  refine Does.walk (nt := 27) Try.func45 rfl rfl (by simp) (by decide) rfl (fun G0 X w0 pv => ?_)
  have ff := And.intro @Ty.sl68 (And.intro @Ty.slz68 (And.intro @Ty.ldA125 (And.intro @Ty.sz125 @Ty.szn125)))
  try refine st_by ff ?_
  repeat' (first
    | exact trivial
    | (refine And.intro ?_ ?_; · (try clear ff; first | omega))
    | (refine ret_q1 rfl ?_; (try refine sr_by ff ?_); all_goals (try clear ff); all_goals (try exact trivial); all_goals ((have : ¬ l = k := fun e => by subst e; omega); simp [this]))
    | (refine aw_drawn (id := 6) ?_ [[], [], [0, 1], [0, 1, 2], [], [], [4, 5], [4, 5, 6], [0, 1, 2, 3, 4, 5, 6, 7], [0, 1, 2, 3, 4, 5, 6, 7, 8]] 8 ?_ ?_; (· kernel_rfl); (· kernel_rfl); refine st_by ff ?_)
    | (with_reducible refine CBC_eq (fun hp hd => ?_) (fun hp hd => ?_) <;> refine st_by (And.intro hd ff) ?_)
    | (with_reducible refine CBC_ne (fun hp hd => ?_) (fun hp hd => ?_) <;> refine st_by (And.intro hd ff) ?_)
    | (with_reducible refine CBC_decT ?_ (fun hd => ?_); (· try clear ff; first | assumption | omega); refine st_by (And.intro hd ff) ?_)
    | (with_reducible refine CBC_decF ?_ (fun hd => ?_); (· try clear ff; first | assumption | omega); refine st_by (And.intro hd ff) ?_)
    | (with_reducible refine CBC_dec (fun hp hd => ?_) (fun hp hd => ?_) <;> refine st_by (And.intro hd ff) ?_)
    | (refine CBC_bool (fun hd => ?_) (fun hd => ?_) <;> refine st_by (And.intro hd ff) ?_)
    | (with_reducible refine GQ_eq (fun hp hd => ?_) (fun hp hd => ?_) <;> refine st_by (And.intro hd ff) ?_)
    | (with_reducible refine GQ_ne (fun hp hd => ?_) (fun hp hd => ?_) <;> refine st_by (And.intro hd ff) ?_)
    | (with_reducible refine GQ_decT ?_ (fun hd => ?_); (· try clear ff; first | assumption | omega); refine st_by (And.intro hd ff) ?_)
    | (with_reducible refine GQ_decF ?_ (fun hd => ?_); (· try clear ff; first | assumption | omega); refine st_by (And.intro hd ff) ?_)
    | (with_reducible refine GQ_dec (fun hp hd => ?_) (fun hp hd => ?_) <;> refine st_by (And.intro hd ff) ?_)
    | (with_reducible refine GQ_ndT ?_ (fun hd => ?_); (· try clear ff; first | assumption | omega); refine st_by (And.intro hd ff) ?_)
    | (with_reducible refine GQ_ndF ?_ (fun hd => ?_); (· try clear ff; first | assumption | omega); refine st_by (And.intro hd ff) ?_)
    | (with_reducible refine GQ_nd (fun hp hd => ?_) (fun hp hd => ?_) <;> refine st_by (And.intro hd ff) ?_)
    | (refine GQ_nb (fun hd => ?_) (fun hd => ?_) <;> refine st_by (And.intro hd ff) ?_)
    | (refine GQ_bool (fun hd => ?_) (fun hd => ?_) <;> refine st_by (And.intro hd ff) ?_)
    | (with_reducible refine GD_eq (fun hp hd => ?_) (fun hp hd => ?_) <;> refine st_by (And.intro hd ff) ?_)
    | (with_reducible refine GD_ne (fun hp hd => ?_) (fun hp hd => ?_) <;> refine st_by (And.intro hd ff) ?_)
    | (with_reducible refine GD_decT ?_ (fun hd => ?_); (· try clear ff; first | assumption | omega); refine st_by (And.intro hd ff) ?_)
    | (with_reducible refine GD_decF ?_ (fun hd => ?_); (· try clear ff; first | assumption | omega); refine st_by (And.intro hd ff) ?_)
    | (with_reducible refine GD_dec (fun hp hd => ?_) (fun hp hd => ?_) <;> refine st_by (And.intro hd ff) ?_)
    | (with_reducible refine GD_ndT ?_ (fun hd => ?_); (· try clear ff; first | assumption | omega); refine st_by (And.intro hd ff) ?_)
    | (with_reducible refine GD_ndF ?_ (fun hd => ?_); (· try clear ff; first | assumption | omega); refine st_by (And.intro hd ff) ?_)
    | (with_reducible refine GD_nd (fun hp hd => ?_) (fun hp hd => ?_) <;> refine st_by (And.intro hd ff) ?_)
    | (refine GD_nb (fun hd => ?_) (fun hd => ?_) <;> refine st_by (And.intro hd ff) ?_)
    | (refine GD_bool (fun hd => ?_) (fun hd => ?_) <;> refine st_by (And.intro hd ff) ?_))
  all_goals try clear ff
  have hlk : l.length = k.length := by omega
  refine aw_loop (ι := Nat) (fun i σ => (i ≤ l.length ∧ l.take i = k.take i) ∧ σ.t 0 = .row false 3 l.length (esTick27 l) ∧ σ.t 1 = .row false 3 k.length (esTick27 k) ∧ σ.t 5 = I i) (fun i => l.length - i) 0 ?_ ?_
  · (first | exact cl_by trivial | refine st_by trivial ?_)
    try simp
  · rintro i σ ⟨⟨h2, h3⟩, g0, g1, g5⟩
    by_cases hi : i < l.length
    · have hi' : i < k.length := by omega
      have w2 : IntKind.i64.wrap ((i : Int) + 1) = ((i + 1 : Nat) : Int) := wI _ (by omega) (by omega)
      have hne : ¬ l[i] = k[i] → ¬ l = k := fun h e => h (by subst e; rfl)
      have heq : l[i] = k[i] → l.take (i + 1) = k.take (i + 1) := fun h => by rw [List.take_succ_eq_append_getElem hi, List.take_succ_eq_append_getElem hi', h3, h]
      have ff := And.intro @g0 (And.intro @g1 (And.intro @g5 (And.intro @w2 (And.intro @hi (And.intro @hi' (And.intro ((esTick27_drop l i hi)) (And.intro @esTick27_len (And.intro @eTick27_eq (And.intro ((esTick27_drop k i hi')) (And.intro @str_beq (And.intro @Ty.sl68 (And.intro @Ty.slz68 (And.intro @Ty.ldA125 (And.intro @Ty.sz125 @Ty.szn125))))))))))))))
      try refine st_by ff ?_
      repeat' (first
        | exact trivial
        | (refine And.intro ?_ ?_; · (try clear ff; first | omega | (rw [List.length_append]; simp [esTick27_len]; omega) | (simp [eTick27]; done) | decide | (simp [esTick27_len]; omega) | rfl))
        | (refine ret_q1 rfl ?_; (try refine sr_by ff ?_); all_goals (try clear ff); all_goals (try exact trivial); all_goals (simp [hne (by simpa using hp)]))
        | (refine cq_call (eqTick27_does l[i] k[i]) ?_ ?_ ⟨?_, ?_⟩; (· first | rfl | exact cl_by ff); (· first | assumption | kernel_rfl); (· first | exact ca_by ff | (refine sa_by ff ?_; try clear ff; first | exact trivial | omega | (rw [List.length_append]; simp [esTick27_len]; omega) | (simp [eTick27]; done) | decide | (simp [esTick27_len]; omega) | rfl)); refine st_by ff ?_)
        | (refine cq_dcall (eqTick27_does l[i] k[i]) ?_ ?_ ⟨?_, ?_⟩; (· first | rfl | exact cl_by ff); (· first | assumption | kernel_rfl); (· first | exact ca_by ff | (refine sa_by ff ?_; try clear ff; first | exact trivial | omega | (rw [List.length_append]; simp [esTick27_len]; omega) | (simp [eTick27]; done) | decide | (simp [esTick27_len]; omega) | rfl)); refine st_by ff ?_)
        | (refine aw_drawn (id := 6) ?_ [[], [], [0, 1], [0, 1, 2], [], [], [4, 5], [4, 5, 6], [0, 1, 2, 3, 4, 5, 6, 7], [0, 1, 2, 3, 4, 5, 6, 7, 8]] 8 ?_ ?_; (· kernel_rfl); (· kernel_rfl); refine st_by ff ?_)
        | (with_reducible refine CBC_eq (fun hp hd => ?_) (fun hp hd => ?_) <;> refine st_by (And.intro hd ff) ?_)
        | (with_reducible refine CBC_ne (fun hp hd => ?_) (fun hp hd => ?_) <;> refine st_by (And.intro hd ff) ?_)
        | (with_reducible refine CBC_decT ?_ (fun hd => ?_); (· try clear ff; first | assumption | omega); refine st_by (And.intro hd ff) ?_)
        | (with_reducible refine CBC_decF ?_ (fun hd => ?_); (· try clear ff; first | assumption | omega); refine st_by (And.intro hd ff) ?_)
        | (with_reducible refine CBC_dec (fun hp hd => ?_) (fun hp hd => ?_) <;> refine st_by (And.intro hd ff) ?_)
        | (refine CBC_bool (fun hd => ?_) (fun hd => ?_) <;> refine st_by (And.intro hd ff) ?_)
        | (with_reducible refine GQ_eq (fun hp hd => ?_) (fun hp hd => ?_) <;> refine st_by (And.intro hd ff) ?_)
        | (with_reducible refine GQ_ne (fun hp hd => ?_) (fun hp hd => ?_) <;> refine st_by (And.intro hd ff) ?_)
        | (with_reducible refine GQ_decT ?_ (fun hd => ?_); (· try clear ff; first | assumption | omega); refine st_by (And.intro hd ff) ?_)
        | (with_reducible refine GQ_decF ?_ (fun hd => ?_); (· try clear ff; first | assumption | omega); refine st_by (And.intro hd ff) ?_)
        | (with_reducible refine GQ_dec (fun hp hd => ?_) (fun hp hd => ?_) <;> refine st_by (And.intro hd ff) ?_)
        | (with_reducible refine GQ_ndT ?_ (fun hd => ?_); (· try clear ff; first | assumption | omega); refine st_by (And.intro hd ff) ?_)
        | (with_reducible refine GQ_ndF ?_ (fun hd => ?_); (· try clear ff; first | assumption | omega); refine st_by (And.intro hd ff) ?_)
        | (with_reducible refine GQ_nd (fun hp hd => ?_) (fun hp hd => ?_) <;> refine st_by (And.intro hd ff) ?_)
        | (refine GQ_nb (fun hd => ?_) (fun hd => ?_) <;> refine st_by (And.intro hd ff) ?_)
        | (refine GQ_bool (fun hd => ?_) (fun hd => ?_) <;> refine st_by (And.intro hd ff) ?_)
        | (with_reducible refine GD_eq (fun hp hd => ?_) (fun hp hd => ?_) <;> refine st_by (And.intro hd ff) ?_)
        | (with_reducible refine GD_ne (fun hp hd => ?_) (fun hp hd => ?_) <;> refine st_by (And.intro hd ff) ?_)
        | (with_reducible refine GD_decT ?_ (fun hd => ?_); (· try clear ff; first | assumption | omega); refine st_by (And.intro hd ff) ?_)
        | (with_reducible refine GD_decF ?_ (fun hd => ?_); (· try clear ff; first | assumption | omega); refine st_by (And.intro hd ff) ?_)
        | (with_reducible refine GD_dec (fun hp hd => ?_) (fun hp hd => ?_) <;> refine st_by (And.intro hd ff) ?_)
        | (with_reducible refine GD_ndT ?_ (fun hd => ?_); (· try clear ff; first | assumption | omega); refine st_by (And.intro hd ff) ?_)
        | (with_reducible refine GD_ndF ?_ (fun hd => ?_); (· try clear ff; first | assumption | omega); refine st_by (And.intro hd ff) ?_)
        | (with_reducible refine GD_nd (fun hp hd => ?_) (fun hp hd => ?_) <;> refine st_by (And.intro hd ff) ?_)
        | (refine GD_nb (fun hd => ?_) (fun hd => ?_) <;> refine st_by (And.intro hd ff) ?_)
        | (refine GD_bool (fun hd => ?_) (fun hd => ?_) <;> refine st_by (And.intro hd ff) ?_)
        | (try clear ff; refine ⟨i + 1, ⟨⟨?_, heq ?_⟩, rfl⟩, ?_⟩; (· omega); (· simpa using hp); (· omega)))
      all_goals try clear ff
    · have e1 : l = k := by rw [List.take_of_length_le (by omega), List.take_of_length_le (by omega)] at h3; exact h3
      have ff := And.intro @g0 (And.intro @g1 (And.intro @g5 (And.intro @Ty.sl68 (And.intro @Ty.slz68 (And.intro @Ty.ldA125 (And.intro @Ty.sz125 @Ty.szn125))))))
      try refine st_by ff ?_
      repeat' (first
        | exact trivial
        | (refine And.intro ?_ ?_; · (try clear ff; first | omega))
        | (refine ret_q1 rfl ?_; (try refine sr_by ff ?_); all_goals (try clear ff); all_goals (try exact trivial); all_goals (simp [e1]))
        | (refine aw_drawn (id := 6) ?_ [[], [], [0, 1], [0, 1, 2], [], [], [4, 5], [4, 5, 6], [0, 1, 2, 3, 4, 5, 6, 7], [0, 1, 2, 3, 4, 5, 6, 7, 8]] 8 ?_ ?_; (· kernel_rfl); (· kernel_rfl); refine st_by ff ?_)
        | (with_reducible refine CBC_eq (fun hp hd => ?_) (fun hp hd => ?_) <;> refine st_by (And.intro hd ff) ?_)
        | (with_reducible refine CBC_ne (fun hp hd => ?_) (fun hp hd => ?_) <;> refine st_by (And.intro hd ff) ?_)
        | (with_reducible refine CBC_decT ?_ (fun hd => ?_); (· try clear ff; first | assumption | omega); refine st_by (And.intro hd ff) ?_)
        | (with_reducible refine CBC_decF ?_ (fun hd => ?_); (· try clear ff; first | assumption | omega); refine st_by (And.intro hd ff) ?_)
        | (with_reducible refine CBC_dec (fun hp hd => ?_) (fun hp hd => ?_) <;> refine st_by (And.intro hd ff) ?_)
        | (refine CBC_bool (fun hd => ?_) (fun hd => ?_) <;> refine st_by (And.intro hd ff) ?_)
        | (with_reducible refine GQ_eq (fun hp hd => ?_) (fun hp hd => ?_) <;> refine st_by (And.intro hd ff) ?_)
        | (with_reducible refine GQ_ne (fun hp hd => ?_) (fun hp hd => ?_) <;> refine st_by (And.intro hd ff) ?_)
        | (with_reducible refine GQ_decT ?_ (fun hd => ?_); (· try clear ff; first | assumption | omega); refine st_by (And.intro hd ff) ?_)
        | (with_reducible refine GQ_decF ?_ (fun hd => ?_); (· try clear ff; first | assumption | omega); refine st_by (And.intro hd ff) ?_)
        | (with_reducible refine GQ_dec (fun hp hd => ?_) (fun hp hd => ?_) <;> refine st_by (And.intro hd ff) ?_)
        | (with_reducible refine GQ_ndT ?_ (fun hd => ?_); (· try clear ff; first | assumption | omega); refine st_by (And.intro hd ff) ?_)
        | (with_reducible refine GQ_ndF ?_ (fun hd => ?_); (· try clear ff; first | assumption | omega); refine st_by (And.intro hd ff) ?_)
        | (with_reducible refine GQ_nd (fun hp hd => ?_) (fun hp hd => ?_) <;> refine st_by (And.intro hd ff) ?_)
        | (refine GQ_nb (fun hd => ?_) (fun hd => ?_) <;> refine st_by (And.intro hd ff) ?_)
        | (refine GQ_bool (fun hd => ?_) (fun hd => ?_) <;> refine st_by (And.intro hd ff) ?_)
        | (with_reducible refine GD_eq (fun hp hd => ?_) (fun hp hd => ?_) <;> refine st_by (And.intro hd ff) ?_)
        | (with_reducible refine GD_ne (fun hp hd => ?_) (fun hp hd => ?_) <;> refine st_by (And.intro hd ff) ?_)
        | (with_reducible refine GD_decT ?_ (fun hd => ?_); (· try clear ff; first | assumption | omega); refine st_by (And.intro hd ff) ?_)
        | (with_reducible refine GD_decF ?_ (fun hd => ?_); (· try clear ff; first | assumption | omega); refine st_by (And.intro hd ff) ?_)
        | (with_reducible refine GD_dec (fun hp hd => ?_) (fun hp hd => ?_) <;> refine st_by (And.intro hd ff) ?_)
        | (with_reducible refine GD_ndT ?_ (fun hd => ?_); (· try clear ff; first | assumption | omega); refine st_by (And.intro hd ff) ?_)
        | (with_reducible refine GD_ndF ?_ (fun hd => ?_); (· try clear ff; first | assumption | omega); refine st_by (And.intro hd ff) ?_)
        | (with_reducible refine GD_nd (fun hp hd => ?_) (fun hp hd => ?_) <;> refine st_by (And.intro hd ff) ?_)
        | (refine GD_nb (fun hd => ?_) (fun hd => ?_) <;> refine st_by (And.intro hd ff) ?_)
        | (refine GD_bool (fun hd => ?_) (fun hd => ?_) <;> refine st_by (And.intro hd ff) ?_))
      all_goals try clear ff
def mTick27 (x : GTick27) (k : Int) : GTick27 := { x with Time := k, Name := mtext (k + 1), Open := mbool (k + 2) }
def cTick27 (x : GTick27) : Nat := 3
theorem markTick27S_does (l : List GTick27) (k : Int) (h0 : 0 ≤ k) (hk : k + cntL cTick27 l ≤ 4611686018427387904) (hl : l.length ≤ 9223372036854775807) :
    DoesX Try.prog 46 [.sl 1000 [] 0 l.length, I k] [.row true 3 l.length (esTick27 l)] (I (k + cntL cTick27 l)) [.row true 3 l.length (esTick27 (markL mTick27 cTick27 l k))] := by
  refine DoesX.walk (nt := 37) Try.func46 rfl rfl (by simp) (by decide) rfl (fun G0 X w0 pv => ?_)
  have ff := And.intro @Ty.sl68 (And.intro @Ty.slz68 (And.intro @Ty.ldA3 (And.intro @Ty.ldS3 (And.intro @Ty.sz3 (And.intro @Ty.szn3 (And.intro @Ty.ldA9 (And.intro @Ty.ldS9 (And.intro @Ty.sz9 (And.intro @Ty.szn9 (And.intro @Ty.ldA4 (And.intro @Ty.ldS4 (And.intro @Ty.sz4 (And.intro @Ty.szn4 (And.intro @Ty.fo125_0 (And.intro @Ty.fk125_0 (And.intro @Ty.fs125_0 (And.intro @Ty.fn125_0 (And.intro @Ty.fo125_1 (And.intro @Ty.fk125_1 (And.intro @Ty.fs125_1 (And.intro @Ty.fn125_1 (And.intro @Ty.fo125_2 (And.intro @Ty.fk125_2 (And.intro @Ty.fs125_2 @Ty.fn125_2))))))))))))))))))))))))
  try refine st_by ff ?_
  repeat' (first
    | exact trivial
    | (refine And.intro ?_ ?_; · (try clear ff; first | omega))
    | (refine ret_q1 rfl ?_; (try refine sr_by ff ?_); all_goals (try clear ff); all_goals (try exact trivial); all_goals (skip))
    | (with_reducible refine CBC_eq (fun hp hd => ?_) (fun hp hd => ?_) <;> refine st_by (And.intro hd ff) ?_)
    | (with_reducible refine CBC_ne (fun hp hd => ?_) (fun hp hd => ?_) <;> refine st_by (And.intro hd ff) ?_)
    | (with_reducible refine CBC_decT ?_ (fun hd => ?_); (· try clear ff; first | assumption | omega); refine st_by (And.intro hd ff) ?_)
    | (with_reducible refine CBC_decF ?_ (fun hd => ?_); (· try clear ff; first | assumption | omega); refine st_by (And.intro hd ff) ?_)
    | (with_reducible refine CBC_dec (fun hp hd => ?_) (fun hp hd => ?_) <;> refine st_by (And.intro hd ff) ?_)
    | (refine CBC_bool (fun hd => ?_) (fun hd => ?_) <;> refine st_by (And.intro hd ff) ?_)
    | (with_reducible refine GQ_eq (fun hp hd => ?_) (fun hp hd => ?_) <;> refine st_by (And.intro hd ff) ?_)
    | (with_reducible refine GQ_ne (fun hp hd => ?_) (fun hp hd => ?_) <;> refine st_by (And.intro hd ff) ?_)
    | (with_reducible refine GQ_decT ?_ (fun hd => ?_); (· try clear ff; first | assumption | omega); refine st_by (And.intro hd ff) ?_)
    | (with_reducible refine GQ_decF ?_ (fun hd => ?_); (· try clear ff; first | assumption | omega); refine st_by (And.intro hd ff) ?_)
    | (with_reducible refine GQ_dec (fun hp hd => ?_) (fun hp hd => ?_) <;> refine st_by (And.intro hd ff) ?_)
    | (with_reducible refine GQ_ndT ?_ (fun hd => ?_); (· try clear ff; first | assumption | omega); refine st_by (And.intro hd ff) ?_)
    | (with_reducible refine GQ_ndF ?_ (fun hd => ?_); (· try clear ff; first | assumption | omega); refine st_by (And.intro hd ff) ?_)
    | (with_reducible refine GQ_nd (fun hp hd => ?_) (fun hp hd => ?_) <;> refine st_by (And.intro hd ff) ?_)
    | (refine GQ_nb (fun hd => ?_) (fun hd => ?_) <;> refine st_by (And.intro hd ff) ?_)
    | (refine GQ_bool (fun hd => ?_) (fun hd => ?_) <;> refine st_by (And.intro hd ff) ?_))
  all_goals try clear ff
  refine aw_loop (ι := Nat) (fun i σ => (i ≤ l.length) ∧ σ.t 0 = .sl 1000 [] 0 l.length ∧ σ.t 1 = I (k + cntL cTick27 (l.take i)) ∧ σ.t 5 = I i ∧ σ.m 1000 = some (.row true 3 l.length (esTick27 (midL mTick27 cTick27 l k i)))) (fun i => l.length - i) 0 ?_ ?_
  · (first | exact cl_by trivial | refine st_by trivial ?_)
    simp [midL_zero, cntL]
  · rintro i σ ⟨h2, g0, g1, g5, m1⟩
    by_cases hi : i < l.length
    · have w2 : IntKind.i64.wrap ((i : Int) + 1) = ((i + 1 : Nat) : Int) := wI _ (by omega) (by omega)
      have hc := cntL_lt (c := cTick27) l i hi
      have hc1 := cntL_take (c := cTick27) l i hi
      have hmid := midL_set (f := mTick27) (c := cTick27) l k i hi
      have hmq : (midL mTick27 cTick27 l k i)[i]? = some l[i] := by rw [List.getElem?_eq_getElem (by rw [midL_len]; exact hi), midL_get l k i hi]
      have hmi : i < (midL mTick27 cTick27 l k i).length := by rw [midL_len]; exact hi
      have hmidl := midL_len (f := mTick27) (c := cTick27) l k i
      simp only [cTick27] at hc hc1
      generalize midL mTick27 cTick27 l k i = L at m1 hmid hmq hmi hmidl
      have hms : ∀ a, i < (L.set i a).length := fun a => by rw [List.length_set]; exact hmi
      have hmg : L[i] = l[i] := by rw [List.getElem?_eq_getElem hmi] at hmq; simpa using hmq
      generalize hn : k + (cntL cTick27 (l.take i) : Int) = n at g1 hmid
      have wk0 : IntKind.i64.wrap (n + 1) = n + 1 := wE (by omega) (by omega) (by omega)
      have wk1 : IntKind.i64.wrap (n + 1 + 1) = n + 2 := wE (by omega) (by omega) (by omega)
      have wk2 : IntKind.i64.wrap (n + 2 + 1) = n + 3 := wE (by omega) (by omega) (by omega)
      have ff := And.intro @g0 (And.intro @g1 (And.intro @g5 (And.intro @m1 (And.intro @w2 (And.intro @wk0 (And.intro @wk1 (And.intro @wk2 (And.intro @hi (And.intro @hmi (And.intro ((fun v => esTick27_set_Time L i v hmi)) (And.intro ((fun a v => esTick27_set_Time (L.set i a) i v (hms a))) (And.intro ((fun v => esTick27_set_Name L i v hmi)) (And.intro ((fun a v => esTick27_set_Name (L.set i a) i v (hms a))) (And.intro ((fun v => esTick27_set_Open L i v hmi)) (And.intro ((fun a v => esTick27_set_Open (L.set i a) i v (hms a))) (And.intro @esTick27_len (And.intro @lset_len (And.intro @lget_set (And.intro @lset_set (And.intro @mbool_eq (And.intro @Ty.sl68 (And.intro @Ty.slz68 (And.intro @Ty.ldA3 (And.intro @Ty.ldS3 (And.intro @Ty.sz3 (And.intro @Ty.szn3 (And.intro @Ty.ldA9 (And.intro @Ty.ldS9 (And.intro @Ty.sz9 (And.intro @Ty.szn9 (And.intro @Ty.ldA4 (And.intro @Ty.ldS4 (And.intro @Ty.sz4 (And.intro @Ty.szn4 (And.intro @Ty.fo125_0 (And.intro @Ty.fk125_0 (And.intro @Ty.fs125_0 (And.intro @Ty.fn125_0 (And.intro @Ty.fo125_1 (And.intro @Ty.fk125_1 (And.intro @Ty.fs125_1 (And.intro @Ty.fn125_1 (And.intro @Ty.fo125_2 (And.intro @Ty.fk125_2 (And.intro @Ty.fs125_2 @Ty.fn125_2)))))))))))))))))))))))))))))))))))))))))))))
      try refine st_by ff ?_
      repeat' (first
        | exact trivial
        | (refine And.intro ?_ ?_; · (try clear ff; first | omega | (simp [esTick27_len, hmidl]; omega) | decide))
        | (refine ret_q1 rfl ?_; (try refine sr_by ff ?_); all_goals (try clear ff); all_goals (try exact trivial); all_goals (skip))
        | (refine cq_call (markText_does (n + 1) (by omega)) ?_ ?_ ⟨?_, ?_⟩; (· first | rfl | exact cl_by ff); (· first | assumption | kernel_rfl); (· first | exact ca_by ff | (refine sa_by ff ?_; try clear ff; first | exact trivial | omega | (simp [esTick27_len, hmidl]; omega) | decide)); refine st_by ff ?_)
        | (with_reducible refine CBC_eq (fun hp hd => ?_) (fun hp hd => ?_) <;> refine st_by (And.intro hd ff) ?_)
        | (with_reducible refine CBC_ne (fun hp hd => ?_) (fun hp hd => ?_) <;> refine st_by (And.intro hd ff) ?_)
        | (with_reducible refine CBC_decT ?_ (fun hd => ?_); (· try clear ff; first | assumption | omega); refine st_by (And.intro hd ff) ?_)
        | (with_reducible refine CBC_decF ?_ (fun hd => ?_); (· try clear ff; first | assumption | omega); refine st_by (And.intro hd ff) ?_)
        | (with_reducible refine CBC_dec (fun hp hd => ?_) (fun hp hd => ?_) <;> refine st_by (And.intro hd ff) ?_)
        | (refine CBC_bool (fun hd => ?_) (fun hd => ?_) <;> refine st_by (And.intro hd ff) ?_)
        | (with_reducible refine GQ_eq (fun hp hd => ?_) (fun hp hd => ?_) <;> refine st_by (And.intro hd ff) ?_)
        | (with_reducible refine GQ_ne (fun hp hd => ?_) (fun hp hd => ?_) <;> refine st_by (And.intro hd ff) ?_)
        | (with_reducible refine GQ_decT ?_ (fun hd => ?_); (· try clear ff; first | assumption | omega); refine st_by (And.intro hd ff) ?_)
        | (with_reducible refine GQ_decF ?_ (fun hd => ?_); (· try clear ff; first | assumption | omega); refine st_by (And.intro hd ff) ?_)
        | (with_reducible refine GQ_dec (fun hp hd => ?_) (fun hp hd => ?_) <;> refine st_by (And.intro hd ff) ?_)
        | (with_reducible refine GQ_ndT ?_ (fun hd => ?_); (· try clear ff; first | assumption | omega); refine st_by (And.intro hd ff) ?_)
        | (with_reducible refine GQ_ndF ?_ (fun hd => ?_); (· try clear ff; first | assumption | omega); refine st_by (And.intro hd ff) ?_)
        | (with_reducible refine GQ_nd (fun hp hd => ?_) (fun hp hd => ?_) <;> refine st_by (And.intro hd ff) ?_)
        | (refine GQ_nb (fun hd => ?_) (fun hd => ?_) <;> refine st_by (And.intro hd ff) ?_)
        | (refine GQ_bool (fun hd => ?_) (fun hd => ?_) <;> refine st_by (And.intro hd ff) ?_)
        | (try clear ff; refine ⟨i + 1, ⟨?_, ?_, ?_, ?_⟩, ?_⟩; (· omega); (· refine congrArg I ?_; omega); (· rfl); (· rw [← hmid]; simp only [mTick27, hmg, mbool_eq]); (· omega)))
      all_goals try clear ff
    · have e1 : midL mTick27 cTick27 l k i = markL mTick27 cTick27 l k := midL_all l k i (by omega)
      have e2 : l.take i = l := List.take_of_length_le (by omega)
      rw [e1] at m1
      rw [e2] at g1
      have ff := And.intro @g0 (And.intro @g1 (And.intro @g5 (And.intro @m1 (And.intro @Ty.sl68 (And.intro @Ty.slz68 (And.intro @Ty.ldA3 (And.intro @Ty.ldS3 (And.intro @Ty.sz3 (And.intro @Ty.szn3 (And.intro @Ty.ldA9 (And.intro @Ty.ldS9 (And.intro @Ty.sz9 (And.intro @Ty.szn9 (And.intro @Ty.ldA4 (And.intro @Ty.ldS4 (And.intro @Ty.sz4 (And.intro @Ty.szn4 (And.intro @Ty.fo125_0 (And.intro @Ty.fk125_0 (And.intro @Ty.fs125_0 (And.intro @Ty.fn125_0 (And.intro @Ty.fo125_1 (And.intro @Ty.fk125_1 (And.intro @Ty.fs125_1 (And.intro @Ty.fn125_1 (And.intro @Ty.fo125_2 (And.intro @Ty.fk125_2 (And.intro @Ty.fs125_2 @Ty.fn125_2))))))))))))))))))))))))))))
      try refine st_by ff ?_
      repeat' (first
        | exact trivial
        | (refine And.intro ?_ ?_; · (try clear ff; first | omega))
        | (refine retX_q1 rfl ?_; (try refine sr_by ff ?_); all_goals (try clear ff); all_goals (try exact trivial); all_goals ((refine regsOk_one ?_; (first | exact cl_by @m1 | refine st_by @m1 ?_))))
        | (with_reducible refine CBC_eq (fun hp hd => ?_) (fun hp hd => ?_) <;> refine st_by (And.intro hd ff) ?_)
        | (with_reducible refine CBC_ne (fun hp hd => ?_) (fun hp hd => ?_) <;> refine st_by (And.intro hd ff) ?_)
        | (with_reducible refine CBC_decT ?_ (fun hd => ?_); (· try clear ff; first | assumption | omega); refine st_by (And.intro hd ff) ?_)
        | (with_reducible refine CBC_decF ?_ (fun hd => ?_); (· try clear ff; first | assumption | omega); refine st_by (And.intro hd ff) ?_)
        | (with_reducible refine CBC_dec (fun hp hd => ?_) (fun hp hd => ?_) <;> refine st_by (And.intro hd ff) ?_)
        | (refine CBC_bool (fun hd => ?_) (fun hd => ?_) <;> refine st_by (And.intro hd ff) ?_)
        | (with_reducible refine GQ_eq (fun hp hd => ?_) (fun hp hd => ?_) <;> refine st_by (And.intro hd ff) ?_)
        | (with_reducible refine GQ_ne (fun hp hd => ?_) (fun hp hd => ?_) <;> refine st_by (And.intro hd ff) ?_)
        | (with_reducible refine GQ_decT ?_ (fun hd => ?_); (· try clear ff; first | assumption | omega); refine st_by (And.intro hd ff) ?_)
        | (with_reducible refine GQ_decF ?_ (fun hd => ?_); (· try clear ff; first | assumption | omega); refine st_by (And.intro hd ff) ?_)
        | (with_reducible refine GQ_dec (fun hp hd => ?_) (fun hp hd => ?_) <;> refine st_by (And.intro hd ff) ?_)
        | (with_reducible refine GQ_ndT ?_ (fun hd => ?_); (· try clear ff; first | assumption | omega); refine st_by (And.intro hd ff) ?_)
        | (with_reducible refine GQ_ndF ?_ (fun hd => ?_); (· try clear ff; first | assumption | omega); refine st_by (And.intro hd ff) ?_)
        | (with_reducible refine GQ_nd (fun hp hd => ?_) (fun hp hd => ?_) <;> refine st_by (And.intro hd ff) ?_)
        | (refine GQ_nb (fun hd => ?_) (fun hd => ?_) <;> refine st_by (And.intro hd ff) ?_)
        | (refine GQ_bool (fun hd => ?_) (fun hd => ?_) <;> refine st_by (And.intro hd ff) ?_))
      all_goals try clear ff
/-! Total -/
def wfTotal (n : Nat) (x : GTotal) : Prop := x.Name.size ≤ n
def szTotal (x : GTotal) (left : Int) : Int := szStep (left - x.Name.size) fun left => left
theorem szTotal_ok : szOk szTotal := fun x left h => szStep_le h (by omega) (fun left h => Int.le_refl _)
theorem eqTotal_does (x y : GTotal) : Does Try.prog 112 [.agg (eTotal x), .agg (eTotal y)] (B (decide (x = y))) := by
  have hxy : decide (x = y) = decide (x.Name = y.Name ∧ x.Count = y.Count ∧ x.All = y.All ∧ x.Own = y.Own) := decide_eq_decide.2 (by cases x; cases y; simp)
  rw [hxy]
  refine Does.walk (nt := 25) Try.func112 rfl rfl (by simp) (by decide) rfl (fun G0 X w0 pv => ?_)
  have ff := And.intro @eTotal_eq (And.intro @str_beq (And.intro @Ty.ldA9 (And.intro @Ty.ldS9 (And.intro @Ty.sz9 (And.intro @Ty.szn9 (And.intro @Ty.ldA3 (And.intro @Ty.ldS3 (And.intro @Ty.sz3 (And.intro @Ty.szn3 (And.intro @Ty.fo89_0 (And.intro @Ty.fk89_0 (And.intro @Ty.fs89_0 (And.intro @Ty.fn89_0 (And.intro @Ty.fo89_1 (And.intro @Ty.fk89_1 (And.intro @Ty.fs89_1 (And.intro @Ty.fn89_1 (And.intro @Ty.fo89_2 (And.intro @Ty.fk89_2 (And.intro @Ty.fs89_2 (And.intro @Ty.fn89_2 (And.intro @Ty.fo89_3 (And.intro @Ty.fk89_3 (And.intro @Ty.fs89_3 @Ty.fn89_3))))))))))))))))))))))))
  try refine st_by ff ?_
  repeat' (first
    | exact trivial
    | (refine And.intro ?_ ?_; · (try clear ff; first | omega))
    | (refine ret_q1 rfl ?_; (try refine sr_by ff ?_); all_goals (try clear ff); all_goals (try exact trivial); all_goals (simp_all))
    | (with_reducible refine CBC_eq (fun hp hd => ?_) (fun hp hd => ?_) <;> refine st_by (And.intro hd ff) ?_)
    | (with_reducible refine CBC_ne (fun hp hd => ?_) (fun hp hd => ?_) <;> refine st_by (And.intro hd ff) ?_)
    | (with_reducible refine CBC_decT ?_ (fun hd => ?_); (· try clear ff; first | assumption | omega); refine st_by (And.intro hd ff) ?_)
    | (with_reducible refine CBC_decF ?_ (fun hd => ?_); (· try clear ff; first | assumption | omega); refine st_by (And.intro hd ff) ?_)
    | (with_reducible refine CBC_dec (fun hp hd => ?_) (fun hp hd => ?_) <;> refine st_by (And.intro hd ff) ?_)
    | (refine CBC_bool (fun hd => ?_) (fun hd => ?_) <;> refine st_by (And.intro hd ff) ?_)
    | (with_reducible refine GQ_eq (fun hp hd => ?_) (fun hp hd => ?_) <;> refine st_by (And.intro hd ff) ?_)
    | (with_reducible refine GQ_ne (fun hp hd => ?_) (fun hp hd => ?_) <;> refine st_by (And.intro hd ff) ?_)
    | (with_reducible refine GQ_decT ?_ (fun hd => ?_); (· try clear ff; first | assumption | omega); refine st_by (And.intro hd ff) ?_)
    | (with_reducible refine GQ_decF ?_ (fun hd => ?_); (· try clear ff; first | assumption | omega); refine st_by (And.intro hd ff) ?_)
    | (with_reducible refine GQ_dec (fun hp hd => ?_) (fun hp hd => ?_) <;> refine st_by (And.intro hd ff) ?_)
    | (with_reducible refine GQ_ndT ?_ (fun hd => ?_); (· try clear ff; first | assumption | omega); refine st_by (And.intro hd ff) ?_)
    | (with_reducible refine GQ_ndF ?_ (fun hd => ?_); (· try clear ff; first | assumption | omega); refine st_by (And.intro hd ff) ?_)
    | (with_reducible refine GQ_nd (fun hp hd => ?_) (fun hp hd => ?_) <;> refine st_by (And.intro hd ff) ?_)
    | (refine GQ_nb (fun hd => ?_) (fun hd => ?_) <;> refine st_by (And.intro hd ff) ?_)
    | (refine GQ_bool (fun hd => ?_) (fun hd => ?_) <;> refine st_by (And.intro hd ff) ?_))
  all_goals try clear ff
/-! []Total -/
theorem eqTotalS_does (l k : List GTotal) (hl : l.length ≤ 9223372036854775807) (hk : k.length ≤ 9223372036854775807) : Does Try.prog 56 [.row false 4 l.length (esTotal l), .row false 4 k.length (esTotal k)] (B (decide (l = k))) := by
  refine Does.walk (nt := 27) Try.func56 rfl rfl (by simp) (by decide) rfl (fun G0 X w0 pv => ?_)
  have ff := And.intro @Ty.sl79 (And.intro @Ty.slz79 (And.intro @Ty.ldA89 (And.intro @Ty.sz89 @Ty.szn89)))
  try refine st_by ff ?_
  repeat' (first
    | exact trivial
    | (refine And.intro ?_ ?_; · (try clear ff; first | omega))
    | (refine ret_q1 rfl ?_; (try refine sr_by ff ?_); all_goals (try clear ff); all_goals (try exact trivial); all_goals ((have : ¬ l = k := fun e => by subst e; omega); simp [this]))
    | (refine aw_drawn (id := 6) ?_ [[], [], [0, 1], [0, 1, 2], [], [], [4, 5], [4, 5, 6], [0, 1, 2, 3, 4, 5, 6, 7], [0, 1, 2, 3, 4, 5, 6, 7, 8]] 8 ?_ ?_; (· kernel_rfl); (· kernel_rfl); refine st_by ff ?_)
    | (with_reducible refine CBC_eq (fun hp hd => ?_) (fun hp hd => ?_) <;> refine st_by (And.intro hd ff) ?_)
    | (with_reducible refine CBC_ne (fun hp hd => ?_) (fun hp hd => ?_) <;> refine st_by (And.intro hd ff) ?_)
    | (with_reducible refine CBC_decT ?_ (fun hd => ?_); (· try clear ff; first | assumption | omega); refine st_by (And.intro hd ff) ?_)
    | (with_reducible refine CBC_decF ?_ (fun hd => ?_); (· try clear ff; first | assumption | omega); refine st_by (And.intro hd ff) ?_)
    | (with_reducible refine CBC_dec (fun hp hd => ?_) (fun hp hd => ?_) <;> refine st_by (And.intro hd ff) ?_)
    | (refine CBC_bool (fun hd => ?_) (fun hd => ?_) <;> refine st_by (And.intro hd ff) ?_)
    | (with_reducible refine GQ_eq (fun hp hd => ?_) (fun hp hd => ?_) <;> refine st_by (And.intro hd ff) ?_)
    | (with_reducible refine GQ_ne (fun hp hd => ?_) (fun hp hd => ?_) <;> refine st_by (And.intro hd ff) ?_)
    | (with_reducible refine GQ_decT ?_ (fun hd => ?_); (· try clear ff; first | assumption | omega); refine st_by (And.intro hd ff) ?_)
    | (with_reducible refine GQ_decF ?_ (fun hd => ?_); (· try clear ff; first | assumption | omega); refine st_by (And.intro hd ff) ?_)
    | (with_reducible refine GQ_dec (fun hp hd => ?_) (fun hp hd => ?_) <;> refine st_by (And.intro hd ff) ?_)
    | (with_reducible refine GQ_ndT ?_ (fun hd => ?_); (· try clear ff; first | assumption | omega); refine st_by (And.intro hd ff) ?_)
    | (with_reducible refine GQ_ndF ?_ (fun hd => ?_); (· try clear ff; first | assumption | omega); refine st_by (And.intro hd ff) ?_)
    | (with_reducible refine GQ_nd (fun hp hd => ?_) (fun hp hd => ?_) <;> refine st_by (And.intro hd ff) ?_)
    | (refine GQ_nb (fun hd => ?_) (fun hd => ?_) <;> refine st_by (And.intro hd ff) ?_)
    | (refine GQ_bool (fun hd => ?_) (fun hd => ?_) <;> refine st_by (And.intro hd ff) ?_)
    | (with_reducible refine GD_eq (fun hp hd => ?_) (fun hp hd => ?_) <;> refine st_by (And.intro hd ff) ?_)
    | (with_reducible refine GD_ne (fun hp hd => ?_) (fun hp hd => ?_) <;> refine st_by (And.intro hd ff) ?_)
    | (with_reducible refine GD_decT ?_ (fun hd => ?_); (· try clear ff; first | assumption | omega); refine st_by (And.intro hd ff) ?_)
    | (with_reducible refine GD_decF ?_ (fun hd => ?_); (· try clear ff; first | assumption | omega); refine st_by (And.intro hd ff) ?_)
    | (with_reducible refine GD_dec (fun hp hd => ?_) (fun hp hd => ?_) <;> refine st_by (And.intro hd ff) ?_)
    | (with_reducible refine GD_ndT ?_ (fun hd => ?_); (· try clear ff; first | assumption | omega); refine st_by (And.intro hd ff) ?_)
    | (with_reducible refine GD_ndF ?_ (fun hd => ?_); (· try clear ff; first | assumption | omega); refine st_by (And.intro hd ff) ?_)
    | (with_reducible refine GD_nd (fun hp hd => ?_) (fun hp hd => ?_) <;> refine st_by (And.intro hd ff) ?_)
    | (refine GD_nb (fun hd => ?_) (fun hd => ?_) <;> refine st_by (And.intro hd ff) ?_)
    | (refine GD_bool (fun hd => ?_) (fun hd => ?_) <;> refine st_by (And.intro hd ff) ?_))
  all_goals try clear ff
  have hlk : l.length = k.length := by omega
  refine aw_loop (ι := Nat) (fun i σ => (i ≤ l.length ∧ l.take i = k.take i) ∧ σ.t 0 = .row false 4 l.length (esTotal l) ∧ σ.t 1 = .row false 4 k.length (esTotal k) ∧ σ.t 5 = I i) (fun i => l.length - i) 0 ?_ ?_
  · (first | exact cl_by trivial | refine st_by trivial ?_)
    try simp
  · rintro i σ ⟨⟨h2, h3⟩, g0, g1, g5⟩
    by_cases hi : i < l.length
    · have hi' : i < k.length := by omega
      have w2 : IntKind.i64.wrap ((i : Int) + 1) = ((i + 1 : Nat) : Int) := wI _ (by omega) (by omega)
      have hne : ¬ l[i] = k[i] → ¬ l = k := fun h e => h (by subst e; rfl)
      have heq : l[i] = k[i] → l.take (i + 1) = k.take (i + 1) := fun h => by rw [List.take_succ_eq_append_getElem hi, List.take_succ_eq_append_getElem hi', h3, h]
      have ff := And.intro @g0 (And.intro @g1 (And.intro @g5 (And.intro @w2 (And.intro @hi (And.intro @hi' (And.intro ((esTotal_drop l i hi)) (And.intro @esTotal_len (And.intro @eTotal_eq (And.intro ((esTotal_drop k i hi')) (And.intro @str_beq (And.intro @Ty.sl79 (And.intro @Ty.slz79 (And.intro @Ty.ldA89 (And.intro @Ty.sz89 @Ty.szn89))))))))))))))
      try refine st_by ff ?_
      repeat' (first
        | exact trivial
        | (refine And.intro ?_ ?_; · (try clear ff; first | omega | (rw [List.length_append]; simp [esTotal_len]; omega) | (simp [eTotal]; done) | decide | (simp [esTotal_len]; omega) | rfl))
        | (refine ret_q1 rfl ?_; (try refine sr_by ff ?_); all_goals (try clear ff); all_goals (try exact trivial); all_goals (simp [hne (by simpa using hp)]))
        | (refine cq_call (eqTotal_does l[i] k[i]) ?_ ?_ ⟨?_, ?_⟩; (· first | rfl | exact cl_by ff); (· first | assumption | kernel_rfl); (· first | exact ca_by ff | (refine sa_by ff ?_; try clear ff; first | exact trivial | omega | (rw [List.length_append]; simp [esTotal_len]; omega) | (simp [eTotal]; done) | decide | (simp [esTotal_len]; omega) | rfl)); refine st_by ff ?_)
        | (refine cq_dcall (eqTotal_does l[i] k[i]) ?_ ?_ ⟨?_, ?_⟩; (· first | rfl | exact cl_by ff); (· first | assumption | kernel_rfl); (· first | exact ca_by ff | (refine sa_by ff ?_; try clear ff; first | exact trivial | omega | (rw [List.length_append]; simp [esTotal_len]; omega) | (simp [eTotal]; done) | decide | (simp [esTotal_len]; omega) | rfl)); refine st_by ff ?_)
        | (refine aw_drawn (id := 6) ?_ [[], [], [0, 1], [0, 1, 2], [], [], [4, 5], [4, 5, 6], [0, 1, 2, 3, 4, 5, 6, 7], [0, 1, 2, 3, 4, 5, 6, 7, 8]] 8 ?_ ?_; (· kernel_rfl); (· kernel_rfl); refine st_by ff ?_)
        | (with_reducible refine CBC_eq (fun hp hd => ?_) (fun hp hd => ?_) <;> refine st_by (And.intro hd ff) ?_)
        | (with_reducible refine CBC_ne (fun hp hd => ?_) (fun hp hd => ?_) <;> refine st_by (And.intro hd ff) ?_)
        | (with_reducible refine CBC_decT ?_ (fun hd => ?_); (· try clear ff; first | assumption | omega); refine st_by (And.intro hd ff) ?_)
        | (with_reducible refine CBC_decF ?_ (fun hd => ?_); (· try clear ff; first | assumption | omega); refine st_by (And.intro hd ff) ?_)
        | (with_reducible refine CBC_dec (fun hp hd => ?_) (fun hp hd => ?_) <;> refine st_by (And.intro hd ff) ?_)
        | (refine CBC_bool (fun hd => ?_) (fun hd => ?_) <;> refine st_by (And.intro hd ff) ?_)
        | (with_reducible refine GQ_eq (fun hp hd => ?_) (fun hp hd => ?_) <;> refine st_by (And.intro hd ff) ?_)
        | (with_reducible refine GQ_ne (fun hp hd => ?_) (fun hp hd => ?_) <;> refine st_by (And.intro hd ff) ?_)
        | (with_reducible refine GQ_decT ?_ (fun hd => ?_); (· try clear ff; first | assumption | omega); refine st_by (And.intro hd ff) ?_)
        | (with_reducible refine GQ_decF ?_ (fun hd => ?_); (· try clear ff; first | assumption | omega); refine st_by (And.intro hd ff) ?_)
        | (with_reducible refine GQ_dec (fun hp hd => ?_) (fun hp hd => ?_) <;> refine st_by (And.intro hd ff) ?_)
        | (with_reducible refine GQ_ndT ?_ (fun hd => ?_); (· try clear ff; first | assumption | omega); refine st_by (And.intro hd ff) ?_)
        | (with_reducible refine GQ_ndF ?_ (fun hd => ?_); (· try clear ff; first | assumption | omega); refine st_by (And.intro hd ff) ?_)
        | (with_reducible refine GQ_nd (fun hp hd => ?_) (fun hp hd => ?_) <;> refine st_by (And.intro hd ff) ?_)
        | (refine GQ_nb (fun hd => ?_) (fun hd => ?_) <;> refine st_by (And.intro hd ff) ?_)
        | (refine GQ_bool (fun hd => ?_) (fun hd => ?_) <;> refine st_by (And.intro hd ff) ?_)
        | (with_reducible refine GD_eq (fun hp hd => ?_) (fun hp hd => ?_) <;> refine st_by (And.intro hd ff) ?_)
        | (with_reducible refine GD_ne (fun hp hd => ?_) (fun hp hd => ?_) <;> refine st_by (And.intro hd ff) ?_)
        | (with_reducible refine GD_decT ?_ (fun hd => ?_); (· try clear ff; first | assumption | omega); refine st_by (And.intro hd ff) ?_)
        | (with_reducible refine GD_decF ?_ (fun hd => ?_); (· try clear ff; first | assumption | omega); refine st_by (And.intro hd ff) ?_)
        | (with_reducible refine GD_dec (fun hp hd => ?_) (fun hp hd => ?_) <;> refine st_by (And.intro hd ff) ?_)
        | (with_reducible refine GD_ndT ?_ (fun hd => ?_); (· try clear ff; first | assumption | omega); refine st_by (And.intro hd ff) ?_)
        | (with_reducible refine GD_ndF ?_ (fun hd => ?_); (· try clear ff; first | assumption | omega); refine st_by (And.intro hd ff) ?_)
        | (with_reducible refine GD_nd (fun hp hd => ?_) (fun hp hd => ?_) <;> refine st_by (And.intro hd ff) ?_)
        | (refine GD_nb (fun hd => ?_) (fun hd => ?_) <;> refine st_by (And.intro hd ff) ?_)
        | (refine GD_bool (fun hd => ?_) (fun hd => ?_) <;> refine st_by (And.intro hd ff) ?_)
        | (try clear ff; refine ⟨i + 1, ⟨⟨?_, heq ?_⟩, rfl⟩, ?_⟩; (· omega); (· simpa using hp); (· omega)))
      all_goals try clear ff
    · have e1 : l = k := by rw [List.take_of_length_le (by omega), List.take_of_length_le (by omega)] at h3; exact h3
      have ff := And.intro @g0 (And.intro @g1 (And.intro @g5 (And.intro @Ty.sl79 (And.intro @Ty.slz79 (And.intro @Ty.ldA89 (And.intro @Ty.sz89 @Ty.szn89))))))
      try refine st_by ff ?_
      repeat' (first
        | exact trivial
        | (refine And.intro ?_ ?_; · (try clear ff; first | omega))
        | (refine ret_q1 rfl ?_; (try refine sr_by ff ?_); all_goals (try clear ff); all_goals (try exact trivial); all_goals (simp [e1]))
        | (refine aw_drawn (id := 6) ?_ [[], [], [0, 1], [0, 1, 2], [], [], [4, 5], [4, 5, 6], [0, 1, 2, 3, 4, 5, 6, 7], [0, 1, 2, 3, 4, 5, 6, 7, 8]] 8 ?_ ?_; (· kernel_rfl); (· kernel_rfl); refine st_by ff ?_)
        | (with_reducible refine CBC_eq (fun hp hd => ?_) (fun hp hd => ?_) <;> refine st_by (And.intro hd ff) ?_)
        | (with_reducible refine CBC_ne (fun hp hd => ?_) (fun hp hd => ?_) <;> refine st_by (And.intro hd ff) ?_)
        | (with_reducible refine CBC_decT ?_ (fun hd => ?_); (· try clear ff; first | assumption | omega); refine st_by (And.intro hd ff) ?_)
        | (with_reducible refine CBC_decF ?_ (fun hd => ?_); (· try clear ff; first | assumption | omega); refine st_by (And.intro hd ff) ?_)
        | (with_reducible refine CBC_dec (fun hp hd => ?_) (fun hp hd => ?_) <;> refine st_by (And.intro hd ff) ?_)
        | (refine CBC_bool (fun hd => ?_) (fun hd => ?_) <;> refine st_by (And.intro hd ff) ?_)
        | (with_reducible refine GQ_eq (fun hp hd => ?_) (fun hp hd => ?_) <;> refine st_by (And.intro hd ff) ?_)
        | (with_reducible refine GQ_ne (fun hp hd => ?_) (fun hp hd => ?_) <;> refine st_by (And.intro hd ff) ?_)
        | (with_reducible refine GQ_decT ?_ (fun hd => ?_); (· try clear ff; first | assumption | omega); refine st_by (And.intro hd ff) ?_)
        | (with_reducible refine GQ_decF ?_ (fun hd => ?_); (· try clear ff; first | assumption | omega); refine st_by (And.intro hd ff) ?_)
        | (with_reducible refine GQ_dec (fun hp hd => ?_) (fun hp hd => ?_) <;> refine st_by (And.intro hd ff) ?_)
        | (with_reducible refine GQ_ndT ?_ (fun hd => ?_); (· try clear ff; first | assumption | omega); refine st_by (And.intro hd ff) ?_)
        | (with_reducible refine GQ_ndF ?_ (fun hd => ?_); (· try clear ff; first | assumption | omega); refine st_by (And.intro hd ff) ?_)
        | (with_reducible refine GQ_nd (fun hp hd => ?_) (fun hp hd => ?_) <;> refine st_by (And.intro hd ff) ?_)
        | (refine GQ_nb (fun hd => ?_) (fun hd => ?_) <;> refine st_by (And.intro hd ff) ?_)
        | (refine GQ_bool (fun hd => ?_) (fun hd => ?_) <;> refine st_by (And.intro hd ff) ?_)
        | (with_reducible refine GD_eq (fun hp hd => ?_) (fun hp hd => ?_) <;> refine st_by (And.intro hd ff) ?_)
        | (with_reducible refine GD_ne (fun hp hd => ?_) (fun hp hd => ?_) <;> refine st_by (And.intro hd ff) ?_)
        | (with_reducible refine GD_decT ?_ (fun hd => ?_); (· try clear ff; first | assumption | omega); refine st_by (And.intro hd ff) ?_)
        | (with_reducible refine GD_decF ?_ (fun hd => ?_); (· try clear ff; first | assumption | omega); refine st_by (And.intro hd ff) ?_)
        | (with_reducible refine GD_dec (fun hp hd => ?_) (fun hp hd => ?_) <;> refine st_by (And.intro hd ff) ?_)
        | (with_reducible refine GD_ndT ?_ (fun hd => ?_); (· try clear ff; first | assumption | omega); refine st_by (And.intro hd ff) ?_)
        | (with_reducible refine GD_ndF ?_ (fun hd => ?_); (· try clear ff; first | assumption | omega); refine st_by (And.intro hd ff) ?_)
        | (with_reducible refine GD_nd (fun hp hd => ?_) (fun hp hd => ?_) <;> refine st_by (And.intro hd ff) ?_)
        | (refine GD_nb (fun hd => ?_) (fun hd => ?_) <;> refine st_by (And.intro hd ff) ?_)
        | (refine GD_bool (fun hd => ?_) (fun hd => ?_) <;> refine st_by (And.intro hd ff) ?_))
      all_goals try clear ff
def mTotal (x : GTotal) (k : Int) : GTotal := { x with Name := mtext (k), Count := k + 1, All := k + 2, Own := k + 3 }
def cTotal (x : GTotal) : Nat := 4
theorem markTotalS_does (l : List GTotal) (k : Int) (h0 : 0 ≤ k) (hk : k + cntL cTotal l ≤ 4611686018427387904) (hl : l.length ≤ 9223372036854775807) :
    DoesX Try.prog 57 [.sl 1000 [] 0 l.length, I k] [.row true 4 l.length (esTotal l)] (I (k + cntL cTotal l)) [.row true 4 l.length (esTotal (markL mTotal cTotal l k))] := by
  refine DoesX.walk (nt := 42) Try.func57 rfl rfl (by simp) (by decide) rfl (fun G0 X w0 pv => ?_)
  have ff := And.intro @Ty.sl79 (And.intro @Ty.slz79 (And.intro @Ty.ldA9 (And.intro @Ty.ldS9 (And.intro @Ty.sz9 (And.intro @Ty.szn9 (And.intro @Ty.ldA3 (And.intro @Ty.ldS3 (And.intro @Ty.sz3 (And.intro @Ty.szn3 (And.intro @Ty.fo89_0 (And.intro @Ty.fk89_0 (And.intro @Ty.fs89_0 (And.intro @Ty.fn89_0 (And.intro @Ty.fo89_1 (And.intro @Ty.fk89_1 (And.intro @Ty.fs89_1 (And.intro @Ty.fn89_1 (And.intro @Ty.fo89_2 (And.intro @Ty.fk89_2 (And.intro @Ty.fs89_2 (And.intro @Ty.fn89_2 (And.intro @Ty.fo89_3 (And.intro @Ty.fk89_3 (And.intro @Ty.fs89_3 @Ty.fn89_3))))))))))))))))))))))))
  try refine st_by ff ?_
  repeat' (first
    | exact trivial
    | (refine And.intro ?_ ?_; · (try clear ff; first | omega))
    | (refine ret_q1 rfl ?_; (try refine sr_by ff ?_); all_goals (try clear ff); all_goals (try exact trivial); all_goals (skip))
    | (with_reducible refine CBC_eq (fun hp hd => ?_) (fun hp hd => ?_) <;> refine st_by (And.intro hd ff) ?_)
    | (with_reducible refine CBC_ne (fun hp hd => ?_) (fun hp hd => ?_) <;> refine st_by (And.intro hd ff) ?_)
    | (with_reducible refine CBC_decT ?_ (fun hd => ?_); (· try clear ff; first | assumption | omega); refine st_by (And.intro hd ff) ?_)
    | (with_reducible refine CBC_decF ?_ (fun hd => ?_); (· try clear ff; first | assumption | omega); refine st_by (And.intro hd ff) ?_)
    | (with_reducible refine CBC_dec (fun hp hd => ?_) (fun hp hd => ?_) <;> refine st_by (And.intro hd ff) ?_)
    | (refine CBC_bool (fun hd => ?_) (fun hd => ?_) <;> refine st_by (And.intro hd ff) ?_)
    | (with_reducible refine GQ_eq (fun hp hd => ?_) (fun hp hd => ?_) <;> refine st_by (And.intro hd ff) ?_)
    | (with_reducible refine GQ_ne (fun hp hd => ?_) (fun hp hd => ?_) <;> refine st_by (And.intro hd ff) ?_)
    | (with_reducible refine GQ_decT ?_ (fun hd => ?_); (· try clear ff; first | assumption | omega); refine st_by (And.intro hd ff) ?_)
    | (with_reducible refine GQ_decF ?_ (fun hd => ?_); (· try clear ff; first | assumption | omega); refine st_by (And.intro hd ff) ?_)
    | (with_reducible refine GQ_dec (fun hp hd => ?_) (fun hp hd => ?_) <;> refine st_by (And.intro hd ff) ?_)
    | (with_reducible refine GQ_ndT ?_ (fun hd => ?_); (· try clear ff; first | assumption | omega); refine st_by (And.intro hd ff) ?_)
    | (with_reducible refine GQ_ndF ?_ (fun hd => ?_); (· try clear ff; first | assumption | omega); refine st_by (And.intro hd ff) ?_)
    | (with_reducible refine GQ_nd (fun hp hd => ?_) (fun hp hd => ?_) <;> refine st_by (And.intro hd ff) ?_)
    | (refine GQ_nb (fun hd => ?_) (fun hd => ?_) <;> refine st_by (And.intro hd ff) ?_)
    | (refine GQ_bool (fun hd => ?_) (fun hd => ?_) <;> refine st_by (And.intro hd ff) ?_))
  all_goals try clear ff
  refine aw_loop (ι := Nat) (fun i σ => (i ≤ l.length) ∧ σ.t 0 = .sl 1000 [] 0 l.length ∧ σ.t 1 = I (k + cntL cTotal (l.take i)) ∧ σ.t 5 = I i ∧ σ.m 1000 = some (.row true 4 l.length (esTotal (midL mTotal cTotal l k i)))) (fun i => l.length - i) 0 ?_ ?_
  · (first | exact cl_by trivial | refine st_by trivial ?_)
    simp [midL_zero, cntL]
  · rintro i σ ⟨h2, g0, g1, g5, m1⟩
    by_cases hi : i < l.length
    · have w2 : IntKind.i64.wrap ((i : Int) + 1) = ((i + 1 : Nat) : Int) := wI _ (by omega) (by omega)
      have hc := cntL_lt (c := cTotal) l i hi
      have hc1 := cntL_take (c := cTotal) l i hi
      have hmid := midL_set (f := mTotal) (c := cTotal) l k i hi
      have hmq : (midL mTotal cTotal l k i)[i]? = some l[i] := by rw [List.getElem?_eq_getElem (by rw [midL_len]; exact hi), midL_get l k i hi]
      have hmi : i < (midL mTotal cTotal l k i).length := by rw [midL_len]; exact hi
      have hmidl := midL_len (f := mTotal) (c := cTotal) l k i
      simp only [cTotal] at hc hc1
      generalize midL mTotal cTotal l k i = L at m1 hmid hmq hmi hmidl
      have hms : ∀ a, i < (L.set i a).length := fun a => by rw [List.length_set]; exact hmi
      have hmg : L[i] = l[i] := by rw [List.getElem?_eq_getElem hmi] at hmq; simpa using hmq
      generalize hn : k + (cntL cTotal (l.take i) : Int) = n at g1 hmid
      have wk0 : IntKind.i64.wrap (n + 1) = n + 1 := wE (by omega) (by omega) (by omega)
      have wk1 : IntKind.i64.wrap (n + 1 + 1) = n + 2 := wE (by omega) (by omega) (by omega)
      have wk2 : IntKind.i64.wrap (n + 2 + 1) = n + 3 := wE (by omega) (by omega) (by omega)
      have wk3 : IntKind.i64.wrap (n + 3 + 1) = n + 4 := wE (by omega) (by omega) (by omega)
      have ff := And.intro @g0 (And.intro @g1 (And.intro @g5 (And.intro @m1 (And.intro @w2 (And.intro @wk0 (And.intro @wk1 (And.intro @wk2 (And.intro @wk3 (And.intro @hi (And.intro @hmi (And.intro ((fun v => esTotal_set_Name L i v hmi)) (And.intro ((fun a v => esTotal_set_Name (L.set i a) i v (hms a))) (And.intro ((fun v => esTotal_set_Count L i v hmi)) (And.intro ((fun a v => esTotal_set_Count (L.set i a) i v (hms a))) (And.intro ((fun v => esTotal_set_All L i v hmi)) (And.intro ((fun a v => esTotal_set_All (L.set i a) i v (hms a))) (And.intro ((fun v => esTotal_set_Own L i v hmi)) (And.intro ((fun a v => esTotal_set_Own (L.set i a) i v (hms a))) (And.intro @esTotal_len (And.intro @lset_len (And.intro @lget_set (And.intro @lset_set (And.intro @Ty.sl79 (And.intro @Ty.slz79 (And.intro @Ty.ldA9 (And.intro @Ty.ldS9 (And.intro @Ty.sz9 (And.intro @Ty.szn9 (And.intro @Ty.ldA3 (And.intro @Ty.ldS3 (And.intro @Ty.sz3 (And.intro @Ty.szn3 (And.intro @Ty.fo89_0 (And.intro @Ty.fk89_0 (And.intro @Ty.fs89_0 (And.intro @Ty.fn89_0 (And.intro @Ty.fo89_1 (And.intro @Ty.fk89_1 (And.intro @Ty.fs89_1 (And.intro @Ty.fn89_1 (And.intro @Ty.fo89_2 (And.intro @Ty.fk89_2 (And.intro @Ty.fs89_2 (And.intro @Ty.fn89_2 (And.intro @Ty.fo89_3 (And.intro @Ty.fk89_3 (And.intro @Ty.fs89_3 @Ty.fn89_3)))))))))))))))))))))))))))))))))))))))))))))))
      try refine st_by ff ?_
      repeat' (first
        | exact trivial
        | (refine And.intro ?_ ?_; · (try clear ff; first | omega | (simp [esTotal_len, hmidl]; omega) | decide))
        | (refine ret_q1 rfl ?_; (try refine sr_by ff ?_); all_goals (try clear ff); all_goals (try exact trivial); all_goals (skip))
        | (refine cq_call (markText_does (n) (by omega)) ?_ ?_ ⟨?_, ?_⟩; (· first | rfl | exact cl_by ff); (· first | assumption | kernel_rfl); (· first | exact ca_by ff | (refine sa_by ff ?_; try clear ff; first | exact trivial | omega | (simp [esTotal_len, hmidl]; omega) | decide)); refine st_by ff ?_)
        | (with_reducible refine CBC_eq (fun hp hd => ?_) (fun hp hd => ?_) <;> refine st_by (And.intro hd ff) ?_)
        | (with_reducible refine CBC_ne (fun hp hd => ?_) (fun hp hd => ?_) <;> refine st_by (And.intro hd ff) ?_)
        | (with_reducible refine CBC_decT ?_ (fun hd => ?_); (· try clear ff; first | assumption | omega); refine st_by (And.intro hd ff) ?_)
        | (with_reducible refine CBC_decF ?_ (fun hd => ?_); (· try clear ff; first | assumption | omega); refine st_by (And.intro hd ff) ?_)
        | (with_reducible refine CBC_dec (fun hp hd => ?_) (fun hp hd => ?_) <;> refine st_by (And.intro hd ff) ?_)
        | (refine CBC_bool (fun hd => ?_) (fun hd => ?_) <;> refine st_by (And.intro hd ff) ?_)
        | (with_reducible refine GQ_eq (fun hp hd => ?_) (fun hp hd => ?_) <;> refine st_by (And.intro hd ff) ?_)
        | (with_reducible refine GQ_ne (fun hp hd => ?_) (fun hp hd => ?_) <;> refine st_by (And.intro hd ff) ?_)
        | (with_reducible refine GQ_decT ?_ (fun hd => ?_); (· try clear ff; first | assumption | omega); refine st_by (And.intro hd ff) ?_)
        | (with_reducible refine GQ_decF ?_ (fun hd => ?_); (· try clear ff; first | assumption | omega); refine st_by (And.intro hd ff) ?_)
        | (with_reducible refine GQ_dec (fun hp hd => ?_) (fun hp hd => ?_) <;> refine st_by (And.intro hd ff) ?_)
        | (with_reducible refine GQ_ndT ?_ (fun hd => ?_); (· try clear ff; first | assumption | omega); refine st_by (And.intro hd ff) ?_)
        | (with_reducible refine GQ_ndF ?_ (fun hd => ?_); (· try clear ff; first | assumption | omega); refine st_by (And.intro hd ff) ?_)
        | (with_reducible refine GQ_nd (fun hp hd => ?_) (fun hp hd => ?_) <;> refine st_by (And.intro hd ff) ?_)
        | (refine GQ_nb (fun hd => ?_) (fun hd => ?_) <;> refine st_by (And.intro hd ff) ?_)
        | (refine GQ_bool (fun hd => ?_) (fun hd => ?_) <;> refine st_by (And.intro hd ff) ?_)
        | (try clear ff; refine ⟨i + 1, ⟨?_, ?_, ?_, ?_⟩, ?_⟩; (· omega); (· refine congrArg I ?_; omega); (· rfl); (· rw [← hmid]; simp only [mTotal, hmg]); (· omega)))
      all_goals try clear ff
    · have e1 : midL mTotal cTotal l k i = markL mTotal cTotal l k := midL_all l k i (by omega)
      have e2 : l.take i = l := List.take_of_length_le (by omega)
      rw [e1] at m1
      rw [e2] at g1
      have ff := And.intro @g0 (And.intro @g1 (And.intro @g5 (And.intro @m1 (And.intro @Ty.sl79 (And.intro @Ty.slz79 (And.intro @Ty.ldA9 (And.intro @Ty.ldS9 (And.intro @Ty.sz9 (And.intro @Ty.szn9 (And.intro @Ty.ldA3 (And.intro @Ty.ldS3 (And.intro @Ty.sz3 (And.intro @Ty.szn3 (And.intro @Ty.fo89_0 (And.intro @Ty.fk89_0 (And.intro @Ty.fs89_0 (And.intro @Ty.fn89_0 (And.intro @Ty.fo89_1 (And.intro @Ty.fk89_1 (And.intro @Ty.fs89_1 (And.intro @Ty.fn89_1 (And.intro @Ty.fo89_2 (And.intro @Ty.fk89_2 (And.intro @Ty.fs89_2 (And.intro @Ty.fn89_2 (And.intro @Ty.fo89_3 (And.intro @Ty.fk89_3 (And.intro @Ty.fs89_3 @Ty.fn89_3))))))))))))))))))))))))))))
      try refine st_by ff ?_
      repeat' (first
        | exact trivial
        | (refine And.intro ?_ ?_; · (try clear ff; first | omega))
        | (refine retX_q1 rfl ?_; (try refine sr_by ff ?_); all_goals (try clear ff); all_goals (try exact trivial); all_goals ((refine regsOk_one ?_; (first | exact cl_by @m1 | refine st_by @m1 ?_))))
        | (with_reducible refine CBC_eq (fun hp hd => ?_) (fun hp hd => ?_) <;> refine st_by (And.intro hd ff) ?_)
        | (with_reducible refine CBC_ne (fun hp hd => ?_) (fun hp hd => ?_) <;> refine st_by (And.intro hd ff) ?_)
        | (with_reducible refine CBC_decT ?_ (fun hd => ?_); (· try clear ff; first | assumption | omega); refine st_by (And.intro hd ff) ?_)
        | (with_reducible refine CBC_decF ?_ (fun hd => ?_); (· try clear ff; first | assumption | omega); refine st_by (And.intro hd ff) ?_)
        | (with_reducible refine CBC_dec (fun hp hd => ?_) (fun hp hd => ?_) <;> refine st_by (And.intro hd ff) ?_)
        | (refine CBC_bool (fun hd => ?_) (fun hd => ?_) <;> refine st_by (And.intro hd ff) ?_)
        | (with_reducible refine GQ_eq (fun hp hd => ?_) (fun hp hd => ?_) <;> refine st_by (And.intro hd ff) ?_)
        | (with_reducible refine GQ_ne (fun hp hd => ?_) (fun hp hd => ?_) <;> refine st_by (And.intro hd ff) ?_)
        | (with_reducible refine GQ_decT ?_ (fun hd => ?_); (· try clear ff; first | assumption | omega); refine st_by (And.intro hd ff) ?_)
        | (with_reducible refine GQ_decF ?_ (fun hd => ?_); (· try clear ff; first | assumption | omega); refine st_by (And.intro hd ff) ?_)
        | (with_reducible refine GQ_dec (fun hp hd => ?_) (fun hp hd => ?_) <;> refine st_by (And.intro hd ff) ?_)
        | (with_reducible refine GQ_ndT ?_ (fun hd => ?_); (· try clear ff; first | assumption | omega); refine st_by (And.intro hd ff) ?_)
        | (with_reducible refine GQ_ndF ?_ (fun hd => ?_); (· try clear ff; first | assumption | omega); refine st_by (And.intro hd ff) ?_)
        | (with_reducible refine GQ_nd (fun hp hd => ?_) (fun hp hd => ?_) <;> refine st_by (And.intro hd ff) ?_)
        | (refine GQ_nb (fun hd => ?_) (fun hd => ?_) <;> refine st_by (And.intro hd ff) ?_)
        | (refine GQ_bool (fun hd => ?_) (fun hd => ?_) <;> refine st_by (And.intro hd ff) ?_))
      all_goals try clear ff
theorem heldTotalS_does (l : List GTotal) (k : Int) (h0 : 0 ≤ k) (hk : k + cntL cTotal l ≤ 4611686018427387904) (hl : l.length ≤ 9223372036854775807) (hm : markL mTotal cTotal l k = l) :
    Does Try.prog 58 [.row false 4 l.length (esTotal l), I k] (I (k + cntL cTotal l)) := by
  refine Does.walk (nt := 50) Try.func58 rfl rfl (by simp) (by decide) rfl (fun G0 X w0 pv => ?_)
  have ff := And.intro @Ty.sl79 (And.intro @Ty.slz79 (And.intro @Ty.ldA9 (And.intro @Ty.ldS9 (And.intro @Ty.sz9 (And.intro @Ty.szn9 (And.intro @Ty.ldA3 (And.intro @Ty.ldS3 (And.intro @Ty.sz3 (And.intro @Ty.szn3 (And.intro @Ty.fo89_0 (And.intro @Ty.fk89_0 (And.intro @Ty.fs89_0 (And.intro @Ty.fn89_0 (And.intro @Ty.fo89_1 (And.intro @Ty.fk89_1 (And.intro @Ty.fs89_1 (And.intro @Ty.fn89_1 (And.intro @Ty.fo89_2 (And.intro @Ty.fk89_2 (And.intro @Ty.fs89_2 (And.intro @Ty.fn89_2 (And.intro @Ty.fo89_3 (And.intro @Ty.fk89_3 (And.intro @Ty.fs89_3 @Ty.fn89_3))))))))))))))))))))))))
  try refine st_by ff ?_
  repeat' (first
    | exact trivial
    | (refine And.intro ?_ ?_; · (try clear ff; first | omega))
    | (refine ret_q1 rfl ?_; (try refine sr_by ff ?_); all_goals (try clear ff); all_goals (try exact trivial); all_goals (skip))
    | (refine aw_drawn (id := 4) ?_ [[], [], [0, 1], [0, 1, 2], [0, 1, 2, 3], [], [5], [0, 1, 2, 3, 4, 5, 6]] 7 ?_ ?_; (· kernel_rfl); (· kernel_rfl); refine st_by ff ?_)
    | (with_reducible refine CBC_eq (fun hp hd => ?_) (fun hp hd => ?_) <;> refine st_by (And.intro hd ff) ?_)
    | (with_reducible refine CBC_ne (fun hp hd => ?_) (fun hp hd => ?_) <;> refine st_by (And.intro hd ff) ?_)
    | (with_reducible refine CBC_decT ?_ (fun hd => ?_); (· try clear ff; first | assumption | omega); refine st_by (And.intro hd ff) ?_)
    | (with_reducible refine CBC_decF ?_ (fun hd => ?_); (· try clear ff; first | assumption | omega); refine st_by (And.intro hd ff) ?_)
    | (with_reducible refine CBC_dec (fun hp hd => ?_) (fun hp hd => ?_) <;> refine st_by (And.intro hd ff) ?_)
    | (refine CBC_bool (fun hd => ?_) (fun hd => ?_) <;> refine st_by (And.intro hd ff) ?_)
    | (with_reducible refine GQ_eq (fun hp hd => ?_) (fun hp hd => ?_) <;> refine st_by (And.intro hd ff) ?_)
    | (with_reducible refine GQ_ne (fun hp hd => ?_) (fun hp hd => ?_) <;> refine st_by (And.intro hd ff) ?_)
    | (with_reducible refine GQ_decT ?_ (fun hd => ?_); (· try clear ff; first | assumption | omega); refine st_by (And.intro hd ff) ?_)
    | (with_reducible refine GQ_decF ?_ (fun hd => ?_); (· try clear ff; first | assumption | omega); refine st_by (And.intro hd ff) ?_)
    | (with_reducible refine GQ_dec (fun hp hd => ?_) (fun hp hd => ?_) <;> refine st_by (And.intro hd ff) ?_)
    | (with_reducible refine GQ_ndT ?_ (fun hd => ?_); (· try clear ff; first | assumption | omega); refine st_by (And.intro hd ff) ?_)
    | (with_reducible refine GQ_ndF ?_ (fun hd => ?_); (· try clear ff; first | assumption | omega); refine st_by (And.intro hd ff) ?_)
    | (with_reducible refine GQ_nd (fun hp hd => ?_) (fun hp hd => ?_) <;> refine st_by (And.intro hd ff) ?_)
    | (refine GQ_nb (fun hd => ?_) (fun hd => ?_) <;> refine st_by (And.intro hd ff) ?_)
    | (refine GQ_bool (fun hd => ?_) (fun hd => ?_) <;> refine st_by (And.intro hd ff) ?_)
    | (with_reducible refine GD_eq (fun hp hd => ?_) (fun hp hd => ?_) <;> refine st_by (And.intro hd ff) ?_)
    | (with_reducible refine GD_ne (fun hp hd => ?_) (fun hp hd => ?_) <;> refine st_by (And.intro hd ff) ?_)
    | (with_reducible refine GD_decT ?_ (fun hd => ?_); (· try clear ff; first | assumption | omega); refine st_by (And.intro hd ff) ?_)
    | (with_reducible refine GD_decF ?_ (fun hd => ?_); (· try clear ff; first | assumption | omega); refine st_by (And.intro hd ff) ?_)
    | (with_reducible refine GD_dec (fun hp hd => ?_) (fun hp hd => ?_) <;> refine st_by (And.intro hd ff) ?_)
    | (with_reducible refine GD_ndT ?_ (fun hd => ?_); (· try clear ff; first | assumption | omega); refine st_by (And.intro hd ff) ?_)
    | (with_reducible refine GD_ndF ?_ (fun hd => ?_); (· try clear ff; first | assumption | omega); refine st_by (And.intro hd ff) ?_)
    | (with_reducible refine GD_nd (fun hp hd => ?_) (fun hp hd => ?_) <;> refine st_by (And.intro hd ff) ?_)
    | (refine GD_nb (fun hd => ?_) (fun hd => ?_) <;> refine st_by (And.intro hd ff) ?_)
    | (refine GD_bool (fun hd => ?_) (fun hd => ?_) <;> refine st_by (And.intro hd ff) ?_))
  all_goals try clear ff
  refine aw_loop (ι := Nat) (fun i σ => (i ≤ l.length) ∧ σ.t 0 = .row false 4 l.length (esTotal l) ∧ σ.t 1 = I (k + cntL cTotal (l.take i)) ∧ σ.t 5 = I i) (fun i => l.length - i) 0 ?_ ?_
  · (first | exact cl_by trivial | refine st_by trivial ?_)
    simp [cntL]
  · rintro i σ ⟨h2, g0, g1, g5⟩
    by_cases hi : i < l.length
    · have w2 : IntKind.i64.wrap ((i : Int) + 1) = ((i + 1 : Nat) : Int) := wI _ (by omega) (by omega)
      have hc := cntL_lt (c := cTotal) l i hi
      have hc1 := cntL_take (c := cTotal) l i hi
      have hs := markL_self hm i hi
      simp only [cTotal] at hc hc1
      generalize hn : k + (cntL cTotal (l.take i) : Int) = n at g1 hs
      have f0 : l[i].Name = mtext (n) := by rw [hs]; rfl
      have f1 : l[i].Count = n + 1 := by rw [hs]; rfl
      have f2 : l[i].All = n + 2 := by rw [hs]; rfl
      have f3 : l[i].Own = n + 3 := by rw [hs]; rfl
      clear hs
      have wk0 : IntKind.i64.wrap (n + 1) = n + 1 := wE (by omega) (by omega) (by omega)
      have wk1 : IntKind.i64.wrap (n + 1 + 1) = n + 2 := wE (by omega) (by omega) (by omega)
      have wk2 : IntKind.i64.wrap (n + 2 + 1) = n + 3 := wE (by omega) (by omega) (by omega)
      have wk3 : IntKind.i64.wrap (n + 3 + 1) = n + 4 := wE (by omega) (by omega) (by omega)
      have ff := And.intro @g0 (And.intro @g1 (And.intro @g5 (And.intro @w2 (And.intro @wk0 (And.intro @wk1 (And.intro @wk2 (And.intro @wk3 (And.intro @hi (And.intro @f0 (And.intro @f1 (And.intro @f2 (And.intro @f3 (And.intro ((esTotal_drop l i hi)) (And.intro @esTotal_len (And.intro @eTotal_eq (And.intro @Ty.sl79 (And.intro @Ty.slz79 (And.intro @Ty.ldA9 (And.intro @Ty.ldS9 (And.intro @Ty.sz9 (And.intro @Ty.szn9 (And.intro @Ty.ldA3 (And.intro @Ty.ldS3 (And.intro @Ty.sz3 (And.intro @Ty.szn3 (And.intro @Ty.fo89_0 (And.intro @Ty.fk89_0 (And.intro @Ty.fs89_0 (And.intro @Ty.fn89_0 (And.intro @Ty.fo89_1 (And.intro @Ty.fk89_1 (And.intro @Ty.fs89_1 (And.intro @Ty.fn89_1 (And.intro @Ty.fo89_2 (And.intro @Ty.fk89_2 (And.intro @Ty.fs89_2 (And.intro @Ty.fn89_2 (And.intro @Ty.fo89_3 (And.intro @Ty.fk89_3 (And.intro @Ty.fs89_3 @Ty.fn89_3))))))))))))))))))))))))))))))))))))))))
      try refine st_by ff ?_
      repeat' (first
        | exact trivial
        | (refine And.intro ?_ ?_; · (try clear ff; first | omega | (rw [List.length_append]; simp [esTotal_len]; omega) | (simp [eTotal]; done) | decide | (simp [esTotal_len]; omega)))
        | (refine ret_q1 rfl ?_; (try refine sr_by ff ?_); all_goals (try clear ff); all_goals (try exact trivial); all_goals (skip))
        | (refine cq_call (markText_does (n) (by omega)) ?_ ?_ ⟨?_, ?_⟩; (· first | rfl | exact cl_by ff); (· first | assumption | kernel_rfl); (· first | exact ca_by ff | (refine sa_by ff ?_; try clear ff; first | exact trivial | omega | (rw [List.length_append]; simp [esTotal_len]; omega) | (simp [eTotal]; done) | decide | (simp [esTotal_len]; omega))); refine st_by ff ?_)
        | (refine cq_dcall (markText_does (n) (by omega)) ?_ ?_ ⟨?_, ?_⟩; (· first | rfl | exact cl_by ff); (· first | assumption | kernel_rfl); (· first | exact ca_by ff | (refine sa_by ff ?_; try clear ff; first | exact trivial | omega | (rw [List.length_append]; simp [esTotal_len]; omega) | (simp [eTotal]; done) | decide | (simp [esTotal_len]; omega))); refine st_by ff ?_)
        | (refine aw_drawn (id := 4) ?_ [[], [], [0, 1], [0, 1, 2], [0, 1, 2, 3], [], [5], [0, 1, 2, 3, 4, 5, 6]] 7 ?_ ?_; (· kernel_rfl); (· kernel_rfl); refine st_by ff ?_)
        | (with_reducible refine CBC_eq (fun hp hd => ?_) (fun hp hd => ?_) <;> refine st_by (And.intro hd ff) ?_)
        | (with_reducible refine CBC_ne (fun hp hd => ?_) (fun hp hd => ?_) <;> refine st_by (And.intro hd ff) ?_)
        | (with_reducible refine CBC_decT ?_ (fun hd => ?_); (· try clear ff; first | assumption | omega); refine st_by (And.intro hd ff) ?_)
        | (with_reducible refine CBC_decF ?_ (fun hd => ?_); (· try clear ff; first | assumption | omega); refine st_by (And.intro hd ff) ?_)
        | (with_reducible refine CBC_dec (fun hp hd => ?_) (fun hp hd => ?_) <;> refine st_by (And.intro hd ff) ?_)
        | (refine CBC_bool (fun hd => ?_) (fun hd => ?_) <;> refine st_by (And.intro hd ff) ?_)
        | (with_reducible refine GQ_eq (fun hp hd => ?_) (fun hp hd => ?_) <;> refine st_by (And.intro hd ff) ?_)
        | (with_reducible refine GQ_ne (fun hp hd => ?_) (fun hp hd => ?_) <;> refine st_by (And.intro hd ff) ?_)
        | (with_reducible refine GQ_decT ?_ (fun hd => ?_); (· try clear ff; first | assumption | omega); refine st_by (And.intro hd ff) ?_)
        | (with_reducible refine GQ_decF ?_ (fun hd => ?_); (· try clear ff; first | assumption | omega); refine st_by (And.intro hd ff) ?_)
        | (with_reducible refine GQ_dec (fun hp hd => ?_) (fun hp hd => ?_) <;> refine st_by (And.intro hd ff) ?_)
        | (with_reducible refine GQ_ndT ?_ (fun hd => ?_); (· try clear ff; first | assumption | omega); refine st_by (And.intro hd ff) ?_)
        | (with_reducible refine GQ_ndF ?_ (fun hd => ?_); (· try clear ff; first | assumption | omega); refine st_by (And.intro hd ff) ?_)
        | (with_reducible refine GQ_nd (fun hp hd => ?_) (fun hp hd => ?_) <;> refine st_by (And.intro hd ff) ?_)
        | (refine GQ_nb (fun hd => ?_) (fun hd => ?_) <;> refine st_by (And.intro hd ff) ?_)
        | (refine GQ_bool (fun hd => ?_) (fun hd => ?_) <;> refine st_by (And.intro hd ff) ?_)
        | (with_reducible refine GD_eq (fun hp hd => ?_) (fun hp hd => ?_) <;> refine st_by (And.intro hd ff) ?_)
        | (with_reducible refine GD_ne (fun hp hd => ?_) (fun hp hd => ?_) <;> refine st_by (And.intro hd ff) ?_)
        | (with_reducible refine GD_decT ?_ (fun hd => ?_); (· try clear ff; first | assumption | omega); refine st_by (And.intro hd ff) ?_)
        | (with_reducible refine GD_decF ?_ (fun hd => ?_); (· try clear ff; first | assumption | omega); refine st_by (And.intro hd ff) ?_)
        | (with_reducible refine GD_dec (fun hp hd => ?_) (fun hp hd => ?_) <;> refine st_by (And.intro hd ff) ?_)
        | (with_reducible refine GD_ndT ?_ (fun hd => ?_); (· try clear ff; first | assumption | omega); refine st_by (And.intro hd ff) ?_)
        | (with_reducible refine GD_ndF ?_ (fun hd => ?_); (· try clear ff; first | assumption | omega); refine st_by (And.intro hd ff) ?_)
        | (with_reducible refine GD_nd (fun hp hd => ?_) (fun hp hd => ?_) <;> refine st_by (And.intro hd ff) ?_)
        | (refine GD_nb (fun hd => ?_) (fun hd => ?_) <;> refine st_by (And.intro hd ff) ?_)
        | (refine GD_bool (fun hd => ?_) (fun hd => ?_) <;> refine st_by (And.intro hd ff) ?_)
        | (try clear ff; refine ⟨i + 1, ⟨?_, ?_, ?_⟩, ?_⟩; (· omega); (· refine congrArg I ?_; omega); (· rfl); (· omega)))
      all_goals try clear ff
    · have e2 : l.take i = l := List.take_of_length_le (by omega)
      rw [e2] at g1
      have ff := And.intro @g0 (And.intro @g1 (And.intro @g5 (And.intro @Ty.sl79 (And.intro @Ty.slz79 (And.intro @Ty.ldA9 (And.intro @Ty.ldS9 (And.intro @Ty.sz9 (And.intro @Ty.szn9 (And.intro @Ty.ldA3 (And.intro @Ty.ldS3 (And.intro @Ty.sz3 (And.intro @Ty.szn3 (And.intro @Ty.fo89_0 (And.intro @Ty.fk89_0 (And.intro @Ty.fs89_0 (And.intro @Ty.fn89_0 (And.intro @Ty.fo89_1 (And.intro @Ty.fk89_1 (And.intro @Ty.fs89_1 (And.intro @Ty.fn89_1 (And.intro @Ty.fo89_2 (And.intro @Ty.fk89_2 (And.intro @Ty.fs89_2 (And.intro @Ty.fn89_2 (And.intro @Ty.fo89_3 (And.intro @Ty.fk89_3 (And.intro @Ty.fs89_3 @Ty.fn89_3)))))))))))))))))))))))))))
      try refine st_by ff ?_
      repeat' (first
        | exact trivial
        | (refine And.intro ?_ ?_; · (try clear ff; first | omega))
        | (refine ret_q1 rfl ?_; (try refine sr_by ff ?_); all_goals (try clear ff); all_goals (try exact trivial); all_goals (rfl))
        | (refine aw_drawn (id := 4) ?_ [[], [], [0, 1], [0, 1, 2], [0, 1, 2, 3], [], [5], [0, 1, 2, 3, 4, 5, 6]] 7 ?_ ?_; (· kernel_rfl); (· kernel_rfl); refine st_by ff ?_)
        | (with_reducible refine CBC_eq (fun hp hd => ?_) (fun hp hd => ?_) <;> refine st_by (And.intro hd ff) ?_)
        | (with_reducible refine CBC_ne (fun hp hd => ?_) (fun hp hd => ?_) <;> refine st_by (And.intro hd ff) ?_)
        | (with_reducible refine CBC_decT ?_ (fun hd => ?_); (· try clear ff; first | assumption | omega); refine st_by (And.intro hd ff) ?_)
        | (with_reducible refine CBC_decF ?_ (fun hd => ?_); (· try clear ff; first | assumption | omega); refine st_by (And.intro hd ff) ?_)
        | (with_reducible refine CBC_dec (fun hp hd => ?_) (fun hp hd => ?_) <;> refine st_by (And.intro hd ff) ?_)
        | (refine CBC_bool (fun hd => ?_) (fun hd => ?_) <;> refine st_by (And.intro hd ff) ?_)
        | (with_reducible refine GQ_eq (fun hp hd => ?_) (fun hp hd => ?_) <;> refine st_by (And.intro hd ff) ?_)
        | (with_reducible refine GQ_ne (fun hp hd => ?_) (fun hp hd => ?_) <;> refine st_by (And.intro hd ff) ?_)
        | (with_reducible refine GQ_decT ?_ (fun hd => ?_); (· try clear ff; first | assumption | omega); refine st_by (And.intro hd ff) ?_)
        | (with_reducible refine GQ_decF ?_ (fun hd => ?_); (· try clear ff; first | assumption | omega); refine st_by (And.intro hd ff) ?_)
        | (with_reducible refine GQ_dec (fun hp hd => ?_) (fun hp hd => ?_) <;> refine st_by (And.intro hd ff) ?_)
        | (with_reducible refine GQ_ndT ?_ (fun hd => ?_); (· try clear ff; first | assumption | omega); refine st_by (And.intro hd ff) ?_)
        | (with_reducible refine GQ_ndF ?_ (fun hd => ?_); (· try clear ff; first | assumption | omega); refine st_by (And.intro hd ff) ?_)
        | (with_reducible refine GQ_nd (fun hp hd => ?_) (fun hp hd => ?_) <;> refine st_by (And.intro hd ff) ?_)
        | (refine GQ_nb (fun hd => ?_) (fun hd => ?_) <;> refine st_by (And.intro hd ff) ?_)
        | (refine GQ_bool (fun hd => ?_) (fun hd => ?_) <;> refine st_by (And.intro hd ff) ?_)
        | (with_reducible refine GD_eq (fun hp hd => ?_) (fun hp hd => ?_) <;> refine st_by (And.intro hd ff) ?_)
        | (with_reducible refine GD_ne (fun hp hd => ?_) (fun hp hd => ?_) <;> refine st_by (And.intro hd ff) ?_)
        | (with_reducible refine GD_decT ?_ (fun hd => ?_); (· try clear ff; first | assumption | omega); refine st_by (And.intro hd ff) ?_)
        | (with_reducible refine GD_decF ?_ (fun hd => ?_); (· try clear ff; first | assumption | omega); refine st_by (And.intro hd ff) ?_)
        | (with_reducible refine GD_dec (fun hp hd => ?_) (fun hp hd => ?_) <;> refine st_by (And.intro hd ff) ?_)
        | (with_reducible refine GD_ndT ?_ (fun hd => ?_); (· try clear ff; first | assumption | omega); refine st_by (And.intro hd ff) ?_)
        | (with_reducible refine GD_ndF ?_ (fun hd => ?_); (· try clear ff; first | assumption | omega); refine st_by (And.intro hd ff) ?_)
        | (with_reducible refine GD_nd (fun hp hd => ?_) (fun hp hd => ?_) <;> refine st_by (And.intro hd ff) ?_)
        | (refine GD_nb (fun hd => ?_) (fun hd => ?_) <;> refine st_by (And.intro hd ff) ?_)
        | (refine GD_bool (fun hd => ?_) (fun hd => ?_) <;> refine st_by (And.intro hd ff) ?_))
      all_goals try clear ff
/-! Player -/
def wfPlayer (n : Nat) (x : GPlayer) : Prop := x.Name.size ≤ n
def szPlayer (x : GPlayer) (left : Int) : Int := szStep (left - x.Name.size) fun left => left
theorem szPlayer_ok : szOk szPlayer := fun x left h => szStep_le h (by omega) (fun left h => Int.le_refl _)
theorem szPlayer_does (x : GPlayer) (left : Int) (h0 : 0 ≤ left) (h1 : left ≤ 1048576) (hx : wfPlayer 9223372036854775807 x) : Does Try.prog 69 [.agg (ePlayer x), I left] (I (szPlayer x left)) := by
  unfold wfPlayer at hx
  refine Does.walk (nt := 13) Try.func69 rfl rfl (by simp) (by decide) rfl (fun G0 X w0 pv => ?_)
  unfold szPlayer
  have hv0 : (left - (x.Name.size : Int) : Int) ≤ left := by omega
  have w0 : IntKind.i64.wrap (left - (x.Name.size : Int)) = left - (x.Name.size : Int) := wI _ (by omega) (by omega)
  have ff := And.intro @ePlayer_eq (And.intro @w0 (And.intro @Ty.ldA9 (And.intro @Ty.ldS9 (And.intro @Ty.sz9 (And.intro @Ty.szn9 (And.intro @Ty.fo102_0 (And.intro @Ty.fk102_0 (And.intro @Ty.fs102_0 (And.intro @Ty.fn102_0 @Ty.str9)))))))))
  try refine st_by ff ?_
  repeat' (first
    | exact trivial
    | (refine And.intro ?_ ?_; · (try clear ff; first | omega))
    | (refine ret_q1 rfl ?_; (try refine sr_by ff ?_); all_goals (try clear ff); all_goals (try exact trivial); all_goals ((first | rw [szStep_neg (by assumption)] | rw [szStep_pos (by assumption)])))
    | (with_reducible refine CBC_eq (fun hp hd => ?_) (fun hp hd => ?_) <;> refine st_by (And.intro hd ff) ?_)
    | (with_reducible refine CBC_ne (fun hp hd => ?_) (fun hp hd => ?_) <;> refine st_by (And.intro hd ff) ?_)
    | (with_reducible refine CBC_decT ?_ (fun hd => ?_); (· try clear ff; first | assumption | omega); refine st_by (And.intro hd ff) ?_)
    | (with_reducible refine CBC_decF ?_ (fun hd => ?_); (· try clear ff; first | assumption | omega); refine st_by (And.intro hd ff) ?_)
    | (with_reducible refine CBC_dec (fun hp hd => ?_) (fun hp hd => ?_) <;> refine st_by (And.intro hd ff) ?_)
    | (refine CBC_bool (fun hd => ?_) (fun hd => ?_) <;> refine st_by (And.intro hd ff) ?_)
    | (with_reducible refine GQ_eq (fun hp hd => ?_) (fun hp hd => ?_) <;> refine st_by (And.intro hd ff) ?_)
    | (with_reducible refine GQ_ne (fun hp hd => ?_) (fun hp hd => ?_) <;> refine st_by (And.intro hd ff) ?_)
    | (with_reducible refine GQ_decT ?_ (fun hd => ?_); (· try clear ff; first | assumption | omega); refine st_by (And.intro hd ff) ?_)
    | (with_reducible refine GQ_decF ?_ (fun hd => ?_); (· try clear ff; first | assumption | omega); refine st_by (And.intro hd ff) ?_)
    | (with_reducible refine GQ_dec (fun hp hd => ?_) (fun hp hd => ?_) <;> refine st_by (And.intro hd ff) ?_)
    | (with_reducible refine GQ_ndT ?_ (fun hd => ?_); (· try clear ff; first | assumption | omega); refine st_by (And.intro hd ff) ?_)
    | (with_reducible refine GQ_ndF ?_ (fun hd => ?_); (· try clear ff; first | assumption | omega); refine st_by (And.intro hd ff) ?_)
    | (with_reducible refine GQ_nd (fun hp hd => ?_) (fun hp hd => ?_) <;> refine st_by (And.intro hd ff) ?_)
    | (refine GQ_nb (fun hd => ?_) (fun hd => ?_) <;> refine st_by (And.intro hd ff) ?_)
    | (refine GQ_bool (fun hd => ?_) (fun hd => ?_) <;> refine st_by (And.intro hd ff) ?_))
  all_goals try clear ff
theorem toPlayer_does (x : GPlayer) : Does Try.prog 71 [.agg (ePlayer x)] (.agg (ePlayer x)) := by
  refine Does.walk (nt := 14) Try.func71 rfl rfl (by simp) (by decide) rfl (fun G0 X w0 pv => ?_)
  have ff := And.intro @ePlayer_eq (And.intro @Ty.ldA9 (And.intro @Ty.ldS9 (And.intro @Ty.sz9 (And.intro @Ty.szn9 (And.intro @Ty.ldA3 (And.intro @Ty.ldS3 (And.intro @Ty.sz3 (And.intro @Ty.szn3 (And.intro @Ty.ldA103 (And.intro @Ty.sz103 (And.intro @Ty.szn103 (And.intro @Ty.fo102_0 (And.intro @Ty.fk102_0 (And.intro @Ty.fs102_0 (And.intro @Ty.fn102_0 (And.intro @Ty.fo103_0 (And.intro @Ty.fk103_0 (And.intro @Ty.fs103_0 (And.intro @Ty.fn103_0 (And.intro @Ty.fo102_1 (And.intro @Ty.fk102_1 (And.intro @Ty.fs102_1 (And.intro @Ty.fn102_1 (And.intro @Ty.fo103_1 (And.intro @Ty.fk103_1 (And.intro @Ty.fs103_1 (And.intro @Ty.fn103_1 (And.intro @Ty.fo102_2 (And.intro @Ty.fk102_2 (And.intro @Ty.fs102_2 (And.intro @Ty.fn102_2 (And.intro @Ty.fo103_2 (And.intro @Ty.fk103_2 (And.intro @Ty.fs103_2 (And.intro @Ty.fn103_2 (And.intro @Ty.zv103 @Ty.ag103))))))))))))))))))))))))))))))))))))
  try refine st_by ff ?_
  repeat' (first
    | exact trivial
    | (refine And.intro ?_ ?_; · (try clear ff; first | omega | decide))
    | (refine ret_q1 rfl ?_; (try refine sr_by ff ?_); all_goals (try clear ff); all_goals (try exact trivial); all_goals (skip))
    | (with_reducible refine CBC_eq (fun hp hd => ?_) (fun hp hd => ?_) <;> refine st_by (And.intro hd ff) ?_)
    | (with_reducible refine CBC_ne (fun hp hd => ?_) (fun hp hd => ?_) <;> refine st_by (And.intro hd ff) ?_)
    | (with_reducible refine CBC_decT ?_ (fun hd => ?_); (· try clear ff; first | assumption | omega); refine st_by (And.intro hd ff) ?_)
    | (with_reducible refine CBC_decF ?_ (fun hd => ?_); (· try clear ff; first | assumption | omega); refine st_by (And.intro hd ff) ?_)
    | (with_reducible refine CBC_dec (fun hp hd => ?_) (fun hp hd => ?_) <;> refine st_by (And.intro hd ff) ?_)
    | (refine CBC_bool (fun hd => ?_) (fun hd => ?_) <;> refine st_by (And.intro hd ff) ?_)
    | (with_reducible refine GQ_eq (fun hp hd => ?_) (fun hp hd => ?_) <;> refine st_by (And.intro hd ff) ?_)
    | (with_reducible refine GQ_ne (fun hp hd => ?_) (fun hp hd => ?_) <;> refine st_by (And.intro hd ff) ?_)
    | (with_reducible refine GQ_decT ?_ (fun hd => ?_); (· try clear ff; first | assumption | omega); refine st_by (And.intro hd ff) ?_)
    | (with_reducible refine GQ_decF ?_ (fun hd => ?_); (· try clear ff; first | assumption | omega); refine st_by (And.intro hd ff) ?_)
    | (with_reducible refine GQ_dec (fun hp hd => ?_) (fun hp hd => ?_) <;> refine st_by (And.intro hd ff) ?_)
    | (with_reducible refine GQ_ndT ?_ (fun hd => ?_); (· try clear ff; first | assumption | omega); refine st_by (And.intro hd ff) ?_)
    | (with_reducible refine GQ_ndF ?_ (fun hd => ?_); (· try clear ff; first | assumption | omega); refine st_by (And.intro hd ff) ?_)
    | (with_reducible refine GQ_nd (fun hp hd => ?_) (fun hp hd => ?_) <;> refine st_by (And.intro hd ff) ?_)
    | (refine GQ_nb (fun hd => ?_) (fun hd => ?_) <;> refine st_by (And.intro hd ff) ?_)
    | (refine GQ_bool (fun hd => ?_) (fun hd => ?_) <;> refine st_by (And.intro hd ff) ?_))
  all_goals try clear ff
theorem eqPlayer_does (x y : GPlayer) : Does Try.prog 73 [.agg (ePlayer x), .agg (ePlayer y)] (B (decide (x = y))) := by
  have hxy : decide (x = y) = decide (x.Name = y.Name ∧ x.Rating = y.Rating ∧ x.Since = y.Since) := decide_eq_decide.2 (by cases x; cases y; simp)
  rw [hxy]
  refine Does.walk (nt := 20) Try.func73 rfl rfl (by simp) (by decide) rfl (fun G0 X w0 pv => ?_)
  have ff := And.intro @ePlayer_eq (And.intro @str_beq (And.intro @Ty.ldA9 (And.intro @Ty.ldS9 (And.intro @Ty.sz9 (And.intro @Ty.szn9 (And.intro @Ty.ldA3 (And.intro @Ty.ldS3 (And.intro @Ty.sz3 (And.intro @Ty.szn3 (And.intro @Ty.fo103_0 (And.intro @Ty.fk103_0 (And.intro @Ty.fs103_0 (And.intro @Ty.fn103_0 (And.intro @Ty.fo103_1 (And.intro @Ty.fk103_1 (And.intro @Ty.fs103_1 (And.intro @Ty.fn103_1 (And.intro @Ty.fo103_2 (And.intro @Ty.fk103_2 (And.intro @Ty.fs103_2 @Ty.fn103_2))))))))))))))))))))
  try refine st_by ff ?_
  repeat' (first
    | exact trivial
    | (refine And.intro ?_ ?_; · (try clear ff; first | omega))
    | (refine ret_q1 rfl ?_; (try refine sr_by ff ?_); all_goals (try clear ff); all_goals (try exact trivial); all_goals (simp_all))
    | (with_reducible refine CBC_eq (fun hp hd => ?_) (fun hp hd => ?_) <;> refine st_by (And.intro hd ff) ?_)
    | (with_reducible refine CBC_ne (fun hp hd => ?_) (fun hp hd => ?_) <;> refine st_by (And.intro hd ff) ?_)
    | (with_reducible refine CBC_decT ?_ (fun hd => ?_); (· try clear ff; first | assumption | omega); refine st_by (And.intro hd ff) ?_)
    | (with_reducible refine CBC_decF ?_ (fun hd => ?_); (· try clear ff; first | assumption | omega); refine st_by (And.intro hd ff) ?_)
    | (with_reducible refine CBC_dec (fun hp hd => ?_) (fun hp hd => ?_) <;> refine st_by (And.intro hd ff) ?_)
    | (refine CBC_bool (fun hd => ?_) (fun hd => ?_) <;> refine st_by (And.intro hd ff) ?_)
    | (with_reducible refine GQ_eq (fun hp hd => ?_) (fun hp hd => ?_) <;> refine st_by (And.intro hd ff) ?_)
    | (with_reducible refine GQ_ne (fun hp hd => ?_) (fun hp hd => ?_) <;> refine st_by (And.intro hd ff) ?_)
    | (with_reducible refine GQ_decT ?_ (fun hd => ?_); (· try clear ff; first | assumption | omega); refine st_by (And.intro hd ff) ?_)
    | (with_reducible refine GQ_decF ?_ (fun hd => ?_); (· try clear ff; first | assumption | omega); refine st_by (And.intro hd ff) ?_)
    | (with_reducible refine GQ_dec (fun hp hd => ?_) (fun hp hd => ?_) <;> refine st_by (And.intro hd ff) ?_)
    | (with_reducible refine GQ_ndT ?_ (fun hd => ?_); (· try clear ff; first | assumption | omega); refine st_by (And.intro hd ff) ?_)
    | (with_reducible refine GQ_ndF ?_ (fun hd => ?_); (· try clear ff; first | assumption | omega); refine st_by (And.intro hd ff) ?_)
    | (with_reducible refine GQ_nd (fun hp hd => ?_) (fun hp hd => ?_) <;> refine st_by (And.intro hd ff) ?_)
    | (refine GQ_nb (fun hd => ?_) (fun hd => ?_) <;> refine st_by (And.intro hd ff) ?_)
    | (refine GQ_bool (fun hd => ?_) (fun hd => ?_) <;> refine st_by (And.intro hd ff) ?_))
  all_goals try clear ff
/-! []Player -/
theorem szPlayerS_does (l : List GPlayer) (left : Int) (h0 : 0 ≤ left) (h1 : left ≤ 1048576) (hl : l.length ≤ 9223372036854775807) (hx : ∀ x ∈ l, wfPlayer 9223372036854775807 x) : Does Try.prog 18 [.row false 3 l.length (esPlayer l), I left] (I (szRow szPlayer l left)) := by
  have w1 : IntKind.i64.wrap (left - (l.length : Int)) = left - l.length := wI _ (by omega) (by omega)
  refine Does.walk (nt := 27) Try.func18 rfl rfl (by simp) (by decide) rfl (fun G0 X w0 pv => ?_)
  have ff := And.intro @w1 (And.intro @Ty.sl28 (And.intro @Ty.slz28 (And.intro @Ty.ldA102 (And.intro @Ty.sz102 @Ty.szn102))))
  try refine st_by ff ?_
  repeat' (first
    | exact trivial
    | (refine And.intro ?_ ?_; · (try clear ff; first | omega))
    | (refine ret_q1 rfl ?_; (try refine sr_by ff ?_); all_goals (try clear ff); all_goals (try exact trivial); all_goals ((simp only [szRow]; first | rw [szStep_neg (by omega)] | rw [szStep_pos (by omega)])))
    | (with_reducible refine CBC_eq (fun hp hd => ?_) (fun hp hd => ?_) <;> refine st_by (And.intro hd ff) ?_)
    | (with_reducible refine CBC_ne (fun hp hd => ?_) (fun hp hd => ?_) <;> refine st_by (And.intro hd ff) ?_)
    | (with_reducible refine CBC_decT ?_ (fun hd => ?_); (· try clear ff; first | assumption | omega); refine st_by (And.intro hd ff) ?_)
    | (with_reducible refine CBC_decF ?_ (fun hd => ?_); (· try clear ff; first | assumption | omega); refine st_by (And.intro hd ff) ?_)
    | (with_reducible refine CBC_dec (fun hp hd => ?_) (fun hp hd => ?_) <;> refine st_by (And.intro hd ff) ?_)
    | (refine CBC_bool (fun hd => ?_) (fun hd => ?_) <;> refine st_by (And.intro hd ff) ?_)
    | (with_reducible refine GQ_eq (fun hp hd => ?_) (fun hp hd => ?_) <;> refine st_by (And.intro hd ff) ?_)
    | (with_reducible refine GQ_ne (fun hp hd => ?_) (fun hp hd => ?_) <;> refine st_by (And.intro hd ff) ?_)
    | (with_reducible refine GQ_decT ?_ (fun hd => ?_); (· try clear ff; first | assumption | omega); refine st_by (And.intro hd ff) ?_)
    | (with_reducible refine GQ_decF ?_ (fun hd => ?_); (· try clear ff; first | assumption | omega); refine st_by (And.intro hd ff) ?_)
    | (with_reducible refine GQ_dec (fun hp hd => ?_) (fun hp hd => ?_) <;> refine st_by (And.intro hd ff) ?_)
    | (with_reducible refine GQ_ndT ?_ (fun hd => ?_); (· try clear ff; first | assumption | omega); refine st_by (And.intro hd ff) ?_)
    | (with_reducible refine GQ_ndF ?_ (fun hd => ?_); (· try clear ff; first | assumption | omega); refine st_by (And.intro hd ff) ?_)
    | (with_reducible refine GQ_nd (fun hp hd => ?_) (fun hp hd => ?_) <;> refine st_by (And.intro hd ff) ?_)
    | (refine GQ_nb (fun hd => ?_) (fun hd => ?_) <;> refine st_by (And.intro hd ff) ?_)
    | (refine GQ_bool (fun hd => ?_) (fun hd => ?_) <;> refine st_by (And.intro hd ff) ?_))
  all_goals try clear ff
  have e0 : szRow szPlayer l left = szL szPlayer l (left - l.length) := by simp only [szRow]; rw [szStep_pos (by omega)]
  rw [e0]
  refine aw_loop (ι := Nat × Int) (fun z σ => (z.1 ≤ l.length ∧ 0 ≤ z.2 ∧ z.2 ≤ 1048576 ∧ szL szPlayer (l.drop z.1) z.2 = szL szPlayer l (left - l.length)) ∧ σ.t 0 = .row false 3 l.length (esPlayer l) ∧ σ.t 1 = I z.2 ∧ σ.t 5 = I z.1) (fun z => l.length - z.1) (0, left - l.length) ?_ ?_
  · (first | exact cl_by trivial | refine st_by trivial ?_)
    simp [w1]; omega
  · rintro ⟨i, a⟩ σ ⟨⟨h2, h3, h4, h5⟩, g0, g1, g5⟩
    simp only at h2 h3 h4 h5 g0 g1 g5
    by_cases hi : i < l.length
    · have w2 : IntKind.i64.wrap ((i : Int) + 1) = ((i + 1 : Nat) : Int) := wI _ (by omega) (by omega)
      have hle := szPlayer_ok l[i] a h3
      have hd0 := szL_drop (f := szPlayer) l i hi a
      have hx0 := hx l[i] (List.getElem_mem hi)
      have ff := And.intro @g0 (And.intro @g1 (And.intro @g5 (And.intro @w2 (And.intro @hi (And.intro ((esPlayer_drop l i hi)) (And.intro @esPlayer_len (And.intro @ePlayer_eq (And.intro @Ty.sl28 (And.intro @Ty.slz28 (And.intro @Ty.ldA102 (And.intro @Ty.sz102 @Ty.szn102)))))))))))
      try refine st_by ff ?_
      repeat' (first
        | exact trivial
        | (refine And.intro ?_ ?_; · (try clear ff; first | omega | (rw [List.length_append]; simp [esPlayer_len]; omega) | (simp [ePlayer]; done) | decide | (simp [esPlayer_len]; omega) | rfl))
        | (refine ret_q1 rfl ?_; (try refine sr_by ff ?_); all_goals (try clear ff); all_goals (try exact trivial); all_goals (first | (rw [← h5, hd0, szStep_neg (by first | assumption | omega)]; done) | (exfalso; omega)))
        | (refine cq_call (szPlayer_does l[i] a h3 h4 hx0) ?_ ?_ ⟨?_, ?_⟩; (· first | rfl | exact cl_by ff); (· first | assumption | kernel_rfl); (· first | exact ca_by ff | (refine sa_by ff ?_; try clear ff; first | exact trivial | omega | (rw [List.length_append]; simp [esPlayer_len]; omega) | (simp [ePlayer]; done) | decide | (simp [esPlayer_len]; omega) | rfl)); refine st_by ff ?_)
        | (with_reducible refine CBC_eq (fun hp hd => ?_) (fun hp hd => ?_) <;> refine st_by (And.intro hd ff) ?_)
        | (with_reducible refine CBC_ne (fun hp hd => ?_) (fun hp hd => ?_) <;> refine st_by (And.intro hd ff) ?_)
        | (with_reducible refine CBC_decT ?_ (fun hd => ?_); (· try clear ff; first | assumption | omega); refine st_by (And.intro hd ff) ?_)
        | (with_reducible refine CBC_decF ?_ (fun hd => ?_); (· try clear ff; first | assumption | omega); refine st_by (And.intro hd ff) ?_)
        | (with_reducible refine CBC_dec (fun hp hd => ?_) (fun hp hd => ?_) <;> refine st_by (And.intro hd ff) ?_)
        | (refine CBC_bool (fun hd => ?_) (fun hd => ?_) <;> refine st_by (And.intro hd ff) ?_)
        | (with_reducible refine GQ_eq (fun hp hd => ?_) (fun hp hd => ?_) <;> refine st_by (And.intro hd ff) ?_)
        | (with_reducible refine GQ_ne (fun hp hd => ?_) (fun hp hd => ?_) <;> refine st_by (And.intro hd ff) ?_)
        | (with_reducible refine GQ_decT ?_ (fun hd => ?_); (· try clear ff; first | assumption | omega); refine st_by (And.intro hd ff) ?_)
        | (with_reducible refine GQ_decF ?_ (fun hd => ?_); (· try clear ff; first | assumption | omega); refine st_by (And.intro hd ff) ?_)
        | (with_reducible refine GQ_dec (fun hp hd => ?_) (fun hp hd => ?_) <;> refine st_by (And.intro hd ff) ?_)
        | (with_reducible refine GQ_ndT ?_ (fun hd => ?_); (· try clear ff; first | assumption | omega); refine st_by (And.intro hd ff) ?_)
        | (with_reducible refine GQ_ndF ?_ (fun hd => ?_); (· try clear ff; first | assumption | omega); refine st_by (And.intro hd ff) ?_)
        | (with_reducible refine GQ_nd (fun hp hd => ?_) (fun hp hd => ?_) <;> refine st_by (And.intro hd ff) ?_)
        | (refine GQ_nb (fun hd => ?_) (fun hd => ?_) <;> refine st_by (And.intro hd ff) ?_)
        | (refine GQ_bool (fun hd => ?_) (fun hd => ?_) <;> refine st_by (And.intro hd ff) ?_)
        | (try clear ff; refine ⟨(i + 1, szPlayer l[i] a), ⟨⟨?_, ?_, ?_, ?_⟩, rfl, rfl⟩, ?_⟩; (· simp only; omega); (· simp only; omega); (· simp only; omega); (· simp only; rw [← h5, hd0, szStep_pos (by first | assumption | omega)]); (· simp only; omega)))
      all_goals try clear ff
    · have e1 : l.drop i = [] := List.drop_of_length_le (by omega)
      have ff := And.intro @g0 (And.intro @g1 (And.intro @g5 (And.intro @Ty.sl28 (And.intro @Ty.slz28 (And.intro @Ty.ldA102 (And.intro @Ty.sz102 @Ty.szn102))))))
      try refine st_by ff ?_
      repeat' (first
        | exact trivial
        | (refine And.intro ?_ ?_; · (try clear ff; first | omega))
        | (refine ret_q1 rfl ?_; (try refine sr_by ff ?_); all_goals (try clear ff); all_goals (try exact trivial); all_goals (rw [← h5, e1]; rfl))
        | (with_reducible refine CBC_eq (fun hp hd => ?_) (fun hp hd => ?_) <;> refine st_by (And.intro hd ff) ?_)
        | (with_reducible refine CBC_ne (fun hp hd => ?_) (fun hp hd => ?_) <;> refine st_by (And.intro hd ff) ?_)
        | (with_reducible refine CBC_decT ?_ (fun hd => ?_); (· try clear ff; first | assumption | omega); refine st_by (And.intro hd ff) ?_)
        | (with_reducible refine CBC_decF ?_ (fun hd => ?_); (· try clear ff; first | assumption | omega); refine st_by (And.intro hd ff) ?_)
        | (with_reducible refine CBC_dec (fun hp hd => ?_) (fun hp hd => ?_) <;> refine st_by (And.intro hd ff) ?_)
        | (refine CBC_bool (fun hd => ?_) (fun hd => ?_) <;> refine st_by (And.intro hd ff) ?_)
        | (with_reducible refine GQ_eq (fun hp hd => ?_) (fun hp hd => ?_) <;> refine st_by (And.intro hd ff) ?_)
        | (with_reducible refine GQ_ne (fun hp hd => ?_) (fun hp hd => ?_) <;> refine st_by (And.intro hd ff) ?_)
        | (with_reducible refine GQ_decT ?_ (fun hd => ?_); (· try clear ff; first | assumption | omega); refine st_by (And.intro hd ff) ?_)
        | (with_reducible refine GQ_decF ?_ (fun hd => ?_); (· try clear ff; first | assumption | omega); refine st_by (And.intro hd ff) ?_)
        | (with_reducible refine GQ_dec (fun hp hd => ?_) (fun hp hd => ?_) <;> refine st_by (And.intro hd ff) ?_)
        | (with_reducible refine GQ_ndT ?_ (fun hd => ?_); (· try clear ff; first | assumption | omega); refine st_by (And.intro hd ff) ?_)
        | (with_reducible refine GQ_ndF ?_ (fun hd => ?_); (· try clear ff; first | assumption | omega); refine st_by (And.intro hd ff) ?_)
        | (with_reducible refine GQ_nd (fun hp hd => ?_) (fun hp hd => ?_) <;> refine st_by (And.intro hd ff) ?_)
        | (refine GQ_nb (fun hd => ?_) (fun hd => ?_) <;> refine st_by (And.intro hd ff) ?_)
        | (refine GQ_bool (fun hd => ?_) (fun hd => ?_) <;> refine st_by (And.intro hd ff) ?_))
      all_goals try clear ff
theorem toPlayerS_does (l : List GPlayer) (hl : l.length ≤ 1048576) : Does Try.prog 20 [.row false 3 l.length (esPlayer l)] (.row true 3 l.length (esPlayer l)) := by
  have hz := zRows (enc := ePlayer) (z := (⟨⟨#[]⟩, 0, 0⟩ : GPlayer)) (zs := [.string ⟨#[]⟩, .int .i64 0, .int .i64 0]) (by decide) rfl l.length
  refine Does.walk (nt := 23) Try.func20 rfl rfl (by simp) (by decide) rfl (fun G0 X w0 pv => ?_)
  have ff := And.intro @Ty.sl28 (And.intro @Ty.slz28 (And.intro @Ty.sl31 (And.intro @Ty.slz31 (And.intro @Ty.ldA102 (And.intro @Ty.sz102 (And.intro @Ty.szn102 (And.intro @Ty.ldA103 (And.intro @Ty.sz103 (And.intro @Ty.szn103 (And.intro @Ty.zok31 (And.intro @Ty.by31 @Ty.zs31)))))))))))
  try refine st_by ff ?_
  repeat' (first
    | exact trivial
    | (refine And.intro ?_ ?_; · (try clear ff; first | omega | decide | rfl))
    | (refine ret_q1 rfl ?_; (try refine sr_by ff ?_); all_goals (try clear ff); all_goals (try exact trivial); all_goals (skip))
    | (with_reducible refine CBC_eq (fun hp hd => ?_) (fun hp hd => ?_) <;> refine st_by (And.intro hd ff) ?_)
    | (with_reducible refine CBC_ne (fun hp hd => ?_) (fun hp hd => ?_) <;> refine st_by (And.intro hd ff) ?_)
    | (with_reducible refine CBC_decT ?_ (fun hd => ?_); (· try clear ff; first | assumption | omega); refine st_by (And.intro hd ff) ?_)
    | (with_reducible refine CBC_decF ?_ (fun hd => ?_); (· try clear ff; first | assumption | omega); refine st_by (And.intro hd ff) ?_)
    | (with_reducible refine CBC_dec (fun hp hd => ?_) (fun hp hd => ?_) <;> refine st_by (And.intro hd ff) ?_)
    | (refine CBC_bool (fun hd => ?_) (fun hd => ?_) <;> refine st_by (And.intro hd ff) ?_)
    | (with_reducible refine GQ_eq (fun hp hd => ?_) (fun hp hd => ?_) <;> refine st_by (And.intro hd ff) ?_)
    | (with_reducible refine GQ_ne (fun hp hd => ?_) (fun hp hd => ?_) <;> refine st_by (And.intro hd ff) ?_)
    | (with_reducible refine GQ_decT ?_ (fun hd => ?_); (· try clear ff; first | assumption | omega); refine st_by (And.intro hd ff) ?_)
    | (with_reducible refine GQ_decF ?_ (fun hd => ?_); (· try clear ff; first | assumption | omega); refine st_by (And.intro hd ff) ?_)
    | (with_reducible refine GQ_dec (fun hp hd => ?_) (fun hp hd => ?_) <;> refine st_by (And.intro hd ff) ?_)
    | (with_reducible refine GQ_ndT ?_ (fun hd => ?_); (· try clear ff; first | assumption | omega); refine st_by (And.intro hd ff) ?_)
    | (with_reducible refine GQ_ndF ?_ (fun hd => ?_); (· try clear ff; first | assumption | omega); refine st_by (And.intro hd ff) ?_)
    | (with_reducible refine GQ_nd (fun hp hd => ?_) (fun hp hd => ?_) <;> refine st_by (And.intro hd ff) ?_)
    | (refine GQ_nb (fun hd => ?_) (fun hd => ?_) <;> refine st_by (And.intro hd ff) ?_)
    | (refine GQ_bool (fun hd => ?_) (fun hd => ?_) <;> refine st_by (And.intro hd ff) ?_))
  all_goals try clear ff
  refine aw_loop (ι := Nat) (fun i σ => i ≤ l.length ∧ σ.t 0 = .row false 3 l.length (esPlayer l) ∧ σ.t 4 = I i ∧ σ.t 3 = .sl 3 [] 0 l.length ∧ σ.m 3 = some (.row true 3 l.length (esPlayer (l.take i ++ List.replicate (l.length - i) ⟨⟨#[]⟩, 0, 0⟩)))) (fun i => l.length - i) 0 ?_ ?_
  · (first | exact cl_by (And.intro @Ty.sl28 (And.intro @Ty.slz28 (And.intro @Ty.sl31 (And.intro @Ty.slz31 (And.intro @Ty.ldA102 (And.intro @Ty.sz102 (And.intro @Ty.szn102 (And.intro @Ty.ldA103 (And.intro @Ty.sz103 (And.intro @Ty.szn103 (And.intro @Ty.zok31 (And.intro @Ty.by31 @Ty.zs31)))))))))))) | refine st_by (And.intro @Ty.sl28 (And.intro @Ty.slz28 (And.intro @Ty.sl31 (And.intro @Ty.slz31 (And.intro @Ty.ldA102 (And.intro @Ty.sz102 (And.intro @Ty.szn102 (And.intro @Ty.ldA103 (And.intro @Ty.sz103 (And.intro @Ty.szn103 (And.intro @Ty.zok31 (And.intro @Ty.by31 @Ty.zs31)))))))))))) ?_)
    simp [esPlayer, hz]
  · rintro i σ ⟨h2, g0, g4, g3, m3⟩
    by_cases hi : i < l.length
    · have w2 : IntKind.i64.wrap ((i : Int) + 1) = ((i + 1 : Nat) : Int) := wI _ (by omega) (by omega)
      have hlen : (l.take i ++ List.replicate (l.length - i) (⟨⟨#[]⟩, 0, 0⟩ : GPlayer)).length = l.length := by simp; omega
      have hset := take_rep_set l ⟨⟨#[]⟩, 0, 0⟩ i hi
      have hsl := esPlayer_setL (l.take i ++ List.replicate (l.length - i) ⟨⟨#[]⟩, 0, 0⟩) i l[i] (by omega)
      generalize l.take i ++ List.replicate (l.length - i) (⟨⟨#[]⟩, 0, 0⟩ : GPlayer) = L at m3 hlen hset hsl
      rw [hset] at hsl
      have ff := And.intro @g0 (And.intro @g3 (And.intro @g4 (And.intro @m3 (And.intro @w2 (And.intro @hi (And.intro ((esPlayer_drop l i hi)) (And.intro @esPlayer_len (And.intro @ePlayer_eq (And.intro @esPlayer_len (And.intro @Ty.sl28 (And.intro @Ty.slz28 (And.intro @Ty.sl31 (And.intro @Ty.slz31 (And.intro @Ty.ldA102 (And.intro @Ty.sz102 (And.intro @Ty.szn102 (And.intro @Ty.ldA103 (And.intro @Ty.sz103 (And.intro @Ty.szn103 (And.intro @Ty.zok31 (And.intro @Ty.by31 @Ty.zs31)))))))))))))))))))))
      try refine st_by ff ?_
      repeat' (first
        | exact trivial
        | (refine And.intro ?_ ?_; · (try clear ff; first | omega | (rw [List.length_append]; simp [esPlayer_len]; omega) | (simp [ePlayer]; done) | decide | (simp [esPlayer_len]; omega) | rfl | (simp [esPlayer_len, hlen]; omega)))
        | (refine ret_q1 rfl ?_; (try refine sr_by ff ?_); all_goals (try clear ff); all_goals (try exact trivial); all_goals (skip))
        | (refine cq_call (toPlayer_does l[i]) ?_ ?_ ⟨?_, ?_⟩; (· first | rfl | exact cl_by ff); (· first | assumption | kernel_rfl); (· first | exact ca_by ff | (refine sa_by ff ?_; try clear ff; first | exact trivial | omega | (rw [List.length_append]; simp [esPlayer_len]; omega) | (simp [ePlayer]; done) | decide | (simp [esPlayer_len]; omega) | rfl | (simp [esPlayer_len, hlen]; omega))); refine st_by ff ?_)
        | (with_reducible refine CBC_eq (fun hp hd => ?_) (fun hp hd => ?_) <;> refine st_by (And.intro hd ff) ?_)
        | (with_reducible refine CBC_ne (fun hp hd => ?_) (fun hp hd => ?_) <;> refine st_by (And.intro hd ff) ?_)
        | (with_reducible refine CBC_decT ?_ (fun hd => ?_); (· try clear ff; first | assumption | omega); refine st_by (And.intro hd ff) ?_)
        | (with_reducible refine CBC_decF ?_ (fun hd => ?_); (· try clear ff; first | assumption | omega); refine st_by (And.intro hd ff) ?_)
        | (with_reducible refine CBC_dec (fun hp hd => ?_) (fun hp hd => ?_) <;> refine st_by (And.intro hd ff) ?_)
        | (refine CBC_bool (fun hd => ?_) (fun hd => ?_) <;> refine st_by (And.intro hd ff) ?_)
        | (with_reducible refine GQ_eq (fun hp hd => ?_) (fun hp hd => ?_) <;> refine st_by (And.intro hd ff) ?_)
        | (with_reducible refine GQ_ne (fun hp hd => ?_) (fun hp hd => ?_) <;> refine st_by (And.intro hd ff) ?_)
        | (with_reducible refine GQ_decT ?_ (fun hd => ?_); (· try clear ff; first | assumption | omega); refine st_by (And.intro hd ff) ?_)
        | (with_reducible refine GQ_decF ?_ (fun hd => ?_); (· try clear ff; first | assumption | omega); refine st_by (And.intro hd ff) ?_)
        | (with_reducible refine GQ_dec (fun hp hd => ?_) (fun hp hd => ?_) <;> refine st_by (And.intro hd ff) ?_)
        | (with_reducible refine GQ_ndT ?_ (fun hd => ?_); (· try clear ff; first | assumption | omega); refine st_by (And.intro hd ff) ?_)
        | (with_reducible refine GQ_ndF ?_ (fun hd => ?_); (· try clear ff; first | assumption | omega); refine st_by (And.intro hd ff) ?_)
        | (with_reducible refine GQ_nd (fun hp hd => ?_) (fun hp hd => ?_) <;> refine st_by (And.intro hd ff) ?_)
        | (refine GQ_nb (fun hd => ?_) (fun hd => ?_) <;> refine st_by (And.intro hd ff) ?_)
        | (refine GQ_bool (fun hd => ?_) (fun hd => ?_) <;> refine st_by (And.intro hd ff) ?_)
        | (try clear ff; refine ⟨i + 1, ⟨?_, rfl, ?_⟩, ?_⟩; (· omega); (· first | (rw [← hsl]; rfl) | (simp only [← hsl, ePlayer]; rfl)); (· omega)))
      all_goals try clear ff
    · have e1 : l.take i ++ List.replicate (l.length - i) (⟨⟨#[]⟩, 0, 0⟩ : GPlayer) = l := by rw [List.take_of_length_le (by omega)]; simp; omega
      rw [e1] at m3
      have ff := And.intro @g0 (And.intro @g3 (And.intro @g4 (And.intro @m3 (And.intro @Ty.sl28 (And.intro @Ty.slz28 (And.intro @Ty.sl31 (And.intro @Ty.slz31 (And.intro @Ty.ldA102 (And.intro @Ty.sz102 (And.intro @Ty.szn102 (And.intro @Ty.ldA103 (And.intro @Ty.sz103 (And.intro @Ty.szn103 (And.intro @Ty.zok31 (And.intro @Ty.by31 @Ty.zs31)))))))))))))))
      try refine st_by ff ?_
      repeat' (first
        | exact trivial
        | (refine And.intro ?_ ?_; · (try clear ff; first | omega))
        | (refine ret_q1 rfl ?_; (try refine sr_by ff ?_); all_goals (try clear ff); all_goals (try exact trivial); all_goals (rfl))
        | (with_reducible refine CBC_eq (fun hp hd => ?_) (fun hp hd => ?_) <;> refine st_by (And.intro hd ff) ?_)
        | (with_reducible refine CBC_ne (fun hp hd => ?_) (fun hp hd => ?_) <;> refine st_by (And.intro hd ff) ?_)
        | (with_reducible refine CBC_decT ?_ (fun hd => ?_); (· try clear ff; first | assumption | omega); refine st_by (And.intro hd ff) ?_)
        | (with_reducible refine CBC_decF ?_ (fun hd => ?_); (· try clear ff; first | assumption | omega); refine st_by (And.intro hd ff) ?_)
        | (with_reducible refine CBC_dec (fun hp hd => ?_) (fun hp hd => ?_) <;> refine st_by (And.intro hd ff) ?_)
        | (refine CBC_bool (fun hd => ?_) (fun hd => ?_) <;> refine st_by (And.intro hd ff) ?_)
        | (with_reducible refine GQ_eq (fun hp hd => ?_) (fun hp hd => ?_) <;> refine st_by (And.intro hd ff) ?_)
        | (with_reducible refine GQ_ne (fun hp hd => ?_) (fun hp hd => ?_) <;> refine st_by (And.intro hd ff) ?_)
        | (with_reducible refine GQ_decT ?_ (fun hd => ?_); (· try clear ff; first | assumption | omega); refine st_by (And.intro hd ff) ?_)
        | (with_reducible refine GQ_decF ?_ (fun hd => ?_); (· try clear ff; first | assumption | omega); refine st_by (And.intro hd ff) ?_)
        | (with_reducible refine GQ_dec (fun hp hd => ?_) (fun hp hd => ?_) <;> refine st_by (And.intro hd ff) ?_)
        | (with_reducible refine GQ_ndT ?_ (fun hd => ?_); (· try clear ff; first | assumption | omega); refine st_by (And.intro hd ff) ?_)
        | (with_reducible refine GQ_ndF ?_ (fun hd => ?_); (· try clear ff; first | assumption | omega); refine st_by (And.intro hd ff) ?_)
        | (with_reducible refine GQ_nd (fun hp hd => ?_) (fun hp hd => ?_) <;> refine st_by (And.intro hd ff) ?_)
        | (refine GQ_nb (fun hd => ?_) (fun hd => ?_) <;> refine st_by (And.intro hd ff) ?_)
        | (refine GQ_bool (fun hd => ?_) (fun hd => ?_) <;> refine st_by (And.intro hd ff) ?_))
      all_goals try clear ff
theorem eqPlayerS_does (l k : List GPlayer) (hl : l.length ≤ 9223372036854775807) (hk : k.length ≤ 9223372036854775807) : Does Try.prog 22 [.row false 3 l.length (esPlayer l), .row false 3 k.length (esPlayer k)] (B (decide (l = k))) := by
  refine Does.walk (nt := 27) Try.func22 rfl rfl (by simp) (by decide) rfl (fun G0 X w0 pv => ?_)
  have ff := And.intro @Ty.sl31 (And.intro @Ty.slz31 (And.intro @Ty.ldA103 (And.intro @Ty.sz103 @Ty.szn103)))
  try refine st_by ff ?_
  repeat' (first
    | exact trivial
    | (refine And.intro ?_ ?_; · (try clear ff; first | omega))
    | (refine ret_q1 rfl ?_; (try refine sr_by ff ?_); all_goals (try clear ff); all_goals (try exact trivial); all_goals ((have : ¬ l = k := fun e => by subst e; omega); simp [this]))
    | (refine aw_drawn (id := 6) ?_ [[], [], [0, 1], [0, 1, 2], [], [], [4, 5], [4, 5, 6], [0, 1, 2, 3, 4, 5, 6, 7], [0, 1, 2, 3, 4, 5, 6, 7, 8]] 8 ?_ ?_; (· kernel_rfl); (· kernel_rfl); refine st_by ff ?_)
    | (with_reducible refine CBC_eq (fun hp hd => ?_) (fun hp hd => ?_) <;> refine st_by (And.intro hd ff) ?_)
    | (with_reducible refine CBC_ne (fun hp hd => ?_) (fun hp hd => ?_) <;> refine st_by (And.intro hd ff) ?_)
    | (with_reducible refine CBC_decT ?_ (fun hd => ?_); (· try clear ff; first | assumption | omega); refine st_by (And.intro hd ff) ?_)
    | (with_reducible refine CBC_decF ?_ (fun hd => ?_); (· try clear ff; first | assumption | omega); refine st_by (And.intro hd ff) ?_)
    | (with_reducible refine CBC_dec (fun hp hd => ?_) (fun hp hd => ?_) <;> refine st_by (And.intro hd ff) ?_)
    | (refine CBC_bool (fun hd => ?_) (fun hd => ?_) <;> refine st_by (And.intro hd ff) ?_)
    | (with_reducible refine GQ_eq (fun hp hd => ?_) (fun hp hd => ?_) <;> refine st_by (And.intro hd ff) ?_)
    | (with_reducible refine GQ_ne (fun hp hd => ?_) (fun hp hd => ?_) <;> refine st_by (And.intro hd ff) ?_)
    | (with_reducible refine GQ_decT ?_ (fun hd => ?_); (· try clear ff; first | assumption | omega); refine st_by (And.intro hd ff) ?_)
    | (with_reducible refine GQ_decF ?_ (fun hd => ?_); (· try clear ff; first | assumption | omega); refine st_by (And.intro hd ff) ?_)
    | (with_reducible refine GQ_dec (fun hp hd => ?_) (fun hp hd => ?_) <;> refine st_by (And.intro hd ff) ?_)
    | (with_reducible refine GQ_ndT ?_ (fun hd => ?_); (· try clear ff; first | assumption | omega); refine st_by (And.intro hd ff) ?_)
    | (with_reducible refine GQ_ndF ?_ (fun hd => ?_); (· try clear ff; first | assumption | omega); refine st_by (And.intro hd ff) ?_)
    | (with_reducible refine GQ_nd (fun hp hd => ?_) (fun hp hd => ?_) <;> refine st_by (And.intro hd ff) ?_)
    | (refine GQ_nb (fun hd => ?_) (fun hd => ?_) <;> refine st_by (And.intro hd ff) ?_)
    | (refine GQ_bool (fun hd => ?_) (fun hd => ?_) <;> refine st_by (And.intro hd ff) ?_)
    | (with_reducible refine GD_eq (fun hp hd => ?_) (fun hp hd => ?_) <;> refine st_by (And.intro hd ff) ?_)
    | (with_reducible refine GD_ne (fun hp hd => ?_) (fun hp hd => ?_) <;> refine st_by (And.intro hd ff) ?_)
    | (with_reducible refine GD_decT ?_ (fun hd => ?_); (· try clear ff; first | assumption | omega); refine st_by (And.intro hd ff) ?_)
    | (with_reducible refine GD_decF ?_ (fun hd => ?_); (· try clear ff; first | assumption | omega); refine st_by (And.intro hd ff) ?_)
    | (with_reducible refine GD_dec (fun hp hd => ?_) (fun hp hd => ?_) <;> refine st_by (And.intro hd ff) ?_)
    | (with_reducible refine GD_ndT ?_ (fun hd => ?_); (· try clear ff; first | assumption | omega); refine st_by (And.intro hd ff) ?_)
    | (with_reducible refine GD_ndF ?_ (fun hd => ?_); (· try clear ff; first | assumption | omega); refine st_by (And.intro hd ff) ?_)
    | (with_reducible refine GD_nd (fun hp hd => ?_) (fun hp hd => ?_) <;> refine st_by (And.intro hd ff) ?_)
    | (refine GD_nb (fun hd => ?_) (fun hd => ?_) <;> refine st_by (And.intro hd ff) ?_)
    | (refine GD_bool (fun hd => ?_) (fun hd => ?_) <;> refine st_by (And.intro hd ff) ?_))
  all_goals try clear ff
  have hlk : l.length = k.length := by omega
  refine aw_loop (ι := Nat) (fun i σ => (i ≤ l.length ∧ l.take i = k.take i) ∧ σ.t 0 = .row false 3 l.length (esPlayer l) ∧ σ.t 1 = .row false 3 k.length (esPlayer k) ∧ σ.t 5 = I i) (fun i => l.length - i) 0 ?_ ?_
  · (first | exact cl_by trivial | refine st_by trivial ?_)
    try simp
  · rintro i σ ⟨⟨h2, h3⟩, g0, g1, g5⟩
    by_cases hi : i < l.length
    · have hi' : i < k.length := by omega
      have w2 : IntKind.i64.wrap ((i : Int) + 1) = ((i + 1 : Nat) : Int) := wI _ (by omega) (by omega)
      have hne : ¬ l[i] = k[i] → ¬ l = k := fun h e => h (by subst e; rfl)
      have heq : l[i] = k[i] → l.take (i + 1) = k.take (i + 1) := fun h => by rw [List.take_succ_eq_append_getElem hi, List.take_succ_eq_append_getElem hi', h3, h]
      have ff := And.intro @g0 (And.intro @g1 (And.intro @g5 (And.intro @w2 (And.intro @hi (And.intro @hi' (And.intro ((esPlayer_drop l i hi)) (And.intro @esPlayer_len (And.intro @ePlayer_eq (And.intro ((esPlayer_drop k i hi')) (And.intro @str_beq (And.intro @Ty.sl31 (And.intro @Ty.slz31 (And.intro @Ty.ldA103 (And.intro @Ty.sz103 @Ty.szn103))))))))))))))
      try refine st_by ff ?_
      repeat' (first
        | exact trivial
        | (refine And.intro ?_ ?_; · (try clear ff; first | omega | (rw [List.length_append]; simp [esPlayer_len]; omega) | (simp [ePlayer]; done) | decide | (simp [esPlayer_len]; omega) | rfl))
        | (refine ret_q1 rfl ?_; (try refine sr_by ff ?_); all_goals (try clear ff); all_goals (try exact trivial); all_goals (simp [hne (by simpa using hp)]))
        | (refine cq_call (eqPlayer_does l[i] k[i]) ?_ ?_ ⟨?_, ?_⟩; (· first | rfl | exact cl_by ff); (· first | assumption | kernel_rfl); (· first | exact ca_by ff | (refine sa_by ff ?_; try clear ff; first | exact trivial | omega | (rw [List.length_append]; simp [esPlayer_len]; omega) | (simp [ePlayer]; done) | decide | (simp [esPlayer_len]; omega) | rfl)); refine st_by ff ?_)
        | (refine cq_dcall (eqPlayer_does l[i] k[i]) ?_ ?_ ⟨?_, ?_⟩; (· first | rfl | exact cl_by ff); (· first | assumption | kernel_rfl); (· first | exact ca_by ff | (refine sa_by ff ?_; try clear ff; first | exact trivial | omega | (rw [List.length_append]; simp [esPlayer_len]; omega) | (simp [ePlayer]; done) | decide | (simp [esPlayer_len]; omega) | rfl)); refine st_by ff ?_)
        | (refine aw_drawn (id := 6) ?_ [[], [], [0, 1], [0, 1, 2], [], [], [4, 5], [4, 5, 6], [0, 1, 2, 3, 4, 5, 6, 7], [0, 1, 2, 3, 4, 5, 6, 7, 8]] 8 ?_ ?_; (· kernel_rfl); (· kernel_rfl); refine st_by ff ?_)
        | (with_reducible refine CBC_eq (fun hp hd => ?_) (fun hp hd => ?_) <;> refine st_by (And.intro hd ff) ?_)
        | (with_reducible refine CBC_ne (fun hp hd => ?_) (fun hp hd => ?_) <;> refine st_by (And.intro hd ff) ?_)
        | (with_reducible refine CBC_decT ?_ (fun hd => ?_); (· try clear ff; first | assumption | omega); refine st_by (And.intro hd ff) ?_)
        | (with_reducible refine CBC_decF ?_ (fun hd => ?_); (· try clear ff; first | assumption | omega); refine st_by (And.intro hd ff) ?_)
        | (with_reducible refine CBC_dec (fun hp hd => ?_) (fun hp hd => ?_) <;> refine st_by (And.intro hd ff) ?_)
        | (refine CBC_bool (fun hd => ?_) (fun hd => ?_) <;> refine st_by (And.intro hd ff) ?_)
        | (with_reducible refine GQ_eq (fun hp hd => ?_) (fun hp hd => ?_) <;> refine st_by (And.intro hd ff) ?_)
        | (with_reducible refine GQ_ne (fun hp hd => ?_) (fun hp hd => ?_) <;> refine st_by (And.intro hd ff) ?_)
        | (with_reducible refine GQ_decT ?_ (fun hd => ?_); (· try clear ff; first | assumption | omega); refine st_by (And.intro hd ff) ?_)
        | (with_reducible refine GQ_decF ?_ (fun hd => ?_); (· try clear ff; first | assumption | omega); refine st_by (And.intro hd ff) ?_)
        | (with_reducible refine GQ_dec (fun hp hd => ?_) (fun hp hd => ?_) <;> refine st_by (And.intro hd ff) ?_)
        | (with_reducible refine GQ_ndT ?_ (fun hd => ?_); (· try clear ff; first | assumption | omega); refine st_by (And.intro hd ff) ?_)
        | (with_reducible refine GQ_ndF ?_ (fun hd => ?_); (· try clear ff; first | assumption | omega); refine st_by (And.intro hd ff) ?_)
        | (with_reducible refine GQ_nd (fun hp hd => ?_) (fun hp hd => ?_) <;> refine st_by (And.intro hd ff) ?_)
        | (refine GQ_nb (fun hd => ?_) (fun hd => ?_) <;> refine st_by (And.intro hd ff) ?_)
        | (refine GQ_bool (fun hd => ?_) (fun hd => ?_) <;> refine st_by (And.intro hd ff) ?_)
        | (with_reducible refine GD_eq (fun hp hd => ?_) (fun hp hd => ?_) <;> refine st_by (And.intro hd ff) ?_)
        | (with_reducible refine GD_ne (fun hp hd => ?_) (fun hp hd => ?_) <;> refine st_by (And.intro hd ff) ?_)
        | (with_reducible refine GD_decT ?_ (fun hd => ?_); (· try clear ff; first | assumption | omega); refine st_by (And.intro hd ff) ?_)
        | (with_reducible refine GD_decF ?_ (fun hd => ?_); (· try clear ff; first | assumption | omega); refine st_by (And.intro hd ff) ?_)
        | (with_reducible refine GD_dec (fun hp hd => ?_) (fun hp hd => ?_) <;> refine st_by (And.intro hd ff) ?_)
        | (with_reducible refine GD_ndT ?_ (fun hd => ?_); (· try clear ff; first | assumption | omega); refine st_by (And.intro hd ff) ?_)
        | (with_reducible refine GD_ndF ?_ (fun hd => ?_); (· try clear ff; first | assumption | omega); refine st_by (And.intro hd ff) ?_)
        | (with_reducible refine GD_nd (fun hp hd => ?_) (fun hp hd => ?_) <;> refine st_by (And.intro hd ff) ?_)
        | (refine GD_nb (fun hd => ?_) (fun hd => ?_) <;> refine st_by (And.intro hd ff) ?_)
        | (refine GD_bool (fun hd => ?_) (fun hd => ?_) <;> refine st_by (And.intro hd ff) ?_)
        | (try clear ff; refine ⟨i + 1, ⟨⟨?_, heq ?_⟩, rfl⟩, ?_⟩; (· omega); (· simpa using hp); (· omega)))
      all_goals try clear ff
    · have e1 : l = k := by rw [List.take_of_length_le (by omega), List.take_of_length_le (by omega)] at h3; exact h3
      have ff := And.intro @g0 (And.intro @g1 (And.intro @g5 (And.intro @Ty.sl31 (And.intro @Ty.slz31 (And.intro @Ty.ldA103 (And.intro @Ty.sz103 @Ty.szn103))))))
      try refine st_by ff ?_
      repeat' (first
        | exact trivial
        | (refine And.intro ?_ ?_; · (try clear ff; first | omega))
        | (refine ret_q1 rfl ?_; (try refine sr_by ff ?_); all_goals (try clear ff); all_goals (try exact trivial); all_goals (simp [e1]))
        | (refine aw_drawn (id := 6) ?_ [[], [], [0, 1], [0, 1, 2], [], [], [4, 5], [4, 5, 6], [0, 1, 2, 3, 4, 5, 6, 7], [0, 1, 2, 3, 4, 5, 6, 7, 8]] 8 ?_ ?_; (· kernel_rfl); (· kernel_rfl); refine st_by ff ?_)
        | (with_reducible refine CBC_eq (fun hp hd => ?_) (fun hp hd => ?_) <;> refine st_by (And.intro hd ff) ?_)
        | (with_reducible refine CBC_ne (fun hp hd => ?_) (fun hp hd => ?_) <;> refine st_by (And.intro hd ff) ?_)
        | (with_reducible refine CBC_decT ?_ (fun hd => ?_); (· try clear ff; first | assumption | omega); refine st_by (And.intro hd ff) ?_)
        | (with_reducible refine CBC_decF ?_ (fun hd => ?_); (· try clear ff; first | assumption | omega); refine st_by (And.intro hd ff) ?_)
        | (with_reducible refine CBC_dec (fun hp hd => ?_) (fun hp hd => ?_) <;> refine st_by (And.intro hd ff) ?_)
        | (refine CBC_bool (fun hd => ?_) (fun hd => ?_) <;> refine st_by (And.intro hd ff) ?_)
        | (with_reducible refine GQ_eq (fun hp hd => ?_) (fun hp hd => ?_) <;> refine st_by (And.intro hd ff) ?_)
        | (with_reducible refine GQ_ne (fun hp hd => ?_) (fun hp hd => ?_) <;> refine st_by (And.intro hd ff) ?_)
        | (with_reducible refine GQ_decT ?_ (fun hd => ?_); (· try clear ff; first | assumption | omega); refine st_by (And.intro hd ff) ?_)
        | (with_reducible refine GQ_decF ?_ (fun hd => ?_); (· try clear ff; first | assumption | omega); refine st_by (And.intro hd ff) ?_)
        | (with_reducible refine GQ_dec (fun hp hd => ?_) (fun hp hd => ?_) <;> refine st_by (And.intro hd ff) ?_)
        | (with_reducible refine GQ_ndT ?_ (fun hd => ?_); (· try clear ff; first | assumption | omega); refine st_by (And.intro hd ff) ?_)
        | (with_reducible refine GQ_ndF ?_ (fun hd => ?_); (· try clear ff; first | assumption | omega); refine st_by (And.intro hd ff) ?_)
        | (with_reducible refine GQ_nd (fun hp hd => ?_) (fun hp hd => ?_) <;> refine st_by (And.intro hd ff) ?_)
        | (refine GQ_nb (fun hd => ?_) (fun hd => ?_) <;> refine st_by (And.intro hd ff) ?_)
        | (refine GQ_bool (fun hd => ?_) (fun hd => ?_) <;> refine st_by (And.intro hd ff) ?_)
        | (with_reducible refine GD_eq (fun hp hd => ?_) (fun hp hd => ?_) <;> refine st_by (And.intro hd ff) ?_)
        | (with_reducible refine GD_ne (fun hp hd => ?_) (fun hp hd => ?_) <;> refine st_by (And.intro hd ff) ?_)
        | (with_reducible refine GD_decT ?_ (fun hd => ?_); (· try clear ff; first | assumption | omega); refine st_by (And.intro hd ff) ?_)
        | (with_reducible refine GD_decF ?_ (fun hd => ?_); (· try clear ff; first | assumption | omega); refine st_by (And.intro hd ff) ?_)
        | (with_reducible refine GD_dec (fun hp hd => ?_) (fun hp hd => ?_) <;> refine st_by (And.intro hd ff) ?_)
        | (with_reducible refine GD_ndT ?_ (fun hd => ?_); (· try clear ff; first | assumption | omega); refine st_by (And.intro hd ff) ?_)
        | (with_reducible refine GD_ndF ?_ (fun hd => ?_); (· try clear ff; first | assumption | omega); refine st_by (And.intro hd ff) ?_)
        | (with_reducible refine GD_nd (fun hp hd => ?_) (fun hp hd => ?_) <;> refine st_by (And.intro hd ff) ?_)
        | (refine GD_nb (fun hd => ?_) (fun hd => ?_) <;> refine st_by (And.intro hd ff) ?_)
        | (refine GD_bool (fun hd => ?_) (fun hd => ?_) <;> refine st_by (And.intro hd ff) ?_))
      all_goals try clear ff
end Go.Av
