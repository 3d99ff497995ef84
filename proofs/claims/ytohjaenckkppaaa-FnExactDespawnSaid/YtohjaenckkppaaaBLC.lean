/- Part -/
import Derived.Test.YtohjaenckkppaaaBL0
set_option linter.unusedSimpArgs false
set_option linter.unusedVariables false
set_option maxRecDepth 100000
set_option maxHeartbeats 1000000
namespace Go.Av
open Go.Proofs
/-! Part -/
def wfPart (n : Nat) (x : GPart) : Prop := x.Name.size ≤ n
def szPart (x : GPart) (left : Int) : Int := szStep (left - x.Name.size) fun left => left
theorem szPart_ok : szOk szPart := fun x left h => szStep_le h (by omega) (fun left h => Int.le_refl _)
theorem szPart_does (x : GPart) (left : Int) (h0 : 0 ≤ left) (h1 : left ≤ 1048576) (hx : wfPart 9223372036854775807 x) : Does Try.prog 55 [.agg (ePart x), I left] (I (szPart x left)) := by
  unfold wfPart at hx
  refine Does.walk (nt := 13) Try.func55 rfl rfl (by simp) (by decide) rfl (fun G0 X w0 pv => ?_)
  unfold szPart
  have hv0 : (left - (x.Name.size : Int) : Int) ≤ left := by omega
  have w0 : IntKind.i64.wrap (left - (x.Name.size : Int)) = left - (x.Name.size : Int) := wI _ (by omega) (by omega)
  have ff := And.intro @ePart_eq (And.intro @w0 (And.intro @Ty.nz9 (And.intro @Ty.ldA9 (And.intro @Ty.ldS9 (And.intro @Ty.sz9 (And.intro @Ty.szn9 (And.intro @Ty.fo81_0 (And.intro @Ty.fk81_0 (And.intro @Ty.fs81_0 (And.intro @Ty.fn81_0 @Ty.str9))))))))))
  try refine st_by ff ?_
  repeat' (first
    | exact trivial
    | (refine And.intro ?_ ?_; · (try clear ff; first | omega))
    | (refine ret_q1 rfl ?_; (try refine sr_by ff ?_); all_goals (try clear ff); all_goals (try exact trivial); all_goals ((first | rw [szStep_neg (by assumption)] | rw [szStep_pos (by assumption)])))
    | (with_reducible refine CBC_eq (fun hp hd => ?_) (fun hp hd => ?_) <;> refine st_by (And.intro hd ff) ?_)
    | (with_reducible refine CBC_ne (fun hp hd => ?_) (fun hp hd => ?_) <;> refine st_by (And.intro hd ff) ?_)
    | (with_reducible refine CBC_decT ?_ (fun hd => ?_); (· try clear ff; first | assumption | omega); refine st_by (And.intro hd ff) ?_)
    | (with_reducible refine CBC_decF ?_ (fun hd => ?_); (· try clear ff; first | assumption | omega); refine st_by (And.intro hd ff) ?_)
    | (with_reducible refine CBC_dec (fun hp hd => ?_) (fun hp hd => ?_) <;> refine st_by (And.intro hd ff) ?_)
    | (refine CBC_bool (fun hd => ?_) (fun hd => ?_) <;> refine st_by (And.intro hd ff) ?_)
    | (with_reducible refine GQ_eq (fun hp hd => ?_) (fun hp hd => ?_) <;> refine st_by (And.intro hd ff) ?_)
    | (with_reducible refine GQ_ne (fun hp hd => ?_) (fun hp hd => ?_) <;> refine st_by (And.intro hd ff) ?_)
    | (with_reducible refine GQ_decT ?_ (fun hd => ?_); (· try clear ff; first | assumption | omega); refine st_by (And.intro hd ff) ?_)
    | (with_reducible refine GQ_decF ?_ (fun hd => ?_); (· try clear ff; first | assumption | omega); refine st_by (And.intro hd ff) ?_)
    | (with_reducible refine GQ_dec (fun hp hd => ?_) (fun hp hd => ?_) <;> refine st_by (And.intro hd ff) ?_)
    | (with_reducible refine GQ_ndT ?_ (fun hd => ?_); (· try clear ff; first | assumption | omega); refine st_by (And.intro hd ff) ?_)
    | (with_reducible refine GQ_ndF ?_ (fun hd => ?_); (· try clear ff; first | assumption | omega); refine st_by (And.intro hd ff) ?_)
    | (with_reducible refine GQ_nd (fun hp hd => ?_) (fun hp hd => ?_) <;> refine st_by (And.intro hd ff) ?_)
    | (refine GQ_nb (fun hd => ?_) (fun hd => ?_) <;> refine st_by (And.intro hd ff) ?_)
    | (refine GQ_bool (fun hd => ?_) (fun hd => ?_) <;> refine st_by (And.intro hd ff) ?_))
  all_goals try clear ff
theorem toPart_does (x : GPart) : Does Try.prog 56 [.agg (ePart x)] (.agg (ePart x)) := by
  refine Does.walk (nt := 14) Try.func56 rfl rfl (by simp) (by decide) rfl (fun G0 X w0 pv => ?_)
  have ff := And.intro @ePart_eq (And.intro @Ty.nz9 (And.intro @Ty.ldA9 (And.intro @Ty.ldS9 (And.intro @Ty.sz9 (And.intro @Ty.szn9 (And.intro @Ty.nz3 (And.intro @Ty.ldA3 (And.intro @Ty.ldS3 (And.intro @Ty.sz3 (And.intro @Ty.szn3 (And.intro @Ty.nz58 (And.intro @Ty.ldA58 (And.intro @Ty.sz58 (And.intro @Ty.szn58 (And.intro @Ty.fo81_0 (And.intro @Ty.fk81_0 (And.intro @Ty.fs81_0 (And.intro @Ty.fn81_0 (And.intro @Ty.fo58_0 (And.intro @Ty.fk58_0 (And.intro @Ty.fs58_0 (And.intro @Ty.fn58_0 (And.intro @Ty.fo81_1 (And.intro @Ty.fk81_1 (And.intro @Ty.fs81_1 (And.intro @Ty.fn81_1 (And.intro @Ty.fo58_1 (And.intro @Ty.fk58_1 (And.intro @Ty.fs58_1 (And.intro @Ty.fn58_1 (And.intro @Ty.fo81_2 (And.intro @Ty.fk81_2 (And.intro @Ty.fs81_2 (And.intro @Ty.fn81_2 (And.intro @Ty.fo58_2 (And.intro @Ty.fk58_2 (And.intro @Ty.fs58_2 (And.intro @Ty.fn58_2 (And.intro @Ty.zv58 @Ty.ag58)))))))))))))))))))))))))))))))))))))))
  try refine st_by ff ?_
  repeat' (first
    | exact trivial
    | (refine And.intro ?_ ?_; · (try clear ff; first | omega | decide))
    | (refine ret_q1 rfl ?_; (try refine sr_by ff ?_); all_goals (try clear ff); all_goals (try exact trivial); all_goals (skip))
    | (with_reducible refine CBC_eq (fun hp hd => ?_) (fun hp hd => ?_) <;> refine st_by (And.intro hd ff) ?_)
    | (with_reducible refine CBC_ne (fun hp hd => ?_) (fun hp hd => ?_) <;> refine st_by (And.intro hd ff) ?_)
    | (with_reducible refine CBC_decT ?_ (fun hd => ?_); (· try clear ff; first | assumption | omega); refine st_by (And.intro hd ff) ?_)
    | (with_reducible refine CBC_decF ?_ (fun hd => ?_); (· try clear ff; first | assumption | omega); refine st_by (And.intro hd ff) ?_)
    | (with_reducible refine CBC_dec (fun hp hd => ?_) (fun hp hd => ?_) <;> refine st_by (And.intro hd ff) ?_)
    | (refine CBC_bool (fun hd => ?_) (fun hd => ?_) <;> refine st_by (And.intro hd ff) ?_)
    | (with_reducible refine GQ_eq (fun hp hd => ?_) (fun hp hd => ?_) <;> refine st_by (And.intro hd ff) ?_)
    | (with_reducible refine GQ_ne (fun hp hd => ?_) (fun hp hd => ?_) <;> refine st_by (And.intro hd ff) ?_)
    | (with_reducible refine GQ_decT ?_ (fun hd => ?_); (· try clear ff; first | assumption | omega); refine st_by (And.intro hd ff) ?_)
    | (with_reducible refine GQ_decF ?_ (fun hd => ?_); (· try clear ff; first | assumption | omega); refine st_by (And.intro hd ff) ?_)
    | (with_reducible refine GQ_dec (fun hp hd => ?_) (fun hp hd => ?_) <;> refine st_by (And.intro hd ff) ?_)
    | (with_reducible refine GQ_ndT ?_ (fun hd => ?_); (· try clear ff; first | assumption | omega); refine st_by (And.intro hd ff) ?_)
    | (with_reducible refine GQ_ndF ?_ (fun hd => ?_); (· try clear ff; first | assumption | omega); refine st_by (And.intro hd ff) ?_)
    | (with_reducible refine GQ_nd (fun hp hd => ?_) (fun hp hd => ?_) <;> refine st_by (And.intro hd ff) ?_)
    | (refine GQ_nb (fun hd => ?_) (fun hd => ?_) <;> refine st_by (And.intro hd ff) ?_)
    | (refine GQ_bool (fun hd => ?_) (fun hd => ?_) <;> refine st_by (And.intro hd ff) ?_))
  all_goals try clear ff
theorem eqPart_does (x y : GPart) : Does Try.prog 57 [.agg (ePart x), .agg (ePart y)] (B (decide (x = y))) := by
  have hxy : decide (x = y) = decide (x.Name = y.Name ∧ x.Value = y.Value ∧ x.Tick = y.Tick) := decide_eq_decide.2 (by cases x; cases y; simp)
  rw [hxy]
  refine Does.walk (nt := 20) Try.func57 rfl rfl (by simp) (by decide) rfl (fun G0 X w0 pv => ?_)
  have ff := And.intro @ePart_eq (And.intro @str_beq (And.intro @Ty.nz9 (And.intro @Ty.ldA9 (And.intro @Ty.ldS9 (And.intro @Ty.sz9 (And.intro @Ty.szn9 (And.intro @Ty.nz3 (And.intro @Ty.ldA3 (And.intro @Ty.ldS3 (And.intro @Ty.sz3 (And.intro @Ty.szn3 (And.intro @Ty.fo58_0 (And.intro @Ty.fk58_0 (And.intro @Ty.fs58_0 (And.intro @Ty.fn58_0 (And.intro @Ty.fo58_1 (And.intro @Ty.fk58_1 (And.intro @Ty.fs58_1 (And.intro @Ty.fn58_1 (And.intro @Ty.fo58_2 (And.intro @Ty.fk58_2 (And.intro @Ty.fs58_2 @Ty.fn58_2))))))))))))))))))))))
  try refine st_by ff ?_
  repeat' (first
    | exact trivial
    | (refine And.intro ?_ ?_; · (try clear ff; first | omega))
    | (refine ret_q1 rfl ?_; (try refine sr_by ff ?_); all_goals (try clear ff); all_goals (try exact trivial); all_goals (simp_all))
    | (with_reducible refine CBC_eq (fun hp hd => ?_) (fun hp hd => ?_) <;> refine st_by (And.intro hd ff) ?_)
    | (with_reducible refine CBC_ne (fun hp hd => ?_) (fun hp hd => ?_) <;> refine st_by (And.intro hd ff) ?_)
    | (with_reducible refine CBC_decT ?_ (fun hd => ?_); (· try clear ff; first | assumption | omega); refine st_by (And.intro hd ff) ?_)
    | (with_reducible refine CBC_decF ?_ (fun hd => ?_); (· try clear ff; first | assumption | omega); refine st_by (And.intro hd ff) ?_)
    | (with_reducible refine CBC_dec (fun hp hd => ?_) (fun hp hd => ?_) <;> refine st_by (And.intro hd ff) ?_)
    | (refine CBC_bool (fun hd => ?_) (fun hd => ?_) <;> refine st_by (And.intro hd ff) ?_)
    | (with_reducible refine GQ_eq (fun hp hd => ?_) (fun hp hd => ?_) <;> refine st_by (And.intro hd ff) ?_)
    | (with_reducible refine GQ_ne (fun hp hd => ?_) (fun hp hd => ?_) <;> refine st_by (And.intro hd ff) ?_)
    | (with_reducible refine GQ_decT ?_ (fun hd => ?_); (· try clear ff; first | assumption | omega); refine st_by (And.intro hd ff) ?_)
    | (with_reducible refine GQ_decF ?_ (fun hd => ?_); (· try clear ff; first | assumption | omega); refine st_by (And.intro hd ff) ?_)
    | (with_reducible refine GQ_dec (fun hp hd => ?_) (fun hp hd => ?_) <;> refine st_by (And.intro hd ff) ?_)
    | (with_reducible refine GQ_ndT ?_ (fun hd => ?_); (· try clear ff; first | assumption | omega); refine st_by (And.intro hd ff) ?_)
    | (with_reducible refine GQ_ndF ?_ (fun hd => ?_); (· try clear ff; first | assumption | omega); refine st_by (And.intro hd ff) ?_)
    | (with_reducible refine GQ_nd (fun hp hd => ?_) (fun hp hd => ?_) <;> refine st_by (And.intro hd ff) ?_)
    | (refine GQ_nb (fun hd => ?_) (fun hd => ?_) <;> refine st_by (And.intro hd ff) ?_)
    | (refine GQ_bool (fun hd => ?_) (fun hd => ?_) <;> refine st_by (And.intro hd ff) ?_))
  all_goals try clear ff
/-! []Part -/
theorem szPartS_does (l : List GPart) (left : Int) (h0 : 0 ≤ left) (h1 : left ≤ 1048576) (hl : l.length ≤ 9223372036854775807) (hx : ∀ x ∈ l, wfPart 9223372036854775807 x) : Does Try.prog 48 [.row false 3 l.length (esPart l), I left] (I (szRow szPart l left)) := by
  have w1 : IntKind.i64.wrap (left - (l.length : Int)) = left - l.length := wI _ (by omega) (by omega)
  refine Does.walk (nt := 27) Try.func48 rfl rfl (by simp) (by decide) rfl (fun G0 X w0 pv => ?_)
  have ff := And.intro @w1 (And.intro @Ty.sl60 (And.intro @Ty.slz60 (And.intro @Ty.nz81 (And.intro @Ty.ldA81 (And.intro @Ty.sz81 @Ty.szn81)))))
  try refine st_by ff ?_
  repeat' (first
    | exact trivial
    | (refine And.intro ?_ ?_; · (try clear ff; first | omega))
    | (refine ret_q1 rfl ?_; (try refine sr_by ff ?_); all_goals (try clear ff); all_goals (try exact trivial); all_goals ((simp only [szRow]; first | rw [szStep_neg (by omega)] | rw [szStep_pos (by omega)])))
    | (with_reducible refine CBC_eq (fun hp hd => ?_) (fun hp hd => ?_) <;> refine st_by (And.intro hd ff) ?_)
    | (with_reducible refine CBC_ne (fun hp hd => ?_) (fun hp hd => ?_) <;> refine st_by (And.intro hd ff) ?_)
    | (with_reducible refine CBC_decT ?_ (fun hd => ?_); (· try clear ff; first | assumption | omega); refine st_by (And.intro hd ff) ?_)
    | (with_reducible refine CBC_decF ?_ (fun hd => ?_); (· try clear ff; first | assumption | omega); refine st_by (And.intro hd ff) ?_)
    | (with_reducible refine CBC_dec (fun hp hd => ?_) (fun hp hd => ?_) <;> refine st_by (And.intro hd ff) ?_)
    | (refine CBC_bool (fun hd => ?_) (fun hd => ?_) <;> refine st_by (And.intro hd ff) ?_)
    | (with_reducible refine GQ_eq (fun hp hd => ?_) (fun hp hd => ?_) <;> refine st_by (And.intro hd ff) ?_)
    | (with_reducible refine GQ_ne (fun hp hd => ?_) (fun hp hd => ?_) <;> refine st_by (And.intro hd ff) ?_)
    | (with_reducible refine GQ_decT ?_ (fun hd => ?_); (· try clear ff; first | assumption | omega); refine st_by (And.intro hd ff) ?_)
    | (with_reducible refine GQ_decF ?_ (fun hd => ?_); (· try clear ff; first | assumption | omega); refine st_by (And.intro hd ff) ?_)
    | (with_reducible refine GQ_dec (fun hp hd => ?_) (fun hp hd => ?_) <;> refine st_by (And.intro hd ff) ?_)
    | (with_reducible refine GQ_ndT ?_ (fun hd => ?_); (· try clear ff; first | assumption | omega); refine st_by (And.intro hd ff) ?_)
    | (with_reducible refine GQ_ndF ?_ (fun hd => ?_); (· try clear ff; first | assumption | omega); refine st_by (And.intro hd ff) ?_)
    | (with_reducible refine GQ_nd (fun hp hd => ?_) (fun hp hd => ?_) <;> refine st_by (And.intro hd ff) ?_)
    | (refine GQ_nb (fun hd => ?_) (fun hd => ?_) <;> refine st_by (And.intro hd ff) ?_)
    | (refine GQ_bool (fun hd => ?_) (fun hd => ?_) <;> refine st_by (And.intro hd ff) ?_))
  all_goals try clear ff
  have e0 : szRow szPart l left = szL szPart l (left - l.length) := by simp only [szRow]; rw [szStep_pos (by omega)]
  rw [e0]
  refine aw_loop (ι := Nat × Int) (fun z σ => (z.1 ≤ l.length ∧ 0 ≤ z.2 ∧ z.2 ≤ 1048576 ∧ szL szPart (l.drop z.1) z.2 = szL szPart l (left - l.length)) ∧ σ.t 0 = .row false 3 l.length (esPart l) ∧ σ.t 1 = I z.2 ∧ σ.t 5 = I z.1) (fun z => l.length - z.1) (0, left - l.length) ?_ ?_
  · (first | exact cl_by trivial | refine st_by trivial ?_)
    simp [w1]; omega
  · rintro ⟨i, a⟩ σ ⟨⟨h2, h3, h4, h5⟩, g0, g1, g5⟩
    simp only at h2 h3 h4 h5 g0 g1 g5
    by_cases hi : i < l.length
    · have w2 : IntKind.i64.wrap ((i : Int) + 1) = ((i + 1 : Nat) : Int) := wI _ (by omega) (by omega)
      have hle := szPart_ok l[i] a h3
      have hd0 := szL_drop (f := szPart) l i hi a
      have hx0 := hx l[i] (List.getElem_mem hi)
      have ff := And.intro @g0 (And.intro @g1 (And.intro @g5 (And.intro @w2 (And.intro @hi (And.intro ((esPart_drop l i hi)) (And.intro @esPart_len (And.intro @ePart_eq (And.intro @Ty.sl60 (And.intro @Ty.slz60 (And.intro @Ty.nz81 (And.intro @Ty.ldA81 (And.intro @Ty.sz81 @Ty.szn81))))))))))))
      try refine st_by ff ?_
      repeat' (first
        | exact trivial
        | (refine And.intro ?_ ?_; · (try clear ff; first | omega | (rw [List.length_append]; simp [esPart_len]; omega) | (simp [ePart]; done) | decide | (simp [esPart_len]; omega) | rfl))
        | (refine ret_q1 rfl ?_; (try refine sr_by ff ?_); all_goals (try clear ff); all_goals (try exact trivial); all_goals (first | (rw [← h5, hd0, szStep_neg (by first | assumption | omega)]; done) | (exfalso; omega)))
        | (with_reducible refine cq_call (szPart_does l[i] a h3 h4 hx0) ?_ ?_ ⟨?_, ?_⟩; (· first | rfl | exact cl_by ff); (· first | assumption | kernel_rfl); (· first | exact ca_by ff | (refine sa_by ff ?_; try clear ff; first | exact trivial | omega | (rw [List.length_append]; simp [esPart_len]; omega) | (simp [ePart]; done) | decide | (simp [esPart_len]; omega) | rfl)); refine st_by ff ?_)
        | (with_reducible refine CBC_eq (fun hp hd => ?_) (fun hp hd => ?_) <;> refine st_by (And.intro hd ff) ?_)
        | (with_reducible refine CBC_ne (fun hp hd => ?_) (fun hp hd => ?_) <;> refine st_by (And.intro hd ff) ?_)
        | (with_reducible refine CBC_decT ?_ (fun hd => ?_); (· try clear ff; first | assumption | omega); refine st_by (And.intro hd ff) ?_)
        | (with_reducible refine CBC_decF ?_ (fun hd => ?_); (· try clear ff; first | assumption | omega); refine st_by (And.intro hd ff) ?_)
        | (with_reducible refine CBC_dec (fun hp hd => ?_) (fun hp hd => ?_) <;> refine st_by (And.intro hd ff) ?_)
        | (refine CBC_bool (fun hd => ?_) (fun hd => ?_) <;> refine st_by (And.intro hd ff) ?_)
        | (with_reducible refine GQ_eq (fun hp hd => ?_) (fun hp hd => ?_) <;> refine st_by (And.intro hd ff) ?_)
        | (with_reducible refine GQ_ne (fun hp hd => ?_) (fun hp hd => ?_) <;> refine st_by (And.intro hd ff) ?_)
        | (with_reducible refine GQ_decT ?_ (fun hd => ?_); (· try clear ff; first | assumption | omega); refine st_by (And.intro hd ff) ?_)
        | (with_reducible refine GQ_decF ?_ (fun hd => ?_); (· try clear ff; first | assumption | omega); refine st_by (And.intro hd ff) ?_)
        | (with_reducible refine GQ_dec (fun hp hd => ?_) (fun hp hd => ?_) <;> refine st_by (And.intro hd ff) ?_)
        | (with_reducible refine GQ_ndT ?_ (fun hd => ?_); (· try clear ff; first | assumption | omega); refine st_by (And.intro hd ff) ?_)
        | (with_reducible refine GQ_ndF ?_ (fun hd => ?_); (· try clear ff; first | assumption | omega); refine st_by (And.intro hd ff) ?_)
        | (with_reducible refine GQ_nd (fun hp hd => ?_) (fun hp hd => ?_) <;> refine st_by (And.intro hd ff) ?_)
        | (refine GQ_nb (fun hd => ?_) (fun hd => ?_) <;> refine st_by (And.intro hd ff) ?_)
        | (refine GQ_bool (fun hd => ?_) (fun hd => ?_) <;> refine st_by (And.intro hd ff) ?_)
        | ((try clear ff); refine ⟨(i + 1, szPart l[i] a), ⟨⟨?_, ?_, ?_, ?_⟩, rfl, rfl⟩, ?_⟩; (· simp only; omega); (· simp only; omega); (· simp only; omega); (· simp only; rw [← h5, hd0, szStep_pos (by first | assumption | omega)]); (· simp only; omega)))
      all_goals try clear ff
    · have e1 : l.drop i = [] := List.drop_of_length_le (by omega)
      have ff := And.intro @g0 (And.intro @g1 (And.intro @g5 (And.intro @Ty.sl60 (And.intro @Ty.slz60 (And.intro @Ty.nz81 (And.intro @Ty.ldA81 (And.intro @Ty.sz81 @Ty.szn81)))))))
      try refine st_by ff ?_
      repeat' (first
        | exact trivial
        | (refine And.intro ?_ ?_; · (try clear ff; first | omega))
        | (refine ret_q1 rfl ?_; (try refine sr_by ff ?_); all_goals (try clear ff); all_goals (try exact trivial); all_goals (rw [← h5, e1]; rfl))
        | (with_reducible refine CBC_eq (fun hp hd => ?_) (fun hp hd => ?_) <;> refine st_by (And.intro hd ff) ?_)
        | (with_reducible refine CBC_ne (fun hp hd => ?_) (fun hp hd => ?_) <;> refine st_by (And.intro hd ff) ?_)
        | (with_reducible refine CBC_decT ?_ (fun hd => ?_); (· try clear ff; first | assumption | omega); refine st_by (And.intro hd ff) ?_)
        | (with_reducible refine CBC_decF ?_ (fun hd => ?_); (· try clear ff; first | assumption | omega); refine st_by (And.intro hd ff) ?_)
        | (with_reducible refine CBC_dec (fun hp hd => ?_) (fun hp hd => ?_) <;> refine st_by (And.intro hd ff) ?_)
        | (refine CBC_bool (fun hd => ?_) (fun hd => ?_) <;> refine st_by (And.intro hd ff) ?_)
        | (with_reducible refine GQ_eq (fun hp hd => ?_) (fun hp hd => ?_) <;> refine st_by (And.intro hd ff) ?_)
        | (with_reducible refine GQ_ne (fun hp hd => ?_) (fun hp hd => ?_) <;> refine st_by (And.intro hd ff) ?_)
        | (with_reducible refine GQ_decT ?_ (fun hd => ?_); (· try clear ff; first | assumption | omega); refine st_by (And.intro hd ff) ?_)
        | (with_reducible refine GQ_decF ?_ (fun hd => ?_); (· try clear ff; first | assumption | omega); refine st_by (And.intro hd ff) ?_)
        | (with_reducible refine GQ_dec (fun hp hd => ?_) (fun hp hd => ?_) <;> refine st_by (And.intro hd ff) ?_)
        | (with_reducible refine GQ_ndT ?_ (fun hd => ?_); (· try clear ff; first | assumption | omega); refine st_by (And.intro hd ff) ?_)
        | (with_reducible refine GQ_ndF ?_ (fun hd => ?_); (· try clear ff; first | assumption | omega); refine st_by (And.intro hd ff) ?_)
        | (with_reducible refine GQ_nd (fun hp hd => ?_) (fun hp hd => ?_) <;> refine st_by (And.intro hd ff) ?_)
        | (refine GQ_nb (fun hd => ?_) (fun hd => ?_) <;> refine st_by (And.intro hd ff) ?_)
        | (refine GQ_bool (fun hd => ?_) (fun hd => ?_) <;> refine st_by (And.intro hd ff) ?_))
      all_goals try clear ff
theorem toPartS_does (l : List GPart) (hl : l.length ≤ 1048576) : Does Try.prog 49 [.row false 3 l.length (esPart l)] (.row true 3 l.length (esPart l)) := by
  have hz := zRows (enc := ePart) (z := (⟨⟨#[]⟩, 0, 0⟩ : GPart)) (zs := [.string ⟨#[]⟩, .int .i64 0, .int .i64 0]) (by decide) rfl l.length
  refine Does.walk (nt := 23) Try.func49 rfl rfl (by simp) (by decide) rfl (fun G0 X w0 pv => ?_)
  have ff := And.intro @Ty.sl60 (And.intro @Ty.slz60 (And.intro @Ty.sl44 (And.intro @Ty.slz44 (And.intro @Ty.nz81 (And.intro @Ty.ldA81 (And.intro @Ty.sz81 (And.intro @Ty.szn81 (And.intro @Ty.nz58 (And.intro @Ty.ldA58 (And.intro @Ty.sz58 (And.intro @Ty.szn58 (And.intro @Ty.nze44 (And.intro @Ty.zok44 (And.intro @Ty.by44 @Ty.zs44))))))))))))))
  try refine st_by ff ?_
  repeat' (first
    | exact trivial
    | (refine And.intro ?_ ?_; · (try clear ff; first | omega | decide | rfl))
    | (refine ret_q1 rfl ?_; (try refine sr_by ff ?_); all_goals (try clear ff); all_goals (try exact trivial); all_goals (skip))
    | (with_reducible refine CBC_eq (fun hp hd => ?_) (fun hp hd => ?_) <;> refine st_by (And.intro hd ff) ?_)
    | (with_reducible refine CBC_ne (fun hp hd => ?_) (fun hp hd => ?_) <;> refine st_by (And.intro hd ff) ?_)
    | (with_reducible refine CBC_decT ?_ (fun hd => ?_); (· try clear ff; first | assumption | omega); refine st_by (And.intro hd ff) ?_)
    | (with_reducible refine CBC_decF ?_ (fun hd => ?_); (· try clear ff; first | assumption | omega); refine st_by (And.intro hd ff) ?_)
    | (with_reducible refine CBC_dec (fun hp hd => ?_) (fun hp hd => ?_) <;> refine st_by (And.intro hd ff) ?_)
    | (refine CBC_bool (fun hd => ?_) (fun hd => ?_) <;> refine st_by (And.intro hd ff) ?_)
    | (with_reducible refine GQ_eq (fun hp hd => ?_) (fun hp hd => ?_) <;> refine st_by (And.intro hd ff) ?_)
    | (with_reducible refine GQ_ne (fun hp hd => ?_) (fun hp hd => ?_) <;> refine st_by (And.intro hd ff) ?_)
    | (with_reducible refine GQ_decT ?_ (fun hd => ?_); (· try clear ff; first | assumption | omega); refine st_by (And.intro hd ff) ?_)
    | (with_reducible refine GQ_decF ?_ (fun hd => ?_); (· try clear ff; first | assumption | omega); refine st_by (And.intro hd ff) ?_)
    | (with_reducible refine GQ_dec (fun hp hd => ?_) (fun hp hd => ?_) <;> refine st_by (And.intro hd ff) ?_)
    | (with_reducible refine GQ_ndT ?_ (fun hd => ?_); (· try clear ff; first | assumption | omega); refine st_by (And.intro hd ff) ?_)
    | (with_reducible refine GQ_ndF ?_ (fun hd => ?_); (· try clear ff; first | assumption | omega); refine st_by (And.intro hd ff) ?_)
    | (with_reducible refine GQ_nd (fun hp hd => ?_) (fun hp hd => ?_) <;> refine st_by (And.intro hd ff) ?_)
    | (refine GQ_nb (fun hd => ?_) (fun hd => ?_) <;> refine st_by (And.intro hd ff) ?_)
    | (refine GQ_bool (fun hd => ?_) (fun hd => ?_) <;> refine st_by (And.intro hd ff) ?_))
  all_goals try clear ff
  refine aw_loop (ι := Nat) (fun i σ => i ≤ l.length ∧ σ.t 0 = .row false 3 l.length (esPart l) ∧ σ.t 4 = I i ∧ σ.t 3 = .sl 3 [] 0 l.length ∧ σ.m 3 = some (.row true 3 l.length (esPart (l.take i ++ List.replicate (l.length - i) ⟨⟨#[]⟩, 0, 0⟩)))) (fun i => l.length - i) 0 ?_ ?_
  · (first | exact cl_by (And.intro @Ty.sl60 (And.intro @Ty.slz60 (And.intro @Ty.sl44 (And.intro @Ty.slz44 (And.intro @Ty.nz81 (And.intro @Ty.ldA81 (And.intro @Ty.sz81 (And.intro @Ty.szn81 (And.intro @Ty.nz58 (And.intro @Ty.ldA58 (And.intro @Ty.sz58 (And.intro @Ty.szn58 (And.intro @Ty.nze44 (And.intro @Ty.zok44 (And.intro @Ty.by44 @Ty.zs44))))))))))))))) | refine st_by (And.intro @Ty.sl60 (And.intro @Ty.slz60 (And.intro @Ty.sl44 (And.intro @Ty.slz44 (And.intro @Ty.nz81 (And.intro @Ty.ldA81 (And.intro @Ty.sz81 (And.intro @Ty.szn81 (And.intro @Ty.nz58 (And.intro @Ty.ldA58 (And.intro @Ty.sz58 (And.intro @Ty.szn58 (And.intro @Ty.nze44 (And.intro @Ty.zok44 (And.intro @Ty.by44 @Ty.zs44))))))))))))))) ?_)
    simp [esPart, hz]
  · rintro i σ ⟨h2, g0, g4, g3, m3⟩
    by_cases hi : i < l.length
    · have w2 : IntKind.i64.wrap ((i : Int) + 1) = ((i + 1 : Nat) : Int) := wI _ (by omega) (by omega)
      have hlen : (l.take i ++ List.replicate (l.length - i) (⟨⟨#[]⟩, 0, 0⟩ : GPart)).length = l.length := by simp; omega
      have hset := take_rep_set l ⟨⟨#[]⟩, 0, 0⟩ i hi
      have hsl := esPart_setL (l.take i ++ List.replicate (l.length - i) ⟨⟨#[]⟩, 0, 0⟩) i l[i] (by omega)
      generalize l.take i ++ List.replicate (l.length - i) (⟨⟨#[]⟩, 0, 0⟩ : GPart) = L at m3 hlen hset hsl
      rw [hset] at hsl
      have ff := And.intro @g0 (And.intro @g3 (And.intro @g4 (And.intro @m3 (And.intro @w2 (And.intro @hi (And.intro ((esPart_drop l i hi)) (And.intro @esPart_len (And.intro @ePart_eq (And.intro @esPart_len (And.intro @Ty.sl60 (And.intro @Ty.slz60 (And.intro @Ty.sl44 (And.intro @Ty.slz44 (And.intro @Ty.nz81 (And.intro @Ty.ldA81 (And.intro @Ty.sz81 (And.intro @Ty.szn81 (And.intro @Ty.nz58 (And.intro @Ty.ldA58 (And.intro @Ty.sz58 (And.intro @Ty.szn58 (And.intro @Ty.nze44 (And.intro @Ty.zok44 (And.intro @Ty.by44 @Ty.zs44))))))))))))))))))))))))
      try refine st_by ff ?_
      repeat' (first
        | exact trivial
        | (refine And.intro ?_ ?_; · (try clear ff; first | omega | (rw [List.length_append]; simp [esPart_len]; omega) | (simp [ePart]; done) | decide | (simp [esPart_len]; omega) | rfl | (simp [esPart_len, hlen]; omega)))
        | (refine ret_q1 rfl ?_; (try refine sr_by ff ?_); all_goals (try clear ff); all_goals (try exact trivial); all_goals (skip))
        | (with_reducible refine cq_call (toPart_does l[i]) ?_ ?_ ⟨?_, ?_⟩; (· first | rfl | exact cl_by ff); (· first | assumption | kernel_rfl); (· first | exact ca_by ff | (refine sa_by ff ?_; try clear ff; first | exact trivial | omega | (rw [List.length_append]; simp [esPart_len]; omega) | (simp [ePart]; done) | decide | (simp [esPart_len]; omega) | rfl | (simp [esPart_len, hlen]; omega))); refine st_by ff ?_)
        | (with_reducible refine CBC_eq (fun hp hd => ?_) (fun hp hd => ?_) <;> refine st_by (And.intro hd ff) ?_)
        | (with_reducible refine CBC_ne (fun hp hd => ?_) (fun hp hd => ?_) <;> refine st_by (And.intro hd ff) ?_)
        | (with_reducible refine CBC_decT ?_ (fun hd => ?_); (· try clear ff; first | assumption | omega); refine st_by (And.intro hd ff) ?_)
        | (with_reducible refine CBC_decF ?_ (fun hd => ?_); (· try clear ff; first | assumption | omega); refine st_by (And.intro hd ff) ?_)
        | (with_reducible refine CBC_dec (fun hp hd => ?_) (fun hp hd => ?_) <;> refine st_by (And.intro hd ff) ?_)
        | (refine CBC_bool (fun hd => ?_) (fun hd => ?_) <;> refine st_by (And.intro hd ff) ?_)
        | (with_reducible refine GQ_eq (fun hp hd => ?_) (fun hp hd => ?_) <;> refine st_by (And.intro hd ff) ?_)
        | (with_reducible refine GQ_ne (fun hp hd => ?_) (fun hp hd => ?_) <;> refine st_by (And.intro hd ff) ?_)
        | (with_reducible refine GQ_decT ?_ (fun hd => ?_); (· try clear ff; first | assumption | omega); refine st_by (And.intro hd ff) ?_)
        | (with_reducible refine GQ_decF ?_ (fun hd => ?_); (· try clear ff; first | assumption | omega); refine st_by (And.intro hd ff) ?_)
        | (with_reducible refine GQ_dec (fun hp hd => ?_) (fun hp hd => ?_) <;> refine st_by (And.intro hd ff) ?_)
        | (with_reducible refine GQ_ndT ?_ (fun hd => ?_); (· try clear ff; first | assumption | omega); refine st_by (And.intro hd ff) ?_)
        | (with_reducible refine GQ_ndF ?_ (fun hd => ?_); (· try clear ff; first | assumption | omega); refine st_by (And.intro hd ff) ?_)
        | (with_reducible refine GQ_nd (fun hp hd => ?_) (fun hp hd => ?_) <;> refine st_by (And.intro hd ff) ?_)
        | (refine GQ_nb (fun hd => ?_) (fun hd => ?_) <;> refine st_by (And.intro hd ff) ?_)
        | (refine GQ_bool (fun hd => ?_) (fun hd => ?_) <;> refine st_by (And.intro hd ff) ?_)
        | ((try clear ff); refine ⟨i + 1, ⟨?_, rfl, ?_⟩, ?_⟩; (· omega); (· first | (rw [← hsl]; rfl) | (simp only [← hsl, ePart]; rfl)); (· omega)))
      all_goals try clear ff
    · have e1 : l.take i ++ List.replicate (l.length - i) (⟨⟨#[]⟩, 0, 0⟩ : GPart) = l := by rw [List.take_of_length_le (by omega)]; simp; omega
      rw [e1] at m3
      have ff := And.intro @g0 (And.intro @g3 (And.intro @g4 (And.intro @m3 (And.intro @Ty.sl60 (And.intro @Ty.slz60 (And.intro @Ty.sl44 (And.intro @Ty.slz44 (And.intro @Ty.nz81 (And.intro @Ty.ldA81 (And.intro @Ty.sz81 (And.intro @Ty.szn81 (And.intro @Ty.nz58 (And.intro @Ty.ldA58 (And.intro @Ty.sz58 (And.intro @Ty.szn58 (And.intro @Ty.nze44 (And.intro @Ty.zok44 (And.intro @Ty.by44 @Ty.zs44))))))))))))))))))
      try refine st_by ff ?_
      repeat' (first
        | exact trivial
        | (refine And.intro ?_ ?_; · (try clear ff; first | omega))
        | (refine ret_q1 rfl ?_; (try refine sr_by ff ?_); all_goals (try clear ff); all_goals (try exact trivial); all_goals (rfl))
        | (with_reducible refine CBC_eq (fun hp hd => ?_) (fun hp hd => ?_) <;> refine st_by (And.intro hd ff) ?_)
        | (with_reducible refine CBC_ne (fun hp hd => ?_) (fun hp hd => ?_) <;> refine st_by (And.intro hd ff) ?_)
        | (with_reducible refine CBC_decT ?_ (fun hd => ?_); (· try clear ff; first | assumption | omega); refine st_by (And.intro hd ff) ?_)
        | (with_reducible refine CBC_decF ?_ (fun hd => ?_); (· try clear ff; first | assumption | omega); refine st_by (And.intro hd ff) ?_)
        | (with_reducible refine CBC_dec (fun hp hd => ?_) (fun hp hd => ?_) <;> refine st_by (And.intro hd ff) ?_)
        | (refine CBC_bool (fun hd => ?_) (fun hd => ?_) <;> refine st_by (And.intro hd ff) ?_)
        | (with_reducible refine GQ_eq (fun hp hd => ?_) (fun hp hd => ?_) <;> refine st_by (And.intro hd ff) ?_)
        | (with_reducible refine GQ_ne (fun hp hd => ?_) (fun hp hd => ?_) <;> refine st_by (And.intro hd ff) ?_)
        | (with_reducible refine GQ_decT ?_ (fun hd => ?_); (· try clear ff; first | assumption | omega); refine st_by (And.intro hd ff) ?_)
        | (with_reducible refine GQ_decF ?_ (fun hd => ?_); (· try clear ff; first | assumption | omega); refine st_by (And.intro hd ff) ?_)
        | (with_reducible refine GQ_dec (fun hp hd => ?_) (fun hp hd => ?_) <;> refine st_by (And.intro hd ff) ?_)
        | (with_reducible refine GQ_ndT ?_ (fun hd => ?_); (· try clear ff; first | assumption | omega); refine st_by (And.intro hd ff) ?_)
        | (with_reducible refine GQ_ndF ?_ (fun hd => ?_); (· try clear ff; first | assumption | omega); refine st_by (And.intro hd ff) ?_)
        | (with_reducible refine GQ_nd (fun hp hd => ?_) (fun hp hd => ?_) <;> refine st_by (And.intro hd ff) ?_)
        | (refine GQ_nb (fun hd => ?_) (fun hd => ?_) <;> refine st_by (And.intro hd ff) ?_)
        | (refine GQ_bool (fun hd => ?_) (fun hd => ?_) <;> refine st_by (And.intro hd ff) ?_))
      all_goals try clear ff
theorem eqPartS_does (l k : List GPart) (hl : l.length ≤ 9223372036854775807) (hk : k.length ≤ 9223372036854775807) : Does Try.prog 50 [.row false 3 l.length (esPart l), .row false 3 k.length (esPart k)] (B (decide (l = k))) := by
  refine Does.walk (nt := 27) Try.func50 rfl rfl (by simp) (by decide) rfl (fun G0 X w0 pv => ?_)
  have ff := And.intro @Ty.sl44 (And.intro @Ty.slz44 (And.intro @Ty.nz58 (And.intro @Ty.ldA58 (And.intro @Ty.sz58 @Ty.szn58))))
  try refine st_by ff ?_
  repeat' (first
    | exact trivial
    | (refine And.intro ?_ ?_; · (try clear ff; first | omega))
    | (refine ret_q1 rfl ?_; (try refine sr_by ff ?_); all_goals (try clear ff); all_goals (try exact trivial); all_goals ((have : ¬ l = k := fun e => by subst e; omega); simp [this]))
    | (refine aw_drawn (id := 6) ?_ [[], [], [0, 1], [0, 1, 2], [], [], [4, 5], [4, 5, 6], [0, 1, 2, 3, 4, 5, 6, 7], [0, 1, 2, 3, 4, 5, 6, 7, 8]] 8 ?_ ?_; (· kernel_rfl); (· kernel_rfl); refine st_by ff ?_)
    | (with_reducible refine CBC_eq (fun hp hd => ?_) (fun hp hd => ?_) <;> refine st_by (And.intro hd ff) ?_)
    | (with_reducible refine CBC_ne (fun hp hd => ?_) (fun hp hd => ?_) <;> refine st_by (And.intro hd ff) ?_)
    | (with_reducible refine CBC_decT ?_ (fun hd => ?_); (· try clear ff; first | assumption | omega); refine st_by (And.intro hd ff) ?_)
    | (with_reducible refine CBC_decF ?_ (fun hd => ?_); (· try clear ff; first | assumption | omega); refine st_by (And.intro hd ff) ?_)
    | (with_reducible refine CBC_dec (fun hp hd => ?_) (fun hp hd => ?_) <;> refine st_by (And.intro hd ff) ?_)
    | (refine CBC_bool (fun hd => ?_) (fun hd => ?_) <;> refine st_by (And.intro hd ff) ?_)
    | (with_reducible refine GQ_eq (fun hp hd => ?_) (fun hp hd => ?_) <;> refine st_by (And.intro hd ff) ?_)
    | (with_reducible refine GQ_ne (fun hp hd => ?_) (fun hp hd => ?_) <;> refine st_by (And.intro hd ff) ?_)
    | (with_reducible refine GQ_decT ?_ (fun hd => ?_); (· try clear ff; first | assumption | omega); refine st_by (And.intro hd ff) ?_)
    | (with_reducible refine GQ_decF ?_ (fun hd => ?_); (· try clear ff; first | assumption | omega); refine st_by (And.intro hd ff) ?_)
    | (with_reducible refine GQ_dec (fun hp hd => ?_) (fun hp hd => ?_) <;> refine st_by (And.intro hd ff) ?_)
    | (with_reducible refine GQ_ndT ?_ (fun hd => ?_); (· try clear ff; first | assumption | omega); refine st_by (And.intro hd ff) ?_)
    | (with_reducible refine GQ_ndF ?_ (fun hd => ?_); (· try clear ff; first | assumption | omega); refine st_by (And.intro hd ff) ?_)
    | (with_reducible refine GQ_nd (fun hp hd => ?_) (fun hp hd => ?_) <;> refine st_by (And.intro hd ff) ?_)
    | (refine GQ_nb (fun hd => ?_) (fun hd => ?_) <;> refine st_by (And.intro hd ff) ?_)
    | (refine GQ_bool (fun hd => ?_) (fun hd => ?_) <;> refine st_by (And.intro hd ff) ?_)
    | (with_reducible refine GD_eq (fun hp hd => ?_) (fun hp hd => ?_) <;> refine st_by (And.intro hd ff) ?_)
    | (with_reducible refine GD_ne (fun hp hd => ?_) (fun hp hd => ?_) <;> refine st_by (And.intro hd ff) ?_)
    | (with_reducible refine GD_decT ?_ (fun hd => ?_); (· try clear ff; first | assumption | omega); refine st_by (And.intro hd ff) ?_)
    | (with_reducible refine GD_decF ?_ (fun hd => ?_); (· try clear ff; first | assumption | omega); refine st_by (And.intro hd ff) ?_)
    | (with_reducible refine GD_dec (fun hp hd => ?_) (fun hp hd => ?_) <;> refine st_by (And.intro hd ff) ?_)
    | (with_reducible refine GD_ndT ?_ (fun hd => ?_); (· try clear ff; first | assumption | omega); refine st_by (And.intro hd ff) ?_)
    | (with_reducible refine GD_ndF ?_ (fun hd => ?_); (· try clear ff; first | assumption | omega); refine st_by (And.intro hd ff) ?_)
    | (with_reducible refine GD_nd (fun hp hd => ?_) (fun hp hd => ?_) <;> refine st_by (And.intro hd ff) ?_)
    | (refine GD_nb (fun hd => ?_) (fun hd => ?_) <;> refine st_by (And.intro hd ff) ?_)
    | (refine GD_bool (fun hd => ?_) (fun hd => ?_) <;> refine st_by (And.intro hd ff) ?_))
  all_goals try clear ff
  have hlk : l.length = k.length := by omega
  refine aw_loop (ι := Nat) (fun i σ => (i ≤ l.length ∧ l.take i = k.take i) ∧ σ.t 0 = .row false 3 l.length (esPart l) ∧ σ.t 1 = .row false 3 k.length (esPart k) ∧ σ.t 5 = I i) (fun i => l.length - i) 0 ?_ ?_
  · (first | exact cl_by trivial | refine st_by trivial ?_)
    try simp
  · rintro i σ ⟨⟨h2, h3⟩, g0, g1, g5⟩
    by_cases hi : i < l.length
    · have hi' : i < k.length := by omega
      have w2 : IntKind.i64.wrap ((i : Int) + 1) = ((i + 1 : Nat) : Int) := wI _ (by omega) (by omega)
      have hne : ¬ l[i] = k[i] → ¬ l = k := fun h e => h (by subst e; rfl)
      have heq : l[i] = k[i] → l.take (i + 1) = k.take (i + 1) := fun h => by rw [List.take_succ_eq_append_getElem hi, List.take_succ_eq_append_getElem hi', h3, h]
      have ff := And.intro @g0 (And.intro @g1 (And.intro @g5 (And.intro @w2 (And.intro @hi (And.intro @hi' (And.intro ((esPart_drop l i hi)) (And.intro @esPart_len (And.intro @ePart_eq (And.intro ((esPart_drop k i hi')) (And.intro @str_beq (And.intro @Ty.sl44 (And.intro @Ty.slz44 (And.intro @Ty.nz58 (And.intro @Ty.ldA58 (And.intro @Ty.sz58 @Ty.szn58)))))))))))))))
      try refine st_by ff ?_
      repeat' (first
        | exact trivial
        | (refine And.intro ?_ ?_; · (try clear ff; first | omega | (rw [List.length_append]; simp [esPart_len]; omega) | (simp [ePart]; done) | decide | (simp [esPart_len]; omega) | rfl))
        | (refine ret_q1 rfl ?_; (try refine sr_by ff ?_); all_goals (try clear ff); all_goals (try exact trivial); all_goals (simp [hne (by simpa using hp)]))
        | (with_reducible refine cq_call (eqPart_does l[i] k[i]) ?_ ?_ ⟨?_, ?_⟩; (· first | rfl | exact cl_by ff); (· first | assumption | kernel_rfl); (· first | exact ca_by ff | (refine sa_by ff ?_; try clear ff; first | exact trivial | omega | (rw [List.length_append]; simp [esPart_len]; omega) | (simp [ePart]; done) | decide | (simp [esPart_len]; omega) | rfl)); refine st_by ff ?_)
        | (with_reducible refine cq_dcall (eqPart_does l[i] k[i]) ?_ ?_ ⟨?_, ?_⟩; (· first | rfl | exact cl_by ff); (· first | assumption | kernel_rfl); (· first | exact ca_by ff | (refine sa_by ff ?_; try clear ff; first | exact trivial | omega | (rw [List.length_append]; simp [esPart_len]; omega) | (simp [ePart]; done) | decide | (simp [esPart_len]; omega) | rfl)); refine st_by ff ?_)
        | (refine aw_drawn (id := 6) ?_ [[], [], [0, 1], [0, 1, 2], [], [], [4, 5], [4, 5, 6], [0, 1, 2, 3, 4, 5, 6, 7], [0, 1, 2, 3, 4, 5, 6, 7, 8]] 8 ?_ ?_; (· kernel_rfl); (· kernel_rfl); refine st_by ff ?_)
        | (with_reducible refine CBC_eq (fun hp hd => ?_) (fun hp hd => ?_) <;> refine st_by (And.intro hd ff) ?_)
        | (with_reducible refine CBC_ne (fun hp hd => ?_) (fun hp hd => ?_) <;> refine st_by (And.intro hd ff) ?_)
        | (with_reducible refine CBC_decT ?_ (fun hd => ?_); (· try clear ff; first | assumption | omega); refine st_by (And.intro hd ff) ?_)
        | (with_reducible refine CBC_decF ?_ (fun hd => ?_); (· try clear ff; first | assumption | omega); refine st_by (And.intro hd ff) ?_)
        | (with_reducible refine CBC_dec (fun hp hd => ?_) (fun hp hd => ?_) <;> refine st_by (And.intro hd ff) ?_)
        | (refine CBC_bool (fun hd => ?_) (fun hd => ?_) <;> refine st_by (And.intro hd ff) ?_)
        | (with_reducible refine GQ_eq (fun hp hd => ?_) (fun hp hd => ?_) <;> refine st_by (And.intro hd ff) ?_)
        | (with_reducible refine GQ_ne (fun hp hd => ?_) (fun hp hd => ?_) <;> refine st_by (And.intro hd ff) ?_)
        | (with_reducible refine GQ_decT ?_ (fun hd => ?_); (· try clear ff; first | assumption | omega); refine st_by (And.intro hd ff) ?_)
        | (with_reducible refine GQ_decF ?_ (fun hd => ?_); (· try clear ff; first | assumption | omega); refine st_by (And.intro hd ff) ?_)
        | (with_reducible refine GQ_dec (fun hp hd => ?_) (fun hp hd => ?_) <;> refine st_by (And.intro hd ff) ?_)
        | (with_reducible refine GQ_ndT ?_ (fun hd => ?_); (· try clear ff; first | assumption | omega); refine st_by (And.intro hd ff) ?_)
        | (with_reducible refine GQ_ndF ?_ (fun hd => ?_); (· try clear ff; first | assumption | omega); refine st_by (And.intro hd ff) ?_)
        | (with_reducible refine GQ_nd (fun hp hd => ?_) (fun hp hd => ?_) <;> refine st_by (And.intro hd ff) ?_)
        | (refine GQ_nb (fun hd => ?_) (fun hd => ?_) <;> refine st_by (And.intro hd ff) ?_)
        | (refine GQ_bool (fun hd => ?_) (fun hd => ?_) <;> refine st_by (And.intro hd ff) ?_)
        | (with_reducible refine GD_eq (fun hp hd => ?_) (fun hp hd => ?_) <;> refine st_by (And.intro hd ff) ?_)
        | (with_reducible refine GD_ne (fun hp hd => ?_) (fun hp hd => ?_) <;> refine st_by (And.intro hd ff) ?_)
        | (with_reducible refine GD_decT ?_ (fun hd => ?_); (· try clear ff; first | assumption | omega); refine st_by (And.intro hd ff) ?_)
        | (with_reducible refine GD_decF ?_ (fun hd => ?_); (· try clear ff; first | assumption | omega); refine st_by (And.intro hd ff) ?_)
        | (with_reducible refine GD_dec (fun hp hd => ?_) (fun hp hd => ?_) <;> refine st_by (And.intro hd ff) ?_)
        | (with_reducible refine GD_ndT ?_ (fun hd => ?_); (· try clear ff; first | assumption | omega); refine st_by (And.intro hd ff) ?_)
        | (with_reducible refine GD_ndF ?_ (fun hd => ?_); (· try clear ff; first | assumption | omega); refine st_by (And.intro hd ff) ?_)
        | (with_reducible refine GD_nd (fun hp hd => ?_) (fun hp hd => ?_) <;> refine st_by (And.intro hd ff) ?_)
        | (refine GD_nb (fun hd => ?_) (fun hd => ?_) <;> refine st_by (And.intro hd ff) ?_)
        | (refine GD_bool (fun hd => ?_) (fun hd => ?_) <;> refine st_by (And.intro hd ff) ?_)
        | ((try clear ff); refine ⟨i + 1, ⟨⟨?_, heq ?_⟩, rfl⟩, ?_⟩; (· omega); (· simpa using hp); (· omega)))
      all_goals try clear ff
    · have e1 : l = k := by rw [List.take_of_length_le (by omega), List.take_of_length_le (by omega)] at h3; exact h3
      have ff := And.intro @g0 (And.intro @g1 (And.intro @g5 (And.intro @Ty.sl44 (And.intro @Ty.slz44 (And.intro @Ty.nz58 (And.intro @Ty.ldA58 (And.intro @Ty.sz58 @Ty.szn58)))))))
      try refine st_by ff ?_
      repeat' (first
        | exact trivial
        | (refine And.intro ?_ ?_; · (try clear ff; first | omega))
        | (refine ret_q1 rfl ?_; (try refine sr_by ff ?_); all_goals (try clear ff); all_goals (try exact trivial); all_goals (simp [e1]))
        | (refine aw_drawn (id := 6) ?_ [[], [], [0, 1], [0, 1, 2], [], [], [4, 5], [4, 5, 6], [0, 1, 2, 3, 4, 5, 6, 7], [0, 1, 2, 3, 4, 5, 6, 7, 8]] 8 ?_ ?_; (· kernel_rfl); (· kernel_rfl); refine st_by ff ?_)
        | (with_reducible refine CBC_eq (fun hp hd => ?_) (fun hp hd => ?_) <;> refine st_by (And.intro hd ff) ?_)
        | (with_reducible refine CBC_ne (fun hp hd => ?_) (fun hp hd => ?_) <;> refine st_by (And.intro hd ff) ?_)
        | (with_reducible refine CBC_decT ?_ (fun hd => ?_); (· try clear ff; first | assumption | omega); refine st_by (And.intro hd ff) ?_)
        | (with_reducible refine CBC_decF ?_ (fun hd => ?_); (· try clear ff; first | assumption | omega); refine st_by (And.intro hd ff) ?_)
        | (with_reducible refine CBC_dec (fun hp hd => ?_) (fun hp hd => ?_) <;> refine st_by (And.intro hd ff) ?_)
        | (refine CBC_bool (fun hd => ?_) (fun hd => ?_) <;> refine st_by (And.intro hd ff) ?_)
        | (with_reducible refine GQ_eq (fun hp hd => ?_) (fun hp hd => ?_) <;> refine st_by (And.intro hd ff) ?_)
        | (with_reducible refine GQ_ne (fun hp hd => ?_) (fun hp hd => ?_) <;> refine st_by (And.intro hd ff) ?_)
        | (with_reducible refine GQ_decT ?_ (fun hd => ?_); (· try clear ff; first | assumption | omega); refine st_by (And.intro hd ff) ?_)
        | (with_reducible refine GQ_decF ?_ (fun hd => ?_); (· try clear ff; first | assumption | omega); refine st_by (And.intro hd ff) ?_)
        | (with_reducible refine GQ_dec (fun hp hd => ?_) (fun hp hd => ?_) <;> refine st_by (And.intro hd ff) ?_)
        | (with_reducible refine GQ_ndT ?_ (fun hd => ?_); (· try clear ff; first | assumption | omega); refine st_by (And.intro hd ff) ?_)
        | (with_reducible refine GQ_ndF ?_ (fun hd => ?_); (· try clear ff; first | assumption | omega); refine st_by (And.intro hd ff) ?_)
        | (with_reducible refine GQ_nd (fun hp hd => ?_) (fun hp hd => ?_) <;> refine st_by (And.intro hd ff) ?_)
        | (refine GQ_nb (fun hd => ?_) (fun hd => ?_) <;> refine st_by (And.intro hd ff) ?_)
        | (refine GQ_bool (fun hd => ?_) (fun hd => ?_) <;> refine st_by (And.intro hd ff) ?_)
        | (with_reducible refine GD_eq (fun hp hd => ?_) (fun hp hd => ?_) <;> refine st_by (And.intro hd ff) ?_)
        | (with_reducible refine GD_ne (fun hp hd => ?_) (fun hp hd => ?_) <;> refine st_by (And.intro hd ff) ?_)
        | (with_reducible refine GD_decT ?_ (fun hd => ?_); (· try clear ff; first | assumption | omega); refine st_by (And.intro hd ff) ?_)
        | (with_reducible refine GD_decF ?_ (fun hd => ?_); (· try clear ff; first | assumption | omega); refine st_by (And.intro hd ff) ?_)
        | (with_reducible refine GD_dec (fun hp hd => ?_) (fun hp hd => ?_) <;> refine st_by (And.intro hd ff) ?_)
        | (with_reducible refine GD_ndT ?_ (fun hd => ?_); (· try clear ff; first | assumption | omega); refine st_by (And.intro hd ff) ?_)
        | (with_reducible refine GD_ndF ?_ (fun hd => ?_); (· try clear ff; first | assumption | omega); refine st_by (And.intro hd ff) ?_)
        | (with_reducible refine GD_nd (fun hp hd => ?_) (fun hp hd => ?_) <;> refine st_by (And.intro hd ff) ?_)
        | (refine GD_nb (fun hd => ?_) (fun hd => ?_) <;> refine st_by (And.intro hd ff) ?_)
        | (refine GD_bool (fun hd => ?_) (fun hd => ?_) <;> refine st_by (And.intro hd ff) ?_))
      all_goals try clear ff
def mPart (x : GPart) (k : Int) : GPart := { x with Name := mtext (k), Value := k + 1, Tick := k + 2 }
def cPart (x : GPart) : Nat := 3
theorem markPartS_does (l : List GPart) (k : Int) (h0 : 0 ≤ k) (hk : k + cntL cPart l ≤ 4611686018427387904) (hl : l.length ≤ 9223372036854775807) :
    DoesX Try.prog 40 [.sl 1000 [] 0 l.length, I k] [.row true 3 l.length (esPart l)] (I (k + cntL cPart l)) [.row true 3 l.length (esPart (markL mPart cPart l k))] := by
  refine DoesX.walk (nt := 35) Try.func40 rfl rfl (by simp) (by decide) rfl (fun G0 X w0 pv => ?_)
  have ff := And.intro @Ty.sl44 (And.intro @Ty.slz44 (And.intro @Ty.nz9 (And.intro @Ty.ldA9 (And.intro @Ty.ldS9 (And.intro @Ty.sz9 (And.intro @Ty.szn9 (And.intro @Ty.nz3 (And.intro @Ty.ldA3 (And.intro @Ty.ldS3 (And.intro @Ty.sz3 (And.intro @Ty.szn3 (And.intro @Ty.fo58_0 (And.intro @Ty.fk58_0 (And.intro @Ty.fs58_0 (And.intro @Ty.fn58_0 (And.intro @Ty.fo58_1 (And.intro @Ty.fk58_1 (And.intro @Ty.fs58_1 (And.intro @Ty.fn58_1 (And.intro @Ty.fo58_2 (And.intro @Ty.fk58_2 (And.intro @Ty.fs58_2 @Ty.fn58_2))))))))))))))))))))))
  try refine st_by ff ?_
  repeat' (first
    | exact trivial
    | (refine And.intro ?_ ?_; · (try clear ff; first | omega))
    | (refine ret_q1 rfl ?_; (try refine sr_by ff ?_); all_goals (try clear ff); all_goals (try exact trivial); all_goals (skip))
    | (with_reducible refine CBC_eq (fun hp hd => ?_) (fun hp hd => ?_) <;> refine st_by (And.intro hd ff) ?_)
    | (with_reducible refine CBC_ne (fun hp hd => ?_) (fun hp hd => ?_) <;> refine st_by (And.intro hd ff) ?_)
    | (with_reducible refine CBC_decT ?_ (fun hd => ?_); (· try clear ff; first | assumption | omega); refine st_by (And.intro hd ff) ?_)
    | (with_reducible refine CBC_decF ?_ (fun hd => ?_); (· try clear ff; first | assumption | omega); refine st_by (And.intro hd ff) ?_)
    | (with_reducible refine CBC_dec (fun hp hd => ?_) (fun hp hd => ?_) <;> refine st_by (And.intro hd ff) ?_)
    | (refine CBC_bool (fun hd => ?_) (fun hd => ?_) <;> refine st_by (And.intro hd ff) ?_)
    | (with_reducible refine GQ_eq (fun hp hd => ?_) (fun hp hd => ?_) <;> refine st_by (And.intro hd ff) ?_)
    | (with_reducible refine GQ_ne (fun hp hd => ?_) (fun hp hd => ?_) <;> refine st_by (And.intro hd ff) ?_)
    | (with_reducible refine GQ_decT ?_ (fun hd => ?_); (· try clear ff; first | assumption | omega); refine st_by (And.intro hd ff) ?_)
    | (with_reducible refine GQ_decF ?_ (fun hd => ?_); (· try clear ff; first | assumption | omega); refine st_by (And.intro hd ff) ?_)
    | (with_reducible refine GQ_dec (fun hp hd => ?_) (fun hp hd => ?_) <;> refine st_by (And.intro hd ff) ?_)
    | (with_reducible refine GQ_ndT ?_ (fun hd => ?_); (· try clear ff; first | assumption | omega); refine st_by (And.intro hd ff) ?_)
    | (with_reducible refine GQ_ndF ?_ (fun hd => ?_); (· try clear ff; first | assumption | omega); refine st_by (And.intro hd ff) ?_)
    | (with_reducible refine GQ_nd (fun hp hd => ?_) (fun hp hd => ?_) <;> refine st_by (And.intro hd ff) ?_)
    | (refine GQ_nb (fun hd => ?_) (fun hd => ?_) <;> refine st_by (And.intro hd ff) ?_)
    | (refine GQ_bool (fun hd => ?_) (fun hd => ?_) <;> refine st_by (And.intro hd ff) ?_))
  all_goals try clear ff
  refine aw_loop (ι := Nat) (fun i σ => (i ≤ l.length) ∧ σ.t 0 = .sl 1000 [] 0 l.length ∧ σ.t 1 = I (k + cntL cPart (l.take i)) ∧ σ.t 5 = I i ∧ σ.m 1000 = some (.row true 3 l.length (esPart (midL mPart cPart l k i)))) (fun i => l.length - i) 0 ?_ ?_
  · (first | exact cl_by trivial | refine st_by trivial ?_)
    simp [midL_zero, cntL]
  · rintro i σ ⟨h2, g0, g1, g5, m1⟩
    by_cases hi : i < l.length
    · have w2 : IntKind.i64.wrap ((i : Int) + 1) = ((i + 1 : Nat) : Int) := wI _ (by omega) (by omega)
      have hc := cntL_lt (c := cPart) l i hi
      have hc1 := cntL_take (c := cPart) l i hi
      have hmid := midL_set (f := mPart) (c := cPart) l k i hi
      have hmq : (midL mPart cPart l k i)[i]? = some l[i] := by rw [List.getElem?_eq_getElem (by rw [midL_len]; exact hi), midL_get l k i hi]
      have hmi : i < (midL mPart cPart l k i).length := by rw [midL_len]; exact hi
      have hmidl := midL_len (f := mPart) (c := cPart) l k i
      simp only [cPart] at hc hc1
      generalize midL mPart cPart l k i = L at m1 hmid hmq hmi hmidl
      have hms : ∀ a, i < (L.set i a).length := fun a => by rw [List.length_set]; exact hmi
      have hmg : L[i] = l[i] := by rw [List.getElem?_eq_getElem hmi] at hmq; simpa using hmq
      generalize hn : k + (cntL cPart (l.take i) : Int) = n at g1 hmid
      have wk0 : IntKind.i64.wrap (n + 1) = n + 1 := wE (by omega) (by omega) (by omega)
      have wk1 : IntKind.i64.wrap (n + 1 + 1) = n + 2 := wE (by omega) (by omega) (by omega)
      have wk2 : IntKind.i64.wrap (n + 2 + 1) = n + 3 := wE (by omega) (by omega) (by omega)
      have ff := And.intro @g0 (And.intro @g1 (And.intro @g5 (And.intro @m1 (And.intro @w2 (And.intro @wk0 (And.intro @wk1 (And.intro @wk2 (And.intro @hi (And.intro @hmi (And.intro ((fun v => esPart_set_Name L i v hmi)) (And.intro ((fun a v => esPart_set_Name (L.set i a) i v (hms a))) (And.intro ((fun v => esPart_set_Value L i v hmi)) (And.intro ((fun a v => esPart_set_Value (L.set i a) i v (hms a))) (And.intro ((fun v => esPart_set_Tick L i v hmi)) (And.intro ((fun a v => esPart_set_Tick (L.set i a) i v (hms a))) (And.intro @esPart_len (And.intro @lset_len (And.intro @lget_set (And.intro @lset_set (And.intro @Ty.sl44 (And.intro @Ty.slz44 (And.intro @Ty.nz9 (And.intro @Ty.ldA9 (And.intro @Ty.ldS9 (And.intro @Ty.sz9 (And.intro @Ty.szn9 (And.intro @Ty.nz3 (And.intro @Ty.ldA3 (And.intro @Ty.ldS3 (And.intro @Ty.sz3 (And.intro @Ty.szn3 (And.intro @Ty.fo58_0 (And.intro @Ty.fk58_0 (And.intro @Ty.fs58_0 (And.intro @Ty.fn58_0 (And.intro @Ty.fo58_1 (And.intro @Ty.fk58_1 (And.intro @Ty.fs58_1 (And.intro @Ty.fn58_1 (And.intro @Ty.fo58_2 (And.intro @Ty.fk58_2 (And.intro @Ty.fs58_2 @Ty.fn58_2))))))))))))))))))))))))))))))))))))))))))
      try refine st_by ff ?_
      repeat' (first
        | exact trivial
        | (refine And.intro ?_ ?_; · (try clear ff; first | omega | (simp [esPart_len, hmidl]; omega) | decide))
        | (refine ret_q1 rfl ?_; (try refine sr_by ff ?_); all_goals (try clear ff); all_goals (try exact trivial); all_goals (skip))
        | (with_reducible refine cq_call (markText_does (n) (by omega)) ?_ ?_ ⟨?_, ?_⟩; (· first | rfl | exact cl_by ff); (· first | assumption | kernel_rfl); (· first | exact ca_by ff | (refine sa_by ff ?_; try clear ff; first | exact trivial | omega | (simp [esPart_len, hmidl]; omega) | decide)); refine st_by ff ?_)
        | (with_reducible refine CBC_eq (fun hp hd => ?_) (fun hp hd => ?_) <;> refine st_by (And.intro hd ff) ?_)
        | (with_reducible refine CBC_ne (fun hp hd => ?_) (fun hp hd => ?_) <;> refine st_by (And.intro hd ff) ?_)
        | (with_reducible refine CBC_decT ?_ (fun hd => ?_); (· try clear ff; first | assumption | omega); refine st_by (And.intro hd ff) ?_)
        | (with_reducible refine CBC_decF ?_ (fun hd => ?_); (· try clear ff; first | assumption | omega); refine st_by (And.intro hd ff) ?_)
        | (with_reducible refine CBC_dec (fun hp hd => ?_) (fun hp hd => ?_) <;> refine st_by (And.intro hd ff) ?_)
        | (refine CBC_bool (fun hd => ?_) (fun hd => ?_) <;> refine st_by (And.intro hd ff) ?_)
        | (with_reducible refine GQ_eq (fun hp hd => ?_) (fun hp hd => ?_) <;> refine st_by (And.intro hd ff) ?_)
        | (with_reducible refine GQ_ne (fun hp hd => ?_) (fun hp hd => ?_) <;> refine st_by (And.intro hd ff) ?_)
        | (with_reducible refine GQ_decT ?_ (fun hd => ?_); (· try clear ff; first | assumption | omega); refine st_by (And.intro hd ff) ?_)
        | (with_reducible refine GQ_decF ?_ (fun hd => ?_); (· try clear ff; first | assumption | omega); refine st_by (And.intro hd ff) ?_)
        | (with_reducible refine GQ_dec (fun hp hd => ?_) (fun hp hd => ?_) <;> refine st_by (And.intro hd ff) ?_)
        | (with_reducible refine GQ_ndT ?_ (fun hd => ?_); (· try clear ff; first | assumption | omega); refine st_by (And.intro hd ff) ?_)
        | (with_reducible refine GQ_ndF ?_ (fun hd => ?_); (· try clear ff; first | assumption | omega); refine st_by (And.intro hd ff) ?_)
        | (with_reducible refine GQ_nd (fun hp hd => ?_) (fun hp hd => ?_) <;> refine st_by (And.intro hd ff) ?_)
        | (refine GQ_nb (fun hd => ?_) (fun hd => ?_) <;> refine st_by (And.intro hd ff) ?_)
        | (refine GQ_bool (fun hd => ?_) (fun hd => ?_) <;> refine st_by (And.intro hd ff) ?_)
        | ((try clear ff); refine ⟨i + 1, ⟨?_, ?_, ?_, ?_⟩, ?_⟩; (· omega); (· refine congrArg I ?_; omega); (· rfl); (· rw [← hmid]; simp only [mPart, hmg]); (· omega)))
      all_goals try clear ff
    · have e1 : midL mPart cPart l k i = markL mPart cPart l k := midL_all l k i (by omega)
      have e2 : l.take i = l := List.take_of_length_le (by omega)
      rw [e1] at m1
      rw [e2] at g1
      have ff := And.intro @g0 (And.intro @g1 (And.intro @g5 (And.intro @m1 (And.intro @Ty.sl44 (And.intro @Ty.slz44 (And.intro @Ty.nz9 (And.intro @Ty.ldA9 (And.intro @Ty.ldS9 (And.intro @Ty.sz9 (And.intro @Ty.szn9 (And.intro @Ty.nz3 (And.intro @Ty.ldA3 (And.intro @Ty.ldS3 (And.intro @Ty.sz3 (And.intro @Ty.szn3 (And.intro @Ty.fo58_0 (And.intro @Ty.fk58_0 (And.intro @Ty.fs58_0 (And.intro @Ty.fn58_0 (And.intro @Ty.fo58_1 (And.intro @Ty.fk58_1 (And.intro @Ty.fs58_1 (And.intro @Ty.fn58_1 (And.intro @Ty.fo58_2 (And.intro @Ty.fk58_2 (And.intro @Ty.fs58_2 @Ty.fn58_2))))))))))))))))))))))))))
      try refine st_by ff ?_
      repeat' (first
        | exact trivial
        | (refine And.intro ?_ ?_; · (try clear ff; first | omega))
        | (refine retX_q1 rfl ?_; (try refine sr_by ff ?_); all_goals (try clear ff); all_goals (try exact trivial); all_goals ((refine regsOk_one ?_; (first | exact cl_by @m1 | refine st_by @m1 ?_))))
        | (with_reducible refine CBC_eq (fun hp hd => ?_) (fun hp hd => ?_) <;> refine st_by (And.intro hd ff) ?_)
        | (with_reducible refine CBC_ne (fun hp hd => ?_) (fun hp hd => ?_) <;> refine st_by (And.intro hd ff) ?_)
        | (with_reducible refine CBC_decT ?_ (fun hd => ?_); (· try clear ff; first | assumption | omega); refine st_by (And.intro hd ff) ?_)
        | (with_reducible refine CBC_decF ?_ (fun hd => ?_); (· try clear ff; first | assumption | omega); refine st_by (And.intro hd ff) ?_)
        | (with_reducible refine CBC_dec (fun hp hd => ?_) (fun hp hd => ?_) <;> refine st_by (And.intro hd ff) ?_)
        | (refine CBC_bool (fun hd => ?_) (fun hd => ?_) <;> refine st_by (And.intro hd ff) ?_)
        | (with_reducible refine GQ_eq (fun hp hd => ?_) (fun hp hd => ?_) <;> refine st_by (And.intro hd ff) ?_)
        | (with_reducible refine GQ_ne (fun hp hd => ?_) (fun hp hd => ?_) <;> refine st_by (And.intro hd ff) ?_)
        | (with_reducible refine GQ_decT ?_ (fun hd => ?_); (· try clear ff; first | assumption | omega); refine st_by (And.intro hd ff) ?_)
        | (with_reducible refine GQ_decF ?_ (fun hd => ?_); (· try clear ff; first | assumption | omega); refine st_by (And.intro hd ff) ?_)
        | (with_reducible refine GQ_dec (fun hp hd => ?_) (fun hp hd => ?_) <;> refine st_by (And.intro hd ff) ?_)
        | (with_reducible refine GQ_ndT ?_ (fun hd => ?_); (· try clear ff; first | assumption | omega); refine st_by (And.intro hd ff) ?_)
        | (with_reducible refine GQ_ndF ?_ (fun hd => ?_); (· try clear ff; first | assumption | omega); refine st_by (And.intro hd ff) ?_)
        | (with_reducible refine GQ_nd (fun hp hd => ?_) (fun hp hd => ?_) <;> refine st_by (And.intro hd ff) ?_)
        | (refine GQ_nb (fun hd => ?_) (fun hd => ?_) <;> refine st_by (And.intro hd ff) ?_)
        | (refine GQ_bool (fun hd => ?_) (fun hd => ?_) <;> refine st_by (And.intro hd ff) ?_))
      all_goals try clear ff
theorem heldPartS_does (l : List GPart) (k : Int) (h0 : 0 ≤ k) (hk : k + cntL cPart l ≤ 4611686018427387904) (hl : l.length ≤ 9223372036854775807) (hm : markL mPart cPart l k = l) :
    Does Try.prog 41 [.row false 3 l.length (esPart l), I k] (I (k + cntL cPart l)) := by
  refine Does.walk (nt := 41) Try.func41 rfl rfl (by simp) (by decide) rfl (fun G0 X w0 pv => ?_)
  have ff := And.intro @Ty.sl44 (And.intro @Ty.slz44 (And.intro @Ty.nz9 (And.intro @Ty.ldA9 (And.intro @Ty.ldS9 (And.intro @Ty.sz9 (And.intro @Ty.szn9 (And.intro @Ty.nz3 (And.intro @Ty.ldA3 (And.intro @Ty.ldS3 (And.intro @Ty.sz3 (And.intro @Ty.szn3 (And.intro @Ty.fo58_0 (And.intro @Ty.fk58_0 (And.intro @Ty.fs58_0 (And.intro @Ty.fn58_0 (And.intro @Ty.fo58_1 (And.intro @Ty.fk58_1 (And.intro @Ty.fs58_1 (And.intro @Ty.fn58_1 (And.intro @Ty.fo58_2 (And.intro @Ty.fk58_2 (And.intro @Ty.fs58_2 @Ty.fn58_2))))))))))))))))))))))
  try refine st_by ff ?_
  repeat' (first
    | exact trivial
    | (refine And.intro ?_ ?_; · (try clear ff; first | omega))
    | (refine ret_q1 rfl ?_; (try refine sr_by ff ?_); all_goals (try clear ff); all_goals (try exact trivial); all_goals (skip))
    | (refine aw_drawn (id := 4) ?_ [[], [], [0, 1], [0, 1, 2], [0, 1, 2, 3], [], [5], [0, 1, 2, 3, 4, 5, 6]] 7 ?_ ?_; (· kernel_rfl); (· kernel_rfl); refine st_by ff ?_)
    | (with_reducible refine CBC_eq (fun hp hd => ?_) (fun hp hd => ?_) <;> refine st_by (And.intro hd ff) ?_)
    | (with_reducible refine CBC_ne (fun hp hd => ?_) (fun hp hd => ?_) <;> refine st_by (And.intro hd ff) ?_)
    | (with_reducible refine CBC_decT ?_ (fun hd => ?_); (· try clear ff; first | assumption | omega); refine st_by (And.intro hd ff) ?_)
    | (with_reducible refine CBC_decF ?_ (fun hd => ?_); (· try clear ff; first | assumption | omega); refine st_by (And.intro hd ff) ?_)
    | (with_reducible refine CBC_dec (fun hp hd => ?_) (fun hp hd => ?_) <;> refine st_by (And.intro hd ff) ?_)
    | (refine CBC_bool (fun hd => ?_) (fun hd => ?_) <;> refine st_by (And.intro hd ff) ?_)
    | (with_reducible refine GQ_eq (fun hp hd => ?_) (fun hp hd => ?_) <;> refine st_by (And.intro hd ff) ?_)
    | (with_reducible refine GQ_ne (fun hp hd => ?_) (fun hp hd => ?_) <;> refine st_by (And.intro hd ff) ?_)
    | (with_reducible refine GQ_decT ?_ (fun hd => ?_); (· try clear ff; first | assumption | omega); refine st_by (And.intro hd ff) ?_)
    | (with_reducible refine GQ_decF ?_ (fun hd => ?_); (· try clear ff; first | assumption | omega); refine st_by (And.intro hd ff) ?_)
    | (with_reducible refine GQ_dec (fun hp hd => ?_) (fun hp hd => ?_) <;> refine st_by (And.intro hd ff) ?_)
    | (with_reducible refine GQ_ndT ?_ (fun hd => ?_); (· try clear ff; first | assumption | omega); refine st_by (And.intro hd ff) ?_)
    | (with_reducible refine GQ_ndF ?_ (fun hd => ?_); (· try clear ff; first | assumption | omega); refine st_by (And.intro hd ff) ?_)
    | (with_reducible refine GQ_nd (fun hp hd => ?_) (fun hp hd => ?_) <;> refine st_by (And.intro hd ff) ?_)
    | (refine GQ_nb (fun hd => ?_) (fun hd => ?_) <;> refine st_by (And.intro hd ff) ?_)
    | (refine GQ_bool (fun hd => ?_) (fun hd => ?_) <;> refine st_by (And.intro hd ff) ?_)
    | (with_reducible refine GD_eq (fun hp hd => ?_) (fun hp hd => ?_) <;> refine st_by (And.intro hd ff) ?_)
    | (with_reducible refine GD_ne (fun hp hd => ?_) (fun hp hd => ?_) <;> refine st_by (And.intro hd ff) ?_)
    | (with_reducible refine GD_decT ?_ (fun hd => ?_); (· try clear ff; first | assumption | omega); refine st_by (And.intro hd ff) ?_)
    | (with_reducible refine GD_decF ?_ (fun hd => ?_); (· try clear ff; first | assumption | omega); refine st_by (And.intro hd ff) ?_)
    | (with_reducible refine GD_dec (fun hp hd => ?_) (fun hp hd => ?_) <;> refine st_by (And.intro hd ff) ?_)
    | (with_reducible refine GD_ndT ?_ (fun hd => ?_); (· try clear ff; first | assumption | omega); refine st_by (And.intro hd ff) ?_)
    | (with_reducible refine GD_ndF ?_ (fun hd => ?_); (· try clear ff; first | assumption | omega); refine st_by (And.intro hd ff) ?_)
    | (with_reducible refine GD_nd (fun hp hd => ?_) (fun hp hd => ?_) <;> refine st_by (And.intro hd ff) ?_)
    | (refine GD_nb (fun hd => ?_) (fun hd => ?_) <;> refine st_by (And.intro hd ff) ?_)
    | (refine GD_bool (fun hd => ?_) (fun hd => ?_) <;> refine st_by (And.intro hd ff) ?_))
  all_goals try clear ff
  refine aw_loop (ι := Nat) (fun i σ => (i ≤ l.length) ∧ σ.t 0 = .row false 3 l.length (esPart l) ∧ σ.t 1 = I (k + cntL cPart (l.take i)) ∧ σ.t 5 = I i) (fun i => l.length - i) 0 ?_ ?_
  · (first | exact cl_by trivial | refine st_by trivial ?_)
    simp [cntL]
  · rintro i σ ⟨h2, g0, g1, g5⟩
    by_cases hi : i < l.length
    · have w2 : IntKind.i64.wrap ((i : Int) + 1) = ((i + 1 : Nat) : Int) := wI _ (by omega) (by omega)
      have hc := cntL_lt (c := cPart) l i hi
      have hc1 := cntL_take (c := cPart) l i hi
      have hs := markL_self hm i hi
      simp only [cPart] at hc hc1
      generalize hn : k + (cntL cPart (l.take i) : Int) = n at g1 hs
      have f0 : l[i].Name = mtext (n) := by rw [hs]; rfl
      have f1 : l[i].Value = n + 1 := by rw [hs]; rfl
      have f2 : l[i].Tick = n + 2 := by rw [hs]; rfl
      clear hs
      have wk0 : IntKind.i64.wrap (n + 1) = n + 1 := wE (by omega) (by omega) (by omega)
      have wk1 : IntKind.i64.wrap (n + 1 + 1) = n + 2 := wE (by omega) (by omega) (by omega)
      have wk2 : IntKind.i64.wrap (n + 2 + 1) = n + 3 := wE (by omega) (by omega) (by omega)
      have ff := And.intro @g0 (And.intro @g1 (And.intro @g5 (And.intro @w2 (And.intro @wk0 (And.intro @wk1 (And.intro @wk2 (And.intro @hi (And.intro @f0 (And.intro @f1 (And.intro @f2 (And.intro ((esPart_drop l i hi)) (And.intro @esPart_len (And.intro @ePart_eq (And.intro @Ty.sl44 (And.intro @Ty.slz44 (And.intro @Ty.nz9 (And.intro @Ty.ldA9 (And.intro @Ty.ldS9 (And.intro @Ty.sz9 (And.intro @Ty.szn9 (And.intro @Ty.nz3 (And.intro @Ty.ldA3 (And.intro @Ty.ldS3 (And.intro @Ty.sz3 (And.intro @Ty.szn3 (And.intro @Ty.fo58_0 (And.intro @Ty.fk58_0 (And.intro @Ty.fs58_0 (And.intro @Ty.fn58_0 (And.intro @Ty.fo58_1 (And.intro @Ty.fk58_1 (And.intro @Ty.fs58_1 (And.intro @Ty.fn58_1 (And.intro @Ty.fo58_2 (And.intro @Ty.fk58_2 (And.intro @Ty.fs58_2 @Ty.fn58_2))))))))))))))))))))))))))))))))))))
      try refine st_by ff ?_
      repeat' (first
        | exact trivial
        | (refine And.intro ?_ ?_; · (try clear ff; first | omega | (rw [List.length_append]; simp [esPart_len]; omega) | (simp [ePart]; done) | decide | (simp [esPart_len]; omega)))
        | (refine ret_q1 rfl ?_; (try refine sr_by ff ?_); all_goals (try clear ff); all_goals (try exact trivial); all_goals (skip))
        | (with_reducible refine cq_call (markText_does (n) (by omega)) ?_ ?_ ⟨?_, ?_⟩; (· first | rfl | exact cl_by ff); (· first | assumption | kernel_rfl); (· first | exact ca_by ff | (refine sa_by ff ?_; try clear ff; first | exact trivial | omega | (rw [List.length_append]; simp [esPart_len]; omega) | (simp [ePart]; done) | decide | (simp [esPart_len]; omega))); refine st_by ff ?_)
        | (with_reducible refine cq_dcall (markText_does (n) (by omega)) ?_ ?_ ⟨?_, ?_⟩; (· first | rfl | exact cl_by ff); (· first | assumption | kernel_rfl); (· first | exact ca_by ff | (refine sa_by ff ?_; try clear ff; first | exact trivial | omega | (rw [List.length_append]; simp [esPart_len]; omega) | (simp [ePart]; done) | decide | (simp [esPart_len]; omega))); refine st_by ff ?_)
        | (refine aw_drawn (id := 4) ?_ [[], [], [0, 1], [0, 1, 2], [0, 1, 2, 3], [], [5], [0, 1, 2, 3, 4, 5, 6]] 7 ?_ ?_; (· kernel_rfl); (· kernel_rfl); refine st_by ff ?_)
        | (with_reducible refine CBC_eq (fun hp hd => ?_) (fun hp hd => ?_) <;> refine st_by (And.intro hd ff) ?_)
        | (with_reducible refine CBC_ne (fun hp hd => ?_) (fun hp hd => ?_) <;> refine st_by (And.intro hd ff) ?_)
        | (with_reducible refine CBC_decT ?_ (fun hd => ?_); (· try clear ff; first | assumption | omega); refine st_by (And.intro hd ff) ?_)
        | (with_reducible refine CBC_decF ?_ (fun hd => ?_); (· try clear ff; first | assumption | omega); refine st_by (And.intro hd ff) ?_)
        | (with_reducible refine CBC_dec (fun hp hd => ?_) (fun hp hd => ?_) <;> refine st_by (And.intro hd ff) ?_)
        | (refine CBC_bool (fun hd => ?_) (fun hd => ?_) <;> refine st_by (And.intro hd ff) ?_)
        | (with_reducible refine GQ_eq (fun hp hd => ?_) (fun hp hd => ?_) <;> refine st_by (And.intro hd ff) ?_)
        | (with_reducible refine GQ_ne (fun hp hd => ?_) (fun hp hd => ?_) <;> refine st_by (And.intro hd ff) ?_)
        | (with_reducible refine GQ_decT ?_ (fun hd => ?_); (· try clear ff; first | assumption | omega); refine st_by (And.intro hd ff) ?_)
        | (with_reducible refine GQ_decF ?_ (fun hd => ?_); (· try clear ff; first | assumption | omega); refine st_by (And.intro hd ff) ?_)
        | (with_reducible refine GQ_dec (fun hp hd => ?_) (fun hp hd => ?_) <;> refine st_by (And.intro hd ff) ?_)
        | (with_reducible refine GQ_ndT ?_ (fun hd => ?_); (· try clear ff; first | assumption | omega); refine st_by (And.intro hd ff) ?_)
        | (with_reducible refine GQ_ndF ?_ (fun hd => ?_); (· try clear ff; first | assumption | omega); refine st_by (And.intro hd ff) ?_)
        | (with_reducible refine GQ_nd (fun hp hd => ?_) (fun hp hd => ?_) <;> refine st_by (And.intro hd ff) ?_)
        | (refine GQ_nb (fun hd => ?_) (fun hd => ?_) <;> refine st_by (And.intro hd ff) ?_)
        | (refine GQ_bool (fun hd => ?_) (fun hd => ?_) <;> refine st_by (And.intro hd ff) ?_)
        | (with_reducible refine GD_eq (fun hp hd => ?_) (fun hp hd => ?_) <;> refine st_by (And.intro hd ff) ?_)
        | (with_reducible refine GD_ne (fun hp hd => ?_) (fun hp hd => ?_) <;> refine st_by (And.intro hd ff) ?_)
        | (with_reducible refine GD_decT ?_ (fun hd => ?_); (· try clear ff; first | assumption | omega); refine st_by (And.intro hd ff) ?_)
        | (with_reducible refine GD_decF ?_ (fun hd => ?_); (· try clear ff; first | assumption | omega); refine st_by (And.intro hd ff) ?_)
        | (with_reducible refine GD_dec (fun hp hd => ?_) (fun hp hd => ?_) <;> refine st_by (And.intro hd ff) ?_)
        | (with_reducible refine GD_ndT ?_ (fun hd => ?_); (· try clear ff; first | assumption | omega); refine st_by (And.intro hd ff) ?_)
        | (with_reducible refine GD_ndF ?_ (fun hd => ?_); (· try clear ff; first | assumption | omega); refine st_by (And.intro hd ff) ?_)
        | (with_reducible refine GD_nd (fun hp hd => ?_) (fun hp hd => ?_) <;> refine st_by (And.intro hd ff) ?_)
        | (refine GD_nb (fun hd => ?_) (fun hd => ?_) <;> refine st_by (And.intro hd ff) ?_)
        | (refine GD_bool (fun hd => ?_) (fun hd => ?_) <;> refine st_by (And.intro hd ff) ?_)
        | ((try clear ff); refine ⟨i + 1, ⟨?_, ?_, ?_⟩, ?_⟩; (· omega); (· refine congrArg I ?_; omega); (· rfl); (· omega)))
      all_goals try clear ff
    · have e2 : l.take i = l := List.take_of_length_le (by omega)
      rw [e2] at g1
      have ff := And.intro @g0 (And.intro @g1 (And.intro @g5 (And.intro @Ty.sl44 (And.intro @Ty.slz44 (And.intro @Ty.nz9 (And.intro @Ty.ldA9 (And.intro @Ty.ldS9 (And.intro @Ty.sz9 (And.intro @Ty.szn9 (And.intro @Ty.nz3 (And.intro @Ty.ldA3 (And.intro @Ty.ldS3 (And.intro @Ty.sz3 (And.intro @Ty.szn3 (And.intro @Ty.fo58_0 (And.intro @Ty.fk58_0 (And.intro @Ty.fs58_0 (And.intro @Ty.fn58_0 (And.intro @Ty.fo58_1 (And.intro @Ty.fk58_1 (And.intro @Ty.fs58_1 (And.intro @Ty.fn58_1 (And.intro @Ty.fo58_2 (And.intro @Ty.fk58_2 (And.intro @Ty.fs58_2 @Ty.fn58_2)))))))))))))))))))))))))
      try refine st_by ff ?_
      repeat' (first
        | exact trivial
        | (refine And.intro ?_ ?_; · (try clear ff; first | omega))
        | (refine ret_q1 rfl ?_; (try refine sr_by ff ?_); all_goals (try clear ff); all_goals (try exact trivial); all_goals (rfl))
        | (refine aw_drawn (id := 4) ?_ [[], [], [0, 1], [0, 1, 2], [0, 1, 2, 3], [], [5], [0, 1, 2, 3, 4, 5, 6]] 7 ?_ ?_; (· kernel_rfl); (· kernel_rfl); refine st_by ff ?_)
        | (with_reducible refine CBC_eq (fun hp hd => ?_) (fun hp hd => ?_) <;> refine st_by (And.intro hd ff) ?_)
        | (with_reducible refine CBC_ne (fun hp hd => ?_) (fun hp hd => ?_) <;> refine st_by (And.intro hd ff) ?_)
        | (with_reducible refine CBC_decT ?_ (fun hd => ?_); (· try clear ff; first | assumption | omega); refine st_by (And.intro hd ff) ?_)
        | (with_reducible refine CBC_decF ?_ (fun hd => ?_); (· try clear ff; first | assumption | omega); refine st_by (And.intro hd ff) ?_)
        | (with_reducible refine CBC_dec (fun hp hd => ?_) (fun hp hd => ?_) <;> refine st_by (And.intro hd ff) ?_)
        | (refine CBC_bool (fun hd => ?_) (fun hd => ?_) <;> refine st_by (And.intro hd ff) ?_)
        | (with_reducible refine GQ_eq (fun hp hd => ?_) (fun hp hd => ?_) <;> refine st_by (And.intro hd ff) ?_)
        | (with_reducible refine GQ_ne (fun hp hd => ?_) (fun hp hd => ?_) <;> refine st_by (And.intro hd ff) ?_)
        | (with_reducible refine GQ_decT ?_ (fun hd => ?_); (· try clear ff; first | assumption | omega); refine st_by (And.intro hd ff) ?_)
        | (with_reducible refine GQ_decF ?_ (fun hd => ?_); (· try clear ff; first | assumption | omega); refine st_by (And.intro hd ff) ?_)
        | (with_reducible refine GQ_dec (fun hp hd => ?_) (fun hp hd => ?_) <;> refine st_by (And.intro hd ff) ?_)
        | (with_reducible refine GQ_ndT ?_ (fun hd => ?_); (· try clear ff; first | assumption | omega); refine st_by (And.intro hd ff) ?_)
        | (with_reducible refine GQ_ndF ?_ (fun hd => ?_); (· try clear ff; first | assumption | omega); refine st_by (And.intro hd ff) ?_)
        | (with_reducible refine GQ_nd (fun hp hd => ?_) (fun hp hd => ?_) <;> refine st_by (And.intro hd ff) ?_)
        | (refine GQ_nb (fun hd => ?_) (fun hd => ?_) <;> refine st_by (And.intro hd ff) ?_)
        | (refine GQ_bool (fun hd => ?_) (fun hd => ?_) <;> refine st_by (And.intro hd ff) ?_)
        | (with_reducible refine GD_eq (fun hp hd => ?_) (fun hp hd => ?_) <;> refine st_by (And.intro hd ff) ?_)
        | (with_reducible refine GD_ne (fun hp hd => ?_) (fun hp hd => ?_) <;> refine st_by (And.intro hd ff) ?_)
        | (with_reducible refine GD_decT ?_ (fun hd => ?_); (· try clear ff; first | assumption | omega); refine st_by (And.intro hd ff) ?_)
        | (with_reducible refine GD_decF ?_ (fun hd => ?_); (· try clear ff; first | assumption | omega); refine st_by (And.intro hd ff) ?_)
        | (with_reducible refine GD_dec (fun hp hd => ?_) (fun hp hd => ?_) <;> refine st_by (And.intro hd ff) ?_)
        | (with_reducible refine GD_ndT ?_ (fun hd => ?_); (· try clear ff; first | assumption | omega); refine st_by (And.intro hd ff) ?_)
        | (with_reducible refine GD_ndF ?_ (fun hd => ?_); (· try clear ff; first | assumption | omega); refine st_by (And.intro hd ff) ?_)
        | (with_reducible refine GD_nd (fun hp hd => ?_) (fun hp hd => ?_) <;> refine st_by (And.intro hd ff) ?_)
        | (refine GD_nb (fun hd => ?_) (fun hd => ?_) <;> refine st_by (And.intro hd ff) ?_)
        | (refine GD_bool (fun hd => ?_) (fun hd => ?_) <;> refine st_by (And.intro hd ff) ?_))
      all_goals try clear ff
/-! Entity -/
def wfEntity (n : Nat) (x : GEntity) : Prop := x.Parts.length ≤ n ∧ (∀ y ∈ x.Parts, wfPart n y)
def szEntity (x : GEntity) (left : Int) : Int := szStep ((szRow szPart) x.Parts left) fun left => left
theorem szEntity_ok : szOk szEntity := fun x left h => szStep_le h ((szRow_ok szPart_ok) x.Parts left h) (fun left h => Int.le_refl _)
theorem szEntity_does (x : GEntity) (left : Int) (h0 : 0 ≤ left) (h1 : left ≤ 1048576) (hx : wfEntity 9223372036854775807 x) : Does Try.prog 31 [.agg (eEntity x), I left] (I (szEntity x left)) := by
  unfold wfEntity at hx
  refine Does.walk (nt := 12) Try.func31 rfl rfl (by simp) (by decide) rfl (fun G0 X w0 pv => ?_)
  unfold szEntity
  have hv0 : ((szRow szPart) x.Parts left : Int) ≤ left := (szRow_ok szPart_ok) x.Parts _ (by omega)
  have ff := And.intro @eEntity_eq (And.intro @Ty.nz60 (And.intro @Ty.ldA60 (And.intro @Ty.ldS60 (And.intro @Ty.sz60 (And.intro @Ty.szn60 (And.intro @Ty.fo62_1 (And.intro @Ty.fk62_1 (And.intro @Ty.fs62_1 @Ty.fn62_1))))))))
  try refine st_by ff ?_
  repeat' (first
    | exact trivial
    | (refine And.intro ?_ ?_; · (try clear ff; first | omega))
    | (refine ret_q1 rfl ?_; (try refine sr_by ff ?_); all_goals (try clear ff); all_goals (try exact trivial); all_goals ((first | rw [szStep_neg (by assumption)] | rw [szStep_pos (by assumption)])))
    | (with_reducible refine cq_call (szPartS_does x.Parts left (by omega) (by omega) hx.1 hx.2) ?_ ?_ ⟨?_, ?_⟩; (· first | rfl | exact cl_by ff); (· first | assumption | kernel_rfl); (· first | exact ca_by ff | (refine sa_by ff ?_; try clear ff; first | exact trivial | omega)); refine st_by ff ?_)
    | (with_reducible refine CBC_eq (fun hp hd => ?_) (fun hp hd => ?_) <;> refine st_by (And.intro hd ff) ?_)
    | (with_reducible refine CBC_ne (fun hp hd => ?_) (fun hp hd => ?_) <;> refine st_by (And.intro hd ff) ?_)
    | (with_reducible refine CBC_decT ?_ (fun hd => ?_); (· try clear ff; first | assumption | omega); refine st_by (And.intro hd ff) ?_)
    | (with_reducible refine CBC_decF ?_ (fun hd => ?_); (· try clear ff; first | assumption | omega); refine st_by (And.intro hd ff) ?_)
    | (with_reducible refine CBC_dec (fun hp hd => ?_) (fun hp hd => ?_) <;> refine st_by (And.intro hd ff) ?_)
    | (refine CBC_bool (fun hd => ?_) (fun hd => ?_) <;> refine st_by (And.intro hd ff) ?_)
    | (with_reducible refine GQ_eq (fun hp hd => ?_) (fun hp hd => ?_) <;> refine st_by (And.intro hd ff) ?_)
    | (with_reducible refine GQ_ne (fun hp hd => ?_) (fun hp hd => ?_) <;> refine st_by (And.intro hd ff) ?_)
    | (with_reducible refine GQ_decT ?_ (fun hd => ?_); (· try clear ff; first | assumption | omega); refine st_by (And.intro hd ff) ?_)
    | (with_reducible refine GQ_decF ?_ (fun hd => ?_); (· try clear ff; first | assumption | omega); refine st_by (And.intro hd ff) ?_)
    | (with_reducible refine GQ_dec (fun hp hd => ?_) (fun hp hd => ?_) <;> refine st_by (And.intro hd ff) ?_)
    | (with_reducible refine GQ_ndT ?_ (fun hd => ?_); (· try clear ff; first | assumption | omega); refine st_by (And.intro hd ff) ?_)
    | (with_reducible refine GQ_ndF ?_ (fun hd => ?_); (· try clear ff; first | assumption | omega); refine st_by (And.intro hd ff) ?_)
    | (with_reducible refine GQ_nd (fun hp hd => ?_) (fun hp hd => ?_) <;> refine st_by (And.intro hd ff) ?_)
    | (refine GQ_nb (fun hd => ?_) (fun hd => ?_) <;> refine st_by (And.intro hd ff) ?_)
    | (refine GQ_bool (fun hd => ?_) (fun hd => ?_) <;> refine st_by (And.intro hd ff) ?_))
  all_goals try clear ff
theorem toEntity_does (x : GEntity) (hx : wfEntity 1048576 x) : Does Try.prog 33 [.agg (eEntity x)] (.agg (eEntityo x)) := by
  unfold wfEntity at hx
  refine Does.walk (nt := 12) Try.func33 rfl rfl (by simp) (by decide) rfl (fun G0 X w0 pv => ?_)
  have ff := And.intro @eEntity_eq (And.intro @eEntityo_eq (And.intro @Ty.nz3 (And.intro @Ty.ldA3 (And.intro @Ty.ldS3 (And.intro @Ty.sz3 (And.intro @Ty.szn3 (And.intro @Ty.nz60 (And.intro @Ty.ldA60 (And.intro @Ty.ldS60 (And.intro @Ty.sz60 (And.intro @Ty.szn60 (And.intro @Ty.nz44 (And.intro @Ty.ldA44 (And.intro @Ty.ldS44 (And.intro @Ty.sz44 (And.intro @Ty.szn44 (And.intro @Ty.nz46 (And.intro @Ty.ldA46 (And.intro @Ty.sz46 (And.intro @Ty.szn46 (And.intro @Ty.fo62_0 (And.intro @Ty.fk62_0 (And.intro @Ty.fs62_0 (And.intro @Ty.fn62_0 (And.intro @Ty.fo46_0 (And.intro @Ty.fk46_0 (And.intro @Ty.fs46_0 (And.intro @Ty.fn46_0 (And.intro @Ty.fo62_1 (And.intro @Ty.fk62_1 (And.intro @Ty.fs62_1 (And.intro @Ty.fn62_1 (And.intro @Ty.fo46_1 (And.intro @Ty.fk46_1 (And.intro @Ty.fs46_1 (And.intro @Ty.fn46_1 (And.intro @Ty.zv46 @Ty.ag46)))))))))))))))))))))))))))))))))))))
  try refine st_by ff ?_
  repeat' (first
    | exact trivial
    | (refine And.intro ?_ ?_; · (try clear ff; first | omega | decide))
    | (refine ret_q1 rfl ?_; (try refine sr_by ff ?_); all_goals (try clear ff); all_goals (try exact trivial); all_goals (skip))
    | (with_reducible refine cq_own (toPartS_does x.Parts hx.1) ?_ ?_ ⟨?_, ?_⟩; (· first | rfl | exact cl_by ff); (· first | assumption | kernel_rfl); (· first | exact ca_by ff | (refine sa_by ff ?_; try clear ff; first | exact trivial | omega | decide)); refine st_by ff ?_)
    | (with_reducible refine CBC_eq (fun hp hd => ?_) (fun hp hd => ?_) <;> refine st_by (And.intro hd ff) ?_)
    | (with_reducible refine CBC_ne (fun hp hd => ?_) (fun hp hd => ?_) <;> refine st_by (And.intro hd ff) ?_)
    | (with_reducible refine CBC_decT ?_ (fun hd => ?_); (· try clear ff; first | assumption | omega); refine st_by (And.intro hd ff) ?_)
    | (with_reducible refine CBC_decF ?_ (fun hd => ?_); (· try clear ff; first | assumption | omega); refine st_by (And.intro hd ff) ?_)
    | (with_reducible refine CBC_dec (fun hp hd => ?_) (fun hp hd => ?_) <;> refine st_by (And.intro hd ff) ?_)
    | (refine CBC_bool (fun hd => ?_) (fun hd => ?_) <;> refine st_by (And.intro hd ff) ?_)
    | (with_reducible refine GQ_eq (fun hp hd => ?_) (fun hp hd => ?_) <;> refine st_by (And.intro hd ff) ?_)
    | (with_reducible refine GQ_ne (fun hp hd => ?_) (fun hp hd => ?_) <;> refine st_by (And.intro hd ff) ?_)
    | (with_reducible refine GQ_decT ?_ (fun hd => ?_); (· try clear ff; first | assumption | omega); refine st_by (And.intro hd ff) ?_)
    | (with_reducible refine GQ_decF ?_ (fun hd => ?_); (· try clear ff; first | assumption | omega); refine st_by (And.intro hd ff) ?_)
    | (with_reducible refine GQ_dec (fun hp hd => ?_) (fun hp hd => ?_) <;> refine st_by (And.intro hd ff) ?_)
    | (with_reducible refine GQ_ndT ?_ (fun hd => ?_); (· try clear ff; first | assumption | omega); refine st_by (And.intro hd ff) ?_)
    | (with_reducible refine GQ_ndF ?_ (fun hd => ?_); (· try clear ff; first | assumption | omega); refine st_by (And.intro hd ff) ?_)
    | (with_reducible refine GQ_nd (fun hp hd => ?_) (fun hp hd => ?_) <;> refine st_by (And.intro hd ff) ?_)
    | (refine GQ_nb (fun hd => ?_) (fun hd => ?_) <;> refine st_by (And.intro hd ff) ?_)
    | (refine GQ_bool (fun hd => ?_) (fun hd => ?_) <;> refine st_by (And.intro hd ff) ?_))
  all_goals try clear ff
theorem eqEntity_does (x y : GEntity) (hx : wfEntity 9223372036854775807 x) (hy : wfEntity 9223372036854775807 y) : Does Try.prog 39 [.agg (eEntity x), .agg (eEntity y)] (B (decide (x = y))) := by
  unfold wfEntity at hx hy
  have hxy : decide (x = y) = decide (x.Id = y.Id ∧ x.Parts = y.Parts) := decide_eq_decide.2 (by cases x; cases y; simp)
  rw [hxy]
  refine Does.walk (nt := 16) Try.func39 rfl rfl (by simp) (by decide) rfl (fun G0 X w0 pv => ?_)
  have ff := And.intro @eEntity_eq (And.intro @str_beq (And.intro @Ty.nz3 (And.intro @Ty.ldA3 (And.intro @Ty.ldS3 (And.intro @Ty.sz3 (And.intro @Ty.szn3 (And.intro @Ty.nz44 (And.intro @Ty.ldA44 (And.intro @Ty.ldS44 (And.intro @Ty.sz44 (And.intro @Ty.szn44 (And.intro @Ty.fo46_0 (And.intro @Ty.fk46_0 (And.intro @Ty.fs46_0 (And.intro @Ty.fn46_0 (And.intro @Ty.fo46_1 (And.intro @Ty.fk46_1 (And.intro @Ty.fs46_1 @Ty.fn46_1))))))))))))))))))
  try refine st_by ff ?_
  repeat' (first
    | exact trivial
    | (refine And.intro ?_ ?_; · (try clear ff; first | omega))
    | (refine ret_q1 rfl ?_; (try refine sr_by ff ?_); all_goals (try clear ff); all_goals (try exact trivial); all_goals (simp_all))
    | (with_reducible refine cq_call (eqPartS_does x.Parts y.Parts hx.1 hy.1) ?_ ?_ ⟨?_, ?_⟩; (· first | rfl | exact cl_by ff); (· first | assumption | kernel_rfl); (· first | exact ca_by ff | (refine sa_by ff ?_; try clear ff; first | exact trivial | omega)); refine st_by ff ?_)
    | (with_reducible refine CBC_eq (fun hp hd => ?_) (fun hp hd => ?_) <;> refine st_by (And.intro hd ff) ?_)
    | (with_reducible refine CBC_ne (fun hp hd => ?_) (fun hp hd => ?_) <;> refine st_by (And.intro hd ff) ?_)
    | (with_reducible refine CBC_decT ?_ (fun hd => ?_); (· try clear ff; first | assumption | omega); refine st_by (And.intro hd ff) ?_)
    | (with_reducible refine CBC_decF ?_ (fun hd => ?_); (· try clear ff; first | assumption | omega); refine st_by (And.intro hd ff) ?_)
    | (with_reducible refine CBC_dec (fun hp hd => ?_) (fun hp hd => ?_) <;> refine st_by (And.intro hd ff) ?_)
    | (refine CBC_bool (fun hd => ?_) (fun hd => ?_) <;> refine st_by (And.intro hd ff) ?_)
    | (with_reducible refine GQ_eq (fun hp hd => ?_) (fun hp hd => ?_) <;> refine st_by (And.intro hd ff) ?_)
    | (with_reducible refine GQ_ne (fun hp hd => ?_) (fun hp hd => ?_) <;> refine st_by (And.intro hd ff) ?_)
    | (with_reducible refine GQ_decT ?_ (fun hd => ?_); (· try clear ff; first | assumption | omega); refine st_by (And.intro hd ff) ?_)
    | (with_reducible refine GQ_decF ?_ (fun hd => ?_); (· try clear ff; first | assumption | omega); refine st_by (And.intro hd ff) ?_)
    | (with_reducible refine GQ_dec (fun hp hd => ?_) (fun hp hd => ?_) <;> refine st_by (And.intro hd ff) ?_)
    | (with_reducible refine GQ_ndT ?_ (fun hd => ?_); (· try clear ff; first | assumption | omega); refine st_by (And.intro hd ff) ?_)
    | (with_reducible refine GQ_ndF ?_ (fun hd => ?_); (· try clear ff; first | assumption | omega); refine st_by (And.intro hd ff) ?_)
    | (with_reducible refine GQ_nd (fun hp hd => ?_) (fun hp hd => ?_) <;> refine st_by (And.intro hd ff) ?_)
    | (refine GQ_nb (fun hd => ?_) (fun hd => ?_) <;> refine st_by (And.intro hd ff) ?_)
    | (refine GQ_bool (fun hd => ?_) (fun hd => ?_) <;> refine st_by (And.intro hd ff) ?_))
  all_goals try clear ff
/-! []Entity -/
theorem szEntityS_does (l : List GEntity) (left : Int) (h0 : 0 ≤ left) (h1 : left ≤ 1048576) (hl : l.length ≤ 9223372036854775807) (hx : ∀ x ∈ l, wfEntity 9223372036854775807 x) : Does Try.prog 14 [.row false 2 l.length (esEntity l), I left] (I (szRow szEntity l left)) := by
  have w1 : IntKind.i64.wrap (left - (l.length : Int)) = left - l.length := wI _ (by omega) (by omega)
  refine Does.walk (nt := 27) Try.func14 rfl rfl (by simp) (by decide) rfl (fun G0 X w0 pv => ?_)
  have ff := And.intro @w1 (And.intro @Ty.sl22 (And.intro @Ty.slz22 (And.intro @Ty.nz62 (And.intro @Ty.ldA62 (And.intro @Ty.sz62 @Ty.szn62)))))
  try refine st_by ff ?_
  repeat' (first
    | exact trivial
    | (refine And.intro ?_ ?_; · (try clear ff; first | omega))
    | (refine ret_q1 rfl ?_; (try refine sr_by ff ?_); all_goals (try clear ff); all_goals (try exact trivial); all_goals ((simp only [szRow]; first | rw [szStep_neg (by omega)] | rw [szStep_pos (by omega)])))
    | (with_reducible refine CBC_eq (fun hp hd => ?_) (fun hp hd => ?_) <;> refine st_by (And.intro hd ff) ?_)
    | (with_reducible refine CBC_ne (fun hp hd => ?_) (fun hp hd => ?_) <;> refine st_by (And.intro hd ff) ?_)
    | (with_reducible refine CBC_decT ?_ (fun hd => ?_); (· try clear ff; first | assumption | omega); refine st_by (And.intro hd ff) ?_)
    | (with_reducible refine CBC_decF ?_ (fun hd => ?_); (· try clear ff; first | assumption | omega); refine st_by (And.intro hd ff) ?_)
    | (with_reducible refine CBC_dec (fun hp hd => ?_) (fun hp hd => ?_) <;> refine st_by (And.intro hd ff) ?_)
    | (refine CBC_bool (fun hd => ?_) (fun hd => ?_) <;> refine st_by (And.intro hd ff) ?_)
    | (with_reducible refine GQ_eq (fun hp hd => ?_) (fun hp hd => ?_) <;> refine st_by (And.intro hd ff) ?_)
    | (with_reducible refine GQ_ne (fun hp hd => ?_) (fun hp hd => ?_) <;> refine st_by (And.intro hd ff) ?_)
    | (with_reducible refine GQ_decT ?_ (fun hd => ?_); (· try clear ff; first | assumption | omega); refine st_by (And.intro hd ff) ?_)
    | (with_reducible refine GQ_decF ?_ (fun hd => ?_); (· try clear ff; first | assumption | omega); refine st_by (And.intro hd ff) ?_)
    | (with_reducible refine GQ_dec (fun hp hd => ?_) (fun hp hd => ?_) <;> refine st_by (And.intro hd ff) ?_)
    | (with_reducible refine GQ_ndT ?_ (fun hd => ?_); (· try clear ff; first | assumption | omega); refine st_by (And.intro hd ff) ?_)
    | (with_reducible refine GQ_ndF ?_ (fun hd => ?_); (· try clear ff; first | assumption | omega); refine st_by (And.intro hd ff) ?_)
    | (with_reducible refine GQ_nd (fun hp hd => ?_) (fun hp hd => ?_) <;> refine st_by (And.intro hd ff) ?_)
    | (refine GQ_nb (fun hd => ?_) (fun hd => ?_) <;> refine st_by (And.intro hd ff) ?_)
    | (refine GQ_bool (fun hd => ?_) (fun hd => ?_) <;> refine st_by (And.intro hd ff) ?_))
  all_goals try clear ff
  have e0 : szRow szEntity l left = szL szEntity l (left - l.length) := by simp only [szRow]; rw [szStep_pos (by omega)]
  rw [e0]
  refine aw_loop (ι := Nat × Int) (fun z σ => (z.1 ≤ l.length ∧ 0 ≤ z.2 ∧ z.2 ≤ 1048576 ∧ szL szEntity (l.drop z.1) z.2 = szL szEntity l (left - l.length)) ∧ σ.t 0 = .row false 2 l.length (esEntity l) ∧ σ.t 1 = I z.2 ∧ σ.t 5 = I z.1) (fun z => l.length - z.1) (0, left - l.length) ?_ ?_
  · (first | exact cl_by trivial | refine st_by trivial ?_)
    simp [w1]; omega
  · rintro ⟨i, a⟩ σ ⟨⟨h2, h3, h4, h5⟩, g0, g1, g5⟩
    simp only at h2 h3 h4 h5 g0 g1 g5
    by_cases hi : i < l.length
    · have w2 : IntKind.i64.wrap ((i : Int) + 1) = ((i + 1 : Nat) : Int) := wI _ (by omega) (by omega)
      have hle := szEntity_ok l[i] a h3
      have hd0 := szL_drop (f := szEntity) l i hi a
      have hx0 := hx l[i] (List.getElem_mem hi)
      have ff := And.intro @g0 (And.intro @g1 (And.intro @g5 (And.intro @w2 (And.intro @hi (And.intro ((esEntity_drop l i hi)) (And.intro @esEntity_len (And.intro @eEntity_eq (And.intro @Ty.sl22 (And.intro @Ty.slz22 (And.intro @Ty.nz62 (And.intro @Ty.ldA62 (And.intro @Ty.sz62 @Ty.szn62))))))))))))
      try refine st_by ff ?_
      repeat' (first
        | exact trivial
        | (refine And.intro ?_ ?_; · (try clear ff; first | omega | (rw [List.length_append]; simp [esEntity_len]; omega) | (simp [eEntity]; done) | decide | (simp [esEntity_len]; omega) | rfl))
        | (refine ret_q1 rfl ?_; (try refine sr_by ff ?_); all_goals (try clear ff); all_goals (try exact trivial); all_goals (first | (rw [← h5, hd0, szStep_neg (by first | assumption | omega)]; done) | (exfalso; omega)))
        | (with_reducible refine cq_call (szEntity_does l[i] a h3 h4 hx0) ?_ ?_ ⟨?_, ?_⟩; (· first | rfl | exact cl_by ff); (· first | assumption | kernel_rfl); (· first | exact ca_by ff | (refine sa_by ff ?_; try clear ff; first | exact trivial | omega | (rw [List.length_append]; simp [esEntity_len]; omega) | (simp [eEntity]; done) | decide | (simp [esEntity_len]; omega) | rfl)); refine st_by ff ?_)
        | (with_reducible refine CBC_eq (fun hp hd => ?_) (fun hp hd => ?_) <;> refine st_by (And.intro hd ff) ?_)
        | (with_reducible refine CBC_ne (fun hp hd => ?_) (fun hp hd => ?_) <;> refine st_by (And.intro hd ff) ?_)
        | (with_reducible refine CBC_decT ?_ (fun hd => ?_); (· try clear ff; first | assumption | omega); refine st_by (And.intro hd ff) ?_)
        | (with_reducible refine CBC_decF ?_ (fun hd => ?_); (· try clear ff; first | assumption | omega); refine st_by (And.intro hd ff) ?_)
        | (with_reducible refine CBC_dec (fun hp hd => ?_) (fun hp hd => ?_) <;> refine st_by (And.intro hd ff) ?_)
        | (refine CBC_bool (fun hd => ?_) (fun hd => ?_) <;> refine st_by (And.intro hd ff) ?_)
        | (with_reducible refine GQ_eq (fun hp hd => ?_) (fun hp hd => ?_) <;> refine st_by (And.intro hd ff) ?_)
        | (with_reducible refine GQ_ne (fun hp hd => ?_) (fun hp hd => ?_) <;> refine st_by (And.intro hd ff) ?_)
        | (with_reducible refine GQ_decT ?_ (fun hd => ?_); (· try clear ff; first | assumption | omega); refine st_by (And.intro hd ff) ?_)
        | (with_reducible refine GQ_decF ?_ (fun hd => ?_); (· try clear ff; first | assumption | omega); refine st_by (And.intro hd ff) ?_)
        | (with_reducible refine GQ_dec (fun hp hd => ?_) (fun hp hd => ?_) <;> refine st_by (And.intro hd ff) ?_)
        | (with_reducible refine GQ_ndT ?_ (fun hd => ?_); (· try clear ff; first | assumption | omega); refine st_by (And.intro hd ff) ?_)
        | (with_reducible refine GQ_ndF ?_ (fun hd => ?_); (· try clear ff; first | assumption | omega); refine st_by (And.intro hd ff) ?_)
        | (with_reducible refine GQ_nd (fun hp hd => ?_) (fun hp hd => ?_) <;> refine st_by (And.intro hd ff) ?_)
        | (refine GQ_nb (fun hd => ?_) (fun hd => ?_) <;> refine st_by (And.intro hd ff) ?_)
        | (refine GQ_bool (fun hd => ?_) (fun hd => ?_) <;> refine st_by (And.intro hd ff) ?_)
        | ((try clear ff); refine ⟨(i + 1, szEntity l[i] a), ⟨⟨?_, ?_, ?_, ?_⟩, rfl, rfl⟩, ?_⟩; (· simp only; omega); (· simp only; omega); (· simp only; omega); (· simp only; rw [← h5, hd0, szStep_pos (by first | assumption | omega)]); (· simp only; omega)))
      all_goals try clear ff
    · have e1 : l.drop i = [] := List.drop_of_length_le (by omega)
      have ff := And.intro @g0 (And.intro @g1 (And.intro @g5 (And.intro @Ty.sl22 (And.intro @Ty.slz22 (And.intro @Ty.nz62 (And.intro @Ty.ldA62 (And.intro @Ty.sz62 @Ty.szn62)))))))
      try refine st_by ff ?_
      repeat' (first
        | exact trivial
        | (refine And.intro ?_ ?_; · (try clear ff; first | omega))
        | (refine ret_q1 rfl ?_; (try refine sr_by ff ?_); all_goals (try clear ff); all_goals (try exact trivial); all_goals (rw [← h5, e1]; rfl))
        | (with_reducible refine CBC_eq (fun hp hd => ?_) (fun hp hd => ?_) <;> refine st_by (And.intro hd ff) ?_)
        | (with_reducible refine CBC_ne (fun hp hd => ?_) (fun hp hd => ?_) <;> refine st_by (And.intro hd ff) ?_)
        | (with_reducible refine CBC_decT ?_ (fun hd => ?_); (· try clear ff; first | assumption | omega); refine st_by (And.intro hd ff) ?_)
        | (with_reducible refine CBC_decF ?_ (fun hd => ?_); (· try clear ff; first | assumption | omega); refine st_by (And.intro hd ff) ?_)
        | (with_reducible refine CBC_dec (fun hp hd => ?_) (fun hp hd => ?_) <;> refine st_by (And.intro hd ff) ?_)
        | (refine CBC_bool (fun hd => ?_) (fun hd => ?_) <;> refine st_by (And.intro hd ff) ?_)
        | (with_reducible refine GQ_eq (fun hp hd => ?_) (fun hp hd => ?_) <;> refine st_by (And.intro hd ff) ?_)
        | (with_reducible refine GQ_ne (fun hp hd => ?_) (fun hp hd => ?_) <;> refine st_by (And.intro hd ff) ?_)
        | (with_reducible refine GQ_decT ?_ (fun hd => ?_); (· try clear ff; first | assumption | omega); refine st_by (And.intro hd ff) ?_)
        | (with_reducible refine GQ_decF ?_ (fun hd => ?_); (· try clear ff; first | assumption | omega); refine st_by (And.intro hd ff) ?_)
        | (with_reducible refine GQ_dec (fun hp hd => ?_) (fun hp hd => ?_) <;> refine st_by (And.intro hd ff) ?_)
        | (with_reducible refine GQ_ndT ?_ (fun hd => ?_); (· try clear ff; first | assumption | omega); refine st_by (And.intro hd ff) ?_)
        | (with_reducible refine GQ_ndF ?_ (fun hd => ?_); (· try clear ff; first | assumption | omega); refine st_by (And.intro hd ff) ?_)
        | (with_reducible refine GQ_nd (fun hp hd => ?_) (fun hp hd => ?_) <;> refine st_by (And.intro hd ff) ?_)
        | (refine GQ_nb (fun hd => ?_) (fun hd => ?_) <;> refine st_by (And.intro hd ff) ?_)
        | (refine GQ_bool (fun hd => ?_) (fun hd => ?_) <;> refine st_by (And.intro hd ff) ?_))
      all_goals try clear ff
theorem toEntityS_does (l : List GEntity) (hl : l.length ≤ 1048576) (hx : ∀ x ∈ l, wfEntity 1048576 x) : Does Try.prog 18 [.row false 2 l.length (esEntity l)] (.row true 2 l.length (esEntityo l)) := by
  have hz := zRowsN (enc := eEntityo) (z := (⟨0, []⟩ : GEntity)) (zs := [.int .i64 0, .slice none 0 0]) (os := [none, some 3]) (by decide) rfl rfl l.length
  refine Does.walk (nt := 23) Try.func18 rfl rfl (by simp) (by decide) rfl (fun G0 X w0 pv => ?_)
  have ff := And.intro @Ty.sl22 (And.intro @Ty.slz22 (And.intro @Ty.sl26 (And.intro @Ty.slz26 (And.intro @Ty.nz62 (And.intro @Ty.ldA62 (And.intro @Ty.sz62 (And.intro @Ty.szn62 (And.intro @Ty.nz46 (And.intro @Ty.ldA46 (And.intro @Ty.sz46 (And.intro @Ty.szn46 (And.intro @Ty.nze26 (And.intro @Ty.zok26 (And.intro @Ty.by26 @Ty.zs26))))))))))))))
  try refine st_by ff ?_
  repeat' (first
    | exact trivial
    | (refine And.intro ?_ ?_; · (try clear ff; first | omega | decide | rfl))
    | (refine ret_q1 rfl ?_; (try refine sr_by ff ?_); all_goals (try clear ff); all_goals (try exact trivial); all_goals (skip))
    | (with_reducible refine CBC_eq (fun hp hd => ?_) (fun hp hd => ?_) <;> refine st_by (And.intro hd ff) ?_)
    | (with_reducible refine CBC_ne (fun hp hd => ?_) (fun hp hd => ?_) <;> refine st_by (And.intro hd ff) ?_)
    | (with_reducible refine CBC_decT ?_ (fun hd => ?_); (· try clear ff; first | assumption | omega); refine st_by (And.intro hd ff) ?_)
    | (with_reducible refine CBC_decF ?_ (fun hd => ?_); (· try clear ff; first | assumption | omega); refine st_by (And.intro hd ff) ?_)
    | (with_reducible refine CBC_dec (fun hp hd => ?_) (fun hp hd => ?_) <;> refine st_by (And.intro hd ff) ?_)
    | (refine CBC_bool (fun hd => ?_) (fun hd => ?_) <;> refine st_by (And.intro hd ff) ?_)
    | (with_reducible refine GQ_eq (fun hp hd => ?_) (fun hp hd => ?_) <;> refine st_by (And.intro hd ff) ?_)
    | (with_reducible refine GQ_ne (fun hp hd => ?_) (fun hp hd => ?_) <;> refine st_by (And.intro hd ff) ?_)
    | (with_reducible refine GQ_decT ?_ (fun hd => ?_); (· try clear ff; first | assumption | omega); refine st_by (And.intro hd ff) ?_)
    | (with_reducible refine GQ_decF ?_ (fun hd => ?_); (· try clear ff; first | assumption | omega); refine st_by (And.intro hd ff) ?_)
    | (with_reducible refine GQ_dec (fun hp hd => ?_) (fun hp hd => ?_) <;> refine st_by (And.intro hd ff) ?_)
    | (with_reducible refine GQ_ndT ?_ (fun hd => ?_); (· try clear ff; first | assumption | omega); refine st_by (And.intro hd ff) ?_)
    | (with_reducible refine GQ_ndF ?_ (fun hd => ?_); (· try clear ff; first | assumption | omega); refine st_by (And.intro hd ff) ?_)
    | (with_reducible refine GQ_nd (fun hp hd => ?_) (fun hp hd => ?_) <;> refine st_by (And.intro hd ff) ?_)
    | (refine GQ_nb (fun hd => ?_) (fun hd => ?_) <;> refine st_by (And.intro hd ff) ?_)
    | (refine GQ_bool (fun hd => ?_) (fun hd => ?_) <;> refine st_by (And.intro hd ff) ?_))
  all_goals try clear ff
  refine aw_loop (ι := Nat) (fun i σ => i ≤ l.length ∧ σ.t 0 = .row false 2 l.length (esEntity l) ∧ σ.t 4 = I i ∧ σ.t 3 = .sl 3 [] 0 l.length ∧ σ.m 3 = some (.row true 2 l.length (esEntityo (l.take i ++ List.replicate (l.length - i) ⟨0, []⟩)))) (fun i => l.length - i) 0 ?_ ?_
  · (first | exact cl_by (And.intro @Ty.sl22 (And.intro @Ty.slz22 (And.intro @Ty.sl26 (And.intro @Ty.slz26 (And.intro @Ty.nz62 (And.intro @Ty.ldA62 (And.intro @Ty.sz62 (And.intro @Ty.szn62 (And.intro @Ty.nz46 (And.intro @Ty.ldA46 (And.intro @Ty.sz46 (And.intro @Ty.szn46 (And.intro @Ty.nze26 (And.intro @Ty.zok26 (And.intro @Ty.by26 @Ty.zs26))))))))))))))) | refine st_by (And.intro @Ty.sl22 (And.intro @Ty.slz22 (And.intro @Ty.sl26 (And.intro @Ty.slz26 (And.intro @Ty.nz62 (And.intro @Ty.ldA62 (And.intro @Ty.sz62 (And.intro @Ty.szn62 (And.intro @Ty.nz46 (And.intro @Ty.ldA46 (And.intro @Ty.sz46 (And.intro @Ty.szn46 (And.intro @Ty.nze26 (And.intro @Ty.zok26 (And.intro @Ty.by26 @Ty.zs26))))))))))))))) ?_)
    simp [esEntityo, hz]
  · rintro i σ ⟨h2, g0, g4, g3, m3⟩
    by_cases hi : i < l.length
    · have w2 : IntKind.i64.wrap ((i : Int) + 1) = ((i + 1 : Nat) : Int) := wI _ (by omega) (by omega)
      have hlen : (l.take i ++ List.replicate (l.length - i) (⟨0, []⟩ : GEntity)).length = l.length := by simp; omega
      have hset := take_rep_set l ⟨0, []⟩ i hi
      have hsl := esEntityo_setL (l.take i ++ List.replicate (l.length - i) ⟨0, []⟩) i l[i] (by omega)
      generalize l.take i ++ List.replicate (l.length - i) (⟨0, []⟩ : GEntity) = L at m3 hlen hset hsl
      rw [hset] at hsl
      have hx0 := hx l[i] (List.getElem_mem hi)
      have ff := And.intro @g0 (And.intro @g3 (And.intro @g4 (And.intro @m3 (And.intro @w2 (And.intro @hi (And.intro ((esEntity_drop l i hi)) (And.intro @esEntity_len (And.intro @eEntity_eq (And.intro @esEntityo_len (And.intro @eEntityo_eq (And.intro @Ty.sl22 (And.intro @Ty.slz22 (And.intro @Ty.sl26 (And.intro @Ty.slz26 (And.intro @Ty.nz62 (And.intro @Ty.ldA62 (And.intro @Ty.sz62 (And.intro @Ty.szn62 (And.intro @Ty.nz46 (And.intro @Ty.ldA46 (And.intro @Ty.sz46 (And.intro @Ty.szn46 (And.intro @Ty.nze26 (And.intro @Ty.zok26 (And.intro @Ty.by26 @Ty.zs26)))))))))))))))))))))))))
      try refine st_by ff ?_
      repeat' (first
        | exact trivial
        | (refine And.intro ?_ ?_; · (try clear ff; first | omega | (rw [List.length_append]; simp [esEntity_len]; omega) | (simp [eEntity]; done) | decide | (simp [esEntity_len]; omega) | rfl | (simp [esEntityo_len, hlen]; omega)))
        | (refine ret_q1 rfl ?_; (try refine sr_by ff ?_); all_goals (try clear ff); all_goals (try exact trivial); all_goals (skip))
        | (with_reducible refine cq_own (toEntity_does l[i] hx0) ?_ ?_ ⟨?_, ?_⟩; (· first | rfl | exact cl_by ff); (· first | assumption | kernel_rfl); (· first | exact ca_by ff | (refine sa_by ff ?_; try clear ff; first | exact trivial | omega | (rw [List.length_append]; simp [esEntity_len]; omega) | (simp [eEntity]; done) | decide | (simp [esEntity_len]; omega) | rfl | (simp [esEntityo_len, hlen]; omega))); refine st_by ff ?_)
        | (with_reducible refine CBC_eq (fun hp hd => ?_) (fun hp hd => ?_) <;> refine st_by (And.intro hd ff) ?_)
        | (with_reducible refine CBC_ne (fun hp hd => ?_) (fun hp hd => ?_) <;> refine st_by (And.intro hd ff) ?_)
        | (with_reducible refine CBC_decT ?_ (fun hd => ?_); (· try clear ff; first | assumption | omega); refine st_by (And.intro hd ff) ?_)
        | (with_reducible refine CBC_decF ?_ (fun hd => ?_); (· try clear ff; first | assumption | omega); refine st_by (And.intro hd ff) ?_)
        | (with_reducible refine CBC_dec (fun hp hd => ?_) (fun hp hd => ?_) <;> refine st_by (And.intro hd ff) ?_)
        | (refine CBC_bool (fun hd => ?_) (fun hd => ?_) <;> refine st_by (And.intro hd ff) ?_)
        | (with_reducible refine GQ_eq (fun hp hd => ?_) (fun hp hd => ?_) <;> refine st_by (And.intro hd ff) ?_)
        | (with_reducible refine GQ_ne (fun hp hd => ?_) (fun hp hd => ?_) <;> refine st_by (And.intro hd ff) ?_)
        | (with_reducible refine GQ_decT ?_ (fun hd => ?_); (· try clear ff; first | assumption | omega); refine st_by (And.intro hd ff) ?_)
        | (with_reducible refine GQ_decF ?_ (fun hd => ?_); (· try clear ff; first | assumption | omega); refine st_by (And.intro hd ff) ?_)
        | (with_reducible refine GQ_dec (fun hp hd => ?_) (fun hp hd => ?_) <;> refine st_by (And.intro hd ff) ?_)
        | (with_reducible refine GQ_ndT ?_ (fun hd => ?_); (· try clear ff; first | assumption | omega); refine st_by (And.intro hd ff) ?_)
        | (with_reducible refine GQ_ndF ?_ (fun hd => ?_); (· try clear ff; first | assumption | omega); refine st_by (And.intro hd ff) ?_)
        | (with_reducible refine GQ_nd (fun hp hd => ?_) (fun hp hd => ?_) <;> refine st_by (And.intro hd ff) ?_)
        | (refine GQ_nb (fun hd => ?_) (fun hd => ?_) <;> refine st_by (And.intro hd ff) ?_)
        | (refine GQ_bool (fun hd => ?_) (fun hd => ?_) <;> refine st_by (And.intro hd ff) ?_)
        | ((try clear ff); refine ⟨i + 1, ⟨?_, rfl, ?_⟩, ?_⟩; (· omega); (· first | (rw [← hsl]; rfl) | (simp only [← hsl, eEntityo]; rfl)); (· omega)))
      all_goals try clear ff
    · have e1 : l.take i ++ List.replicate (l.length - i) (⟨0, []⟩ : GEntity) = l := by rw [List.take_of_length_le (by omega)]; simp; omega
      rw [e1] at m3
      have ff := And.intro @g0 (And.intro @g3 (And.intro @g4 (And.intro @m3 (And.intro @Ty.sl22 (And.intro @Ty.slz22 (And.intro @Ty.sl26 (And.intro @Ty.slz26 (And.intro @Ty.nz62 (And.intro @Ty.ldA62 (And.intro @Ty.sz62 (And.intro @Ty.szn62 (And.intro @Ty.nz46 (And.intro @Ty.ldA46 (And.intro @Ty.sz46 (And.intro @Ty.szn46 (And.intro @Ty.nze26 (And.intro @Ty.zok26 (And.intro @Ty.by26 @Ty.zs26))))))))))))))))))
      try refine st_by ff ?_
      repeat' (first
        | exact trivial
        | (refine And.intro ?_ ?_; · (try clear ff; first | omega))
        | (refine ret_q1 rfl ?_; (try refine sr_by ff ?_); all_goals (try clear ff); all_goals (try exact trivial); all_goals (rfl))
        | (with_reducible refine CBC_eq (fun hp hd => ?_) (fun hp hd => ?_) <;> refine st_by (And.intro hd ff) ?_)
        | (with_reducible refine CBC_ne (fun hp hd => ?_) (fun hp hd => ?_) <;> refine st_by (And.intro hd ff) ?_)
        | (with_reducible refine CBC_decT ?_ (fun hd => ?_); (· try clear ff; first | assumption | omega); refine st_by (And.intro hd ff) ?_)
        | (with_reducible refine CBC_decF ?_ (fun hd => ?_); (· try clear ff; first | assumption | omega); refine st_by (And.intro hd ff) ?_)
        | (with_reducible refine CBC_dec (fun hp hd => ?_) (fun hp hd => ?_) <;> refine st_by (And.intro hd ff) ?_)
        | (refine CBC_bool (fun hd => ?_) (fun hd => ?_) <;> refine st_by (And.intro hd ff) ?_)
        | (with_reducible refine GQ_eq (fun hp hd => ?_) (fun hp hd => ?_) <;> refine st_by (And.intro hd ff) ?_)
        | (with_reducible refine GQ_ne (fun hp hd => ?_) (fun hp hd => ?_) <;> refine st_by (And.intro hd ff) ?_)
        | (with_reducible refine GQ_decT ?_ (fun hd => ?_); (· try clear ff; first | assumption | omega); refine st_by (And.intro hd ff) ?_)
        | (with_reducible refine GQ_decF ?_ (fun hd => ?_); (· try clear ff; first | assumption | omega); refine st_by (And.intro hd ff) ?_)
        | (with_reducible refine GQ_dec (fun hp hd => ?_) (fun hp hd => ?_) <;> refine st_by (And.intro hd ff) ?_)
        | (with_reducible refine GQ_ndT ?_ (fun hd => ?_); (· try clear ff; first | assumption | omega); refine st_by (And.intro hd ff) ?_)
        | (with_reducible refine GQ_ndF ?_ (fun hd => ?_); (· try clear ff; first | assumption | omega); refine st_by (And.intro hd ff) ?_)
        | (with_reducible refine GQ_nd (fun hp hd => ?_) (fun hp hd => ?_) <;> refine st_by (And.intro hd ff) ?_)
        | (refine GQ_nb (fun hd => ?_) (fun hd => ?_) <;> refine st_by (And.intro hd ff) ?_)
        | (refine GQ_bool (fun hd => ?_) (fun hd => ?_) <;> refine st_by (And.intro hd ff) ?_))
      all_goals try clear ff
theorem eqEntityS_does (l k : List GEntity) (hl : l.length ≤ 9223372036854775807) (hk : k.length ≤ 9223372036854775807) (hx : ∀ x ∈ l, wfEntity 9223372036854775807 x) (hy : ∀ x ∈ k, wfEntity 9223372036854775807 x) : Does Try.prog 23 [.row false 2 l.length (esEntity l), .row false 2 k.length (esEntity k)] (B (decide (l = k))) := by
  refine Does.walk (nt := 27) Try.func23 rfl rfl (by simp) (by decide) rfl (fun G0 X w0 pv => ?_)
  have ff := And.intro @Ty.sl26 (And.intro @Ty.slz26 (And.intro @Ty.nz46 (And.intro @Ty.ldA46 (And.intro @Ty.sz46 @Ty.szn46))))
  try refine st_by ff ?_
  repeat' (first
    | exact trivial
    | (refine And.intro ?_ ?_; · (try clear ff; first | omega))
    | (refine ret_q1 rfl ?_; (try refine sr_by ff ?_); all_goals (try clear ff); all_goals (try exact trivial); all_goals ((have : ¬ l = k := fun e => by subst e; omega); simp [this]))
    | (refine aw_drawn (id := 6) ?_ [[], [], [0, 1], [0, 1, 2], [], [], [4, 5], [4, 5, 6], [0, 1, 2, 3, 4, 5, 6, 7], [0, 1, 2, 3, 4, 5, 6, 7, 8]] 8 ?_ ?_; (· kernel_rfl); (· kernel_rfl); refine st_by ff ?_)
    | (with_reducible refine CBC_eq (fun hp hd => ?_) (fun hp hd => ?_) <;> refine st_by (And.intro hd ff) ?_)
    | (with_reducible refine CBC_ne (fun hp hd => ?_) (fun hp hd => ?_) <;> refine st_by (And.intro hd ff) ?_)
    | (with_reducible refine CBC_decT ?_ (fun hd => ?_); (· try clear ff; first | assumption | omega); refine st_by (And.intro hd ff) ?_)
    | (with_reducible refine CBC_decF ?_ (fun hd => ?_); (· try clear ff; first | assumption | omega); refine st_by (And.intro hd ff) ?_)
    | (with_reducible refine CBC_dec (fun hp hd => ?_) (fun hp hd => ?_) <;> refine st_by (And.intro hd ff) ?_)
    | (refine CBC_bool (fun hd => ?_) (fun hd => ?_) <;> refine st_by (And.intro hd ff) ?_)
    | (with_reducible refine GQ_eq (fun hp hd => ?_) (fun hp hd => ?_) <;> refine st_by (And.intro hd ff) ?_)
    | (with_reducible refine GQ_ne (fun hp hd => ?_) (fun hp hd => ?_) <;> refine st_by (And.intro hd ff) ?_)
    | (with_reducible refine GQ_decT ?_ (fun hd => ?_); (· try clear ff; first | assumption | omega); refine st_by (And.intro hd ff) ?_)
    | (with_reducible refine GQ_decF ?_ (fun hd => ?_); (· try clear ff; first | assumption | omega); refine st_by (And.intro hd ff) ?_)
    | (with_reducible refine GQ_dec (fun hp hd => ?_) (fun hp hd => ?_) <;> refine st_by (And.intro hd ff) ?_)
    | (with_reducible refine GQ_ndT ?_ (fun hd => ?_); (· try clear ff; first | assumption | omega); refine st_by (And.intro hd ff) ?_)
    | (with_reducible refine GQ_ndF ?_ (fun hd => ?_); (· try clear ff; first | assumption | omega); refine st_by (And.intro hd ff) ?_)
    | (with_reducible refine GQ_nd (fun hp hd => ?_) (fun hp hd => ?_) <;> refine st_by (And.intro hd ff) ?_)
    | (refine GQ_nb (fun hd => ?_) (fun hd => ?_) <;> refine st_by (And.intro hd ff) ?_)
    | (refine GQ_bool (fun hd => ?_) (fun hd => ?_) <;> refine st_by (And.intro hd ff) ?_)
    | (with_reducible refine GD_eq (fun hp hd => ?_) (fun hp hd => ?_) <;> refine st_by (And.intro hd ff) ?_)
    | (with_reducible refine GD_ne (fun hp hd => ?_) (fun hp hd => ?_) <;> refine st_by (And.intro hd ff) ?_)
    | (with_reducible refine GD_decT ?_ (fun hd => ?_); (· try clear ff; first | assumption | omega); refine st_by (And.intro hd ff) ?_)
    | (with_reducible refine GD_decF ?_ (fun hd => ?_); (· try clear ff; first | assumption | omega); refine st_by (And.intro hd ff) ?_)
    | (with_reducible refine GD_dec (fun hp hd => ?_) (fun hp hd => ?_) <;> refine st_by (And.intro hd ff) ?_)
    | (with_reducible refine GD_ndT ?_ (fun hd => ?_); (· try clear ff; first | assumption | omega); refine st_by (And.intro hd ff) ?_)
    | (with_reducible refine GD_ndF ?_ (fun hd => ?_); (· try clear ff; first | assumption | omega); refine st_by (And.intro hd ff) ?_)
    | (with_reducible refine GD_nd (fun hp hd => ?_) (fun hp hd => ?_) <;> refine st_by (And.intro hd ff) ?_)
    | (refine GD_nb (fun hd => ?_) (fun hd => ?_) <;> refine st_by (And.intro hd ff) ?_)
    | (refine GD_bool (fun hd => ?_) (fun hd => ?_) <;> refine st_by (And.intro hd ff) ?_))
  all_goals try clear ff
  have hlk : l.length = k.length := by omega
  refine aw_loop (ι := Nat) (fun i σ => (i ≤ l.length ∧ l.take i = k.take i) ∧ σ.t 0 = .row false 2 l.length (esEntity l) ∧ σ.t 1 = .row false 2 k.length (esEntity k) ∧ σ.t 5 = I i) (fun i => l.length - i) 0 ?_ ?_
  · (first | exact cl_by trivial | refine st_by trivial ?_)
    try simp
  · rintro i σ ⟨⟨h2, h3⟩, g0, g1, g5⟩
    by_cases hi : i < l.length
    · have hi' : i < k.length := by omega
      have w2 : IntKind.i64.wrap ((i : Int) + 1) = ((i + 1 : Nat) : Int) := wI _ (by omega) (by omega)
      have hne : ¬ l[i] = k[i] → ¬ l = k := fun h e => h (by subst e; rfl)
      have heq : l[i] = k[i] → l.take (i + 1) = k.take (i + 1) := fun h => by rw [List.take_succ_eq_append_getElem hi, List.take_succ_eq_append_getElem hi', h3, h]
      have hx0 := hx l[i] (List.getElem_mem hi)
      have hy0 := hy k[i] (List.getElem_mem hi')
      have ff := And.intro @g0 (And.intro @g1 (And.intro @g5 (And.intro @w2 (And.intro @hi (And.intro @hi' (And.intro ((esEntity_drop l i hi)) (And.intro @esEntity_len (And.intro @eEntity_eq (And.intro ((esEntity_drop k i hi')) (And.intro @str_beq (And.intro @Ty.sl26 (And.intro @Ty.slz26 (And.intro @Ty.nz46 (And.intro @Ty.ldA46 (And.intro @Ty.sz46 @Ty.szn46)))))))))))))))
      try refine st_by ff ?_
      repeat' (first
        | exact trivial
        | (refine And.intro ?_ ?_; · (try clear ff; first | omega | (rw [List.length_append]; simp [esEntity_len]; omega) | (simp [eEntity]; done) | decide | (simp [esEntity_len]; omega) | rfl))
        | (refine ret_q1 rfl ?_; (try refine sr_by ff ?_); all_goals (try clear ff); all_goals (try exact trivial); all_goals (simp [hne (by simpa using hp)]))
        | (with_reducible refine cq_call (eqEntity_does l[i] k[i] hx0 hy0) ?_ ?_ ⟨?_, ?_⟩; (· first | rfl | exact cl_by ff); (· first | assumption | kernel_rfl); (· first | exact ca_by ff | (refine sa_by ff ?_; try clear ff; first | exact trivial | omega | (rw [List.length_append]; simp [esEntity_len]; omega) | (simp [eEntity]; done) | decide | (simp [esEntity_len]; omega) | rfl)); refine st_by ff ?_)
        | (with_reducible refine cq_dcall (eqEntity_does l[i] k[i] hx0 hy0) ?_ ?_ ⟨?_, ?_⟩; (· first | rfl | exact cl_by ff); (· first | assumption | kernel_rfl); (· first | exact ca_by ff | (refine sa_by ff ?_; try clear ff; first | exact trivial | omega | (rw [List.length_append]; simp [esEntity_len]; omega) | (simp [eEntity]; done) | decide | (simp [esEntity_len]; omega) | rfl)); refine st_by ff ?_)
        | (refine aw_drawn (id := 6) ?_ [[], [], [0, 1], [0, 1, 2], [], [], [4, 5], [4, 5, 6], [0, 1, 2, 3, 4, 5, 6, 7], [0, 1, 2, 3, 4, 5, 6, 7, 8]] 8 ?_ ?_; (· kernel_rfl); (· kernel_rfl); refine st_by ff ?_)
        | (with_reducible refine CBC_eq (fun hp hd => ?_) (fun hp hd => ?_) <;> refine st_by (And.intro hd ff) ?_)
        | (with_reducible refine CBC_ne (fun hp hd => ?_) (fun hp hd => ?_) <;> refine st_by (And.intro hd ff) ?_)
        | (with_reducible refine CBC_decT ?_ (fun hd => ?_); (· try clear ff; first | assumption | omega); refine st_by (And.intro hd ff) ?_)
        | (with_reducible refine CBC_decF ?_ (fun hd => ?_); (· try clear ff; first | assumption | omega); refine st_by (And.intro hd ff) ?_)
        | (with_reducible refine CBC_dec (fun hp hd => ?_) (fun hp hd => ?_) <;> refine st_by (And.intro hd ff) ?_)
        | (refine CBC_bool (fun hd => ?_) (fun hd => ?_) <;> refine st_by (And.intro hd ff) ?_)
        | (with_reducible refine GQ_eq (fun hp hd => ?_) (fun hp hd => ?_) <;> refine st_by (And.intro hd ff) ?_)
        | (with_reducible refine GQ_ne (fun hp hd => ?_) (fun hp hd => ?_) <;> refine st_by (And.intro hd ff) ?_)
        | (with_reducible refine GQ_decT ?_ (fun hd => ?_); (· try clear ff; first | assumption | omega); refine st_by (And.intro hd ff) ?_)
        | (with_reducible refine GQ_decF ?_ (fun hd => ?_); (· try clear ff; first | assumption | omega); refine st_by (And.intro hd ff) ?_)
        | (with_reducible refine GQ_dec (fun hp hd => ?_) (fun hp hd => ?_) <;> refine st_by (And.intro hd ff) ?_)
        | (with_reducible refine GQ_ndT ?_ (fun hd => ?_); (· try clear ff; first | assumption | omega); refine st_by (And.intro hd ff) ?_)
        | (with_reducible refine GQ_ndF ?_ (fun hd => ?_); (· try clear ff; first | assumption | omega); refine st_by (And.intro hd ff) ?_)
        | (with_reducible refine GQ_nd (fun hp hd => ?_) (fun hp hd => ?_) <;> refine st_by (And.intro hd ff) ?_)
        | (refine GQ_nb (fun hd => ?_) (fun hd => ?_) <;> refine st_by (And.intro hd ff) ?_)
        | (refine GQ_bool (fun hd => ?_) (fun hd => ?_) <;> refine st_by (And.intro hd ff) ?_)
        | (with_reducible refine GD_eq (fun hp hd => ?_) (fun hp hd => ?_) <;> refine st_by (And.intro hd ff) ?_)
        | (with_reducible refine GD_ne (fun hp hd => ?_) (fun hp hd => ?_) <;> refine st_by (And.intro hd ff) ?_)
        | (with_reducible refine GD_decT ?_ (fun hd => ?_); (· try clear ff; first | assumption | omega); refine st_by (And.intro hd ff) ?_)
        | (with_reducible refine GD_decF ?_ (fun hd => ?_); (· try clear ff; first | assumption | omega); refine st_by (And.intro hd ff) ?_)
        | (with_reducible refine GD_dec (fun hp hd => ?_) (fun hp hd => ?_) <;> refine st_by (And.intro hd ff) ?_)
        | (with_reducible refine GD_ndT ?_ (fun hd => ?_); (· try clear ff; first | assumption | omega); refine st_by (And.intro hd ff) ?_)
        | (with_reducible refine GD_ndF ?_ (fun hd => ?_); (· try clear ff; first | assumption | omega); refine st_by (And.intro hd ff) ?_)
        | (with_reducible refine GD_nd (fun hp hd => ?_) (fun hp hd => ?_) <;> refine st_by (And.intro hd ff) ?_)
        | (refine GD_nb (fun hd => ?_) (fun hd => ?_) <;> refine st_by (And.intro hd ff) ?_)
        | (refine GD_bool (fun hd => ?_) (fun hd => ?_) <;> refine st_by (And.intro hd ff) ?_)
        | ((try clear ff); refine ⟨i + 1, ⟨⟨?_, heq ?_⟩, rfl⟩, ?_⟩; (· omega); (· simpa using hp); (· omega)))
      all_goals try clear ff
    · have e1 : l = k := by rw [List.take_of_length_le (by omega), List.take_of_length_le (by omega)] at h3; exact h3
      have ff := And.intro @g0 (And.intro @g1 (And.intro @g5 (And.intro @Ty.sl26 (And.intro @Ty.slz26 (And.intro @Ty.nz46 (And.intro @Ty.ldA46 (And.intro @Ty.sz46 @Ty.szn46)))))))
      try refine st_by ff ?_
      repeat' (first
        | exact trivial
        | (refine And.intro ?_ ?_; · (try clear ff; first | omega))
        | (refine ret_q1 rfl ?_; (try refine sr_by ff ?_); all_goals (try clear ff); all_goals (try exact trivial); all_goals (simp [e1]))
        | (refine aw_drawn (id := 6) ?_ [[], [], [0, 1], [0, 1, 2], [], [], [4, 5], [4, 5, 6], [0, 1, 2, 3, 4, 5, 6, 7], [0, 1, 2, 3, 4, 5, 6, 7, 8]] 8 ?_ ?_; (· kernel_rfl); (· kernel_rfl); refine st_by ff ?_)
        | (with_reducible refine CBC_eq (fun hp hd => ?_) (fun hp hd => ?_) <;> refine st_by (And.intro hd ff) ?_)
        | (with_reducible refine CBC_ne (fun hp hd => ?_) (fun hp hd => ?_) <;> refine st_by (And.intro hd ff) ?_)
        | (with_reducible refine CBC_decT ?_ (fun hd => ?_); (· try clear ff; first | assumption | omega); refine st_by (And.intro hd ff) ?_)
        | (with_reducible refine CBC_decF ?_ (fun hd => ?_); (· try clear ff; first | assumption | omega); refine st_by (And.intro hd ff) ?_)
        | (with_reducible refine CBC_dec (fun hp hd => ?_) (fun hp hd => ?_) <;> refine st_by (And.intro hd ff) ?_)
        | (refine CBC_bool (fun hd => ?_) (fun hd => ?_) <;> refine st_by (And.intro hd ff) ?_)
        | (with_reducible refine GQ_eq (fun hp hd => ?_) (fun hp hd => ?_) <;> refine st_by (And.intro hd ff) ?_)
        | (with_reducible refine GQ_ne (fun hp hd => ?_) (fun hp hd => ?_) <;> refine st_by (And.intro hd ff) ?_)
        | (with_reducible refine GQ_decT ?_ (fun hd => ?_); (· try clear ff; first | assumption | omega); refine st_by (And.intro hd ff) ?_)
        | (with_reducible refine GQ_decF ?_ (fun hd => ?_); (· try clear ff; first | assumption | omega); refine st_by (And.intro hd ff) ?_)
        | (with_reducible refine GQ_dec (fun hp hd => ?_) (fun hp hd => ?_) <;> refine st_by (And.intro hd ff) ?_)
        | (with_reducible refine GQ_ndT ?_ (fun hd => ?_); (· try clear ff; first | assumption | omega); refine st_by (And.intro hd ff) ?_)
        | (with_reducible refine GQ_ndF ?_ (fun hd => ?_); (· try clear ff; first | assumption | omega); refine st_by (And.intro hd ff) ?_)
        | (with_reducible refine GQ_nd (fun hp hd => ?_) (fun hp hd => ?_) <;> refine st_by (And.intro hd ff) ?_)
        | (refine GQ_nb (fun hd => ?_) (fun hd => ?_) <;> refine st_by (And.intro hd ff) ?_)
        | (refine GQ_bool (fun hd => ?_) (fun hd => ?_) <;> refine st_by (And.intro hd ff) ?_)
        | (with_reducible refine GD_eq (fun hp hd => ?_) (fun hp hd => ?_) <;> refine st_by (And.intro hd ff) ?_)
        | (with_reducible refine GD_ne (fun hp hd => ?_) (fun hp hd => ?_) <;> refine st_by (And.intro hd ff) ?_)
        | (with_reducible refine GD_decT ?_ (fun hd => ?_); (· try clear ff; first | assumption | omega); refine st_by (And.intro hd ff) ?_)
        | (with_reducible refine GD_decF ?_ (fun hd => ?_); (· try clear ff; first | assumption | omega); refine st_by (And.intro hd ff) ?_)
        | (with_reducible refine GD_dec (fun hp hd => ?_) (fun hp hd => ?_) <;> refine st_by (And.intro hd ff) ?_)
        | (with_reducible refine GD_ndT ?_ (fun hd => ?_); (· try clear ff; first | assumption | omega); refine st_by (And.intro hd ff) ?_)
        | (with_reducible refine GD_ndF ?_ (fun hd => ?_); (· try clear ff; first | assumption | omega); refine st_by (And.intro hd ff) ?_)
        | (with_reducible refine GD_nd (fun hp hd => ?_) (fun hp hd => ?_) <;> refine st_by (And.intro hd ff) ?_)
        | (refine GD_nb (fun hd => ?_) (fun hd => ?_) <;> refine st_by (And.intro hd ff) ?_)
        | (refine GD_bool (fun hd => ?_) (fun hd => ?_) <;> refine st_by (And.intro hd ff) ?_))
      all_goals try clear ff
def mEntity (x : GEntity) (k : Int) : GEntity := { x with Id := k, Parts := (markL mPart cPart) x.Parts (k + 1) }
def cEntity (x : GEntity) : Nat := 1 + (cntL cPart) x.Parts
theorem markEntityS_does (l : List GEntity) (k : Int) (h0 : 0 ≤ k) (hk : k + cntL cEntity l ≤ 4611686018427387904) (hl : l.length ≤ 9223372036854775807) (hx : ∀ x ∈ l, wfEntity 9223372036854775807 x) :
    DoesX Try.prog 24 [.sl 1000 [] 0 l.length, I k] [.row true 2 l.length (esEntityo l)] (I (k + cntL cEntity l)) [.row true 2 l.length (esEntityo (markL mEntity cEntity l k))] := by
  refine DoesX.walk (nt := 27) Try.func24 rfl rfl (by simp) (by decide) rfl (fun G0 X w0 pv => ?_)
  have ff := And.intro @Ty.sl26 (And.intro @Ty.slz26 (And.intro @Ty.nz3 (And.intro @Ty.ldA3 (And.intro @Ty.ldS3 (And.intro @Ty.sz3 (And.intro @Ty.szn3 (And.intro @Ty.nz44 (And.intro @Ty.ldA44 (And.intro @Ty.ldS44 (And.intro @Ty.sz44 (And.intro @Ty.szn44 (And.intro @Ty.fo46_0 (And.intro @Ty.fk46_0 (And.intro @Ty.fs46_0 (And.intro @Ty.fn46_0 (And.intro @Ty.fo46_1 (And.intro @Ty.fk46_1 (And.intro @Ty.fs46_1 @Ty.fn46_1))))))))))))))))))
  try refine st_by ff ?_
  repeat' (first
    | exact trivial
    | (refine And.intro ?_ ?_; · (try clear ff; first | omega))
    | (refine ret_q1 rfl ?_; (try refine sr_by ff ?_); all_goals (try clear ff); all_goals (try exact trivial); all_goals (skip))
    | (with_reducible refine CBC_eq (fun hp hd => ?_) (fun hp hd => ?_) <;> refine st_by (And.intro hd ff) ?_)
    | (with_reducible refine CBC_ne (fun hp hd => ?_) (fun hp hd => ?_) <;> refine st_by (And.intro hd ff) ?_)
    | (with_reducible refine CBC_decT ?_ (fun hd => ?_); (· try clear ff; first | assumption | omega); refine st_by (And.intro hd ff) ?_)
    | (with_reducible refine CBC_decF ?_ (fun hd => ?_); (· try clear ff; first | assumption | omega); refine st_by (And.intro hd ff) ?_)
    | (with_reducible refine CBC_dec (fun hp hd => ?_) (fun hp hd => ?_) <;> refine st_by (And.intro hd ff) ?_)
    | (refine CBC_bool (fun hd => ?_) (fun hd => ?_) <;> refine st_by (And.intro hd ff) ?_)
    | (with_reducible refine GQ_eq (fun hp hd => ?_) (fun hp hd => ?_) <;> refine st_by (And.intro hd ff) ?_)
    | (with_reducible refine GQ_ne (fun hp hd => ?_) (fun hp hd => ?_) <;> refine st_by (And.intro hd ff) ?_)
    | (with_reducible refine GQ_decT ?_ (fun hd => ?_); (· try clear ff; first | assumption | omega); refine st_by (And.intro hd ff) ?_)
    | (with_reducible refine GQ_decF ?_ (fun hd => ?_); (· try clear ff; first | assumption | omega); refine st_by (And.intro hd ff) ?_)
    | (with_reducible refine GQ_dec (fun hp hd => ?_) (fun hp hd => ?_) <;> refine st_by (And.intro hd ff) ?_)
    | (with_reducible refine GQ_ndT ?_ (fun hd => ?_); (· try clear ff; first | assumption | omega); refine st_by (And.intro hd ff) ?_)
    | (with_reducible refine GQ_ndF ?_ (fun hd => ?_); (· try clear ff; first | assumption | omega); refine st_by (And.intro hd ff) ?_)
    | (with_reducible refine GQ_nd (fun hp hd => ?_) (fun hp hd => ?_) <;> refine st_by (And.intro hd ff) ?_)
    | (refine GQ_nb (fun hd => ?_) (fun hd => ?_) <;> refine st_by (And.intro hd ff) ?_)
    | (refine GQ_bool (fun hd => ?_) (fun hd => ?_) <;> refine st_by (And.intro hd ff) ?_))
  all_goals try clear ff
  refine aw_loop (ι := Nat) (fun i σ => (i ≤ l.length) ∧ σ.t 0 = .sl 1000 [] 0 l.length ∧ σ.t 1 = I (k + cntL cEntity (l.take i)) ∧ σ.t 5 = I i ∧ σ.m 1000 = some (.row true 2 l.length (esEntityo (midL mEntity cEntity l k i)))) (fun i => l.length - i) 0 ?_ ?_
  · (first | exact cl_by trivial | refine st_by trivial ?_)
    simp [midL_zero, cntL]
  · rintro i σ ⟨h2, g0, g1, g5, m1⟩
    by_cases hi : i < l.length
    · have w2 : IntKind.i64.wrap ((i : Int) + 1) = ((i + 1 : Nat) : Int) := wI _ (by omega) (by omega)
      have hc := cntL_lt (c := cEntity) l i hi
      have hc1 := cntL_take (c := cEntity) l i hi
      have hmid := midL_set (f := mEntity) (c := cEntity) l k i hi
      have hmq : (midL mEntity cEntity l k i)[i]? = some l[i] := by rw [List.getElem?_eq_getElem (by rw [midL_len]; exact hi), midL_get l k i hi]
      have hmi : i < (midL mEntity cEntity l k i).length := by rw [midL_len]; exact hi
      have hmidl := midL_len (f := mEntity) (c := cEntity) l k i
      simp only [cEntity] at hc hc1
      have hx0 := hx l[i] (List.getElem_mem hi)
      unfold wfEntity at hx0
      generalize midL mEntity cEntity l k i = L at m1 hmid hmq hmi hmidl
      have hms : ∀ a, i < (L.set i a).length := fun a => by rw [List.length_set]; exact hmi
      have hmg : L[i] = l[i] := by rw [List.getElem?_eq_getElem hmi] at hmq; simpa using hmq
      generalize hn : k + (cntL cEntity (l.take i) : Int) = n at g1 hmid
      obtain ⟨hb1, hb2⟩ := cnt_step hn h0 hk hc
      have hF := cnt_next hn hc1
      clear hc hc1 hk hn
      have wk0 : IntKind.i64.wrap (n + 1) = n + 1 := wE (by omega) (by omega) (by omega)
      have hg_Parts := fun a => esEntityo_get_Parts (L.set i a) i (hms a)
      have hh_Parts := esEntityo_get_Parts L i hmi
      simp only [lget_set] at hg_Parts
      have hd_Parts := fun a => getD_of (hg_Parts a)
      have he_Parts := getD_of hh_Parts
      have hs_Parts : ∀ k : Int, (esEntityo L).set (i * 2 + 1) (.row true 3 L[i].Parts.length (esPart ((markL mPart cPart) L[i].Parts k))) = esEntityo (L.set i { L[i] with Parts := (markL mPart cPart) L[i].Parts k }) := fun k => by have := esEntityo_set_Parts L i ((markL mPart cPart) L[i].Parts k) hmi; rw [markL_len] at this; exact this
      have ht_Parts : ∀ (a : GEntity) (k : Int), (esEntityo (L.set i a)).set (i * 2 + 1) (.row true 3 a.Parts.length (esPart ((markL mPart cPart) a.Parts k))) = esEntityo (L.set i { a with Parts := (markL mPart cPart) a.Parts k }) := fun a k => by have := esEntityo_set_Parts (L.set i a) i ((markL mPart cPart) a.Parts k) (hms a); rw [markL_len] at this; simp only [lget_set, lset_set] at this; exact this
      simp only [hmg] at hs_Parts hh_Parts he_Parts
      have ff := And.intro @g0 (And.intro @g1 (And.intro @g5 (And.intro @m1 (And.intro @w2 (And.intro @wk0 (And.intro @hi (And.intro @hmi (And.intro @hmg (And.intro ((fun v => esEntityo_set_Id L i v hmi)) (And.intro ((fun a v => esEntityo_set_Id (L.set i a) i v (hms a))) (And.intro @hg_Parts (And.intro @hh_Parts (And.intro @hd_Parts (And.intro @he_Parts (And.intro @hs_Parts (And.intro @ht_Parts (And.intro @esEntityo_len (And.intro @lset_len (And.intro @lget_set (And.intro @lset_set (And.intro @Ty.sl26 (And.intro @Ty.slz26 (And.intro @Ty.nz3 (And.intro @Ty.ldA3 (And.intro @Ty.ldS3 (And.intro @Ty.sz3 (And.intro @Ty.szn3 (And.intro @Ty.nz44 (And.intro @Ty.ldA44 (And.intro @Ty.ldS44 (And.intro @Ty.sz44 (And.intro @Ty.szn44 (And.intro @Ty.fo46_0 (And.intro @Ty.fk46_0 (And.intro @Ty.fs46_0 (And.intro @Ty.fn46_0 (And.intro @Ty.fo46_1 (And.intro @Ty.fk46_1 (And.intro @Ty.fs46_1 @Ty.fn46_1)))))))))))))))))))))))))))))))))))))))
      try refine st_by ff ?_
      repeat' (first
        | exact trivial
        | (refine And.intro ?_ ?_; · (try clear ff; first | omega | (simp [esEntityo_len, hmidl]; omega) | decide | (simp; done)))
        | (refine ret_q1 rfl ?_; (try refine sr_by ff ?_); all_goals (try clear ff); all_goals (try exact trivial); all_goals (skip))
        | (with_reducible refine cq_Xs [(1000, [i * 2 + 1])] (markPartS_does l[i].Parts (n + 1) (by omega) (by omega) hx0.1) ?_ ?_ ?_ ⟨?_, ?_⟩; (· first | rfl | exact cl_by ff); (· first | assumption | kernel_rfl); (· first | decide | simp); (· first | exact ca_by ff | (refine sa_by ff ?_; try clear ff; first | exact trivial | omega | (simp [esEntityo_len, hmidl]; omega) | decide | (simp; done))); refine st_by ff ?_)
        | (with_reducible refine CBC_eq (fun hp hd => ?_) (fun hp hd => ?_) <;> refine st_by (And.intro hd ff) ?_)
        | (with_reducible refine CBC_ne (fun hp hd => ?_) (fun hp hd => ?_) <;> refine st_by (And.intro hd ff) ?_)
        | (with_reducible refine CBC_decT ?_ (fun hd => ?_); (· try clear ff; first | assumption | omega); refine st_by (And.intro hd ff) ?_)
        | (with_reducible refine CBC_decF ?_ (fun hd => ?_); (· try clear ff; first | assumption | omega); refine st_by (And.intro hd ff) ?_)
        | (with_reducible refine CBC_dec (fun hp hd => ?_) (fun hp hd => ?_) <;> refine st_by (And.intro hd ff) ?_)
        | (refine CBC_bool (fun hd => ?_) (fun hd => ?_) <;> refine st_by (And.intro hd ff) ?_)
        | (with_reducible refine GQ_eq (fun hp hd => ?_) (fun hp hd => ?_) <;> refine st_by (And.intro hd ff) ?_)
        | (with_reducible refine GQ_ne (fun hp hd => ?_) (fun hp hd => ?_) <;> refine st_by (And.intro hd ff) ?_)
        | (with_reducible refine GQ_decT ?_ (fun hd => ?_); (· try clear ff; first | assumption | omega); refine st_by (And.intro hd ff) ?_)
        | (with_reducible refine GQ_decF ?_ (fun hd => ?_); (· try clear ff; first | assumption | omega); refine st_by (And.intro hd ff) ?_)
        | (with_reducible refine GQ_dec (fun hp hd => ?_) (fun hp hd => ?_) <;> refine st_by (And.intro hd ff) ?_)
        | (with_reducible refine GQ_ndT ?_ (fun hd => ?_); (· try clear ff; first | assumption | omega); refine st_by (And.intro hd ff) ?_)
        | (with_reducible refine GQ_ndF ?_ (fun hd => ?_); (· try clear ff; first | assumption | omega); refine st_by (And.intro hd ff) ?_)
        | (with_reducible refine GQ_nd (fun hp hd => ?_) (fun hp hd => ?_) <;> refine st_by (And.intro hd ff) ?_)
        | (refine GQ_nb (fun hd => ?_) (fun hd => ?_) <;> refine st_by (And.intro hd ff) ?_)
        | (refine GQ_bool (fun hd => ?_) (fun hd => ?_) <;> refine st_by (And.intro hd ff) ?_)
        | ((try clear ff); refine ⟨i + 1, ⟨?_, ?_, ?_, ?_⟩, ?_⟩; (· omega); (· refine congrArg I ?_; first | (rw [← hF ()]; done) | (rw [← hF ()]; clear hF; omega)); (· rfl); (· rw [← hmid]; try simp only [mEntity, hmg]); (· omega)))
      all_goals try clear ff
    · have e1 : midL mEntity cEntity l k i = markL mEntity cEntity l k := midL_all l k i (by omega)
      have e2 : l.take i = l := List.take_of_length_le (by omega)
      rw [e1] at m1
      rw [e2] at g1
      have ff := And.intro @g0 (And.intro @g1 (And.intro @g5 (And.intro @m1 (And.intro @Ty.sl26 (And.intro @Ty.slz26 (And.intro @Ty.nz3 (And.intro @Ty.ldA3 (And.intro @Ty.ldS3 (And.intro @Ty.sz3 (And.intro @Ty.szn3 (And.intro @Ty.nz44 (And.intro @Ty.ldA44 (And.intro @Ty.ldS44 (And.intro @Ty.sz44 (And.intro @Ty.szn44 (And.intro @Ty.fo46_0 (And.intro @Ty.fk46_0 (And.intro @Ty.fs46_0 (And.intro @Ty.fn46_0 (And.intro @Ty.fo46_1 (And.intro @Ty.fk46_1 (And.intro @Ty.fs46_1 @Ty.fn46_1))))))))))))))))))))))
      try refine st_by ff ?_
      repeat' (first
        | exact trivial
        | (refine And.intro ?_ ?_; · (try clear ff; first | omega))
        | (refine retX_q1 rfl ?_; (try refine sr_by ff ?_); all_goals (try clear ff); all_goals (try exact trivial); all_goals ((refine regsOk_one ?_; (first | exact cl_by @m1 | refine st_by @m1 ?_))))
        | (with_reducible refine CBC_eq (fun hp hd => ?_) (fun hp hd => ?_) <;> refine st_by (And.intro hd ff) ?_)
        | (with_reducible refine CBC_ne (fun hp hd => ?_) (fun hp hd => ?_) <;> refine st_by (And.intro hd ff) ?_)
        | (with_reducible refine CBC_decT ?_ (fun hd => ?_); (· try clear ff; first | assumption | omega); refine st_by (And.intro hd ff) ?_)
        | (with_reducible refine CBC_decF ?_ (fun hd => ?_); (· try clear ff; first | assumption | omega); refine st_by (And.intro hd ff) ?_)
        | (with_reducible refine CBC_dec (fun hp hd => ?_) (fun hp hd => ?_) <;> refine st_by (And.intro hd ff) ?_)
        | (refine CBC_bool (fun hd => ?_) (fun hd => ?_) <;> refine st_by (And.intro hd ff) ?_)
        | (with_reducible refine GQ_eq (fun hp hd => ?_) (fun hp hd => ?_) <;> refine st_by (And.intro hd ff) ?_)
        | (with_reducible refine GQ_ne (fun hp hd => ?_) (fun hp hd => ?_) <;> refine st_by (And.intro hd ff) ?_)
        | (with_reducible refine GQ_decT ?_ (fun hd => ?_); (· try clear ff; first | assumption | omega); refine st_by (And.intro hd ff) ?_)
        | (with_reducible refine GQ_decF ?_ (fun hd => ?_); (· try clear ff; first | assumption | omega); refine st_by (And.intro hd ff) ?_)
        | (with_reducible refine GQ_dec (fun hp hd => ?_) (fun hp hd => ?_) <;> refine st_by (And.intro hd ff) ?_)
        | (with_reducible refine GQ_ndT ?_ (fun hd => ?_); (· try clear ff; first | assumption | omega); refine st_by (And.intro hd ff) ?_)
        | (with_reducible refine GQ_ndF ?_ (fun hd => ?_); (· try clear ff; first | assumption | omega); refine st_by (And.intro hd ff) ?_)
        | (with_reducible refine GQ_nd (fun hp hd => ?_) (fun hp hd => ?_) <;> refine st_by (And.intro hd ff) ?_)
        | (refine GQ_nb (fun hd => ?_) (fun hd => ?_) <;> refine st_by (And.intro hd ff) ?_)
        | (refine GQ_bool (fun hd => ?_) (fun hd => ?_) <;> refine st_by (And.intro hd ff) ?_))
      all_goals try clear ff
theorem heldEntityS_does (l : List GEntity) (k : Int) (h0 : 0 ≤ k) (hk : k + cntL cEntity l ≤ 4611686018427387904) (hl : l.length ≤ 9223372036854775807) (hx : ∀ x ∈ l, wfEntity 9223372036854775807 x) (hm : markL mEntity cEntity l k = l) :
    Does Try.prog 25 [.row false 2 l.length (esEntity l), I k] (I (k + cntL cEntity l)) := by
  refine Does.walk (nt := 31) Try.func25 rfl rfl (by simp) (by decide) rfl (fun G0 X w0 pv => ?_)
  have ff := And.intro @Ty.sl26 (And.intro @Ty.slz26 (And.intro @Ty.nz3 (And.intro @Ty.ldA3 (And.intro @Ty.ldS3 (And.intro @Ty.sz3 (And.intro @Ty.szn3 (And.intro @Ty.nz44 (And.intro @Ty.ldA44 (And.intro @Ty.ldS44 (And.intro @Ty.sz44 (And.intro @Ty.szn44 (And.intro @Ty.fo46_0 (And.intro @Ty.fk46_0 (And.intro @Ty.fs46_0 (And.intro @Ty.fn46_0 (And.intro @Ty.fo46_1 (And.intro @Ty.fk46_1 (And.intro @Ty.fs46_1 @Ty.fn46_1))))))))))))))))))
  try refine st_by ff ?_
  repeat' (first
    | exact trivial
    | (refine And.intro ?_ ?_; · (try clear ff; first | omega))
    | (refine ret_q1 rfl ?_; (try refine sr_by ff ?_); all_goals (try clear ff); all_goals (try exact trivial); all_goals (skip))
    | (with_reducible refine CBC_eq (fun hp hd => ?_) (fun hp hd => ?_) <;> refine st_by (And.intro hd ff) ?_)
    | (with_reducible refine CBC_ne (fun hp hd => ?_) (fun hp hd => ?_) <;> refine st_by (And.intro hd ff) ?_)
    | (with_reducible refine CBC_decT ?_ (fun hd => ?_); (· try clear ff; first | assumption | omega); refine st_by (And.intro hd ff) ?_)
    | (with_reducible refine CBC_decF ?_ (fun hd => ?_); (· try clear ff; first | assumption | omega); refine st_by (And.intro hd ff) ?_)
    | (with_reducible refine CBC_dec (fun hp hd => ?_) (fun hp hd => ?_) <;> refine st_by (And.intro hd ff) ?_)
    | (refine CBC_bool (fun hd => ?_) (fun hd => ?_) <;> refine st_by (And.intro hd ff) ?_)
    | (with_reducible refine GQ_eq (fun hp hd => ?_) (fun hp hd => ?_) <;> refine st_by (And.intro hd ff) ?_)
    | (with_reducible refine GQ_ne (fun hp hd => ?_) (fun hp hd => ?_) <;> refine st_by (And.intro hd ff) ?_)
    | (with_reducible refine GQ_decT ?_ (fun hd => ?_); (· try clear ff; first | assumption | omega); refine st_by (And.intro hd ff) ?_)
    | (with_reducible refine GQ_decF ?_ (fun hd => ?_); (· try clear ff; first | assumption | omega); refine st_by (And.intro hd ff) ?_)
    | (with_reducible refine GQ_dec (fun hp hd => ?_) (fun hp hd => ?_) <;> refine st_by (And.intro hd ff) ?_)
    | (with_reducible refine GQ_ndT ?_ (fun hd => ?_); (· try clear ff; first | assumption | omega); refine st_by (And.intro hd ff) ?_)
    | (with_reducible refine GQ_ndF ?_ (fun hd => ?_); (· try clear ff; first | assumption | omega); refine st_by (And.intro hd ff) ?_)
    | (with_reducible refine GQ_nd (fun hp hd => ?_) (fun hp hd => ?_) <;> refine st_by (And.intro hd ff) ?_)
    | (refine GQ_nb (fun hd => ?_) (fun hd => ?_) <;> refine st_by (And.intro hd ff) ?_)
    | (refine GQ_bool (fun hd => ?_) (fun hd => ?_) <;> refine st_by (And.intro hd ff) ?_))
  all_goals try clear ff
  refine aw_loop (ι := Nat) (fun i σ => (i ≤ l.length) ∧ σ.t 0 = .row false 2 l.length (esEntity l) ∧ σ.t 1 = I (k + cntL cEntity (l.take i)) ∧ σ.t 5 = I i) (fun i => l.length - i) 0 ?_ ?_
  · (first | exact cl_by trivial | refine st_by trivial ?_)
    simp [cntL]
  · rintro i σ ⟨h2, g0, g1, g5⟩
    by_cases hi : i < l.length
    · have w2 : IntKind.i64.wrap ((i : Int) + 1) = ((i + 1 : Nat) : Int) := wI _ (by omega) (by omega)
      have hc := cntL_lt (c := cEntity) l i hi
      have hc1 := cntL_take (c := cEntity) l i hi
      have hs := markL_self hm i hi
      simp only [cEntity] at hc hc1
      have hx0 := hx l[i] (List.getElem_mem hi)
      unfold wfEntity at hx0
      generalize hn : k + (cntL cEntity (l.take i) : Int) = n at g1 hs
      obtain ⟨hb1, hb2⟩ := cnt_step hn h0 hk hc
      have hF := cnt_next hn hc1
      clear hc hc1 hk hn
      have f0 : l[i].Id = n := congrArg GEntity.Id hs
      have f1 : (markL mPart cPart) l[i].Parts (n + 1) = l[i].Parts := (congrArg GEntity.Parts hs).symm
      clear hs
      have wk0 : IntKind.i64.wrap (n + 1) = n + 1 := wE (by omega) (by omega) (by omega)
      have ff := And.intro @g0 (And.intro @g1 (And.intro @g5 (And.intro @w2 (And.intro @wk0 (And.intro @hi (And.intro @f0 (And.intro ((esEntity_drop l i hi)) (And.intro @esEntity_len (And.intro @eEntity_eq (And.intro @Ty.sl26 (And.intro @Ty.slz26 (And.intro @Ty.nz3 (And.intro @Ty.ldA3 (And.intro @Ty.ldS3 (And.intro @Ty.sz3 (And.intro @Ty.szn3 (And.intro @Ty.nz44 (And.intro @Ty.ldA44 (And.intro @Ty.ldS44 (And.intro @Ty.sz44 (And.intro @Ty.szn44 (And.intro @Ty.fo46_0 (And.intro @Ty.fk46_0 (And.intro @Ty.fs46_0 (And.intro @Ty.fn46_0 (And.intro @Ty.fo46_1 (And.intro @Ty.fk46_1 (And.intro @Ty.fs46_1 @Ty.fn46_1))))))))))))))))))))))))))))
      try refine st_by ff ?_
      repeat' (first
        | exact trivial
        | (refine And.intro ?_ ?_; · (try clear ff; first | omega | (rw [List.length_append]; simp [esEntity_len]; omega) | (simp [eEntity]; done) | decide | (simp [esEntity_len]; omega)))
        | (refine ret_q1 rfl ?_; (try refine sr_by ff ?_); all_goals (try clear ff); all_goals (try exact trivial); all_goals (skip))
        | (with_reducible refine cq_call (heldPartS_does l[i].Parts (n + 1) (by omega) (by omega) hx0.1 f1) ?_ ?_ ⟨?_, ?_⟩; (· first | rfl | exact cl_by ff); (· first | assumption | kernel_rfl); (· first | exact ca_by ff | (refine sa_by ff ?_; try clear ff; first | exact trivial | omega | (rw [List.length_append]; simp [esEntity_len]; omega) | (simp [eEntity]; done) | decide | (simp [esEntity_len]; omega))); refine st_by ff ?_)
        | (with_reducible refine CBC_eq (fun hp hd => ?_) (fun hp hd => ?_) <;> refine st_by (And.intro hd ff) ?_)
        | (with_reducible refine CBC_ne (fun hp hd => ?_) (fun hp hd => ?_) <;> refine st_by (And.intro hd ff) ?_)
        | (with_reducible refine CBC_decT ?_ (fun hd => ?_); (· try clear ff; first | assumption | omega); refine st_by (And.intro hd ff) ?_)
        | (with_reducible refine CBC_decF ?_ (fun hd => ?_); (· try clear ff; first | assumption | omega); refine st_by (And.intro hd ff) ?_)
        | (with_reducible refine CBC_dec (fun hp hd => ?_) (fun hp hd => ?_) <;> refine st_by (And.intro hd ff) ?_)
        | (refine CBC_bool (fun hd => ?_) (fun hd => ?_) <;> refine st_by (And.intro hd ff) ?_)
        | (with_reducible refine GQ_eq (fun hp hd => ?_) (fun hp hd => ?_) <;> refine st_by (And.intro hd ff) ?_)
        | (with_reducible refine GQ_ne (fun hp hd => ?_) (fun hp hd => ?_) <;> refine st_by (And.intro hd ff) ?_)
        | (with_reducible refine GQ_decT ?_ (fun hd => ?_); (· try clear ff; first | assumption | omega); refine st_by (And.intro hd ff) ?_)
        | (with_reducible refine GQ_decF ?_ (fun hd => ?_); (· try clear ff; first | assumption | omega); refine st_by (And.intro hd ff) ?_)
        | (with_reducible refine GQ_dec (fun hp hd => ?_) (fun hp hd => ?_) <;> refine st_by (And.intro hd ff) ?_)
        | (with_reducible refine GQ_ndT ?_ (fun hd => ?_); (· try clear ff; first | assumption | omega); refine st_by (And.intro hd ff) ?_)
        | (with_reducible refine GQ_ndF ?_ (fun hd => ?_); (· try clear ff; first | assumption | omega); refine st_by (And.intro hd ff) ?_)
        | (with_reducible refine GQ_nd (fun hp hd => ?_) (fun hp hd => ?_) <;> refine st_by (And.intro hd ff) ?_)
        | (refine GQ_nb (fun hd => ?_) (fun hd => ?_) <;> refine st_by (And.intro hd ff) ?_)
        | (refine GQ_bool (fun hd => ?_) (fun hd => ?_) <;> refine st_by (And.intro hd ff) ?_)
        | ((try clear ff); refine ⟨i + 1, ⟨?_, ?_, ?_⟩, ?_⟩; (· omega); (· refine congrArg I ?_; first | (rw [← hF ()]; done) | (rw [← hF ()]; clear hF; omega)); (· rfl); (· omega)))
      all_goals try clear ff
    · have e2 : l.take i = l := List.take_of_length_le (by omega)
      rw [e2] at g1
      have ff := And.intro @g0 (And.intro @g1 (And.intro @g5 (And.intro @Ty.sl26 (And.intro @Ty.slz26 (And.intro @Ty.nz3 (And.intro @Ty.ldA3 (And.intro @Ty.ldS3 (And.intro @Ty.sz3 (And.intro @Ty.szn3 (And.intro @Ty.nz44 (And.intro @Ty.ldA44 (And.intro @Ty.ldS44 (And.intro @Ty.sz44 (And.intro @Ty.szn44 (And.intro @Ty.fo46_0 (And.intro @Ty.fk46_0 (And.intro @Ty.fs46_0 (And.intro @Ty.fn46_0 (And.intro @Ty.fo46_1 (And.intro @Ty.fk46_1 (And.intro @Ty.fs46_1 @Ty.fn46_1)))))))))))))))))))))
      try refine st_by ff ?_
      repeat' (first
        | exact trivial
        | (refine And.intro ?_ ?_; · (try clear ff; first | omega))
        | (refine ret_q1 rfl ?_; (try refine sr_by ff ?_); all_goals (try clear ff); all_goals (try exact trivial); all_goals (rfl))
        | (with_reducible refine CBC_eq (fun hp hd => ?_) (fun hp hd => ?_) <;> refine st_by (And.intro hd ff) ?_)
        | (with_reducible refine CBC_ne (fun hp hd => ?_) (fun hp hd => ?_) <;> refine st_by (And.intro hd ff) ?_)
        | (with_reducible refine CBC_decT ?_ (fun hd => ?_); (· try clear ff; first | assumption | omega); refine st_by (And.intro hd ff) ?_)
        | (with_reducible refine CBC_decF ?_ (fun hd => ?_); (· try clear ff; first | assumption | omega); refine st_by (And.intro hd ff) ?_)
        | (with_reducible refine CBC_dec (fun hp hd => ?_) (fun hp hd => ?_) <;> refine st_by (And.intro hd ff) ?_)
        | (refine CBC_bool (fun hd => ?_) (fun hd => ?_) <;> refine st_by (And.intro hd ff) ?_)
        | (with_reducible refine GQ_eq (fun hp hd => ?_) (fun hp hd => ?_) <;> refine st_by (And.intro hd ff) ?_)
        | (with_reducible refine GQ_ne (fun hp hd => ?_) (fun hp hd => ?_) <;> refine st_by (And.intro hd ff) ?_)
        | (with_reducible refine GQ_decT ?_ (fun hd => ?_); (· try clear ff; first | assumption | omega); refine st_by (And.intro hd ff) ?_)
        | (with_reducible refine GQ_decF ?_ (fun hd => ?_); (· try clear ff; first | assumption | omega); refine st_by (And.intro hd ff) ?_)
        | (with_reducible refine GQ_dec (fun hp hd => ?_) (fun hp hd => ?_) <;> refine st_by (And.intro hd ff) ?_)
        | (with_reducible refine GQ_ndT ?_ (fun hd => ?_); (· try clear ff; first | assumption | omega); refine st_by (And.intro hd ff) ?_)
        | (with_reducible refine GQ_ndF ?_ (fun hd => ?_); (· try clear ff; first | assumption | omega); refine st_by (And.intro hd ff) ?_)
        | (with_reducible refine GQ_nd (fun hp hd => ?_) (fun hp hd => ?_) <;> refine st_by (And.intro hd ff) ?_)
        | (refine GQ_nb (fun hd => ?_) (fun hd => ?_) <;> refine st_by (And.intro hd ff) ?_)
        | (refine GQ_bool (fun hd => ?_) (fun hd => ?_) <;> refine st_by (And.intro hd ff) ?_))
      all_goals try clear ff
/-! World -/
def wfWorld (n : Nat) (x : GWorld) : Prop := x.Entities.length ≤ n ∧ (∀ y ∈ x.Entities, wfEntity n y)
def szWorld (x : GWorld) (left : Int) : Int := szStep ((szRow szEntity) x.Entities left) fun left => left
theorem szWorld_ok : szOk szWorld := fun x left h => szStep_le h ((szRow_ok szEntity_ok) x.Entities left h) (fun left h => Int.le_refl _)
theorem szWorld_does (x : GWorld) (left : Int) (h0 : 0 ≤ left) (h1 : left ≤ 1048576) (hx : wfWorld 9223372036854775807 x) : Does Try.prog 5 [.agg (eWorld x), I left] (I (szWorld x left)) := by
  unfold wfWorld at hx
  refine Does.walk (nt := 12) Try.func5 rfl rfl (by simp) (by decide) rfl (fun G0 X w0 pv => ?_)
  unfold szWorld
  have hv0 : ((szRow szEntity) x.Entities left : Int) ≤ left := (szRow_ok szEntity_ok) x.Entities _ (by omega)
  have ff := And.intro @eWorld_eq (And.intro @Ty.nz22 (And.intro @Ty.ldA22 (And.intro @Ty.ldS22 (And.intro @Ty.sz22 (And.intro @Ty.szn22 (And.intro @Ty.fo24_2 (And.intro @Ty.fk24_2 (And.intro @Ty.fs24_2 @Ty.fn24_2))))))))
  try refine st_by ff ?_
  repeat' (first
    | exact trivial
    | (refine And.intro ?_ ?_; · (try clear ff; first | omega))
    | (refine ret_q1 rfl ?_; (try refine sr_by ff ?_); all_goals (try clear ff); all_goals (try exact trivial); all_goals ((first | rw [szStep_neg (by assumption)] | rw [szStep_pos (by assumption)])))
    | (with_reducible refine cq_call (szEntityS_does x.Entities left (by omega) (by omega) hx.1 hx.2) ?_ ?_ ⟨?_, ?_⟩; (· first | rfl | exact cl_by ff); (· first | assumption | kernel_rfl); (· first | exact ca_by ff | (refine sa_by ff ?_; try clear ff; first | exact trivial | omega)); refine st_by ff ?_)
    | (with_reducible refine CBC_eq (fun hp hd => ?_) (fun hp hd => ?_) <;> refine st_by (And.intro hd ff) ?_)
    | (with_reducible refine CBC_ne (fun hp hd => ?_) (fun hp hd => ?_) <;> refine st_by (And.intro hd ff) ?_)
    | (with_reducible refine CBC_decT ?_ (fun hd => ?_); (· try clear ff; first | assumption | omega); refine st_by (And.intro hd ff) ?_)
    | (with_reducible refine CBC_decF ?_ (fun hd => ?_); (· try clear ff; first | assumption | omega); refine st_by (And.intro hd ff) ?_)
    | (with_reducible refine CBC_dec (fun hp hd => ?_) (fun hp hd => ?_) <;> refine st_by (And.intro hd ff) ?_)
    | (refine CBC_bool (fun hd => ?_) (fun hd => ?_) <;> refine st_by (And.intro hd ff) ?_)
    | (with_reducible refine GQ_eq (fun hp hd => ?_) (fun hp hd => ?_) <;> refine st_by (And.intro hd ff) ?_)
    | (with_reducible refine GQ_ne (fun hp hd => ?_) (fun hp hd => ?_) <;> refine st_by (And.intro hd ff) ?_)
    | (with_reducible refine GQ_decT ?_ (fun hd => ?_); (· try clear ff; first | assumption | omega); refine st_by (And.intro hd ff) ?_)
    | (with_reducible refine GQ_decF ?_ (fun hd => ?_); (· try clear ff; first | assumption | omega); refine st_by (And.intro hd ff) ?_)
    | (with_reducible refine GQ_dec (fun hp hd => ?_) (fun hp hd => ?_) <;> refine st_by (And.intro hd ff) ?_)
    | (with_reducible refine GQ_ndT ?_ (fun hd => ?_); (· try clear ff; first | assumption | omega); refine st_by (And.intro hd ff) ?_)
    | (with_reducible refine GQ_ndF ?_ (fun hd => ?_); (· try clear ff; first | assumption | omega); refine st_by (And.intro hd ff) ?_)
    | (with_reducible refine GQ_nd (fun hp hd => ?_) (fun hp hd => ?_) <;> refine st_by (And.intro hd ff) ?_)
    | (refine GQ_nb (fun hd => ?_) (fun hd => ?_) <;> refine st_by (And.intro hd ff) ?_)
    | (refine GQ_bool (fun hd => ?_) (fun hd => ?_) <;> refine st_by (And.intro hd ff) ?_))
  all_goals try clear ff
theorem toWorld_does (x : GWorld) (hx : wfWorld 1048576 x) : Does Try.prog 7 [.agg (eWorld x)] (.agg (eWorldo x)) := by
  unfold wfWorld at hx
  refine Does.walk (nt := 15) Try.func7 rfl rfl (by simp) (by decide) rfl (fun G0 X w0 pv => ?_)
  have ff := And.intro @eWorld_eq (And.intro @eWorldo_eq (And.intro @Ty.nz3 (And.intro @Ty.ldA3 (And.intro @Ty.ldS3 (And.intro @Ty.sz3 (And.intro @Ty.szn3 (And.intro @Ty.nz22 (And.intro @Ty.ldA22 (And.intro @Ty.ldS22 (And.intro @Ty.sz22 (And.intro @Ty.szn22 (And.intro @Ty.nz26 (And.intro @Ty.ldA26 (And.intro @Ty.ldS26 (And.intro @Ty.sz26 (And.intro @Ty.szn26 (And.intro @Ty.nz28 (And.intro @Ty.ldA28 (And.intro @Ty.sz28 (And.intro @Ty.szn28 (And.intro @Ty.fo24_0 (And.intro @Ty.fk24_0 (And.intro @Ty.fs24_0 (And.intro @Ty.fn24_0 (And.intro @Ty.fo28_0 (And.intro @Ty.fk28_0 (And.intro @Ty.fs28_0 (And.intro @Ty.fn28_0 (And.intro @Ty.fo24_1 (And.intro @Ty.fk24_1 (And.intro @Ty.fs24_1 (And.intro @Ty.fn24_1 (And.intro @Ty.fo28_1 (And.intro @Ty.fk28_1 (And.intro @Ty.fs28_1 (And.intro @Ty.fn28_1 (And.intro @Ty.fo24_2 (And.intro @Ty.fk24_2 (And.intro @Ty.fs24_2 (And.intro @Ty.fn24_2 (And.intro @Ty.fo28_2 (And.intro @Ty.fk28_2 (And.intro @Ty.fs28_2 (And.intro @Ty.fn28_2 (And.intro @Ty.zv28 @Ty.ag28)))))))))))))))))))))))))))))))))))))))))))))
  try refine st_by ff ?_
  repeat' (first
    | exact trivial
    | (refine And.intro ?_ ?_; · (try clear ff; first | omega | decide))
    | (refine ret_q1 rfl ?_; (try refine sr_by ff ?_); all_goals (try clear ff); all_goals (try exact trivial); all_goals (skip))
    | (with_reducible refine cq_own (toEntityS_does x.Entities hx.1 hx.2) ?_ ?_ ⟨?_, ?_⟩; (· first | rfl | exact cl_by ff); (· first | assumption | kernel_rfl); (· first | exact ca_by ff | (refine sa_by ff ?_; try clear ff; first | exact trivial | omega | decide)); refine st_by ff ?_)
    | (with_reducible refine CBC_eq (fun hp hd => ?_) (fun hp hd => ?_) <;> refine st_by (And.intro hd ff) ?_)
    | (with_reducible refine CBC_ne (fun hp hd => ?_) (fun hp hd => ?_) <;> refine st_by (And.intro hd ff) ?_)
    | (with_reducible refine CBC_decT ?_ (fun hd => ?_); (· try clear ff; first | assumption | omega); refine st_by (And.intro hd ff) ?_)
    | (with_reducible refine CBC_decF ?_ (fun hd => ?_); (· try clear ff; first | assumption | omega); refine st_by (And.intro hd ff) ?_)
    | (with_reducible refine CBC_dec (fun hp hd => ?_) (fun hp hd => ?_) <;> refine st_by (And.intro hd ff) ?_)
    | (refine CBC_bool (fun hd => ?_) (fun hd => ?_) <;> refine st_by (And.intro hd ff) ?_)
    | (with_reducible refine GQ_eq (fun hp hd => ?_) (fun hp hd => ?_) <;> refine st_by (And.intro hd ff) ?_)
    | (with_reducible refine GQ_ne (fun hp hd => ?_) (fun hp hd => ?_) <;> refine st_by (And.intro hd ff) ?_)
    | (with_reducible refine GQ_decT ?_ (fun hd => ?_); (· try clear ff; first | assumption | omega); refine st_by (And.intro hd ff) ?_)
    | (with_reducible refine GQ_decF ?_ (fun hd => ?_); (· try clear ff; first | assumption | omega); refine st_by (And.intro hd ff) ?_)
    | (with_reducible refine GQ_dec (fun hp hd => ?_) (fun hp hd => ?_) <;> refine st_by (And.intro hd ff) ?_)
    | (with_reducible refine GQ_ndT ?_ (fun hd => ?_); (· try clear ff; first | assumption | omega); refine st_by (And.intro hd ff) ?_)
    | (with_reducible refine GQ_ndF ?_ (fun hd => ?_); (· try clear ff; first | assumption | omega); refine st_by (And.intro hd ff) ?_)
    | (with_reducible refine GQ_nd (fun hp hd => ?_) (fun hp hd => ?_) <;> refine st_by (And.intro hd ff) ?_)
    | (refine GQ_nb (fun hd => ?_) (fun hd => ?_) <;> refine st_by (And.intro hd ff) ?_)
    | (refine GQ_bool (fun hd => ?_) (fun hd => ?_) <;> refine st_by (And.intro hd ff) ?_))
  all_goals try clear ff
theorem eqWorld_does (x y : GWorld) (hx : wfWorld 9223372036854775807 x) (hy : wfWorld 9223372036854775807 y) : Does Try.prog 9 [.agg (eWorld x), .agg (eWorld y)] (B (decide (x = y))) := by
  unfold wfWorld at hx hy
  have hxy : decide (x = y) = decide (x.Next = y.Next ∧ x.Tick = y.Tick ∧ x.Entities = y.Entities) := decide_eq_decide.2 (by cases x; cases y; simp)
  rw [hxy]
  refine Does.walk (nt := 21) Try.func9 rfl rfl (by simp) (by decide) rfl (fun G0 X w0 pv => ?_)
  have ff := And.intro @eWorld_eq (And.intro @str_beq (And.intro @Ty.nz3 (And.intro @Ty.ldA3 (And.intro @Ty.ldS3 (And.intro @Ty.sz3 (And.intro @Ty.szn3 (And.intro @Ty.nz26 (And.intro @Ty.ldA26 (And.intro @Ty.ldS26 (And.intro @Ty.sz26 (And.intro @Ty.szn26 (And.intro @Ty.fo28_0 (And.intro @Ty.fk28_0 (And.intro @Ty.fs28_0 (And.intro @Ty.fn28_0 (And.intro @Ty.fo28_1 (And.intro @Ty.fk28_1 (And.intro @Ty.fs28_1 (And.intro @Ty.fn28_1 (And.intro @Ty.fo28_2 (And.intro @Ty.fk28_2 (And.intro @Ty.fs28_2 @Ty.fn28_2))))))))))))))))))))))
  try refine st_by ff ?_
  repeat' (first
    | exact trivial
    | (refine And.intro ?_ ?_; · (try clear ff; first | omega))
    | (refine ret_q1 rfl ?_; (try refine sr_by ff ?_); all_goals (try clear ff); all_goals (try exact trivial); all_goals (simp_all))
    | (with_reducible refine cq_call (eqEntityS_does x.Entities y.Entities hx.1 hy.1 hx.2 hy.2) ?_ ?_ ⟨?_, ?_⟩; (· first | rfl | exact cl_by ff); (· first | assumption | kernel_rfl); (· first | exact ca_by ff | (refine sa_by ff ?_; try clear ff; first | exact trivial | omega)); refine st_by ff ?_)
    | (with_reducible refine CBC_eq (fun hp hd => ?_) (fun hp hd => ?_) <;> refine st_by (And.intro hd ff) ?_)
    | (with_reducible refine CBC_ne (fun hp hd => ?_) (fun hp hd => ?_) <;> refine st_by (And.intro hd ff) ?_)
    | (with_reducible refine CBC_decT ?_ (fun hd => ?_); (· try clear ff; first | assumption | omega); refine st_by (And.intro hd ff) ?_)
    | (with_reducible refine CBC_decF ?_ (fun hd => ?_); (· try clear ff; first | assumption | omega); refine st_by (And.intro hd ff) ?_)
    | (with_reducible refine CBC_dec (fun hp hd => ?_) (fun hp hd => ?_) <;> refine st_by (And.intro hd ff) ?_)
    | (refine CBC_bool (fun hd => ?_) (fun hd => ?_) <;> refine st_by (And.intro hd ff) ?_)
    | (with_reducible refine GQ_eq (fun hp hd => ?_) (fun hp hd => ?_) <;> refine st_by (And.intro hd ff) ?_)
    | (with_reducible refine GQ_ne (fun hp hd => ?_) (fun hp hd => ?_) <;> refine st_by (And.intro hd ff) ?_)
    | (with_reducible refine GQ_decT ?_ (fun hd => ?_); (· try clear ff; first | assumption | omega); refine st_by (And.intro hd ff) ?_)
    | (with_reducible refine GQ_decF ?_ (fun hd => ?_); (· try clear ff; first | assumption | omega); refine st_by (And.intro hd ff) ?_)
    | (with_reducible refine GQ_dec (fun hp hd => ?_) (fun hp hd => ?_) <;> refine st_by (And.intro hd ff) ?_)
    | (with_reducible refine GQ_ndT ?_ (fun hd => ?_); (· try clear ff; first | assumption | omega); refine st_by (And.intro hd ff) ?_)
    | (with_reducible refine GQ_ndF ?_ (fun hd => ?_); (· try clear ff; first | assumption | omega); refine st_by (And.intro hd ff) ?_)
    | (with_reducible refine GQ_nd (fun hp hd => ?_) (fun hp hd => ?_) <;> refine st_by (And.intro hd ff) ?_)
    | (refine GQ_nb (fun hd => ?_) (fun hd => ?_) <;> refine st_by (And.intro hd ff) ?_)
    | (refine GQ_bool (fun hd => ?_) (fun hd => ?_) <;> refine st_by (And.intro hd ff) ?_))
  all_goals try clear ff
def mTWorld (x : GWorld) (k : Int) : GWorld := { x with Entities := (markL mEntity cEntity) x.Entities (k) }
def cTWorld (x : GWorld) : Nat := (cntL cEntity) x.Entities
theorem markWorld_does (x : GWorld) (k : Int) (h0 : 0 ≤ k) (hk : k + ((cntL cEntity) x.Entities : Int) ≤ 4611686018427387904) (hl0 : x.Entities.length ≤ 9223372036854775807) (hx0 : (∀ y ∈ x.Entities, wfEntity 9223372036854775807 y)) :
    DoesX Try.prog 10 [.agg [I x.Next, I x.Tick, .sl 1000 [] 0 x.Entities.length], I k] [.row true 2 x.Entities.length (esEntityo x.Entities)] (I (k + ((cntL cEntity) x.Entities : Int))) [.row true 2 x.Entities.length (esEntityo ((markL mEntity cEntity) x.Entities (k)))] := by
  refine DoesX.walkL (nt := 10) Try.func10 rfl rfl (by simp) (by decide) rfl (by simp [fullArg, fullA, fullAs, regs]) rfl (fun G0 X w0 vals hvals hone => ?_)
  obtain ⟨v0, rfl⟩ := len1 hvals
  have hv0 := hone v0 (by simp)
  simp only [List.map_cons, List.map_nil, litArg, litAs, litA, regs, Nat.le_refl, Nat.sub_self, if_true, List.getElem?_cons_zero, List.getElem?_cons_succ, Nat.reduceLeDiff, Nat.reduceSub]
  have ff := And.intro @lget_set (And.intro @Ty.nz26 (And.intro @Ty.ldA26 (And.intro @Ty.ldS26 (And.intro @Ty.sz26 (And.intro @Ty.szn26 (And.intro @Ty.fo28_2 (And.intro @Ty.fk28_2 (And.intro @Ty.fs28_2 @Ty.fn28_2))))))))
  try refine st_by ff ?_
  repeat' (first
    | (refine opq_relit (i := 6) (r := 1000) (c := v0) (sz := 2) (n := x.Entities.length) (cs := esEntityo x.Entities) ?_ ?_ ?_ ?_; (· (first | exact cl_by trivial | refine st_by trivial ?_)); (· first | rfl | ((first | exact cl_by trivial | refine st_by trivial ?_); done)); (· (first | exact cl_by trivial | refine st_by trivial ?_)))
    | exact trivial
    | (refine And.intro ?_ ?_; · (try clear ff; first | omega | exact hv0))
    | (refine retX_q1 rfl ?_; (try refine sr_by ff ?_); all_goals (try clear ff); all_goals (try exact trivial); all_goals ((refine regsOk_of ?_; (first | exact cl_by (And.intro @regsAt_cons @regsAt_nil) | refine st_by (And.intro @regsAt_cons @regsAt_nil) ?_))))
    | (with_reducible refine cq_Xs [(1000, [])] (markEntityS_does x.Entities (k) (by omega) (by omega) hl0 hx0) ?_ ?_ ?_ ⟨?_, ?_⟩; (· first | rfl | exact cl_by ff); (· first | assumption | kernel_rfl); (· first | decide | simp); (· first | exact ca_by ff | (refine sa_by ff ?_; try clear ff; first | exact trivial | omega | exact hv0)); refine st_by ff ?_)
    | (with_reducible refine CBC_eq (fun hp hd => ?_) (fun hp hd => ?_) <;> refine st_by (And.intro hd ff) ?_)
    | (with_reducible refine CBC_ne (fun hp hd => ?_) (fun hp hd => ?_) <;> refine st_by (And.intro hd ff) ?_)
    | (with_reducible refine CBC_decT ?_ (fun hd => ?_); (· try clear ff; first | assumption | omega); refine st_by (And.intro hd ff) ?_)
    | (with_reducible refine CBC_decF ?_ (fun hd => ?_); (· try clear ff; first | assumption | omega); refine st_by (And.intro hd ff) ?_)
    | (with_reducible refine CBC_dec (fun hp hd => ?_) (fun hp hd => ?_) <;> refine st_by (And.intro hd ff) ?_)
    | (refine CBC_bool (fun hd => ?_) (fun hd => ?_) <;> refine st_by (And.intro hd ff) ?_)
    | (with_reducible refine GQ_eq (fun hp hd => ?_) (fun hp hd => ?_) <;> refine st_by (And.intro hd ff) ?_)
    | (with_reducible refine GQ_ne (fun hp hd => ?_) (fun hp hd => ?_) <;> refine st_by (And.intro hd ff) ?_)
    | (with_reducible refine GQ_decT ?_ (fun hd => ?_); (· try clear ff; first | assumption | omega); refine st_by (And.intro hd ff) ?_)
    | (with_reducible refine GQ_decF ?_ (fun hd => ?_); (· try clear ff; first | assumption | omega); refine st_by (And.intro hd ff) ?_)
    | (with_reducible refine GQ_dec (fun hp hd => ?_) (fun hp hd => ?_) <;> refine st_by (And.intro hd ff) ?_)
    | (with_reducible refine GQ_ndT ?_ (fun hd => ?_); (· try clear ff; first | assumption | omega); refine st_by (And.intro hd ff) ?_)
    | (with_reducible refine GQ_ndF ?_ (fun hd => ?_); (· try clear ff; first | assumption | omega); refine st_by (And.intro hd ff) ?_)
    | (with_reducible refine GQ_nd (fun hp hd => ?_) (fun hp hd => ?_) <;> refine st_by (And.intro hd ff) ?_)
    | (refine GQ_nb (fun hd => ?_) (fun hd => ?_) <;> refine st_by (And.intro hd ff) ?_)
    | (refine GQ_bool (fun hd => ?_) (fun hd => ?_) <;> refine st_by (And.intro hd ff) ?_))
  all_goals try clear ff
theorem heldWorld_does (x : GWorld) (k : Int) (h0 : 0 ≤ k) (hk : k + ((cntL cEntity) x.Entities : Int) ≤ 4611686018427387904) (hl0 : x.Entities.length ≤ 9223372036854775807) (hx0 : (∀ y ∈ x.Entities, wfEntity 9223372036854775807 y)) (hm0 : (markL mEntity cEntity) x.Entities (k) = x.Entities) :
    Does Try.prog 11 [.agg (eWorld x), I k] (I (k + ((cntL cEntity) x.Entities : Int))) := by
  refine Does.walk (nt := 12) Try.func11 rfl rfl (by simp) (by decide) rfl (fun G0 X w0 pv => ?_)
  have ff := And.intro @eWorld_eq (And.intro @Ty.nz26 (And.intro @Ty.ldA26 (And.intro @Ty.ldS26 (And.intro @Ty.sz26 (And.intro @Ty.szn26 (And.intro @Ty.fo28_2 (And.intro @Ty.fk28_2 (And.intro @Ty.fs28_2 @Ty.fn28_2))))))))
  try refine st_by ff ?_
  repeat' (first
    | exact trivial
    | (refine And.intro ?_ ?_; · (try clear ff; first | omega))
    | (refine ret_q1 rfl ?_; (try refine sr_by ff ?_); all_goals (try clear ff); all_goals (try exact trivial); all_goals (rfl))
    | (with_reducible refine cq_call (heldEntityS_does x.Entities (k) (by omega) (by omega) hl0 hx0 hm0) ?_ ?_ ⟨?_, ?_⟩; (· first | rfl | exact cl_by ff); (· first | assumption | kernel_rfl); (· first | exact ca_by ff | (refine sa_by ff ?_; try clear ff; first | exact trivial | omega)); refine st_by ff ?_)
    | (with_reducible refine CBC_eq (fun hp hd => ?_) (fun hp hd => ?_) <;> refine st_by (And.intro hd ff) ?_)
    | (with_reducible refine CBC_ne (fun hp hd => ?_) (fun hp hd => ?_) <;> refine st_by (And.intro hd ff) ?_)
    | (with_reducible refine CBC_decT ?_ (fun hd => ?_); (· try clear ff; first | assumption | omega); refine st_by (And.intro hd ff) ?_)
    | (with_reducible refine CBC_decF ?_ (fun hd => ?_); (· try clear ff; first | assumption | omega); refine st_by (And.intro hd ff) ?_)
    | (with_reducible refine CBC_dec (fun hp hd => ?_) (fun hp hd => ?_) <;> refine st_by (And.intro hd ff) ?_)
    | (refine CBC_bool (fun hd => ?_) (fun hd => ?_) <;> refine st_by (And.intro hd ff) ?_)
    | (with_reducible refine GQ_eq (fun hp hd => ?_) (fun hp hd => ?_) <;> refine st_by (And.intro hd ff) ?_)
    | (with_reducible refine GQ_ne (fun hp hd => ?_) (fun hp hd => ?_) <;> refine st_by (And.intro hd ff) ?_)
    | (with_reducible refine GQ_decT ?_ (fun hd => ?_); (· try clear ff; first | assumption | omega); refine st_by (And.intro hd ff) ?_)
    | (with_reducible refine GQ_decF ?_ (fun hd => ?_); (· try clear ff; first | assumption | omega); refine st_by (And.intro hd ff) ?_)
    | (with_reducible refine GQ_dec (fun hp hd => ?_) (fun hp hd => ?_) <;> refine st_by (And.intro hd ff) ?_)
    | (with_reducible refine GQ_ndT ?_ (fun hd => ?_); (· try clear ff; first | assumption | omega); refine st_by (And.intro hd ff) ?_)
    | (with_reducible refine GQ_ndF ?_ (fun hd => ?_); (· try clear ff; first | assumption | omega); refine st_by (And.intro hd ff) ?_)
    | (with_reducible refine GQ_nd (fun hp hd => ?_) (fun hp hd => ?_) <;> refine st_by (And.intro hd ff) ?_)
    | (refine GQ_nb (fun hd => ?_) (fun hd => ?_) <;> refine st_by (And.intro hd ff) ?_)
    | (refine GQ_bool (fun hd => ?_) (fun hd => ?_) <;> refine st_by (And.intro hd ff) ?_))
  all_goals try clear ff
end Go.Av
