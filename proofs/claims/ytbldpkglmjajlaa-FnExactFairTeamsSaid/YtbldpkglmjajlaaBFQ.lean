/- FairTeams: masks. -/
import Derived.Test.YtbldpkglmjajlaaBFT2
import Derived.Test.YtbldpkglmjajlaaBNP
set_option linter.unusedSimpArgs false
set_option linter.unusedVariables false
set_option maxRecDepth 100000
namespace Go.Av
/-! FairTeams: masks. -/
def bitAt (m k : Nat) : Bool := decide (m / 2 ^ k % 2 = 1)
theorem bit_eq {m k : Nat} (hm : m < 4096) (hk : k < 64) : IntKind.i64.wrap (((BitVec.ofInt (IntKind.i64.bits) (Int.fdiv (m : Int) (2 ^ (min k IntKind.i64.bits)))) &&& (BitVec.ofInt (IntKind.i64.bits) 1)).toNat : Int) = ((m / 2 ^ k % 2 : Nat) : Int) := by
  have hb : IntKind.i64.bits = 64 := rfl
  rw [hb, Nat.min_eq_left (by omega)]
  have e1 : Int.fdiv (m : Int) (2 ^ k) = ((m / 2 ^ k : Nat) : Int) := by
    rw [Int.fdiv_eq_ediv_of_nonneg _ (Int.pow_nonneg (by decide))]
    norm_cast
  have hlt : m / 2 ^ k < 4096 := Nat.lt_of_le_of_lt (Nat.div_le_self _ _) hm
  rw [e1]
  generalize m / 2 ^ k = q at hlt
  have e2 : ((BitVec.ofInt 64 (q : Int)) &&& (BitVec.ofInt 64 1)).toNat = q % 2 := by
    rw [BitVec.toNat_and, BitVec.toNat_ofInt, BitVec.toNat_ofInt]
    have a1 : ((q : Int) % ((2 ^ 64 : Nat) : Int)).toNat = q := by
      rw [Int.emod_eq_of_lt (by omega) (by omega)]; omega
    have a2 : ((1 : Int) % ((2 ^ 64 : Nat) : Int)).toNat = 1 := by decide
    rw [a1, a2, Nat.and_one_is_mod]
  rw [e2, wI _ (by omega) (by omega)]
/-- How many ones. -/
def pc (m : Nat) : Nat := (List.range 12).foldl (fun a k => a + m / 2 ^ k % 2) 0
theorem ones_all : ((List.range 4096).all fun m => p_math_bits_OnesCount (m : Int) == some ((pc m : Nat) : Int)) = true := by kernel_rfl
theorem ones_eq {m : Nat} (h : m < 4096) : p_math_bits_OnesCount (IntKind.u64.wrap (m : Int)) = some ((pc m : Nat) : Int) := by
  have e : IntKind.u64.wrap (m : Int) = m := IntWalk.u64_in _ ⟨by omega, by omega⟩
  rw [e]
  exact eq_of_beq (List.all_eq_true.1 ones_all m (List.mem_range.2 h))
/-- The bits of a mask of 'n' bits, the highest first; how many of them are one. -/
def bt (n m i : Nat) : Bool := bitAt m (n - 1 - i)
def cnB (f : Nat → Bool) : Nat → Nat → Nat
  | 0, _ => 0
  | k + 1, i => (if f i then 1 else 0) + cnB f k (i + 1)
theorem cnt_all : ((List.range 13).all fun n => (List.range (2 ^ n)).all fun m => cnB (bt n m) n 0 == pc m) = true := by kernel_rfl
theorem cnt_eq {n m : Nat} (hn : n ≤ 12) (hm : m < 2 ^ n) : cnB (bt n m) n 0 = pc m :=
  eq_of_beq (List.all_eq_true.1 (List.all_eq_true.1 cnt_all n (List.mem_range.2 (by omega))) m (List.mem_range.2 hm))
theorem comp_all : ((List.range 13).all fun n => (List.range (2 ^ n)).all fun m => (List.range n).all fun i => bt n (2 ^ n - 1 - m) i == !(bt n m i)) = true := by kernel_rfl
theorem comp_eq {n m i : Nat} (hn : n ≤ 12) (hm : m < 2 ^ n) (hi : i < n) : bt n (2 ^ n - 1 - m) i = !(bt n m i) :=
  eq_of_beq (List.all_eq_true.1 (List.all_eq_true.1 (List.all_eq_true.1 comp_all n (List.mem_range.2 (by omega))) m (List.mem_range.2 hm)) i (List.mem_range.2 hi))
/-- There is a mask of half ones, its highest bit among them. -/
theorem half_all : ((List.range 7).all fun h => h == 0 || (decide (2 ^ (2 * h - 1) ≤ 2 ^ (2 * h) - 2 ^ h) && pc (2 ^ (2 * h) - 2 ^ h) == h)) = true := by kernel_rfl
theorem half_eq {n : Nat} (hn : n ≤ 12) (h2 : 2 ≤ n) (he : n % 2 = 0) : ∃ m, 2 ^ (n - 1) ≤ m ∧ m < 2 ^ n ∧ pc m = n / 2 := by
  have := List.all_eq_true.1 half_all (n / 2) (List.mem_range.2 (by omega))
  rw [show 2 * (n / 2) = n by omega] at this
  simp only [Bool.or_eq_true, Bool.and_eq_true, beq_iff_eq, decide_eq_true_eq] at this
  rcases this with h | ⟨h, h'⟩
  · omega
  · refine ⟨_, h, ?_, h'⟩
    have : 0 < 2 ^ (n / 2) := Nat.pow_pos (by decide)
    have : 0 < 2 ^ n := Nat.pow_pos (by decide)
    omega
end Go.Av
