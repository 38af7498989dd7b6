/- Plain laws on numbers: words of 64 bits and their bits. No program in sight. -/
import Derived.Laws.BitsLemmas
import Derived.Lib.Hide
namespace Go.Proofs.Ytnidkgnillipgaa.B
set_option linter.unusedVariables false
set_option linter.unusedSimpArgs false

theorem pow_pos' (k : Nat) : (0 : Int) < 2 ^ k := Int.pow_pos (by decide)
theorem pow_lt64 (k : Nat) (h : k ≤ 64) : (2 : Int) ^ k ≤ 18446744073709551616 := by
  have : (2 : Nat) ^ k ≤ 2 ^ 64 := Nat.pow_le_pow_right (by decide) h
  have h2 : ((2 ^ k : Nat) : Int) ≤ ((2 ^ 64 : Nat) : Int) := by exact_mod_cast this
  simpa using h2
theorem pow_le64 (j : Nat) (h : j ≤ 63) : (2 : Int) ^ j ≤ 9223372036854775808 := by
  have : (2 : Nat) ^ j ≤ 2 ^ 63 := Nat.pow_le_pow_right (by decide) h
  have h2 : ((2 ^ j : Nat) : Int) ≤ ((2 ^ 63 : Nat) : Int) := by exact_mod_cast this
  simpa using h2
theorem u64_wrap (x : Int) (h0 : 0 ≤ x) (h1 : x < 18446744073709551616) : IntKind.u64.wrap x = x := by
  simp [IntKind.wrap, IntKind.bits, IntKind.signed]
  omega
theorem n64 : (2 : Nat) ^ 64 = 18446744073709551616 := by decide
/-- A word's bits that another one hasn't. -/
def andNot (a b : Nat) : Nat := (BitVec.ofNat 64 a &&& ~~~(BitVec.ofNat 64 b)).toNat
theorem andNot_testBit (a b i : Nat) (ha : a < 2 ^ 64) : (andNot a b).testBit i = (a.testBit i && !b.testBit i) := by
  unfold andNot
  rw [BitVec.toNat_and, Nat.testBit_and, BitVec.toNat_ofNat, Nat.mod_eq_of_lt ha]
  by_cases hi : i < 64
  · congr 1
    rw [BitVec.testBit_toNat, BitVec.getLsbD_not, BitVec.getLsbD_ofNat]
    simp [hi]
  · have : a.testBit i = false := Nat.testBit_lt_two_pow (Nat.lt_of_lt_of_le ha (Nat.pow_le_pow_right (by decide) (by omega)))
    simp [this]
theorem andNot_le (a b : Nat) : andNot a b < 2 ^ 64 := (BitVec.ofNat 64 a &&& ~~~(BitVec.ofNat 64 b)).isLt
theorem bits_and (a b : Nat) (ha : a < 2 ^ 64) (hb : b < 2 ^ 64) : bits .and .u64 a b = ((a &&& b : Nat) : Int) :=
  (bits_nat .u64 64 (by decide) (fun n h0 h1 => u64_wrap n h0 (by simpa using h1)) a b ha hb).1
theorem bits_or (a b : Nat) (ha : a < 2 ^ 64) (hb : b < 2 ^ 64) : bits .or .u64 a b = ((a ||| b : Nat) : Int) :=
  (bits_nat .u64 64 (by decide) (fun n h0 h1 => u64_wrap n h0 (by simpa using h1)) a b ha hb).2
theorem bits_andNot (a b : Nat) : bits .andNot .u64 a b = ((andNot a b : Nat) : Int) := by
  have h := andNot_le a b
  have h2 : ((andNot a b : Nat) : Int) < 18446744073709551616 := by rw [n64] at h; omega
  simp only [bits, IntKind.bits, BitVec.ofInt_natCast]
  exact u64_wrap _ (Int.natCast_nonneg _) h2

def ones (n : Int) : Int := 2 ^ (min n.toNat 64) - 1
theorem ones_low (n : Int) (h : n < 1) : ones n = 0 := by unfold ones; rw [show min n.toNat 64 = 0 by omega]; rfl
theorem ones_high (n : Int) (h : 64 ≤ n) : ones n = 18446744073709551615 := by unfold ones; rw [show min n.toNat 64 = 64 by omega]; rfl
theorem ones_range (n : Int) : 0 ≤ ones n ∧ ones n < 18446744073709551616 := by
  unfold ones
  have a := pow_pos' (min n.toNat 64)
  have b := pow_lt64 (min n.toNat 64) (by omega)
  omega
theorem ones_mid (n : Int) (h1 : 1 ≤ n) (h2 : n < 64) : IntKind.u64.wrap (IntKind.u64.wrap (2 ^ n.toNat) - 1) = ones n := by
  have a := pow_pos' n.toNat
  have b := pow_le64 n.toNat (by omega)
  rw [u64_wrap (2 ^ n.toNat) (by omega) (by omega), u64_wrap _ (by omega) (by omega)]
  unfold ones
  rw [show min n.toNat 64 = n.toNat by omega]
theorem ones_nat (n : Int) : ones n = ((2 ^ (min n.toNat 64) - 1 : Nat) : Int) := by
  unfold ones
  have := Nat.two_pow_pos (min n.toNat 64)
  rw [Int.natCast_sub this]
  simp
theorem and_ones (x n : Int) (h0 : 0 ≤ x) (h1 : x < 18446744073709551616) : bits .and .u64 x (ones n) = x % 2 ^ min n.toNat 64 := by
  obtain ⟨a, rfl⟩ := Int.eq_ofNat_of_zero_le h0
  have ha : a < 2 ^ 64 := by rw [n64]; omega
  have hp : 2 ^ min n.toNat 64 - 1 < 2 ^ 64 := by
    have := Nat.pow_le_pow_right (n := 2) (by decide) (show min n.toNat 64 ≤ 64 by omega)
    have := Nat.two_pow_pos (min n.toNat 64)
    omega
  rw [ones_nat, bits_and _ _ ha hp, Nat.and_two_pow_sub_one_eq_mod]
  simp
theorem andNot_ones (x n : Int) (h0 : 0 ≤ x) (h1 : x < 18446744073709551616) : bits .andNot .u64 x (ones n) = x - x % 2 ^ min n.toNat 64 := by
  obtain ⟨a, rfl⟩ := Int.eq_ofNat_of_zero_le h0
  have ha : a < 2 ^ 64 := by rw [n64]; omega
  rw [ones_nat, bits_andNot]
  generalize min n.toNat 64 = k
  have e : andNot a (2 ^ k - 1) = 2 ^ k * (a / 2 ^ k) := by
    apply Nat.eq_of_testBit_eq
    intro i
    rw [andNot_testBit _ _ _ ha, Nat.testBit_two_pow_sub_one, Nat.testBit_two_pow_mul, Nat.testBit_div_two_pow]
    by_cases h : i < k
    · have : ¬ i ≥ k := by omega
      simp [h, this]
    · have h' : i ≥ k := by omega
      have : i - k + k = i := by omega
      simp [h, h', this]
  rw [e]
  have := Nat.div_add_mod a (2 ^ k)
  have h2 : ((a : Int) % 2 ^ k) = ((a % 2 ^ k : Nat) : Int) := by simp
  rw [h2]
  omega
/-- A field whose bits are the word's. -/
def maskN (low wide : Nat) : Nat := 2 ^ low * (2 ^ wide - 1)
theorem maskN_testBit (low wide i : Nat) : (maskN low wide).testBit i = (decide (low ≤ i) && decide (i < low + wide)) := by
  unfold maskN
  rw [Nat.testBit_two_pow_mul, Nat.testBit_two_pow_sub_one]
  by_cases h : low ≤ i
  · have : (i - low < wide) ↔ (i < low + wide) := by omega
    simp [h, this]
  · simp [h]
theorem maskN_lt (low wide : Nat) (h : low + wide ≤ 64) : maskN low wide < 2 ^ 64 := by
  unfold maskN
  have a : 2 ^ low * (2 ^ wide - 1) < 2 ^ low * 2 ^ wide := Nat.mul_lt_mul_of_pos_left (by have := Nat.two_pow_pos wide; omega) (Nat.two_pow_pos low)
  rw [← Nat.pow_add] at a
  exact Nat.lt_of_lt_of_le a (Nat.pow_le_pow_right (by decide) h)
theorem mask_ones (low wide : Nat) (h : low + wide ≤ 64) : ones wide * 2 ^ low = ((maskN low wide : Nat) : Int) := by
  rw [ones_nat]
  unfold maskN
  rw [show min (wide : Int).toNat 64 = wide by omega, Int.natCast_mul, Int.mul_comm]
  simp
theorem mask_wrap (low wide : Nat) (h : low + wide ≤ 64) : IntKind.u64.wrap (ones wide * 2 ^ low) = ((maskN low wide : Nat) : Int) := by
  rw [mask_ones low wide h]
  refine u64_wrap _ (Int.natCast_nonneg _) ?_
  have := maskN_lt low wide h
  rw [n64] at this
  omega
/-- A number in a field of a word. -/
def mixN (x v low wide : Nat) : Nat := 2 ^ low * (2 ^ wide * (x / 2 ^ (low + wide)) + v) + x % 2 ^ low
theorem mixN_testBit (x v low wide i : Nat) (hv : v < 2 ^ wide) : (mixN x v low wide).testBit i = if low ≤ i ∧ i < low + wide then v.testBit (i - low) else x.testBit i := by
  unfold mixN
  rw [Nat.testBit_two_pow_mul_add _ (Nat.mod_lt _ (Nat.two_pow_pos low))]
  by_cases h : i < low
  · rw [if_pos h, if_neg (by omega), Nat.testBit_mod_two_pow]
    simp [h]
  · rw [if_neg h, Nat.testBit_two_pow_mul_add _ hv]
    by_cases h2 : i - low < wide
    · rw [if_pos h2, if_pos (by omega)]
    · rw [if_neg h2, if_neg (by omega), Nat.testBit_div_two_pow]
      congr 1; omega
theorem mix_int (x v low wide : Nat) : ((x : Int) % 2 ^ low + 2 ^ low * (v : Int) + 2 ^ (low + wide) * ((x : Int) / 2 ^ (low + wide))) = ((mixN x v low wide : Nat) : Int) := by
  unfold mixN
  have e : (2 : Int) ^ (low + wide) * ((x : Int) / 2 ^ (low + wide)) = 2 ^ low * (2 ^ wide * ((x : Int) / 2 ^ (low + wide))) := by rw [Int.pow_add, Int.mul_assoc]
  rw [e]
  simp only [Int.natCast_add, Int.natCast_mul, Int.natCast_pow, Int.natCast_emod, Int.natCast_ediv, Int.mul_add]
  simp only [show ((2 : Nat) : Int) = 2 from rfl]
  omega
theorem mixN_lt (x v low wide : Nat) (hx : x < 2 ^ 64) (hv : v < 2 ^ wide) (h : low + wide ≤ 64) : mixN x v low wide < 2 ^ 64 := by
  apply Nat.lt_pow_two_of_testBit
  intro i hi
  rw [mixN_testBit _ _ _ _ _ hv, if_neg (by omega)]
  exact Nat.testBit_lt_two_pow (Nat.lt_of_lt_of_le hx (Nat.pow_le_pow_right (by decide) hi))
theorem shl_lt (v low wide : Nat) (hv : v < 2 ^ wide) (h : low + wide ≤ 64) : v * 2 ^ low < 2 ^ 64 := by
  have a : v * 2 ^ low < 2 ^ wide * 2 ^ low := Nat.mul_lt_mul_of_pos_right hv (Nat.two_pow_pos low)
  rw [← Nat.pow_add] at a
  exact Nat.lt_of_lt_of_le a (Nat.pow_le_pow_right (by decide) (by omega))
theorem shl_wrap (v low wide : Nat) (hv : v < 2 ^ wide) (h : low + wide ≤ 64) : IntKind.u64.wrap ((v : Int) * 2 ^ low) = ((v * 2 ^ low : Nat) : Int) := by
  have a := shl_lt v low wide hv h
  rw [n64] at a
  rw [show ((v : Int) * 2 ^ low) = ((v * 2 ^ low : Nat) : Int) by simp]
  exact u64_wrap _ (Int.natCast_nonneg _) (by omega)
theorem put_or (x v low wide : Nat) (hx : x < 2 ^ 64) (hv : v < 2 ^ wide) (h : low + wide ≤ 64) : andNot x (maskN low wide) ||| v * 2 ^ low = mixN x v low wide := by
  apply Nat.eq_of_testBit_eq
  intro i
  rw [Nat.testBit_or, andNot_testBit _ _ _ hx, maskN_testBit, mixN_testBit _ _ _ _ _ hv, Nat.mul_comm v, Nat.testBit_two_pow_mul]
  by_cases h1 : low ≤ i
  · by_cases h2 : i < low + wide
    · have : low ≤ i ∧ i < low + wide := ⟨h1, h2⟩
      simp [h1, h2]
    · have hz : v.testBit (i - low) = false := Nat.testBit_lt_two_pow (Nat.lt_of_lt_of_le hv (Nat.pow_le_pow_right (by decide) (by omega)))
      simp [h1, h2, hz]
  · simp [h1]
theorem mix_andNot (x v low wide : Nat) (hx : x < 2 ^ 64) (hv : v < 2 ^ wide) (h : low + wide ≤ 64) : andNot (mixN x v low wide) (maskN low wide) = andNot x (maskN low wide) := by
  apply Nat.eq_of_testBit_eq
  intro i
  rw [andNot_testBit _ _ _ hx, andNot_testBit _ _ _ (mixN_lt x v low wide hx hv h), maskN_testBit, mixN_testBit _ _ _ _ _ hv]
  by_cases h1 : low ≤ i <;> by_cases h2 : i < low + wide <;> simp [h1, h2]
theorem mix_get (x v low wide : Nat) (hv : v < 2 ^ wide) : mixN x v low wide / 2 ^ low % 2 ^ wide = v := by
  unfold mixN
  rw [Nat.mul_add_div (Nat.two_pow_pos low), Nat.div_eq_of_lt (Nat.mod_lt _ (Nat.two_pow_pos low)), Nat.add_zero, Nat.mul_add_mod, Nat.mod_eq_of_lt hv]
/-- Where two fields have no bit in common. -/
theorem mask_meets (l1 w1 l2 w2 : Nat) : (maskN l1 w1 &&& maskN l2 w2 = 0) ↔ ∀ i, ¬ ((l1 ≤ i ∧ i < l1 + w1) ∧ (l2 ≤ i ∧ i < l2 + w2)) := by
  constructor
  · intro h i hi
    have := congrArg (fun n : Nat => n.testBit i) h
    simp [Nat.testBit_and, maskN_testBit, hi.1.1, hi.1.2, hi.2.1, hi.2.2] at this
  · intro h
    apply Nat.eq_of_testBit_eq
    intro i
    rw [Nat.testBit_and, maskN_testBit, maskN_testBit, Nat.zero_testBit]
    have := h i
    by_cases a : l1 ≤ i <;> by_cases b : i < l1 + w1 <;> by_cases c : l2 ≤ i <;> by_cases d : i < l2 + w2 <;> simp_all
theorem andNot_zero (a : Nat) (ha : a < 2 ^ 64) : andNot a 0 = a := by
  apply Nat.eq_of_testBit_eq
  intro i
  rw [andNot_testBit _ _ _ ha]
  simp
end Go.Proofs.Ytnidkgnillipgaa.B
