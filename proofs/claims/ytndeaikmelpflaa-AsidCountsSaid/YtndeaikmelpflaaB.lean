/- Plain laws on numbers: words of 64 bits and their bits. No program in sight. -/
import Derived.Laws.BitsLemmas
import Derived.Lib.Hide
import Derived.Below
namespace Go.Proofs.Ytndeaikmelpflaa.B
set_option linter.unusedVariables false
set_option linter.unusedSimpArgs false

theorem pow_pos' (k : Nat) : (0 : Int) < 2 ^ k := Int.pow_pos (by decide)
theorem pow_lt64 (k : Nat) (h : k ≤ 64) : (2 : Int) ^ k ≤ 18446744073709551616 := by
  have : (2 : Nat) ^ k ≤ 2 ^ 64 := Nat.pow_le_pow_right (by decide) h
  have h2 : ((2 ^ k : Nat) : Int) ≤ ((2 ^ 64 : Nat) : Int) := by exact_mod_cast this
  simpa using h2
theorem pow_le64 (j : Nat) (h : j ≤ 63) : (2 : Int) ^ j ≤ 9223372036854775808 := by
  have : (2 : Nat) ^ j ≤ 2 ^ 63 := Nat.pow_le_pow_right (by decide) h
  have h2 : ((2 ^ j : Nat) : Int) ≤ ((2 ^ 63 : Nat) : Int) := by exact_mod_cast this
  simpa using h2
theorem u64_wrap (x : Int) (h0 : 0 ≤ x) (h1 : x < 18446744073709551616) : IntKind.u64.wrap x = x := by
  simp [IntKind.wrap, IntKind.bits, IntKind.signed]
  omega
theorem n64 : (2 : Nat) ^ 64 = 18446744073709551616 := by decide
/-- A word's bits that another one hasn't. -/
def andNot (a b : Nat) : Nat := (BitVec.ofNat 64 a &&& ~~~(BitVec.ofNat 64 b)).toNat
theorem andNot_testBit (a b i : Nat) (ha : a < 2 ^ 64) : (andNot a b).testBit i = (a.testBit i && !b.testBit i) := by
  unfold andNot
  rw [BitVec.toNat_and, Nat.testBit_and, BitVec.toNat_ofNat, Nat.mod_eq_of_lt ha]
  by_cases hi : i < 64
  · congr 1
    rw [BitVec.testBit_toNat, BitVec.getLsbD_not, BitVec.getLsbD_ofNat]
    simp [hi]
  · have : a.testBit i = false := Nat.testBit_lt_two_pow (Nat.lt_of_lt_of_le ha (Nat.pow_le_pow_right (by decide) (by omega)))
    simp [this]
theorem andNot_le (a b : Nat) : andNot a b < 2 ^ 64 := (BitVec.ofNat 64 a &&& ~~~(BitVec.ofNat 64 b)).isLt
theorem bits_and (a b : Nat) (ha : a < 2 ^ 64) (hb : b < 2 ^ 64) : bits .and .u64 a b = ((a &&& b : Nat) : Int) :=
  (bits_nat .u64 64 (by decide) (fun n h0 h1 => u64_wrap n h0 (by simpa using h1)) a b ha hb).1
theorem bits_or (a b : Nat) (ha : a < 2 ^ 64) (hb : b < 2 ^ 64) : bits .or .u64 a b = ((a ||| b : Nat) : Int) :=
  (bits_nat .u64 64 (by decide) (fun n h0 h1 => u64_wrap n h0 (by simpa using h1)) a b ha hb).2
theorem bits_andNot (a b : Nat) : bits .andNot .u64 a b = ((andNot a b : Nat) : Int) := by
  have h := andNot_le a b
  have h2 : ((andNot a b : Nat) : Int) < 18446744073709551616 := by rw [n64] at h; omega
  simp only [bits, IntKind.bits, BitVec.ofInt_natCast]
  exact u64_wrap _ (Int.natCast_nonneg _) h2

def ones (n : Int) : Int := 2 ^ (min n.toNat 64) - 1
theorem ones_low (n : Int) (h : n < 1) : ones n = 0 := by unfold ones; rw [show min n.toNat 64 = 0 by omega]; rfl
theorem ones_high (n : Int) (h : 64 ≤ n) : ones n = 18446744073709551615 := by unfold ones; rw [show min n.toNat 64 = 64 by omega]; rfl
theorem ones_range (n : Int) : 0 ≤ ones n ∧ ones n < 18446744073709551616 := by
  unfold ones
  have a := pow_pos' (min n.toNat 64)
  have b := pow_lt64 (min n.toNat 64) (by omega)
  omega
theorem ones_mid (n : Int) (h1 : 1 ≤ n) (h2 : n < 64) : IntKind.u64.wrap (IntKind.u64.wrap (2 ^ n.toNat) - 1) = ones n := by
  have a := pow_pos' n.toNat
  have b := pow_le64 n.toNat (by omega)
  rw [u64_wrap (2 ^ n.toNat) (by omega) (by omega), u64_wrap _ (by omega) (by omega)]
  unfold ones
  rw [show min n.toNat 64 = n.toNat by omega]
theorem ones_nat (n : Int) : ones n = ((2 ^ (min n.toNat 64) - 1 : Nat) : Int) := by
  unfold ones
  have := Nat.two_pow_pos (min n.toNat 64)
  rw [Int.natCast_sub this]
  simp
theorem and_ones (x n : Int) (h0 : 0 ≤ x) (h1 : x < 18446744073709551616) : bits .and .u64 x (ones n) = x % 2 ^ min n.toNat 64 := by
  obtain ⟨a, rfl⟩ := Int.eq_ofNat_of_zero_le h0
  have ha : a < 2 ^ 64 := by rw [n64]; omega
  have hp : 2 ^ min n.toNat 64 - 1 < 2 ^ 64 := by
    have := Nat.pow_le_pow_right (n := 2) (by decide) (show min n.toNat 64 ≤ 64 by omega)
    have := Nat.two_pow_pos (min n.toNat 64)
    omega
  rw [ones_nat, bits_and _ _ ha hp, Nat.and_two_pow_sub_one_eq_mod]
  simp
theorem andNot_ones (x n : Int) (h0 : 0 ≤ x) (h1 : x < 18446744073709551616) : bits .andNot .u64 x (ones n) = x - x % 2 ^ min n.toNat 64 := by
  obtain ⟨a, rfl⟩ := Int.eq_ofNat_of_zero_le h0
  have ha : a < 2 ^ 64 := by rw [n64]; omega
  rw [ones_nat, bits_andNot]
  generalize min n.toNat 64 = k
  have e : andNot a (2 ^ k - 1) = 2 ^ k * (a / 2 ^ k) := by
    apply Nat.eq_of_testBit_eq
    intro i
    rw [andNot_testBit _ _ _ ha, Nat.testBit_two_pow_sub_one, Nat.testBit_two_pow_mul, Nat.testBit_div_two_pow]
    by_cases h : i < k
    · have : ¬ i ≥ k := by omega
      simp [h, this]
    · have h' : i ≥ k := by omega
      have : i - k + k = i := by omega
      simp [h, h', this]
  rw [e]
  have := Nat.div_add_mod a (2 ^ k)
  have h2 : ((a : Int) % 2 ^ k) = ((a % 2 ^ k : Nat) : Int) := by simp
  rw [h2]
  omega
/-- A field whose bits are the word's. -/
def maskN (low wide : Nat) : Nat := 2 ^ low * (2 ^ wide - 1)
theorem maskN_testBit (low wide i : Nat) : (maskN low wide).testBit i = (decide (low ≤ i) && decide (i < low + wide)) := by
  unfold maskN
  rw [Nat.testBit_two_pow_mul, Nat.testBit_two_pow_sub_one]
  by_cases h : low ≤ i
  · have : (i - low < wide) ↔ (i < low + wide) := by omega
    simp [h, this]
  · simp [h]
theorem maskN_lt (low wide : Nat) (h : low + wide ≤ 64) : maskN low wide < 2 ^ 64 := by
  unfold maskN
  have a : 2 ^ low * (2 ^ wide - 1) < 2 ^ low * 2 ^ wide := Nat.mul_lt_mul_of_pos_left (by have := Nat.two_pow_pos wide; omega) (Nat.two_pow_pos low)
  rw [← Nat.pow_add] at a
  exact Nat.lt_of_lt_of_le a (Nat.pow_le_pow_right (by decide) h)
theorem mask_ones (low wide : Nat) (h : low + wide ≤ 64) : ones wide * 2 ^ low = ((maskN low wide : Nat) : Int) := by
  rw [ones_nat]
  unfold maskN
  rw [show min (wide : Int).toNat 64 = wide by omega, Int.natCast_mul, Int.mul_comm]
  simp
theorem mask_wrap (low wide : Nat) (h : low + wide ≤ 64) : IntKind.u64.wrap (ones wide * 2 ^ low) = ((maskN low wide : Nat) : Int) := by
  rw [mask_ones low wide h]
  refine u64_wrap _ (Int.natCast_nonneg _) ?_
  have := maskN_lt low wide h
  rw [n64] at this
  omega
/-- A number in a field of a word. -/
def mixN (x v low wide : Nat) : Nat := 2 ^ low * (2 ^ wide * (x / 2 ^ (low + wide)) + v) + x % 2 ^ low
theorem mixN_testBit (x v low wide i : Nat) (hv : v < 2 ^ wide) : (mixN x v low wide).testBit i = if low ≤ i ∧ i < low + wide then v.testBit (i - low) else x.testBit i := by
  unfold mixN
  rw [Nat.testBit_two_pow_mul_add _ (Nat.mod_lt _ (Nat.two_pow_pos low))]
  by_cases h : i < low
  · rw [if_pos h, if_neg (by omega), Nat.testBit_mod_two_pow]
    simp [h]
  · rw [if_neg h, Nat.testBit_two_pow_mul_add _ hv]
    by_cases h2 : i - low < wide
    · rw [if_pos h2, if_pos (by omega)]
    · rw [if_neg h2, if_neg (by omega), Nat.testBit_div_two_pow]
      congr 1; omega
theorem mix_int (x v low wide : Nat) : ((x : Int) % 2 ^ low + 2 ^ low * (v : Int) + 2 ^ (low + wide) * ((x : Int) / 2 ^ (low + wide))) = ((mixN x v low wide : Nat) : Int) := by
  unfold mixN
  have e : (2 : Int) ^ (low + wide) * ((x : Int) / 2 ^ (low + wide)) = 2 ^ low * (2 ^ wide * ((x : Int) / 2 ^ (low + wide))) := by rw [Int.pow_add, Int.mul_assoc]
  rw [e]
  simp only [Int.natCast_add, Int.natCast_mul, Int.natCast_pow, Int.natCast_emod, Int.natCast_ediv, Int.mul_add]
  simp only [show ((2 : Nat) : Int) = 2 from rfl]
  omega
theorem mixN_lt (x v low wide : Nat) (hx : x < 2 ^ 64) (hv : v < 2 ^ wide) (h : low + wide ≤ 64) : mixN x v low wide < 2 ^ 64 := by
  apply Nat.lt_pow_two_of_testBit
  intro i hi
  rw [mixN_testBit _ _ _ _ _ hv, if_neg (by omega)]
  exact Nat.testBit_lt_two_pow (Nat.lt_of_lt_of_le hx (Nat.pow_le_pow_right (by decide) hi))
theorem shl_lt (v low wide : Nat) (hv : v < 2 ^ wide) (h : low + wide ≤ 64) : v * 2 ^ low < 2 ^ 64 := by
  have a : v * 2 ^ low < 2 ^ wide * 2 ^ low := Nat.mul_lt_mul_of_pos_right hv (Nat.two_pow_pos low)
  rw [← Nat.pow_add] at a
  exact Nat.lt_of_lt_of_le a (Nat.pow_le_pow_right (by decide) (by omega))
theorem shl_wrap (v low wide : Nat) (hv : v < 2 ^ wide) (h : low + wide ≤ 64) : IntKind.u64.wrap ((v : Int) * 2 ^ low) = ((v * 2 ^ low : Nat) : Int) := by
  have a := shl_lt v low wide hv h
  rw [n64] at a
  rw [show ((v : Int) * 2 ^ low) = ((v * 2 ^ low : Nat) : Int) by simp]
  exact u64_wrap _ (Int.natCast_nonneg _) (by omega)
theorem put_or (x v low wide : Nat) (hx : x < 2 ^ 64) (hv : v < 2 ^ wide) (h : low + wide ≤ 64) : andNot x (maskN low wide) ||| v * 2 ^ low = mixN x v low wide := by
  apply Nat.eq_of_testBit_eq
  intro i
  rw [Nat.testBit_or, andNot_testBit _ _ _ hx, maskN_testBit, mixN_testBit _ _ _ _ _ hv, Nat.mul_comm v, Nat.testBit_two_pow_mul]
  by_cases h1 : low ≤ i
  · by_cases h2 : i < low + wide
    · have : low ≤ i ∧ i < low + wide := ⟨h1, h2⟩
      simp [h1, h2]
    · have hz : v.testBit (i - low) = false := Nat.testBit_lt_two_pow (Nat.lt_of_lt_of_le hv (Nat.pow_le_pow_right (by decide) (by omega)))
      simp [h1, h2, hz]
  · simp [h1]
theorem mix_andNot (x v low wide : Nat) (hx : x < 2 ^ 64) (hv : v < 2 ^ wide) (h : low + wide ≤ 64) : andNot (mixN x v low wide) (maskN low wide) = andNot x (maskN low wide) := by
  apply Nat.eq_of_testBit_eq
  intro i
  rw [andNot_testBit _ _ _ hx, andNot_testBit _ _ _ (mixN_lt x v low wide hx hv h), maskN_testBit, mixN_testBit _ _ _ _ _ hv]
  by_cases h1 : low ≤ i <;> by_cases h2 : i < low + wide <;> simp [h1, h2]
theorem mix_get (x v low wide : Nat) (hv : v < 2 ^ wide) : mixN x v low wide / 2 ^ low % 2 ^ wide = v := by
  unfold mixN
  rw [Nat.mul_add_div (Nat.two_pow_pos low), Nat.div_eq_of_lt (Nat.mod_lt _ (Nat.two_pow_pos low)), Nat.add_zero, Nat.mul_add_mod, Nat.mod_eq_of_lt hv]
/-- Where two fields have no bit in common. -/
theorem mask_meets (l1 w1 l2 w2 : Nat) : (maskN l1 w1 &&& maskN l2 w2 = 0) ↔ ∀ i, ¬ ((l1 ≤ i ∧ i < l1 + w1) ∧ (l2 ≤ i ∧ i < l2 + w2)) := by
  constructor
  · intro h i hi
    have := congrArg (fun n : Nat => n.testBit i) h
    simp [Nat.testBit_and, maskN_testBit, hi.1.1, hi.1.2, hi.2.1, hi.2.2] at this
  · intro h
    apply Nat.eq_of_testBit_eq
    intro i
    rw [Nat.testBit_and, maskN_testBit, maskN_testBit, Nat.zero_testBit]
    have := h i
    by_cases a : l1 ≤ i <;> by_cases b : i < l1 + w1 <;> by_cases c : l2 ≤ i <;> by_cases d : i < l2 + w2 <;> simp_all
theorem andNot_zero (a : Nat) (ha : a < 2 ^ 64) : andNot a 0 = a := by
  apply Nat.eq_of_testBit_eq
  intro i
  rw [andNot_testBit _ _ _ ha]
  simp

/-! ### Fields, alignment -/
theorem shr_range (x : Int) (k : Nat) (h0 : 0 ≤ x) (h1 : x < 18446744073709551616) : 0 ≤ x / 2 ^ k ∧ x / 2 ^ k < 18446744073709551616 :=
  ⟨Int.ediv_nonneg h0 (Int.le_of_lt (pow_pos' k)), Int.lt_of_le_of_lt (Int.ediv_le_self _ h0) h1⟩
def fr (low wide : Int) : Bool := decide (0 ≤ low ∧ low ≤ 63 ∧ 1 ≤ wide ∧ wide ≤ 64 - low)
theorem fr_true {low wide : Int} (h : fr low wide = true) : 0 ≤ low ∧ low ≤ 63 ∧ 1 ≤ wide ∧ wide ≤ 64 - low := of_decide_eq_true h
theorem fr_nat {low wide : Int} (h : fr low wide = true) : ∃ l k : Nat, low = l ∧ wide = k ∧ l + k ≤ 64 ∧ 1 ≤ k := by
  have := fr_true h
  exact ⟨low.toNat, wide.toNat, by omega, by omega, by omega, by omega⟩

/-- What a field's number is. -/
def getV (low wide x : Int) : Int := if fr low wide then x / 2 ^ low.toNat % 2 ^ wide.toNat else 0
theorem getV_no {low wide x : Int} (h : fr low wide = false) : getV low wide x = 0 := by simp [getV, h]
theorem getV_yes {l k : Nat} {x : Int} (h : fr l k = true) : getV l k x = x / 2 ^ l % 2 ^ k := by simp [getV, h]
def maskV (low wide : Int) : Int := if fr low wide then ((maskN low.toNat wide.toNat : Nat) : Int) else 0
theorem maskV_no {low wide : Int} (h : fr low wide = false) : maskV low wide = 0 := by simp [maskV, h]
theorem maskV_yes {l k : Nat} (h : fr l k = true) : maskV l k = ((maskN l k : Nat) : Int) := by simp [maskV, h]
theorem put_word (x v : Int) (l k : Nat) (h0 : 0 ≤ x) (h1 : x < 18446744073709551616) (v0 : 0 ≤ v) (hv : v < 2 ^ k) (h : l + k ≤ 64) :
    bits .or .u64 (bits .andNot .u64 x ((maskN l k : Nat) : Int)) (IntKind.u64.wrap (v * 2 ^ l)) = x % 2 ^ l + 2 ^ l * v + 2 ^ (l + k) * (x / 2 ^ (l + k)) := by
  obtain ⟨a, rfl⟩ := Int.eq_ofNat_of_zero_le h0
  obtain ⟨b, rfl⟩ := Int.eq_ofNat_of_zero_le v0
  have ha : a < 2 ^ 64 := by rw [n64]; omega
  have hb : b < 2 ^ k := by exact_mod_cast hv
  rw [bits_andNot, shl_wrap b l k hb h, bits_or _ _ (andNot_le _ _) (shl_lt b l k hb h), put_or a b l k ha hb h, mix_int]
theorem high_word (v : Int) (k : Nat) (v0 : 0 ≤ v) (v1 : v < 18446744073709551616) (hk : k ≤ 64) : (bits .andNot .u64 v (ones k) != 0) = !decide (v < 2 ^ k) := by
  rw [andNot_ones v k v0 v1, show min (k : Int).toNat 64 = k by omega]
  by_cases h : v < 2 ^ k
  · have := Int.emod_eq_of_lt v0 h
    simp [h, this]
  · have := Int.emod_lt_of_pos v (pow_pos' k)
    simp [h]
    omega
/-- A number in a field of a word. -/
def mixV (x v : Int) (l k : Nat) : Int := x % 2 ^ l + 2 ^ l * v + 2 ^ (l + k) * (x / 2 ^ (l + k))
def al (x n : Int) : Bool := decide (x % 2 ^ min n.toNat 64 = 0)
def dn (x n : Int) : Int := x - x % 2 ^ min n.toNat 64
theorem or_ones (x n : Int) (h0 : 0 ≤ x) (h1 : x < 18446744073709551616) : bits .or .u64 x (ones n) = dn x n + ones n := by
  obtain ⟨a, rfl⟩ := Int.eq_ofNat_of_zero_le h0
  have ha : a < 2 ^ 64 := by rw [n64]; omega
  unfold dn
  rw [ones_nat]
  generalize hk : min n.toNat 64 = k
  have hk64 : k ≤ 64 := by omega
  have hp : 2 ^ k - 1 < 2 ^ 64 := by
    have := Nat.pow_le_pow_right (n := 2) (by decide) hk64
    have := Nat.two_pow_pos k
    omega
  rw [bits_or _ _ ha hp]
  have e : a ||| (2 ^ k - 1) = 2 ^ k * (a / 2 ^ k) + (2 ^ k - 1) := by
    apply Nat.eq_of_testBit_eq
    intro i
    have hlt : 2 ^ k - 1 < 2 ^ k := by have := Nat.two_pow_pos k; omega
    rw [Nat.testBit_or, Nat.testBit_two_pow_sub_one, Nat.testBit_two_pow_mul_add _ hlt, Nat.testBit_two_pow_sub_one, Nat.testBit_div_two_pow]
    by_cases h : i < k
    · simp [h]
    · have : i - k + k = i := by omega
      simp [h, this]
  rw [e]
  have := Nat.div_add_mod a (2 ^ k)
  have h2 : ((a : Int) % 2 ^ k) = ((a % 2 ^ k : Nat) : Int) := by simp
  rw [h2]
  omega
theorem mixV_nat (x v : Int) (l k : Nat) (h0 : 0 ≤ x) (v0 : 0 ≤ v) : mixV x v l k = ((mixN x.toNat v.toNat l k : Nat) : Int) := by
  unfold mixV
  rw [← mix_int]
  simp only [Int.toNat_of_nonneg h0, Int.toNat_of_nonneg v0]
theorem mixV_side {x v : Int} {k : Nat} (h0 : 0 ≤ x) (h1 : x < 18446744073709551616) (v0 : 0 ≤ v) (hv : v < 2 ^ k) : x.toNat < 2 ^ 64 ∧ v.toNat < 2 ^ k := by
  constructor
  · rw [n64]; omega
  · have : (v.toNat : Int) < ((2 ^ k : Nat) : Int) := by rw [Int.toNat_of_nonneg v0]; simpa using hv
    exact_mod_cast this
theorem mixV_ok (x v : Int) (l k : Nat) (h0 : 0 ≤ x) (h1 : x < 18446744073709551616) (v0 : 0 ≤ v) (hv : v < 2 ^ k) (h : l + k ≤ 64) : 0 ≤ mixV x v l k ∧ mixV x v l k < 18446744073709551616 := by
  obtain ⟨a, b⟩ := mixV_side h0 h1 v0 hv
  have c := mixN_lt _ _ l k a b h
  rw [n64] at c
  rw [mixV_nat x v l k h0 v0]
  omega
theorem mixV_get (x v : Int) (l k : Nat) (h0 : 0 ≤ x) (h1 : x < 18446744073709551616) (v0 : 0 ≤ v) (hv : v < 2 ^ k) (h : l + k ≤ 64) : mixV x v l k / 2 ^ l % 2 ^ k = v := by
  obtain ⟨a, b⟩ := mixV_side h0 h1 v0 hv
  rw [mixV_nat x v l k h0 v0]
  have c := mix_get x.toNat v.toNat l k b
  have d : ((mixN x.toNat v.toNat l k / 2 ^ l % 2 ^ k : Nat) : Int) = (v.toNat : Int) := by rw [c]
  rw [Int.toNat_of_nonneg v0] at d
  simpa using d
theorem mixV_rest (x v : Int) (l k : Nat) (h0 : 0 ≤ x) (h1 : x < 18446744073709551616) (v0 : 0 ≤ v) (hv : v < 2 ^ k) (h : l + k ≤ 64) : bits .andNot .u64 (mixV x v l k) ((maskN l k : Nat) : Int) = bits .andNot .u64 x ((maskN l k : Nat) : Int) := by
  obtain ⟨a, b⟩ := mixV_side h0 h1 v0 hv
  rw [mixV_nat x v l k h0 v0, bits_andNot, mix_andNot _ _ _ _ a b h, ← bits_andNot, Int.toNat_of_nonneg h0]

theorem dn_max (x n : Int) : dn x (max n 0) = dn x n := by
  unfold dn
  rw [show min (max n 0).toNat 64 = min n.toNat 64 by omega]
theorem dn_range (x n : Int) (h0 : 0 ≤ x) (h1 : x < 18446744073709551616) : 0 ≤ dn x n ∧ dn x n ≤ x := by
  unfold dn
  have a := Int.emod_nonneg x (show (2 : Int) ^ min n.toNat 64 ≠ 0 from Int.ne_of_gt (pow_pos' _))
  have b := Int.emod_lt_of_pos x (pow_pos' (min n.toNat 64))
  have c : x % 2 ^ min n.toNat 64 ≤ x := by
    have := Int.emod_add_mul_ediv x (2 ^ min n.toNat 64)
    have d : 0 ≤ 2 ^ min n.toNat 64 * (x / 2 ^ min n.toNat 64) := Int.mul_nonneg (Int.le_of_lt (pow_pos' _)) (Int.ediv_nonneg h0 (Int.le_of_lt (pow_pos' _)))
    omega
  omega
theorem al_dn (x n : Int) : al x n = (dn x n == x) := by
  unfold al dn
  rw [Bool.eq_iff_iff]
  simp
  omega
theorem dn_neg (x n : Int) (hn : n < 0) : dn x 0 = dn x n := by
  unfold dn
  rw [show min n.toNat 64 = min (0 : Int).toNat 64 by omega]
theorem not_u64 (y : Int) (h0 : 0 ≤ y) (h1 : y < 18446744073709551616) : bits BinOp.xor IntKind.u64 (if IntKind.u64.signed = true then -1 else IntKind.u64.max) y = 18446744073709551615 - y := by
  obtain ⟨a, rfl⟩ := Int.eq_ofNat_of_zero_le h0
  have ha : a < 2 ^ 64 := by rw [n64]; omega
  have e : (if IntKind.u64.signed = true then (-1 : Int) else IntKind.u64.max) = ((2 ^ 64 - 1 : Nat) : Int) := by decide
  rw [e]
  have f : (BitVec.ofNat 64 (2 ^ 64 - 1) ^^^ BitVec.ofNat 64 a).toNat = 2 ^ 64 - 1 - a := by
    rw [show BitVec.ofNat 64 (2 ^ 64 - 1) = BitVec.allOnes 64 from rfl, BitVec.allOnes_xor, BitVec.toNat_not, BitVec.toNat_ofNat, Nat.mod_eq_of_lt ha]
  have g : IntKind.u64.wrap (((BitVec.ofNat 64 (2 ^ 64 - 1) ^^^ BitVec.ofNat 64 a).toNat : Nat) : Int) = 18446744073709551615 - (a : Int) := by
    rw [f, n64]
    rw [u64_wrap _ (by omega) (by omega)]
    omega
  simp only [bits, IntKind.bits, BitVec.ofInt_natCast]
  exact g
theorem dn_max64 (n : Int) : dn 18446744073709551615 n = 18446744073709551615 - ones n := by
  unfold dn ones
  obtain ⟨k, hk, hk64⟩ : ∃ k, min n.toNat 64 = k ∧ k ≤ 64 := ⟨_, rfl, by omega⟩
  rw [hk]
  have e : (18446744073709551615 : Int) = 2 ^ k - 1 + 2 ^ k * (2 ^ (64 - k) - 1) := by
    rw [Int.mul_sub, ← Int.pow_add, show k + (64 - k) = 64 by omega]
    have : (2 : Int) ^ 64 = 18446744073709551616 := by decide
    omega
  have a := pow_pos' k
  have f : (18446744073709551615 : Int) % 2 ^ k = 2 ^ k - 1 := by
    rw [e, Int.add_mul_emod_self_left]
    exact Int.emod_eq_of_lt (by omega) (by omega)
  rw [f]
/-- The next aligned word. -/
def nx (x n : Int) : Int := dn x n + ones n + 1
theorem nx_gt {x n : Int} (h0 : 0 ≤ x) : x < nx x n := by
  unfold nx dn ones
  have := Int.emod_lt_of_pos x (pow_pos' (min n.toNat 64))
  omega
theorem al_nx (x n : Int) : al (nx x n) n = true := by
  unfold al nx dn ones
  generalize min n.toNat 64 = k
  have e := Int.emod_add_mul_ediv x (2 ^ k)
  have f : x - x % 2 ^ k + (2 ^ k - 1) + 1 = 2 ^ k * (x / 2 ^ k + 1) := by
    rw [Int.mul_add]
    omega
  rw [f]
  simp

/-! ### Levels of addresses -/
def kn (level : Int) : Bool := decide (0 ≤ level ∧ level ≤ 3)
def lbits (level : Int) : Int := if kn level then 39 - 9 * level else 0
def lowB (va : Int) : Bool := decide (va < 281474976710656)
def idxV (va level : Int) : Int := if kn level then va / 2 ^ (lbits level).toNat % 512 else -1
def baseV (va level : Int) : Int := if kn level then va % 281474976710656 - va % 281474976710656 % 2 ^ (lbits level).toNat else 0
def offV (va level : Int) : Int := if kn level then va % 2 ^ (lbits level).toNat else 0
theorem kn_cases {level : Int} (h : kn level = true) : level = 0 ∨ level = 1 ∨ level = 2 ∨ level = 3 := by
  have := of_decide_eq_true h
  omega
theorem kn_no {level : Int} (h : kn level = false) : level < 0 ∨ 3 < level := by
  have := of_decide_eq_false h
  omega
theorem lbits_yes {level : Int} (h : kn level = true) : lbits level = 39 - 9 * level := by simp [lbits, h]
theorem lbits_no {level : Int} (h : kn level = false) : lbits level = 0 := by simp [lbits, h]
theorem lbits_range (level : Int) : 0 ≤ lbits level ∧ lbits level ≤ 39 := by
  cases h : kn level
  · rw [lbits_no h]; omega
  · rw [lbits_yes h]; have := kn_cases h; omega
theorem p39 : (2 : Int) ^ (39 : Nat) = 549755813888 := by decide
theorem p30 : (2 : Int) ^ (30 : Nat) = 1073741824 := by decide
theorem p21 : (2 : Int) ^ (21 : Nat) = 2097152 := by decide
theorem p12 : (2 : Int) ^ (12 : Nat) = 4096 := by decide
theorem p9 : (2 : Int) ^ (9 : Nat) = 512 := by decide
theorem p48 : (2 : Int) ^ (48 : Nat) = 281474976710656 := by decide
/-- A level's stretch. -/
def lsize (level : Int) : Int := if level = 0 then 549755813888 else if level = 1 then 1073741824 else if level = 2 then 2097152 else 4096
theorem lsize_pow {level : Int} (h : kn level = true) : (2 : Int) ^ (lbits level).toNat = lsize level := by
  rw [lbits_yes h]
  rcases kn_cases h with rfl | rfl | rfl | rfl
  · exact p39
  · exact p30
  · exact p21
  · exact p12
theorem idxV_yes {va level : Int} (h : kn level = true) : idxV va level = va / lsize level % 512 := by simp [idxV, h, lsize_pow h]
theorem baseV_yes {va level : Int} (h : kn level = true) : baseV va level = va % 281474976710656 - va % 281474976710656 % lsize level := by simp [baseV, h, lsize_pow h]
theorem offV_yes {va level : Int} (h : kn level = true) : offV va level = va % lsize level := by simp [offV, h, lsize_pow h]
theorem lowB_div (va : Int) (h0 : 0 ≤ va) : ((va / 281474976710656) == 0) = lowB va := by
  unfold lowB
  rw [Bool.eq_iff_iff]
  simp
  omega
theorem fr_level {level : Int} : fr (lbits level) 9 = true := by
  have := lbits_range level
  unfold fr
  rw [decide_eq_true_eq]
  omega
end Go.Proofs.Ytndeaikmelpflaa.B
