/- Plain laws of descriptors' words: their bits, parts and alignment. No program in sight. -/
import Derived.Test.YtfnmdelkdombbaaB
namespace Go.Proofs.Ytfnmdelkdombbaa.Ep
open Go.Proofs.Ytfnmdelkdombbaa.B
set_option linter.unusedVariables false
set_option linter.unusedSimpArgs false
def bitB (x : Int) (i : Nat) : Bool := decide (x / 2 ^ i % 2 = 1)
def okL (x : Int) (low : Int) (k : Nat) : Prop := ∀ i, 12 ≤ i → i < k → bitB x i = true → low ≤ i ∧ (i ≤ 47 ∨ i = 53 ∨ i = 54)
def tOk (x : Int) (k : Nat) : Prop := ∀ i, 2 ≤ i → i < k → bitB x i = true → 12 ≤ i ∧ i ≤ 47
def leafBad (level kind x : Int) : Prop := (kind = 2 ∧ (level = 0 ∨ level = 3)) ∨ bitB x 8 = false ∨ bitB x 9 = false ∨ bitB x 11 = false ∨ bitB x 53 = false ∨ bitB x 5 = true
theorem bitB_nat (n i : Nat) : bitB (n : Int) i = n.testBit i := by
  unfold bitB
  rw [Nat.testBit_eq_decide_div_mod_eq]
  apply decide_eq_decide.mpr
  have h : ((n : Int) / 2 ^ i % 2) = ((n / 2 ^ i % 2 : Nat) : Int) := by push_cast; rfl
  rw [h]; omega
theorem bits_zero (x : Int) (h0 : 0 ≤ x) (a k : Nat) : (∀ i, a ≤ i → i < a + k → bitB x i = false) ↔ x / 2 ^ a % 2 ^ k = 0 := by
  obtain ⟨n, rfl⟩ := Int.eq_ofNat_of_zero_le h0
  have e : ((n : Int) / 2 ^ a % 2 ^ k) = ((n / 2 ^ a % 2 ^ k : Nat) : Int) := by push_cast; rfl
  rw [e]
  constructor
  · intro h
    have : n / 2 ^ a % 2 ^ k = 0 := Nat.eq_of_testBit_eq fun j => by
      rw [Nat.testBit_mod_two_pow, Nat.testBit_div_two_pow, Nat.zero_testBit]
      by_cases hj : j < k
      · have := h (j + a) (by omega) (by omega)
        rw [bitB_nat] at this
        simp [this]
      · simp [hj]
    omega
  · intro h i h1 h2
    have h' : n / 2 ^ a % 2 ^ k = 0 := by omega
    have t := congrArg (fun m => Nat.testBit m (i - a)) h'
    simp only [Nat.testBit_mod_two_pow, Nat.testBit_div_two_pow, Nat.zero_testBit] at t
    rw [bitB_nat]
    have : decide (i - a < k) = true := by simp; omega
    rw [this, Bool.true_and, show i - a + a = i by omega] at t
    exact t
theorem or_pow (y n : Nat) (hb : y / 2 ^ n % 2 = 0) : y ||| 2 ^ n = y + 2 ^ n := by
  have hr : y % 2 ^ n < 2 ^ n := Nat.mod_lt _ (Nat.two_pow_pos n)
  have hq : y / 2 ^ n = 2 * (y / 2 ^ n / 2) := by omega
  have hy : y = 2 ^ (n + 1) * (y / 2 ^ n / 2) + y % 2 ^ n := by
    rw [Nat.pow_succ, Nat.mul_assoc, ← hq]; exact (Nat.div_add_mod y (2 ^ n)).symm
  generalize hQ : y / 2 ^ n / 2 = q at hy
  generalize hR : y % 2 ^ n = r at hy hr
  have e1 : y = 2 ^ (n + 1) * q ||| r := by rw [hy]; exact Nat.two_pow_add_eq_or_of_lt (by rw [Nat.pow_succ]; omega) q
  have e2 : 2 ^ n ||| r = 2 ^ n + r := by have := Nat.two_pow_add_eq_or_of_lt hr 1; simpa using this.symm
  have e3 : 2 ^ (n + 1) * q ||| (2 ^ n + r) = 2 ^ (n + 1) * q + (2 ^ n + r) := (Nat.two_pow_add_eq_or_of_lt (by rw [Nat.pow_succ]; omega) q).symm
  calc y ||| 2 ^ n = 2 ^ (n + 1) * q ||| (2 ^ n ||| r) := by rw [e1, Nat.or_assoc, Nat.or_comm r]
    _ = y + 2 ^ n := by rw [e2, e3, hy]; omega
/-- A bit more, by or, where it was 0: the sum. -/
theorem or_if (y : Int) (n : Nat) (b : Bool) (c : Int) (hc : (if b then 2 ^ n else 0) = c) (hn : n < 64) (h0 : 0 ≤ y) (h1 : y < 18446744073709551616) (hb : y / 2 ^ n % 2 = 0) : Go.bits .or .u64 y c = y + c := by
  obtain ⟨m, rfl⟩ := Int.eq_ofNat_of_zero_le h0
  have hm : m < 2 ^ 64 := by rw [n64]; omega
  subst hc
  cases b
  · have := bits_or m 0 hm (by decide)
    simpa using this
  · have hp : 2 ^ n < 2 ^ 64 := Nat.pow_lt_pow_right (by decide) hn
    have := bits_or m (2 ^ n) hm hp
    have hb' : m / 2 ^ n % 2 = 0 := by
      have e : ((m : Int) / 2 ^ n % 2) = ((m / 2 ^ n % 2 : Nat) : Int) := by push_cast; rfl
      rw [e] at hb; omega
    rw [or_pow m n hb'] at this
    push_cast at this
    simpa using this
theorem and_pow (x : Int) (n : Nat) (hn : n < 64) (h0 : 0 ≤ x) (h1 : x < 18446744073709551616) : Go.bits .and .u64 x (2 ^ n) = if bitB x n then 2 ^ n else 0 := by
  obtain ⟨m, rfl⟩ := Int.eq_ofNat_of_zero_le h0
  have hm : m < 2 ^ 64 := by rw [n64]; omega
  have hp : 2 ^ n < 2 ^ 64 := Nat.pow_lt_pow_right (by decide) hn
  have := bits_and m (2 ^ n) hm hp
  have e : m &&& 2 ^ n = if m.testBit n then 2 ^ n else 0 := Nat.eq_of_testBit_eq fun j => by
    rw [Nat.testBit_and, Nat.testBit_two_pow]
    by_cases hj : n = j
    · subst hj
      cases h : m.testBit n
      · simp
      · simp [Nat.testBit_two_pow]
    · cases h : m.testBit n <;> simp [hj, Nat.testBit_two_pow]
  rw [e] at this
  push_cast at this
  rw [this, bitB_nat]
  cases m.testBit n <;> simp
/-- The word of the end of a walk, as a sum. -/
def wordL (k3 user write exec used : Bool) (out attr : Int) : Int :=
  out + 9007199254743808 + 1 + (if k3 then 2 else 0) + (if user then 64 else 0) + (if !write then 128 else 0) + (if used then 1024 else 0) + (if !exec then 18014398509481984 else 0) + 4 * attr
theorem bit_num (b : Bool) (p : Int) : ∃ z : Int, 0 ≤ z ∧ z ≤ 1 ∧ (if b then p else 0) = p * z ∧ b = decide (z = 1) := by
  cases b
  · exact ⟨0, by simp⟩
  · exact ⟨1, by simp⟩
theorem or_fixed (out : Int) (h0 : 0 ≤ out) (h1 : out < 281474976710656) (ha : out % 4096 = 0) : Go.bits .or .u64 out 9007199254743808 = out + 9007199254743808 := by
  obtain ⟨m, rfl⟩ := Int.eq_ofNat_of_zero_le h0
  have hm : m < 2 ^ 64 := by rw [n64]; omega
  have h := bits_or m 9007199254743808 hm (by decide)
  rw [show ((9007199254743808 : Nat) : Int) = 9007199254743808 from rfl] at h
  rw [h]
  have e : m ||| 9007199254743808 = m + 9007199254743808 := by
    have f1 := or_pow m 53 (by omega)
    have f2 := or_pow (m + 2 ^ 53) 11 (by omega)
    have f3 := or_pow (m + 2 ^ 53 + 2 ^ 11) 9 (by omega)
    have f4 := or_pow (m + 2 ^ 53 + 2 ^ 11 + 2 ^ 9) 8 (by omega)
    rw [← f3, ← f2, ← f1, Nat.or_assoc, Nat.or_assoc, Nat.or_assoc] at f4
    rw [show (2 ^ 53 ||| (2 ^ 11 ||| (2 ^ 9 ||| 2 ^ 8)) : Nat) = 9007199254743808 by decide] at f4
    rw [f4, f1, f2, f3]
  rw [e]
  exact Int.natCast_add m 9007199254743808
theorem or_chain (out : Int) (k3 user write exec used : Bool) (c1 c6 c7 c10 c54 : Int) (e1 : (if k3 then 2 ^ 1 else 0) = c1) (e6 : (if user then 2 ^ 6 else 0) = c6) (e7 : (if !write then 2 ^ 7 else 0) = c7) (e10 : (if used then 2 ^ 10 else 0) = c10) (e54 : (if !exec then 2 ^ 54 else 0) = c54) (h0 : 0 ≤ out) (h1 : out < 281474976710656) (ha : out % 4096 = 0) :
    Go.bits .or .u64 (Go.bits .or .u64 (Go.bits .or .u64 (Go.bits .or .u64 (Go.bits .or .u64 (Go.bits .or .u64 (Go.bits .or .u64 out 9007199254743808) 1) c1) c6) c7) c10) c54 = out + 9007199254743808 + 1 + c1 + c6 + c7 + c10 + c54 := by
  obtain ⟨z1, p1, q1, r1, s1⟩ := bit_num k3 (2 ^ 1)
  obtain ⟨z6, p6, q6, r6, s6⟩ := bit_num user (2 ^ 6)
  obtain ⟨z7, p7, q7, r7, s7⟩ := bit_num (!write) (2 ^ 7)
  obtain ⟨z10, p10, q10, r10, s10⟩ := bit_num used (2 ^ 10)
  obtain ⟨z54, p54, q54, r54, s54⟩ := bit_num (!exec) (2 ^ 54)
  rw [r1] at e1; rw [r6] at e6; rw [r7] at e7; rw [r10] at e10; rw [r54] at e54
  clear s1 s6 s7 s10 s54
  have r0 : (if true then (2 : Int) ^ 0 else 0) = 1 := by decide
  rw [or_fixed out h0 h1 ha]
  rw [or_if _ 0 true 1 r0 (by decide) (by omega) (by omega) (by omega)]
  rw [or_if _ 1 k3 c1 (r1.trans e1) (by decide) (by omega) (by omega) (by omega)]
  rw [or_if _ 6 user c6 (r6.trans e6) (by decide) (by omega) (by omega) (by omega)]
  rw [or_if _ 7 (!write) c7 (r7.trans e7) (by decide) (by omega) (by omega) (by omega)]
  rw [or_if _ 10 used c10 (r10.trans e10) (by decide) (by omega) (by omega) (by omega)]
  rw [or_if _ 54 (!exec) c54 (r54.trans e54) (by decide) (by omega) (by omega) (by omega)]
theorem put_attr (y attr : Int) (h0 : 0 ≤ y) (h1 : y < 18446744073709551616) (a0 : 0 ≤ attr) (a7 : attr ≤ 7) (hy : y / 4 % 8 = 0) : Go.bits .or .u64 (Go.bits .andNot .u64 y 28) (attr * 4) = y + 4 * attr := by
  obtain ⟨m, rfl⟩ := Int.eq_ofNat_of_zero_le h0
  obtain ⟨v, rfl⟩ := Int.eq_ofNat_of_zero_le a0
  have hm : m < 2 ^ 64 := by rw [n64]; omega
  have h := put_or m v 2 3 hm (by omega) (by decide)
  rw [show maskN 2 3 = 28 by decide] at h
  have h2 := bits_andNot m 28
  rw [show ((28 : Nat) : Int) = 28 from rfl] at h2
  rw [h2, show ((v : Int) * 4) = ((v * 2 ^ 2 : Nat) : Int) by push_cast; rfl, bits_or _ _ (andNot_le _ _) (by omega), h]
  unfold mixN
  omega
/-- Its parts. -/
theorem wordL_parts (k3 user write exec used : Bool) (out attr : Int) (h0 : 0 ≤ out) (h1 : out < 281474976710656) (ha : out % 4096 = 0) (a0 : 0 ≤ attr) (a7 : attr ≤ 7) (x : Int) (hx : wordL k3 user write exec used out attr = x) :
    0 ≤ x ∧ x < 18446744073709551616 ∧ x / 4096 % 68719476736 * 4096 = out ∧ x / 4 % 8 = attr ∧ bitB x 0 = true ∧ bitB x 1 = k3 ∧ bitB x 5 = false ∧ bitB x 6 = user ∧ bitB x 7 = !write ∧ bitB x 8 = true ∧ bitB x 9 = true ∧ bitB x 10 = used ∧ bitB x 11 = true ∧ bitB x 53 = true ∧ bitB x 54 = !exec ∧ x / 281474976710656 % 32 = 0 ∧ x / 36028797018963968 = 0 := by
  obtain ⟨z1, p1, q1, r1, s1⟩ := bit_num k3 2
  obtain ⟨z6, p6, q6, r6, s6⟩ := bit_num user 64
  obtain ⟨z7, p7, q7, r7, s7⟩ := bit_num (!write) 128
  obtain ⟨z10, p10, q10, r10, s10⟩ := bit_num used 1024
  obtain ⟨z54, p54, q54, r54, s54⟩ := bit_num (!exec) 18014398509481984
  unfold wordL at hx
  rw [r1, r6, r7, r10, r54] at hx
  rw [s1, s6, s7, s10, s54]
  clear r1 r6 r7 r10 r54 s1 s6 s7 s10 s54
  unfold bitB
  refine ⟨by omega, by omega, by omega, by omega, ?_, ?_, ?_, ?_, ?_, ?_, ?_, ?_, ?_, ?_, ?_, by omega, by omega⟩
  · rw [decide_eq_true_eq]; omega
  · apply decide_eq_decide.mpr; omega
  · rw [decide_eq_false_iff_not]; omega
  · apply decide_eq_decide.mpr; omega
  · apply decide_eq_decide.mpr; omega
  · rw [decide_eq_true_eq]; omega
  · rw [decide_eq_true_eq]; omega
  · apply decide_eq_decide.mpr; omega
  · rw [decide_eq_true_eq]; omega
  · rw [decide_eq_true_eq]; omega
  · apply decide_eq_decide.mpr; omega
theorem bit_if (x : Int) (i : Nat) (p : Int) : (if bitB x i then p else 0) = p * (x / 2 ^ i % 2) := by
  unfold bitB
  have h : x / 2 ^ i % 2 = 0 ∨ x / 2 ^ i % 2 = 1 := by omega
  rcases h with h | h <;> simp [h]
/-- A word is that of what it says just if its other bits are right. -/
theorem said_word (x : Int) (h0 : 0 ≤ x) (h1 : x < 18446744073709551616) (b0 : bitB x 0 = true) :
    wordL (bitB x 1) (bitB x 6) (!bitB x 7) (!bitB x 54) (bitB x 10) (x / 4096 % 68719476736 * 4096) (x / 4 % 8) = x ↔ bitB x 8 = true ∧ bitB x 9 = true ∧ bitB x 11 = true ∧ bitB x 53 = true ∧ bitB x 5 = false ∧ x / 281474976710656 % 32 = 0 ∧ x / 36028797018963968 = 0 := by
  constructor
  · intro h
    obtain ⟨-, -, -, -, -, -, h5, -, -, h8, h9, -, h11, h53, -, h48, h55⟩ := wordL_parts _ _ _ _ _ _ _ (by omega) (by omega) (by omega) (by omega) (by omega) x h
    exact ⟨h8, h9, h11, h53, h5, h48, h55⟩
  · rintro ⟨h8, h9, h11, h53, h5, h48, h55⟩
    unfold wordL
    simp only [Bool.not_not, bit_if]
    unfold bitB at b0 h8 h9 h11 h53 h5
    simp only [decide_eq_true_eq, decide_eq_false_iff_not] at b0 h8 h9 h11 h53 h5
    omega
theorem okL_iff (x low : Int) (n : Nat) (hn : low = n) (hl : 12 ≤ n) (hh : n ≤ 48) (h0 : 0 ≤ x) (h1 : x < 18446744073709551616) : okL x low 64 ↔ x / 4096 % 2 ^ (n - 12) = 0 ∧ x / 281474976710656 % 32 = 0 ∧ x / 36028797018963968 = 0 := by
  subst hn
  have a := bits_zero x h0 12 (n - 12)
  have b := bits_zero x h0 48 5
  have c := bits_zero x h0 55 9
  rw [show (2 : Int) ^ 12 = 4096 from rfl] at a
  rw [show (2 : Int) ^ 48 = 281474976710656 from rfl, show (2 : Int) ^ 5 = 32 from rfl] at b
  rw [show (2 : Int) ^ 55 = 36028797018963968 from rfl, show (2 : Int) ^ 9 = 512 from rfl] at c
  have c' : x / 36028797018963968 % 512 = 0 ↔ x / 36028797018963968 = 0 := by omega
  rw [← a, ← b, ← c', ← c]
  constructor
  · intro h
    refine ⟨fun i i1 i2 => ?_, fun i i1 i2 => ?_, fun i i1 i2 => ?_⟩
    all_goals
      cases hb : bitB x i
      · rfl
      · have := h i (by omega) (by omega) hb
        omega
  · rintro ⟨ha, hb, hc⟩ i i1 i2 hi
    refine ⟨?_, ?_⟩
    · by_cases e : n ≤ i
      · omega
      · have := ha i (by omega) (by omega)
        simp [this] at hi
    · by_cases e : i ≤ 47
      · exact .inl e
      · by_cases e2 : i ≤ 52
        · have := hb i (by omega) (by omega)
          simp [this] at hi
        · by_cases e3 : 55 ≤ i
          · have := hc i (by omega) (by omega)
            simp [this] at hi
          · omega
theorem tOk_iff (x : Int) (h0 : 0 ≤ x) (h1 : x < 18446744073709551616) : tOk x 64 ↔ x / 4 % 1024 = 0 ∧ x / 281474976710656 = 0 := by
  have a := bits_zero x h0 2 10
  have b := bits_zero x h0 48 16
  rw [show (2 : Int) ^ 2 = 4 from rfl, show (2 : Int) ^ 10 = 1024 from rfl] at a
  rw [show (2 : Int) ^ 48 = 281474976710656 from rfl, show (2 : Int) ^ 16 = 65536 from rfl] at b
  have b' : x / 281474976710656 % 65536 = 0 ↔ x / 281474976710656 = 0 := by omega
  rw [← a, ← b', ← b]
  constructor
  · intro h
    refine ⟨fun i i1 i2 => ?_, fun i i1 i2 => ?_⟩
    all_goals
      cases hb : bitB x i
      · rfl
      · have := h i (by omega) (by omega) hb
        omega
  · rintro ⟨ha, hb⟩ i i1 i2 hi
    refine ⟨?_, ?_⟩
    · by_cases e : 12 ≤ i
      · exact e
      · have := ha i (by omega) (by omega)
        simp [this] at hi
    · by_cases e : i ≤ 47
      · exact e
      · have := hb i (by omega) (by omega)
        simp [this] at hi
theorem or_table (out : Int) (h0 : 0 ≤ out) (h1 : out < 281474976710656) (ha : out % 4096 = 0) : Go.bits .or .u64 (Go.bits .or .u64 out 2) 1 = out + 3 := by
  have r0 : (if true then (2 : Int) ^ 0 else 0) = 1 := by decide
  have r1 : (if true then (2 : Int) ^ 1 else 0) = 2 := by decide
  rw [or_if _ 1 true 2 r1 (by decide) (by omega) (by omega) (by omega), or_if _ 0 true 1 r0 (by decide) (by omega) (by omega) (by omega)]
  omega
theorem said_table (x : Int) (h0 : 0 ≤ x) (h1 : x < 18446744073709551616) (b0 : bitB x 0 = true) (b1 : bitB x 1 = true) : x / 4096 % 68719476736 * 4096 + 3 = x ↔ tOk x 64 := by
  rw [tOk_iff x h0 h1]
  unfold bitB at b0 b1
  simp only [decide_eq_true_eq] at b0 b1
  omega
end Go.Proofs.Ytfnmdelkdombbaa.Ep
