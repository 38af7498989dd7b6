/- What the law FieldMeets reckons is true: plain numbers. -/
import Derived.Test.YtnidkgnillipgaaPFieldMeetsx2
import Derived.Test.YtnidkgnillipgaaB
namespace Go.Proofs.Ytnidkgnillipgaa.PureFieldMeets
open Go.RowKit Go.Proofs.Ytnidkgnillipgaa.PFieldMeets Go.Proofs.YtnidkgnillipgaaW.PrintWords Go.Proofs.YtnidkgnillipgaaW.PrintLast Go.Proofs.YtnidkgnillipgaaW.PrintMore Go.Proofs.Ytnidkgnillipgaa.B
set_option linter.unusedVariables false
set_option linter.unusedSimpArgs false
theorem wrap64_in (x : Int) (h0 : -9223372036854775808 ≤ x) (h1 : x ≤ 9223372036854775807) : wrap64 x = x := by unfold wrap64; omega
theorem p_right (a b : Int) : field_Field_Right.f a b = some (fr a b) := by
  unfold field_Field_Right.f
  by_cases h1 : a ≥ 0
  · by_cases h2 : a < 64
    · by_cases h3 : b ≥ 1
      · rw [if_pos h1, if_pos h2, if_pos h3, wrap64_in _ (by omega) (by omega)]
        congr 1
        unfold fr
        rw [decide_eq_decide]
        omega
      · rw [if_pos h1, if_pos h2, if_neg h3]; congr 1; symm; simp [fr]; omega
    · rw [if_pos h1, if_neg h2]; congr 1; symm; simp [fr]; omega
  · rw [if_neg h1]; congr 1; symm; simp [fr]; omega
theorem p_ones (n : Int) : field_Ones.f n = some (ones n) := by
  unfold field_Ones.f
  by_cases h1 : n < 1
  · rw [if_pos h1, ones_low n h1]
  · by_cases h2 : n ≥ 64
    · rw [if_neg h1, if_pos h2, ones_high n h2]
    · rw [if_neg h1, if_neg h2, if_pos (by omega), ← ones_mid n (by omega) (by omega)]
      unfold shl
      rw [show min n.toNat IntKind.u64.bits = n.toNat by simp [IntKind.bits]; omega, Int.one_mul]
theorem p_get (a b x : Int) (h0 : 0 ≤ x) (h1 : x < 18446744073709551616) : field_Field_Get.f a b x = some (getV a b x) := by
  unfold field_Field_Get.f
  rw [p_right]; simp only [Option.bind_some]
  cases h : fr a b
  · rw [if_neg (by decide), getV_no h]
  · obtain ⟨l, k, rfl, rfl, hlk, hk1⟩ := fr_nat h
    rw [if_pos rfl, if_pos (by omega), p_ones]; simp only [Option.bind_some]
    rw [getV_yes h]
    unfold shr
    rw [show min (l : Int).toNat IntKind.u64.bits = l by simp [IntKind.bits]; omega, and_ones _ _ (shr_range x l h0 h1).1 (shr_range x l h0 h1).2, show min (k : Int).toNat 64 = k by omega]

theorem p_mask (a b : Int) : field_Field_Mask.f a b = some (maskV a b) := by
  unfold field_Field_Mask.f
  rw [p_right]; simp only [Option.bind_some]
  cases h : fr a b
  · rw [if_neg (by decide), maskV_no h]
  · obtain ⟨l, k, rfl, rfl, hlk, hk1⟩ := fr_nat h
    rw [if_pos rfl, p_ones]; simp only [Option.bind_some]
    rw [if_pos (by omega), maskV_yes h]
    unfold shl
    rw [show min (l : Int).toNat IntKind.u64.bits = l by simp [IntKind.bits]; omega, mask_wrap l k hlk]
theorem p_put (a b x v : Int) (h0 : 0 ≤ x) (h1 : x < 18446744073709551616) (v0 : 0 ≤ v) (v1 : v < 18446744073709551616) :
    field_Field_Put.f a b x v = some (if fr a b then (if v < 2 ^ b.toNat then (mixV x v a.toNat b.toNat, 0) else (0, 11)) else (0, 10)) := by
  unfold field_Field_Put.f
  rw [p_right]; simp only [Option.bind_some]
  cases h : fr a b
  · rw [if_neg (by decide)]; rfl
  · obtain ⟨l, k, rfl, rfl, hlk, hk1⟩ := fr_nat h
    have hh := high_word v k v0 v1 (by omega)
    rw [if_pos rfl, if_pos rfl, p_ones]; simp only [Option.bind_some]
    by_cases hv : v < 2 ^ k
    · rw [decide_eq_true hv] at hh
      rw [if_pos (by simpa using hh), p_mask, if_pos (by simpa using hv)]; simp only [Option.bind_some]
      rw [if_pos (by omega), maskV_yes h]
      unfold shl
      rw [show min (l : Int).toNat IntKind.u64.bits = l by simp [IntKind.bits]; omega, put_word x v l k h0 h1 v0 hv hlk]
      rfl
    · rw [decide_eq_false hv] at hh
      rw [if_neg (by simpa using hh), if_neg (by simpa using hv)]

theorem p_anchor : portreevelaw01_anchor.f = some true := by decide +kernel
theorem p_meets (a b c d : Int) : field_Field_Meets.f a b c d = some (bits .and .u64 (maskV a b) (maskV c d) != 0) := by
  unfold field_Field_Meets.f
  rw [p_mask, p_mask]; rfl
theorem p_rest0 (k x) : field_Rest.f (k + 1) x [] = some x := by
  unfold field_Rest.f
  simp only [field_Rest.l0]
  rw [if_neg (by simp)]
theorem p_rest2 (k x a b c d) : field_Rest.f (k + 3) x [⟨a, b⟩, ⟨c, d⟩] = some (bits .andNot .u64 (bits .andNot .u64 x (maskV a b)) (maskV c d)) := by
  unfold field_Rest.f
  have e0 : wrap64 (0 + 1) = 1 := wrap64_in _ (by omega) (by omega)
  have e1 : wrap64 (1 + 1) = 2 := wrap64_in _ (by omega) (by omega)
  have hl : (([⟨a, b⟩, ⟨c, d⟩] : List S23).length : Int) = 2 := rfl
  rw [hl]
  simp only [field_Rest.l0]
  rw [if_pos (by omega), if_pos (by omega), hl, if_pos (by omega), show rd_T23 [⟨a, b⟩, ⟨c, d⟩] 0 = ⟨a, b⟩ from rfl, p_mask]
  simp only [Option.bind_some, e0]
  rw [if_pos (by omega), if_pos (by omega), if_pos (by omega), show rd_T23 [⟨a, b⟩, ⟨c, d⟩] 1 = ⟨c, d⟩ from rfl, p_mask]
  simp only [Option.bind_some, e1]
  rw [if_neg (by omega)]
/-- Two fields meet just if their stretches do. -/
def meetsB (a b c d : Int) : Bool := fr a b && (fr c d && (decide (a < c + d) && decide (c < a + b)))
theorem maskV_any (a b : Int) : ∃ n : Nat, n < 2 ^ 64 ∧ maskV a b = (n : Int) := by
  cases h : fr a b
  · exact ⟨0, by decide, maskV_no h⟩
  · obtain ⟨l, k, rfl, rfl, hlk, hk1⟩ := fr_nat h
    exact ⟨_, maskN_lt l k hlk, maskV_yes h⟩
theorem meets_eq (a b c d : Int) : (bits .and .u64 (maskV a b) (maskV c d) != 0) = meetsB a b c d := by
  unfold meetsB
  cases h1 : fr a b
  · rw [maskV_no h1]
    obtain ⟨n, hn, e⟩ := maskV_any c d
    rw [e, show (0 : Int) = ((0 : Nat) : Int) from rfl, bits_and _ _ (by decide) hn, Nat.zero_and]; rfl
  · cases h2 : fr c d
    · rw [maskV_no h2]
      obtain ⟨n, hn, e⟩ := maskV_any a b
      rw [e, show (0 : Int) = ((0 : Nat) : Int) from rfl, bits_and _ _ hn (by decide), Nat.and_zero]; rfl
    · obtain ⟨l1, k1, rfl, rfl, hlk1, hk1⟩ := fr_nat h1
      obtain ⟨l2, k2, rfl, rfl, hlk2, hk2⟩ := fr_nat h2
      rw [maskV_yes h1, maskV_yes h2, bits_and _ _ (maskN_lt _ _ hlk1) (maskN_lt _ _ hlk2)]
      have hm := mask_meets l1 k1 l2 k2
      by_cases ho : (l1 : Int) < l2 + k2 ∧ (l2 : Int) < l1 + k1
      · have hne : ¬ (maskN l1 k1 &&& maskN l2 k2 = 0) := by
          rw [hm]
          intro h
          exact h (max l1 l2) (by omega)
        simp [ho.1, ho.2]
        omega
      · have he : maskN l1 k1 &&& maskN l2 k2 = 0 := by
          rw [hm]
          intro i h
          omega
        rw [he]
        simp
        omega
theorem apart_get (x v : Int) (l1 k1 l2 k2 : Nat) (h0 : 0 ≤ x) (h1 : x < 18446744073709551616) (v0 : 0 ≤ v) (hv : v < 2 ^ k1) (hlk1 : l1 + k1 ≤ 64) (hlk2 : l2 + k2 ≤ 64) (ha : l2 + k2 ≤ l1 ∨ l1 + k1 ≤ l2) :
    mixV x v l1 k1 / 2 ^ l2 % 2 ^ k2 = x / 2 ^ l2 % 2 ^ k2 := by
  obtain ⟨ax, bv⟩ := mixV_side h0 h1 v0 hv
  have e : mixN x.toNat v.toNat l1 k1 / 2 ^ l2 % 2 ^ k2 = x.toNat / 2 ^ l2 % 2 ^ k2 := by
    apply Nat.eq_of_testBit_eq
    intro i
    rw [Nat.testBit_mod_two_pow, Nat.testBit_mod_two_pow, Nat.testBit_div_two_pow, Nat.testBit_div_two_pow, mixN_testBit _ _ _ _ _ bv]
    by_cases hi : i < k2
    · rw [if_neg (by omega)]
    · simp [hi]
  rw [mixV_nat x v l1 k1 h0 v0]
  have e2 : ((mixN x.toNat v.toNat l1 k1 / 2 ^ l2 % 2 ^ k2 : Nat) : Int) = ((x.toNat / 2 ^ l2 % 2 ^ k2 : Nat) : Int) := by rw [e]
  have e3 : ((x.toNat / 2 ^ l2 % 2 ^ k2 : Nat) : Int) = x / 2 ^ l2 % 2 ^ k2 := by
    rw [Int.natCast_emod, Int.natCast_ediv, Int.toNat_of_nonneg h0]
    simp
  rw [e3] at e2
  rw [← e2]
  simp
theorem put_get (a b c d x v : Int) (h0 : 0 ≤ x) (h1 : x < 18446744073709551616) (v0 : 0 ≤ v) (hf : fr a b = true) (hv : v < 2 ^ b.toNat) (hm : meetsB a b c d = false) : getV c d (mixV x v a.toNat b.toNat) = getV c d x := by
  cases h2 : fr c d
  · rw [getV_no h2, getV_no h2]
  · obtain ⟨l1, k1, rfl, rfl, hlk1, hk1⟩ := fr_nat hf
    obtain ⟨l2, k2, rfl, rfl, hlk2, hk2⟩ := fr_nat h2
    rw [getV_yes h2, getV_yes h2]
    refine apart_get x v l1 k1 l2 k2 h0 h1 v0 (by simpa using hv) hlk1 hlk2 ?_
    unfold meetsB at hm
    rw [hf, h2] at hm
    simp at hm
    omega
theorem p_j1 (k : Nat) (x v : Int) (a b c d : Int) (h0 : 0 ≤ x) (h1 : x < 18446744073709551616) (v0 : 0 ≤ v) (v1 : v < 18446744073709551616) : portreevelaw01_FieldMeets.j1 (k + 1) x v (meetsB a b c d) false a b c d = some true := by
  simp only [portreevelaw01_FieldMeets.j1]
  rw [if_neg (by decide), p_put a b x v h0 h1 v0 v1]
  simp only [Option.bind_some]
  cases hm : meetsB a b c d
  · rw [if_neg (by decide)]
    cases hf : fr a b
    · rfl
    · rw [if_pos rfl]
      by_cases hv : v < 2 ^ b.toNat
      · rw [if_pos hv]
        obtain ⟨l, kk, rfl, rfl, hlk, hk1⟩ := fr_nat hf
        have hr := mixV_ok x v l kk h0 h1 v0 (by simpa using hv) hlk
        simp only [if_true]
        rw [p_get c d _ (by simpa using hr.1) (by simpa using hr.2), p_get c d x h0 h1]
        simp only [Option.bind_some]
        rw [put_get _ _ c d x v h0 h1 v0 hf hv hm]
        simp
      · rw [if_neg hv]; rfl
  · rw [if_pos rfl]
theorem p_j0 (k : Nat) (x v : Int) (a b c d : Int) (h0 : 0 ≤ x) (h1 : x < 18446744073709551616) (v0 : 0 ≤ v) (v1 : v < 18446744073709551616) : portreevelaw01_FieldMeets.j0 (k + 4) x v (meetsB a b c d) a b c d = some true := by
  simp only [portreevelaw01_FieldMeets.j0]
  rw [p_meets, meets_eq]
  simp only [Option.bind_some]
  rw [if_neg (by simp), p_rest2, p_mask, p_mask, p_rest0]
  simp only [Option.bind_some, if_true]
  rw [show (x != x) = false by simp]
  exact p_j1 (k + 2) x v a b c d h0 h1 v0 v1
theorem fieldMeets (a b c d x v : Int) (h0 : 0 ≤ x) (h1 : x < 18446744073709551616) (v0 : 0 ≤ v) (v1 : v < 18446744073709551616) : portreevelaw01_FieldMeets.f 4 a b c d x v = some true := by
  have hj := p_j0 0 x v a b c d h0 h1 v0 v1
  unfold portreevelaw01_FieldMeets.f
  rw [p_anchor]; simp only [Option.bind_some, if_true]
  rw [p_right a b]; simp only [Option.bind_some]
  unfold meetsB at hj
  cases h1 : fr a b
  · rw [h1] at hj; exact hj
  · rw [if_pos rfl, p_right c d]; simp only [Option.bind_some]
    rw [h1] at hj
    cases h2 : fr c d
    · rw [h2] at hj; exact hj
    · rw [if_pos rfl]
      rw [h2] at hj
      have f1 := fr_true h1
      have f2 := fr_true h2
      rw [wrap64_in _ (by omega) (by omega), wrap64_in _ (by omega) (by omega)]
      by_cases h3 : a < c + d
      · rw [if_pos h3]; rw [decide_eq_true h3] at hj; exact hj
      · rw [if_neg h3]; rw [decide_eq_false h3] at hj; exact hj
theorem fieldMeets_any (a b c d x v : Int) (h0 : 0 ≤ x) (h1 : x < 18446744073709551616) (v0 : 0 ≤ v) (v1 : v < 18446744073709551616) (w : World) :
    Calls Try.prog 10 #[.agg #[.int .i64 a, .int .i64 b], .agg #[.int .i64 c, .int .i64 d], .int .u64 x, .int .u64 v] w fun e w' => e = .returned (.bool true) ∧ Below w.heap.size w w' :=
  portreevelaw01_FieldMeets.calls 4 a b c d x v true w (fieldMeets a b c d x v h0 h1 v0 v1)
end Go.Proofs.Ytnidkgnillipgaa.PureFieldMeets
