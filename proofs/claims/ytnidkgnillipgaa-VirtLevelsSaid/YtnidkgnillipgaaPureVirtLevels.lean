/- What the law VirtLevels reckons is true: plain numbers. -/
import Derived.Test.YtnidkgnillipgaaPVirtLevelsx1
import Derived.Test.YtnidkgnillipgaaB
namespace Go.Proofs.Ytnidkgnillipgaa.Pure
open Go.RowKit Go.Proofs.Ytnidkgnillipgaa.PVirtLevels Go.Proofs.YtnidkgnillipgaaW.PrintWords Go.Proofs.YtnidkgnillipgaaW.PrintLast Go.Proofs.YtnidkgnillipgaaW.PrintMore Go.Proofs.Ytnidkgnillipgaa.B
set_option linter.unusedVariables false
set_option linter.unusedSimpArgs false
theorem wrap64_in (x : Int) (h0 : -9223372036854775808 ≤ x) (h1 : x ≤ 9223372036854775807) : wrap64 x = x := by unfold wrap64; omega
theorem p_right (a b : Int) : field_Field_Right.f a b = some (fr a b) := by
  unfold field_Field_Right.f
  by_cases h1 : a ≥ 0
  · by_cases h2 : a < 64
    · by_cases h3 : b ≥ 1
      · rw [if_pos h1, if_pos h2, if_pos h3, wrap64_in _ (by omega) (by omega)]
        congr 1
        unfold fr
        rw [decide_eq_decide]
        omega
      · rw [if_pos h1, if_pos h2, if_neg h3]; congr 1; symm; simp [fr]; omega
    · rw [if_pos h1, if_neg h2]; congr 1; symm; simp [fr]; omega
  · rw [if_neg h1]; congr 1; symm; simp [fr]; omega
theorem p_ones (n : Int) : field_Ones.f n = some (ones n) := by
  unfold field_Ones.f
  by_cases h1 : n < 1
  · rw [if_pos h1, ones_low n h1]
  · by_cases h2 : n ≥ 64
    · rw [if_neg h1, if_pos h2, ones_high n h2]
    · rw [if_neg h1, if_neg h2, if_pos (by omega), ← ones_mid n (by omega) (by omega)]
      unfold shl
      rw [show min n.toNat IntKind.u64.bits = n.toNat by simp [IntKind.bits]; omega, Int.one_mul]
theorem p_get (a b x : Int) (h0 : 0 ≤ x) (h1 : x < 18446744073709551616) : field_Field_Get.f a b x = some (getV a b x) := by
  unfold field_Field_Get.f
  rw [p_right]; simp only [Option.bind_some]
  cases h : fr a b
  · rw [if_neg (by decide), getV_no h]
  · obtain ⟨l, k, rfl, rfl, hlk, hk1⟩ := fr_nat h
    rw [if_pos rfl, if_pos (by omega), p_ones]; simp only [Option.bind_some]
    rw [getV_yes h]
    unfold shr
    rw [show min (l : Int).toNat IntKind.u64.bits = l by simp [IntKind.bits]; omega, and_ones _ _ (shr_range x l h0 h1).1 (shr_range x l h0 h1).2, show min (k : Int).toNat 64 = k by omega]

theorem p_low (va : Int) (h0 : 0 ≤ va) : virt_Low.f va = some (lowB va) := by
  unfold virt_Low.f
  rw [lowB_div va h0]
theorem p_bits (level : Int) : desc_Bits.f level = some (lbits level) := by
  unfold desc_Bits.f
  cases h : kn level
  · rw [lbits_no h]
    rcases kn_no h with h | h
    · rw [if_pos h]
    · rw [if_neg (by omega), if_pos (by omega)]
  · rw [lbits_yes h]
    have := kn_cases h
    rw [if_neg (by omega), if_neg (by omega), wrap64_in (3 - level) (by omega) (by omega), wrap64_in (9 * (3 - level)) (by omega) (by omega), wrap64_in _ (by omega) (by omega)]
    congr 1; omega
theorem p_known (level : Int) : virt_known.f level = some (kn level) := by
  unfold virt_known.f
  by_cases h : level ≥ 0
  · rw [if_pos h]; congr 1; unfold kn; rw [decide_eq_decide]; omega
  · rw [if_neg h]; congr 1; symm; unfold kn; rw [decide_eq_false_iff_not]; omega
theorem p_index (va level : Int) (h0 : 0 ≤ va) (h1 : va < 18446744073709551616) : virt_Index.f va level = some (idxV va level) := by
  unfold virt_Index.f
  rw [p_known]; simp only [Option.bind_some]
  cases h : kn level
  · rw [if_neg (by decide)]; simp [idxV, h]
  · rw [if_pos rfl, p_bits]; simp only [Option.bind_some]
    rw [p_get _ _ _ h0 h1]; simp only [Option.bind_some]
    have e : getV (lbits level) 9 va = idxV va level := by
      unfold getV
      rw [if_pos fr_level, idxV_yes h, ← lsize_pow h, show ((9 : Int).toNat) = 9 from rfl, p9]
    rw [e, wrap64_in _ (by rw [idxV_yes h]; omega) (by rw [idxV_yes h]; omega)]
theorem p_offset (va level : Int) (h0 : 0 ≤ va) (h1 : va < 18446744073709551616) : virt_Offset.f va level = some (offV va level) := by
  unfold virt_Offset.f
  rw [p_known]; simp only [Option.bind_some]
  cases h : kn level
  · rw [if_neg (by decide)]; simp [offV, h]
  · rw [if_pos rfl, p_bits]; simp only [Option.bind_some]
    rw [p_ones]; simp only [Option.bind_some]
    have := lbits_range level
    rw [and_ones _ _ h0 h1, show min (lbits level).toNat 64 = (lbits level).toNat by omega]
    simp [offV, h]

theorem p_anchor : portreevelaw05_anchor.f = some true := by decide +kernel
/-- Which level covers so many bits. -/
def levelOf (b : Int) : Int × Bool := if b = 39 then (0, true) else if b = 30 then (1, true) else if b = 21 then (2, true) else if b = 12 then (3, true) else (0, false)
theorem p_level (k : Nat) (b : Int) : virt_Level.f (k + 5) b = some (levelOf b) := by
  unfold virt_Level.f levelOf
  have e1 : wrap64 (0 + 1) = 1 := wrap64_in _ (by omega) (by omega)
  have e2 : wrap64 (1 + 1) = 2 := wrap64_in _ (by omega) (by omega)
  have e3 : wrap64 (2 + 1) = 3 := wrap64_in _ (by omega) (by omega)
  have e4 : wrap64 (3 + 1) = 4 := wrap64_in _ (by omega) (by omega)
  have b0 : lbits 0 = 39 := by decide
  have b1 : lbits 1 = 30 := by decide
  have b2 : lbits 2 = 21 := by decide
  have b3 : lbits 3 = 12 := by decide
  simp only [virt_Level.l0, p_bits, Option.bind_some, e1, e2, e3, e4, b0, b1, b2, b3, eq_comm (b := b)]
  by_cases h0 : b = 39
  · simp [h0]
  · by_cases h1 : b = 30
    · simp [h1]
    · by_cases h2 : b = 21
      · simp [h2]
      · by_cases h3 : b = 12
        · simp [h3]
        · simp [h0, h1, h2, h3]
theorem VirtLevels : portreevelaw05_VirtLevels.Pure := by
  intro b _
  refine ⟨5, ?_⟩
  unfold portreevelaw05_VirtLevels.f
  rw [p_anchor, p_level 0 b]; simp only [Option.bind_some, if_true]
  unfold levelOf
  by_cases h0 : b = 39
  · simp [h0, p_bits]; decide
  · by_cases h1 : b = 30
    · simp [h1, p_bits]; decide
    · by_cases h2 : b = 21
      · simp [h2, p_bits]; decide
      · by_cases h3 : b = 12
        · simp [h3, p_bits]; decide
        · simp [h0, h1, h2, h3]
end Go.Proofs.Ytnidkgnillipgaa.Pure
