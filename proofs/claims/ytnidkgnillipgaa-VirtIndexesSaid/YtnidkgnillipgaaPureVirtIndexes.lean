/- What the law VirtIndexes reckons is true: plain numbers. -/
import Derived.Test.YtnidkgnillipgaaPVirtIndexesx1
import Derived.Test.YtnidkgnillipgaaB
namespace Go.Proofs.Ytnidkgnillipgaa.Pure
open Go.RowKit Go.Proofs.Ytnidkgnillipgaa.PVirtIndexes Go.Proofs.YtnidkgnillipgaaW.PrintWords Go.Proofs.YtnidkgnillipgaaW.PrintLast Go.Proofs.YtnidkgnillipgaaW.PrintMore Go.Proofs.Ytnidkgnillipgaa.B
set_option linter.unusedVariables false
set_option linter.unusedSimpArgs false
theorem wrap64_in (x : Int) (h0 : -9223372036854775808 ≤ x) (h1 : x ≤ 9223372036854775807) : wrap64 x = x := by unfold wrap64; omega
theorem p_right (a b : Int) : field_Field_Right.f a b = some (fr a b) := by
  unfold field_Field_Right.f
  by_cases h1 : a ≥ 0
  · by_cases h2 : a < 64
    · by_cases h3 : b ≥ 1
      · rw [if_pos h1, if_pos h2, if_pos h3, wrap64_in _ (by omega) (by omega)]
        congr 1
        unfold fr
        rw [decide_eq_decide]
        omega
      · rw [if_pos h1, if_pos h2, if_neg h3]; congr 1; symm; simp [fr]; omega
    · rw [if_pos h1, if_neg h2]; congr 1; symm; simp [fr]; omega
  · rw [if_neg h1]; congr 1; symm; simp [fr]; omega
theorem p_ones (n : Int) : field_Ones.f n = some (ones n) := by
  unfold field_Ones.f
  by_cases h1 : n < 1
  · rw [if_pos h1, ones_low n h1]
  · by_cases h2 : n ≥ 64
    · rw [if_neg h1, if_pos h2, ones_high n h2]
    · rw [if_neg h1, if_neg h2, if_pos (by omega), ← ones_mid n (by omega) (by omega)]
      unfold shl
      rw [show min n.toNat IntKind.u64.bits = n.toNat by simp [IntKind.bits]; omega, Int.one_mul]
theorem p_get (a b x : Int) (h0 : 0 ≤ x) (h1 : x < 18446744073709551616) : field_Field_Get.f a b x = some (getV a b x) := by
  unfold field_Field_Get.f
  rw [p_right]; simp only [Option.bind_some]
  cases h : fr a b
  · rw [if_neg (by decide), getV_no h]
  · obtain ⟨l, k, rfl, rfl, hlk, hk1⟩ := fr_nat h
    rw [if_pos rfl, if_pos (by omega), p_ones]; simp only [Option.bind_some]
    rw [getV_yes h]
    unfold shr
    rw [show min (l : Int).toNat IntKind.u64.bits = l by simp [IntKind.bits]; omega, and_ones _ _ (shr_range x l h0 h1).1 (shr_range x l h0 h1).2, show min (k : Int).toNat 64 = k by omega]

theorem p_low (va : Int) (h0 : 0 ≤ va) : virt_Low.f va = some (lowB va) := by
  unfold virt_Low.f
  rw [lowB_div va h0]
theorem p_bits (level : Int) : desc_Bits.f level = some (lbits level) := by
  unfold desc_Bits.f
  cases h : kn level
  · rw [lbits_no h]
    rcases kn_no h with h | h
    · rw [if_pos h]
    · rw [if_neg (by omega), if_pos (by omega)]
  · rw [lbits_yes h]
    have := kn_cases h
    rw [if_neg (by omega), if_neg (by omega), wrap64_in (3 - level) (by omega) (by omega), wrap64_in (9 * (3 - level)) (by omega) (by omega), wrap64_in _ (by omega) (by omega)]
    congr 1; omega
theorem p_known (level : Int) : virt_known.f level = some (kn level) := by
  unfold virt_known.f
  by_cases h : level ≥ 0
  · rw [if_pos h]; congr 1; unfold kn; rw [decide_eq_decide]; omega
  · rw [if_neg h]; congr 1; symm; unfold kn; rw [decide_eq_false_iff_not]; omega
theorem p_index (va level : Int) (h0 : 0 ≤ va) (h1 : va < 18446744073709551616) : virt_Index.f va level = some (idxV va level) := by
  unfold virt_Index.f
  rw [p_known]; simp only [Option.bind_some]
  cases h : kn level
  · rw [if_neg (by decide)]; simp [idxV, h]
  · rw [if_pos rfl, p_bits]; simp only [Option.bind_some]
    rw [p_get _ _ _ h0 h1]; simp only [Option.bind_some]
    have e : getV (lbits level) 9 va = idxV va level := by
      unfold getV
      rw [if_pos fr_level, idxV_yes h, ← lsize_pow h, show ((9 : Int).toNat) = 9 from rfl, p9]
    rw [e, wrap64_in _ (by rw [idxV_yes h]; omega) (by rw [idxV_yes h]; omega)]
theorem p_offset (va level : Int) (h0 : 0 ≤ va) (h1 : va < 18446744073709551616) : virt_Offset.f va level = some (offV va level) := by
  unfold virt_Offset.f
  rw [p_known]; simp only [Option.bind_some]
  cases h : kn level
  · rw [if_neg (by decide)]; simp [offV, h]
  · rw [if_pos rfl, p_bits]; simp only [Option.bind_some]
    rw [p_ones]; simp only [Option.bind_some]
    have := lbits_range level
    rw [and_ones _ _ h0 h1, show min (lbits level).toNat 64 = (lbits level).toNat by omega]
    simp [offV, h]

theorem p_down (x n : Int) (h0 : 0 ≤ x) (h1 : x < 18446744073709551616) : field_Down.f x n = some (dn x n) := by
  unfold field_Down.f
  rw [p_ones]; simp only [Option.bind_some]
  rw [andNot_ones x n h0 h1]; rfl
theorem p_base (va level : Int) (h0 : 0 ≤ va) (h1 : va < 18446744073709551616) : virt_Base.f va level = some (baseV va level) := by
  unfold virt_Base.f
  rw [p_known]; simp only [Option.bind_some]
  cases h : kn level
  · rw [if_neg (by decide)]; simp [baseV, h]
  · rw [if_pos rfl, p_ones, p_bits]; simp only [Option.bind_some]
    rw [and_ones _ _ h0 h1, show min (48 : Int).toNat 64 = 48 from rfl, p48, p_down _ _ (by omega) (by omega)]; simp only [Option.bind_some]
    have := lbits_range level
    unfold dn
    rw [show min (lbits level).toNat 64 = (lbits level).toNat by omega]
    simp [baseV, h]

theorem p_anchor : portreevelaw05_anchor.f = some true := by decide +kernel
/-- Are the indexes at so many levels from one on the same? -/
def eqFrom (a b : Int) : Nat → Int → Bool
  | 0, _ => true
  | d + 1, j => (idxV a j == idxV b j) && eqFrom a b d (j + 1)
theorem p_l0 (a b l : Int) (ha0 : 0 ≤ a) (ha1 : a < 18446744073709551616) (hb0 : 0 ≤ b) (hb1 : b < 18446744073709551616) (hl : l ≤ 3) (d : Nat) :
    ∀ (k : Nat) (x7 : Bool) (j : Int), 0 ≤ j → l + 1 - j = d → d < k → portreevelaw05_VirtIndexes.l0 k a b l x7 j = some ((x7 && eqFrom a b d j) == (baseV a l == baseV b l)) := by
  induction d with
  | zero =>
    intro k x7 j h0 hd hk
    obtain ⟨k, rfl⟩ : ∃ m, k = m + 1 := ⟨k - 1, by omega⟩
    simp only [portreevelaw05_VirtIndexes.l0]
    rw [if_neg (by omega), p_base _ _ ha0 ha1, p_base _ _ hb0 hb1]
    simp [eqFrom]
  | succ d ih =>
    intro k x7 j h0 hd hk
    obtain ⟨k, rfl⟩ : ∃ m, k = m + 1 := ⟨k - 1, by omega⟩
    simp only [portreevelaw05_VirtIndexes.l0]
    rw [if_pos (by omega), wrap64_in _ (by omega) (by omega)]
    cases x7
    · rw [if_neg (by decide), ih k false (j + 1) (by omega) (by omega) (by omega)]
      simp
    · rw [if_pos rfl, p_index _ _ ha0 ha1, p_index _ _ hb0 hb1]
      simp only [Option.bind_some]
      rw [ih k _ (j + 1) (by omega) (by omega) (by omega)]
      simp [eqFrom]
theorem same_base (a b l : Int) (ha0 : 0 ≤ a) (ha : a < 281474976710656) (hb0 : 0 ≤ b) (hb : b < 281474976710656) (hl : kn l = true) : eqFrom a b (l + 1).toNat 0 = (baseV a l == baseV b l) := by
  rw [baseV_yes hl, baseV_yes hl, Bool.eq_iff_iff]
  have k0 : kn 0 = true := by decide
  have k1 : kn 1 = true := by decide
  have k2 : kn 2 = true := by decide
  have k3 : kn 3 = true := by decide
  rcases kn_cases hl with rfl | rfl | rfl | rfl
  · simp [show ((0 : Int) + 1).toNat = 1 from rfl, eqFrom, idxV_yes k0, lsize]; omega
  · simp [show ((1 : Int) + 1).toNat = 2 from rfl, eqFrom, idxV_yes k0, idxV_yes k1, lsize]; omega
  · simp [show ((2 : Int) + 1).toNat = 3 from rfl, eqFrom, idxV_yes k0, idxV_yes k1, idxV_yes k2, lsize]; omega
  · simp [show ((3 : Int) + 1).toNat = 4 from rfl, eqFrom, idxV_yes k0, idxV_yes k1, idxV_yes k2, idxV_yes k3, lsize]; omega
theorem VirtIndexes : portreevelaw05_VirtIndexes.Pure := by
  intro a b l ha hb hl
  have ha' : 0 ≤ a ∧ a < 18446744073709551616 := by simp [Lit.wf, IntKind.min, IntKind.max, IntKind.bits, IntKind.signed] at ha; omega
  have hb' : 0 ≤ b ∧ b < 18446744073709551616 := by simp [Lit.wf, IntKind.min, IntKind.max, IntKind.bits, IntKind.signed] at hb; omega
  refine ⟨6, ?_⟩
  have hj : portreevelaw05_VirtIndexes.j0 6 a b l true = some true := by
    simp only [portreevelaw05_VirtIndexes.j0]; rfl
  unfold portreevelaw05_VirtIndexes.f
  rw [p_anchor]; simp only [Option.bind_some, if_true]
  by_cases h1 : l < 0
  · rw [if_pos h1]; exact hj
  · rw [if_neg h1]
    by_cases h2 : l > 3
    · rw [if_pos h2]; exact hj
    · rw [if_neg h2, p_low a ha'.1, p_low b hb'.1]; simp only [Option.bind_some]
      cases h3 : lowB a
      · rw [if_neg (by decide)]; exact hj
      · rw [if_pos rfl]
        cases h4 : lowB b
        · exact hj
        · have hk : kn l = true := by unfold kn; rw [decide_eq_true_eq]; omega
          simp only [portreevelaw05_VirtIndexes.j0, Bool.not_true]
          rw [if_neg (by decide), p_l0 a b l ha'.1 ha'.2 hb'.1 hb'.2 (by omega) (l + 1).toNat 5 true 0 (by omega) (by omega) (by omega)]
          rw [same_base a b l ha'.1 (of_decide_eq_true h3) hb'.1 (of_decide_eq_true h4) hk]
          simp
end Go.Proofs.Ytnidkgnillipgaa.Pure
