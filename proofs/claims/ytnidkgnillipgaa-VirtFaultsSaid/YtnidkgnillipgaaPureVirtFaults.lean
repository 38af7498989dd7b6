/- What the law VirtFaults reckons is true: plain numbers. -/
import Derived.Test.YtnidkgnillipgaaPVirtFaultsx3
import Derived.Test.YtnidkgnillipgaaB
namespace Go.Proofs.Ytnidkgnillipgaa.PureVirtFaults
open Go.RowKit Go.Proofs.Ytnidkgnillipgaa.PVirtFaults Go.Proofs.YtnidkgnillipgaaW.PrintWords Go.Proofs.YtnidkgnillipgaaW.PrintLast Go.Proofs.YtnidkgnillipgaaW.PrintMore Go.Proofs.Ytnidkgnillipgaa.B
set_option linter.unusedVariables false
set_option linter.unusedSimpArgs false
theorem wrap64_in (x : Int) (h0 : -9223372036854775808 ≤ x) (h1 : x ≤ 9223372036854775807) : wrap64 x = x := by unfold wrap64; omega
theorem p_anchor : portreevelaw05_anchor.f = some true := by decide +kernel
theorem p_known (level : Int) : virt_known.f level = some (kn level) := by
  unfold virt_known.f
  by_cases h : level ≥ 0
  · rw [if_pos h]; congr 1; unfold kn; rw [decide_eq_decide]; omega
  · rw [if_neg h]; congr 1; symm; unfold kn; rw [decide_eq_false_iff_not]; omega
/-- May a fault be? -/
def may (k l : Int) : Bool := if k = 0 ∨ k = 5 ∨ k = 6 then l == 0 else decide (1 ≤ k ∧ k ≤ 4 ∧ 0 ≤ l ∧ l ≤ 3)
theorem may_range {k l : Int} (h : may k l = true) : 0 ≤ k ∧ k ≤ 6 ∧ 0 ≤ l ∧ l ≤ 3 := by
  unfold may at h
  split at h
  · simp at h; omega
  · simp at h; omega
theorem p_rright (k l : Int) : portreeveref05_Right.f k l = some (may k l) := by
  unfold portreeveref05_Right.f may
  by_cases h0 : k = 0
  · simp [h0]
  · by_cases h5 : k = 5
    · simp [h5]
    · by_cases h6 : k = 6
      · simp [h6]
      · rw [if_neg h0, if_neg h5, if_neg h6, if_neg (show ¬ (k = 0 ∨ k = 5 ∨ k = 6) by omega)]
        by_cases h1 : k ≥ 1
        · by_cases h4 : k ≤ 4
          · by_cases hl : l ≥ 0
            · rw [if_pos h1, if_pos h4, if_pos hl]; congr 1; rw [decide_eq_decide]; omega
            · rw [if_pos h1, if_pos h4, if_neg hl]; congr 1; symm; rw [decide_eq_false_iff_not]; omega
          · rw [if_pos h1, if_neg h4]; congr 1; symm; rw [decide_eq_false_iff_not]; omega
        · rw [if_neg h1]; congr 1; symm; rw [decide_eq_false_iff_not]; omega
theorem p_right (k l : Int) : virt_Fault_right.f k l = some (may k l) := by
  rw [← p_rright]
  unfold portreeveref05_Right.f virt_Fault_right.f
  rw [p_known]
  simp only [Option.bind_some]
  by_cases hl : l ≥ 0
  · rw [if_pos hl, show kn l = decide (l ≤ 3) by unfold kn; rw [decide_eq_decide]; omega]
  · rw [if_neg hl, show kn l = false by unfold kn; rw [decide_eq_false_iff_not]; omega]
/-- A fault's word. -/
def wordV (k l : Int) : Int := if may k l then 16 * l + k else 0
theorem wordV_yes {k l : Int} (h : may k l = true) : wordV k l = 16 * l + k := by simp [wordV, h]
theorem p_word (k l : Int) : virt_Fault_Word.f k l = some (wordV k l) := by
  unfold virt_Fault_Word.f
  rw [p_right]; simp only [Option.bind_some]
  cases h : may k l
  · rw [if_neg (by decide)]; simp [wordV, h]
  · rw [if_pos rfl, wordV_yes h]
    have r := may_range h
    rw [u64_wrap l (by omega) (by omega), u64_wrap (l * 16) (by omega) (by omega), u64_wrap k (by omega) (by omega)]
    obtain ⟨n, rfl⟩ := Int.eq_ofNat_of_zero_le r.1
    obtain ⟨m, rfl⟩ := Int.eq_ofNat_of_zero_le r.2.2.1
    have e : bits .or .u64 ((m : Int) * 16) (n : Int) = 16 * (m : Int) + n := by
      have hm : m ≤ 3 := by omega
      have hn : n ≤ 6 := by omega
      have e1 : ((m : Int) * 16) = ((m * 16 : Nat) : Int) := by simp
      rw [e1, bits_or _ _ (by rw [n64]; omega) (by rw [n64]; omega)]
      have e2 : m * 16 ||| n = 16 * m + n := by
        have := Nat.two_pow_add_eq_or_of_lt (i := 4) (show n < 2 ^ 4 by omega) m
        rw [Nat.mul_comm m 16]
        exact this.symm
      rw [e2]; simp
    rw [e]
theorem p_read (x : Int) (h0 : 0 ≤ x) (h1 : x < 18446744073709551616) : virt_ReadFault.f x = some (if may (x % 16) (x / 16 % 4) = true ∧ x < 64 then (x % 16, x / 16 % 4, true) else (0, 0, false)) := by
  unfold virt_ReadFault.f
  have e1 : bits .and .u64 x 15 = x % 16 := by
    have := and_ones x 4 h0 h1
    have e : ones 4 = 15 := by decide
    rw [e] at this
    simpa using this
  have e2 : bits .and .u64 (x / 16) 3 = x / 16 % 4 := by
    have := and_ones (x / 16) 2 (by omega) (by omega)
    have e : ones 2 = 3 := by decide
    rw [e] at this
    simpa using this
  rw [e1, e2, wrap64_in (x % 16) (by omega) (by omega), wrap64_in (x / 16 % 4) (by omega) (by omega), p_right]
  simp only [Option.bind_some]
  cases h : may (x % 16) (x / 16 % 4)
  · simp
  · rw [if_pos rfl, p_word, wordV_yes h]; simp only [Option.bind_some]
    by_cases hx : x < 64
    · rw [if_pos (show 16 * (x / 16 % 4) + x % 16 = x by omega), if_pos ⟨trivial, hx⟩]
    · rw [if_neg (show ¬ 16 * (x / 16 % 4) + x % 16 = x by omega), if_neg (fun hh => hx hh.2)]
theorem p_j0 (k : Nat) (x : Int) (h0 : 0 ≤ x) (h1 : x < 18446744073709551616) : portreevelaw05_VirtFaults.j0 (k + 1) x = some true := by
  simp only [portreevelaw05_VirtFaults.j0]
  rw [p_read x h0 h1]; simp only [Option.bind_some]
  by_cases h : may (x % 16) (x / 16 % 4) = true ∧ x < 64
  · rw [if_pos h]
    simp only [if_true]
    rw [p_word, wordV_yes h.1]; simp only [Option.bind_some]
    rw [if_pos (by omega), p_rright, h.1]; rfl
  · rw [if_neg h]
    simp only [Bool.false_eq_true, if_false, beq_self_eq_true, Bool.and_self, if_true]
    by_cases hx : x > 63
    · rw [if_pos hx]
    · have e1 : Int.tmod x 16 = x % 16 := Int.tmod_eq_emod_of_nonneg h0
      have e2 : Int.tdiv x 16 = x / 16 := Int.tdiv_eq_ediv_of_nonneg h0
      rw [if_neg hx, e1, e2, u64_wrap (x / 16) (by omega) (by omega), wrap64_in (x % 16) (by omega) (by omega), wrap64_in (x / 16) (by omega) (by omega), p_rright]
      simp only [Option.bind_some]
      have e3 : x / 16 % 4 = x / 16 := by omega
      rw [e3] at h
      have : may (x % 16) (x / 16) = false := by
        cases hm : may (x % 16) (x / 16)
        · rfl
        · exact absurd ⟨hm, by omega⟩ h
      rw [this]; rfl
theorem p_back (k l : Int) (h : may k l = true) : virt_ReadFault.f (16 * l + k) = some (k, l, true) := by
  have r := may_range h
  rw [p_read _ (by omega) (by omega)]
  have e1 : (16 * l + k) % 16 = k := by omega
  have e2 : (16 * l + k) / 16 % 4 = l := by omega
  rw [e1, e2]
  rw [if_pos ⟨h, by omega⟩]
theorem virtFaults (k l x : Int) (h0 : 0 ≤ x) (h1 : x < 18446744073709551616) : portreevelaw05_VirtFaults.f 1 k l x = some true := by
  have hj : portreevelaw05_VirtFaults.j0 1 x = some true := p_j0 0 x h0 h1
  unfold portreevelaw05_VirtFaults.f
  rw [p_anchor, Option.bind_some, if_pos rfl, p_rright, Option.bind_some]
  cases h : may k l
  · have hw : wordV k l = 0 := by simp [wordV, h]
    rw [if_neg Bool.false_ne_true, p_word, Option.bind_some, if_pos hw, hj]
  · rw [if_pos rfl, p_word, wordV_yes h, Option.bind_some, p_back k l h, Option.bind_some, if_pos rfl, hj]
    simp
theorem virtFaults_any (k l x : Int) (h0 : 0 ≤ x) (h1 : x < 18446744073709551616) (w : World) :
    Calls Try.prog 11 #[.agg #[.int .i64 k, .int .i64 l], .int .u64 x] w fun e w' => e = .returned (.bool true) ∧ Below w.heap.size w w' :=
  portreevelaw05_VirtFaults.calls 1 k l x true w (virtFaults k l x h0 h1)
end Go.Proofs.Ytnidkgnillipgaa.PureVirtFaults
