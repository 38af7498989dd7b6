/- desc.Ones, Aligned, Bits, leaf and Desc.Right: what each call answers. -/
import Derived.Test.YtfnmdelkdombbaaProg
import Derived.Test.YtfnmdelkdombbaaG
import Derived.Test.YtfnmdelkdombbaaB
import Derived.Test.YtfnmdelkdombbaaMc
namespace Go.Proofs.Ytfnmdelkdombbaa.Dr
open Go.RowKit Go.Proofs.Ytfnmdelkdombbaa.G Go.Proofs.Ytfnmdelkdombbaa.B Go.Proofs.Ytfnmdelkdombbaa.M

set_option linter.unusedVariables false
set_option linter.unusedSimpArgs false
set_option maxRecDepth 100000 in
set_option maxHeartbeats 1000000 in
theorem ones_any (n : Int) (w : World) : Calls Try.prog 36 #[.int .i64 n] w fun e w' => e = .returned (.int .u64 (ones n)) ∧ Below w.heap.size w w' := by
  have hB : Below w.heap.size w w := Below.refl _ _
  by_cases h0 : n < 1
  · rw [ones_low n h0]
    go_enter Try.func36, Try.ntmps36
    go_wp2
    go_ret
    exact ⟨rfl, hB⟩
  · replace h0 : 1 ≤ n := by omega
    by_cases h1 : 64 ≤ n
    · rw [ones_high n h1]
      go_enter Try.func36, Try.ntmps36
      go_wp2
      go_ret
      exact ⟨by simp, hB⟩
    · replace h1 : n < 64 := by omega
      have hm := Lib.hid (ones_mid n h0 h1)
      have n0 : 0 ≤ n := by omega
      go_enter Try.func36, Try.ntmps36
      go_wp2
      go_ret
      refine ⟨?_, hB⟩
      rw [← hm.out]
      simp
      try omega
set_option maxRecDepth 100000 in
set_option maxHeartbeats 1000000 in
theorem aligned_any (x n : Int) (h0 : 0 ≤ x) (h1 : x < 18446744073709551616) (w : World) : Calls Try.prog 38 #[.int .u64 x, .int .i64 n] w fun e w' => e = .returned (.bool (al x n)) ∧ Below w.heap.size w w' := by
  have CO := fun w => ones_any n w
  have ha := Lib.hid (and_ones x n h0 h1)
  have HM := Mem.nil w
  generalize ones n = o at CO ha
  go_enter Try.func38, Try.ntmps38
  go_wp2_with (first
    | (go_at_call 36; (with_reducible refine (M.call_pure (CO) HM).mono ?_); clear HM; rintro e w_ ⟨rfl, HM⟩; dsimp only)
    | ((fail_if_success (refine M.lit_t rfl ?_)); (fail_if_success (refine M.lit_f rfl ?_)); refine M.split_guard rfl rfl ?_ ?_ <;> (intro hg_; simp only [hg_]; try simp only [M.hgs] at hg_)))
  go_ret
  refine ⟨?_, HM.to_below⟩
  rw [ha.out]
  unfold al
  congr 2
set_option maxRecDepth 100000 in
set_option maxHeartbeats 1000000 in
theorem bits_any (level : Int) (w : World) : Calls Try.prog 37 #[.int .i64 level] w fun e w' => e = .returned (.int .i64 (lbits level)) ∧ Below w.heap.size w w' := by
  have hB : Below w.heap.size w w := Below.refl _ _
  by_cases h0 : level < 0
  · have e : lbits level = 0 := by unfold lbits kn; rw [if_neg (by simp; omega)]
    rw [e]
    go_enter Try.func37, Try.ntmps37
    go_wp2
    go_ret
    exact ⟨rfl, hB⟩
  · replace h0 : 0 ≤ level := by omega
    by_cases h1 : 4 ≤ level
    · have e : lbits level = 0 := by unfold lbits kn; rw [if_neg (by simp; omega)]
      rw [e]
      go_enter Try.func37, Try.ntmps37
      go_wp2
      go_ret
      exact ⟨rfl, hB⟩
    · replace h1 : level < 4 := by omega
      have e : lbits level = 12 + 9 * (3 - level) := by unfold lbits kn; rw [if_pos (by simp; omega)]; omega
      rw [e]
      clear e
      go_enter Try.func37, Try.ntmps37
      go_wp2
      go_ret
      exact ⟨rfl, hB⟩
def leafB (kind level : Int) : Bool := (kind == 2 && (level == 1 || level == 2)) || (kind == 3 && level == 3)
set_option maxRecDepth 100000 in
set_option maxHeartbeats 2000000 in
theorem leaf_any (kind level : Int) (w : World) : Calls Try.prog 50 #[.int .i64 kind, .int .i64 level] w fun e w' => e = .returned (.bool (leafB kind level)) ∧ Below w.heap.size w w' := by
  have HM := Mem.nil w
  generalize hr : leafB kind level = r
  have HR := Lib.hid hr; clear hr
  go_enter Try.func50, Try.ntmps50
  go_wp2_with (first
    | (refine Mc.at_cmp _ rfl ?_; refine Mc.cmp_m rfl _ rfl _ _ _ rfl _ _ _ rfl rfl _ rfl ?_ ?_ <;> (intro hg_; try simp only [M.hgs] at hg_; first | (exfalso; first | omega | (simp at hg_; done)) | (go_simp)))
    | ((fail_if_success (refine M.lit_t rfl ?_)); (fail_if_success (refine M.lit_f rfl ?_)); refine M.split_guard rfl rfl ?_ ?_ <;> (intro hg_; simp only [hg_]; try simp only [M.hgs] at hg_)))
  all_goals
    go_ret
    exact ⟨by rw [← HR.out]; simp [leafB, *], HM.to_below⟩
end Go.Proofs.Ytfnmdelkdombbaa.Dr
