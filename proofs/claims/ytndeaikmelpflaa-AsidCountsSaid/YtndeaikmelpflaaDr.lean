/- desc.Ones, Aligned, Bits, leaf and Desc.Right: what each call answers. -/
import Derived.Test.YtndeaikmelpflaaProg
import Derived.Test.YtndeaikmelpflaaG
import Derived.Test.YtndeaikmelpflaaB
import Derived.Test.YtndeaikmelpflaaMc
namespace Go.Proofs.Ytndeaikmelpflaa.Dr
open Go.RowKit Go.Proofs.Ytndeaikmelpflaa.G Go.Proofs.Ytndeaikmelpflaa.B Go.Proofs.Ytndeaikmelpflaa.M

set_option linter.unusedVariables false
set_option linter.unusedSimpArgs false
set_option maxRecDepth 100000 in
set_option maxHeartbeats 1000000 in
theorem ones_any (n : Int) (w : World) : Calls Try.prog 27 #[.int .i64 n] w fun e w' => e = .returned (.int .u64 (ones n)) ∧ Below w.heap.size w w' := by
  have hB : Below w.heap.size w w := Below.refl _ _
  by_cases h0 : n < 1
  · rw [ones_low n h0]
    go_enter Try.func27, Try.ntmps27
    go_wp2
    go_ret
    exact ⟨rfl, hB⟩
  · replace h0 : 1 ≤ n := by omega
    by_cases h1 : 64 ≤ n
    · rw [ones_high n h1]
      go_enter Try.func27, Try.ntmps27
      go_wp2
      go_ret
      exact ⟨by simp, hB⟩
    · replace h1 : n < 64 := by omega
      have hm := Lib.hid (ones_mid n h0 h1)
      have n0 : 0 ≤ n := by omega
      go_enter Try.func27, Try.ntmps27
      go_wp2
      go_ret
      refine ⟨?_, hB⟩
      rw [← hm.out]
      simp
      try omega
set_option maxRecDepth 100000 in
set_option maxHeartbeats 1000000 in
theorem aligned_any (x n : Int) (h0 : 0 ≤ x) (h1 : x < 18446744073709551616) (w : World) : Calls Try.prog 24 #[.int .u64 x, .int .i64 n] w fun e w' => e = .returned (.bool (al x n)) ∧ Below w.heap.size w w' := by
  have CO := fun w => ones_any n w
  have ha := Lib.hid (and_ones x n h0 h1)
  have HM := Mem.nil w
  generalize ones n = o at CO ha
  go_enter Try.func24, Try.ntmps24
  go_wp2_with (first
    | (go_at_call 27; (with_reducible refine (M.call_pure (CO) HM).mono ?_); clear HM; rintro e w_ ⟨rfl, HM⟩; dsimp only)
    | ((fail_if_success (refine M.lit_t rfl ?_)); (fail_if_success (refine M.lit_f rfl ?_)); refine M.split_guard rfl rfl ?_ ?_ <;> (intro hg_; simp only [hg_]; try simp only [M.hgs] at hg_)))
  go_ret
  refine ⟨?_, HM.to_below⟩
  rw [ha.out]
  unfold al
  congr 2
def leafB (kind level : Int) : Bool := (kind == 2 && (level == 1 || level == 2)) || (kind == 3 && level == 3)
end Go.Proofs.Ytndeaikmelpflaa.Dr
