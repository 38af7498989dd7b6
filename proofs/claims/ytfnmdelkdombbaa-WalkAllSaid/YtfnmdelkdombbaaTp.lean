/- Addresses, and entries: virt.Low, Base, the document's Base, both Right, both Matches, listed, page, New, meets: what each call answers. -/
import Derived.Test.YtfnmdelkdombbaaProg
import Derived.Test.YtfnmdelkdombbaaMv
import Derived.Test.YtfnmdelkdombbaaDs
import Derived.Test.YtfnmdelkdombbaaLg
import Derived.Test.YtfnmdelkdombbaaTe
namespace Go.Proofs.Ytfnmdelkdombbaa.Tp
open Go.RowKit Go.Proofs.Ytfnmdelkdombbaa.G Go.Proofs.Ytfnmdelkdombbaa.B Go.Proofs.Ytfnmdelkdombbaa.M Go.Proofs.Ytfnmdelkdombbaa.Mv Go.Proofs.Ytfnmdelkdombbaa.Sl Go.Proofs.Ytfnmdelkdombbaa.Sm Go.Proofs.Ytfnmdelkdombbaa.Sn Go.Proofs.Ytfnmdelkdombbaa.Te Go.Proofs.Ytfnmdelkdombbaa.Dr Go.Proofs.Ytfnmdelkdombbaa.Ds

set_option linter.unusedVariables false
set_option linter.unusedSimpArgs false
set_option maxRecDepth 100000
set_option maxHeartbeats 2000000
theorem fdown_any (x n : Int) (h0 : 0 ≤ x) (h1 : x < 18446744073709551616) (w : World) : Calls Try.prog 35 #[.int .u64 x, .int .i64 n] w fun e w' => e = .returned (.int .u64 (dn x n)) ∧ Below w.heap.size w w' := by
  have CO := fun w => ones_any n w
  have ha := Lib.hid (andNot_ones x n h0 h1)
  have HM := Mem.nil w
  generalize ones n = o at CO ha
  go_enter Try.func35, Try.ntmps35
  go_wp2_with (first
    | (go_at_call 36; (with_reducible refine (M.call_pure (CO) HM).mono ?_); clear HM; rintro e w_ ⟨rfl, HM⟩; dsimp only)
    | ((fail_if_success (refine M.lit_t rfl ?_)); (fail_if_success (refine M.lit_f rfl ?_)); refine M.split_guard rfl rfl ?_ ?_ <;> (intro hg_; simp only [hg_]; try simp only [M.hgs] at hg_)))
  go_ret
  refine ⟨?_, HM.to_below⟩
  unfold dn
  simp
  exact ha.out
theorem known_any (level : Int) (w : World) : Calls Try.prog 34 #[.int .i64 level] w fun e w' => e = .returned (.bool (kn level)) ∧ Below w.heap.size w w' := by
  have HM := Mem.nil w
  generalize hr : kn level = r
  have HR := Lib.hid hr; clear hr
  go_enter Try.func34, Try.ntmps34
  go_wp2_with (first
    | (refine Mc.at_cmp _ rfl ?_; refine Mc.cmp_m rfl _ rfl _ _ _ rfl _ _ _ rfl rfl _ rfl ?_ ?_ <;> (intro hg_; try simp only [M.hgs] at hg_; first | (exfalso; first | omega | (simp at hg_; done)) | (go_simp)))
    | ((fail_if_success (refine M.lit_t rfl ?_)); (fail_if_success (refine M.lit_f rfl ?_)); refine M.split_guard rfl rfl ?_ ?_ <;> (intro hg_; simp only [hg_]; try simp only [M.hgs] at hg_)))
  all_goals
    go_ret
    refine ⟨congrArg (fun z => Ending.returned (Value.bool z)) ?_, HM.to_below⟩
    rw [← HR.out]
    unfold kn
    symm
    first | (exact decide_eq_true (by omega)) | (exact decide_eq_false (by omega))
theorem vlow_any (va : Int) (h0 : 0 ≤ va) (w : World) : Calls Try.prog 20 #[.int .u64 va] w fun e w' => e = .returned (.bool (lowB va)) ∧ Below w.heap.size w w' := by
  have HM := Mem.nil w
  have HR := Lib.hid (lowB_div va h0)
  generalize lowB va = r at HR
  go_enter Try.func20, Try.ntmps20
  go_wp2_with (first
    | ((fail_if_success (refine M.lit_t rfl ?_)); (fail_if_success (refine M.lit_f rfl ?_)); refine M.split_guard rfl rfl ?_ ?_ <;> (intro hg_; simp only [hg_]; try simp only [M.hgs] at hg_)))
  all_goals
    go_ret
    refine ⟨congrArg (fun z => Ending.returned (Value.bool z)) ?_, HM.to_below⟩
    rw [← HR.out]
    try rfl
theorem vbase_any (va level : Int) (h0 : 0 ≤ va) (h1 : va < 18446744073709551616) (w : World) : Calls Try.prog 17 #[.int .u64 va, .int .i64 level] w fun e w' => e = .returned (.int .u64 (baseV va level)) ∧ Below w.heap.size w w' := by
  have CK := fun w => known_any level w
  have HM := Mem.nil w
  cases hk : kn level with
  | false =>
    rw [hk] at CK
    have e : baseV va level = 0 := by simp [baseV, hk]
    rw [e]; clear e hk
    go_enter Try.func17, Try.ntmps17
    go_wp2_with (first
      | (go_at_call 34; (with_reducible refine (M.call_pure (CK) HM).mono ?_); clear HM; rintro e w_ ⟨rfl, HM⟩; dsimp only)
      | ((fail_if_success (refine M.lit_t rfl ?_)); (fail_if_success (refine M.lit_f rfl ?_)); refine M.split_guard rfl rfl ?_ ?_ <;> (intro hg_; simp only [hg_]; try simp only [M.hgs] at hg_)))
    go_ret
    exact ⟨by first | rfl | simp, HM.to_below⟩
  | true =>
    rw [hk] at CK
    have CO := fun w => ones_any 48 w
    have CB := fun w => bits_any level w
    have ha := and_ones va 48 h0 h1
    rw [show min (Int.toNat 48) 64 = 48 from rfl, p48] at ha
    have hlt := Int.emod_lt_of_pos va (show (0 : Int) < 281474976710656 by decide)
    have hge := Int.emod_nonneg va (show (281474976710656 : Int) ≠ 0 by decide)
    have CD := fun w => fdown_any (va % 281474976710656) (lbits level) hge (by omega) w
    have e : dn (va % 281474976710656) (lbits level) = baseV va level := by
      have hr := lbits_range level
      unfold dn
      rw [show min (lbits level).toNat 64 = (lbits level).toNat by omega]
      simp [baseV, hk]
    rw [e] at CD
    rw [← ha] at CD
    clear e ha hlt hge hk
    generalize baseV va level = bv at CD
    generalize ones 48 = o at CO CD
    generalize lbits level = lb at CB CD
    go_enter Try.func17, Try.ntmps17
    go_wp2_with (first
      | (go_at_call 34; (with_reducible refine (M.call_pure (CK) HM).mono ?_); clear HM; rintro e w_ ⟨rfl, HM⟩; dsimp only)
      | (go_at_call 36; (with_reducible refine (M.call_pure (CO) HM).mono ?_); clear HM; rintro e w_ ⟨rfl, HM⟩; dsimp only)
      | (go_at_call 37; (with_reducible refine (M.call_pure (CB) HM).mono ?_); clear HM; rintro e w_ ⟨rfl, HM⟩; dsimp only)
      | (go_at_call 35; (with_reducible refine (M.call_pure (CD) HM).mono ?_); clear HM; rintro e w_ ⟨rfl, HM⟩; dsimp only)
      | ((fail_if_success (refine M.lit_t rfl ?_)); (fail_if_success (refine M.lit_f rfl ?_)); refine M.split_guard rfl rfl ?_ ?_ <;> (intro hg_; simp only [hg_]; try simp only [M.hgs] at hg_)))
    go_ret
    exact ⟨by first | rfl | simp, HM.to_below⟩
theorem dright_any (level kind out attr : Int) (user write exec used : Bool) (h0 : 0 ≤ out) (h1 : out < 18446744073709551616) (w : World) :
    Calls Try.prog 32 #[.agg #[.int .i64 kind, .int .u64 out, .bool user, .bool write, .bool exec, .bool used, .int .i64 attr], .int .i64 level] w fun e w' => e = .returned (.bool (rightV level kind out user write exec used attr)) ∧ Below w.heap.size w w' := by
  by_cases h : level < 0 ∨ 4 ≤ level ∨ kind = 0 ∨ kind = 1
  · exact dright_low level kind out attr user write exec used h0 h1 h w
  · exact dright_leaf level kind out attr user write exec used h0 h1 (by omega) (by omega) (by omega) (by omega) w
/-- May an entry be? -/
def rightE (e : E) : Bool := decide (0 ≤ e.asid ∧ e.asid ≤ 255 ∧ 1 ≤ e.level ∧ e.level ≤ 3) && (lowB e.va && (decide (baseV e.va e.level = e.va) && (decide (e.kind = 2 ∨ e.kind = 3) && (rightV e.level e.kind e.out e.user e.write e.exec e.used e.attr && e.used))))
end Go.Proofs.Ytfnmdelkdombbaa.Tp
