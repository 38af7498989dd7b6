/- desc.bit, fixed, attr, the attributes' field, Desc.word and Encode: what each call answers. -/
import Derived.Test.YtfnmdelkdombbaaProg
import Derived.Test.YtfnmdelkdombbaaDs
import Derived.Test.YtfnmdelkdombbaaMv
namespace Go.Proofs.Ytfnmdelkdombbaa.Dk
open Go.RowKit Go.Proofs.Ytfnmdelkdombbaa.G Go.Proofs.Ytfnmdelkdombbaa.B Go.Proofs.Ytfnmdelkdombbaa.M Go.Proofs.Ytfnmdelkdombbaa.Dr Go.Proofs.Ytfnmdelkdombbaa.Ds

set_option linter.unusedVariables false
set_option linter.unusedSimpArgs false
set_option maxRecDepth 100000 in
set_option maxHeartbeats 1000000 in
theorem bit_any (n : Nat) (hn : n < 64) (b : Bool) (r : Int) (hr : (if b then 2 ^ n else 0) = r) (w : World) : Calls Try.prog 48 #[.int .i64 n, .bool b] w fun e w' => e = .returned (.int .u64 r) ∧ Below w.heap.size w w' := by
  cases b
  · obtain rfl : r = 0 := by simpa using hr.symm
    have HM := Mem.nil w
    go_enter Try.func48, Try.ntmps48
    go_wp2_with (first
      | ((fail_if_success (refine M.lit_t rfl ?_)); (fail_if_success (refine M.lit_f rfl ?_)); refine M.split_guard rfl rfl ?_ ?_ <;> (intro hg_; simp only [hg_]; try simp only [M.hgs] at hg_)))
    go_ret
    exact ⟨rfl, HM.none.to_below⟩
  · have hr' : (2 : Int) ^ n = r := by simpa using hr
    have hw : IntKind.u64.wrap ((2 : Int) ^ n) = r := by
      rw [hr']
      have := pow_lt64 n (by omega)
      refine u64_wrap r (by rw [← hr']; exact Int.le_of_lt (pow_pos' n)) ?_
      rw [← hr']
      have h63 := pow_le64 n (by omega)
      omega
    have HW := Lib.hid hw; clear hw hr'
    have HM := Mem.nil w
    have hn' : (0 : Int) ≤ n := by omega
    go_enter Try.func48, Try.ntmps48
    go_wp2_with (first
      | ((fail_if_success (refine M.lit_t rfl ?_)); (fail_if_success (refine M.lit_f rfl ?_)); refine M.split_guard rfl rfl ?_ ?_ <;> (intro hg_; simp only [hg_]; try simp only [M.hgs] at hg_)))
    go_ret
    exact ⟨congrArg (fun z => Ending.returned (Value.int .u64 z)) HW.out, HM.none.to_below⟩
set_option maxRecDepth 100000 in
set_option maxHeartbeats 1000000 in
theorem fixed_any (w : World) : Calls Try.prog 51 #[] w fun e w' => e = .returned (.int .u64 9007199254743808) ∧ Below w.heap.size w w' := by
  have HM := Mem.nil w
  go_enter Try.func51, Try.ntmps51
  go_wp2_with (first
    | ((fail_if_success (refine M.lit_t rfl ?_)); (fail_if_success (refine M.lit_f rfl ?_)); refine M.split_guard rfl rfl ?_ ?_ <;> (intro hg_; simp only [hg_]; try simp only [M.hgs] at hg_)))
  go_ret
  exact ⟨rfl, HM.none.to_below⟩
set_option maxRecDepth 100000 in
set_option maxHeartbeats 1000000 in
theorem fright_any (l k : Int) (h : 0 ≤ l ∧ l < 64 ∧ 1 ≤ k ∧ k ≤ 64 - l) (w : World) : Calls Try.prog 56 #[.agg #[.int .i64 l, .int .i64 k]] w fun e w' => e = .returned (.bool true) ∧ Below w.heap.size w w' := by
  have h1 := h.1; have h2 := h.2.1; have h3 := h.2.2.1; have h4 := h.2.2.2; clear h
  have HM := Mem.nil w
  go_enter Try.func56, Try.ntmps56
  go_wp2_with (first
    | (refine M.at_mem rfl ?_; first | (refine M.at_load 3 rfl ?_; first | (refine M.load_cell_m HM rfl 3 _ rfl 0 _ _ _ _ _ rfl rfl rfl (by kernel_rfl) (by kernel_rfl) ?_; go_simp)) | (refine M.at_box 105 rfl ?_; first | (refine M.box_m HM rfl rfl 105 _ rfl _ rfl ?_; clear HM; intro g_ w_ HM; go_simp)) | ((fail_if_success (refine M.lit_t rfl ?_)); (fail_if_success (refine M.lit_f rfl ?_)); refine M.split_guard rfl rfl ?_ ?_ <;> (intro hg_; simp only [hg_]; try simp only [M.hgs] at hg_)))
    | (refine Mc.at_cmp _ rfl ?_; refine Mc.cmp_m rfl _ rfl _ _ _ rfl _ _ _ rfl rfl _ rfl ?_ ?_ <;> (intro hg_; try simp only [M.hgs] at hg_; first | (exfalso; first | omega | (simp at hg_; done)) | (go_simp)))
    | ((fail_if_success (refine M.lit_t rfl ?_)); (fail_if_success (refine M.lit_f rfl ?_)); refine M.split_guard rfl rfl ?_ ?_ <;> (intro hg_; simp only [hg_]; try simp only [M.hgs] at hg_)))
  go_ret
  refine ⟨congrArg (fun z => Ending.returned (Value.bool z)) ?_, HM.none.to_below⟩
  simp
set_option maxRecDepth 100000 in
set_option maxHeartbeats 1000000 in
theorem word_leaf (kind out attr : Int) (user write exec used : Bool) (k3 : Bool) (hk : (kind = 2 ∧ k3 = false) ∨ (kind = 3 ∧ k3 = true)) (c1 c6 c7 c10 c54 r : Int) (a0 : 0 ≤ attr) (a7 : attr ≤ 7) (w : World)
    (C1 : ∀ w, Calls Try.prog 48 #[.int .i64 1, .bool k3] w fun e w' => e = .returned (.int .u64 c1) ∧ Below w.heap.size w w')
    (C6 : ∀ w, Calls Try.prog 48 #[.int .i64 6, .bool user] w fun e w' => e = .returned (.int .u64 c6) ∧ Below w.heap.size w w')
    (C7 : ∀ w, Calls Try.prog 48 #[.int .i64 7, .bool (!write)] w fun e w' => e = .returned (.int .u64 c7) ∧ Below w.heap.size w w')
    (C10 : ∀ w, Calls Try.prog 48 #[.int .i64 10, .bool used] w fun e w' => e = .returned (.int .u64 c10) ∧ Below w.heap.size w w')
    (C54 : ∀ w, Calls Try.prog 48 #[.int .i64 54, .bool (!exec)] w fun e w' => e = .returned (.int .u64 c54) ∧ Below w.heap.size w w')
    (CA : ∀ w, Calls Try.prog 49 #[] w fun e w' => e = .returned (.agg #[.int .i64 2, .int .i64 3]) ∧ Below w.heap.size w w')
    (CP : ∀ w, Calls Try.prog 52 #[.agg #[.int .i64 2, .int .i64 3], .int .u64 (Go.bits .or .u64 (Go.bits .or .u64 (Go.bits .or .u64 (Go.bits .or .u64 (Go.bits .or .u64 (Go.bits .or .u64 (Go.bits .or .u64 out 9007199254743808) 1) c1) c6) c7) c10) c54), .int .u64 attr] w fun e w' => e = .returned (.tuple #[.int .u64 r, .int .i64 0]) ∧ Below w.heap.size w w') :
    Calls Try.prog 33 #[.agg #[.int .i64 kind, .int .u64 out, .bool user, .bool write, .bool exec, .bool used, .int .i64 attr]] w fun e w' => e = .returned (.int .u64 r) ∧ Below w.heap.size w w' := by
  have CF := fixed_any
  rcases hk with ⟨rfl, rfl⟩ | ⟨rfl, rfl⟩
  all_goals
    have HM := Mem.nil w
    go_enter Try.func33, Try.ntmps33
    go_wp2_with (first
      | (go_at_call 51; (with_reducible refine (M.call_pure (CF) HM).mono ?_); clear HM; rintro e w_ ⟨rfl, HM⟩; dsimp only)
      | (go_at_call 48; (with_reducible refine (M.call_pure (C1) HM).mono ?_); clear HM; rintro e w_ ⟨rfl, HM⟩; dsimp only)
      | (go_at_call 48; (with_reducible refine (M.call_pure (C6) HM).mono ?_); clear HM; rintro e w_ ⟨rfl, HM⟩; dsimp only)
      | (go_at_call 48; (with_reducible refine (M.call_pure (C7) HM).mono ?_); clear HM; rintro e w_ ⟨rfl, HM⟩; dsimp only)
      | (go_at_call 48; (with_reducible refine (M.call_pure (C10) HM).mono ?_); clear HM; rintro e w_ ⟨rfl, HM⟩; dsimp only)
      | (go_at_call 48; (with_reducible refine (M.call_pure (C54) HM).mono ?_); clear HM; rintro e w_ ⟨rfl, HM⟩; dsimp only)
      | (go_at_call 49; (with_reducible refine (M.call_pure (CA) HM).mono ?_); clear HM; rintro e w_ ⟨rfl, HM⟩; dsimp only)
      | (go_at_call 52; (with_reducible refine (M.call_pure (CP) HM).mono ?_); clear HM; rintro e w_ ⟨rfl, HM⟩; dsimp only)
      | (refine M.at_reg 6 ?_; refine Mq.region_m (id := 6) HM (by kernel_rfl) (by kernel_rfl) ?_; (repeat (any_goals (first | go_big_quiet_skip | (refine Mq.qat_load 3 rfl ?_; go_big_quiet_want; first | (refine Mq.quiet_load_cell 3 _ rfl 0 _ _ _ _ _ rfl rfl rfl (by kernel_rfl) (by kernel_rfl) ?_; simp only [Act.put, List.setIfInBounds_toArray, List.set_cons_zero, List.set_cons_succ]; go_big_quiet_on)) | (refine Mq.qat_load 4 rfl ?_; go_big_quiet_want; first | (refine Mq.quiet_load_cell 4 _ rfl 0 _ _ _ _ _ rfl rfl rfl (by kernel_rfl) (by kernel_rfl) ?_; simp only [Act.put, List.setIfInBounds_toArray, List.set_cons_zero, List.set_cons_succ]; go_big_quiet_on)) | (refine Mq.qat_load 22 rfl ?_; go_big_quiet_want; first | (refine Mq.quiet_load_cell 22 _ rfl 0 _ _ _ _ _ rfl rfl rfl (by kernel_rfl) (by kernel_rfl) ?_; simp only [Act.put, List.setIfInBounds_toArray, List.set_cons_zero, List.set_cons_succ]; go_big_quiet_on)) | ((fail_if_success (refine Mq.qlit_t rfl ?_)); (fail_if_success (refine Mq.qlit_f rfl ?_)); refine Mq.qsplit rfl rfl ?_ ?_ <;> (intro hg_; simp only [hg_]; try simp only [M.hgs] at hg_)) | go_big_quiet_step (first | (go_at_call 51; with_reducible exact Mq.quiet_call_m (CF _)) | (go_at_call 48; with_reducible exact Mq.quiet_call_m (C1 _)) | (go_at_call 48; with_reducible exact Mq.quiet_call_m (C6 _)) | (go_at_call 48; with_reducible exact Mq.quiet_call_m (C7 _)) | (go_at_call 48; with_reducible exact Mq.quiet_call_m (C10 _)) | (go_at_call 48; with_reducible exact Mq.quiet_call_m (C54 _)) | (go_at_call 49; with_reducible exact Mq.quiet_call_m (CA _)) | (go_at_call 52; with_reducible exact Mq.quiet_call_m (CP _)) | exact rfl)))); all_goals (refine Go.Proofs.Ytfnmdelkdombbaa.G.wpQuiet_end ?_; clear HM; intro w_ HM))
      | (refine M.at_reg 7 ?_; refine Mq.region_m (id := 7) HM (by kernel_rfl) (by kernel_rfl) ?_; (repeat (any_goals (first | go_big_quiet_skip | (refine Mq.qat_load 3 rfl ?_; go_big_quiet_want; first | (refine Mq.quiet_load_cell 3 _ rfl 0 _ _ _ _ _ rfl rfl rfl (by kernel_rfl) (by kernel_rfl) ?_; simp only [Act.put, List.setIfInBounds_toArray, List.set_cons_zero, List.set_cons_succ]; go_big_quiet_on)) | (refine Mq.qat_load 4 rfl ?_; go_big_quiet_want; first | (refine Mq.quiet_load_cell 4 _ rfl 0 _ _ _ _ _ rfl rfl rfl (by kernel_rfl) (by kernel_rfl) ?_; simp only [Act.put, List.setIfInBounds_toArray, List.set_cons_zero, List.set_cons_succ]; go_big_quiet_on)) | (refine Mq.qat_load 22 rfl ?_; go_big_quiet_want; first | (refine Mq.quiet_load_cell 22 _ rfl 0 _ _ _ _ _ rfl rfl rfl (by kernel_rfl) (by kernel_rfl) ?_; simp only [Act.put, List.setIfInBounds_toArray, List.set_cons_zero, List.set_cons_succ]; go_big_quiet_on)) | ((fail_if_success (refine Mq.qlit_t rfl ?_)); (fail_if_success (refine Mq.qlit_f rfl ?_)); refine Mq.qsplit rfl rfl ?_ ?_ <;> (intro hg_; simp only [hg_]; try simp only [M.hgs] at hg_)) | go_big_quiet_step (first | (go_at_call 51; with_reducible exact Mq.quiet_call_m (CF _)) | (go_at_call 48; with_reducible exact Mq.quiet_call_m (C1 _)) | (go_at_call 48; with_reducible exact Mq.quiet_call_m (C6 _)) | (go_at_call 48; with_reducible exact Mq.quiet_call_m (C7 _)) | (go_at_call 48; with_reducible exact Mq.quiet_call_m (C10 _)) | (go_at_call 48; with_reducible exact Mq.quiet_call_m (C54 _)) | (go_at_call 49; with_reducible exact Mq.quiet_call_m (CA _)) | (go_at_call 52; with_reducible exact Mq.quiet_call_m (CP _)) | exact rfl)))); all_goals (refine Go.Proofs.Ytfnmdelkdombbaa.G.wpQuiet_end ?_; clear HM; intro w_ HM))
      | (refine M.at_mem rfl ?_; first | (refine M.at_load 3 rfl ?_; first | (refine M.load_cell_m HM rfl 3 _ rfl 0 _ _ _ _ _ rfl rfl rfl (by kernel_rfl) (by kernel_rfl) ?_; go_simp)) | (refine M.at_load 4 rfl ?_; first | (refine M.load_cell_m HM rfl 4 _ rfl 0 _ _ _ _ _ rfl rfl rfl (by kernel_rfl) (by kernel_rfl) ?_; go_simp)) | (refine M.at_load 22 rfl ?_; first | (refine M.load_cell_m HM rfl 22 _ rfl 0 _ _ _ _ _ rfl rfl rfl (by kernel_rfl) (by kernel_rfl) ?_; go_simp)) | (refine M.at_box 33 rfl ?_; first | (refine M.box_m HM rfl rfl 33 _ rfl _ rfl ?_; clear HM; intro g_ w_ HM; go_simp)) | ((fail_if_success (refine M.lit_t rfl ?_)); (fail_if_success (refine M.lit_f rfl ?_)); refine M.split_guard rfl rfl ?_ ?_ <;> (intro hg_; simp only [hg_]; try simp only [M.hgs] at hg_)))
      | ((fail_if_success (refine M.lit_t rfl ?_)); (fail_if_success (refine M.lit_f rfl ?_)); refine M.split_guard rfl rfl ?_ ?_ <;> (intro hg_; simp only [hg_]; try simp only [M.hgs] at hg_)))
  all_goals
    go_ret
    exact ⟨rfl, HM.none.to_below⟩
end Go.Proofs.Ytfnmdelkdombbaa.Dk
