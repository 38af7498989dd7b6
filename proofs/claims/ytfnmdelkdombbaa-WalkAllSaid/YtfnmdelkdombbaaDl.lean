/- desc.attr, field.Mask, Put and Get at the fields of a descriptor: what each call answers. -/
import Derived.Test.YtfnmdelkdombbaaProg
import Derived.Test.YtfnmdelkdombbaaDk
namespace Go.Proofs.Ytfnmdelkdombbaa.Dl
open Go.RowKit Go.Proofs.Ytfnmdelkdombbaa.G Go.Proofs.Ytfnmdelkdombbaa.B Go.Proofs.Ytfnmdelkdombbaa.M Go.Proofs.Ytfnmdelkdombbaa.Dr Go.Proofs.Ytfnmdelkdombbaa.Ds Go.Proofs.Ytfnmdelkdombbaa.Dk Go.Proofs.Ytfnmdelkdombbaa.Mv

set_option linter.unusedVariables false
set_option linter.unusedSimpArgs false
set_option maxRecDepth 100000 in
set_option maxHeartbeats 1000000 in
theorem attr_any (w : World) : Calls Try.prog 49 #[] w fun e w' => e = .returned (.agg #[.int .i64 2, .int .i64 3]) ∧ Below w.heap.size w w' := by
  have HM := Mem.nil w
  go_enter Try.func49, Try.ntmps49
  go_wp2_with (first
    | (refine M.at_mem rfl ?_; first | (refine M.at_store 105 rfl ?_; first | (refine M.store_row_m HM rfl 105 _ _ rfl 0 _ _ _ _ rfl rfl rfl (by kernel_rfl) rfl (by simp [Value.oneCell']) ?_; clear HM; intro w_ HM; (try simp only [M.nrm] at HM); go_simp)) | (refine M.at_alloc 105 rfl ?_; first | (refine M.alloc_m HM rfl rfl 105 rfl (.agg #[(.int .i64 0), (.int .i64 0)]) (by kernel_rfl) #[(.int .i64 0), (.int .i64 0)] rfl ?_; clear HM; intro g_ w_ HM; go_simp)) | ((fail_if_success (refine M.lit_t rfl ?_)); (fail_if_success (refine M.lit_f rfl ?_)); refine M.split_guard rfl rfl ?_ ?_ <;> (intro hg_; simp only [hg_]; try simp only [M.hgs] at hg_)))
    | ((fail_if_success (refine M.lit_t rfl ?_)); (fail_if_success (refine M.lit_f rfl ?_)); refine M.split_guard rfl rfl ?_ ?_ <;> (intro hg_; simp only [hg_]; try simp only [M.hgs] at hg_)))
  refine bodyPost_ret (res_c HM rfl _ 0 _ _ _ rfl rfl (by kernel_rfl) (by kernel_rfl)) rfl ?_
  exact ⟨rfl, HM.none.to_below⟩
set_option maxRecDepth 100000 in
set_option maxHeartbeats 1000000 in
theorem mask_any (w : World) : Calls Try.prog 57 #[.agg #[.int .i64 2, .int .i64 3]] w fun e w' => e = .returned (.int .u64 28) ∧ Below w.heap.size w w' := by
  have CR := fun w => fright_any 2 3 (by decide) w
  have CO : ∀ w, Calls Try.prog 36 #[.int .i64 3] w fun e w' => e = .returned (.int .u64 7) ∧ Below w.heap.size w w' := fun w => ones_any 3 w
  have HM := Mem.nil w
  go_enter Try.func57, Try.ntmps57
  go_wp2_with (first
    | (go_at_call 56; (with_reducible refine (M.call_pure (CR) HM).mono ?_); clear HM; rintro e w_ ⟨rfl, HM⟩; dsimp only)
    | (go_at_call 36; (with_reducible refine (M.call_pure (CO) HM).mono ?_); clear HM; rintro e w_ ⟨rfl, HM⟩; dsimp only)
    | (refine M.at_reg 3 ?_; refine Mq.region_m (id := 3) HM (by kernel_rfl) (by kernel_rfl) ?_; (repeat (any_goals (first | go_big_quiet_skip | (refine Mq.qat_load 3 rfl ?_; go_big_quiet_want; first | (refine Mq.quiet_load_cell 3 _ rfl 0 _ _ _ _ _ rfl rfl rfl (by kernel_rfl) (by kernel_rfl) ?_; simp only [Act.put, List.setIfInBounds_toArray, List.set_cons_zero, List.set_cons_succ]; go_big_quiet_on)) | (refine Mq.qat_load 105 rfl ?_; go_big_quiet_want; first | (refine Mq.quiet_load_row 105 _ rfl 0 _ _ _ rfl rfl (by kernel_rfl) (by kernel_rfl) ?_; simp only [Act.put, List.setIfInBounds_toArray, List.set_cons_zero, List.set_cons_succ]; go_big_quiet_on)) | ((fail_if_success (refine Mq.qlit_t rfl ?_)); (fail_if_success (refine Mq.qlit_f rfl ?_)); refine Mq.qsplit rfl rfl ?_ ?_ <;> (intro hg_; simp only [hg_]; try simp only [M.hgs] at hg_)) | go_big_quiet_step (first | (go_at_call 56; with_reducible exact Mq.quiet_call_m (CR _)) | (go_at_call 36; with_reducible exact Mq.quiet_call_m (CO _)) | exact rfl)))); all_goals (refine Go.Proofs.Ytfnmdelkdombbaa.G.wpQuiet_end ?_; clear HM; intro w_ HM))
    | (refine M.at_mem rfl ?_; first | (refine M.at_load 3 rfl ?_; first | (refine M.load_cell_m HM rfl 3 _ rfl 0 _ _ _ _ _ rfl rfl rfl (by kernel_rfl) (by kernel_rfl) ?_; go_simp)) | (refine M.at_load 105 rfl ?_; first | (refine M.load_row_m HM rfl 105 _ rfl 0 _ _ _ rfl rfl (by kernel_rfl) (by kernel_rfl) ?_; go_simp)) | (refine M.at_box 105 rfl ?_; first | (refine M.box_m HM rfl rfl 105 _ rfl _ rfl ?_; clear HM; intro g_ w_ HM; go_simp)) | ((fail_if_success (refine M.lit_t rfl ?_)); (fail_if_success (refine M.lit_f rfl ?_)); refine M.split_guard rfl rfl ?_ ?_ <;> (intro hg_; simp only [hg_]; try simp only [M.hgs] at hg_)))
    | ((fail_if_success (refine M.lit_t rfl ?_)); (fail_if_success (refine M.lit_f rfl ?_)); refine M.split_guard rfl rfl ?_ ?_ <;> (intro hg_; simp only [hg_]; try simp only [M.hgs] at hg_)))
  all_goals
    go_ret
    exact ⟨by first | rfl | decide +kernel, HM.none.to_below⟩
theorem and7 (v : Int) (v0 : 0 ≤ v) (v7 : v ≤ 7) : Go.bits .andNot .u64 v 7 = 0 := by
  obtain rfl | rfl | rfl | rfl | rfl | rfl | rfl | rfl : v = 0 ∨ v = 1 ∨ v = 2 ∨ v = 3 ∨ v = 4 ∨ v = 5 ∨ v = 6 ∨ v = 7 := by omega
  all_goals decide +kernel
set_option maxRecDepth 100000 in
set_option maxHeartbeats 1000000 in
theorem put_any (x v : Int) (v0 : 0 ≤ v) (v7 : v ≤ 7) (r : Int) (hr : Go.bits .or .u64 (Go.bits .andNot .u64 x 28) (v * 4) = r) (w : World) : Calls Try.prog 52 #[.agg #[.int .i64 2, .int .i64 3], .int .u64 x, .int .u64 v] w fun e w' => e = .returned (.tuple #[.int .u64 r, .int .i64 0]) ∧ Below w.heap.size w w' := by
  have CR := fun w => fright_any 2 3 (by decide) w
  have CO : ∀ w, Calls Try.prog 36 #[.int .i64 3] w fun e w' => e = .returned (.int .u64 7) ∧ Below w.heap.size w w' := fun w => ones_any 3 w
  have CM := mask_any
  have HR := Lib.hid hr; clear hr
  have e7 := and7 v v0 v7
  have HM := Mem.nil w
  go_enter Try.func52, Try.ntmps52
  go_wp2_with (first
    | (go_at_call 56; (with_reducible refine (M.call_pure (CR) HM).mono ?_); clear HM; rintro e w_ ⟨rfl, HM⟩; dsimp only)
    | (go_at_call 36; (with_reducible refine (M.call_pure (CO) HM).mono ?_); clear HM; rintro e w_ ⟨rfl, HM⟩; dsimp only)
    | (go_at_call 57; (with_reducible refine (M.call_pure (CM) HM).mono ?_); clear HM; rintro e w_ ⟨rfl, HM⟩; dsimp only)
    | (refine M.at_reg 5 ?_; refine Mq.region_m (id := 5) HM (by kernel_rfl) (by kernel_rfl) ?_; (repeat (any_goals (first | go_big_quiet_skip | (refine Mq.qat_load 3 rfl ?_; go_big_quiet_want; first | (refine Mq.quiet_load_cell 3 _ rfl 0 _ _ _ _ _ rfl rfl rfl (by kernel_rfl) (by kernel_rfl) ?_; simp only [Act.put, List.setIfInBounds_toArray, List.set_cons_zero, List.set_cons_succ]; go_big_quiet_on)) | (refine Mq.qat_load 105 rfl ?_; go_big_quiet_want; first | (refine Mq.quiet_load_row 105 _ rfl 0 _ _ _ rfl rfl (by kernel_rfl) (by kernel_rfl) ?_; simp only [Act.put, List.setIfInBounds_toArray, List.set_cons_zero, List.set_cons_succ]; go_big_quiet_on)) | ((fail_if_success (refine Mq.qlit_t rfl ?_)); (fail_if_success (refine Mq.qlit_f rfl ?_)); refine Mq.qsplit rfl rfl ?_ ?_ <;> (intro hg_; simp only [hg_]; try simp only [M.hgs] at hg_)) | go_big_quiet_step (first | (go_at_call 56; with_reducible exact Mq.quiet_call_m (CR _)) | (go_at_call 36; with_reducible exact Mq.quiet_call_m (CO _)) | (go_at_call 57; with_reducible exact Mq.quiet_call_m (CM _)) | exact rfl)))); all_goals (refine Go.Proofs.Ytfnmdelkdombbaa.G.wpQuiet_end ?_; clear HM; intro w_ HM))
    | (refine M.at_mem rfl ?_; first | (refine M.at_load 3 rfl ?_; first | (refine M.load_cell_m HM rfl 3 _ rfl 0 _ _ _ _ _ rfl rfl rfl (by kernel_rfl) (by kernel_rfl) ?_; go_simp)) | (refine M.at_load 105 rfl ?_; first | (refine M.load_row_m HM rfl 105 _ rfl 0 _ _ _ rfl rfl (by kernel_rfl) (by kernel_rfl) ?_; go_simp)) | (refine M.at_box 105 rfl ?_; first | (refine M.box_m HM rfl rfl 105 _ rfl _ rfl ?_; clear HM; intro g_ w_ HM; go_simp)) | ((fail_if_success (refine M.lit_t rfl ?_)); (fail_if_success (refine M.lit_f rfl ?_)); refine M.split_guard rfl rfl ?_ ?_ <;> (intro hg_; simp only [hg_]; try simp only [M.hgs] at hg_)))
    | (refine Mc.at_cmp _ rfl ?_; refine Mc.cmp_m rfl _ rfl _ _ _ rfl _ _ _ rfl rfl _ rfl ?_ ?_ <;> (intro hg_; try simp only [M.hgs] at hg_; first | (exfalso; first | omega | (simp at hg_; done)) | (go_simp)))
    | ((fail_if_success (refine M.lit_t rfl ?_)); (fail_if_success (refine M.lit_f rfl ?_)); refine M.split_guard rfl rfl ?_ ?_ <;> (intro hg_; simp only [hg_]; try simp only [M.hgs] at hg_)))
  go_ret2
  refine ⟨congrArg (fun z => Ending.returned (Value.tuple #[Value.int .u64 z, .int .i64 0])) ?_, HM.none.to_below⟩
  rw [← HR.out]
set_option maxRecDepth 100000 in
set_option maxHeartbeats 1000000 in
theorem get3_any (x : Int) (h0 : 0 ≤ x) (h1 : x < 18446744073709551616) (w : World) : Calls Try.prog 47 #[.agg #[.int .i64 2, .int .i64 3], .int .u64 x] w fun e w' => e = .returned (.int .u64 (x / 4 % 8)) ∧ Below w.heap.size w w' := by
  have CR := fun w => fright_any 2 3 (by decide) w
  have CO : ∀ w, Calls Try.prog 36 #[.int .i64 3] w fun e w' => e = .returned (.int .u64 7) ∧ Below w.heap.size w w' := fun w => ones_any 3 w
  have hr : Go.bits .and .u64 (x / 4) 7 = x / 4 % 8 := and_ones (x / 4) 3 (by omega) (by omega)
  have HR := Lib.hid hr; clear hr
  have HM := Mem.nil w
  go_enter Try.func47, Try.ntmps47
  go_wp2_with (first
    | (go_at_call 56; (with_reducible refine (M.call_pure (CR) HM).mono ?_); clear HM; rintro e w_ ⟨rfl, HM⟩; dsimp only)
    | (go_at_call 36; (with_reducible refine (M.call_pure (CO) HM).mono ?_); clear HM; rintro e w_ ⟨rfl, HM⟩; dsimp only)
    | (refine M.at_reg 3 ?_; refine Mq.region_m (id := 3) HM (by kernel_rfl) (by kernel_rfl) ?_; (repeat (any_goals (first | go_big_quiet_skip | (refine Mq.qat_load 3 rfl ?_; go_big_quiet_want; first | (refine Mq.quiet_load_cell 3 _ rfl 0 _ _ _ _ _ rfl rfl rfl (by kernel_rfl) (by kernel_rfl) ?_; simp only [Act.put, List.setIfInBounds_toArray, List.set_cons_zero, List.set_cons_succ]; go_big_quiet_on)) | (refine Mq.qat_load 105 rfl ?_; go_big_quiet_want; first | (refine Mq.quiet_load_row 105 _ rfl 0 _ _ _ rfl rfl (by kernel_rfl) (by kernel_rfl) ?_; simp only [Act.put, List.setIfInBounds_toArray, List.set_cons_zero, List.set_cons_succ]; go_big_quiet_on)) | ((fail_if_success (refine Mq.qlit_t rfl ?_)); (fail_if_success (refine Mq.qlit_f rfl ?_)); refine Mq.qsplit rfl rfl ?_ ?_ <;> (intro hg_; simp only [hg_]; try simp only [M.hgs] at hg_)) | go_big_quiet_step (first | (go_at_call 56; with_reducible exact Mq.quiet_call_m (CR _)) | (go_at_call 36; with_reducible exact Mq.quiet_call_m (CO _)) | exact rfl)))); all_goals (refine Go.Proofs.Ytfnmdelkdombbaa.G.wpQuiet_end ?_; clear HM; intro w_ HM))
    | (refine M.at_mem rfl ?_; first | (refine M.at_load 3 rfl ?_; first | (refine M.load_cell_m HM rfl 3 _ rfl 0 _ _ _ _ _ rfl rfl rfl (by kernel_rfl) (by kernel_rfl) ?_; go_simp)) | (refine M.at_load 105 rfl ?_; first | (refine M.load_row_m HM rfl 105 _ rfl 0 _ _ _ rfl rfl (by kernel_rfl) (by kernel_rfl) ?_; go_simp)) | (refine M.at_box 105 rfl ?_; first | (refine M.box_m HM rfl rfl 105 _ rfl _ rfl ?_; clear HM; intro g_ w_ HM; go_simp)) | ((fail_if_success (refine M.lit_t rfl ?_)); (fail_if_success (refine M.lit_f rfl ?_)); refine M.split_guard rfl rfl ?_ ?_ <;> (intro hg_; simp only [hg_]; try simp only [M.hgs] at hg_)))
    | ((fail_if_success (refine M.lit_t rfl ?_)); (fail_if_success (refine M.lit_f rfl ?_)); refine M.split_guard rfl rfl ?_ ?_ <;> (intro hg_; simp only [hg_]; try simp only [M.hgs] at hg_)))
  go_ret
  exact ⟨congrArg (fun z => Ending.returned (Value.int .u64 z)) HR.out, HM.none.to_below⟩
set_option maxRecDepth 100000 in
set_option maxHeartbeats 1000000 in
theorem get36_any (x : Int) (h0 : 0 ≤ x) (h1 : x < 18446744073709551616) (w : World) : Calls Try.prog 47 #[.agg #[.int .i64 12, .int .i64 36], .int .u64 x] w fun e w' => e = .returned (.int .u64 (x / 4096 % 68719476736)) ∧ Below w.heap.size w w' := by
  have CR := fun w => fright_any 12 36 (by decide) w
  have CO : ∀ w, Calls Try.prog 36 #[.int .i64 36] w fun e w' => e = .returned (.int .u64 68719476735) ∧ Below w.heap.size w w' := fun w => ones_any 36 w
  have hr : Go.bits .and .u64 (x / 4096) 68719476735 = x / 4096 % 68719476736 := and_ones (x / 4096) 36 (by omega) (by omega)
  have HR := Lib.hid hr; clear hr
  have HM := Mem.nil w
  go_enter Try.func47, Try.ntmps47
  go_wp2_with (first
    | (go_at_call 56; (with_reducible refine (M.call_pure (CR) HM).mono ?_); clear HM; rintro e w_ ⟨rfl, HM⟩; dsimp only)
    | (go_at_call 36; (with_reducible refine (M.call_pure (CO) HM).mono ?_); clear HM; rintro e w_ ⟨rfl, HM⟩; dsimp only)
    | (refine M.at_reg 3 ?_; refine Mq.region_m (id := 3) HM (by kernel_rfl) (by kernel_rfl) ?_; (repeat (any_goals (first | go_big_quiet_skip | (refine Mq.qat_load 3 rfl ?_; go_big_quiet_want; first | (refine Mq.quiet_load_cell 3 _ rfl 0 _ _ _ _ _ rfl rfl rfl (by kernel_rfl) (by kernel_rfl) ?_; simp only [Act.put, List.setIfInBounds_toArray, List.set_cons_zero, List.set_cons_succ]; go_big_quiet_on)) | (refine Mq.qat_load 105 rfl ?_; go_big_quiet_want; first | (refine Mq.quiet_load_row 105 _ rfl 0 _ _ _ rfl rfl (by kernel_rfl) (by kernel_rfl) ?_; simp only [Act.put, List.setIfInBounds_toArray, List.set_cons_zero, List.set_cons_succ]; go_big_quiet_on)) | ((fail_if_success (refine Mq.qlit_t rfl ?_)); (fail_if_success (refine Mq.qlit_f rfl ?_)); refine Mq.qsplit rfl rfl ?_ ?_ <;> (intro hg_; simp only [hg_]; try simp only [M.hgs] at hg_)) | go_big_quiet_step (first | (go_at_call 56; with_reducible exact Mq.quiet_call_m (CR _)) | (go_at_call 36; with_reducible exact Mq.quiet_call_m (CO _)) | exact rfl)))); all_goals (refine Go.Proofs.Ytfnmdelkdombbaa.G.wpQuiet_end ?_; clear HM; intro w_ HM))
    | (refine M.at_mem rfl ?_; first | (refine M.at_load 3 rfl ?_; first | (refine M.load_cell_m HM rfl 3 _ rfl 0 _ _ _ _ _ rfl rfl rfl (by kernel_rfl) (by kernel_rfl) ?_; go_simp)) | (refine M.at_load 105 rfl ?_; first | (refine M.load_row_m HM rfl 105 _ rfl 0 _ _ _ rfl rfl (by kernel_rfl) (by kernel_rfl) ?_; go_simp)) | (refine M.at_box 105 rfl ?_; first | (refine M.box_m HM rfl rfl 105 _ rfl _ rfl ?_; clear HM; intro g_ w_ HM; go_simp)) | ((fail_if_success (refine M.lit_t rfl ?_)); (fail_if_success (refine M.lit_f rfl ?_)); refine M.split_guard rfl rfl ?_ ?_ <;> (intro hg_; simp only [hg_]; try simp only [M.hgs] at hg_)))
    | ((fail_if_success (refine M.lit_t rfl ?_)); (fail_if_success (refine M.lit_f rfl ?_)); refine M.split_guard rfl rfl ?_ ?_ <;> (intro hg_; simp only [hg_]; try simp only [M.hgs] at hg_)))
  go_ret
  exact ⟨congrArg (fun z => Ending.returned (Value.int .u64 z)) HR.out, HM.none.to_below⟩
end Go.Proofs.Ytfnmdelkdombbaa.Dl
