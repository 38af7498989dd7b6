/- Addresses' parts: virt.Index, Offset, the document's Index, Offset and Size: what each call answers. -/
import Derived.Test.YtfnmdelkdombbaaProg
import Derived.Test.YtfnmdelkdombbaaTp
import Derived.Test.YtfnmdelkdombbaaDl
import Derived.Test.YtfnmdelkdombbaaHa
namespace Go.Proofs.Ytfnmdelkdombbaa.Yg
open Go.RowKit Go.Proofs.Ytfnmdelkdombbaa.G Go.Proofs.Ytfnmdelkdombbaa.B Go.Proofs.Ytfnmdelkdombbaa.M Go.Proofs.Ytfnmdelkdombbaa.Mv Go.Proofs.Ytfnmdelkdombbaa.Sl Go.Proofs.Ytfnmdelkdombbaa.Sm Go.Proofs.Ytfnmdelkdombbaa.Sn Go.Proofs.Ytfnmdelkdombbaa.Dr Go.Proofs.Ytfnmdelkdombbaa.Ds Go.Proofs.Ytfnmdelkdombbaa.Tp

set_option linter.unusedVariables false
set_option linter.unusedSimpArgs false
set_option maxRecDepth 100000
theorem kn_of {level : Int} (l0 : 0 ≤ level) (l3 : level ≤ 3) : kn level = true := by unfold kn; exact decide_eq_true (by omega)
theorem idx_range {va level : Int} (l0 : 0 ≤ level) (l3 : level ≤ 3) : 0 ≤ idxV va level ∧ idxV va level < 512 := by
  rw [idxV_yes (kn_of l0 l3)]; omega
set_option maxHeartbeats 1000000 in
theorem get9_39 (x : Int) (h0 : 0 ≤ x) (h1 : x < 18446744073709551616) (w : World) : Calls Try.prog 47 #[.agg #[.int .i64 39, .int .i64 9], .int .u64 x] w fun e w' => e = .returned (.int .u64 (x / 549755813888 % 512)) ∧ Below w.heap.size w w' := by
  have CR := fun w => Dk.fright_any 39 9 (by decide) w
  have CO : ∀ w, Calls Try.prog 36 #[.int .i64 9] w fun e w' => e = .returned (.int .u64 511) ∧ Below w.heap.size w w' := fun w => ones_any 9 w
  have hr : Go.bits .and .u64 (x / 549755813888) 511 = x / 549755813888 % 512 := and_ones (x / 549755813888) 9 (by omega) (by omega)
  have HR := Lib.hid hr; clear hr
  have HM := Mem.nil w
  go_enter Try.func47, Try.ntmps47
  go_wp2_with (first
    | (go_at_call 56; (with_reducible refine (M.call_pure (CR) HM).mono ?_); clear HM; rintro e w_ ⟨rfl, HM⟩; dsimp only)
    | (go_at_call 36; (with_reducible refine (M.call_pure (CO) HM).mono ?_); clear HM; rintro e w_ ⟨rfl, HM⟩; dsimp only)
    | (refine M.at_reg 3 ?_; refine Mq.region_m (id := 3) HM (by kernel_rfl) (by kernel_rfl) ?_; (repeat (any_goals (first | go_big_quiet_skip | (refine Mq.qat_load 3 rfl ?_; go_big_quiet_want; first | (refine Mq.quiet_load_cell 3 _ rfl 0 _ _ _ _ _ rfl rfl rfl (by kernel_rfl) (by kernel_rfl) ?_; simp only [Act.put, List.setIfInBounds_toArray, List.set_cons_zero, List.set_cons_succ]; go_big_quiet_on)) | (refine Mq.qat_load 105 rfl ?_; go_big_quiet_want; first | (refine Mq.quiet_load_row 105 _ rfl 0 _ _ _ rfl rfl (by kernel_rfl) (by kernel_rfl) ?_; simp only [Act.put, List.setIfInBounds_toArray, List.set_cons_zero, List.set_cons_succ]; go_big_quiet_on)) | ((fail_if_success (refine Mq.qlit_t rfl ?_)); (fail_if_success (refine Mq.qlit_f rfl ?_)); refine Mq.qsplit rfl rfl ?_ ?_ <;> (intro hg_; simp only [hg_]; try simp only [M.hgs] at hg_)) | go_big_quiet_step (first | (go_at_call 56; with_reducible exact Mq.quiet_call_m (CR _)) | (go_at_call 36; with_reducible exact Mq.quiet_call_m (CO _)) | exact rfl)))); all_goals (refine Go.Proofs.Ytfnmdelkdombbaa.G.wpQuiet_end ?_; clear HM; intro w_ HM))
    | (refine M.at_mem rfl ?_; first | (refine M.at_load 3 rfl ?_; first | (refine M.load_cell_m HM rfl 3 _ rfl 0 _ _ _ _ _ rfl rfl rfl (by kernel_rfl) (by kernel_rfl) ?_; go_simp)) | (refine M.at_load 105 rfl ?_; first | (refine M.load_row_m HM rfl 105 _ rfl 0 _ _ _ rfl rfl (by kernel_rfl) (by kernel_rfl) ?_; go_simp)) | (refine M.at_box 105 rfl ?_; first | (refine M.box_m HM rfl rfl 105 _ rfl _ rfl ?_; clear HM; intro g_ w_ HM; go_simp)) | ((fail_if_success (refine M.lit_t rfl ?_)); (fail_if_success (refine M.lit_f rfl ?_)); refine M.split_guard rfl rfl ?_ ?_ <;> (intro hg_; simp only [hg_]; try simp only [M.hgs] at hg_)))
    | ((fail_if_success (refine M.lit_t rfl ?_)); (fail_if_success (refine M.lit_f rfl ?_)); refine M.split_guard rfl rfl ?_ ?_ <;> (intro hg_; simp only [hg_]; try simp only [M.hgs] at hg_)))
  go_ret
  exact ⟨congrArg (fun z => Ending.returned (Value.int .u64 z)) HR.out, HM.none.to_below⟩
set_option maxHeartbeats 1000000 in
theorem get9_30 (x : Int) (h0 : 0 ≤ x) (h1 : x < 18446744073709551616) (w : World) : Calls Try.prog 47 #[.agg #[.int .i64 30, .int .i64 9], .int .u64 x] w fun e w' => e = .returned (.int .u64 (x / 1073741824 % 512)) ∧ Below w.heap.size w w' := by
  have CR := fun w => Dk.fright_any 30 9 (by decide) w
  have CO : ∀ w, Calls Try.prog 36 #[.int .i64 9] w fun e w' => e = .returned (.int .u64 511) ∧ Below w.heap.size w w' := fun w => ones_any 9 w
  have hr : Go.bits .and .u64 (x / 1073741824) 511 = x / 1073741824 % 512 := and_ones (x / 1073741824) 9 (by omega) (by omega)
  have HR := Lib.hid hr; clear hr
  have HM := Mem.nil w
  go_enter Try.func47, Try.ntmps47
  go_wp2_with (first
    | (go_at_call 56; (with_reducible refine (M.call_pure (CR) HM).mono ?_); clear HM; rintro e w_ ⟨rfl, HM⟩; dsimp only)
    | (go_at_call 36; (with_reducible refine (M.call_pure (CO) HM).mono ?_); clear HM; rintro e w_ ⟨rfl, HM⟩; dsimp only)
    | (refine M.at_reg 3 ?_; refine Mq.region_m (id := 3) HM (by kernel_rfl) (by kernel_rfl) ?_; (repeat (any_goals (first | go_big_quiet_skip | (refine Mq.qat_load 3 rfl ?_; go_big_quiet_want; first | (refine Mq.quiet_load_cell 3 _ rfl 0 _ _ _ _ _ rfl rfl rfl (by kernel_rfl) (by kernel_rfl) ?_; simp only [Act.put, List.setIfInBounds_toArray, List.set_cons_zero, List.set_cons_succ]; go_big_quiet_on)) | (refine Mq.qat_load 105 rfl ?_; go_big_quiet_want; first | (refine Mq.quiet_load_row 105 _ rfl 0 _ _ _ rfl rfl (by kernel_rfl) (by kernel_rfl) ?_; simp only [Act.put, List.setIfInBounds_toArray, List.set_cons_zero, List.set_cons_succ]; go_big_quiet_on)) | ((fail_if_success (refine Mq.qlit_t rfl ?_)); (fail_if_success (refine Mq.qlit_f rfl ?_)); refine Mq.qsplit rfl rfl ?_ ?_ <;> (intro hg_; simp only [hg_]; try simp only [M.hgs] at hg_)) | go_big_quiet_step (first | (go_at_call 56; with_reducible exact Mq.quiet_call_m (CR _)) | (go_at_call 36; with_reducible exact Mq.quiet_call_m (CO _)) | exact rfl)))); all_goals (refine Go.Proofs.Ytfnmdelkdombbaa.G.wpQuiet_end ?_; clear HM; intro w_ HM))
    | (refine M.at_mem rfl ?_; first | (refine M.at_load 3 rfl ?_; first | (refine M.load_cell_m HM rfl 3 _ rfl 0 _ _ _ _ _ rfl rfl rfl (by kernel_rfl) (by kernel_rfl) ?_; go_simp)) | (refine M.at_load 105 rfl ?_; first | (refine M.load_row_m HM rfl 105 _ rfl 0 _ _ _ rfl rfl (by kernel_rfl) (by kernel_rfl) ?_; go_simp)) | (refine M.at_box 105 rfl ?_; first | (refine M.box_m HM rfl rfl 105 _ rfl _ rfl ?_; clear HM; intro g_ w_ HM; go_simp)) | ((fail_if_success (refine M.lit_t rfl ?_)); (fail_if_success (refine M.lit_f rfl ?_)); refine M.split_guard rfl rfl ?_ ?_ <;> (intro hg_; simp only [hg_]; try simp only [M.hgs] at hg_)))
    | ((fail_if_success (refine M.lit_t rfl ?_)); (fail_if_success (refine M.lit_f rfl ?_)); refine M.split_guard rfl rfl ?_ ?_ <;> (intro hg_; simp only [hg_]; try simp only [M.hgs] at hg_)))
  go_ret
  exact ⟨congrArg (fun z => Ending.returned (Value.int .u64 z)) HR.out, HM.none.to_below⟩
set_option maxHeartbeats 1000000 in
theorem get9_21 (x : Int) (h0 : 0 ≤ x) (h1 : x < 18446744073709551616) (w : World) : Calls Try.prog 47 #[.agg #[.int .i64 21, .int .i64 9], .int .u64 x] w fun e w' => e = .returned (.int .u64 (x / 2097152 % 512)) ∧ Below w.heap.size w w' := by
  have CR := fun w => Dk.fright_any 21 9 (by decide) w
  have CO : ∀ w, Calls Try.prog 36 #[.int .i64 9] w fun e w' => e = .returned (.int .u64 511) ∧ Below w.heap.size w w' := fun w => ones_any 9 w
  have hr : Go.bits .and .u64 (x / 2097152) 511 = x / 2097152 % 512 := and_ones (x / 2097152) 9 (by omega) (by omega)
  have HR := Lib.hid hr; clear hr
  have HM := Mem.nil w
  go_enter Try.func47, Try.ntmps47
  go_wp2_with (first
    | (go_at_call 56; (with_reducible refine (M.call_pure (CR) HM).mono ?_); clear HM; rintro e w_ ⟨rfl, HM⟩; dsimp only)
    | (go_at_call 36; (with_reducible refine (M.call_pure (CO) HM).mono ?_); clear HM; rintro e w_ ⟨rfl, HM⟩; dsimp only)
    | (refine M.at_reg 3 ?_; refine Mq.region_m (id := 3) HM (by kernel_rfl) (by kernel_rfl) ?_; (repeat (any_goals (first | go_big_quiet_skip | (refine Mq.qat_load 3 rfl ?_; go_big_quiet_want; first | (refine Mq.quiet_load_cell 3 _ rfl 0 _ _ _ _ _ rfl rfl rfl (by kernel_rfl) (by kernel_rfl) ?_; simp only [Act.put, List.setIfInBounds_toArray, List.set_cons_zero, List.set_cons_succ]; go_big_quiet_on)) | (refine Mq.qat_load 105 rfl ?_; go_big_quiet_want; first | (refine Mq.quiet_load_row 105 _ rfl 0 _ _ _ rfl rfl (by kernel_rfl) (by kernel_rfl) ?_; simp only [Act.put, List.setIfInBounds_toArray, List.set_cons_zero, List.set_cons_succ]; go_big_quiet_on)) | ((fail_if_success (refine Mq.qlit_t rfl ?_)); (fail_if_success (refine Mq.qlit_f rfl ?_)); refine Mq.qsplit rfl rfl ?_ ?_ <;> (intro hg_; simp only [hg_]; try simp only [M.hgs] at hg_)) | go_big_quiet_step (first | (go_at_call 56; with_reducible exact Mq.quiet_call_m (CR _)) | (go_at_call 36; with_reducible exact Mq.quiet_call_m (CO _)) | exact rfl)))); all_goals (refine Go.Proofs.Ytfnmdelkdombbaa.G.wpQuiet_end ?_; clear HM; intro w_ HM))
    | (refine M.at_mem rfl ?_; first | (refine M.at_load 3 rfl ?_; first | (refine M.load_cell_m HM rfl 3 _ rfl 0 _ _ _ _ _ rfl rfl rfl (by kernel_rfl) (by kernel_rfl) ?_; go_simp)) | (refine M.at_load 105 rfl ?_; first | (refine M.load_row_m HM rfl 105 _ rfl 0 _ _ _ rfl rfl (by kernel_rfl) (by kernel_rfl) ?_; go_simp)) | (refine M.at_box 105 rfl ?_; first | (refine M.box_m HM rfl rfl 105 _ rfl _ rfl ?_; clear HM; intro g_ w_ HM; go_simp)) | ((fail_if_success (refine M.lit_t rfl ?_)); (fail_if_success (refine M.lit_f rfl ?_)); refine M.split_guard rfl rfl ?_ ?_ <;> (intro hg_; simp only [hg_]; try simp only [M.hgs] at hg_)))
    | ((fail_if_success (refine M.lit_t rfl ?_)); (fail_if_success (refine M.lit_f rfl ?_)); refine M.split_guard rfl rfl ?_ ?_ <;> (intro hg_; simp only [hg_]; try simp only [M.hgs] at hg_)))
  go_ret
  exact ⟨congrArg (fun z => Ending.returned (Value.int .u64 z)) HR.out, HM.none.to_below⟩
set_option maxHeartbeats 1000000 in
theorem get9_12 (x : Int) (h0 : 0 ≤ x) (h1 : x < 18446744073709551616) (w : World) : Calls Try.prog 47 #[.agg #[.int .i64 12, .int .i64 9], .int .u64 x] w fun e w' => e = .returned (.int .u64 (x / 4096 % 512)) ∧ Below w.heap.size w w' := by
  have CR := fun w => Dk.fright_any 12 9 (by decide) w
  have CO : ∀ w, Calls Try.prog 36 #[.int .i64 9] w fun e w' => e = .returned (.int .u64 511) ∧ Below w.heap.size w w' := fun w => ones_any 9 w
  have hr : Go.bits .and .u64 (x / 4096) 511 = x / 4096 % 512 := and_ones (x / 4096) 9 (by omega) (by omega)
  have HR := Lib.hid hr; clear hr
  have HM := Mem.nil w
  go_enter Try.func47, Try.ntmps47
  go_wp2_with (first
    | (go_at_call 56; (with_reducible refine (M.call_pure (CR) HM).mono ?_); clear HM; rintro e w_ ⟨rfl, HM⟩; dsimp only)
    | (go_at_call 36; (with_reducible refine (M.call_pure (CO) HM).mono ?_); clear HM; rintro e w_ ⟨rfl, HM⟩; dsimp only)
    | (refine M.at_reg 3 ?_; refine Mq.region_m (id := 3) HM (by kernel_rfl) (by kernel_rfl) ?_; (repeat (any_goals (first | go_big_quiet_skip | (refine Mq.qat_load 3 rfl ?_; go_big_quiet_want; first | (refine Mq.quiet_load_cell 3 _ rfl 0 _ _ _ _ _ rfl rfl rfl (by kernel_rfl) (by kernel_rfl) ?_; simp only [Act.put, List.setIfInBounds_toArray, List.set_cons_zero, List.set_cons_succ]; go_big_quiet_on)) | (refine Mq.qat_load 105 rfl ?_; go_big_quiet_want; first | (refine Mq.quiet_load_row 105 _ rfl 0 _ _ _ rfl rfl (by kernel_rfl) (by kernel_rfl) ?_; simp only [Act.put, List.setIfInBounds_toArray, List.set_cons_zero, List.set_cons_succ]; go_big_quiet_on)) | ((fail_if_success (refine Mq.qlit_t rfl ?_)); (fail_if_success (refine Mq.qlit_f rfl ?_)); refine Mq.qsplit rfl rfl ?_ ?_ <;> (intro hg_; simp only [hg_]; try simp only [M.hgs] at hg_)) | go_big_quiet_step (first | (go_at_call 56; with_reducible exact Mq.quiet_call_m (CR _)) | (go_at_call 36; with_reducible exact Mq.quiet_call_m (CO _)) | exact rfl)))); all_goals (refine Go.Proofs.Ytfnmdelkdombbaa.G.wpQuiet_end ?_; clear HM; intro w_ HM))
    | (refine M.at_mem rfl ?_; first | (refine M.at_load 3 rfl ?_; first | (refine M.load_cell_m HM rfl 3 _ rfl 0 _ _ _ _ _ rfl rfl rfl (by kernel_rfl) (by kernel_rfl) ?_; go_simp)) | (refine M.at_load 105 rfl ?_; first | (refine M.load_row_m HM rfl 105 _ rfl 0 _ _ _ rfl rfl (by kernel_rfl) (by kernel_rfl) ?_; go_simp)) | (refine M.at_box 105 rfl ?_; first | (refine M.box_m HM rfl rfl 105 _ rfl _ rfl ?_; clear HM; intro g_ w_ HM; go_simp)) | ((fail_if_success (refine M.lit_t rfl ?_)); (fail_if_success (refine M.lit_f rfl ?_)); refine M.split_guard rfl rfl ?_ ?_ <;> (intro hg_; simp only [hg_]; try simp only [M.hgs] at hg_)))
    | ((fail_if_success (refine M.lit_t rfl ?_)); (fail_if_success (refine M.lit_f rfl ?_)); refine M.split_guard rfl rfl ?_ ?_ <;> (intro hg_; simp only [hg_]; try simp only [M.hgs] at hg_)))
  go_ret
  exact ⟨congrArg (fun z => Ending.returned (Value.int .u64 z)) HR.out, HM.none.to_below⟩
theorem wrap64_in (x : Int) (h0 : 0 ≤ x) (h1 : x < 9223372036854775808) : wrap64 x = x := by unfold wrap64; omega
theorem i64_wrap (x : Int) (h0 : 0 ≤ x) (h1 : x < 9223372036854775808) : IntKind.i64.wrap x = x := by
  simp [IntKind.wrap, IntKind.bits, IntKind.signed]
  omega
set_option maxHeartbeats 1000000 in
theorem vindex_any (va level : Int) (h0 : 0 ≤ va) (h1 : va < 18446744073709551616) (l0 : 0 ≤ level) (l3 : level ≤ 3) (w : World) : Calls Try.prog 44 #[.int .u64 va, .int .i64 level] w fun e w' => e = .returned (.int .i64 (idxV va level)) ∧ Below w.heap.size w w' := by
  have CK := fun w => known_any level w
  have CB := fun w => bits_any level w
  rw [kn_of l0 l3] at CK
  have hi := idxV_yes (va := va) (kn_of l0 l3)
  rw [lbits_yes (kn_of l0 l3)] at CB
  rw [hi]
  have HM := Mem.nil w
  obtain rfl | rfl | rfl | rfl : level = 0 ∨ level = 1 ∨ level = 2 ∨ level = 3 := by omega
  · have CG := fun w => get9_39 va h0 h1 w
    have hw := i64_wrap (va / 549755813888 % 512) (by omega) (by omega)
    have HW := Lib.hid hw; clear hw hi
    go_enter Try.func44, Try.ntmps44
    go_wp2_with (first
      | (go_at_call 34; (with_reducible refine (M.call_pure (CK) HM).mono ?_); clear HM; rintro e w_ ⟨rfl, HM⟩; dsimp only)
      | (go_at_call 37; (with_reducible refine (M.call_pure (CB) HM).mono ?_); clear HM; rintro e w_ ⟨rfl, HM⟩; dsimp only)
      | (go_at_call 47; (with_reducible refine (M.call_pure (CG) HM).mono ?_); clear HM; rintro e w_ ⟨rfl, HM⟩; dsimp only)
      | ((fail_if_success (refine M.lit_t rfl ?_)); (fail_if_success (refine M.lit_f rfl ?_)); refine M.split_guard rfl rfl ?_ ?_ <;> (intro hg_; simp only [hg_]; try simp only [M.hgs] at hg_)))
    go_ret
    refine ⟨congrArg (fun z => Ending.returned (Value.int .i64 z)) ?_, HM.to_below⟩
    first | exact HW.out | (simp; exact HW.out) | rfl
  · have CG := fun w => get9_30 va h0 h1 w
    have hw := i64_wrap (va / 1073741824 % 512) (by omega) (by omega)
    have HW := Lib.hid hw; clear hw hi
    go_enter Try.func44, Try.ntmps44
    go_wp2_with (first
      | (go_at_call 34; (with_reducible refine (M.call_pure (CK) HM).mono ?_); clear HM; rintro e w_ ⟨rfl, HM⟩; dsimp only)
      | (go_at_call 37; (with_reducible refine (M.call_pure (CB) HM).mono ?_); clear HM; rintro e w_ ⟨rfl, HM⟩; dsimp only)
      | (go_at_call 47; (with_reducible refine (M.call_pure (CG) HM).mono ?_); clear HM; rintro e w_ ⟨rfl, HM⟩; dsimp only)
      | ((fail_if_success (refine M.lit_t rfl ?_)); (fail_if_success (refine M.lit_f rfl ?_)); refine M.split_guard rfl rfl ?_ ?_ <;> (intro hg_; simp only [hg_]; try simp only [M.hgs] at hg_)))
    go_ret
    refine ⟨congrArg (fun z => Ending.returned (Value.int .i64 z)) ?_, HM.to_below⟩
    first | exact HW.out | (simp; exact HW.out) | rfl
  · have CG := fun w => get9_21 va h0 h1 w
    have hw := i64_wrap (va / 2097152 % 512) (by omega) (by omega)
    have HW := Lib.hid hw; clear hw hi
    go_enter Try.func44, Try.ntmps44
    go_wp2_with (first
      | (go_at_call 34; (with_reducible refine (M.call_pure (CK) HM).mono ?_); clear HM; rintro e w_ ⟨rfl, HM⟩; dsimp only)
      | (go_at_call 37; (with_reducible refine (M.call_pure (CB) HM).mono ?_); clear HM; rintro e w_ ⟨rfl, HM⟩; dsimp only)
      | (go_at_call 47; (with_reducible refine (M.call_pure (CG) HM).mono ?_); clear HM; rintro e w_ ⟨rfl, HM⟩; dsimp only)
      | ((fail_if_success (refine M.lit_t rfl ?_)); (fail_if_success (refine M.lit_f rfl ?_)); refine M.split_guard rfl rfl ?_ ?_ <;> (intro hg_; simp only [hg_]; try simp only [M.hgs] at hg_)))
    go_ret
    refine ⟨congrArg (fun z => Ending.returned (Value.int .i64 z)) ?_, HM.to_below⟩
    first | exact HW.out | (simp; exact HW.out) | rfl
  · have CG := fun w => get9_12 va h0 h1 w
    have hw := i64_wrap (va / 4096 % 512) (by omega) (by omega)
    have HW := Lib.hid hw; clear hw hi
    go_enter Try.func44, Try.ntmps44
    go_wp2_with (first
      | (go_at_call 34; (with_reducible refine (M.call_pure (CK) HM).mono ?_); clear HM; rintro e w_ ⟨rfl, HM⟩; dsimp only)
      | (go_at_call 37; (with_reducible refine (M.call_pure (CB) HM).mono ?_); clear HM; rintro e w_ ⟨rfl, HM⟩; dsimp only)
      | (go_at_call 47; (with_reducible refine (M.call_pure (CG) HM).mono ?_); clear HM; rintro e w_ ⟨rfl, HM⟩; dsimp only)
      | ((fail_if_success (refine M.lit_t rfl ?_)); (fail_if_success (refine M.lit_f rfl ?_)); refine M.split_guard rfl rfl ?_ ?_ <;> (intro hg_; simp only [hg_]; try simp only [M.hgs] at hg_)))
    go_ret
    refine ⟨congrArg (fun z => Ending.returned (Value.int .i64 z)) ?_, HM.to_below⟩
    first | exact HW.out | (simp; exact HW.out) | rfl
set_option maxHeartbeats 1000000 in
theorem voffset_any (va level : Int) (h0 : 0 ≤ va) (h1 : va < 18446744073709551616) (l0 : 0 ≤ level) (l3 : level ≤ 3) (w : World) : Calls Try.prog 18 #[.int .u64 va, .int .i64 level] w fun e w' => e = .returned (.int .u64 (offV va level)) ∧ Below w.heap.size w w' := by
  have CK := fun w => known_any level w
  have CB := fun w => bits_any level w
  have CO := fun w => ones_any (lbits level) w
  rw [kn_of l0 l3] at CK
  have hr := and_ones va (lbits level) h0 h1
  rw [show min (lbits level).toNat 64 = (lbits level).toNat by have := lbits_range level; omega, lsize_pow (kn_of l0 l3), ← offV_yes (kn_of l0 l3)] at hr
  have HR := Lib.hid hr; clear hr
  generalize ones (lbits level) = o at CO HR
  generalize lbits level = b at CB CO
  generalize offV va level = v at HR ⊢
  have HM := Mem.nil w
  go_enter Try.func18, Try.ntmps18
  go_wp2_with (first
    | (go_at_call 34; (with_reducible refine (M.call_pure (CK) HM).mono ?_); clear HM; rintro e w_ ⟨rfl, HM⟩; dsimp only)
    | (go_at_call 37; (with_reducible refine (M.call_pure (CB) HM).mono ?_); clear HM; rintro e w_ ⟨rfl, HM⟩; dsimp only)
    | (go_at_call 36; (with_reducible refine (M.call_pure (CO) HM).mono ?_); clear HM; rintro e w_ ⟨rfl, HM⟩; dsimp only)
    | ((fail_if_success (refine M.lit_t rfl ?_)); (fail_if_success (refine M.lit_f rfl ?_)); refine M.split_guard rfl rfl ?_ ?_ <;> (intro hg_; simp only [hg_]; try simp only [M.hgs] at hg_)))
  go_ret
  exact ⟨congrArg (fun z => Ending.returned (Value.int .u64 z)) HR.out, HM.to_below⟩
set_option maxHeartbeats 1000000 in
theorem rindex_any (va level : Int) (h0 : 0 ≤ va) (h1 : va < 18446744073709551616) (l0 : 0 ≤ level) (l3 : level ≤ 3) (w : World) : Calls Try.prog 25 #[.int .u64 va, .int .i64 level] w fun e w' => e = .returned (.int .i64 (idxV va level)) ∧ Below w.heap.size w w' := by
  have CL := fun w => Ha.low_any level l0 l3 w
  have CG := fun w => Ha.get_any va (39 - 9 * level).toNat 9 h0 h1 (by omega) w
  have hi := idxV_yes (va := va) (kn_of l0 l3)
  have hp := lsize_pow (kn_of l0 l3)
  rw [lbits_yes (kn_of l0 l3)] at hp
  have hw := i64_wrap (idxV va level) (idx_range l0 l3).1 (by have := (idx_range (va := va) l0 l3).2; omega)
  rw [hp, show (2 : Int) ^ 9 = 512 from rfl, ← hi, show (((39 - 9 * level).toNat : Nat) : Int) = 39 - 9 * level by omega] at CG
  have HW := Lib.hid (wrap64_in (idxV va level) (idx_range l0 l3).1 (by have := (idx_range (va := va) l0 l3).2; omega)); clear hw hi hp
  change ∀ w, Calls Try.prog 29 #[.int .u64 va, .int .i64 (39 - 9 * level), .int .i64 9] w fun e w' => e = .returned (.int .u64 (idxV va level)) ∧ Below w.heap.size w w' at CG
  generalize idxV va level = v at CG HW ⊢
  generalize 39 - 9 * level = b at CL CG
  have HM := Mem.nil w
  go_enter Try.func25, Try.ntmps25
  go_wp2_with (first
    | (go_at_call 30; (with_reducible refine (M.call_pure (CL) HM).mono ?_); clear HM; rintro e w_ ⟨rfl, HM⟩; dsimp only)
    | (go_at_call 29; (with_reducible refine (M.call_pure (CG) HM).mono ?_); clear HM; rintro e w_ ⟨rfl, HM⟩; dsimp only)
    | ((fail_if_success (refine M.lit_t rfl ?_)); (fail_if_success (refine M.lit_f rfl ?_)); refine M.split_guard rfl rfl ?_ ?_ <;> (intro hg_; simp only [hg_]; try simp only [M.hgs] at hg_)))
  go_ret
  refine ⟨congrArg (fun z => Ending.returned (Value.int .i64 z)) ?_, HM.to_below⟩
  first | exact HW.out | (simp; exact HW.out) | rfl
set_option maxHeartbeats 1000000 in
theorem roffset_any (va level : Int) (h0 : 0 ≤ va) (h1 : va < 18446744073709551616) (l0 : 0 ≤ level) (l3 : level ≤ 3) (w : World) : Calls Try.prog 14 #[.int .u64 va, .int .i64 level] w fun e w' => e = .returned (.int .u64 (offV va level)) ∧ Below w.heap.size w w' := by
  have CL := fun w => Ha.low_any level l0 l3 w
  have CG := fun w => Ha.get_any va 0 (39 - 9 * level).toNat h0 h1 (by omega) w
  have hi := offV_yes (va := va) (kn_of l0 l3)
  have hp := lsize_pow (kn_of l0 l3)
  rw [lbits_yes (kn_of l0 l3)] at hp
  rw [hp, show (2 : Int) ^ 0 = 1 from rfl, Int.ediv_one, ← hi, show (((39 - 9 * level).toNat : Nat) : Int) = 39 - 9 * level by omega] at CG
  clear hi hp
  change ∀ w, Calls Try.prog 29 #[.int .u64 va, .int .i64 0, .int .i64 (39 - 9 * level)] w fun e w' => e = .returned (.int .u64 (offV va level)) ∧ Below w.heap.size w w' at CG
  generalize offV va level = v at CG ⊢
  generalize 39 - 9 * level = b at CL CG
  have HM := Mem.nil w
  go_enter Try.func14, Try.ntmps14
  go_wp2_with (first
    | (go_at_call 30; (with_reducible refine (M.call_pure (CL) HM).mono ?_); clear HM; rintro e w_ ⟨rfl, HM⟩; dsimp only)
    | (go_at_call 29; (with_reducible refine (M.call_pure (CG) HM).mono ?_); clear HM; rintro e w_ ⟨rfl, HM⟩; dsimp only)
    | ((fail_if_success (refine M.lit_t rfl ?_)); (fail_if_success (refine M.lit_f rfl ?_)); refine M.split_guard rfl rfl ?_ ?_ <;> (intro hg_; simp only [hg_]; try simp only [M.hgs] at hg_)))
  go_ret
  exact ⟨by first | rfl | simp, HM.to_below⟩
theorem dbl_wrap (k : Nat) (h : k < 62) : IntKind.u64.wrap ((2 : Int) ^ k + 2 ^ k) = 2 ^ (k + 1) := by
  rw [show (2 : Int) ^ k + 2 ^ k = 2 ^ (k + 1) by rw [Int.pow_succ]; omega]
  have h1 := pow_le64 (k + 1) (by omega)
  have h2 := pow_pos' (k + 1)
  exact u64_wrap _ (by omega) (by omega)
set_option maxHeartbeats 1000000 in
theorem rsize_any (level : Int) (l0 : 0 ≤ level) (l3 : level ≤ 3) (w : World) : Calls Try.prog 28 #[.int .i64 level] w fun e w' => e = .returned (.int .u64 (lsize level)) ∧ Below w.heap.size w w' := by
  have CL := fun w => Ha.low_any level l0 l3 w
  have hp := lsize_pow (kn_of l0 l3)
  rw [lbits_yes (kn_of l0 l3)] at hp
  have hb : 0 ≤ 39 - 9 * level ∧ 39 - 9 * level ≤ 39 := by omega
  have HP := Lib.hid hp; clear hp
  generalize 39 - 9 * level = b at CL HP hb
  obtain ⟨n, rfl⟩ := Int.eq_ofNat_of_zero_le hb.1
  have HM := Mem.nil w
  go_enter Try.func28, Try.ntmps28
  go_wp2
  go_loopw [3, 4] (fun nv v wr => ∃ k : Nat, k ≤ n ∧ v = .int .i64 k ∧ nv = .int .u64 (2 ^ k) ∧ Mem w [] [] wr) (fun _ v _ => n - (intOf v).toNat)
  case atStart => exact ⟨0, by omega, rfl, rfl, HM⟩
  case round =>
    clear HM
    obtain ⟨k, kR, rfl, rfl, HM⟩ := hrel
    by_cases hlt : k < n
    · have hk1 : (k : Int) < n := by omega
      have HD := Lib.hid (dbl_wrap k (by omega))
      generalize (2 : Int) ^ k = p at HD
      go_wp2_with (first
        | (go_big_skip)
        | (go_at_call 30; (with_reducible refine (M.call_pure (CL) HM).mono ?_); clear HM; rintro e w_ ⟨rfl, HM⟩; dsimp only)
        | (refine Mc.at_cmp _ rfl ?_; refine Mc.cmp_m rfl _ rfl _ _ _ rfl _ _ _ rfl rfl _ rfl ?_ ?_ <;> (intro hg_; try simp only [M.hgs] at hg_; first | (exfalso; first | omega | (simp at hg_; done)) | (go_simp)))
        | ((fail_if_success (refine M.lit_t rfl ?_)); (fail_if_success (refine M.lit_f rfl ?_)); refine M.split_guard rfl rfl ?_ ?_ <;> (intro hg_; simp only [hg_]; try simp only [M.hgs] at hg_)))
      go_roundw
      case rel => exact ⟨k + 1, by omega, by first | rfl | (refine congrArg (fun z => Value.int .i64 z) ?_; omega), congrArg (fun z => Value.int .u64 z) HD.out, HM⟩
      case measure => simp [intOf]; omega
    · obtain rfl : k = n := by omega
      have hp : (2 : Int) ^ k = lsize level := by have := HP.out; simpa using this
      have HP2 := Lib.hid hp; clear hp
      go_wp2_with (first
        | (go_big_skip)
        | (go_at_call 30; (with_reducible refine (M.call_pure (CL) HM).mono ?_); clear HM; rintro e w_ ⟨rfl, HM⟩; dsimp only)
        | (refine Mc.at_cmp _ rfl ?_; refine Mc.cmp_m rfl _ rfl _ _ _ rfl _ _ _ rfl rfl _ rfl ?_ ?_ <;> (intro hg_; try simp only [M.hgs] at hg_; first | (exfalso; first | omega | (simp at hg_; done)) | (go_simp)))
        | ((fail_if_success (refine M.lit_t rfl ?_)); (fail_if_success (refine M.lit_f rfl ?_)); refine M.split_guard rfl rfl ?_ ?_ <;> (intro hg_; simp only [hg_]; try simp only [M.hgs] at hg_)))
      all_goals
        go_ret
        exact ⟨congrArg (fun z => Ending.returned (Value.int .u64 z)) HP2.out, HM.to_below⟩
end Go.Proofs.Ytfnmdelkdombbaa.Yg
