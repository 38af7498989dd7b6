/- desc.Desc.Right: what each call answers. -/
import Derived.Test.YtfnmdelkdombbaaProg
import Derived.Test.YtfnmdelkdombbaaG
import Derived.Test.YtfnmdelkdombbaaB
import Derived.Test.YtfnmdelkdombbaaDr
namespace Go.Proofs.Ytfnmdelkdombbaa.Ds
open Go.RowKit Go.Proofs.Ytfnmdelkdombbaa.G Go.Proofs.Ytfnmdelkdombbaa.B Go.Proofs.Ytfnmdelkdombbaa.M Go.Proofs.Ytfnmdelkdombbaa.Dr

set_option linter.unusedVariables false
set_option linter.unusedSimpArgs false
/-- Is a descriptor right at a level? -/
def rightV (level kind out : Int) (user write exec used : Bool) (attr : Int) : Bool :=
  kn level && decide (out < 281474976710656) && (
  (kind == 0 && out == 0 && !user && !write && !exec && !used && attr == 0) ||
  (kind == 1 && decide (level < 3) && decide (out % 4096 = 0) && !user && !write && !exec && !used && attr == 0) ||
  (leafB kind level && decide (0 ≤ attr ∧ attr ≤ 7) && al out (lbits level)))
set_option maxRecDepth 100000 in
set_option maxHeartbeats 2000000 in
theorem dright_leaf (level kind out attr : Int) (user write exec used : Bool) (h0 : 0 ≤ out) (h1 : out < 18446744073709551616) (l0 : 0 ≤ level) (l1 : level < 4) (k0 : ¬ kind = 0) (k1 : ¬ kind = 1) (w : World) :
    Calls Try.prog 32 #[.agg #[.int .i64 kind, .int .u64 out, .bool user, .bool write, .bool exec, .bool used, .int .i64 attr], .int .i64 level] w fun e w' => e = .returned (.bool (rightV level kind out user write exec used attr)) ∧ Below w.heap.size w w' := by
  have CLf := fun w => leaf_any kind level w
  have CA := fun w => aligned_any out 12 h0 h1 w
  have CBi := fun w => bits_any level w
  have CAb := fun w => aligned_any out (lbits level) h0 h1 w
  generalize hr : rightV level kind out user write exec used attr = r
  have HR := Lib.hid hr; clear hr
  have HM := Mem.nil w
  generalize hlf : leafB kind level = lf at CLf
  generalize ha : al out 12 = a12 at CA
  generalize hab : al out (lbits level) = ab at CAb
  generalize lbits level = lb at CBi CAb
  have HL := Lib.hid hlf; have HA := Lib.hid ha; have HAB := Lib.hid hab
  clear hlf ha hab
  go_enter Try.func32, Try.ntmps32
  go_wp2_with (first
    | (go_at_call 50; (with_reducible refine (M.call_pure (CLf) HM).mono ?_); clear HM; rintro e w_ ⟨rfl, HM⟩; dsimp only)
    | (go_at_call 38; (with_reducible refine (M.call_pure (CA) HM).mono ?_); clear HM; rintro e w_ ⟨rfl, HM⟩; dsimp only)
    | (go_at_call 37; (with_reducible refine (M.call_pure (CBi) HM).mono ?_); clear HM; rintro e w_ ⟨rfl, HM⟩; dsimp only)
    | (go_at_call 38; (with_reducible refine (M.call_pure (CAb) HM).mono ?_); clear HM; rintro e w_ ⟨rfl, HM⟩; dsimp only)
    | (refine M.at_reg 7 ?_; refine Mq.region_m (id := 7) HM (by kernel_rfl) (by kernel_rfl) ?_; (repeat (any_goals (first | go_big_quiet_skip | (refine Mq.qat_load 3 rfl ?_; go_big_quiet_want; first | (refine Mq.quiet_load_cell 3 _ rfl 0 _ _ _ _ _ rfl rfl rfl (by kernel_rfl) (by kernel_rfl) ?_; simp only [Act.put, List.setIfInBounds_toArray, List.set_cons_zero, List.set_cons_succ]; go_big_quiet_on)) | (refine Mq.qat_load 22 rfl ?_; go_big_quiet_want; first | (refine Mq.quiet_load_cell 22 _ rfl 0 _ _ _ _ _ rfl rfl rfl (by kernel_rfl) (by kernel_rfl) ?_; simp only [Act.put, List.setIfInBounds_toArray, List.set_cons_zero, List.set_cons_succ]; go_big_quiet_on)) | (refine Mq.qat_load 33 rfl ?_; go_big_quiet_want; first | (refine Mq.quiet_load_row 33 _ rfl 0 _ _ _ rfl rfl (by kernel_rfl) (by kernel_rfl) ?_; simp only [Act.put, List.setIfInBounds_toArray, List.set_cons_zero, List.set_cons_succ]; go_big_quiet_on)) | ((fail_if_success (refine Mq.qlit_t rfl ?_)); (fail_if_success (refine Mq.qlit_f rfl ?_)); refine Mq.qsplit rfl rfl ?_ ?_ <;> (intro hg_; simp only [hg_]; try simp only [M.hgs] at hg_)) | go_big_quiet_step (first | (go_at_call 50; with_reducible exact Mq.quiet_call_m (CLf _)) | (go_at_call 38; with_reducible exact Mq.quiet_call_m (CA _)) | (go_at_call 37; with_reducible exact Mq.quiet_call_m (CBi _)) | (go_at_call 38; with_reducible exact Mq.quiet_call_m (CAb _)) | exact rfl)))); all_goals (refine Go.Proofs.Ytfnmdelkdombbaa.G.wpQuiet_end ?_; clear HM; intro w_ HM))
    | (refine M.at_mem rfl ?_; first | (refine M.at_load 3 rfl ?_; first | (refine M.load_cell_m HM rfl 3 _ rfl 0 _ _ _ _ _ rfl rfl rfl (by kernel_rfl) (by kernel_rfl) ?_; go_simp)) | (refine M.at_load 22 rfl ?_; first | (refine M.load_cell_m HM rfl 22 _ rfl 0 _ _ _ _ _ rfl rfl rfl (by kernel_rfl) (by kernel_rfl) ?_; go_simp)) | (refine M.at_load 33 rfl ?_; first | (refine M.load_row_m HM rfl 33 _ rfl 0 _ _ _ rfl rfl (by kernel_rfl) (by kernel_rfl) ?_; go_simp)) | (refine M.at_box 33 rfl ?_; first | (refine M.box_m HM rfl rfl 33 _ rfl _ rfl ?_; clear HM; intro g_ w_ HM; go_simp)) | ((fail_if_success (refine M.lit_t rfl ?_)); (fail_if_success (refine M.lit_f rfl ?_)); refine M.split_guard rfl rfl ?_ ?_ <;> (intro hg_; simp only [hg_]; try simp only [M.hgs] at hg_)))
    | (refine Mc.at_cmp _ rfl ?_; refine Mc.cmp_m rfl _ rfl _ _ _ rfl _ _ _ rfl rfl _ rfl ?_ ?_ <;> (intro hg_; try simp only [M.hgs] at hg_; first | (exfalso; first | omega | (simp at hg_; done)) | (go_simp)))
    | ((fail_if_success (refine M.lit_t rfl ?_)); (fail_if_success (refine M.lit_f rfl ?_)); refine M.split_guard rfl rfl ?_ ?_ <;> (intro hg_; simp only [hg_]; try simp only [M.hgs] at hg_)))
  all_goals
    have HA' := HA.out; have HAB' := HAB.out; have HL' := HL.out
    simp only [al, show (2 : Int) ^ min (Int.toNat 12) 64 = 4096 from rfl] at HA'
    go_ret
    refine ⟨congrArg (fun z => Ending.returned (Value.bool z)) ?_, HM.none.to_below⟩
    rw [← HR.out]
    clear HM CLf CA CBi CAb
    simp only [rightV, HL', HAB']
    clear HL' HAB' HA' HR HL HA HAB
    have e1 : kn level = true := by simp [kn]; omega
    first | (simp [kn, *]; done) | (simp [kn, *]; omega) | (rw [e1, show decide (attr < 8) = decide (0 ≤ attr ∧ attr ≤ 7) from decide_eq_decide.mpr (by omega), show decide (out < 281474976710656) = true by simp; omega]; clear e1; simp [*])
set_option maxRecDepth 100000 in
set_option maxHeartbeats 2000000 in
theorem dright_low (level kind out attr : Int) (user write exec used : Bool) (h0 : 0 ≤ out) (h1 : out < 18446744073709551616) (hk : level < 0 ∨ 4 ≤ level ∨ kind = 0 ∨ kind = 1) (w : World) :
    Calls Try.prog 32 #[.agg #[.int .i64 kind, .int .u64 out, .bool user, .bool write, .bool exec, .bool used, .int .i64 attr], .int .i64 level] w fun e w' => e = .returned (.bool (rightV level kind out user write exec used attr)) ∧ Below w.heap.size w w' := by
  have CLf := fun w => leaf_any kind level w
  have CA := fun w => aligned_any out 12 h0 h1 w
  have CBi := fun w => bits_any level w
  have CAb := fun w => aligned_any out (lbits level) h0 h1 w
  generalize hr : rightV level kind out user write exec used attr = r
  have HR := Lib.hid hr; clear hr
  have HM := Mem.nil w
  generalize hlf : leafB kind level = lf at CLf
  generalize ha : al out 12 = a12 at CA
  generalize hab : al out (lbits level) = ab at CAb
  generalize lbits level = lb at CBi CAb
  have HL := Lib.hid hlf; have HA := Lib.hid ha; have HAB := Lib.hid hab
  clear hlf ha hab
  rcases hk with hk | hk | rfl | rfl
  all_goals
    go_enter Try.func32, Try.ntmps32
    go_wp2_with (first
      | (go_at_call 50; (with_reducible refine (M.call_pure (CLf) HM).mono ?_); clear HM; rintro e w_ ⟨rfl, HM⟩; dsimp only)
      | (go_at_call 38; (with_reducible refine (M.call_pure (CA) HM).mono ?_); clear HM; rintro e w_ ⟨rfl, HM⟩; dsimp only)
      | (go_at_call 37; (with_reducible refine (M.call_pure (CBi) HM).mono ?_); clear HM; rintro e w_ ⟨rfl, HM⟩; dsimp only)
      | (go_at_call 38; (with_reducible refine (M.call_pure (CAb) HM).mono ?_); clear HM; rintro e w_ ⟨rfl, HM⟩; dsimp only)
      | (refine M.at_reg 7 ?_; refine Mq.region_m (id := 7) HM (by kernel_rfl) (by kernel_rfl) ?_; (repeat (any_goals (first | go_big_quiet_skip | (refine Mq.qat_load 3 rfl ?_; go_big_quiet_want; first | (refine Mq.quiet_load_cell 3 _ rfl 0 _ _ _ _ _ rfl rfl rfl (by kernel_rfl) (by kernel_rfl) ?_; simp only [Act.put, List.setIfInBounds_toArray, List.set_cons_zero, List.set_cons_succ]; go_big_quiet_on)) | (refine Mq.qat_load 22 rfl ?_; go_big_quiet_want; first | (refine Mq.quiet_load_cell 22 _ rfl 0 _ _ _ _ _ rfl rfl rfl (by kernel_rfl) (by kernel_rfl) ?_; simp only [Act.put, List.setIfInBounds_toArray, List.set_cons_zero, List.set_cons_succ]; go_big_quiet_on)) | (refine Mq.qat_load 33 rfl ?_; go_big_quiet_want; first | (refine Mq.quiet_load_row 33 _ rfl 0 _ _ _ rfl rfl (by kernel_rfl) (by kernel_rfl) ?_; simp only [Act.put, List.setIfInBounds_toArray, List.set_cons_zero, List.set_cons_succ]; go_big_quiet_on)) | ((fail_if_success (refine Mq.qlit_t rfl ?_)); (fail_if_success (refine Mq.qlit_f rfl ?_)); refine Mq.qsplit rfl rfl ?_ ?_ <;> (intro hg_; simp only [hg_]; try simp only [M.hgs] at hg_)) | go_big_quiet_step (first | (go_at_call 50; with_reducible exact Mq.quiet_call_m (CLf _)) | (go_at_call 38; with_reducible exact Mq.quiet_call_m (CA _)) | (go_at_call 37; with_reducible exact Mq.quiet_call_m (CBi _)) | (go_at_call 38; with_reducible exact Mq.quiet_call_m (CAb _)) | exact rfl)))); all_goals (refine Go.Proofs.Ytfnmdelkdombbaa.G.wpQuiet_end ?_; clear HM; intro w_ HM))
      | (refine M.at_mem rfl ?_; first | (refine M.at_load 3 rfl ?_; first | (refine M.load_cell_m HM rfl 3 _ rfl 0 _ _ _ _ _ rfl rfl rfl (by kernel_rfl) (by kernel_rfl) ?_; go_simp)) | (refine M.at_load 22 rfl ?_; first | (refine M.load_cell_m HM rfl 22 _ rfl 0 _ _ _ _ _ rfl rfl rfl (by kernel_rfl) (by kernel_rfl) ?_; go_simp)) | (refine M.at_load 33 rfl ?_; first | (refine M.load_row_m HM rfl 33 _ rfl 0 _ _ _ rfl rfl (by kernel_rfl) (by kernel_rfl) ?_; go_simp)) | (refine M.at_box 33 rfl ?_; first | (refine M.box_m HM rfl rfl 33 _ rfl _ rfl ?_; clear HM; intro g_ w_ HM; go_simp)) | ((fail_if_success (refine M.lit_t rfl ?_)); (fail_if_success (refine M.lit_f rfl ?_)); refine M.split_guard rfl rfl ?_ ?_ <;> (intro hg_; simp only [hg_]; try simp only [M.hgs] at hg_)))
      | (refine Mc.at_cmp _ rfl ?_; refine Mc.cmp_m rfl _ rfl _ _ _ rfl _ _ _ rfl rfl _ rfl ?_ ?_ <;> (intro hg_; try simp only [M.hgs] at hg_; first | (exfalso; first | omega | (simp at hg_; done)) | (go_simp)))
      | ((fail_if_success (refine M.lit_t rfl ?_)); (fail_if_success (refine M.lit_f rfl ?_)); refine M.split_guard rfl rfl ?_ ?_ <;> (intro hg_; simp only [hg_]; try simp only [M.hgs] at hg_)))
  all_goals
    have HA' := HA.out
    simp only [al, show (2 : Int) ^ min (Int.toNat 12) 64 = 4096 from rfl] at HA'
    go_ret
    refine ⟨congrArg (fun z => Ending.returned (Value.bool z)) ?_, HM.none.to_below⟩
    rw [← HR.out]
    first | (simp [rightV, kn, leafB, *]; done) | (simp [rightV, kn, leafB, *]; omega)
end Go.Proofs.Ytfnmdelkdombbaa.Ds
