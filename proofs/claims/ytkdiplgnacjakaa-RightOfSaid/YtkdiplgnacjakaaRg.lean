/- The law RightOf walked. -/
import Derived.Test.YtkdiplgnacjakaaProg
import Derived.Test.YtkdiplgnacjakaaRf
namespace Go.Proofs.Ytkdiplgnacjakaa.Rg
open Go.RowKit Go.Proofs.Ytkdiplgnacjakaa.G Go.Proofs.Ytkdiplgnacjakaa.B Go.Proofs.Ytkdiplgnacjakaa.M Go.Proofs.Ytkdiplgnacjakaa.Dr Go.Proofs.Ytkdiplgnacjakaa.Rt Go.Proofs.Ytkdiplgnacjakaa.Re Go.Proofs.Ytkdiplgnacjakaa.Rf

set_option linter.unusedVariables false
set_option linter.unusedSimpArgs false
set_option maxRecDepth 100000 in
set_option maxHeartbeats 1000000 in
theorem law_any (kind out attr : Int) (user write exec used : Bool) (w : World) : Calls Try.prog 4 #[.agg #[.int .i64 kind, .int .u64 out, .bool user, .bool write, .bool exec, .bool used, .int .i64 attr]] w fun e w' => e = .returned (.bool true) ∧ Below w.heap.size w w' := by
  have CA := anchor_any
  have C1 := fun w => rof_any kind out attr user write exec used w
  have C2 := fun w => ref10of_any kind out attr user write exec used w
  generalize ofV kind user write exec used = r at C1 C2
  have HM := Mem.nil w
  go_enter Try.func4, Try.ntmps4
  go_wp2_with (first
    | (go_at_call 11; (with_reducible refine (Go.Proofs.Ytkdiplgnacjakaa.M.call_pure (CA) HM).mono ?_); clear HM; rintro e w_ ⟨rfl, HM⟩; dsimp only)
    | (go_at_call 16; (with_reducible refine (Go.Proofs.Ytkdiplgnacjakaa.M.call_pure (C1) HM).mono ?_); clear HM; rintro e w_ ⟨rfl, HM⟩; dsimp only)
    | (go_at_call 17; (with_reducible refine (Go.Proofs.Ytkdiplgnacjakaa.M.call_pure (C2) HM).mono ?_); clear HM; rintro e w_ ⟨rfl, HM⟩; dsimp only)
    | (refine Go.Proofs.Ytkdiplgnacjakaa.M.at_reg 3 ?_; refine Go.Proofs.Ytkdiplgnacjakaa.Mq.region_m (id := 3) HM (by kernel_rfl) (by kernel_rfl) ?_; (repeat (any_goals (first | (refine Go.Proofs.Ytkdiplgnacjakaa.Mq.qat_load 31 rfl ?_; go_big_quiet_want; first | (refine Go.Proofs.Ytkdiplgnacjakaa.Mq.quiet_load_row 31 _ rfl 0 _ _ _ rfl rfl (by kernel_rfl) (by kernel_rfl) ?_; simp only [Act.put, List.setIfInBounds_toArray, List.set_cons_zero, List.set_cons_succ]; go_big_quiet_on)) | ((fail_if_success (refine Go.Proofs.Ytkdiplgnacjakaa.Mq.qlit_t rfl ?_)); (fail_if_success (refine Go.Proofs.Ytkdiplgnacjakaa.Mq.qlit_f rfl ?_)); refine Go.Proofs.Ytkdiplgnacjakaa.Mq.qsplit rfl rfl ?_ ?_ <;> (intro hg_; simp only [hg_]; try simp only [decide_eq_true_eq, decide_eq_false_iff_not, Bool.and_eq_true, Bool.or_eq_true, Bool.and_eq_false_iff, Bool.or_eq_false_iff, Bool.not_eq_true', Bool.not_eq_false', beq_iff_eq, bne_iff_ne, beq_eq_false_iff_ne, bne_eq_false_iff_eq, Int.not_lt, Int.not_le, ne_eq] at hg_)) | go_big_quiet_step (first | (go_at_call 11; with_reducible exact Go.Proofs.Ytkdiplgnacjakaa.Mq.quiet_call_m (CA _)) | (go_at_call 16; with_reducible exact Go.Proofs.Ytkdiplgnacjakaa.Mq.quiet_call_m (C1 _)) | (go_at_call 17; with_reducible exact Go.Proofs.Ytkdiplgnacjakaa.Mq.quiet_call_m (C2 _)) | exact rfl)))); all_goals (refine Go.Proofs.Ytkdiplgnacjakaa.G.wpQuiet_end ?_; clear HM; intro w_ HM))
    | (refine Go.Proofs.Ytkdiplgnacjakaa.M.at_mem rfl ?_; first | (refine Go.Proofs.Ytkdiplgnacjakaa.M.at_load 31 rfl ?_; first | (refine Go.Proofs.Ytkdiplgnacjakaa.M.load_row_m HM rfl 31 _ rfl 0 _ _ _ rfl rfl (by kernel_rfl) (by kernel_rfl) ?_; go_simp)) | (refine Go.Proofs.Ytkdiplgnacjakaa.M.at_box 31 rfl ?_; first | (refine Go.Proofs.Ytkdiplgnacjakaa.M.box_m HM rfl rfl 31 _ rfl _ rfl ?_; clear HM; intro g_ w_ HM; go_simp)) | ((fail_if_success (refine Go.Proofs.Ytkdiplgnacjakaa.M.lit_t rfl ?_)); (fail_if_success (refine Go.Proofs.Ytkdiplgnacjakaa.M.lit_f rfl ?_)); refine Go.Proofs.Ytkdiplgnacjakaa.M.split_guard rfl rfl ?_ ?_ <;> (intro hg_; simp only [hg_]; try simp only [decide_eq_true_eq, decide_eq_false_iff_not, Bool.and_eq_true, Bool.or_eq_true, Bool.and_eq_false_iff, Bool.or_eq_false_iff, Bool.not_eq_true', Bool.not_eq_false', beq_iff_eq, bne_iff_ne, beq_eq_false_iff_ne, bne_eq_false_iff_eq, Int.not_lt, Int.not_le, ne_eq] at hg_)))
    | ((fail_if_success (refine Go.Proofs.Ytkdiplgnacjakaa.M.lit_t rfl ?_)); (fail_if_success (refine Go.Proofs.Ytkdiplgnacjakaa.M.lit_f rfl ?_)); refine Go.Proofs.Ytkdiplgnacjakaa.M.split_guard rfl rfl ?_ ?_ <;> (intro hg_; simp only [hg_]; try simp only [decide_eq_true_eq, decide_eq_false_iff_not, Bool.and_eq_true, Bool.or_eq_true, Bool.and_eq_false_iff, Bool.or_eq_false_iff, Bool.not_eq_true', Bool.not_eq_false', beq_iff_eq, bne_iff_ne, beq_eq_false_iff_ne, bne_eq_false_iff_eq, Int.not_lt, Int.not_le, ne_eq] at hg_)))
  go_ret
  exact ⟨by simp, HM.none.to_below⟩
end Go.Proofs.Ytkdiplgnacjakaa.Rg
