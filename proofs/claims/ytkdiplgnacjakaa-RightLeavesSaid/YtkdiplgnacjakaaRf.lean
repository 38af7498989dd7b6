/- right.Of, ref10.Of and the anchor of layer 10: what each call answers. -/
import Derived.Test.YtkdiplgnacjakaaProg
import Derived.Test.YtkdiplgnacjakaaRe
import Derived.Test.YtkdiplgnacjakaaRu
namespace Go.Proofs.Ytkdiplgnacjakaa.Rf
open Go.RowKit Go.Proofs.Ytkdiplgnacjakaa.G Go.Proofs.Ytkdiplgnacjakaa.B Go.Proofs.Ytkdiplgnacjakaa.M Go.Proofs.Ytkdiplgnacjakaa.Dr Go.Proofs.Ytkdiplgnacjakaa.Rt Go.Proofs.Ytkdiplgnacjakaa.Re

set_option linter.unusedVariables false
set_option linter.unusedSimpArgs false
theorem or12 : Go.bits .or .i64 1 2 = 3 := by decide +kernel
theorem or14 : Go.bits .or .i64 1 4 = 5 := by decide +kernel
theorem or124 : Go.bits .or .i64 3 4 = 7 := by decide +kernel
def ofV (kind : Int) (user write exec used : Bool) : Int := if (kind = 2 ∨ kind = 3) ∧ used = true ∧ user = true then (if write = true then (if exec = true then 7 else 3) else (if exec = true then 5 else 1)) else 0
set_option maxRecDepth 100000 in
set_option maxHeartbeats 1000000 in
theorem rof_any (kind out attr : Int) (user write exec used : Bool) (w : World) : Calls Try.prog 16 #[.agg #[.int .i64 kind, .int .u64 out, .bool user, .bool write, .bool exec, .bool used, .int .i64 attr]] w fun e w' => e = .returned (.int .i64 (ofV kind user write exec used)) ∧ Below w.heap.size w w' := by
  generalize hr : ofV kind user write exec used = r
  have HR := Lib.hid hr; clear hr
  have HM := Mem.nil w
  go_enter Try.func16, Try.ntmps16
  go_wp2_with (first
    | (refine Go.Proofs.Ytkdiplgnacjakaa.M.at_mem rfl ?_; first | (refine Go.Proofs.Ytkdiplgnacjakaa.M.at_load 3 rfl ?_; first | (refine Go.Proofs.Ytkdiplgnacjakaa.M.load_cell_m HM rfl 3 _ rfl 0 _ _ _ _ _ rfl rfl rfl (by kernel_rfl) (by kernel_rfl) ?_; go_simp)) | (refine Go.Proofs.Ytkdiplgnacjakaa.M.at_load 4 rfl ?_; first | (refine Go.Proofs.Ytkdiplgnacjakaa.M.load_cell_m HM rfl 4 _ rfl 0 _ _ _ _ _ rfl rfl rfl (by kernel_rfl) (by kernel_rfl) ?_; go_simp)) | (refine Go.Proofs.Ytkdiplgnacjakaa.M.at_box 31 rfl ?_; first | (refine Go.Proofs.Ytkdiplgnacjakaa.M.box_m HM rfl rfl 31 _ rfl _ rfl ?_; clear HM; intro g_ w_ HM; go_simp)) | ((fail_if_success (refine Go.Proofs.Ytkdiplgnacjakaa.M.lit_t rfl ?_)); (fail_if_success (refine Go.Proofs.Ytkdiplgnacjakaa.M.lit_f rfl ?_)); refine Go.Proofs.Ytkdiplgnacjakaa.M.split_guard rfl rfl ?_ ?_ <;> (intro hg_; simp only [hg_]; try simp only [decide_eq_true_eq, decide_eq_false_iff_not, Bool.and_eq_true, Bool.or_eq_true, Bool.and_eq_false_iff, Bool.or_eq_false_iff, Bool.not_eq_true', Bool.not_eq_false', beq_iff_eq, bne_iff_ne, beq_eq_false_iff_ne, bne_eq_false_iff_eq, Int.not_lt, Int.not_le, ne_eq] at hg_)))
    | (refine Go.Proofs.Ytkdiplgnacjakaa.Mc.at_cmp _ rfl ?_; refine Go.Proofs.Ytkdiplgnacjakaa.Mc.cmp_m rfl _ rfl _ _ _ rfl _ _ _ rfl rfl _ rfl ?_ ?_ <;> (intro hg_; try simp only [decide_eq_true_eq, decide_eq_false_iff_not, Bool.and_eq_true, Bool.or_eq_true, Bool.and_eq_false_iff, Bool.or_eq_false_iff, Bool.not_eq_true', Bool.not_eq_false', beq_iff_eq, bne_iff_ne, beq_eq_false_iff_ne, bne_eq_false_iff_eq, Int.not_lt, Int.not_le, ne_eq] at hg_; first | (exfalso; first | omega | (simp at hg_; done)) | go_simp))
    | ((fail_if_success (refine Go.Proofs.Ytkdiplgnacjakaa.M.lit_t rfl ?_)); (fail_if_success (refine Go.Proofs.Ytkdiplgnacjakaa.M.lit_f rfl ?_)); refine Go.Proofs.Ytkdiplgnacjakaa.M.split_guard rfl rfl ?_ ?_ <;> (intro hg_; simp only [hg_]; try simp only [decide_eq_true_eq, decide_eq_false_iff_not, Bool.and_eq_true, Bool.or_eq_true, Bool.and_eq_false_iff, Bool.or_eq_false_iff, Bool.not_eq_true', Bool.not_eq_false', beq_iff_eq, bne_iff_ne, beq_eq_false_iff_ne, bne_eq_false_iff_eq, Int.not_lt, Int.not_le, ne_eq] at hg_)))
  all_goals
    go_ret
    refine ⟨congrArg (fun z => Ending.returned (Value.int .i64 z)) ?_, HM.none.to_below⟩
    rw [← HR.out]
    have H2 : kind = 2 ∨ kind = 3 ∨ ¬ (kind = 2 ∨ kind = 3) := by omega
    clear HM HR
    rcases H2 with H2 | H2 | H2
    · subst H2
      cases user <;> cases write <;> cases exec <;> cases used <;> first | contradiction | (exfalso; omega) | decide +kernel
    · subst H2
      cases user <;> cases write <;> cases exec <;> cases used <;> first | contradiction | (exfalso; omega) | decide +kernel
    · first | (exfalso; omega) | exact (if_neg fun h => H2 h.1).symm
set_option maxRecDepth 100000 in
set_option maxHeartbeats 1000000 in
theorem ref10of_any (kind out attr : Int) (user write exec used : Bool) (w : World) : Calls Try.prog 17 #[.agg #[.int .i64 kind, .int .u64 out, .bool user, .bool write, .bool exec, .bool used, .int .i64 attr]] w fun e w' => e = .returned (.int .i64 (ofV kind user write exec used)) ∧ Below w.heap.size w w' := by
  generalize hr : ofV kind user write exec used = r
  have HR := Lib.hid hr; clear hr
  have HM := Mem.nil w
  go_enter Try.func17, Try.ntmps17
  go_wp2_with (first
    | (refine Go.Proofs.Ytkdiplgnacjakaa.M.at_mem rfl ?_; first | (refine Go.Proofs.Ytkdiplgnacjakaa.M.at_load 3 rfl ?_; first | (refine Go.Proofs.Ytkdiplgnacjakaa.M.load_cell_m HM rfl 3 _ rfl 0 _ _ _ _ _ rfl rfl rfl (by kernel_rfl) (by kernel_rfl) ?_; go_simp)) | (refine Go.Proofs.Ytkdiplgnacjakaa.M.at_load 4 rfl ?_; first | (refine Go.Proofs.Ytkdiplgnacjakaa.M.load_cell_m HM rfl 4 _ rfl 0 _ _ _ _ _ rfl rfl rfl (by kernel_rfl) (by kernel_rfl) ?_; go_simp)) | (refine Go.Proofs.Ytkdiplgnacjakaa.M.at_box 34 rfl ?_; first | (refine Go.Proofs.Ytkdiplgnacjakaa.M.box_m HM rfl rfl 34 _ rfl _ rfl ?_; clear HM; intro g_ w_ HM; go_simp)) | ((fail_if_success (refine Go.Proofs.Ytkdiplgnacjakaa.M.lit_t rfl ?_)); (fail_if_success (refine Go.Proofs.Ytkdiplgnacjakaa.M.lit_f rfl ?_)); refine Go.Proofs.Ytkdiplgnacjakaa.M.split_guard rfl rfl ?_ ?_ <;> (intro hg_; simp only [hg_]; try simp only [decide_eq_true_eq, decide_eq_false_iff_not, Bool.and_eq_true, Bool.or_eq_true, Bool.and_eq_false_iff, Bool.or_eq_false_iff, Bool.not_eq_true', Bool.not_eq_false', beq_iff_eq, bne_iff_ne, beq_eq_false_iff_ne, bne_eq_false_iff_eq, Int.not_lt, Int.not_le, ne_eq] at hg_)))
    | (refine Go.Proofs.Ytkdiplgnacjakaa.Mc.at_cmp _ rfl ?_; refine Go.Proofs.Ytkdiplgnacjakaa.Mc.cmp_m rfl _ rfl _ _ _ rfl _ _ _ rfl rfl _ rfl ?_ ?_ <;> (intro hg_; try simp only [decide_eq_true_eq, decide_eq_false_iff_not, Bool.and_eq_true, Bool.or_eq_true, Bool.and_eq_false_iff, Bool.or_eq_false_iff, Bool.not_eq_true', Bool.not_eq_false', beq_iff_eq, bne_iff_ne, beq_eq_false_iff_ne, bne_eq_false_iff_eq, Int.not_lt, Int.not_le, ne_eq] at hg_; first | (exfalso; first | omega | (simp at hg_; done)) | go_simp))
    | ((fail_if_success (refine Go.Proofs.Ytkdiplgnacjakaa.M.lit_t rfl ?_)); (fail_if_success (refine Go.Proofs.Ytkdiplgnacjakaa.M.lit_f rfl ?_)); refine Go.Proofs.Ytkdiplgnacjakaa.M.split_guard rfl rfl ?_ ?_ <;> (intro hg_; simp only [hg_]; try simp only [decide_eq_true_eq, decide_eq_false_iff_not, Bool.and_eq_true, Bool.or_eq_true, Bool.and_eq_false_iff, Bool.or_eq_false_iff, Bool.not_eq_true', Bool.not_eq_false', beq_iff_eq, bne_iff_ne, beq_eq_false_iff_ne, bne_eq_false_iff_eq, Int.not_lt, Int.not_le, ne_eq] at hg_)))
  all_goals
    go_ret
    refine ⟨congrArg (fun z => Ending.returned (Value.int .i64 z)) ?_, HM.none.to_below⟩
    rw [← HR.out]
    have H2 : kind = 2 ∨ kind = 3 ∨ ¬ (kind = 2 ∨ kind = 3) := by omega
    clear HM HR
    rcases H2 with H2 | H2 | H2
    · subst H2
      cases user <;> cases write <;> cases exec <;> cases used <;> first | contradiction | (exfalso; omega) | decide +kernel
    · subst H2
      cases user <;> cases write <;> cases exec <;> cases used <;> first | contradiction | (exfalso; omega) | decide +kernel
    · first | (exfalso; omega) | exact (if_neg fun h => H2 h.1).symm
set_option maxRecDepth 100000 in
set_option maxHeartbeats 1000000 in
theorem anchor_any (w : World) : Calls Try.prog 11 #[] w fun e w' => e = .returned (.bool true) ∧ Below w.heap.size w w' := by
  have CP : ∀ w, Calls Try.prog 14 #[.string (⟨#[114, 45, 120]⟩ : ByteArray)] w fun e w' => e = .returned (.tuple #[.int .i64 5, .bool true]) ∧ Below w.heap.size w w' := by
    rcases Go.Proofs.Ytkdiplgnacjakaa.Ru.parse_any (⟨#[114, 45, 120]⟩ : ByteArray) with ⟨q, q0, q7, hs, hC⟩ | ⟨hn, hC⟩
    · rw [Go.Proofs.Ytkdiplgnacjakaa.Ru.show_inj 5 q (by decide) (by decide) q0 q7 (by rw [← hs]; rfl)]
      exact hC
    · exact absurd rfl (hn 5 (by decide) (by decide))
  have CL := fun w => rleaf_ok 3 20480 6 (by decide) (by decide) (by decide) (by decide) rfl (by decide +kernel) w
  have CS := fun w => show_any 5 (by decide) (by decide) w
  change ∀ w, Calls _ _ _ _ (fun e w' => e = Ending.returned (.string (⟨#[114, 45, 120]⟩ : ByteArray)) ∧ _) at CS
  have e1 : withinV 1 6 = false := by decide +kernel
  have e3 : withinV 3 6 = false := by decide +kernel
  have e5 : withinV 5 6 = false := by decide +kernel
  rw [e1, e3, e5, if_pos rfl] at CL
  have CO := fun w => rof_any 3 20480 0 false false false true w
  change ∀ w, Calls _ _ _ _ (fun e w' => e = Ending.returned (.int .i64 0) ∧ _) at CO
  have HM := Mem.nil w
  go_enter Try.func11, Try.ntmps11
  go_wp2_with (first
    | (go_at_call 14; (with_reducible refine (Go.Proofs.Ytkdiplgnacjakaa.M.call_pure (CP) HM).mono ?_); clear HM; rintro e w_ ⟨rfl, HM⟩; dsimp only)
    | (go_at_call 22; (with_reducible refine (Go.Proofs.Ytkdiplgnacjakaa.M.call_pure (CL) HM).mono ?_); clear HM; rintro e w_ ⟨rfl, HM⟩; dsimp only)
    | (go_at_call 12; (with_reducible refine (Go.Proofs.Ytkdiplgnacjakaa.M.call_pure (CS) HM).mono ?_); clear HM; rintro e w_ ⟨rfl, HM⟩; dsimp only)
    | (go_at_call 16; (with_reducible refine (Go.Proofs.Ytkdiplgnacjakaa.M.call_pure (CO) HM).mono ?_); clear HM; rintro e w_ ⟨rfl, HM⟩; dsimp only)
    | (refine Go.Proofs.Ytkdiplgnacjakaa.M.at_mem rfl ?_; first | (refine Go.Proofs.Ytkdiplgnacjakaa.M.at_load 31 rfl ?_; first | (refine Go.Proofs.Ytkdiplgnacjakaa.M.load_row_m HM rfl 31 _ rfl 0 _ _ _ rfl rfl (by kernel_rfl) (by kernel_rfl) ?_; go_simp)) | (refine Go.Proofs.Ytkdiplgnacjakaa.M.at_store 31 rfl ?_; first | (refine Go.Proofs.Ytkdiplgnacjakaa.M.store_row_m HM rfl 31 _ _ rfl 0 _ _ _ _ rfl rfl rfl (by kernel_rfl) rfl (by simp [Value.oneCell']) ?_; clear HM; intro w_ HM; (try simp only [List.set_cons_zero, List.set_cons_succ, List.setIfInBounds_toArray, List.eraseIdx_cons_zero, List.eraseIdx_cons_succ, List.cons_append, List.nil_append] at HM); go_simp)) | (refine Go.Proofs.Ytkdiplgnacjakaa.M.at_alloc 31 rfl ?_; first | (refine Go.Proofs.Ytkdiplgnacjakaa.M.alloc_m HM rfl rfl 31 rfl (.agg #[(.int .i64 0), (.int .u64 0), (.bool false), (.bool false), (.bool false), (.bool false), (.int .i64 0)]) (by kernel_rfl) #[(.int .i64 0), (.int .u64 0), (.bool false), (.bool false), (.bool false), (.bool false), (.int .i64 0)] rfl ?_; clear HM; intro g_ w_ HM; go_simp)) | ((fail_if_success (refine Go.Proofs.Ytkdiplgnacjakaa.M.lit_t rfl ?_)); (fail_if_success (refine Go.Proofs.Ytkdiplgnacjakaa.M.lit_f rfl ?_)); refine Go.Proofs.Ytkdiplgnacjakaa.M.split_guard rfl rfl ?_ ?_ <;> (intro hg_; simp only [hg_]; try simp only [decide_eq_true_eq, decide_eq_false_iff_not, Bool.and_eq_true, Bool.or_eq_true, Bool.and_eq_false_iff, Bool.or_eq_false_iff, Bool.not_eq_true', Bool.not_eq_false', beq_iff_eq, bne_iff_ne, beq_eq_false_iff_ne, bne_eq_false_iff_eq, Int.not_lt, Int.not_le, ne_eq] at hg_)))
    | ((fail_if_success (refine Go.Proofs.Ytkdiplgnacjakaa.M.lit_t rfl ?_)); (fail_if_success (refine Go.Proofs.Ytkdiplgnacjakaa.M.lit_f rfl ?_)); refine Go.Proofs.Ytkdiplgnacjakaa.M.split_guard rfl rfl ?_ ?_ <;> (intro hg_; simp only [hg_]; try simp only [decide_eq_true_eq, decide_eq_false_iff_not, Bool.and_eq_true, Bool.or_eq_true, Bool.and_eq_false_iff, Bool.or_eq_false_iff, Bool.not_eq_true', Bool.not_eq_false', beq_iff_eq, bne_iff_ne, beq_eq_false_iff_ne, bne_eq_false_iff_eq, Int.not_lt, Int.not_le, ne_eq] at hg_)))
  go_ret
  exact ⟨rfl, HM.none.to_below⟩
end Go.Proofs.Ytkdiplgnacjakaa.Rf
