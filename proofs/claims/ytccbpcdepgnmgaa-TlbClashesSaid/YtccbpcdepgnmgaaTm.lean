/- The law TlbMatches walked. -/
import Derived.Test.YtccbpcdepgnmgaaProg
import Derived.Test.YtccbpcdepgnmgaaTw
namespace Go.Proofs.Ytccbpcdepgnmgaa.Tm
open Go.RowKit Go.Proofs.Ytccbpcdepgnmgaa.G Go.Proofs.Ytccbpcdepgnmgaa.B Go.Proofs.Ytccbpcdepgnmgaa.M Go.Proofs.Ytccbpcdepgnmgaa.Mv Go.Proofs.Ytccbpcdepgnmgaa.Te Go.Proofs.Ytccbpcdepgnmgaa.Tp Go.Proofs.Ytccbpcdepgnmgaa.Tq Go.Proofs.Ytccbpcdepgnmgaa.Tw

set_option linter.unusedVariables false
set_option linter.unusedSimpArgs false
set_option maxRecDepth 100000
theorem right_facts {e : E} (h : rightE e = true) : (e.level = 1 ∨ e.level = 2 ∨ e.level = 3) ∧ e.va < 281474976710656 ∧ baseV e.va e.level = e.va := by
  unfold rightE at h
  simp only [Bool.and_eq_true, decide_eq_true_eq] at h
  obtain ⟨⟨h1, h2, h3, h4⟩, h5, h6, -⟩ := h
  refine ⟨by omega, ?_, h6⟩
  unfold lowB at h5
  exact of_decide_eq_true h5
theorem match_law {e : E} (h : rightE e = true) (asid va S : Int) (v0 : 0 ≤ va) (v1 : va < 18446744073709551616) (e0 : 0 ≤ e.va) (hS : lsize e.level = S) : matchE e asid va = true ↔ e.asid = asid ∧ e.va ≤ va ∧ va - e.va < S := by
  obtain ⟨hl, hv, hb⟩ := right_facts h
  have hk : kn e.level = true := by unfold kn; exact decide_eq_true (by omega)
  rw [baseV_yes hk, hS] at hb
  unfold matchE lowB
  rw [baseV_yes hk, hS]
  simp only [Bool.and_eq_true, decide_eq_true_eq]
  rw [Int.emod_eq_of_lt e0 hv] at hb
  have hS3 : S = 1073741824 ∨ S = 2097152 ∨ S = 4096 := by
    rw [← hS]; unfold lsize
    rcases hl with e | e | e <;> rw [e] <;> simp
  clear hk hS h
  constructor
  · rintro ⟨h1, h2, h3⟩
    rw [Int.emod_eq_of_lt v0 h2] at h3
    rcases hS3 with rfl | rfl | rfl <;> omega
  · rintro ⟨h1, h2, h3⟩
    have h4 : va < 281474976710656 := by rcases hS3 with rfl | rfl | rfl <;> omega
    rw [Int.emod_eq_of_lt v0 h4]
    rcases hS3 with rfl | rfl | rfl <;> omega
set_option maxHeartbeats 4000000 in
theorem law_any (e : E) (asid va : Int) (ho : e.ok) (v0 : 0 ≤ va) (v1 : va < 18446744073709551616) (w : World) : Calls Try.prog 3 #[.agg e.cells, .int .i64 asid, .int .u64 va] w fun x w' => x = .returned (.bool true) ∧ Below w.heap.size w w' := by
  have CA := anchor_any
  have CL := fun w => listed_any e w
  have CR := fun w => rright07_any e ho w
  have CE := fun w => right_any e ho w
  have HM := Mem.nil w
  cases hr : rightE e with
  | false =>
    rw [hr] at CR CE
    clear hr
    go_enter Try.func3, Try.ntmps3
    go_wp2_with (first
      | (go_big_skip)
      | (go_at_call 7; (with_reducible refine (Go.Proofs.Ytccbpcdepgnmgaa.M.call_pure (CA) HM).mono ?_); clear HM; rintro e w_ ⟨rfl, HM⟩; dsimp only)
      | (go_at_call 8; (with_reducible refine (Go.Proofs.Ytccbpcdepgnmgaa.M.call_pure (CL) HM).mono ?_); clear HM; rintro e w_ ⟨rfl, HM⟩; dsimp only)
      | (go_at_call 9; (with_reducible refine (Go.Proofs.Ytccbpcdepgnmgaa.M.call_pure (CR) HM).mono ?_); clear HM; rintro e w_ ⟨rfl, HM⟩; dsimp only)
      | (go_at_call 10; (with_reducible refine (Go.Proofs.Ytccbpcdepgnmgaa.M.call_pure (CE) HM).mono ?_); clear HM; rintro e w_ ⟨rfl, HM⟩; dsimp only)
      | (refine Go.Proofs.Ytccbpcdepgnmgaa.M.at_mem rfl ?_; first | (refine Go.Proofs.Ytccbpcdepgnmgaa.M.at_load 3 rfl ?_; first | (refine Go.Proofs.Ytccbpcdepgnmgaa.M.load_cell_m HM rfl 3 _ rfl 0 _ _ _ _ _ rfl rfl rfl (by kernel_rfl) (by kernel_rfl) ?_; go_simp) | (refine Go.Proofs.Ytccbpcdepgnmgaa.M.load_cell_m HM rfl 3 _ rfl 1 _ _ _ _ _ rfl rfl rfl (by kernel_rfl) (by kernel_rfl) ?_; go_simp)) | (refine Go.Proofs.Ytccbpcdepgnmgaa.M.at_load 22 rfl ?_; first | (refine Go.Proofs.Ytccbpcdepgnmgaa.M.load_cell_m HM rfl 22 _ rfl 0 _ _ _ _ _ rfl rfl rfl (by kernel_rfl) (by kernel_rfl) ?_; go_simp) | (refine Go.Proofs.Ytccbpcdepgnmgaa.M.load_cell_m HM rfl 22 _ rfl 1 _ _ _ _ _ rfl rfl rfl (by kernel_rfl) (by kernel_rfl) ?_; go_simp)) | (refine Go.Proofs.Ytccbpcdepgnmgaa.M.at_load 26 rfl ?_; first | (refine Go.Proofs.Ytccbpcdepgnmgaa.M.load_row_m HM rfl 26 _ rfl 0 _ _ _ rfl rfl (by kernel_rfl) (by kernel_rfl) ?_; go_simp) | (refine Go.Proofs.Ytccbpcdepgnmgaa.M.load_row_m HM rfl 26 _ rfl 1 _ _ _ rfl rfl (by kernel_rfl) (by kernel_rfl) ?_; go_simp)) | (refine Go.Proofs.Ytccbpcdepgnmgaa.M.at_load 30 rfl ?_; first | (refine Go.Proofs.Ytccbpcdepgnmgaa.M.load_row_m HM rfl 30 _ rfl 0 _ _ _ rfl rfl (by kernel_rfl) (by kernel_rfl) ?_; go_simp) | (refine Go.Proofs.Ytccbpcdepgnmgaa.M.load_row_m HM rfl 30 _ rfl 1 _ _ _ rfl rfl (by kernel_rfl) (by kernel_rfl) ?_; go_simp)) | (refine Go.Proofs.Ytccbpcdepgnmgaa.M.at_store 30 rfl ?_; first | (refine Go.Proofs.Ytccbpcdepgnmgaa.M.store_row_m HM rfl 30 _ _ rfl 0 _ _ _ e.cells rfl rfl rfl (by kernel_rfl) rfl (E.one e) ?_; clear HM; intro w_ HM; (try simp only [List.set_cons_zero, List.set_cons_succ] at HM); go_simp) | (refine Go.Proofs.Ytccbpcdepgnmgaa.M.store_row_m HM rfl 30 _ _ rfl 0 _ _ _ _ rfl rfl rfl (by kernel_rfl) rfl (by simp [Value.oneCell']) ?_; clear HM; intro w_ HM; (try simp only [List.set_cons_zero, List.set_cons_succ, List.setIfInBounds_toArray, List.eraseIdx_cons_zero, List.eraseIdx_cons_succ, List.cons_append, List.nil_append] at HM); go_simp) | (refine Go.Proofs.Ytccbpcdepgnmgaa.M.store_row_m HM rfl 30 _ _ rfl 1 _ _ _ _ rfl rfl rfl (by kernel_rfl) rfl (by simp [Value.oneCell']) ?_; clear HM; intro w_ HM; (try simp only [List.set_cons_zero, List.set_cons_succ, List.setIfInBounds_toArray, List.eraseIdx_cons_zero, List.eraseIdx_cons_succ, List.cons_append, List.nil_append] at HM); go_simp)) | (refine Go.Proofs.Ytccbpcdepgnmgaa.M.at_alloc 30 rfl ?_; first | (refine Go.Proofs.Ytccbpcdepgnmgaa.M.alloc_m HM rfl rfl 30 rfl (.agg E.zero.cells) (by kernel_rfl) E.zero.cells rfl ?_; clear HM; intro g_ w_ HM; go_simp) | (refine Go.Proofs.Ytccbpcdepgnmgaa.M.alloc_m HM rfl rfl 30 rfl (.agg #[(.int .i64 0), (.int .u64 0), (.int .i64 0), (.int .i64 0), (.int .u64 0), (.bool false), (.bool false), (.bool false), (.bool false), (.int .i64 0)]) (by kernel_rfl) #[(.int .i64 0), (.int .u64 0), (.int .i64 0), (.int .i64 0), (.int .u64 0), (.bool false), (.bool false), (.bool false), (.bool false), (.int .i64 0)] rfl ?_; clear HM; intro g_ w_ HM; go_simp)) | (refine Go.Proofs.Ytccbpcdepgnmgaa.M.at_box 26 rfl ?_; first | (refine Go.Proofs.Ytccbpcdepgnmgaa.M.alloc_m HM rfl rfl 30 rfl (.agg E.zero.cells) (by kernel_rfl) E.zero.cells rfl ?_; clear HM; intro g_ w_ HM; go_simp) | (refine Go.Proofs.Ytccbpcdepgnmgaa.M.box_m HM rfl rfl 26 _ rfl _ rfl ?_; clear HM; intro g_ w_ HM; go_simp)) | ((fail_if_success (refine Go.Proofs.Ytccbpcdepgnmgaa.M.lit_t rfl ?_)); (fail_if_success (refine Go.Proofs.Ytccbpcdepgnmgaa.M.lit_f rfl ?_)); refine Go.Proofs.Ytccbpcdepgnmgaa.M.split_guard rfl rfl ?_ ?_ <;> (intro hg_; simp only [hg_]; try simp only [decide_eq_true_eq, decide_eq_false_iff_not, Bool.and_eq_true, Bool.or_eq_true, Bool.and_eq_false_iff, Bool.or_eq_false_iff, Bool.not_eq_true', Bool.not_eq_false', beq_iff_eq, bne_iff_ne, beq_eq_false_iff_ne, bne_eq_false_iff_eq, Int.not_lt, Int.not_le, ne_eq] at hg_)))
      | ((fail_if_success (refine Go.Proofs.Ytccbpcdepgnmgaa.M.lit_t rfl ?_)); (fail_if_success (refine Go.Proofs.Ytccbpcdepgnmgaa.M.lit_f rfl ?_)); refine Go.Proofs.Ytccbpcdepgnmgaa.M.split_guard rfl rfl ?_ ?_ <;> (intro hg_; simp only [hg_]; try simp only [decide_eq_true_eq, decide_eq_false_iff_not, Bool.and_eq_true, Bool.or_eq_true, Bool.and_eq_false_iff, Bool.or_eq_false_iff, Bool.not_eq_true', Bool.not_eq_false', beq_iff_eq, bne_iff_ne, beq_eq_false_iff_ne, bne_eq_false_iff_eq, Int.not_lt, Int.not_le, ne_eq] at hg_)))
    all_goals
      go_ret
      exact ⟨by first | rfl | simp, HM.none.to_below⟩
  | true =>
    have CM := fun w => match_any e asid va v0 v1 w
    have CB := fun w => Dr.bits_any e.level w
    rw [hr] at CR CE
    obtain ⟨hl, hv, -⟩ := right_facts hr
    have hm : ∀ S, lsize e.level = S → (matchE e asid va = true ↔ e.asid = asid ∧ e.va ≤ va ∧ va - e.va < S) := fun S hS => match_law hr asid va S v0 v1 ho.1 hS
    have e0 := ho.1
    generalize hmm : matchE e asid va = m at CM hm
    clear hr hmm ho
    obtain ⟨asid', va', level, kind, out, user, write, exec, used, attr⟩ := e
    dsimp only at hl hv hm e0 CB
    simp only [E.cells] at CL CR CE CM ⊢
    rcases hl with rfl | rfl | rfl
    all_goals
      have hm := hm _ rfl
      have HMM := Lib.hid hm; clear hm
      simp only [show lbits 1 = 30 from rfl, show lbits 2 = 21 from rfl, show lbits 3 = 12 from rfl] at CB
      go_enter Try.func3, Try.ntmps3
      go_wp2_with (first
        | (go_big_skip)
        | (go_at_call 7; (with_reducible refine (Go.Proofs.Ytccbpcdepgnmgaa.M.call_pure (CA) HM).mono ?_); clear HM; rintro e w_ ⟨rfl, HM⟩; dsimp only)
        | (go_at_call 8; (with_reducible refine (Go.Proofs.Ytccbpcdepgnmgaa.M.call_pure (CL) HM).mono ?_); clear HM; rintro e w_ ⟨rfl, HM⟩; dsimp only)
        | (go_at_call 9; (with_reducible refine (Go.Proofs.Ytccbpcdepgnmgaa.M.call_pure (CR) HM).mono ?_); clear HM; rintro e w_ ⟨rfl, HM⟩; dsimp only)
        | (go_at_call 10; (with_reducible refine (Go.Proofs.Ytccbpcdepgnmgaa.M.call_pure (CE) HM).mono ?_); clear HM; rintro e w_ ⟨rfl, HM⟩; dsimp only)
        | (go_at_call 12; (with_reducible refine (Go.Proofs.Ytccbpcdepgnmgaa.M.call_pure (CM) HM).mono ?_); clear HM; rintro e w_ ⟨rfl, HM⟩; dsimp only)
        | (go_at_call 11; (with_reducible refine (Go.Proofs.Ytccbpcdepgnmgaa.M.call_pure (CB) HM).mono ?_); clear HM; rintro e w_ ⟨rfl, HM⟩; dsimp only)
        | (refine Go.Proofs.Ytccbpcdepgnmgaa.M.at_reg 7 ?_; refine Go.Proofs.Ytccbpcdepgnmgaa.Mq.region_m (id := 7) HM (by kernel_rfl) (by kernel_rfl) ?_; (repeat (any_goals (first | go_big_quiet_skip | (refine Go.Proofs.Ytccbpcdepgnmgaa.Mq.qat_load 3 rfl ?_; go_big_quiet_want; first | (refine Go.Proofs.Ytccbpcdepgnmgaa.Mq.quiet_load_cell 3 _ rfl 0 _ _ _ _ _ rfl rfl rfl (by kernel_rfl) (by kernel_rfl) ?_; simp only [Act.put, List.setIfInBounds_toArray, List.set_cons_zero, List.set_cons_succ]; go_big_quiet_on) | (refine Go.Proofs.Ytccbpcdepgnmgaa.Mq.quiet_load_cell 3 _ rfl 1 _ _ _ _ _ rfl rfl rfl (by kernel_rfl) (by kernel_rfl) ?_; simp only [Act.put, List.setIfInBounds_toArray, List.set_cons_zero, List.set_cons_succ]; go_big_quiet_on)) | (refine Go.Proofs.Ytccbpcdepgnmgaa.Mq.qat_load 22 rfl ?_; go_big_quiet_want; first | (refine Go.Proofs.Ytccbpcdepgnmgaa.Mq.quiet_load_cell 22 _ rfl 0 _ _ _ _ _ rfl rfl rfl (by kernel_rfl) (by kernel_rfl) ?_; simp only [Act.put, List.setIfInBounds_toArray, List.set_cons_zero, List.set_cons_succ]; go_big_quiet_on) | (refine Go.Proofs.Ytccbpcdepgnmgaa.Mq.quiet_load_cell 22 _ rfl 1 _ _ _ _ _ rfl rfl rfl (by kernel_rfl) (by kernel_rfl) ?_; simp only [Act.put, List.setIfInBounds_toArray, List.set_cons_zero, List.set_cons_succ]; go_big_quiet_on)) | (refine Go.Proofs.Ytccbpcdepgnmgaa.Mq.qat_load 26 rfl ?_; go_big_quiet_want; first | (refine Go.Proofs.Ytccbpcdepgnmgaa.Mq.quiet_load_row 26 _ rfl 0 _ _ _ rfl rfl (by kernel_rfl) (by kernel_rfl) ?_; simp only [Act.put, List.setIfInBounds_toArray, List.set_cons_zero, List.set_cons_succ]; go_big_quiet_on) | (refine Go.Proofs.Ytccbpcdepgnmgaa.Mq.quiet_load_row 26 _ rfl 1 _ _ _ rfl rfl (by kernel_rfl) (by kernel_rfl) ?_; simp only [Act.put, List.setIfInBounds_toArray, List.set_cons_zero, List.set_cons_succ]; go_big_quiet_on)) | (refine Go.Proofs.Ytccbpcdepgnmgaa.Mq.qat_load 30 rfl ?_; go_big_quiet_want; first | (refine Go.Proofs.Ytccbpcdepgnmgaa.Mq.quiet_load_row 30 _ rfl 0 _ _ _ rfl rfl (by kernel_rfl) (by kernel_rfl) ?_; simp only [Act.put, List.setIfInBounds_toArray, List.set_cons_zero, List.set_cons_succ]; go_big_quiet_on) | (refine Go.Proofs.Ytccbpcdepgnmgaa.Mq.quiet_load_row 30 _ rfl 1 _ _ _ rfl rfl (by kernel_rfl) (by kernel_rfl) ?_; simp only [Act.put, List.setIfInBounds_toArray, List.set_cons_zero, List.set_cons_succ]; go_big_quiet_on)) | ((fail_if_success (refine Go.Proofs.Ytccbpcdepgnmgaa.Mq.qlit_t rfl ?_)); (fail_if_success (refine Go.Proofs.Ytccbpcdepgnmgaa.Mq.qlit_f rfl ?_)); refine Go.Proofs.Ytccbpcdepgnmgaa.Mq.qsplit rfl rfl ?_ ?_ <;> (intro hg_; simp only [hg_]; try simp only [decide_eq_true_eq, decide_eq_false_iff_not, Bool.and_eq_true, Bool.or_eq_true, Bool.and_eq_false_iff, Bool.or_eq_false_iff, Bool.not_eq_true', Bool.not_eq_false', beq_iff_eq, bne_iff_ne, beq_eq_false_iff_ne, bne_eq_false_iff_eq, Int.not_lt, Int.not_le, ne_eq] at hg_)) | go_big_quiet_step (first | (go_at_call 7; with_reducible exact Go.Proofs.Ytccbpcdepgnmgaa.Mq.quiet_call_m (CA _)) | (go_at_call 8; with_reducible exact Go.Proofs.Ytccbpcdepgnmgaa.Mq.quiet_call_m (CL _)) | (go_at_call 9; with_reducible exact Go.Proofs.Ytccbpcdepgnmgaa.Mq.quiet_call_m (CR _)) | (go_at_call 10; with_reducible exact Go.Proofs.Ytccbpcdepgnmgaa.Mq.quiet_call_m (CE _)) | (go_at_call 12; with_reducible exact Go.Proofs.Ytccbpcdepgnmgaa.Mq.quiet_call_m (CM _)) | (go_at_call 11; with_reducible exact Go.Proofs.Ytccbpcdepgnmgaa.Mq.quiet_call_m (CB _)) | exact rfl)))); all_goals (refine Go.Proofs.Ytccbpcdepgnmgaa.G.wpQuiet_end ?_; clear HM; intro w_ HM))
        | (refine Go.Proofs.Ytccbpcdepgnmgaa.M.at_mem rfl ?_; first | (refine Go.Proofs.Ytccbpcdepgnmgaa.M.at_load 3 rfl ?_; first | (refine Go.Proofs.Ytccbpcdepgnmgaa.M.load_cell_m HM rfl 3 _ rfl 0 _ _ _ _ _ rfl rfl rfl (by kernel_rfl) (by kernel_rfl) ?_; go_simp) | (refine Go.Proofs.Ytccbpcdepgnmgaa.M.load_cell_m HM rfl 3 _ rfl 1 _ _ _ _ _ rfl rfl rfl (by kernel_rfl) (by kernel_rfl) ?_; go_simp)) | (refine Go.Proofs.Ytccbpcdepgnmgaa.M.at_load 22 rfl ?_; first | (refine Go.Proofs.Ytccbpcdepgnmgaa.M.load_cell_m HM rfl 22 _ rfl 0 _ _ _ _ _ rfl rfl rfl (by kernel_rfl) (by kernel_rfl) ?_; go_simp) | (refine Go.Proofs.Ytccbpcdepgnmgaa.M.load_cell_m HM rfl 22 _ rfl 1 _ _ _ _ _ rfl rfl rfl (by kernel_rfl) (by kernel_rfl) ?_; go_simp)) | (refine Go.Proofs.Ytccbpcdepgnmgaa.M.at_load 26 rfl ?_; first | (refine Go.Proofs.Ytccbpcdepgnmgaa.M.load_row_m HM rfl 26 _ rfl 0 _ _ _ rfl rfl (by kernel_rfl) (by kernel_rfl) ?_; go_simp) | (refine Go.Proofs.Ytccbpcdepgnmgaa.M.load_row_m HM rfl 26 _ rfl 1 _ _ _ rfl rfl (by kernel_rfl) (by kernel_rfl) ?_; go_simp)) | (refine Go.Proofs.Ytccbpcdepgnmgaa.M.at_load 30 rfl ?_; first | (refine Go.Proofs.Ytccbpcdepgnmgaa.M.load_row_m HM rfl 30 _ rfl 0 _ _ _ rfl rfl (by kernel_rfl) (by kernel_rfl) ?_; go_simp) | (refine Go.Proofs.Ytccbpcdepgnmgaa.M.load_row_m HM rfl 30 _ rfl 1 _ _ _ rfl rfl (by kernel_rfl) (by kernel_rfl) ?_; go_simp)) | (refine Go.Proofs.Ytccbpcdepgnmgaa.M.at_store 30 rfl ?_; first | (refine Go.Proofs.Ytccbpcdepgnmgaa.M.store_row_m HM rfl 30 _ _ rfl 0 _ _ _ _ rfl rfl rfl (by kernel_rfl) rfl (by simp [Value.oneCell']) ?_; clear HM; intro w_ HM; (try simp only [List.set_cons_zero, List.set_cons_succ, List.setIfInBounds_toArray, List.eraseIdx_cons_zero, List.eraseIdx_cons_succ, List.cons_append, List.nil_append] at HM); go_simp) | (refine Go.Proofs.Ytccbpcdepgnmgaa.M.store_row_m HM rfl 30 _ _ rfl 1 _ _ _ _ rfl rfl rfl (by kernel_rfl) rfl (by simp [Value.oneCell']) ?_; clear HM; intro w_ HM; (try simp only [List.set_cons_zero, List.set_cons_succ, List.setIfInBounds_toArray, List.eraseIdx_cons_zero, List.eraseIdx_cons_succ, List.cons_append, List.nil_append] at HM); go_simp)) | (refine Go.Proofs.Ytccbpcdepgnmgaa.M.at_alloc 30 rfl ?_; first | (refine Go.Proofs.Ytccbpcdepgnmgaa.M.alloc_m HM rfl rfl 30 rfl (.agg #[(.int .i64 0), (.int .u64 0), (.int .i64 0), (.int .i64 0), (.int .u64 0), (.bool false), (.bool false), (.bool false), (.bool false), (.int .i64 0)]) (by kernel_rfl) #[(.int .i64 0), (.int .u64 0), (.int .i64 0), (.int .i64 0), (.int .u64 0), (.bool false), (.bool false), (.bool false), (.bool false), (.int .i64 0)] rfl ?_; clear HM; intro g_ w_ HM; go_simp)) | (refine Go.Proofs.Ytccbpcdepgnmgaa.M.at_box 26 rfl ?_; first | (refine Go.Proofs.Ytccbpcdepgnmgaa.M.box_m HM rfl rfl 26 _ rfl _ rfl ?_; clear HM; intro g_ w_ HM; go_simp)) | ((fail_if_success (refine Go.Proofs.Ytccbpcdepgnmgaa.M.lit_t rfl ?_)); (fail_if_success (refine Go.Proofs.Ytccbpcdepgnmgaa.M.lit_f rfl ?_)); refine Go.Proofs.Ytccbpcdepgnmgaa.M.split_guard rfl rfl ?_ ?_ <;> (intro hg_; simp only [hg_]; try simp only [decide_eq_true_eq, decide_eq_false_iff_not, Bool.and_eq_true, Bool.or_eq_true, Bool.and_eq_false_iff, Bool.or_eq_false_iff, Bool.not_eq_true', Bool.not_eq_false', beq_iff_eq, bne_iff_ne, beq_eq_false_iff_ne, bne_eq_false_iff_eq, Int.not_lt, Int.not_le, ne_eq] at hg_)))
        | ((fail_if_success (refine Go.Proofs.Ytccbpcdepgnmgaa.M.lit_t rfl ?_)); (fail_if_success (refine Go.Proofs.Ytccbpcdepgnmgaa.M.lit_f rfl ?_)); refine Go.Proofs.Ytccbpcdepgnmgaa.M.split_guard rfl rfl ?_ ?_ <;> (intro hg_; simp only [hg_]; try simp only [decide_eq_true_eq, decide_eq_false_iff_not, Bool.and_eq_true, Bool.or_eq_true, Bool.and_eq_false_iff, Bool.or_eq_false_iff, Bool.not_eq_true', Bool.not_eq_false', beq_iff_eq, bne_iff_ne, beq_eq_false_iff_ne, bne_eq_false_iff_eq, Int.not_lt, Int.not_le, ne_eq] at hg_)))
      all_goals
        go_ret
        refine ⟨congrArg (fun z => Ending.returned (Value.bool z)) ?_, HM.none.to_below⟩
        have hm := HMM.out
        simp only [lsize] at hm
        clear HM CA CL CR CE CM CB HMM
        cases m <;> first | (simp_all; done) | (simp_all; omega)
end Go.Proofs.Ytccbpcdepgnmgaa.Tm
