/- hw.Book: New, Find, free, Take, Drop, Owner, Owners: what each call answers. -/
import Derived.Test.YtiokllhoaaamiaaProg
import Derived.Test.YtiokllhoaaamiaaNa
import Derived.OwnWalk
import Derived.Lib.SliceRun
namespace Go.Proofs.Ytiokllhoaaamiaa.Nb
open Go.RowKit Go.Proofs.Ytiokllhoaaamiaa.G Go.Proofs.Ytiokllhoaaamiaa.B Go.Proofs.Ytiokllhoaaamiaa.M Go.Proofs.Ytiokllhoaaamiaa.Mv Go.Proofs.Ytiokllhoaaamiaa.Sm Go.Proofs.Ytiokllhoaaamiaa.Na
set_option linter.unusedVariables false
set_option linter.unusedSimpArgs false
set_option maxRecDepth 100000
set_option maxHeartbeats 1000000 in
theorem find_no (gB g n : Nat) (os : List Int) (vic v : Int) (hn : os.length = n) (h1 : n ≤ 1000) (h : idxI os v = -1 ∨ ¬ (1 ≤ v ∧ v < 4096)) :
    Does Try.prog 24 #[.pointer (some ⟨gB, 0, none⟩), .int .i64 v] (bk gB g n os vic) fun r L => r = .tuple #[.int .i64 0, .bool false] ∧ L = bk gB g n os vic := by
  have CI := index_any os v g n hn h1
  have CK := known_any v
  have hr := idxI_range os v
  generalize idxI os v = i at CI h hr
  by_cases hi : i = -1
  · subst hi
    clear h
    unfold bk
    intro w hH
    have HM := Mem.start hH
    go_enter Try.func24, Try.ntmps24
    go_wp2_with (first
      | (go_big_skip)
      | (go_at_call 41; (with_reducible refine (Go.Proofs.Ytiokllhoaaamiaa.M.Does.call (CI) HM (Go.Proofs.Ytiokllhoaaamiaa.M.perm_at 1 rfl)).mono ?_); clear HM; rintro e w_ ⟨v_, L_, rfl, ⟨rfl, rfl⟩, HM⟩; (try simp only [List.set_cons_zero, List.set_cons_succ, List.setIfInBounds_toArray, List.eraseIdx_cons_zero, List.eraseIdx_cons_succ, List.cons_append, List.nil_append] at HM); dsimp only)
      | (go_at_call 36; (with_reducible refine (Go.Proofs.Ytiokllhoaaamiaa.M.call_pure (CK) HM).mono ?_); clear HM; rintro e w_ ⟨rfl, HM⟩; dsimp only)
      | (refine Go.Proofs.Ytiokllhoaaamiaa.M.at_mem rfl ?_; first | (refine Go.Proofs.Ytiokllhoaaamiaa.M.at_load 42 rfl ?_; first | (refine Go.Proofs.Ytiokllhoaaamiaa.M.load_cell_m HM rfl 42 _ rfl 0 _ _ _ _ _ rfl rfl rfl (by kernel_rfl) (by kernel_rfl) ?_; go_simp) | (refine Go.Proofs.Ytiokllhoaaamiaa.M.load_cell_m HM rfl 42 _ rfl 1 _ _ _ _ _ rfl rfl rfl (by kernel_rfl) (by kernel_rfl) ?_; go_simp)) | ((fail_if_success (refine Go.Proofs.Ytiokllhoaaamiaa.M.lit_t rfl ?_)); (fail_if_success (refine Go.Proofs.Ytiokllhoaaamiaa.M.lit_f rfl ?_)); refine Go.Proofs.Ytiokllhoaaamiaa.M.split_guard rfl rfl ?_ ?_ <;> (intro hg_; simp only [hg_]; try simp only [decide_eq_true_eq, decide_eq_false_iff_not, Bool.and_eq_true, Bool.or_eq_true, Bool.and_eq_false_iff, Bool.or_eq_false_iff, Bool.not_eq_true', Bool.not_eq_false', beq_iff_eq, bne_iff_ne, beq_eq_false_iff_ne, bne_eq_false_iff_eq, Int.not_lt, Int.not_le, ne_eq] at hg_)))
      | (refine Go.Proofs.Ytiokllhoaaamiaa.Mc.at_cmp _ rfl ?_; refine Go.Proofs.Ytiokllhoaaamiaa.Mc.cmp_m rfl _ rfl _ _ _ rfl _ _ _ rfl rfl _ rfl ?_ ?_ <;> (intro hg_; try simp only [decide_eq_true_eq, decide_eq_false_iff_not, Bool.and_eq_true, Bool.or_eq_true, Bool.and_eq_false_iff, Bool.or_eq_false_iff, Bool.not_eq_true', Bool.not_eq_false', beq_iff_eq, bne_iff_ne, beq_eq_false_iff_ne, bne_eq_false_iff_eq, Int.not_lt, Int.not_le, ne_eq] at hg_; first | (exfalso; first | omega | (simp at hg_; done)) | go_simp))
      | ((fail_if_success (refine Go.Proofs.Ytiokllhoaaamiaa.M.lit_t rfl ?_)); (fail_if_success (refine Go.Proofs.Ytiokllhoaaamiaa.M.lit_f rfl ?_)); refine Go.Proofs.Ytiokllhoaaamiaa.M.split_guard rfl rfl ?_ ?_ <;> (intro hg_; simp only [hg_]; try simp only [decide_eq_true_eq, decide_eq_false_iff_not, Bool.and_eq_true, Bool.or_eq_true, Bool.and_eq_false_iff, Bool.or_eq_false_iff, Bool.not_eq_true', Bool.not_eq_false', beq_iff_eq, bne_iff_ne, beq_eq_false_iff_ne, bne_eq_false_iff_eq, Int.not_lt, Int.not_le, ne_eq] at hg_)))
    all_goals
      go_ret2
      exact ⟨_, _, rfl, ⟨rfl, rfl⟩, HM.perm (.swap _ _ _)⟩
  · have hv : ¬ (1 ≤ v ∧ v < 4096) := by
      rcases h with h | h
      · exact absurd h hi
      · exact h
    rw [decide_eq_false hv] at CK
    have hi2 : 0 ≤ i := by omega
    clear h hv hi hr
    unfold bk
    intro w hH
    have HM := Mem.start hH
    go_enter Try.func24, Try.ntmps24
    go_wp2_with (first
      | (go_big_skip)
      | (go_at_call 41; (with_reducible refine (Go.Proofs.Ytiokllhoaaamiaa.M.Does.call (CI) HM (Go.Proofs.Ytiokllhoaaamiaa.M.perm_at 1 rfl)).mono ?_); clear HM; rintro e w_ ⟨v_, L_, rfl, ⟨rfl, rfl⟩, HM⟩; (try simp only [List.set_cons_zero, List.set_cons_succ, List.setIfInBounds_toArray, List.eraseIdx_cons_zero, List.eraseIdx_cons_succ, List.cons_append, List.nil_append] at HM); dsimp only)
      | (go_at_call 36; (with_reducible refine (Go.Proofs.Ytiokllhoaaamiaa.M.call_pure (CK) HM).mono ?_); clear HM; rintro e w_ ⟨rfl, HM⟩; dsimp only)
      | (refine Go.Proofs.Ytiokllhoaaamiaa.M.at_mem rfl ?_; first | (refine Go.Proofs.Ytiokllhoaaamiaa.M.at_load 42 rfl ?_; first | (refine Go.Proofs.Ytiokllhoaaamiaa.M.load_cell_m HM rfl 42 _ rfl 0 _ _ _ _ _ rfl rfl rfl (by kernel_rfl) (by kernel_rfl) ?_; go_simp) | (refine Go.Proofs.Ytiokllhoaaamiaa.M.load_cell_m HM rfl 42 _ rfl 1 _ _ _ _ _ rfl rfl rfl (by kernel_rfl) (by kernel_rfl) ?_; go_simp)) | ((fail_if_success (refine Go.Proofs.Ytiokllhoaaamiaa.M.lit_t rfl ?_)); (fail_if_success (refine Go.Proofs.Ytiokllhoaaamiaa.M.lit_f rfl ?_)); refine Go.Proofs.Ytiokllhoaaamiaa.M.split_guard rfl rfl ?_ ?_ <;> (intro hg_; simp only [hg_]; try simp only [decide_eq_true_eq, decide_eq_false_iff_not, Bool.and_eq_true, Bool.or_eq_true, Bool.and_eq_false_iff, Bool.or_eq_false_iff, Bool.not_eq_true', Bool.not_eq_false', beq_iff_eq, bne_iff_ne, beq_eq_false_iff_ne, bne_eq_false_iff_eq, Int.not_lt, Int.not_le, ne_eq] at hg_)))
      | (refine Go.Proofs.Ytiokllhoaaamiaa.Mc.at_cmp _ rfl ?_; refine Go.Proofs.Ytiokllhoaaamiaa.Mc.cmp_m rfl _ rfl _ _ _ rfl _ _ _ rfl rfl _ rfl ?_ ?_ <;> (intro hg_; try simp only [decide_eq_true_eq, decide_eq_false_iff_not, Bool.and_eq_true, Bool.or_eq_true, Bool.and_eq_false_iff, Bool.or_eq_false_iff, Bool.not_eq_true', Bool.not_eq_false', beq_iff_eq, bne_iff_ne, beq_eq_false_iff_ne, bne_eq_false_iff_eq, Int.not_lt, Int.not_le, ne_eq] at hg_; first | (exfalso; first | omega | (simp at hg_; done)) | go_simp))
      | ((fail_if_success (refine Go.Proofs.Ytiokllhoaaamiaa.M.lit_t rfl ?_)); (fail_if_success (refine Go.Proofs.Ytiokllhoaaamiaa.M.lit_f rfl ?_)); refine Go.Proofs.Ytiokllhoaaamiaa.M.split_guard rfl rfl ?_ ?_ <;> (intro hg_; simp only [hg_]; try simp only [decide_eq_true_eq, decide_eq_false_iff_not, Bool.and_eq_true, Bool.or_eq_true, Bool.and_eq_false_iff, Bool.or_eq_false_iff, Bool.not_eq_true', Bool.not_eq_false', beq_iff_eq, bne_iff_ne, beq_eq_false_iff_ne, bne_eq_false_iff_eq, Int.not_lt, Int.not_le, ne_eq] at hg_)))
    all_goals
      go_ret2
      exact ⟨_, _, rfl, ⟨rfl, rfl⟩, HM.perm (.swap _ _ _)⟩
set_option maxHeartbeats 1000000 in
theorem free_zero (gB g n : Nat) (os : List Int) (vic i : Int) (hn : os.length = n) (h1 : n ≤ 1000) (hi : idxI os 0 = i) (h0 : 0 ≤ i) :
    Does Try.prog 37 #[.pointer (some ⟨gB, 0, none⟩)] (bk gB g n os vic) fun r L => r = .int .i64 i ∧ L = bk gB g n os vic := by
  have CI := index_any os 0 g n hn h1
  rw [hi] at CI
  unfold bk
  intro w hH
  have HM := Mem.start hH
  go_enter Try.func37, Try.ntmps37
  go_wp2_with (first
    | (go_big_skip)
    | (go_at_call 41; (with_reducible refine (Go.Proofs.Ytiokllhoaaamiaa.M.Does.call (CI) HM (Go.Proofs.Ytiokllhoaaamiaa.M.perm_at 1 rfl)).mono ?_); clear HM; rintro e w_ ⟨v_, L_, rfl, ⟨rfl, rfl⟩, HM⟩; (try simp only [List.set_cons_zero, List.set_cons_succ, List.setIfInBounds_toArray, List.eraseIdx_cons_zero, List.eraseIdx_cons_succ, List.cons_append, List.nil_append] at HM); dsimp only)
    | (refine Go.Proofs.Ytiokllhoaaamiaa.M.at_mem rfl ?_; first | (refine Go.Proofs.Ytiokllhoaaamiaa.M.at_load 3 rfl ?_; first | (refine Go.Proofs.Ytiokllhoaaamiaa.M.load_cell_m HM rfl 3 _ rfl 0 _ _ _ _ _ rfl rfl rfl (by kernel_rfl) (by kernel_rfl) ?_; go_simp) | (refine Go.Proofs.Ytiokllhoaaamiaa.M.load_cell_m HM rfl 3 _ rfl 1 _ _ _ _ _ rfl rfl rfl (by kernel_rfl) (by kernel_rfl) ?_; go_simp)) | (refine Go.Proofs.Ytiokllhoaaamiaa.M.at_load 42 rfl ?_; first | (refine Go.Proofs.Ytiokllhoaaamiaa.M.load_cell_m HM rfl 42 _ rfl 0 _ _ _ _ _ rfl rfl rfl (by kernel_rfl) (by kernel_rfl) ?_; go_simp) | (refine Go.Proofs.Ytiokllhoaaamiaa.M.load_cell_m HM rfl 42 _ rfl 1 _ _ _ _ _ rfl rfl rfl (by kernel_rfl) (by kernel_rfl) ?_; go_simp)) | (refine Go.Proofs.Ytiokllhoaaamiaa.M.at_store 3 rfl ?_; first | (refine Go.Proofs.Ytiokllhoaaamiaa.M.store_cell_m HM rfl 3 _ _ rfl 0 _ _ _ _ _ rfl rfl rfl (by kernel_rfl) rfl (by simp) ?_; clear HM; intro w_ HM; (try simp only [List.set_cons_zero, List.set_cons_succ, List.setIfInBounds_toArray, List.eraseIdx_cons_zero, List.eraseIdx_cons_succ, List.cons_append, List.nil_append] at HM); go_simp) | (refine Go.Proofs.Ytiokllhoaaamiaa.M.store_cell_m HM rfl 3 _ _ rfl 1 _ _ _ _ _ rfl rfl rfl (by kernel_rfl) rfl (by simp) ?_; clear HM; intro w_ HM; (try simp only [List.set_cons_zero, List.set_cons_succ, List.setIfInBounds_toArray, List.eraseIdx_cons_zero, List.eraseIdx_cons_succ, List.cons_append, List.nil_append] at HM); go_simp)) | ((fail_if_success (refine Go.Proofs.Ytiokllhoaaamiaa.M.lit_t rfl ?_)); (fail_if_success (refine Go.Proofs.Ytiokllhoaaamiaa.M.lit_f rfl ?_)); refine Go.Proofs.Ytiokllhoaaamiaa.M.split_guard rfl rfl ?_ ?_ <;> (intro hg_; simp only [hg_]; try simp only [decide_eq_true_eq, decide_eq_false_iff_not, Bool.and_eq_true, Bool.or_eq_true, Bool.and_eq_false_iff, Bool.or_eq_false_iff, Bool.not_eq_true', Bool.not_eq_false', beq_iff_eq, bne_iff_ne, beq_eq_false_iff_ne, bne_eq_false_iff_eq, Int.not_lt, Int.not_le, ne_eq] at hg_)))
    | (refine Go.Proofs.Ytiokllhoaaamiaa.Mc.at_cmp _ rfl ?_; refine Go.Proofs.Ytiokllhoaaamiaa.Mc.cmp_m rfl _ rfl _ _ _ rfl _ _ _ rfl rfl _ rfl ?_ ?_ <;> (intro hg_; try simp only [decide_eq_true_eq, decide_eq_false_iff_not, Bool.and_eq_true, Bool.or_eq_true, Bool.and_eq_false_iff, Bool.or_eq_false_iff, Bool.not_eq_true', Bool.not_eq_false', beq_iff_eq, bne_iff_ne, beq_eq_false_iff_ne, bne_eq_false_iff_eq, Int.not_lt, Int.not_le, ne_eq] at hg_; first | (exfalso; first | omega | (simp at hg_; done)) | go_simp))
    | ((fail_if_success (refine Go.Proofs.Ytiokllhoaaamiaa.M.lit_t rfl ?_)); (fail_if_success (refine Go.Proofs.Ytiokllhoaaamiaa.M.lit_f rfl ?_)); refine Go.Proofs.Ytiokllhoaaamiaa.M.split_guard rfl rfl ?_ ?_ <;> (intro hg_; simp only [hg_]; try simp only [decide_eq_true_eq, decide_eq_false_iff_not, Bool.and_eq_true, Bool.or_eq_true, Bool.and_eq_false_iff, Bool.or_eq_false_iff, Bool.not_eq_true', Bool.not_eq_false', beq_iff_eq, bne_iff_ne, beq_eq_false_iff_ne, bne_eq_false_iff_eq, Int.not_lt, Int.not_le, ne_eq] at hg_)))
  all_goals
    go_ret
    exact ⟨_, _, rfl, ⟨rfl, rfl⟩, HM.perm (.swap _ _ _)⟩
set_option maxHeartbeats 1000000 in
theorem free_vic (gB g n : Nat) (os : List Int) (vic vic' : Int) (hn : os.length = n) (h1 : n ≤ 1000) (hi : idxI os 0 = -1) (h0 : 0 ≤ vic) (h2 : vic < n) (hv : (vic + 1).tmod n = vic') :
    Does Try.prog 37 #[.pointer (some ⟨gB, 0, none⟩)] (bk gB g n os vic) fun r L => r = .int .i64 vic ∧ L = bk gB g n os vic' := by
  have CI := index_any os 0 g n hn h1
  rw [hi] at CI
  unfold bk
  have hn1 : (n : Int) ≤ 1000 := by omega
  have hn0 : ¬ (n : Int) = 0 := by omega
  have hn2 : ¬ n = 0 := by omega
  intro w hH
  have HM := Mem.start hH
  go_enter Try.func37, Try.ntmps37
  go_wp2_with (first
    | (go_big_skip)
    | (go_at_call 41; (with_reducible refine (Go.Proofs.Ytiokllhoaaamiaa.M.Does.call (CI) HM (Go.Proofs.Ytiokllhoaaamiaa.M.perm_at 1 rfl)).mono ?_); clear HM; rintro e w_ ⟨v_, L_, rfl, ⟨rfl, rfl⟩, HM⟩; (try simp only [List.set_cons_zero, List.set_cons_succ, List.setIfInBounds_toArray, List.eraseIdx_cons_zero, List.eraseIdx_cons_succ, List.cons_append, List.nil_append] at HM); dsimp only)
    | (refine Go.Proofs.Ytiokllhoaaamiaa.M.at_mem rfl ?_; first | (refine Go.Proofs.Ytiokllhoaaamiaa.M.at_load 3 rfl ?_; first | (refine Go.Proofs.Ytiokllhoaaamiaa.M.load_cell_m HM rfl 3 _ rfl 0 _ _ _ _ _ rfl rfl rfl (by kernel_rfl) (by kernel_rfl) ?_; go_simp) | (refine Go.Proofs.Ytiokllhoaaamiaa.M.load_cell_m HM rfl 3 _ rfl 1 _ _ _ _ _ rfl rfl rfl (by kernel_rfl) (by kernel_rfl) ?_; go_simp)) | (refine Go.Proofs.Ytiokllhoaaamiaa.M.at_load 42 rfl ?_; first | (refine Go.Proofs.Ytiokllhoaaamiaa.M.load_cell_m HM rfl 42 _ rfl 0 _ _ _ _ _ rfl rfl rfl (by kernel_rfl) (by kernel_rfl) ?_; go_simp) | (refine Go.Proofs.Ytiokllhoaaamiaa.M.load_cell_m HM rfl 42 _ rfl 1 _ _ _ _ _ rfl rfl rfl (by kernel_rfl) (by kernel_rfl) ?_; go_simp)) | (refine Go.Proofs.Ytiokllhoaaamiaa.M.at_store 3 rfl ?_; first | (refine Go.Proofs.Ytiokllhoaaamiaa.M.store_cell_m HM rfl 3 _ _ rfl 0 _ _ _ _ _ rfl rfl rfl (by kernel_rfl) rfl (by simp) ?_; clear HM; intro w_ HM; (try simp only [List.set_cons_zero, List.set_cons_succ, List.setIfInBounds_toArray, List.eraseIdx_cons_zero, List.eraseIdx_cons_succ, List.cons_append, List.nil_append] at HM); go_simp) | (refine Go.Proofs.Ytiokllhoaaamiaa.M.store_cell_m HM rfl 3 _ _ rfl 1 _ _ _ _ _ rfl rfl rfl (by kernel_rfl) rfl (by simp) ?_; clear HM; intro w_ HM; (try simp only [List.set_cons_zero, List.set_cons_succ, List.setIfInBounds_toArray, List.eraseIdx_cons_zero, List.eraseIdx_cons_succ, List.cons_append, List.nil_append] at HM); go_simp)) | ((fail_if_success (refine Go.Proofs.Ytiokllhoaaamiaa.M.lit_t rfl ?_)); (fail_if_success (refine Go.Proofs.Ytiokllhoaaamiaa.M.lit_f rfl ?_)); refine Go.Proofs.Ytiokllhoaaamiaa.M.split_guard rfl rfl ?_ ?_ <;> (intro hg_; simp only [hg_]; try simp only [decide_eq_true_eq, decide_eq_false_iff_not, Bool.and_eq_true, Bool.or_eq_true, Bool.and_eq_false_iff, Bool.or_eq_false_iff, Bool.not_eq_true', Bool.not_eq_false', beq_iff_eq, bne_iff_ne, beq_eq_false_iff_ne, bne_eq_false_iff_eq, Int.not_lt, Int.not_le, ne_eq] at hg_)))
    | (refine Go.Proofs.Ytiokllhoaaamiaa.Mc.at_cmp _ rfl ?_; refine Go.Proofs.Ytiokllhoaaamiaa.Mc.cmp_m rfl _ rfl _ _ _ rfl _ _ _ rfl rfl _ rfl ?_ ?_ <;> (intro hg_; try simp only [decide_eq_true_eq, decide_eq_false_iff_not, Bool.and_eq_true, Bool.or_eq_true, Bool.and_eq_false_iff, Bool.or_eq_false_iff, Bool.not_eq_true', Bool.not_eq_false', beq_iff_eq, bne_iff_ne, beq_eq_false_iff_ne, bne_eq_false_iff_eq, Int.not_lt, Int.not_le, ne_eq] at hg_; first | (exfalso; first | omega | (simp at hg_; done)) | go_simp))
    | ((fail_if_success (refine Go.Proofs.Ytiokllhoaaamiaa.M.lit_t rfl ?_)); (fail_if_success (refine Go.Proofs.Ytiokllhoaaamiaa.M.lit_f rfl ?_)); refine Go.Proofs.Ytiokllhoaaamiaa.M.split_guard rfl rfl ?_ ?_ <;> (intro hg_; simp only [hg_]; try simp only [decide_eq_true_eq, decide_eq_false_iff_not, Bool.and_eq_true, Bool.or_eq_true, Bool.and_eq_false_iff, Bool.or_eq_false_iff, Bool.not_eq_true', Bool.not_eq_false', beq_iff_eq, bne_iff_ne, beq_eq_false_iff_ne, bne_eq_false_iff_eq, Int.not_lt, Int.not_le, ne_eq] at hg_)))
  all_goals
    go_ret
    exact ⟨_, _, rfl, ⟨rfl, rfl⟩, HM.perm (.swap _ _ _)⟩
set_option maxHeartbeats 1000000 in
theorem take_unknown (gB g n : Nat) (os : List Int) (vic v : Int) (hv : ¬ (1 ≤ v ∧ v < 4096)) :
    Does Try.prog 12 #[.pointer (some ⟨gB, 0, none⟩), .int .i64 v] (bk gB g n os vic) fun r L => r = .tuple #[.int .i64 0, .int .i64 0, .int .i64 12] ∧ L = bk gB g n os vic := by
  have CK := known_any v
  rw [decide_eq_false hv] at CK
  intro w hH
  have HM := Mem.start hH
  go_enter Try.func12, Try.ntmps12
  go_wp2_with (first
    | (go_big_skip)
    | (go_at_call 36; (with_reducible refine (Go.Proofs.Ytiokllhoaaamiaa.M.call_pure (CK) HM).mono ?_); clear HM; rintro e w_ ⟨rfl, HM⟩; dsimp only)
    | (refine Go.Proofs.Ytiokllhoaaamiaa.M.at_reg 7 ?_; refine Go.Proofs.Ytiokllhoaaamiaa.Mq.region_tail_m (id := 7) 14 HM (by kernel_rfl) (by kernel_rfl) ?_; simp only [List.take_succ_cons, List.take_zero, List.drop_succ_cons, List.drop_zero]; (repeat (any_goals (first | go_big_quiet_skip | (refine Go.Proofs.Ytiokllhoaaamiaa.Mq.qat_load 3 rfl ?_; go_big_quiet_want; first | (refine Go.Proofs.Ytiokllhoaaamiaa.Mq.quiet_load_cell 3 _ rfl 0 _ _ _ _ _ rfl rfl rfl (by kernel_rfl) (by kernel_rfl) ?_; simp only [Act.put, List.setIfInBounds_toArray, List.set_cons_zero, List.set_cons_succ]; go_big_quiet_on) | (refine Go.Proofs.Ytiokllhoaaamiaa.Mq.quiet_load_cell 3 _ rfl 1 _ _ _ _ _ rfl rfl rfl (by kernel_rfl) (by kernel_rfl) ?_; simp only [Act.put, List.setIfInBounds_toArray, List.set_cons_zero, List.set_cons_succ]; go_big_quiet_on)) | (refine Go.Proofs.Ytiokllhoaaamiaa.Mq.qat_load 42 rfl ?_; go_big_quiet_want; first | (refine Go.Proofs.Ytiokllhoaaamiaa.Mq.quiet_load_cell 42 _ rfl 0 _ _ _ _ _ rfl rfl rfl (by kernel_rfl) (by kernel_rfl) ?_; simp only [Act.put, List.setIfInBounds_toArray, List.set_cons_zero, List.set_cons_succ]; go_big_quiet_on) | (refine Go.Proofs.Ytiokllhoaaamiaa.Mq.quiet_load_cell 42 _ rfl 1 _ _ _ _ _ rfl rfl rfl (by kernel_rfl) (by kernel_rfl) ?_; simp only [Act.put, List.setIfInBounds_toArray, List.set_cons_zero, List.set_cons_succ]; go_big_quiet_on)) | ((fail_if_success (refine Go.Proofs.Ytiokllhoaaamiaa.Mq.qlit_t rfl ?_)); (fail_if_success (refine Go.Proofs.Ytiokllhoaaamiaa.Mq.qlit_f rfl ?_)); refine Go.Proofs.Ytiokllhoaaamiaa.Mq.qsplit rfl rfl ?_ ?_ <;> (intro hg_; simp only [hg_]; try simp only [decide_eq_true_eq, decide_eq_false_iff_not, Bool.and_eq_true, Bool.or_eq_true, Bool.and_eq_false_iff, Bool.or_eq_false_iff, Bool.not_eq_true', Bool.not_eq_false', beq_iff_eq, bne_iff_ne, beq_eq_false_iff_ne, bne_eq_false_iff_eq, Int.not_lt, Int.not_le, ne_eq] at hg_)) | go_big_quiet_step (first | (go_at_call 36; with_reducible exact Go.Proofs.Ytiokllhoaaamiaa.Mq.quiet_call_m (CK _)) | exact rfl)))); all_goals (refine Go.Proofs.Ytiokllhoaaamiaa.G.wpQuiet_end ?_; clear HM; intro w_ HM))
    | (refine Go.Proofs.Ytiokllhoaaamiaa.M.at_mem rfl ?_; first | (refine Go.Proofs.Ytiokllhoaaamiaa.M.at_load 3 rfl ?_; first | (refine Go.Proofs.Ytiokllhoaaamiaa.M.load_cell_m HM rfl 3 _ rfl 0 _ _ _ _ _ rfl rfl rfl (by kernel_rfl) (by kernel_rfl) ?_; go_simp) | (refine Go.Proofs.Ytiokllhoaaamiaa.M.load_cell_m HM rfl 3 _ rfl 1 _ _ _ _ _ rfl rfl rfl (by kernel_rfl) (by kernel_rfl) ?_; go_simp)) | (refine Go.Proofs.Ytiokllhoaaamiaa.M.at_load 42 rfl ?_; first | (refine Go.Proofs.Ytiokllhoaaamiaa.M.load_cell_m HM rfl 42 _ rfl 0 _ _ _ _ _ rfl rfl rfl (by kernel_rfl) (by kernel_rfl) ?_; go_simp) | (refine Go.Proofs.Ytiokllhoaaamiaa.M.load_cell_m HM rfl 42 _ rfl 1 _ _ _ _ _ rfl rfl rfl (by kernel_rfl) (by kernel_rfl) ?_; go_simp)) | (refine Go.Proofs.Ytiokllhoaaamiaa.M.at_store 3 rfl ?_; first | (refine Go.Proofs.Ytiokllhoaaamiaa.M.store_cell_m HM rfl 3 _ _ rfl 0 _ _ _ _ _ rfl rfl rfl (by kernel_rfl) rfl (by simp) ?_; clear HM; intro w_ HM; (try simp only [List.set_cons_zero, List.set_cons_succ, List.setIfInBounds_toArray, List.eraseIdx_cons_zero, List.eraseIdx_cons_succ, List.cons_append, List.nil_append] at HM); go_simp) | (refine Go.Proofs.Ytiokllhoaaamiaa.M.store_cell_m HM rfl 3 _ _ rfl 1 _ _ _ _ _ rfl rfl rfl (by kernel_rfl) rfl (by simp) ?_; clear HM; intro w_ HM; (try simp only [List.set_cons_zero, List.set_cons_succ, List.setIfInBounds_toArray, List.eraseIdx_cons_zero, List.eraseIdx_cons_succ, List.cons_append, List.nil_append] at HM); go_simp)) | ((fail_if_success (refine Go.Proofs.Ytiokllhoaaamiaa.M.lit_t rfl ?_)); (fail_if_success (refine Go.Proofs.Ytiokllhoaaamiaa.M.lit_f rfl ?_)); refine Go.Proofs.Ytiokllhoaaamiaa.M.split_guard rfl rfl ?_ ?_ <;> (intro hg_; simp only [hg_]; try simp only [decide_eq_true_eq, decide_eq_false_iff_not, Bool.and_eq_true, Bool.or_eq_true, Bool.and_eq_false_iff, Bool.or_eq_false_iff, Bool.not_eq_true', Bool.not_eq_false', beq_iff_eq, bne_iff_ne, beq_eq_false_iff_ne, bne_eq_false_iff_eq, Int.not_lt, Int.not_le, ne_eq] at hg_)))
    | ((fail_if_success (refine Go.Proofs.Ytiokllhoaaamiaa.M.lit_t rfl ?_)); (fail_if_success (refine Go.Proofs.Ytiokllhoaaamiaa.M.lit_f rfl ?_)); refine Go.Proofs.Ytiokllhoaaamiaa.M.split_guard rfl rfl ?_ ?_ <;> (intro hg_; simp only [hg_]; try simp only [decide_eq_true_eq, decide_eq_false_iff_not, Bool.and_eq_true, Bool.or_eq_true, Bool.and_eq_false_iff, Bool.or_eq_false_iff, Bool.not_eq_true', Bool.not_eq_false', beq_iff_eq, bne_iff_ne, beq_eq_false_iff_ne, bne_eq_false_iff_eq, Int.not_lt, Int.not_le, ne_eq] at hg_)))
  all_goals
    go_ret3
    exact ⟨_, _, rfl, ⟨rfl, rfl⟩, HM⟩
set_option maxHeartbeats 1000000 in
theorem take_found (gB g n : Nat) (os : List Int) (vic v i : Int) (hv : 1 ≤ v ∧ v < 4096)
    (CF : Does Try.prog 24 #[.pointer (some ⟨gB, 0, none⟩), .int .i64 v] (bk gB g n os vic) fun r L => r = .tuple #[.int .i64 i, .bool true] ∧ L = bk gB g n os vic) :
    Does Try.prog 12 #[.pointer (some ⟨gB, 0, none⟩), .int .i64 v] (bk gB g n os vic) fun r L => r = .tuple #[.int .i64 i, .int .i64 0, .int .i64 0] ∧ L = bk gB g n os vic := by
  have CK := known_any v
  rw [decide_eq_true hv] at CK
  intro w hH
  have HM := Mem.start hH
  go_enter Try.func12, Try.ntmps12
  go_wp2_with (first
    | (go_big_skip)
    | (go_at_call 24; (with_reducible refine (Go.Proofs.Ytiokllhoaaamiaa.M.Does.call (R := []) CF HM (Go.Proofs.Ytiokllhoaaamiaa.Sm.perm_nil _)).mono ?_); clear HM; rintro e w_ ⟨v_, L_, rfl, ⟨rfl, rfl⟩, HM⟩; (try simp only [List.append_nil] at HM); dsimp only)
    | (go_at_call 36; (with_reducible refine (Go.Proofs.Ytiokllhoaaamiaa.M.call_pure (CK) HM).mono ?_); clear HM; rintro e w_ ⟨rfl, HM⟩; dsimp only)
    | (refine Go.Proofs.Ytiokllhoaaamiaa.M.at_reg 7 ?_; refine Go.Proofs.Ytiokllhoaaamiaa.Mq.region_tail_m (id := 7) 14 HM (by kernel_rfl) (by kernel_rfl) ?_; simp only [List.take_succ_cons, List.take_zero, List.drop_succ_cons, List.drop_zero]; (repeat (any_goals (first | go_big_quiet_skip | (refine Go.Proofs.Ytiokllhoaaamiaa.Mq.qat_load 3 rfl ?_; go_big_quiet_want; first | (refine Go.Proofs.Ytiokllhoaaamiaa.Mq.quiet_load_cell 3 _ rfl 0 _ _ _ _ _ rfl rfl rfl (by kernel_rfl) (by kernel_rfl) ?_; simp only [Act.put, List.setIfInBounds_toArray, List.set_cons_zero, List.set_cons_succ]; go_big_quiet_on) | (refine Go.Proofs.Ytiokllhoaaamiaa.Mq.quiet_load_cell 3 _ rfl 1 _ _ _ _ _ rfl rfl rfl (by kernel_rfl) (by kernel_rfl) ?_; simp only [Act.put, List.setIfInBounds_toArray, List.set_cons_zero, List.set_cons_succ]; go_big_quiet_on)) | (refine Go.Proofs.Ytiokllhoaaamiaa.Mq.qat_load 42 rfl ?_; go_big_quiet_want; first | (refine Go.Proofs.Ytiokllhoaaamiaa.Mq.quiet_load_cell 42 _ rfl 0 _ _ _ _ _ rfl rfl rfl (by kernel_rfl) (by kernel_rfl) ?_; simp only [Act.put, List.setIfInBounds_toArray, List.set_cons_zero, List.set_cons_succ]; go_big_quiet_on) | (refine Go.Proofs.Ytiokllhoaaamiaa.Mq.quiet_load_cell 42 _ rfl 1 _ _ _ _ _ rfl rfl rfl (by kernel_rfl) (by kernel_rfl) ?_; simp only [Act.put, List.setIfInBounds_toArray, List.set_cons_zero, List.set_cons_succ]; go_big_quiet_on)) | ((fail_if_success (refine Go.Proofs.Ytiokllhoaaamiaa.Mq.qlit_t rfl ?_)); (fail_if_success (refine Go.Proofs.Ytiokllhoaaamiaa.Mq.qlit_f rfl ?_)); refine Go.Proofs.Ytiokllhoaaamiaa.Mq.qsplit rfl rfl ?_ ?_ <;> (intro hg_; simp only [hg_]; try simp only [decide_eq_true_eq, decide_eq_false_iff_not, Bool.and_eq_true, Bool.or_eq_true, Bool.and_eq_false_iff, Bool.or_eq_false_iff, Bool.not_eq_true', Bool.not_eq_false', beq_iff_eq, bne_iff_ne, beq_eq_false_iff_ne, bne_eq_false_iff_eq, Int.not_lt, Int.not_le, ne_eq] at hg_)) | go_big_quiet_step (first | (go_at_call 36; with_reducible exact Go.Proofs.Ytiokllhoaaamiaa.Mq.quiet_call_m (CK _)) | exact rfl)))); all_goals (refine Go.Proofs.Ytiokllhoaaamiaa.G.wpQuiet_end ?_; clear HM; intro w_ HM))
    | (refine Go.Proofs.Ytiokllhoaaamiaa.M.at_mem rfl ?_; first | (refine Go.Proofs.Ytiokllhoaaamiaa.M.at_load 3 rfl ?_; first | (refine Go.Proofs.Ytiokllhoaaamiaa.M.load_cell_m HM rfl 3 _ rfl 0 _ _ _ _ _ rfl rfl rfl (by kernel_rfl) (by kernel_rfl) ?_; go_simp) | (refine Go.Proofs.Ytiokllhoaaamiaa.M.load_cell_m HM rfl 3 _ rfl 1 _ _ _ _ _ rfl rfl rfl (by kernel_rfl) (by kernel_rfl) ?_; go_simp)) | (refine Go.Proofs.Ytiokllhoaaamiaa.M.at_load 42 rfl ?_; first | (refine Go.Proofs.Ytiokllhoaaamiaa.M.load_cell_m HM rfl 42 _ rfl 0 _ _ _ _ _ rfl rfl rfl (by kernel_rfl) (by kernel_rfl) ?_; go_simp) | (refine Go.Proofs.Ytiokllhoaaamiaa.M.load_cell_m HM rfl 42 _ rfl 1 _ _ _ _ _ rfl rfl rfl (by kernel_rfl) (by kernel_rfl) ?_; go_simp)) | (refine Go.Proofs.Ytiokllhoaaamiaa.M.at_store 3 rfl ?_; first | (refine Go.Proofs.Ytiokllhoaaamiaa.M.store_cell_m HM rfl 3 _ _ rfl 0 _ _ _ _ _ rfl rfl rfl (by kernel_rfl) rfl (by simp) ?_; clear HM; intro w_ HM; (try simp only [List.set_cons_zero, List.set_cons_succ, List.setIfInBounds_toArray, List.eraseIdx_cons_zero, List.eraseIdx_cons_succ, List.cons_append, List.nil_append] at HM); go_simp) | (refine Go.Proofs.Ytiokllhoaaamiaa.M.store_cell_m HM rfl 3 _ _ rfl 1 _ _ _ _ _ rfl rfl rfl (by kernel_rfl) rfl (by simp) ?_; clear HM; intro w_ HM; (try simp only [List.set_cons_zero, List.set_cons_succ, List.setIfInBounds_toArray, List.eraseIdx_cons_zero, List.eraseIdx_cons_succ, List.cons_append, List.nil_append] at HM); go_simp)) | ((fail_if_success (refine Go.Proofs.Ytiokllhoaaamiaa.M.lit_t rfl ?_)); (fail_if_success (refine Go.Proofs.Ytiokllhoaaamiaa.M.lit_f rfl ?_)); refine Go.Proofs.Ytiokllhoaaamiaa.M.split_guard rfl rfl ?_ ?_ <;> (intro hg_; simp only [hg_]; try simp only [decide_eq_true_eq, decide_eq_false_iff_not, Bool.and_eq_true, Bool.or_eq_true, Bool.and_eq_false_iff, Bool.or_eq_false_iff, Bool.not_eq_true', Bool.not_eq_false', beq_iff_eq, bne_iff_ne, beq_eq_false_iff_ne, bne_eq_false_iff_eq, Int.not_lt, Int.not_le, ne_eq] at hg_)))
    | ((fail_if_success (refine Go.Proofs.Ytiokllhoaaamiaa.M.lit_t rfl ?_)); (fail_if_success (refine Go.Proofs.Ytiokllhoaaamiaa.M.lit_f rfl ?_)); refine Go.Proofs.Ytiokllhoaaamiaa.M.split_guard rfl rfl ?_ ?_ <;> (intro hg_; simp only [hg_]; try simp only [decide_eq_true_eq, decide_eq_false_iff_not, Bool.and_eq_true, Bool.or_eq_true, Bool.and_eq_false_iff, Bool.or_eq_false_iff, Bool.not_eq_true', Bool.not_eq_false', beq_iff_eq, bne_iff_ne, beq_eq_false_iff_ne, bne_eq_false_iff_eq, Int.not_lt, Int.not_le, ne_eq] at hg_)))
  all_goals
    go_ret3
    exact ⟨_, _, rfl, ⟨rfl, rfl⟩, HM⟩
set_option maxHeartbeats 2000000 in
theorem take_new (gB g n : Nat) (os : List Int) (vic vic' v x : Int) (i : Nat) (hn : os.length = n) (h1 : n ≤ 1000) (hv : 1 ≤ v ∧ v < 4096) (hi : i < n) (hx : os.getD i 0 = x)
    (CF : Does Try.prog 24 #[.pointer (some ⟨gB, 0, none⟩), .int .i64 v] (bk gB g n os vic) fun r L => r = .tuple #[.int .i64 0, .bool false] ∧ L = bk gB g n os vic)
    (CR : Does Try.prog 37 #[.pointer (some ⟨gB, 0, none⟩)] (bk gB g n os vic) fun r L => r = .int .i64 i ∧ L = bk gB g n os vic') :
    Does Try.prog 12 #[.pointer (some ⟨gB, 0, none⟩), .int .i64 v] (bk gB g n os vic) fun r L => r = .tuple #[.int .i64 i, .int .i64 x, .int .i64 0] ∧ L = bk gB g n (os.set i v) vic' := by
  have CK := known_any v
  rw [decide_eq_true hv] at CK
  have hg := ints_get os i (by omega)
  rw [hx] at hg
  have HG := Lib.hid hg
  have hi1 : (i : Int) < n := by omega
  have hlt : i < (ints os).size := by rw [ints_size]; omega
  have HLT := Lib.hid hlt
  have HST := Lib.hid (ints_set os i v)
  clear hg hx hlt hv
  intro w hH
  have HM := Mem.start hH
  go_enter Try.func12, Try.ntmps12
  go_wp2_with (first
    | (go_big_skip)
    | (go_at_call 24; (with_reducible refine (Go.Proofs.Ytiokllhoaaamiaa.M.Does.call (R := []) CF HM (Go.Proofs.Ytiokllhoaaamiaa.Sm.perm_nil _)).mono ?_); clear HM; rintro e w_ ⟨v_, L_, rfl, ⟨rfl, rfl⟩, HM⟩; (try simp only [List.append_nil] at HM); dsimp only)
    | (go_at_call 37; (with_reducible refine (Go.Proofs.Ytiokllhoaaamiaa.M.Does.call (R := []) CR HM (Go.Proofs.Ytiokllhoaaamiaa.Sm.perm_nil _)).mono ?_); clear HM; rintro e w_ ⟨v_, L_, rfl, ⟨rfl, rfl⟩, HM⟩; (try simp only [List.append_nil] at HM); dsimp only)
    | (refine Go.Proofs.Ytiokllhoaaamiaa.Sl.at_indexAddr 42 rfl ?_; refine Go.Proofs.Ytiokllhoaaamiaa.Sl.indexAddr_m rfl _ rfl 42 rfl 3 (by kernel_rfl) 1 (by kernel_rfl) g 0 n n rfl .i64 (i : Int) rfl (by omega) (by omega) i (by omega) ?_; go_simp)
    | (go_at_call 36; (with_reducible refine (Go.Proofs.Ytiokllhoaaamiaa.M.call_pure (CK) HM).mono ?_); clear HM; rintro e w_ ⟨rfl, HM⟩; dsimp only)
    | (refine Go.Proofs.Ytiokllhoaaamiaa.M.at_reg 7 ?_; refine Go.Proofs.Ytiokllhoaaamiaa.Mq.region_tail_m (id := 7) 14 HM (by kernel_rfl) (by kernel_rfl) ?_; simp only [List.take_succ_cons, List.take_zero, List.drop_succ_cons, List.drop_zero]; (repeat (any_goals (first | go_big_quiet_skip | (refine Go.Proofs.Ytiokllhoaaamiaa.Sm.qat_indexAddr 42 rfl ?_; go_big_quiet_want; refine Go.Proofs.Ytiokllhoaaamiaa.Sm.quiet_indexAddr_own 42 rfl 3 (by kernel_rfl) 1 (by kernel_rfl) g 0 n n rfl .i64 (i : Int) rfl (by omega) (by omega) i (by omega) ?_; simp only [Act.put, List.setIfInBounds_toArray, List.set_cons_zero, List.set_cons_succ]; go_big_quiet_on) | (refine Go.Proofs.Ytiokllhoaaamiaa.Mq.qat_load 3 rfl ?_; go_big_quiet_want; first | (refine Go.Proofs.Ytiokllhoaaamiaa.Mq.quiet_load_cell 3 _ rfl 1 _ _ _ (ints os) _ rfl rfl HG.out (by kernel_rfl) (by kernel_rfl) ?_; simp only [Act.put, List.setIfInBounds_toArray, List.set_cons_zero, List.set_cons_succ]; go_big_quiet_on) | (refine Go.Proofs.Ytiokllhoaaamiaa.Mq.quiet_load_cell 3 _ rfl 0 _ _ _ _ _ rfl rfl rfl (by kernel_rfl) (by kernel_rfl) ?_; simp only [Act.put, List.setIfInBounds_toArray, List.set_cons_zero, List.set_cons_succ]; go_big_quiet_on) | (refine Go.Proofs.Ytiokllhoaaamiaa.Mq.quiet_load_cell 3 _ rfl 1 _ _ _ _ _ rfl rfl rfl (by kernel_rfl) (by kernel_rfl) ?_; simp only [Act.put, List.setIfInBounds_toArray, List.set_cons_zero, List.set_cons_succ]; go_big_quiet_on)) | (refine Go.Proofs.Ytiokllhoaaamiaa.Mq.qat_load 42 rfl ?_; go_big_quiet_want; first | (refine Go.Proofs.Ytiokllhoaaamiaa.Mq.quiet_load_cell 3 _ rfl 1 _ _ _ (ints os) _ rfl rfl HG.out (by kernel_rfl) (by kernel_rfl) ?_; simp only [Act.put, List.setIfInBounds_toArray, List.set_cons_zero, List.set_cons_succ]; go_big_quiet_on) | (refine Go.Proofs.Ytiokllhoaaamiaa.Mq.quiet_load_cell 42 _ rfl 0 _ _ _ _ _ rfl rfl rfl (by kernel_rfl) (by kernel_rfl) ?_; simp only [Act.put, List.setIfInBounds_toArray, List.set_cons_zero, List.set_cons_succ]; go_big_quiet_on) | (refine Go.Proofs.Ytiokllhoaaamiaa.Mq.quiet_load_cell 42 _ rfl 1 _ _ _ _ _ rfl rfl rfl (by kernel_rfl) (by kernel_rfl) ?_; simp only [Act.put, List.setIfInBounds_toArray, List.set_cons_zero, List.set_cons_succ]; go_big_quiet_on)) | ((fail_if_success (refine Go.Proofs.Ytiokllhoaaamiaa.Mq.qlit_t rfl ?_)); (fail_if_success (refine Go.Proofs.Ytiokllhoaaamiaa.Mq.qlit_f rfl ?_)); refine Go.Proofs.Ytiokllhoaaamiaa.Mq.qsplit rfl rfl ?_ ?_ <;> (intro hg_; simp only [hg_]; try simp only [decide_eq_true_eq, decide_eq_false_iff_not, Bool.and_eq_true, Bool.or_eq_true, Bool.and_eq_false_iff, Bool.or_eq_false_iff, Bool.not_eq_true', Bool.not_eq_false', beq_iff_eq, bne_iff_ne, beq_eq_false_iff_ne, bne_eq_false_iff_eq, Int.not_lt, Int.not_le, ne_eq] at hg_)) | go_big_quiet_step (first | (go_at_call 36; with_reducible exact Go.Proofs.Ytiokllhoaaamiaa.Mq.quiet_call_m (CK _)) | exact rfl)))); all_goals (refine Go.Proofs.Ytiokllhoaaamiaa.G.wpQuiet_end ?_; clear HM; intro w_ HM))
    | (refine Go.Proofs.Ytiokllhoaaamiaa.M.at_mem rfl ?_; first | (refine Go.Proofs.Ytiokllhoaaamiaa.M.at_load 3 rfl ?_; first | (refine Go.Proofs.Ytiokllhoaaamiaa.M.load_cell_m HM rfl 3 _ rfl 0 _ _ _ _ _ rfl rfl rfl (by kernel_rfl) (by kernel_rfl) ?_; go_simp) | (refine Go.Proofs.Ytiokllhoaaamiaa.M.load_cell_m HM rfl 3 _ rfl 1 _ _ _ _ _ rfl rfl rfl (by kernel_rfl) (by kernel_rfl) ?_; go_simp)) | (refine Go.Proofs.Ytiokllhoaaamiaa.M.at_load 42 rfl ?_; first | (refine Go.Proofs.Ytiokllhoaaamiaa.M.load_cell_m HM rfl 42 _ rfl 0 _ _ _ _ _ rfl rfl rfl (by kernel_rfl) (by kernel_rfl) ?_; go_simp) | (refine Go.Proofs.Ytiokllhoaaamiaa.M.load_cell_m HM rfl 42 _ rfl 1 _ _ _ _ _ rfl rfl rfl (by kernel_rfl) (by kernel_rfl) ?_; go_simp)) | (refine Go.Proofs.Ytiokllhoaaamiaa.M.at_store 3 rfl ?_; first | (refine Go.Proofs.Ytiokllhoaaamiaa.M.store_cell_m HM rfl 3 _ _ rfl 1 _ _ _ (ints os) (.int .i64 v) rfl rfl rfl (by kernel_rfl) rfl HLT.out ?_; clear HM; intro w_ HM; (try unfold bk at HM); (try simp only [List.set_cons_zero, List.set_cons_succ] at HM); rw [HST.out] at HM; go_simp) | (refine Go.Proofs.Ytiokllhoaaamiaa.M.store_cell_m HM rfl 3 _ _ rfl 0 _ _ _ _ _ rfl rfl rfl (by kernel_rfl) rfl (by simp) ?_; clear HM; intro w_ HM; (try simp only [List.set_cons_zero, List.set_cons_succ, List.setIfInBounds_toArray, List.eraseIdx_cons_zero, List.eraseIdx_cons_succ, List.cons_append, List.nil_append] at HM); go_simp) | (refine Go.Proofs.Ytiokllhoaaamiaa.M.store_cell_m HM rfl 3 _ _ rfl 1 _ _ _ _ _ rfl rfl rfl (by kernel_rfl) rfl (by simp) ?_; clear HM; intro w_ HM; (try simp only [List.set_cons_zero, List.set_cons_succ, List.setIfInBounds_toArray, List.eraseIdx_cons_zero, List.eraseIdx_cons_succ, List.cons_append, List.nil_append] at HM); go_simp)) | ((fail_if_success (refine Go.Proofs.Ytiokllhoaaamiaa.M.lit_t rfl ?_)); (fail_if_success (refine Go.Proofs.Ytiokllhoaaamiaa.M.lit_f rfl ?_)); refine Go.Proofs.Ytiokllhoaaamiaa.M.split_guard rfl rfl ?_ ?_ <;> (intro hg_; simp only [hg_]; try simp only [decide_eq_true_eq, decide_eq_false_iff_not, Bool.and_eq_true, Bool.or_eq_true, Bool.and_eq_false_iff, Bool.or_eq_false_iff, Bool.not_eq_true', Bool.not_eq_false', beq_iff_eq, bne_iff_ne, beq_eq_false_iff_ne, bne_eq_false_iff_eq, Int.not_lt, Int.not_le, ne_eq] at hg_)))
    | ((fail_if_success (refine Go.Proofs.Ytiokllhoaaamiaa.M.lit_t rfl ?_)); (fail_if_success (refine Go.Proofs.Ytiokllhoaaamiaa.M.lit_f rfl ?_)); refine Go.Proofs.Ytiokllhoaaamiaa.M.split_guard rfl rfl ?_ ?_ <;> (intro hg_; simp only [hg_]; try simp only [decide_eq_true_eq, decide_eq_false_iff_not, Bool.and_eq_true, Bool.or_eq_true, Bool.and_eq_false_iff, Bool.or_eq_false_iff, Bool.not_eq_true', Bool.not_eq_false', beq_iff_eq, bne_iff_ne, beq_eq_false_iff_ne, bne_eq_false_iff_eq, Int.not_lt, Int.not_le, ne_eq] at hg_)))
  all_goals
    go_ret3
    exact ⟨_, _, rfl, ⟨rfl, rfl⟩, HM⟩
set_option maxHeartbeats 1000000 in
theorem drop_no (gB g n : Nat) (os : List Int) (vic v : Int)
    (CF : Does Try.prog 24 #[.pointer (some ⟨gB, 0, none⟩), .int .i64 v] (bk gB g n os vic) fun r L => r = .tuple #[.int .i64 0, .bool false] ∧ L = bk gB g n os vic) :
    Does Try.prog 22 #[.pointer (some ⟨gB, 0, none⟩), .int .i64 v] (bk gB g n os vic) fun r L => r = .tuple #[.int .i64 0, .bool false] ∧ L = bk gB g n os vic := by
  intro w hH
  have HM := Mem.start hH
  go_enter Try.func22, Try.ntmps22
  go_wp2_with (first
    | (go_big_skip)
    | (go_at_call 24; (with_reducible refine (Go.Proofs.Ytiokllhoaaamiaa.M.Does.call (R := []) CF HM (Go.Proofs.Ytiokllhoaaamiaa.Sm.perm_nil _)).mono ?_); clear HM; rintro e w_ ⟨v_, L_, rfl, ⟨rfl, rfl⟩, HM⟩; (try simp only [List.append_nil] at HM); dsimp only)
    | (refine Go.Proofs.Ytiokllhoaaamiaa.M.at_mem rfl ?_; first | (refine Go.Proofs.Ytiokllhoaaamiaa.M.at_load 42 rfl ?_; first | (refine Go.Proofs.Ytiokllhoaaamiaa.M.load_cell_m HM rfl 42 _ rfl 0 _ _ _ _ _ rfl rfl rfl (by kernel_rfl) (by kernel_rfl) ?_; go_simp) | (refine Go.Proofs.Ytiokllhoaaamiaa.M.load_cell_m HM rfl 42 _ rfl 1 _ _ _ _ _ rfl rfl rfl (by kernel_rfl) (by kernel_rfl) ?_; go_simp)) | (refine Go.Proofs.Ytiokllhoaaamiaa.M.at_store 3 rfl ?_; first | (refine Go.Proofs.Ytiokllhoaaamiaa.M.store_cell_m HM rfl 3 _ _ rfl 0 _ _ _ _ _ rfl rfl rfl (by kernel_rfl) rfl (by simp) ?_; clear HM; intro w_ HM; (try simp only [List.set_cons_zero, List.set_cons_succ, List.setIfInBounds_toArray, List.eraseIdx_cons_zero, List.eraseIdx_cons_succ, List.cons_append, List.nil_append] at HM); go_simp) | (refine Go.Proofs.Ytiokllhoaaamiaa.M.store_cell_m HM rfl 3 _ _ rfl 1 _ _ _ _ _ rfl rfl rfl (by kernel_rfl) rfl (by simp) ?_; clear HM; intro w_ HM; (try simp only [List.set_cons_zero, List.set_cons_succ, List.setIfInBounds_toArray, List.eraseIdx_cons_zero, List.eraseIdx_cons_succ, List.cons_append, List.nil_append] at HM); go_simp)) | ((fail_if_success (refine Go.Proofs.Ytiokllhoaaamiaa.M.lit_t rfl ?_)); (fail_if_success (refine Go.Proofs.Ytiokllhoaaamiaa.M.lit_f rfl ?_)); refine Go.Proofs.Ytiokllhoaaamiaa.M.split_guard rfl rfl ?_ ?_ <;> (intro hg_; simp only [hg_]; try simp only [decide_eq_true_eq, decide_eq_false_iff_not, Bool.and_eq_true, Bool.or_eq_true, Bool.and_eq_false_iff, Bool.or_eq_false_iff, Bool.not_eq_true', Bool.not_eq_false', beq_iff_eq, bne_iff_ne, beq_eq_false_iff_ne, bne_eq_false_iff_eq, Int.not_lt, Int.not_le, ne_eq] at hg_)))
    | ((fail_if_success (refine Go.Proofs.Ytiokllhoaaamiaa.M.lit_t rfl ?_)); (fail_if_success (refine Go.Proofs.Ytiokllhoaaamiaa.M.lit_f rfl ?_)); refine Go.Proofs.Ytiokllhoaaamiaa.M.split_guard rfl rfl ?_ ?_ <;> (intro hg_; simp only [hg_]; try simp only [decide_eq_true_eq, decide_eq_false_iff_not, Bool.and_eq_true, Bool.or_eq_true, Bool.and_eq_false_iff, Bool.or_eq_false_iff, Bool.not_eq_true', Bool.not_eq_false', beq_iff_eq, bne_iff_ne, beq_eq_false_iff_ne, bne_eq_false_iff_eq, Int.not_lt, Int.not_le, ne_eq] at hg_)))
  all_goals
    go_ret2
    exact ⟨_, _, rfl, ⟨rfl, rfl⟩, HM⟩
set_option maxHeartbeats 2000000 in
theorem drop_yes (gB g n : Nat) (os : List Int) (vic v : Int) (i : Nat) (hn : os.length = n) (h1 : n ≤ 1000) (hi : i < n)
    (CF : Does Try.prog 24 #[.pointer (some ⟨gB, 0, none⟩), .int .i64 v] (bk gB g n os vic) fun r L => r = .tuple #[.int .i64 i, .bool true] ∧ L = bk gB g n os vic) :
    Does Try.prog 22 #[.pointer (some ⟨gB, 0, none⟩), .int .i64 v] (bk gB g n os vic) fun r L => r = .tuple #[.int .i64 i, .bool true] ∧ L = bk gB g n (os.set i 0) vic := by
  have hi1 : (i : Int) < n := by omega
  have hlt : i < (ints os).size := by rw [ints_size]; omega
  have HLT := Lib.hid hlt
  have HST := Lib.hid (ints_set os i 0)
  clear hlt
  intro w hH
  have HM := Mem.start hH
  go_enter Try.func22, Try.ntmps22
  go_wp2_with (first
    | (go_big_skip)
    | (go_at_call 24; (with_reducible refine (Go.Proofs.Ytiokllhoaaamiaa.M.Does.call (R := []) CF HM (Go.Proofs.Ytiokllhoaaamiaa.Sm.perm_nil _)).mono ?_); clear HM; rintro e w_ ⟨v_, L_, rfl, ⟨rfl, rfl⟩, HM⟩; (try simp only [List.append_nil] at HM); dsimp only)
    | (refine Go.Proofs.Ytiokllhoaaamiaa.Sl.at_indexAddr 42 rfl ?_; refine Go.Proofs.Ytiokllhoaaamiaa.Sl.indexAddr_m rfl _ rfl 42 rfl 3 (by kernel_rfl) 1 (by kernel_rfl) g 0 n n rfl .i64 (i : Int) rfl (by omega) (by omega) i (by omega) ?_; go_simp)
    | (refine Go.Proofs.Ytiokllhoaaamiaa.M.at_mem rfl ?_; first | (refine Go.Proofs.Ytiokllhoaaamiaa.M.at_load 42 rfl ?_; first | (refine Go.Proofs.Ytiokllhoaaamiaa.M.load_cell_m HM rfl 42 _ rfl 0 _ _ _ _ _ rfl rfl rfl (by kernel_rfl) (by kernel_rfl) ?_; go_simp) | (refine Go.Proofs.Ytiokllhoaaamiaa.M.load_cell_m HM rfl 42 _ rfl 1 _ _ _ _ _ rfl rfl rfl (by kernel_rfl) (by kernel_rfl) ?_; go_simp)) | (refine Go.Proofs.Ytiokllhoaaamiaa.M.at_store 3 rfl ?_; first | (refine Go.Proofs.Ytiokllhoaaamiaa.M.store_cell_m HM rfl 3 _ _ rfl 1 _ _ _ (ints os) (.int .i64 0) rfl rfl rfl (by kernel_rfl) rfl HLT.out ?_; clear HM; intro w_ HM; (try unfold bk at HM); (try simp only [List.set_cons_zero, List.set_cons_succ] at HM); rw [HST.out] at HM; go_simp) | (refine Go.Proofs.Ytiokllhoaaamiaa.M.store_cell_m HM rfl 3 _ _ rfl 0 _ _ _ _ _ rfl rfl rfl (by kernel_rfl) rfl (by simp) ?_; clear HM; intro w_ HM; (try simp only [List.set_cons_zero, List.set_cons_succ, List.setIfInBounds_toArray, List.eraseIdx_cons_zero, List.eraseIdx_cons_succ, List.cons_append, List.nil_append] at HM); go_simp) | (refine Go.Proofs.Ytiokllhoaaamiaa.M.store_cell_m HM rfl 3 _ _ rfl 1 _ _ _ _ _ rfl rfl rfl (by kernel_rfl) rfl (by simp) ?_; clear HM; intro w_ HM; (try simp only [List.set_cons_zero, List.set_cons_succ, List.setIfInBounds_toArray, List.eraseIdx_cons_zero, List.eraseIdx_cons_succ, List.cons_append, List.nil_append] at HM); go_simp)) | ((fail_if_success (refine Go.Proofs.Ytiokllhoaaamiaa.M.lit_t rfl ?_)); (fail_if_success (refine Go.Proofs.Ytiokllhoaaamiaa.M.lit_f rfl ?_)); refine Go.Proofs.Ytiokllhoaaamiaa.M.split_guard rfl rfl ?_ ?_ <;> (intro hg_; simp only [hg_]; try simp only [decide_eq_true_eq, decide_eq_false_iff_not, Bool.and_eq_true, Bool.or_eq_true, Bool.and_eq_false_iff, Bool.or_eq_false_iff, Bool.not_eq_true', Bool.not_eq_false', beq_iff_eq, bne_iff_ne, beq_eq_false_iff_ne, bne_eq_false_iff_eq, Int.not_lt, Int.not_le, ne_eq] at hg_)))
    | ((fail_if_success (refine Go.Proofs.Ytiokllhoaaamiaa.M.lit_t rfl ?_)); (fail_if_success (refine Go.Proofs.Ytiokllhoaaamiaa.M.lit_f rfl ?_)); refine Go.Proofs.Ytiokllhoaaamiaa.M.split_guard rfl rfl ?_ ?_ <;> (intro hg_; simp only [hg_]; try simp only [decide_eq_true_eq, decide_eq_false_iff_not, Bool.and_eq_true, Bool.or_eq_true, Bool.and_eq_false_iff, Bool.or_eq_false_iff, Bool.not_eq_true', Bool.not_eq_false', beq_iff_eq, bne_iff_ne, beq_eq_false_iff_ne, bne_eq_false_iff_eq, Int.not_lt, Int.not_le, ne_eq] at hg_)))
  all_goals
    go_ret2
    exact ⟨_, _, rfl, ⟨rfl, rfl⟩, HM⟩
set_option maxHeartbeats 1000000 in
theorem owner_in (gB g n : Nat) (os : List Int) (vic x : Int) (k : Nat) (hn : os.length = n) (hk : k < n) (hx : os.getD k 0 = x) :
    Does Try.prog 26 #[.pointer (some ⟨gB, 0, none⟩), .int .i64 k] (bk gB g n os vic) fun r L => r = .int .i64 x ∧ L = bk gB g n os vic := by
  have hg := ints_get os k (by omega)
  rw [hx] at hg
  have HG := Lib.hid hg
  have hk1 : (k : Int) < n := by omega
  clear hg hx
  intro w hH
  have HM := Mem.start hH
  go_enter Try.func26, Try.ntmps26
  go_wp2_with (first
    | (go_big_skip)
    | (refine Go.Proofs.Ytiokllhoaaamiaa.Sl.at_indexAddr 42 rfl ?_; refine Go.Proofs.Ytiokllhoaaamiaa.Sl.indexAddr_m rfl _ rfl 42 rfl 3 (by kernel_rfl) 1 (by kernel_rfl) g 0 n n rfl .i64 (k : Int) rfl (by omega) (by omega) k (by omega) ?_; go_simp)
    | (refine Go.Proofs.Ytiokllhoaaamiaa.M.at_mem rfl ?_; first | (refine Go.Proofs.Ytiokllhoaaamiaa.M.at_load 3 rfl ?_; first | (refine Go.Proofs.Ytiokllhoaaamiaa.M.load_cell_m HM rfl 3 _ rfl 1 _ _ _ (ints os) _ rfl rfl HG.out (by kernel_rfl) (by kernel_rfl) ?_; go_simp) | (refine Go.Proofs.Ytiokllhoaaamiaa.M.load_cell_m HM rfl 3 _ rfl 0 _ _ _ _ _ rfl rfl rfl (by kernel_rfl) (by kernel_rfl) ?_; go_simp) | (refine Go.Proofs.Ytiokllhoaaamiaa.M.load_cell_m HM rfl 3 _ rfl 1 _ _ _ _ _ rfl rfl rfl (by kernel_rfl) (by kernel_rfl) ?_; go_simp)) | (refine Go.Proofs.Ytiokllhoaaamiaa.M.at_load 42 rfl ?_; first | (refine Go.Proofs.Ytiokllhoaaamiaa.M.load_cell_m HM rfl 3 _ rfl 1 _ _ _ (ints os) _ rfl rfl HG.out (by kernel_rfl) (by kernel_rfl) ?_; go_simp) | (refine Go.Proofs.Ytiokllhoaaamiaa.M.load_cell_m HM rfl 42 _ rfl 0 _ _ _ _ _ rfl rfl rfl (by kernel_rfl) (by kernel_rfl) ?_; go_simp) | (refine Go.Proofs.Ytiokllhoaaamiaa.M.load_cell_m HM rfl 42 _ rfl 1 _ _ _ _ _ rfl rfl rfl (by kernel_rfl) (by kernel_rfl) ?_; go_simp)) | ((fail_if_success (refine Go.Proofs.Ytiokllhoaaamiaa.M.lit_t rfl ?_)); (fail_if_success (refine Go.Proofs.Ytiokllhoaaamiaa.M.lit_f rfl ?_)); refine Go.Proofs.Ytiokllhoaaamiaa.M.split_guard rfl rfl ?_ ?_ <;> (intro hg_; simp only [hg_]; try simp only [decide_eq_true_eq, decide_eq_false_iff_not, Bool.and_eq_true, Bool.or_eq_true, Bool.and_eq_false_iff, Bool.or_eq_false_iff, Bool.not_eq_true', Bool.not_eq_false', beq_iff_eq, bne_iff_ne, beq_eq_false_iff_ne, bne_eq_false_iff_eq, Int.not_lt, Int.not_le, ne_eq] at hg_)))
    | (refine Go.Proofs.Ytiokllhoaaamiaa.Mc.at_cmp _ rfl ?_; refine Go.Proofs.Ytiokllhoaaamiaa.Mc.cmp_m rfl _ rfl _ _ _ rfl _ _ _ rfl rfl _ rfl ?_ ?_ <;> (intro hg_; try simp only [decide_eq_true_eq, decide_eq_false_iff_not, Bool.and_eq_true, Bool.or_eq_true, Bool.and_eq_false_iff, Bool.or_eq_false_iff, Bool.not_eq_true', Bool.not_eq_false', beq_iff_eq, bne_iff_ne, beq_eq_false_iff_ne, bne_eq_false_iff_eq, Int.not_lt, Int.not_le, ne_eq] at hg_; first | (exfalso; first | omega | (simp at hg_; done)) | go_simp))
    | ((fail_if_success (refine Go.Proofs.Ytiokllhoaaamiaa.M.lit_t rfl ?_)); (fail_if_success (refine Go.Proofs.Ytiokllhoaaamiaa.M.lit_f rfl ?_)); refine Go.Proofs.Ytiokllhoaaamiaa.M.split_guard rfl rfl ?_ ?_ <;> (intro hg_; simp only [hg_]; try simp only [decide_eq_true_eq, decide_eq_false_iff_not, Bool.and_eq_true, Bool.or_eq_true, Bool.and_eq_false_iff, Bool.or_eq_false_iff, Bool.not_eq_true', Bool.not_eq_false', beq_iff_eq, bne_iff_ne, beq_eq_false_iff_ne, bne_eq_false_iff_eq, Int.not_lt, Int.not_le, ne_eq] at hg_)))
  all_goals
    go_ret
    exact ⟨_, _, rfl, ⟨rfl, rfl⟩, HM⟩
set_option maxHeartbeats 1000000 in
theorem owner_out (gB g n : Nat) (os : List Int) (vic k : Int) (hk : k < 0 ∨ (n : Int) ≤ k) :
    Does Try.prog 26 #[.pointer (some ⟨gB, 0, none⟩), .int .i64 k] (bk gB g n os vic) fun r L => r = .int .i64 0 ∧ L = bk gB g n os vic := by
  rcases hk with hk | hk
  all_goals
    intro w hH
    have HM := Mem.start hH
    go_enter Try.func26, Try.ntmps26
    go_wp2_with (first
      | (go_big_skip)
      | (refine Go.Proofs.Ytiokllhoaaamiaa.M.at_mem rfl ?_; first | (refine Go.Proofs.Ytiokllhoaaamiaa.M.at_load 3 rfl ?_; first | (refine Go.Proofs.Ytiokllhoaaamiaa.M.load_cell_m HM rfl 3 _ rfl 0 _ _ _ _ _ rfl rfl rfl (by kernel_rfl) (by kernel_rfl) ?_; go_simp) | (refine Go.Proofs.Ytiokllhoaaamiaa.M.load_cell_m HM rfl 3 _ rfl 1 _ _ _ _ _ rfl rfl rfl (by kernel_rfl) (by kernel_rfl) ?_; go_simp)) | (refine Go.Proofs.Ytiokllhoaaamiaa.M.at_load 42 rfl ?_; first | (refine Go.Proofs.Ytiokllhoaaamiaa.M.load_cell_m HM rfl 42 _ rfl 0 _ _ _ _ _ rfl rfl rfl (by kernel_rfl) (by kernel_rfl) ?_; go_simp) | (refine Go.Proofs.Ytiokllhoaaamiaa.M.load_cell_m HM rfl 42 _ rfl 1 _ _ _ _ _ rfl rfl rfl (by kernel_rfl) (by kernel_rfl) ?_; go_simp)) | ((fail_if_success (refine Go.Proofs.Ytiokllhoaaamiaa.M.lit_t rfl ?_)); (fail_if_success (refine Go.Proofs.Ytiokllhoaaamiaa.M.lit_f rfl ?_)); refine Go.Proofs.Ytiokllhoaaamiaa.M.split_guard rfl rfl ?_ ?_ <;> (intro hg_; simp only [hg_]; try simp only [decide_eq_true_eq, decide_eq_false_iff_not, Bool.and_eq_true, Bool.or_eq_true, Bool.and_eq_false_iff, Bool.or_eq_false_iff, Bool.not_eq_true', Bool.not_eq_false', beq_iff_eq, bne_iff_ne, beq_eq_false_iff_ne, bne_eq_false_iff_eq, Int.not_lt, Int.not_le, ne_eq] at hg_)))
      | (refine Go.Proofs.Ytiokllhoaaamiaa.Mc.at_cmp _ rfl ?_; refine Go.Proofs.Ytiokllhoaaamiaa.Mc.cmp_m rfl _ rfl _ _ _ rfl _ _ _ rfl rfl _ rfl ?_ ?_ <;> (intro hg_; try simp only [decide_eq_true_eq, decide_eq_false_iff_not, Bool.and_eq_true, Bool.or_eq_true, Bool.and_eq_false_iff, Bool.or_eq_false_iff, Bool.not_eq_true', Bool.not_eq_false', beq_iff_eq, bne_iff_ne, beq_eq_false_iff_ne, bne_eq_false_iff_eq, Int.not_lt, Int.not_le, ne_eq] at hg_; first | (exfalso; first | omega | (simp at hg_; done)) | go_simp))
      | ((fail_if_success (refine Go.Proofs.Ytiokllhoaaamiaa.M.lit_t rfl ?_)); (fail_if_success (refine Go.Proofs.Ytiokllhoaaamiaa.M.lit_f rfl ?_)); refine Go.Proofs.Ytiokllhoaaamiaa.M.split_guard rfl rfl ?_ ?_ <;> (intro hg_; simp only [hg_]; try simp only [decide_eq_true_eq, decide_eq_false_iff_not, Bool.and_eq_true, Bool.or_eq_true, Bool.and_eq_false_iff, Bool.or_eq_false_iff, Bool.not_eq_true', Bool.not_eq_false', beq_iff_eq, bne_iff_ne, beq_eq_false_iff_ne, bne_eq_false_iff_eq, Int.not_lt, Int.not_le, ne_eq] at hg_)))
    all_goals
      first
      | (go_ret
         exact ⟨_, _, rfl, ⟨rfl, rfl⟩, HM⟩)
      | (exfalso; omega)
/-- A new slice of whole numbers, and its block. -/
def NewI (m : Nat) (xs : List Value) (v : Value) (L : Hp) : Prop := ∃ g cap cur, v = .slice (some ⟨g, 0, none⟩) m cap ∧ m ≤ cap ∧ cap ≤ maxLen ∧ cur.size = cap ∧ cur.toList.take m = xs ∧ L = [(g, row cur 3)]
set_option maxHeartbeats 1000000 in
theorem iclone_any (p : Addr) (m c : Nat) (xs : List Value) (hx : xs.length = m) (hm : m ≤ 1000) (h1 : ∀ v ∈ xs, v.oneCell' = true) (w : World) (hc : ∀ j v, xs[j]? = some v → w.cell? (p.add j) = some v) :
    Calls Try.prog 42 #[.slice (some p) m c] w (Ans w [] (NewI m xs)) := by
  have q42 : ∀ (w : World) (a : Option Addr) (n c n' c' : Nat), (binOp .eql 42 (.slice a n c) (.slice none n' c')).run Try.prog w = .ok (.bool a.isNone) w := fun w a n c n' c' => Lib.run_eql_slice_nil w _ _ a n c n' c' Try.underlying42
  have HX := Lib.hid hx; have H1 := Lib.hid h1; have HC := Lib.hid hc; clear hx h1 hc
  have HM := Mem.nil w
  go_enter Try.func42, Try.ntmps42
  go_wp2_with (first
    | (refine Go.Proofs.Ytiokllhoaaamiaa.Sl.at_bslice 42 rfl ?_; refine Go.Proofs.Ytiokllhoaaamiaa.Sm.bslice0_m HM rfl rfl 42 3 rfl (by kernel_rfl) (by kernel_rfl) ?_; clear HM; intro g_ w_ HM; go_simp)
    | (refine Go.Proofs.Ytiokllhoaaamiaa.Sm.at_call_append rfl ?_; refine Go.Proofs.Ytiokllhoaaamiaa.Sm.append_m HM rfl rfl _ _ 42 3 rfl 1 8 (by kernel_rfl) (by kernel_rfl) (by decide) 0 _ 0 0 #[] rfl rfl (Nat.le_refl _) (by decide) rfl p m c rfl xs (by rw [HX.out]; simp) (fun u hu j v hj => mem_cell hu (HC.out j v hj) (by simp)) H1.out (by simp [maxLen]; omega) (by omega) m (by omega) ?_; clear HM; intro g_ cap_ cur_ w_ e1_ e2_ e3_ e4_ HM; go_simp)
    | ((fail_if_success (refine Go.Proofs.Ytiokllhoaaamiaa.M.lit_t rfl ?_)); (fail_if_success (refine Go.Proofs.Ytiokllhoaaamiaa.M.lit_f rfl ?_)); refine Go.Proofs.Ytiokllhoaaamiaa.M.split_guard rfl rfl ?_ ?_ <;> (intro hg_; simp only [hg_]; try simp only [decide_eq_true_eq, decide_eq_false_iff_not, Bool.and_eq_true, Bool.or_eq_true, Bool.and_eq_false_iff, Bool.or_eq_false_iff, Bool.not_eq_true', Bool.not_eq_false', beq_iff_eq, bne_iff_ne, beq_eq_false_iff_ne, bne_eq_false_iff_eq, Int.not_lt, Int.not_le, ne_eq] at hg_)))
  all_goals
    go_ret
    refine Ans.mk ?_ HM
    exact ⟨g_, cap_, cur_, rfl, e1_, e2_, by simpa using e3_, by simpa using e4_, rfl⟩
theorem ints_list (os : List Int) : (ints os).toList = os.map (Value.int .i64) := by simp [ints]
set_option maxHeartbeats 1000000 in
theorem owners_any (gB g n : Nat) (os : List Int) (vic : Int) (hn : os.length = n) (h1 : n ≤ 1000) :
    Does Try.prog 25 #[.pointer (some ⟨gB, 0, none⟩)] (bk gB g n os vic) fun r L => ∃ g' cap cur, r = .slice (some ⟨g', 0, none⟩) n cap ∧ cur.toList.take n = os.map (Value.int .i64) ∧ L = (g', row cur 3) :: bk gB g n os vic := by
  intro w hH
  have CC : ∀ M u, (∀ p ∈ M, p = gB ∨ p = g) → Mem w M (bk gB g n os vic) u → Calls Try.prog 42 #[.slice (some ⟨g, 0, none⟩) n n] u (Ans u [] (NewI n (os.map (Value.int .i64)))) := fun M u _ hu =>
    iclone_any ⟨g, 0, none⟩ n n _ (by simpa using hn) h1 (by simp [Value.oneCell']) u (fun j v hj => row_cells (w0 := w) (M := M) 1 rfl u hu j v (by rw [ints_list]; exact hj))
  have HM := Mem.start hH
  go_enter Try.func25, Try.ntmps25
  go_wp2_with (first
    | (go_at_call 42; (with_reducible refine (Go.Proofs.Ytiokllhoaaamiaa.Sm.new_call HM (CC _ _ (by simp [bk]) HM)).mono ?_); clear HM; rintro e w_ ⟨v_, L_, rfl, ⟨g_, cap_, cur_, rfl, e1_, e2_, e3_, e4_, rfl⟩, HM⟩; (try simp only [List.cons_append, List.nil_append, List.append_nil] at HM); dsimp only)
    | (refine Go.Proofs.Ytiokllhoaaamiaa.M.at_mem rfl ?_; first | (refine Go.Proofs.Ytiokllhoaaamiaa.M.at_load 42 rfl ?_; first | (refine Go.Proofs.Ytiokllhoaaamiaa.M.load_cell_m HM rfl 42 _ rfl 0 _ _ _ _ _ rfl rfl rfl (by kernel_rfl) (by kernel_rfl) ?_; go_simp) | (refine Go.Proofs.Ytiokllhoaaamiaa.M.load_cell_m HM rfl 42 _ rfl 1 _ _ _ _ _ rfl rfl rfl (by kernel_rfl) (by kernel_rfl) ?_; go_simp)) | ((fail_if_success (refine Go.Proofs.Ytiokllhoaaamiaa.M.lit_t rfl ?_)); (fail_if_success (refine Go.Proofs.Ytiokllhoaaamiaa.M.lit_f rfl ?_)); refine Go.Proofs.Ytiokllhoaaamiaa.M.split_guard rfl rfl ?_ ?_ <;> (intro hg_; simp only [hg_]; try simp only [decide_eq_true_eq, decide_eq_false_iff_not, Bool.and_eq_true, Bool.or_eq_true, Bool.and_eq_false_iff, Bool.or_eq_false_iff, Bool.not_eq_true', Bool.not_eq_false', beq_iff_eq, bne_iff_ne, beq_eq_false_iff_ne, bne_eq_false_iff_eq, Int.not_lt, Int.not_le, ne_eq] at hg_)))
    | ((fail_if_success (refine Go.Proofs.Ytiokllhoaaamiaa.M.lit_t rfl ?_)); (fail_if_success (refine Go.Proofs.Ytiokllhoaaamiaa.M.lit_f rfl ?_)); refine Go.Proofs.Ytiokllhoaaamiaa.M.split_guard rfl rfl ?_ ?_ <;> (intro hg_; simp only [hg_]; try simp only [decide_eq_true_eq, decide_eq_false_iff_not, Bool.and_eq_true, Bool.or_eq_true, Bool.and_eq_false_iff, Bool.or_eq_false_iff, Bool.not_eq_true', Bool.not_eq_false', beq_iff_eq, bne_iff_ne, beq_eq_false_iff_ne, bne_eq_false_iff_eq, Int.not_lt, Int.not_le, ne_eq] at hg_)))
  all_goals
    go_ret
    exact ⟨_, _, rfl, ⟨g_, cap_, cur_, rfl, e4_, rfl⟩, HM⟩
section
variable {P : Program} {ops : Array Oper} {rest : List Oper} {o : Oper} {a : Act} {Q : Exit → Act → World → Prop} {W w0 : World} {M : List Nat} {L : Hp}
theorem outs_mk (t e : TypeId) (x y : Operand) (ho : o.op = .makeSlice t x y) (bytes : Nat) (hu : Sl.sliceB P t e = true) (hb : appB P e 1 bytes = true) (n : Nat) (k k' : IntKind) (hx : a.eval x = .int k n) (hy : a.eval y = .int k' n) (hby : bytes * n ≤ 281474976710656) (h63 : n ≤ 9223372036854775807) (z : Value) (hz : (P.info? e).map (·.zero) = some (some z)) (hz1 : z.cells = #[z]) :
    OutsM P o a w0 M L fun v L' => ∃ g, v = .slice (some ⟨g, 0, none⟩) n n ∧ L' = (g, row (Array.replicate n z) e) :: L := by
  intro u hm
  obtain ⟨ie, z', hie, hzz, hsize, hbytes, hzs⟩ := appB_spec hb
  have : z' = z := by simpa [hie, hzz] using hz
  subst this
  have hr := run_make (P := P) u t e ie z' (Sl.sliceB_spec hu) hie hzz k k' n n (by omega) (by omega) (by rw [hbytes, ← Int.natCast_mul]; omega) (by omega)
  rw [hsize, hz1] at hr
  have hc : madeCells #[z'] ((n : Int).toNat * 1) = Array.replicate n z' := by
    apply Array.ext
    · simp [madeCells]
    · intro i h1 h2
      simp only [madeCells, Array.getElem_map, Array.getElem_range, Array.getElem_replicate]
      have : i % (#[z'] : Array Value).size = 0 := Nat.mod_one i
      rw [this]
      rfl
  rw [hc] at hr
  refine outs_run (v := .slice (some ⟨u.heap.size, 0, none⟩) n n) (w1 := u.alloc (.cells (Array.replicate n z') e)) ?_ ⟨_, ⟨_, rfl, rfl⟩, hm.new (Nat.le_refl _) (heap_alloc_new u _) (below_new _)⟩
  unfold execOp
  simp only [ho, hx, hy]
  simp at hr
  simp [hr]
theorem at_mk (t : TypeId) {x y : Operand} (ho : o.op = .makeSlice t x y) (k : wpList P ops Q (o :: rest) a W) : wpList P ops Q (o :: rest) a W := k
theorem mk_m (HM : Mem w0 M L W) (hw : Region.wanted o (yielded ops a.tmps) = true) {N : Tmp} (hd : o.dst = some N) (t e : TypeId) (x y : Operand) (ho : o.op = .makeSlice t x y) (bytes : Nat) (hu : Sl.sliceB P t e = true) (hb : appB P e 1 bytes = true) (n : Nat) (k k' : IntKind) (hx : a.eval x = .int k n) (hy : a.eval y = .int k' n) (hby : bytes * n ≤ 281474976710656) (h63 : n ≤ 9223372036854775807) (z : Value) (hz : (P.info? e).map (·.zero) = some (some z)) (hz1 : z.cells = #[z])
    (h : ∀ g w1, Mem w0 M ((g, row (Array.replicate n z) e) :: L) w1 → wpList P ops Q rest (a.put (some N) (.slice (some ⟨g, 0, none⟩) n n)) w1) : wpList P ops Q (o :: rest) a W :=
  (outs_mk t e x y ho bytes hu hb n k k' hx hy hby h63 z hz hz1 W HM).ev hw fun _ w1 ⟨_, ⟨g, hv, hl⟩, hm⟩ => by subst hv hl; rw [hd]; exact h g w1 hm
end
theorem ints_zero (n : Nat) : Array.replicate n (Value.int .i64 0) = ints (List.replicate n 0) := by
  apply Array.ext'
  simp [ints]
set_option maxHeartbeats 1000000 in
theorem new_no (n : Int) (h : n < 2 ∨ 256 < n) (w : World) : Calls Try.prog 11 #[.int .i64 n] w fun x w' => x = .returned (.tuple #[.pointer none, .int .i64 12]) ∧ Below w.heap.size w w' := by
  rcases h with h | h
  all_goals
    have HM := Mem.nil w
    go_enter Try.func11, Try.ntmps11
    go_wp2_with (first
      | (go_big_skip)
      | (refine Go.Proofs.Ytiokllhoaaamiaa.M.at_mem rfl ?_; first | (refine Go.Proofs.Ytiokllhoaaamiaa.M.at_box 73 rfl ?_; first | (refine Go.Proofs.Ytiokllhoaaamiaa.M.box_m HM rfl rfl 73 _ rfl _ rfl ?_; clear HM; intro g_ w_ HM; go_simp)) | ((fail_if_success (refine Go.Proofs.Ytiokllhoaaamiaa.M.lit_t rfl ?_)); (fail_if_success (refine Go.Proofs.Ytiokllhoaaamiaa.M.lit_f rfl ?_)); refine Go.Proofs.Ytiokllhoaaamiaa.M.split_guard rfl rfl ?_ ?_ <;> (intro hg_; simp only [hg_]; try simp only [decide_eq_true_eq, decide_eq_false_iff_not, Bool.and_eq_true, Bool.or_eq_true, Bool.and_eq_false_iff, Bool.or_eq_false_iff, Bool.not_eq_true', Bool.not_eq_false', beq_iff_eq, bne_iff_ne, beq_eq_false_iff_ne, bne_eq_false_iff_eq, Int.not_lt, Int.not_le, ne_eq] at hg_)))
      | (refine Go.Proofs.Ytiokllhoaaamiaa.Mc.at_cmp _ rfl ?_; refine Go.Proofs.Ytiokllhoaaamiaa.Mc.cmp_m rfl _ rfl _ _ _ rfl _ _ _ rfl rfl _ rfl ?_ ?_ <;> (intro hg_; try simp only [decide_eq_true_eq, decide_eq_false_iff_not, Bool.and_eq_true, Bool.or_eq_true, Bool.and_eq_false_iff, Bool.or_eq_false_iff, Bool.not_eq_true', Bool.not_eq_false', beq_iff_eq, bne_iff_ne, beq_eq_false_iff_ne, bne_eq_false_iff_eq, Int.not_lt, Int.not_le, ne_eq] at hg_; first | (exfalso; first | omega | (simp at hg_; done)) | go_simp))
      | ((fail_if_success (refine Go.Proofs.Ytiokllhoaaamiaa.M.lit_t rfl ?_)); (fail_if_success (refine Go.Proofs.Ytiokllhoaaamiaa.M.lit_f rfl ?_)); refine Go.Proofs.Ytiokllhoaaamiaa.M.split_guard rfl rfl ?_ ?_ <;> (intro hg_; simp only [hg_]; try simp only [decide_eq_true_eq, decide_eq_false_iff_not, Bool.and_eq_true, Bool.or_eq_true, Bool.and_eq_false_iff, Bool.or_eq_false_iff, Bool.not_eq_true', Bool.not_eq_false', beq_iff_eq, bne_iff_ne, beq_eq_false_iff_ne, bne_eq_false_iff_eq, Int.not_lt, Int.not_le, ne_eq] at hg_)))
    all_goals
      go_ret2
      exact ⟨rfl, HM.none.to_below⟩
set_option maxHeartbeats 1000000 in
theorem new_ok (n : Nat) (h2 : 2 ≤ n) (h : n ≤ 256) (w : World) : Calls Try.prog 11 #[.int .i64 n] w (Ans w [] fun v L => ∃ gB g, v = .tuple #[.pointer (some ⟨gB, 0, none⟩), .int .i64 0] ∧ L = bk gB g n (List.replicate n 0) 0) := by
  have h3 : (2 : Int) ≤ n := by omega
  have h4 : (n : Int) ≤ 256 := by omega
  have HZ := Lib.hid (ints_zero n)
  have HM := Mem.nil w
  go_enter Try.func11, Try.ntmps11
  go_wp2_with (first
    | (go_big_skip)
    | (refine at_mk 42 rfl ?_; refine mk_m HM rfl rfl 42 3 _ _ rfl 8 (by kernel_rfl) (by kernel_rfl) n .i64 .i64 rfl rfl (by omega) (by omega) (.int .i64 0) (by kernel_rfl) rfl ?_; clear HM; intro g_ w_ HM; rw [HZ.out] at HM; go_simp)
    | (refine Go.Proofs.Ytiokllhoaaamiaa.M.at_mem rfl ?_; first | (refine Go.Proofs.Ytiokllhoaaamiaa.M.at_box 73 rfl ?_; first | (refine Go.Proofs.Ytiokllhoaaamiaa.M.box_m HM rfl rfl 73 _ rfl _ rfl ?_; clear HM; intro g_ w_ HM; go_simp)) | ((fail_if_success (refine Go.Proofs.Ytiokllhoaaamiaa.M.lit_t rfl ?_)); (fail_if_success (refine Go.Proofs.Ytiokllhoaaamiaa.M.lit_f rfl ?_)); refine Go.Proofs.Ytiokllhoaaamiaa.M.split_guard rfl rfl ?_ ?_ <;> (intro hg_; simp only [hg_]; try simp only [decide_eq_true_eq, decide_eq_false_iff_not, Bool.and_eq_true, Bool.or_eq_true, Bool.and_eq_false_iff, Bool.or_eq_false_iff, Bool.not_eq_true', Bool.not_eq_false', beq_iff_eq, bne_iff_ne, beq_eq_false_iff_ne, bne_eq_false_iff_eq, Int.not_lt, Int.not_le, ne_eq] at hg_)))
    | (refine Go.Proofs.Ytiokllhoaaamiaa.Mc.at_cmp _ rfl ?_; refine Go.Proofs.Ytiokllhoaaamiaa.Mc.cmp_m rfl _ rfl _ _ _ rfl _ _ _ rfl rfl _ rfl ?_ ?_ <;> (intro hg_; try simp only [decide_eq_true_eq, decide_eq_false_iff_not, Bool.and_eq_true, Bool.or_eq_true, Bool.and_eq_false_iff, Bool.or_eq_false_iff, Bool.not_eq_true', Bool.not_eq_false', beq_iff_eq, bne_iff_ne, beq_eq_false_iff_ne, bne_eq_false_iff_eq, Int.not_lt, Int.not_le, ne_eq] at hg_; first | (exfalso; first | omega | (simp at hg_; done)) | go_simp))
    | ((fail_if_success (refine Go.Proofs.Ytiokllhoaaamiaa.M.lit_t rfl ?_)); (fail_if_success (refine Go.Proofs.Ytiokllhoaaamiaa.M.lit_f rfl ?_)); refine Go.Proofs.Ytiokllhoaaamiaa.M.split_guard rfl rfl ?_ ?_ <;> (intro hg_; simp only [hg_]; try simp only [decide_eq_true_eq, decide_eq_false_iff_not, Bool.and_eq_true, Bool.or_eq_true, Bool.and_eq_false_iff, Bool.or_eq_false_iff, Bool.not_eq_true', Bool.not_eq_false', beq_iff_eq, bne_iff_ne, beq_eq_false_iff_ne, bne_eq_false_iff_eq, Int.not_lt, Int.not_le, ne_eq] at hg_)))
  all_goals
    go_ret2
    refine Ans.mk ?_ HM
    exact ⟨_, _, rfl, rfl⟩
end Go.Proofs.Ytiokllhoaaamiaa.Nb
