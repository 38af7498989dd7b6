/- desc.said, desc.Encode, desc.Decode, law04.listed: what each call answers. -/
import Derived.Test.YtfnmdelkdombbaaProg
import Derived.Test.YtfnmdelkdombbaaDl
namespace Go.Proofs.Ytfnmdelkdombbaa.Dn
open Go.RowKit Go.Proofs.Ytfnmdelkdombbaa.G Go.Proofs.Ytfnmdelkdombbaa.B Go.Proofs.Ytfnmdelkdombbaa.M Go.Proofs.Ytfnmdelkdombbaa.Dr Go.Proofs.Ytfnmdelkdombbaa.Ds Go.Proofs.Ytfnmdelkdombbaa.Dk Go.Proofs.Ytfnmdelkdombbaa.Dl Go.Proofs.Ytfnmdelkdombbaa.Mv

set_option linter.unusedVariables false
set_option linter.unusedSimpArgs false
def dZ : Value := .agg #[.int .i64 0, .int .u64 0, .bool false, .bool false, .bool false, .bool false, .int .i64 0]
set_option maxRecDepth 100000 in
set_option maxHeartbeats 1000000 in
theorem decode_range (level x : Int) (h : level < 0 ∨ 4 ≤ level) (w : World) : Calls Try.prog 16 #[.int .i64 level, .int .u64 x] w fun e w' => e = .returned (.tuple #[dZ, .int .i64 12]) ∧ Below w.heap.size w w' := by
  rcases h with h | h
  all_goals
    have HM := Mem.nil w
    go_enter Try.func16, Try.ntmps16
    go_wp2_with (first
      | (go_big_skip)
      | (refine M.at_mem rfl ?_; first | (refine M.at_load 3 rfl ?_; first | (refine M.load_cell_m HM rfl 3 _ rfl 0 _ _ _ _ _ rfl rfl rfl (by kernel_rfl) (by kernel_rfl) ?_; go_simp)) | (refine M.at_load 33 rfl ?_; first | (refine M.load_row_m HM rfl 33 _ rfl 0 _ _ _ rfl rfl (by kernel_rfl) (by kernel_rfl) ?_; go_simp)) | (refine M.at_store 33 rfl ?_; first | (refine M.store_row_m HM rfl 33 _ _ rfl 0 _ _ _ _ rfl rfl rfl (by kernel_rfl) rfl (by simp [Value.oneCell']) ?_; clear HM; intro w_ HM; (try simp only [M.nrm] at HM); go_simp)) | (refine M.at_alloc 33 rfl ?_; first | (refine M.alloc_m HM rfl rfl 33 rfl (.agg #[(.int .i64 0), (.int .u64 0), (.bool false), (.bool false), (.bool false), (.bool false), (.int .i64 0)]) (by kernel_rfl) #[(.int .i64 0), (.int .u64 0), (.bool false), (.bool false), (.bool false), (.bool false), (.int .i64 0)] rfl ?_; clear HM; intro g_ w_ HM; go_simp)) | ((fail_if_success (refine M.lit_t rfl ?_)); (fail_if_success (refine M.lit_f rfl ?_)); refine M.split_guard rfl rfl ?_ ?_ <;> (intro hg_; simp only [hg_]; try simp only [M.hgs] at hg_)))
      | (refine Mc.at_cmp _ rfl ?_; refine Mc.cmp_m rfl _ rfl _ _ _ rfl _ _ _ rfl rfl _ rfl ?_ ?_ <;> (intro hg_; try simp only [M.hgs] at hg_; first | (exfalso; first | omega | (simp at hg_; done)) | (go_simp)))
      | ((fail_if_success (refine M.lit_t rfl ?_)); (fail_if_success (refine M.lit_f rfl ?_)); refine M.split_guard rfl rfl ?_ ?_ <;> (intro hg_; simp only [hg_]; try simp only [M.hgs] at hg_)))
    all_goals
      refine bodyPost_ret (Mv.res_ct HM rfl _ 0 _ _ _ rfl rfl (by kernel_rfl) (by kernel_rfl)) rfl ?_
      exact ⟨rfl, HM.none.to_below⟩
set_option maxRecDepth 100000 in
set_option maxHeartbeats 1000000 in
/-- A word that says nothing (Invalid). -/
theorem decode_inv (level x : Int) (h0 : 0 ≤ level) (h1 : level < 4)
    (CS : ∀ w, Calls Try.prog 31 #[.int .i64 level, .int .u64 x] w fun e w' => e = .returned dZ ∧ Below w.heap.size w w') (w : World) : Calls Try.prog 16 #[.int .i64 level, .int .u64 x] w fun e w' => e = .returned (.tuple #[dZ, .int .i64 0]) ∧ Below w.heap.size w w' := by
  unfold dZ at CS
  have HM := Mem.nil w
  go_enter Try.func16, Try.ntmps16
  go_wp2_with (first
    | (go_big_skip)
    | (go_at_call 31; (with_reducible refine (M.call_pure (CS) HM).mono ?_); clear HM; rintro e w_ ⟨rfl, HM⟩; dsimp only)
    | (refine M.at_mem rfl ?_; first | (refine M.at_load 3 rfl ?_; first | (refine M.load_cell_m HM rfl 3 _ rfl 0 _ _ _ _ _ rfl rfl rfl (by kernel_rfl) (by kernel_rfl) ?_; go_simp) | (refine M.load_cell_m HM rfl 3 _ rfl 1 _ _ _ _ _ rfl rfl rfl (by kernel_rfl) (by kernel_rfl) ?_; go_simp)) | (refine M.at_load 33 rfl ?_; first | (refine M.load_row_m HM rfl 33 _ rfl 0 _ _ _ rfl rfl (by kernel_rfl) (by kernel_rfl) ?_; go_simp) | (refine M.load_row_m HM rfl 33 _ rfl 1 _ _ _ rfl rfl (by kernel_rfl) (by kernel_rfl) ?_; go_simp)) | (refine M.at_store 33 rfl ?_; first | (refine M.store_row_m HM rfl 33 _ _ rfl 0 _ _ _ _ rfl rfl rfl (by kernel_rfl) rfl (by simp [Value.oneCell']) ?_; clear HM; intro w_ HM; (try simp only [M.nrm] at HM); go_simp) | (refine M.store_row_m HM rfl 33 _ _ rfl 1 _ _ _ _ rfl rfl rfl (by kernel_rfl) rfl (by simp [Value.oneCell']) ?_; clear HM; intro w_ HM; (try simp only [M.nrm] at HM); go_simp)) | (refine M.at_alloc 33 rfl ?_; first | (refine M.alloc_m HM rfl rfl 33 rfl (.agg #[(.int .i64 0), (.int .u64 0), (.bool false), (.bool false), (.bool false), (.bool false), (.int .i64 0)]) (by kernel_rfl) #[(.int .i64 0), (.int .u64 0), (.bool false), (.bool false), (.bool false), (.bool false), (.int .i64 0)] rfl ?_; clear HM; intro g_ w_ HM; go_simp)) | ((fail_if_success (refine M.lit_t rfl ?_)); (fail_if_success (refine M.lit_f rfl ?_)); refine M.split_guard rfl rfl ?_ ?_ <;> (intro hg_; simp only [hg_]; try simp only [M.hgs] at hg_)))
    | (refine Mc.at_cmp _ rfl ?_; refine Mc.cmp_m rfl _ rfl _ _ _ rfl _ _ _ rfl rfl _ rfl ?_ ?_ <;> (intro hg_; try simp only [M.hgs] at hg_; first | (exfalso; first | omega | (simp at hg_; done)) | (go_simp)))
    | ((fail_if_success (refine M.lit_t rfl ?_)); (fail_if_success (refine M.lit_f rfl ?_)); refine M.split_guard rfl rfl ?_ ?_ <;> (intro hg_; simp only [hg_]; try simp only [M.hgs] at hg_)))
  all_goals
    refine bodyPost_ret (Mv.res_ct HM rfl _ 1 _ _ _ rfl rfl (by kernel_rfl) (by kernel_rfl)) rfl ?_
    exact ⟨rfl, HM.none.to_below⟩
set_option maxRecDepth 100000 in
set_option maxHeartbeats 1000000 in
/-- A word that says something: it is taken if it is right and its own word. -/
theorem decode_said (level x kind out attr v : Int) (user write exec used rb : Bool) (h0 : 0 ≤ level) (h1 : level < 4) (hk : 1 ≤ kind)
    (CS : ∀ w, Calls Try.prog 31 #[.int .i64 level, .int .u64 x] w fun e w' => e = .returned (.agg #[.int .i64 kind, .int .u64 out, .bool user, .bool write, .bool exec, .bool used, .int .i64 attr]) ∧ Below w.heap.size w w')
    (CR : ∀ w, Calls Try.prog 32 #[.agg #[.int .i64 kind, .int .u64 out, .bool user, .bool write, .bool exec, .bool used, .int .i64 attr], .int .i64 level] w fun e w' => e = .returned (.bool rb) ∧ Below w.heap.size w w')
    (CW : rb = true → ∀ w, Calls Try.prog 33 #[.agg #[.int .i64 kind, .int .u64 out, .bool user, .bool write, .bool exec, .bool used, .int .i64 attr]] w fun e w' => e = .returned (.int .u64 v) ∧ Below w.heap.size w w') (w : World) :
    Calls Try.prog 16 #[.int .i64 level, .int .u64 x] w fun e w' => e = .returned (if rb = true ∧ v = x then .tuple #[.agg #[.int .i64 kind, .int .u64 out, .bool user, .bool write, .bool exec, .bool used, .int .i64 attr], .int .i64 0] else .tuple #[dZ, .int .i64 10]) ∧ Below w.heap.size w w' := by
  cases rb
  · rw [if_neg (by simp)]
    clear CW
    have HM := Mem.nil w
    go_enter Try.func16, Try.ntmps16
    go_wp2_with (first
      | (go_big_skip)
      | (go_at_call 31; (with_reducible refine (M.call_pure (CS) HM).mono ?_); clear HM; rintro e w_ ⟨rfl, HM⟩; dsimp only)
      | (go_at_call 32; (with_reducible refine (M.call_pure (CR) HM).mono ?_); clear HM; rintro e w_ ⟨rfl, HM⟩; dsimp only)
      | (refine M.at_mem rfl ?_; first | (refine M.at_load 3 rfl ?_; first | (refine M.load_cell_m HM rfl 3 _ rfl 0 _ _ _ _ _ rfl rfl rfl (by kernel_rfl) (by kernel_rfl) ?_; go_simp) | (refine M.load_cell_m HM rfl 3 _ rfl 1 _ _ _ _ _ rfl rfl rfl (by kernel_rfl) (by kernel_rfl) ?_; go_simp)) | (refine M.at_load 33 rfl ?_; first | (refine M.load_row_m HM rfl 33 _ rfl 0 _ _ _ rfl rfl (by kernel_rfl) (by kernel_rfl) ?_; go_simp) | (refine M.load_row_m HM rfl 33 _ rfl 1 _ _ _ rfl rfl (by kernel_rfl) (by kernel_rfl) ?_; go_simp)) | (refine M.at_store 33 rfl ?_; first | (refine M.store_row_m HM rfl 33 _ _ rfl 0 _ _ _ _ rfl rfl rfl (by kernel_rfl) rfl (by simp [Value.oneCell']) ?_; clear HM; intro w_ HM; (try simp only [M.nrm] at HM); go_simp) | (refine M.store_row_m HM rfl 33 _ _ rfl 1 _ _ _ _ rfl rfl rfl (by kernel_rfl) rfl (by simp [Value.oneCell']) ?_; clear HM; intro w_ HM; (try simp only [M.nrm] at HM); go_simp)) | (refine M.at_alloc 33 rfl ?_; first | (refine M.alloc_m HM rfl rfl 33 rfl (.agg #[(.int .i64 0), (.int .u64 0), (.bool false), (.bool false), (.bool false), (.bool false), (.int .i64 0)]) (by kernel_rfl) #[(.int .i64 0), (.int .u64 0), (.bool false), (.bool false), (.bool false), (.bool false), (.int .i64 0)] rfl ?_; clear HM; intro g_ w_ HM; go_simp)) | ((fail_if_success (refine M.lit_t rfl ?_)); (fail_if_success (refine M.lit_f rfl ?_)); refine M.split_guard rfl rfl ?_ ?_ <;> (intro hg_; simp only [hg_]; try simp only [M.hgs] at hg_)))
      | (refine Mc.at_cmp _ rfl ?_; refine Mc.cmp_m rfl _ rfl _ _ _ rfl _ _ _ rfl rfl _ rfl ?_ ?_ <;> (intro hg_; try simp only [M.hgs] at hg_; first | (exfalso; first | omega | (simp at hg_; done)) | (go_simp)))
      | ((fail_if_success (refine M.lit_t rfl ?_)); (fail_if_success (refine M.lit_f rfl ?_)); refine M.split_guard rfl rfl ?_ ?_ <;> (intro hg_; simp only [hg_]; try simp only [M.hgs] at hg_)))
    all_goals
      refine bodyPost_ret (Mv.res_ct HM rfl _ 1 _ _ _ rfl rfl (by kernel_rfl) (by kernel_rfl)) rfl ?_
      exact ⟨rfl, HM.none.to_below⟩
  · replace CW := CW rfl
    by_cases hv : v = x
    · subst hv
      rw [if_pos ⟨rfl, rfl⟩]
      have HM := Mem.nil w
      go_enter Try.func16, Try.ntmps16
      go_wp2_with (first
        | (go_big_skip)
        | (go_at_call 31; (with_reducible refine (M.call_pure (CS) HM).mono ?_); clear HM; rintro e w_ ⟨rfl, HM⟩; dsimp only)
        | (go_at_call 32; (with_reducible refine (M.call_pure (CR) HM).mono ?_); clear HM; rintro e w_ ⟨rfl, HM⟩; dsimp only)
        | (go_at_call 33; (with_reducible refine (M.call_pure (CW) HM).mono ?_); clear HM; rintro e w_ ⟨rfl, HM⟩; dsimp only)
        | (refine M.at_mem rfl ?_; first | (refine M.at_load 3 rfl ?_; first | (refine M.load_cell_m HM rfl 3 _ rfl 0 _ _ _ _ _ rfl rfl rfl (by kernel_rfl) (by kernel_rfl) ?_; go_simp) | (refine M.load_cell_m HM rfl 3 _ rfl 1 _ _ _ _ _ rfl rfl rfl (by kernel_rfl) (by kernel_rfl) ?_; go_simp)) | (refine M.at_load 33 rfl ?_; first | (refine M.load_row_m HM rfl 33 _ rfl 0 _ _ _ rfl rfl (by kernel_rfl) (by kernel_rfl) ?_; go_simp) | (refine M.load_row_m HM rfl 33 _ rfl 1 _ _ _ rfl rfl (by kernel_rfl) (by kernel_rfl) ?_; go_simp)) | (refine M.at_store 33 rfl ?_; first | (refine M.store_row_m HM rfl 33 _ _ rfl 0 _ _ _ _ rfl rfl rfl (by kernel_rfl) rfl (by simp [Value.oneCell']) ?_; clear HM; intro w_ HM; (try simp only [M.nrm] at HM); go_simp) | (refine M.store_row_m HM rfl 33 _ _ rfl 1 _ _ _ _ rfl rfl rfl (by kernel_rfl) rfl (by simp [Value.oneCell']) ?_; clear HM; intro w_ HM; (try simp only [M.nrm] at HM); go_simp)) | (refine M.at_alloc 33 rfl ?_; first | (refine M.alloc_m HM rfl rfl 33 rfl (.agg #[(.int .i64 0), (.int .u64 0), (.bool false), (.bool false), (.bool false), (.bool false), (.int .i64 0)]) (by kernel_rfl) #[(.int .i64 0), (.int .u64 0), (.bool false), (.bool false), (.bool false), (.bool false), (.int .i64 0)] rfl ?_; clear HM; intro g_ w_ HM; go_simp)) | ((fail_if_success (refine M.lit_t rfl ?_)); (fail_if_success (refine M.lit_f rfl ?_)); refine M.split_guard rfl rfl ?_ ?_ <;> (intro hg_; simp only [hg_]; try simp only [M.hgs] at hg_)))
        | (refine Mc.at_cmp _ rfl ?_; refine Mc.cmp_m rfl _ rfl _ _ _ rfl _ _ _ rfl rfl _ rfl ?_ ?_ <;> (intro hg_; try simp only [M.hgs] at hg_; first | (exfalso; first | omega | (simp at hg_; done)) | (go_simp)))
        | ((fail_if_success (refine M.lit_t rfl ?_)); (fail_if_success (refine M.lit_f rfl ?_)); refine M.split_guard rfl rfl ?_ ?_ <;> (intro hg_; simp only [hg_]; try simp only [M.hgs] at hg_)))
      all_goals
        refine bodyPost_ret (Mv.res_ct HM rfl _ 1 _ _ _ rfl rfl (by kernel_rfl) (by kernel_rfl)) rfl ?_
        exact ⟨rfl, HM.none.to_below⟩
    · rw [if_neg (fun h => hv h.2)]
      have HM := Mem.nil w
      go_enter Try.func16, Try.ntmps16
      go_wp2_with (first
        | (go_big_skip)
        | (go_at_call 31; (with_reducible refine (M.call_pure (CS) HM).mono ?_); clear HM; rintro e w_ ⟨rfl, HM⟩; dsimp only)
        | (go_at_call 32; (with_reducible refine (M.call_pure (CR) HM).mono ?_); clear HM; rintro e w_ ⟨rfl, HM⟩; dsimp only)
        | (go_at_call 33; (with_reducible refine (M.call_pure (CW) HM).mono ?_); clear HM; rintro e w_ ⟨rfl, HM⟩; dsimp only)
        | (refine M.at_mem rfl ?_; first | (refine M.at_load 3 rfl ?_; first | (refine M.load_cell_m HM rfl 3 _ rfl 0 _ _ _ _ _ rfl rfl rfl (by kernel_rfl) (by kernel_rfl) ?_; go_simp) | (refine M.load_cell_m HM rfl 3 _ rfl 1 _ _ _ _ _ rfl rfl rfl (by kernel_rfl) (by kernel_rfl) ?_; go_simp)) | (refine M.at_load 33 rfl ?_; first | (refine M.load_row_m HM rfl 33 _ rfl 0 _ _ _ rfl rfl (by kernel_rfl) (by kernel_rfl) ?_; go_simp) | (refine M.load_row_m HM rfl 33 _ rfl 1 _ _ _ rfl rfl (by kernel_rfl) (by kernel_rfl) ?_; go_simp)) | (refine M.at_store 33 rfl ?_; first | (refine M.store_row_m HM rfl 33 _ _ rfl 0 _ _ _ _ rfl rfl rfl (by kernel_rfl) rfl (by simp [Value.oneCell']) ?_; clear HM; intro w_ HM; (try simp only [M.nrm] at HM); go_simp) | (refine M.store_row_m HM rfl 33 _ _ rfl 1 _ _ _ _ rfl rfl rfl (by kernel_rfl) rfl (by simp [Value.oneCell']) ?_; clear HM; intro w_ HM; (try simp only [M.nrm] at HM); go_simp)) | (refine M.at_alloc 33 rfl ?_; first | (refine M.alloc_m HM rfl rfl 33 rfl (.agg #[(.int .i64 0), (.int .u64 0), (.bool false), (.bool false), (.bool false), (.bool false), (.int .i64 0)]) (by kernel_rfl) #[(.int .i64 0), (.int .u64 0), (.bool false), (.bool false), (.bool false), (.bool false), (.int .i64 0)] rfl ?_; clear HM; intro g_ w_ HM; go_simp)) | ((fail_if_success (refine M.lit_t rfl ?_)); (fail_if_success (refine M.lit_f rfl ?_)); refine M.split_guard rfl rfl ?_ ?_ <;> (intro hg_; simp only [hg_]; try simp only [M.hgs] at hg_)))
        | (refine Mc.at_cmp _ rfl ?_; refine Mc.cmp_m rfl _ rfl _ _ _ rfl _ _ _ rfl rfl _ rfl ?_ ?_ <;> (intro hg_; try simp only [M.hgs] at hg_; first | (exfalso; first | omega | (simp at hg_; done)) | (go_simp)))
        | ((fail_if_success (refine M.lit_t rfl ?_)); (fail_if_success (refine M.lit_f rfl ?_)); refine M.split_guard rfl rfl ?_ ?_ <;> (intro hg_; simp only [hg_]; try simp only [M.hgs] at hg_)))
      all_goals
        refine bodyPost_ret (Mv.res_ct HM rfl _ 1 _ _ _ rfl rfl (by kernel_rfl) (by kernel_rfl)) rfl ?_
        exact ⟨rfl, HM.none.to_below⟩
end Go.Proofs.Ytfnmdelkdombbaa.Dn
