/- desc.said: what each call answers. -/
import Derived.Test.YtfnmdelkdombbaaProg
import Derived.Test.YtfnmdelkdombbaaDl
namespace Go.Proofs.Ytfnmdelkdombbaa.Do
open Go.RowKit Go.Proofs.Ytfnmdelkdombbaa.G Go.Proofs.Ytfnmdelkdombbaa.B Go.Proofs.Ytfnmdelkdombbaa.M Go.Proofs.Ytfnmdelkdombbaa.Dr Go.Proofs.Ytfnmdelkdombbaa.Ds Go.Proofs.Ytfnmdelkdombbaa.Dk Go.Proofs.Ytfnmdelkdombbaa.Dl Go.Proofs.Ytfnmdelkdombbaa.Mv
set_option linter.unusedVariables false
set_option linter.unusedSimpArgs false
set_option maxRecDepth 100000 in
set_option maxHeartbeats 2000000 in
theorem said_any (level x g a b1 b2 : Int) (c6 c7 c10 c54 : Int) (post : Value → Prop) (g0 : 0 ≤ g) (g1 : g < 68719476736) (a0 : 0 ≤ a) (a7 : a ≤ 7)
    (CG : ∀ w, Calls Try.prog 47 #[.agg #[.int .i64 12, .int .i64 36], .int .u64 x] w fun e w' => e = .returned (.int .u64 g) ∧ Below w.heap.size w w')
    (CA : ∀ w, Calls Try.prog 47 #[.agg #[.int .i64 2, .int .i64 3], .int .u64 x] w fun e w' => e = .returned (.int .u64 a) ∧ Below w.heap.size w w')
    (e1 : Go.bits .and .u64 x 1 = b1) (e2 : Go.bits .and .u64 x 2 = b2) (e6 : Go.bits .and .u64 x 64 = c6) (e7 : Go.bits .and .u64 x 128 = c7) (e10 : Go.bits .and .u64 x 1024 = c10) (e54 : Go.bits .and .u64 x 18014398509481984 = c54)
    (P0 : b1 = 0 → post (.agg #[.int .i64 0, .int .u64 0, .bool false, .bool false, .bool false, .bool false, .int .i64 0]))
    (P1 : ¬ b1 = 0 → ¬ b2 = 0 → level < 3 → post (.agg #[.int .i64 1, .int .u64 (g * 4096), .bool false, .bool false, .bool false, .bool false, .int .i64 0]))
    (P2 : ¬ b1 = 0 → b2 = 0 → post (.agg #[.int .i64 2, .int .u64 (g * 4096), .bool (c6 != 0), .bool (c7 == 0), .bool (c54 == 0), .bool (c10 != 0), .int .i64 a]))
    (P3 : ¬ b1 = 0 → ¬ b2 = 0 → 3 ≤ level → post (.agg #[.int .i64 3, .int .u64 (g * 4096), .bool (c6 != 0), .bool (c7 == 0), .bool (c54 == 0), .bool (c10 != 0), .int .i64 a])) (w : World) :
    Calls Try.prog 31 #[.int .i64 level, .int .u64 x] w fun e w' => ∃ v, e = .returned v ∧ post v ∧ Mem w [] [] w' := by
  have B6 : ∀ w, Calls Try.prog 48 #[.int .i64 6, .bool true] w fun e w' => e = .returned (.int .u64 64) ∧ Below w.heap.size w w' := fun w => bit_any 6 (by decide) true 64 rfl w
  have B7 : ∀ w, Calls Try.prog 48 #[.int .i64 7, .bool true] w fun e w' => e = .returned (.int .u64 128) ∧ Below w.heap.size w w' := fun w => bit_any 7 (by decide) true 128 rfl w
  have B10 : ∀ w, Calls Try.prog 48 #[.int .i64 10, .bool true] w fun e w' => e = .returned (.int .u64 1024) ∧ Below w.heap.size w w' := fun w => bit_any 10 (by decide) true 1024 rfl w
  have B54 : ∀ w, Calls Try.prog 48 #[.int .i64 54, .bool true] w fun e w' => e = .returned (.int .u64 18014398509481984) ∧ Below w.heap.size w w' := fun w => bit_any 54 (by decide) true 18014398509481984 rfl w
  have CT := attr_any
  have HP0 := Lib.hid P0; have HP1 := Lib.hid P1; have HP2 := Lib.hid P2; have HP3 := Lib.hid P3
  clear P0 P1 P2 P3
  have HM := Mem.nil w
  go_enter Try.func31, Try.ntmps31
  go_wp2_with (first
    | (go_big_skip)
    | (go_at_call 47; (with_reducible refine (M.call_pure (CG) HM).mono ?_); clear HM; rintro e w_ ⟨rfl, HM⟩; dsimp only)
    | (go_at_call 47; (with_reducible refine (M.call_pure (CA) HM).mono ?_); clear HM; rintro e w_ ⟨rfl, HM⟩; dsimp only)
    | (go_at_call 48; (with_reducible refine (M.call_pure (B6) HM).mono ?_); clear HM; rintro e w_ ⟨rfl, HM⟩; dsimp only)
    | (go_at_call 48; (with_reducible refine (M.call_pure (B7) HM).mono ?_); clear HM; rintro e w_ ⟨rfl, HM⟩; dsimp only)
    | (go_at_call 48; (with_reducible refine (M.call_pure (B10) HM).mono ?_); clear HM; rintro e w_ ⟨rfl, HM⟩; dsimp only)
    | (go_at_call 48; (with_reducible refine (M.call_pure (B54) HM).mono ?_); clear HM; rintro e w_ ⟨rfl, HM⟩; dsimp only)
    | (go_at_call 49; (with_reducible refine (M.call_pure (CT) HM).mono ?_); clear HM; rintro e w_ ⟨rfl, HM⟩; dsimp only)
    | (refine M.at_mem rfl ?_; first | (refine M.at_load 33 rfl ?_; first | (refine M.load_row_m HM rfl 33 _ rfl 0 _ _ _ rfl rfl (by kernel_rfl) (by kernel_rfl) ?_; go_simp) | (refine M.load_row_m HM rfl 33 _ rfl 1 _ _ _ rfl rfl (by kernel_rfl) (by kernel_rfl) ?_; go_simp)) | (refine M.at_store 3 rfl ?_; first | (refine M.store_cell_m HM rfl 3 _ _ rfl 0 _ _ _ _ _ rfl rfl rfl (by kernel_rfl) rfl (by simp) ?_; clear HM; intro w_ HM; (try simp only [M.nrm] at HM); go_simp) | (refine M.store_cell_m HM rfl 3 _ _ rfl 1 _ _ _ _ _ rfl rfl rfl (by kernel_rfl) rfl (by simp) ?_; clear HM; intro w_ HM; (try simp only [M.nrm] at HM); go_simp)) | (refine M.at_store 33 rfl ?_; first | (refine M.store_row_m HM rfl 33 _ _ rfl 0 _ _ _ _ rfl rfl rfl (by kernel_rfl) rfl (by simp [Value.oneCell']) ?_; clear HM; intro w_ HM; (try simp only [M.nrm] at HM); go_simp) | (refine M.store_row_m HM rfl 33 _ _ rfl 1 _ _ _ _ rfl rfl rfl (by kernel_rfl) rfl (by simp [Value.oneCell']) ?_; clear HM; intro w_ HM; (try simp only [M.nrm] at HM); go_simp)) | (refine M.at_alloc 33 rfl ?_; first | (refine M.alloc_m HM rfl rfl 33 rfl (.agg #[(.int .i64 0), (.int .u64 0), (.bool false), (.bool false), (.bool false), (.bool false), (.int .i64 0)]) (by kernel_rfl) #[(.int .i64 0), (.int .u64 0), (.bool false), (.bool false), (.bool false), (.bool false), (.int .i64 0)] rfl ?_; clear HM; intro g_ w_ HM; go_simp)) | ((fail_if_success (refine M.lit_t rfl ?_)); (fail_if_success (refine M.lit_f rfl ?_)); refine M.split_guard rfl rfl ?_ ?_ <;> (intro hg_; simp only [hg_]; try simp only [M.hgs] at hg_)))
    | ((fail_if_success (refine M.lit_t rfl ?_)); (fail_if_success (refine M.lit_f rfl ?_)); refine M.split_guard rfl rfl ?_ ?_ <;> (intro hg_; simp only [hg_]; try simp only [M.hgs] at hg_)))
  all_goals
    refine bodyPost_ret (res_c HM rfl _ 1 _ _ _ rfl rfl (by kernel_rfl) (by kernel_rfl)) rfl ?_
    refine ⟨_, rfl, ?_, HM.none⟩
    subst e1 e2 e6 e7 e10 e54
    have Q0 := HP0.out; have Q1 := HP1.out; have Q2 := HP2.out; have Q3 := HP3.out
    clear HM HP0 HP1 HP2 HP3 CG CA B6 B7 B10 B54 CT
    first
    | exact Q0 (by simp_all)
    | exact Q1 (by simp_all) (by simp_all) (by first | omega | simp_all)
    | exact Q2 (by simp_all) (by simp_all)
    | exact Q3 (by simp_all) (by simp_all) (by first | omega | (simp_all; done) | (simp_all; omega))
end Go.Proofs.Ytfnmdelkdombbaa.Do
