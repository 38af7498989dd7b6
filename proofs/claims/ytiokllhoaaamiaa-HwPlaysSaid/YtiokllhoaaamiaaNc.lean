/- Layer 19's anchor, the law HwFair. -/
import Derived.Test.YtiokllhoaaamiaaProg
import Derived.Test.YtiokllhoaaamiaaNb
import Derived.Test.YtiokllhoaaamiaaMs
namespace Go.Proofs.Ytiokllhoaaamiaa.Nc
open Go.RowKit Go.Proofs.Ytiokllhoaaamiaa.G Go.Proofs.Ytiokllhoaaamiaa.B Go.Proofs.Ytiokllhoaaamiaa.M Go.Proofs.Ytiokllhoaaamiaa.Mv Go.Proofs.Ytiokllhoaaamiaa.Sm Go.Proofs.Ytiokllhoaaamiaa.Na Go.Proofs.Ytiokllhoaaamiaa.Nb
set_option linter.unusedVariables false
set_option linter.unusedSimpArgs false
set_option maxRecDepth 100000
/-- Who takes a number that is free, or the next victim's. -/
theorem take_zero (gB g n : Nat) (os : List Int) (vic v : Int) (i : Nat) (hn : os.length = n) (h1 : n ≤ 1000) (hv : 1 ≤ v ∧ v < 4096) (hf : idxI os v = -1) (hi : idxI os 0 = i) :
    Does Try.prog 12 #[.pointer (some ⟨gB, 0, none⟩), .int .i64 v] (bk gB g n os vic) fun r L => r = .tuple #[.int .i64 i, .int .i64 0, .int .i64 0] ∧ L = bk gB g n (os.set i v) vic := by
  have hr := idxI_range os 0
  have hg := idxI_get (os := os) (v := 0) (by omega)
  rw [hi] at hg hr
  exact take_new gB g n os vic vic v 0 i hn h1 hv (by omega) (by simpa using hg) (find_no gB g n os vic v hn h1 (.inl hf)) (free_zero gB g n os vic i hn h1 hi (by omega))
theorem take_vic (gB g n : Nat) (os : List Int) (vic' v x : Int) (i : Nat) (hn : os.length = n) (h1 : n ≤ 1000) (hv : 1 ≤ v ∧ v < 4096) (hf : idxI os v = -1) (hz : idxI os 0 = -1) (hi : i < n) (hx : os.getD i 0 = x) (hw : ((i : Int) + 1).tmod n = vic') :
    Does Try.prog 12 #[.pointer (some ⟨gB, 0, none⟩), .int .i64 v] (bk gB g n os i) fun r L => r = .tuple #[.int .i64 i, .int .i64 x, .int .i64 0] ∧ L = bk gB g n (os.set i v) vic' :=
  take_new gB g n os i vic' v x i hn h1 hv hi hx (find_no gB g n os i v hn h1 (.inl hf)) (free_vic gB g n os i vic' hn h1 hz (by omega) (by omega) hw)
set_option maxHeartbeats 2000000 in
theorem anchor_any (w : World) : Calls Try.prog 10 #[] w fun e w' => e = .returned (.bool true) ∧ Below w.heap.size w w' := by
  have T1 := fun gB g => take_zero gB g 2 [0, 0] 0 5 0 rfl (by decide) (by decide) (by decide) (by decide)
  have T2 := fun gB g => take_zero gB g 2 [5, 0] 0 6 1 rfl (by decide) (by decide) (by decide) (by decide)
  have T3 := fun gB g => take_vic gB g 2 [5, 6] 1 7 5 0 rfl (by decide) (by decide) (by decide) (by decide) (by decide) rfl (by decide)
  have T4 := fun gB g => take_vic gB g 2 [7, 6] 0 5 6 1 rfl (by decide) (by decide) (by decide) (by decide) (by decide) rfl (by decide)
  have CN : ∀ w, Calls Try.prog 11 #[.int .i64 2] w (Ans w [] fun v L => ∃ gB g, v = .tuple #[.pointer (some ⟨gB, 0, none⟩), .int .i64 0] ∧ L = [(gB, row #[.slice (some ⟨g, 0, none⟩) 2 2, .int .i64 0] 73), (g, row (ints [0, 0]) 3)]) := fun w => new_ok 2 (by decide) (by decide) w
  simp only [bk, List.set_cons_zero, List.set_cons_succ, List.replicate_succ, List.replicate_zero, Int.natCast_zero, Int.natCast_one] at T1 T2 T3 T4
  have HM := Mem.nil w
  go_enter Try.func10, Try.ntmps10
  go_wp2_with (first
    | (go_big_skip)
    | (go_at_call 11; (with_reducible refine (Go.Proofs.Ytiokllhoaaamiaa.Sm.new_call HM (CN _)).mono ?_); clear HM; rintro e w_ ⟨v_, L_, rfl, ⟨gB_, g_, rfl, rfl⟩, HM⟩; (try simp only [List.cons_append, List.nil_append, List.append_nil] at HM); dsimp only)
    | (refine Go.Proofs.Ytiokllhoaaamiaa.Sl.at_bslice 42 rfl ?_; refine Go.Proofs.Ytiokllhoaaamiaa.Sl.bslice_m HM rfl rfl 42 3 4 _ rfl (by kernel_rfl) #[.int .i64 5, .int .i64 6, .int .i64 7, .int .i64 5] (by kernel_rfl) ?_; clear HM; intro gl_ w_ HM; go_simp)
    | (refine wp_loop_rounds 6 ?_; refine Ms.rounds_mk ?_)
    | (refine Ms.rounds_mk ?_)
    | (refine Go.Proofs.Ytiokllhoaaamiaa.Sl.at_index 71 rfl ?_; refine Go.Proofs.Ytiokllhoaaamiaa.Sl.index_m rfl _ rfl 71 rfl 4 3 (by kernel_rfl) (by kernel_rfl) (by kernel_rfl) (by kernel_rfl) _ rfl .i64 _ rfl (by decide) (by decide) _ rfl ?_; go_simp)
    | (go_at_call 12; (with_reducible refine (Go.Proofs.Ytiokllhoaaamiaa.M.Does.call (T1 _ _) HM (Go.Proofs.Ytiokllhoaaamiaa.M.perm2 1 1 rfl rfl)).mono ?_); clear HM; rintro e w_ ⟨v_, L_, rfl, ⟨rfl, rfl⟩, HM⟩; (try simp only [List.set_cons_zero, List.set_cons_succ, List.setIfInBounds_toArray, List.eraseIdx_cons_zero, List.eraseIdx_cons_succ, List.cons_append, List.nil_append] at HM); dsimp only)
    | (go_at_call 12; (with_reducible refine (Go.Proofs.Ytiokllhoaaamiaa.M.Does.call (T2 _ _) HM (Go.Proofs.Ytiokllhoaaamiaa.M.perm2 0 0 rfl rfl)).mono ?_); clear HM; rintro e w_ ⟨v_, L_, rfl, ⟨rfl, rfl⟩, HM⟩; (try simp only [List.set_cons_zero, List.set_cons_succ, List.setIfInBounds_toArray, List.eraseIdx_cons_zero, List.eraseIdx_cons_succ, List.cons_append, List.nil_append] at HM); dsimp only)
    | (go_at_call 12; (with_reducible refine (Go.Proofs.Ytiokllhoaaamiaa.M.Does.call (T3 _ _) HM (Go.Proofs.Ytiokllhoaaamiaa.M.perm2 0 0 rfl rfl)).mono ?_); clear HM; rintro e w_ ⟨v_, L_, rfl, ⟨rfl, rfl⟩, HM⟩; (try simp only [List.set_cons_zero, List.set_cons_succ, List.setIfInBounds_toArray, List.eraseIdx_cons_zero, List.eraseIdx_cons_succ, List.cons_append, List.nil_append] at HM); dsimp only)
    | (go_at_call 12; (with_reducible refine (Go.Proofs.Ytiokllhoaaamiaa.M.Does.call (T4 _ _) HM (Go.Proofs.Ytiokllhoaaamiaa.M.perm2 0 0 rfl rfl)).mono ?_); clear HM; rintro e w_ ⟨v_, L_, rfl, ⟨rfl, rfl⟩, HM⟩; (try simp only [List.set_cons_zero, List.set_cons_succ, List.setIfInBounds_toArray, List.eraseIdx_cons_zero, List.eraseIdx_cons_succ, List.cons_append, List.nil_append] at HM); dsimp only)
    | (refine Go.Proofs.Ytiokllhoaaamiaa.M.at_mem rfl ?_; first | (refine Go.Proofs.Ytiokllhoaaamiaa.M.at_load 3 rfl ?_; first | (refine Go.Proofs.Ytiokllhoaaamiaa.M.load_cell_m HM rfl 3 _ rfl 0 _ _ _ _ _ rfl rfl rfl (by kernel_rfl) (by kernel_rfl) ?_; go_simp) | (refine Go.Proofs.Ytiokllhoaaamiaa.M.load_cell_m HM rfl 3 _ rfl 1 _ _ _ _ _ rfl rfl rfl (by kernel_rfl) (by kernel_rfl) ?_; go_simp) | (refine Go.Proofs.Ytiokllhoaaamiaa.M.load_cell_m HM rfl 3 _ rfl 2 _ _ _ _ _ rfl rfl rfl (by kernel_rfl) (by kernel_rfl) ?_; go_simp)) | ((fail_if_success (refine Go.Proofs.Ytiokllhoaaamiaa.M.lit_t rfl ?_)); (fail_if_success (refine Go.Proofs.Ytiokllhoaaamiaa.M.lit_f rfl ?_)); refine Go.Proofs.Ytiokllhoaaamiaa.M.split_guard rfl rfl ?_ ?_ <;> (intro hg_; simp only [hg_]; try simp only [decide_eq_true_eq, decide_eq_false_iff_not, Bool.and_eq_true, Bool.or_eq_true, Bool.and_eq_false_iff, Bool.or_eq_false_iff, Bool.not_eq_true', Bool.not_eq_false', beq_iff_eq, bne_iff_ne, beq_eq_false_iff_ne, bne_eq_false_iff_eq, Int.not_lt, Int.not_le, ne_eq] at hg_)))
    | (refine Go.Proofs.Ytiokllhoaaamiaa.Mc.at_cmp _ rfl ?_; refine Go.Proofs.Ytiokllhoaaamiaa.Mc.cmp_m rfl _ rfl _ _ _ rfl _ _ _ rfl rfl _ rfl ?_ ?_ <;> (intro hg_; try simp only [decide_eq_true_eq, decide_eq_false_iff_not, Bool.and_eq_true, Bool.or_eq_true, Bool.and_eq_false_iff, Bool.or_eq_false_iff, Bool.not_eq_true', Bool.not_eq_false', beq_iff_eq, bne_iff_ne, beq_eq_false_iff_ne, bne_eq_false_iff_eq, Int.not_lt, Int.not_le, ne_eq] at hg_; first | (exfalso; first | omega | (simp at hg_; done)) | go_simp))
    | ((fail_if_success (refine Go.Proofs.Ytiokllhoaaamiaa.M.lit_t rfl ?_)); (fail_if_success (refine Go.Proofs.Ytiokllhoaaamiaa.M.lit_f rfl ?_)); refine Go.Proofs.Ytiokllhoaaamiaa.M.split_guard rfl rfl ?_ ?_ <;> (intro hg_; simp only [hg_]; try simp only [decide_eq_true_eq, decide_eq_false_iff_not, Bool.and_eq_true, Bool.or_eq_true, Bool.and_eq_false_iff, Bool.or_eq_false_iff, Bool.not_eq_true', Bool.not_eq_false', beq_iff_eq, bne_iff_ne, beq_eq_false_iff_ne, bne_eq_false_iff_eq, Int.not_lt, Int.not_le, ne_eq] at hg_)))
  all_goals
    go_ret
    exact ⟨by first | rfl | simp, HM.none.to_below⟩
end Go.Proofs.Ytiokllhoaaamiaa.Nc
