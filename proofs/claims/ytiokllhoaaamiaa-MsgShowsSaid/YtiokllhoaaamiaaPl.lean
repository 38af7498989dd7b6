/- msg.Make, Words without arguments: what each call answers. -/
import Derived.Test.YtiokllhoaaamiaaProg
import Derived.Test.YtiokllhoaaamiaaPk
namespace Go.Proofs.Ytiokllhoaaamiaa.Pl
open Go.RowKit Go.Proofs.Ytiokllhoaaamiaa.G Go.Proofs.Ytiokllhoaaamiaa.B Go.Proofs.Ytiokllhoaaamiaa.M Go.Proofs.Ytiokllhoaaamiaa.Mv Go.Proofs.Ytiokllhoaaamiaa.Sm Go.Proofs.Ytiokllhoaaamiaa.Pa Go.Proofs.Ytiokllhoaaamiaa.Pb Go.Proofs.Ytiokllhoaaamiaa.Pc Go.Proofs.Ytiokllhoaaamiaa.Pe Go.Proofs.Ytiokllhoaaamiaa.Pf
set_option linter.unusedVariables false
set_option linter.unusedSimpArgs false
set_option maxRecDepth 100000
set_option maxHeartbeats 1000000 in
theorem make_label (num l : Int) (hl : l < 1 ∨ 19 < l) (hm : l ≤ 9223372036854775807) (ao : Option Addr) (n c : Nat) (w : World) :
    Calls Try.prog 32 #[.int .u64 num, .int .i64 l, .slice ao n c] w fun x w' => x = .returned (.tuple #[msgV 0 0 (.slice none 0 0), .int .i64 24]) ∧ Below w.heap.size w w' := by
  unfold msgV
  have CN := fun w => need_no l hl hm w
  have HM := Mem.nil w
  go_enter Try.func32, Try.ntmps32
  go_wp2_with (first
    | (go_big_skip)
    | (go_at_call 27; (with_reducible refine (Go.Proofs.Ytiokllhoaaamiaa.M.call_pure (CN) HM).mono ?_); clear HM; rintro e w_ ⟨rfl, HM⟩; dsimp only)
    | (refine Go.Proofs.Ytiokllhoaaamiaa.M.at_mem rfl ?_; first | (refine Go.Proofs.Ytiokllhoaaamiaa.M.at_store 33 rfl ?_; first | (refine Go.Proofs.Ytiokllhoaaamiaa.M.store_row_m HM rfl 33 _ _ rfl 0 _ _ _ _ rfl rfl rfl (by kernel_rfl) rfl (by simp [Value.oneCell']) ?_; clear HM; intro w_ HM; (try simp only [List.set_cons_zero, List.set_cons_succ, List.setIfInBounds_toArray, List.eraseIdx_cons_zero, List.eraseIdx_cons_succ, List.cons_append, List.nil_append] at HM); go_simp)) | (refine Go.Proofs.Ytiokllhoaaamiaa.M.at_alloc 33 rfl ?_; first | (refine Go.Proofs.Ytiokllhoaaamiaa.M.alloc_m HM rfl rfl 33 rfl (.agg #[(.int .u64 0), (.int .i64 0), (.slice none 0 0)]) (by kernel_rfl) #[(.int .u64 0), (.int .i64 0), (.slice none 0 0)] rfl ?_; clear HM; intro g_ w_ HM; go_simp)) | ((fail_if_success (refine Go.Proofs.Ytiokllhoaaamiaa.M.lit_t rfl ?_)); (fail_if_success (refine Go.Proofs.Ytiokllhoaaamiaa.M.lit_f rfl ?_)); refine Go.Proofs.Ytiokllhoaaamiaa.M.split_guard rfl rfl ?_ ?_ <;> (intro hg_; simp only [hg_]; try simp only [decide_eq_true_eq, decide_eq_false_iff_not, Bool.and_eq_true, Bool.or_eq_true, Bool.and_eq_false_iff, Bool.or_eq_false_iff, Bool.not_eq_true', Bool.not_eq_false', beq_iff_eq, bne_iff_ne, beq_eq_false_iff_ne, bne_eq_false_iff_eq, Int.not_lt, Int.not_le, ne_eq] at hg_)))
    | ((fail_if_success (refine Go.Proofs.Ytiokllhoaaamiaa.M.lit_t rfl ?_)); (fail_if_success (refine Go.Proofs.Ytiokllhoaaamiaa.M.lit_f rfl ?_)); refine Go.Proofs.Ytiokllhoaaamiaa.M.split_guard rfl rfl ?_ ?_ <;> (intro hg_; simp only [hg_]; try simp only [decide_eq_true_eq, decide_eq_false_iff_not, Bool.and_eq_true, Bool.or_eq_true, Bool.and_eq_false_iff, Bool.or_eq_false_iff, Bool.not_eq_true', Bool.not_eq_false', beq_iff_eq, bne_iff_ne, beq_eq_false_iff_ne, bne_eq_false_iff_eq, Int.not_lt, Int.not_le, ne_eq] at hg_)))
  all_goals
    refine bodyPost_ret (res_ct HM rfl _ 0 _ _ _ rfl rfl (by kernel_rfl) (by kernel_rfl)) rfl ?_
    exact ⟨rfl, HM.none.to_below⟩
set_option maxHeartbeats 1000000 in
theorem make_size (num : Int) (i : Nat) (hi : i < 19) (ao : Option Addr) (n c : Nat) (e : Int) (h : ((n : Int) < ar i ∧ e = 22) ∨ (ar i < (n : Int) ∧ e = 11)) (hn : n ≤ 9223372036854775807) (w : World) :
    Calls Try.prog 32 #[.int .u64 num, .int .i64 (i + 1), .slice ao n c] w fun x w' => x = .returned (.tuple #[msgV 0 0 (.slice none 0 0), .int .i64 e]) ∧ Below w.heap.size w w' := by
  unfold msgV
  have CN := fun w => need_ok i hi (i + 1) rfl w
  generalize kd i = kk at CN; generalize ar i = aa at CN h
  rcases h with ⟨h, rfl⟩ | ⟨h, rfl⟩
  all_goals
    have HM := Mem.nil w
    go_enter Try.func32, Try.ntmps32
    go_wp2_with (first
      | (go_big_skip)
      | (go_at_call 27; (with_reducible refine (Go.Proofs.Ytiokllhoaaamiaa.M.call_pure (CN) HM).mono ?_); clear HM; rintro e w_ ⟨rfl, HM⟩; dsimp only)
      | (refine Go.Proofs.Ytiokllhoaaamiaa.M.at_mem rfl ?_; first | (refine Go.Proofs.Ytiokllhoaaamiaa.M.at_store 33 rfl ?_; first | (refine Go.Proofs.Ytiokllhoaaamiaa.M.store_row_m HM rfl 33 _ _ rfl 0 _ _ _ _ rfl rfl rfl (by kernel_rfl) rfl (by simp [Value.oneCell']) ?_; clear HM; intro w_ HM; (try simp only [List.set_cons_zero, List.set_cons_succ, List.setIfInBounds_toArray, List.eraseIdx_cons_zero, List.eraseIdx_cons_succ, List.cons_append, List.nil_append] at HM); go_simp)) | (refine Go.Proofs.Ytiokllhoaaamiaa.M.at_alloc 33 rfl ?_; first | (refine Go.Proofs.Ytiokllhoaaamiaa.M.alloc_m HM rfl rfl 33 rfl (.agg #[(.int .u64 0), (.int .i64 0), (.slice none 0 0)]) (by kernel_rfl) #[(.int .u64 0), (.int .i64 0), (.slice none 0 0)] rfl ?_; clear HM; intro g_ w_ HM; go_simp)) | ((fail_if_success (refine Go.Proofs.Ytiokllhoaaamiaa.M.lit_t rfl ?_)); (fail_if_success (refine Go.Proofs.Ytiokllhoaaamiaa.M.lit_f rfl ?_)); refine Go.Proofs.Ytiokllhoaaamiaa.M.split_guard rfl rfl ?_ ?_ <;> (intro hg_; simp only [hg_]; try simp only [decide_eq_true_eq, decide_eq_false_iff_not, Bool.and_eq_true, Bool.or_eq_true, Bool.and_eq_false_iff, Bool.or_eq_false_iff, Bool.not_eq_true', Bool.not_eq_false', beq_iff_eq, bne_iff_ne, beq_eq_false_iff_ne, bne_eq_false_iff_eq, Int.not_lt, Int.not_le, ne_eq] at hg_)))
      | (refine Go.Proofs.Ytiokllhoaaamiaa.Mc.at_cmp _ rfl ?_; refine Go.Proofs.Ytiokllhoaaamiaa.Mc.cmp_m rfl _ rfl _ _ _ rfl _ _ _ rfl rfl _ rfl ?_ ?_ <;> (intro hg_; try simp only [decide_eq_true_eq, decide_eq_false_iff_not, Bool.and_eq_true, Bool.or_eq_true, Bool.and_eq_false_iff, Bool.or_eq_false_iff, Bool.not_eq_true', Bool.not_eq_false', beq_iff_eq, bne_iff_ne, beq_eq_false_iff_ne, bne_eq_false_iff_eq, Int.not_lt, Int.not_le, ne_eq] at hg_; first | (exfalso; first | omega | (simp at hg_; done)) | go_simp))
      | ((fail_if_success (refine Go.Proofs.Ytiokllhoaaamiaa.M.lit_t rfl ?_)); (fail_if_success (refine Go.Proofs.Ytiokllhoaaamiaa.M.lit_f rfl ?_)); refine Go.Proofs.Ytiokllhoaaamiaa.M.split_guard rfl rfl ?_ ?_ <;> (intro hg_; simp only [hg_]; try simp only [decide_eq_true_eq, decide_eq_false_iff_not, Bool.and_eq_true, Bool.or_eq_true, Bool.and_eq_false_iff, Bool.or_eq_false_iff, Bool.not_eq_true', Bool.not_eq_false', beq_iff_eq, bne_iff_ne, beq_eq_false_iff_ne, bne_eq_false_iff_eq, Int.not_lt, Int.not_le, ne_eq] at hg_)))
    all_goals
      refine bodyPost_ret (res_ct HM rfl _ 0 _ _ _ rfl rfl (by kernel_rfl) (by kernel_rfl)) rfl ?_
      exact ⟨rfl, HM.none.to_below⟩
set_option maxHeartbeats 1000000 in
theorem make_ok (num : Int) (i : Nat) (hi : i < 19) (a : Addr) (m c : Nat) (hm : (m : Int) = ar i) (xs : List Value) (hx : xs.length = m) (h1 : ∀ v ∈ xs, v.oneCell' = true) (w : World) (hc : ∀ j v, xs[j]? = some v → w.cell? (a.add j) = some v) :
    Calls Try.prog 32 #[.int .u64 num, .int .i64 (i + 1), .slice (some a) m c] w (Ans w [] (NewM num (i + 1) m xs)) := by
  have CN := fun w => need_ok i hi (i + 1) rfl w
  have har := ar_range i
  rw [← hm] at CN
  generalize kd i = kk at CN
  have CC : ∀ u, Mem w [] [] u → Calls Try.prog 39 #[.slice (some a) m c] u (Ans u [] (NewW m xs)) := fun u hu => clone_any a m c xs hx (by omega) h1 u (fun j v hj => mem_cell hu (hc j v hj) (by simp))
  clear hx h1 hc hm hi har
  have HM := Mem.nil w
  go_enter Try.func32, Try.ntmps32
  go_wp2_with (first
    | (go_big_skip)
    | (go_at_call 27; (with_reducible refine (Go.Proofs.Ytiokllhoaaamiaa.M.call_pure (CN) HM).mono ?_); clear HM; rintro e w_ ⟨rfl, HM⟩; dsimp only)
    | (go_at_call 39; (with_reducible refine (Go.Proofs.Ytiokllhoaaamiaa.Sm.new_call HM (CC _ (Go.Proofs.Ytiokllhoaaamiaa.M.Mem.none HM))).mono ?_); clear HM; rintro e w_ ⟨v_, L_, rfl, ⟨g_, cap_, cur_, rfl, e1_, e2_, e3_, e4_, rfl⟩, HM⟩; (try simp only [List.cons_append, List.nil_append, List.append_nil] at HM); dsimp only)
    | (refine Go.Proofs.Ytiokllhoaaamiaa.M.at_mem rfl ?_; first | (refine Go.Proofs.Ytiokllhoaaamiaa.M.at_store 33 rfl ?_; first | (refine Go.Proofs.Ytiokllhoaaamiaa.M.store_row_m HM rfl 33 _ _ rfl 0 _ _ _ _ rfl rfl rfl (by kernel_rfl) rfl (by simp [Value.oneCell']) ?_; clear HM; intro w_ HM; (try simp only [List.set_cons_zero, List.set_cons_succ, List.setIfInBounds_toArray, List.eraseIdx_cons_zero, List.eraseIdx_cons_succ, List.cons_append, List.nil_append] at HM); go_simp) | (refine Go.Proofs.Ytiokllhoaaamiaa.M.store_row_m HM rfl 33 _ _ rfl 1 _ _ _ _ rfl rfl rfl (by kernel_rfl) rfl (by simp [Value.oneCell']) ?_; clear HM; intro w_ HM; (try simp only [List.set_cons_zero, List.set_cons_succ, List.setIfInBounds_toArray, List.eraseIdx_cons_zero, List.eraseIdx_cons_succ, List.cons_append, List.nil_append] at HM); go_simp)) | (refine Go.Proofs.Ytiokllhoaaamiaa.M.at_alloc 33 rfl ?_; first | (refine Go.Proofs.Ytiokllhoaaamiaa.M.alloc_m HM rfl rfl 33 rfl (.agg #[(.int .u64 0), (.int .i64 0), (.slice none 0 0)]) (by kernel_rfl) #[(.int .u64 0), (.int .i64 0), (.slice none 0 0)] rfl ?_; clear HM; intro g_ w_ HM; go_simp)) | ((fail_if_success (refine Go.Proofs.Ytiokllhoaaamiaa.M.lit_t rfl ?_)); (fail_if_success (refine Go.Proofs.Ytiokllhoaaamiaa.M.lit_f rfl ?_)); refine Go.Proofs.Ytiokllhoaaamiaa.M.split_guard rfl rfl ?_ ?_ <;> (intro hg_; simp only [hg_]; try simp only [decide_eq_true_eq, decide_eq_false_iff_not, Bool.and_eq_true, Bool.or_eq_true, Bool.and_eq_false_iff, Bool.or_eq_false_iff, Bool.not_eq_true', Bool.not_eq_false', beq_iff_eq, bne_iff_ne, beq_eq_false_iff_ne, bne_eq_false_iff_eq, Int.not_lt, Int.not_le, ne_eq] at hg_)))
    | (refine Go.Proofs.Ytiokllhoaaamiaa.Mc.at_cmp _ rfl ?_; refine Go.Proofs.Ytiokllhoaaamiaa.Mc.cmp_m rfl _ rfl _ _ _ rfl _ _ _ rfl rfl _ rfl ?_ ?_ <;> (intro hg_; try simp only [decide_eq_true_eq, decide_eq_false_iff_not, Bool.and_eq_true, Bool.or_eq_true, Bool.and_eq_false_iff, Bool.or_eq_false_iff, Bool.not_eq_true', Bool.not_eq_false', beq_iff_eq, bne_iff_ne, beq_eq_false_iff_ne, bne_eq_false_iff_eq, Int.not_lt, Int.not_le, ne_eq] at hg_; first | (exfalso; first | omega | (simp at hg_; done)) | go_simp))
    | ((fail_if_success (refine Go.Proofs.Ytiokllhoaaamiaa.M.lit_t rfl ?_)); (fail_if_success (refine Go.Proofs.Ytiokllhoaaamiaa.M.lit_f rfl ?_)); refine Go.Proofs.Ytiokllhoaaamiaa.M.split_guard rfl rfl ?_ ?_ <;> (intro hg_; simp only [hg_]; try simp only [decide_eq_true_eq, decide_eq_false_iff_not, Bool.and_eq_true, Bool.or_eq_true, Bool.and_eq_false_iff, Bool.or_eq_false_iff, Bool.not_eq_true', Bool.not_eq_false', beq_iff_eq, bne_iff_ne, beq_eq_false_iff_ne, bne_eq_false_iff_eq, Int.not_lt, Int.not_le, ne_eq] at hg_)))
  all_goals
    refine bodyPost_ret (res_ct HM rfl _ 1 _ _ _ rfl rfl (by kernel_rfl) (by kernel_rfl)) rfl ?_
    refine Ans.mk ?_ (HM.take (A := [_]))
    exact ⟨g_, cap_, cur_, rfl, e1_, e2_, e3_, e4_, rfl⟩
set_option maxHeartbeats 1000000 in
theorem clone_nil (w : World) : Calls Try.prog 39 #[.slice none 0 0] w fun x w' => x = .returned (.slice none 0 0) ∧ Below w.heap.size w w' := by
  have q30 : ∀ (w : World) (a : Option Addr) (n c n' c' : Nat), (binOp .eql 30 (.slice a n c) (.slice none n' c')).run Try.prog w = .ok (.bool a.isNone) w := fun w a n c n' c' => Lib.run_eql_slice_nil w _ _ a n c n' c' Try.underlying30
  have HM := Mem.nil w
  go_enter Try.func39, Try.ntmps39
  go_wp2_with (first
    | ((fail_if_success (refine Go.Proofs.Ytiokllhoaaamiaa.M.lit_t rfl ?_)); (fail_if_success (refine Go.Proofs.Ytiokllhoaaamiaa.M.lit_f rfl ?_)); refine Go.Proofs.Ytiokllhoaaamiaa.M.split_guard rfl rfl ?_ ?_ <;> (intro hg_; simp only [hg_]; try simp only [decide_eq_true_eq, decide_eq_false_iff_not, Bool.and_eq_true, Bool.or_eq_true, Bool.and_eq_false_iff, Bool.or_eq_false_iff, Bool.not_eq_true', Bool.not_eq_false', beq_iff_eq, bne_iff_ne, beq_eq_false_iff_ne, bne_eq_false_iff_eq, Int.not_lt, Int.not_le, ne_eq] at hg_)))
  all_goals
    go_ret
    exact ⟨rfl, HM.none.to_below⟩
set_option maxHeartbeats 1000000 in
theorem make_nil (num : Int) (i : Nat) (hi : i < 19) (hm : ar i = 0) (w : World) :
    Calls Try.prog 32 #[.int .u64 num, .int .i64 (i + 1), .slice none 0 0] w fun x w' => x = .returned (.tuple #[msgV num (i + 1) (.slice none 0 0), .int .i64 0]) ∧ Below w.heap.size w w' := by
  unfold msgV
  have CN := fun w => need_ok i hi (i + 1) rfl w
  rw [hm] at CN
  generalize kd i = kk at CN
  have CC := clone_nil
  clear hm hi
  have HM := Mem.nil w
  go_enter Try.func32, Try.ntmps32
  go_wp2_with (first
    | (go_big_skip)
    | (go_at_call 27; (with_reducible refine (Go.Proofs.Ytiokllhoaaamiaa.M.call_pure (CN) HM).mono ?_); clear HM; rintro e w_ ⟨rfl, HM⟩; dsimp only)
    | (go_at_call 39; (with_reducible refine (Go.Proofs.Ytiokllhoaaamiaa.M.call_pure (CC) HM).mono ?_); clear HM; rintro e w_ ⟨rfl, HM⟩; dsimp only)
    | (refine Go.Proofs.Ytiokllhoaaamiaa.M.at_mem rfl ?_; first | (refine Go.Proofs.Ytiokllhoaaamiaa.M.at_store 33 rfl ?_; first | (refine Go.Proofs.Ytiokllhoaaamiaa.M.store_row_m HM rfl 33 _ _ rfl 0 _ _ _ _ rfl rfl rfl (by kernel_rfl) rfl (by simp [Value.oneCell']) ?_; clear HM; intro w_ HM; (try simp only [List.set_cons_zero, List.set_cons_succ, List.setIfInBounds_toArray, List.eraseIdx_cons_zero, List.eraseIdx_cons_succ, List.cons_append, List.nil_append] at HM); go_simp) | (refine Go.Proofs.Ytiokllhoaaamiaa.M.store_row_m HM rfl 33 _ _ rfl 1 _ _ _ _ rfl rfl rfl (by kernel_rfl) rfl (by simp [Value.oneCell']) ?_; clear HM; intro w_ HM; (try simp only [List.set_cons_zero, List.set_cons_succ, List.setIfInBounds_toArray, List.eraseIdx_cons_zero, List.eraseIdx_cons_succ, List.cons_append, List.nil_append] at HM); go_simp)) | (refine Go.Proofs.Ytiokllhoaaamiaa.M.at_alloc 33 rfl ?_; first | (refine Go.Proofs.Ytiokllhoaaamiaa.M.alloc_m HM rfl rfl 33 rfl (.agg #[(.int .u64 0), (.int .i64 0), (.slice none 0 0)]) (by kernel_rfl) #[(.int .u64 0), (.int .i64 0), (.slice none 0 0)] rfl ?_; clear HM; intro g_ w_ HM; go_simp)) | ((fail_if_success (refine Go.Proofs.Ytiokllhoaaamiaa.M.lit_t rfl ?_)); (fail_if_success (refine Go.Proofs.Ytiokllhoaaamiaa.M.lit_f rfl ?_)); refine Go.Proofs.Ytiokllhoaaamiaa.M.split_guard rfl rfl ?_ ?_ <;> (intro hg_; simp only [hg_]; try simp only [decide_eq_true_eq, decide_eq_false_iff_not, Bool.and_eq_true, Bool.or_eq_true, Bool.and_eq_false_iff, Bool.or_eq_false_iff, Bool.not_eq_true', Bool.not_eq_false', beq_iff_eq, bne_iff_ne, beq_eq_false_iff_ne, bne_eq_false_iff_eq, Int.not_lt, Int.not_le, ne_eq] at hg_)))
    | (refine Go.Proofs.Ytiokllhoaaamiaa.Mc.at_cmp _ rfl ?_; refine Go.Proofs.Ytiokllhoaaamiaa.Mc.cmp_m rfl _ rfl _ _ _ rfl _ _ _ rfl rfl _ rfl ?_ ?_ <;> (intro hg_; try simp only [decide_eq_true_eq, decide_eq_false_iff_not, Bool.and_eq_true, Bool.or_eq_true, Bool.and_eq_false_iff, Bool.or_eq_false_iff, Bool.not_eq_true', Bool.not_eq_false', beq_iff_eq, bne_iff_ne, beq_eq_false_iff_ne, bne_eq_false_iff_eq, Int.not_lt, Int.not_le, ne_eq] at hg_; first | (exfalso; first | omega | (simp at hg_; done)) | go_simp))
    | ((fail_if_success (refine Go.Proofs.Ytiokllhoaaamiaa.M.lit_t rfl ?_)); (fail_if_success (refine Go.Proofs.Ytiokllhoaaamiaa.M.lit_f rfl ?_)); refine Go.Proofs.Ytiokllhoaaamiaa.M.split_guard rfl rfl ?_ ?_ <;> (intro hg_; simp only [hg_]; try simp only [decide_eq_true_eq, decide_eq_false_iff_not, Bool.and_eq_true, Bool.or_eq_true, Bool.and_eq_false_iff, Bool.or_eq_false_iff, Bool.not_eq_true', Bool.not_eq_false', beq_iff_eq, bne_iff_ne, beq_eq_false_iff_ne, bne_eq_false_iff_eq, Int.not_lt, Int.not_le, ne_eq] at hg_)))
  all_goals
    refine bodyPost_ret (res_ct HM rfl _ 0 _ _ _ rfl rfl (by kernel_rfl) (by kernel_rfl)) rfl ?_
    exact ⟨rfl, HM.none.to_below⟩
set_option maxHeartbeats 1000000 in
theorem words_nil (num l : Int) (l0 : 0 ≤ l) (l1 : l ≤ 9223372036854775807) (w : World) :
    Calls Try.prog 17 #[msgV num l (.slice none 0 0)] w (Ans w [] (NewW 2 [.int .u64 num, .int .u64 l])) := by
  unfold msgV
  have hl : IntKind.u64.wrap l = l := u64_wrap l l0 (by omega)
  have HM := Mem.nil w
  go_enter Try.func17, Try.ntmps17
  go_wp2_with (first
    | (refine Go.Proofs.Ytiokllhoaaamiaa.Sl.at_bslice 30 rfl ?_; refine Go.Proofs.Ytiokllhoaaamiaa.Sl.bslice_m HM rfl rfl 30 31 2 _ rfl (by kernel_rfl) #[.int .u64 num, .int .u64 l] (by kernel_rfl) ?_; clear HM; intro g_ w_ HM; go_simp)
    | (refine Go.Proofs.Ytiokllhoaaamiaa.Sm.at_call_append rfl ?_; refine Go.Proofs.Ytiokllhoaaamiaa.Sm.append_none_m rfl rfl _ _ 30 31 rfl 1 (by kernel_rfl) (by kernel_rfl) _ _ _ rfl (by decide) rfl ?_; go_simp)
    | (refine Go.Proofs.Ytiokllhoaaamiaa.M.at_mem rfl ?_; first | (refine Go.Proofs.Ytiokllhoaaamiaa.M.at_load 3 rfl ?_; first | (refine Go.Proofs.Ytiokllhoaaamiaa.M.load_cell_m HM rfl 3 _ rfl 0 _ _ _ _ _ rfl rfl rfl (by kernel_rfl) (by kernel_rfl) ?_; go_simp) | (refine Go.Proofs.Ytiokllhoaaamiaa.M.load_cell_m HM rfl 3 _ rfl 1 _ _ _ _ _ rfl rfl rfl (by kernel_rfl) (by kernel_rfl) ?_; go_simp)) | (refine Go.Proofs.Ytiokllhoaaamiaa.M.at_load 30 rfl ?_; first | (refine Go.Proofs.Ytiokllhoaaamiaa.M.load_cell_m HM rfl 30 _ rfl 0 _ _ _ _ _ rfl rfl rfl (by kernel_rfl) (by kernel_rfl) ?_; go_simp) | (refine Go.Proofs.Ytiokllhoaaamiaa.M.load_cell_m HM rfl 30 _ rfl 1 _ _ _ _ _ rfl rfl rfl (by kernel_rfl) (by kernel_rfl) ?_; go_simp)) | (refine Go.Proofs.Ytiokllhoaaamiaa.M.at_load 31 rfl ?_; first | (refine Go.Proofs.Ytiokllhoaaamiaa.M.load_cell_m HM rfl 31 _ rfl 0 _ _ _ _ _ rfl rfl rfl (by kernel_rfl) (by kernel_rfl) ?_; go_simp) | (refine Go.Proofs.Ytiokllhoaaamiaa.M.load_cell_m HM rfl 31 _ rfl 1 _ _ _ _ _ rfl rfl rfl (by kernel_rfl) (by kernel_rfl) ?_; go_simp)) | (refine Go.Proofs.Ytiokllhoaaamiaa.M.at_box 33 rfl ?_; first | (refine Go.Proofs.Ytiokllhoaaamiaa.M.box_m HM rfl rfl 33 _ rfl _ rfl ?_; clear HM; intro g_ w_ HM; go_simp)) | ((fail_if_success (refine Go.Proofs.Ytiokllhoaaamiaa.M.lit_t rfl ?_)); (fail_if_success (refine Go.Proofs.Ytiokllhoaaamiaa.M.lit_f rfl ?_)); refine Go.Proofs.Ytiokllhoaaamiaa.M.split_guard rfl rfl ?_ ?_ <;> (intro hg_; simp only [hg_]; try simp only [decide_eq_true_eq, decide_eq_false_iff_not, Bool.and_eq_true, Bool.or_eq_true, Bool.and_eq_false_iff, Bool.or_eq_false_iff, Bool.not_eq_true', Bool.not_eq_false', beq_iff_eq, bne_iff_ne, beq_eq_false_iff_ne, bne_eq_false_iff_eq, Int.not_lt, Int.not_le, ne_eq] at hg_)))
    | ((fail_if_success (refine Go.Proofs.Ytiokllhoaaamiaa.M.lit_t rfl ?_)); (fail_if_success (refine Go.Proofs.Ytiokllhoaaamiaa.M.lit_f rfl ?_)); refine Go.Proofs.Ytiokllhoaaamiaa.M.split_guard rfl rfl ?_ ?_ <;> (intro hg_; simp only [hg_]; try simp only [decide_eq_true_eq, decide_eq_false_iff_not, Bool.and_eq_true, Bool.or_eq_true, Bool.and_eq_false_iff, Bool.or_eq_false_iff, Bool.not_eq_true', Bool.not_eq_false', beq_iff_eq, bne_iff_ne, beq_eq_false_iff_ne, bne_eq_false_iff_eq, Int.not_lt, Int.not_le, ne_eq] at hg_)))
  all_goals
    go_ret
    refine Ans.mk ?_ (HM.take (A := [_]))
    exact ⟨_, _, _, rfl, by decide, by decide, rfl, rfl, rfl⟩
end Go.Proofs.Ytiokllhoaaamiaa.Pl
