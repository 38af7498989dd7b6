/- slices.Clone of words, msg.Parse: what each call answers. -/
import Derived.Test.YtiokllhoaaamiaaProg
import Derived.Test.YtiokllhoaaamiaaPd
import Derived.Test.YtiokllhoaaamiaaSm
import Derived.Lib.SliceRun
namespace Go.Proofs.Ytiokllhoaaamiaa.Pe
open Go.RowKit Go.Proofs.Ytiokllhoaaamiaa.G Go.Proofs.Ytiokllhoaaamiaa.B Go.Proofs.Ytiokllhoaaamiaa.M Go.Proofs.Ytiokllhoaaamiaa.Mv Go.Proofs.Ytiokllhoaaamiaa.Sm Go.Proofs.Ytiokllhoaaamiaa.Pa Go.Proofs.Ytiokllhoaaamiaa.Pb
set_option linter.unusedVariables false
set_option linter.unusedSimpArgs false
set_option maxRecDepth 100000
/-- A new slice of words, and its block. -/
def NewW (m : Nat) (xs : List Value) (v : Value) (L : Hp) : Prop := ∃ g cap cur, v = .slice (some ⟨g, 0, none⟩) m cap ∧ m ≤ cap ∧ cap ≤ maxLen ∧ cur.size = cap ∧ cur.toList.take m = xs ∧ L = [(g, row cur 31)]
set_option maxHeartbeats 1000000 in
theorem clone_any (p : Addr) (m c : Nat) (xs : List Value) (hx : xs.length = m) (hm : m ≤ 1000) (h1 : ∀ v ∈ xs, v.oneCell' = true) (w : World) (hc : ∀ j v, xs[j]? = some v → w.cell? (p.add j) = some v) :
    Calls Try.prog 39 #[.slice (some p) m c] w (Ans w [] (NewW m xs)) := by
  have q30 : ∀ (w : World) (a : Option Addr) (n c n' c' : Nat), (binOp .eql 30 (.slice a n c) (.slice none n' c')).run Try.prog w = .ok (.bool a.isNone) w := fun w a n c n' c' => Lib.run_eql_slice_nil w _ _ a n c n' c' Try.underlying30
  have HX := Lib.hid hx; have H1 := Lib.hid h1; have HC := Lib.hid hc; clear hx h1 hc
  have HM := Mem.nil w
  go_enter Try.func39, Try.ntmps39
  go_wp2_with (first
    | (refine Go.Proofs.Ytiokllhoaaamiaa.Sl.at_bslice 30 rfl ?_; refine Go.Proofs.Ytiokllhoaaamiaa.Sm.bslice0_m HM rfl rfl 30 31 rfl (by kernel_rfl) (by kernel_rfl) ?_; clear HM; intro g_ w_ HM; go_simp)
    | (refine Go.Proofs.Ytiokllhoaaamiaa.Sm.at_call_append rfl ?_; refine Go.Proofs.Ytiokllhoaaamiaa.Sm.append_m HM rfl rfl _ _ 30 31 rfl 1 8 (by kernel_rfl) (by kernel_rfl) (by decide) 0 _ 0 0 #[] rfl rfl (Nat.le_refl _) (by decide) rfl p m c rfl xs (by rw [HX.out]; simp) (fun u hu j v hj => mem_cell hu (HC.out j v hj) (by simp)) H1.out (by simp [maxLen]; omega) (by omega) m (by omega) ?_; clear HM; intro g_ cap_ cur_ w_ e1_ e2_ e3_ e4_ HM; go_simp)
    | ((fail_if_success (refine Go.Proofs.Ytiokllhoaaamiaa.M.lit_t rfl ?_)); (fail_if_success (refine Go.Proofs.Ytiokllhoaaamiaa.M.lit_f rfl ?_)); refine Go.Proofs.Ytiokllhoaaamiaa.M.split_guard rfl rfl ?_ ?_ <;> (intro hg_; simp only [hg_]; try simp only [decide_eq_true_eq, decide_eq_false_iff_not, Bool.and_eq_true, Bool.or_eq_true, Bool.and_eq_false_iff, Bool.or_eq_false_iff, Bool.not_eq_true', Bool.not_eq_false', beq_iff_eq, bne_iff_ne, beq_eq_false_iff_ne, bne_eq_false_iff_eq, Int.not_lt, Int.not_le, ne_eq] at hg_)))
  all_goals
    go_ret
    refine Ans.mk ?_ HM
    exact ⟨g_, cap_, cur_, rfl, e1_, e2_, by simpa using e3_, by simpa using e4_, rfl⟩
/-- What a message reads as. -/
def msgV (num label : Int) (args : Value) : Value := .agg #[.int .u64 num, .int .i64 label, args]
set_option maxHeartbeats 1000000 in
theorem parse_size (ao : Option Addr) (n c : Nat) (e : Int) (h : (16 < n ∧ e = 11) ∨ (n < 2 ∧ e = 22)) (hn : n ≤ 9223372036854775807) (w : World) :
    Calls Try.prog 14 #[.slice ao n c] w fun x w' => x = .returned (.tuple #[msgV 0 0 (.slice none 0 0), .int .i64 e]) ∧ Below w.heap.size w w' := by
  unfold msgV
  rcases h with ⟨h, rfl⟩ | ⟨h, rfl⟩
  all_goals
    have hz : (16 : Int) < n ∨ (n : Int) < 2 := by omega
    have HH := Lib.hid hz; clear hz
    have HM := Mem.nil w
    go_enter Try.func14, Try.ntmps14
    go_wp2_with (first
      | (go_big_skip)
      | (refine Go.Proofs.Ytiokllhoaaamiaa.M.at_mem rfl ?_; first | (refine Go.Proofs.Ytiokllhoaaamiaa.M.at_load 3 rfl ?_; first | (refine Go.Proofs.Ytiokllhoaaamiaa.M.load_cell_m HM rfl 3 _ rfl 0 _ _ _ _ _ rfl rfl rfl (by kernel_rfl) (by kernel_rfl) ?_; go_simp) | (refine Go.Proofs.Ytiokllhoaaamiaa.M.load_cell_m HM rfl 3 _ rfl 1 _ _ _ _ _ rfl rfl rfl (by kernel_rfl) (by kernel_rfl) ?_; go_simp)) | (refine Go.Proofs.Ytiokllhoaaamiaa.M.at_load 31 rfl ?_; first | (refine Go.Proofs.Ytiokllhoaaamiaa.M.load_cell_m HM rfl 31 _ rfl 0 _ _ _ _ _ rfl rfl rfl (by kernel_rfl) (by kernel_rfl) ?_; go_simp) | (refine Go.Proofs.Ytiokllhoaaamiaa.M.load_cell_m HM rfl 31 _ rfl 1 _ _ _ _ _ rfl rfl rfl (by kernel_rfl) (by kernel_rfl) ?_; go_simp)) | (refine Go.Proofs.Ytiokllhoaaamiaa.M.at_store 33 rfl ?_; first | (refine Go.Proofs.Ytiokllhoaaamiaa.M.store_row_m HM rfl 33 _ _ rfl 0 _ _ _ _ rfl rfl rfl (by kernel_rfl) rfl (by simp [Value.oneCell']) ?_; clear HM; intro w_ HM; (try simp only [List.set_cons_zero, List.set_cons_succ, List.setIfInBounds_toArray, List.eraseIdx_cons_zero, List.eraseIdx_cons_succ, List.cons_append, List.nil_append] at HM); go_simp) | (refine Go.Proofs.Ytiokllhoaaamiaa.M.store_row_m HM rfl 33 _ _ rfl 1 _ _ _ _ rfl rfl rfl (by kernel_rfl) rfl (by simp [Value.oneCell']) ?_; clear HM; intro w_ HM; (try simp only [List.set_cons_zero, List.set_cons_succ, List.setIfInBounds_toArray, List.eraseIdx_cons_zero, List.eraseIdx_cons_succ, List.cons_append, List.nil_append] at HM); go_simp)) | (refine Go.Proofs.Ytiokllhoaaamiaa.M.at_store 76 rfl ?_; first | (refine Go.Proofs.Ytiokllhoaaamiaa.M.store_row_m HM rfl 76 _ _ rfl 0 _ _ _ _ rfl rfl rfl (by kernel_rfl) rfl (by simp [Value.oneCell']) ?_; clear HM; intro w_ HM; (try simp only [List.set_cons_zero, List.set_cons_succ, List.setIfInBounds_toArray, List.eraseIdx_cons_zero, List.eraseIdx_cons_succ, List.cons_append, List.nil_append] at HM); go_simp) | (refine Go.Proofs.Ytiokllhoaaamiaa.M.store_row_m HM rfl 76 _ _ rfl 1 _ _ _ _ rfl rfl rfl (by kernel_rfl) rfl (by simp [Value.oneCell']) ?_; clear HM; intro w_ HM; (try simp only [List.set_cons_zero, List.set_cons_succ, List.setIfInBounds_toArray, List.eraseIdx_cons_zero, List.eraseIdx_cons_succ, List.cons_append, List.nil_append] at HM); go_simp)) | (refine Go.Proofs.Ytiokllhoaaamiaa.M.at_alloc 33 rfl ?_; first | (refine Go.Proofs.Ytiokllhoaaamiaa.M.alloc_m HM rfl rfl 33 rfl (.agg #[(.int .u64 0), (.int .i64 0), (.slice none 0 0)]) (by kernel_rfl) #[(.int .u64 0), (.int .i64 0), (.slice none 0 0)] rfl ?_; clear HM; intro g_ w_ HM; go_simp)) | (refine Go.Proofs.Ytiokllhoaaamiaa.M.at_alloc 76 rfl ?_; first | (refine Go.Proofs.Ytiokllhoaaamiaa.M.alloc_m HM rfl rfl 76 rfl (.agg #[(.string ⟨#[]⟩), (.int .i64 0), (.int .i64 0)]) (by kernel_rfl) #[(.string ⟨#[]⟩), (.int .i64 0), (.int .i64 0)] rfl ?_; clear HM; intro g_ w_ HM; go_simp)) | ((fail_if_success (refine Go.Proofs.Ytiokllhoaaamiaa.M.lit_t rfl ?_)); (fail_if_success (refine Go.Proofs.Ytiokllhoaaamiaa.M.lit_f rfl ?_)); refine Go.Proofs.Ytiokllhoaaamiaa.M.split_guard rfl rfl ?_ ?_ <;> (intro hg_; simp only [hg_]; try simp only [decide_eq_true_eq, decide_eq_false_iff_not, Bool.and_eq_true, Bool.or_eq_true, Bool.and_eq_false_iff, Bool.or_eq_false_iff, Bool.not_eq_true', Bool.not_eq_false', beq_iff_eq, bne_iff_ne, beq_eq_false_iff_ne, bne_eq_false_iff_eq, Int.not_lt, Int.not_le, ne_eq] at hg_)))
      | (refine Go.Proofs.Ytiokllhoaaamiaa.Mc.at_cmp _ rfl ?_; refine Go.Proofs.Ytiokllhoaaamiaa.Mc.cmp_m rfl _ rfl _ _ _ rfl _ _ _ rfl rfl _ rfl ?_ ?_ <;> (intro hg_; try simp only [decide_eq_true_eq, decide_eq_false_iff_not, Bool.and_eq_true, Bool.or_eq_true, Bool.and_eq_false_iff, Bool.or_eq_false_iff, Bool.not_eq_true', Bool.not_eq_false', beq_iff_eq, bne_iff_ne, beq_eq_false_iff_ne, bne_eq_false_iff_eq, Int.not_lt, Int.not_le, ne_eq] at hg_; first | (exfalso; first | omega | (simp at hg_; done)) | go_simp))
      | ((fail_if_success (refine Go.Proofs.Ytiokllhoaaamiaa.M.lit_t rfl ?_)); (fail_if_success (refine Go.Proofs.Ytiokllhoaaamiaa.M.lit_f rfl ?_)); refine Go.Proofs.Ytiokllhoaaamiaa.M.split_guard rfl rfl ?_ ?_ <;> (intro hg_; simp only [hg_]; try simp only [decide_eq_true_eq, decide_eq_false_iff_not, Bool.and_eq_true, Bool.or_eq_true, Bool.and_eq_false_iff, Bool.or_eq_false_iff, Bool.not_eq_true', Bool.not_eq_false', beq_iff_eq, bne_iff_ne, beq_eq_false_iff_ne, bne_eq_false_iff_eq, Int.not_lt, Int.not_le, ne_eq] at hg_)))
    all_goals
      first
      | (refine bodyPost_ret (res_ct HM rfl _ 0 _ _ _ rfl rfl (by kernel_rfl) (by kernel_rfl)) rfl ?_
         exact ⟨rfl, HM.none.to_below⟩)
      | (exfalso; omega)
set_option maxHeartbeats 1000000 in
/-- No such label. -/
theorem parse_label (a : Addr) (n c : Nat) (l : Int) (h2 : 2 ≤ n) (h16 : n ≤ 16) (hl : l < 1 ∨ 19 < l) (w : World) (hc : w.cell? (a.add 1) = some (.int .u64 l)) :
    Calls Try.prog 14 #[.slice (some a) n c] w fun x w' => x = .returned (.tuple #[msgV 0 0 (.slice none 0 0), .int .i64 24]) ∧ Below w.heap.size w w' := by
  unfold msgV
  have CF := fun w => find_no l hl w
  have HC := Lib.hid hc; clear hc
  have hz1 : (n : Int) ≤ 16 := by omega
  have hz2 : (2 : Int) ≤ n := by omega
  have HM := Mem.nil w
  go_enter Try.func14, Try.ntmps14
  go_wp2_with (first
    | (go_big_skip)
    | (refine Go.Proofs.Ytiokllhoaaamiaa.Sl.at_indexAddr 30 rfl ?_; refine Go.Proofs.Ytiokllhoaaamiaa.Sm.indexAddr_arg_m rfl _ rfl 30 rfl 31 (by kernel_rfl) 1 (by kernel_rfl) a n c rfl .i64 1 rfl (by omega) (by omega) 1 rfl ?_; go_simp)
    | (go_at_call 38; (with_reducible refine (Go.Proofs.Ytiokllhoaaamiaa.M.call_pure (CF) HM).mono ?_); clear HM; rintro e w_ ⟨rfl, HM⟩; dsimp only)
    | (refine Go.Proofs.Ytiokllhoaaamiaa.M.at_mem rfl ?_; first | (refine Go.Proofs.Ytiokllhoaaamiaa.M.at_load 3 rfl ?_; first | (refine Go.Proofs.Ytiokllhoaaamiaa.Sm.load_arg_m HM rfl 31 _ rfl (a.add 1) rfl _ HC.out (by simp) (by kernel_rfl) (by kernel_rfl) ?_; go_simp) | (refine Go.Proofs.Ytiokllhoaaamiaa.M.load_cell_m HM rfl 3 _ rfl 0 _ _ _ _ _ rfl rfl rfl (by kernel_rfl) (by kernel_rfl) ?_; go_simp) | (refine Go.Proofs.Ytiokllhoaaamiaa.M.load_cell_m HM rfl 3 _ rfl 1 _ _ _ _ _ rfl rfl rfl (by kernel_rfl) (by kernel_rfl) ?_; go_simp)) | (refine Go.Proofs.Ytiokllhoaaamiaa.M.at_load 31 rfl ?_; first | (refine Go.Proofs.Ytiokllhoaaamiaa.Sm.load_arg_m HM rfl 31 _ rfl (a.add 1) rfl _ HC.out (by simp) (by kernel_rfl) (by kernel_rfl) ?_; go_simp) | (refine Go.Proofs.Ytiokllhoaaamiaa.M.load_cell_m HM rfl 31 _ rfl 0 _ _ _ _ _ rfl rfl rfl (by kernel_rfl) (by kernel_rfl) ?_; go_simp) | (refine Go.Proofs.Ytiokllhoaaamiaa.M.load_cell_m HM rfl 31 _ rfl 1 _ _ _ _ _ rfl rfl rfl (by kernel_rfl) (by kernel_rfl) ?_; go_simp)) | (refine Go.Proofs.Ytiokllhoaaamiaa.M.at_store 33 rfl ?_; first | (refine Go.Proofs.Ytiokllhoaaamiaa.M.store_row_m HM rfl 33 _ _ rfl 0 _ _ _ _ rfl rfl rfl (by kernel_rfl) rfl (by simp [Value.oneCell']) ?_; clear HM; intro w_ HM; (try simp only [List.set_cons_zero, List.set_cons_succ, List.setIfInBounds_toArray, List.eraseIdx_cons_zero, List.eraseIdx_cons_succ, List.cons_append, List.nil_append] at HM); go_simp) | (refine Go.Proofs.Ytiokllhoaaamiaa.M.store_row_m HM rfl 33 _ _ rfl 1 _ _ _ _ rfl rfl rfl (by kernel_rfl) rfl (by simp [Value.oneCell']) ?_; clear HM; intro w_ HM; (try simp only [List.set_cons_zero, List.set_cons_succ, List.setIfInBounds_toArray, List.eraseIdx_cons_zero, List.eraseIdx_cons_succ, List.cons_append, List.nil_append] at HM); go_simp)) | (refine Go.Proofs.Ytiokllhoaaamiaa.M.at_store 76 rfl ?_; first | (refine Go.Proofs.Ytiokllhoaaamiaa.M.store_row_m HM rfl 76 _ _ rfl 0 _ _ _ _ rfl rfl rfl (by kernel_rfl) rfl (by simp [Value.oneCell']) ?_; clear HM; intro w_ HM; (try simp only [List.set_cons_zero, List.set_cons_succ, List.setIfInBounds_toArray, List.eraseIdx_cons_zero, List.eraseIdx_cons_succ, List.cons_append, List.nil_append] at HM); go_simp) | (refine Go.Proofs.Ytiokllhoaaamiaa.M.store_row_m HM rfl 76 _ _ rfl 1 _ _ _ _ rfl rfl rfl (by kernel_rfl) rfl (by simp [Value.oneCell']) ?_; clear HM; intro w_ HM; (try simp only [List.set_cons_zero, List.set_cons_succ, List.setIfInBounds_toArray, List.eraseIdx_cons_zero, List.eraseIdx_cons_succ, List.cons_append, List.nil_append] at HM); go_simp)) | (refine Go.Proofs.Ytiokllhoaaamiaa.M.at_alloc 33 rfl ?_; first | (refine Go.Proofs.Ytiokllhoaaamiaa.M.alloc_m HM rfl rfl 33 rfl (.agg #[(.int .u64 0), (.int .i64 0), (.slice none 0 0)]) (by kernel_rfl) #[(.int .u64 0), (.int .i64 0), (.slice none 0 0)] rfl ?_; clear HM; intro g_ w_ HM; go_simp)) | (refine Go.Proofs.Ytiokllhoaaamiaa.M.at_alloc 76 rfl ?_; first | (refine Go.Proofs.Ytiokllhoaaamiaa.M.alloc_m HM rfl rfl 76 rfl (.agg #[(.string ⟨#[]⟩), (.int .i64 0), (.int .i64 0)]) (by kernel_rfl) #[(.string ⟨#[]⟩), (.int .i64 0), (.int .i64 0)] rfl ?_; clear HM; intro g_ w_ HM; go_simp)) | ((fail_if_success (refine Go.Proofs.Ytiokllhoaaamiaa.M.lit_t rfl ?_)); (fail_if_success (refine Go.Proofs.Ytiokllhoaaamiaa.M.lit_f rfl ?_)); refine Go.Proofs.Ytiokllhoaaamiaa.M.split_guard rfl rfl ?_ ?_ <;> (intro hg_; simp only [hg_]; try simp only [decide_eq_true_eq, decide_eq_false_iff_not, Bool.and_eq_true, Bool.or_eq_true, Bool.and_eq_false_iff, Bool.or_eq_false_iff, Bool.not_eq_true', Bool.not_eq_false', beq_iff_eq, bne_iff_ne, beq_eq_false_iff_ne, bne_eq_false_iff_eq, Int.not_lt, Int.not_le, ne_eq] at hg_)))
    | (refine Go.Proofs.Ytiokllhoaaamiaa.Mc.at_cmp _ rfl ?_; refine Go.Proofs.Ytiokllhoaaamiaa.Mc.cmp_m rfl _ rfl _ _ _ rfl _ _ _ rfl rfl _ rfl ?_ ?_ <;> (intro hg_; try simp only [decide_eq_true_eq, decide_eq_false_iff_not, Bool.and_eq_true, Bool.or_eq_true, Bool.and_eq_false_iff, Bool.or_eq_false_iff, Bool.not_eq_true', Bool.not_eq_false', beq_iff_eq, bne_iff_ne, beq_eq_false_iff_ne, bne_eq_false_iff_eq, Int.not_lt, Int.not_le, ne_eq] at hg_; first | (exfalso; first | omega | (simp at hg_; done)) | go_simp))
    | ((fail_if_success (refine Go.Proofs.Ytiokllhoaaamiaa.M.lit_t rfl ?_)); (fail_if_success (refine Go.Proofs.Ytiokllhoaaamiaa.M.lit_f rfl ?_)); refine Go.Proofs.Ytiokllhoaaamiaa.M.split_guard rfl rfl ?_ ?_ <;> (intro hg_; simp only [hg_]; try simp only [decide_eq_true_eq, decide_eq_false_iff_not, Bool.and_eq_true, Bool.or_eq_true, Bool.and_eq_false_iff, Bool.or_eq_false_iff, Bool.not_eq_true', Bool.not_eq_false', beq_iff_eq, bne_iff_ne, beq_eq_false_iff_ne, bne_eq_false_iff_eq, Int.not_lt, Int.not_le, ne_eq] at hg_)))
  all_goals
    refine bodyPost_ret (res_ct HM rfl _ 1 _ _ _ rfl rfl (by kernel_rfl) (by kernel_rfl)) rfl ?_
    exact ⟨rfl, HM.none.to_below⟩
end Go.Proofs.Ytiokllhoaaamiaa.Pe
