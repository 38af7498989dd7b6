/- msg.fields and Fields: what each call answers. -/
import Derived.Test.YtiokllhoaaamiaaProg
import Derived.Test.YtiokllhoaaamiaaPx
import Derived.Test.YtiokllhoaaamiaaPi
namespace Go.Proofs.Ytiokllhoaaamiaa.Pk
open Go.RowKit Go.Proofs.Ytiokllhoaaamiaa.G Go.Proofs.Ytiokllhoaaamiaa.B Go.Proofs.Ytiokllhoaaamiaa.M Go.Proofs.Ytiokllhoaaamiaa.Mv Go.Proofs.Ytiokllhoaaamiaa.Sm Go.Proofs.Ytiokllhoaaamiaa.Pa Go.Proofs.Ytiokllhoaaamiaa.Px
set_option linter.unusedVariables false
set_option linter.unusedSimpArgs false
set_option maxRecDepth 100000
/-- A slice of names, and its block. -/
def NewF (xs : List Value) (v : Value) (L : Hp) : Prop := (xs = [] ∧ v = .slice none 0 0 ∧ L = []) ∨ ∃ g cap cur, v = .slice (some ⟨g, 0, none⟩) xs.length cap ∧ xs.length ≤ cap ∧ cap ≤ maxLen ∧ cur.size = cap ∧ cur.toList.take xs.length = xs ∧ L = [(g, row cur 9)]
set_option maxHeartbeats 1000000 in
theorem fields_1 (w : World) : Calls Try.prog 46 #[.int .i64 1] w (Ans w [] (NewF (fnV 0))) := by
  have HM := Mem.nil w
  go_enter Try.func46, Try.ntmps46
  go_wp2_with (first
    | (refine Go.Proofs.Ytiokllhoaaamiaa.Sl.at_bslice 64 (p := #[(0, Operand.const (Value.string ⟨#[107, 105, 110, 100]⟩)), (1, Operand.const (Value.string ⟨#[98, 105, 116, 115]⟩)), (2, Operand.const (Value.string ⟨#[114, 111, 111, 116]⟩)), (3, Operand.const (Value.string ⟨#[105, 110, 100, 101, 120]⟩)), (4, Operand.const (Value.string ⟨#[100, 101, 112, 116, 104]⟩)), (5, Operand.const (Value.string ⟨#[111, 102, 102, 115, 101, 116]⟩)), (6, Operand.const (Value.string ⟨#[109, 97, 110, 121]⟩))]) rfl ?_; refine Go.Proofs.Ytiokllhoaaamiaa.Sl.bslice_m HM rfl rfl 64 9 7 _ rfl (by kernel_rfl) #[.string ⟨#[107, 105, 110, 100]⟩, .string ⟨#[98, 105, 116, 115]⟩, .string ⟨#[114, 111, 111, 116]⟩, .string ⟨#[105, 110, 100, 101, 120]⟩, .string ⟨#[100, 101, 112, 116, 104]⟩, .string ⟨#[111, 102, 102, 115, 101, 116]⟩, .string ⟨#[109, 97, 110, 121]⟩] (by kernel_rfl) ?_; clear HM; intro g_ w_ HM; go_simp)
    | ((fail_if_success (refine Go.Proofs.Ytiokllhoaaamiaa.M.lit_t rfl ?_)); (fail_if_success (refine Go.Proofs.Ytiokllhoaaamiaa.M.lit_f rfl ?_)); refine Go.Proofs.Ytiokllhoaaamiaa.M.split_guard rfl rfl ?_ ?_ <;> (intro hg_; simp only [hg_]; try simp only [decide_eq_true_eq, decide_eq_false_iff_not, Bool.and_eq_true, Bool.or_eq_true, Bool.and_eq_false_iff, Bool.or_eq_false_iff, Bool.not_eq_true', Bool.not_eq_false', beq_iff_eq, bne_iff_ne, beq_eq_false_iff_ne, bne_eq_false_iff_eq, Int.not_lt, Int.not_le, ne_eq] at hg_)))
  all_goals
    go_ret
    refine Ans.mk (.inr ⟨_, _, _, rfl, by decide, by decide, rfl, rfl, rfl⟩) (HM.take (A := [_]))
set_option maxHeartbeats 1000000 in
theorem fields_2 (w : World) : Calls Try.prog 46 #[.int .i64 2] w (Ans w [] (NewF (fnV 1))) := by
  have HM := Mem.nil w
  go_enter Try.func46, Try.ntmps46
  go_wp2_with (first
    | (refine Go.Proofs.Ytiokllhoaaamiaa.Sl.at_bslice 64 (p := #[(0, Operand.const (Value.string ⟨#[116, 111]⟩)), (1, Operand.const (Value.string ⟨#[100, 101, 112, 116, 104]⟩)), (2, Operand.const (Value.string ⟨#[114, 111, 111, 116]⟩)), (3, Operand.const (Value.string ⟨#[102, 114, 111, 109]⟩)), (4, Operand.const (Value.string ⟨#[100, 101, 112, 116, 104]⟩))]) rfl ?_; refine Go.Proofs.Ytiokllhoaaamiaa.Sl.bslice_m HM rfl rfl 64 9 5 _ rfl (by kernel_rfl) #[.string ⟨#[116, 111]⟩, .string ⟨#[100, 101, 112, 116, 104]⟩, .string ⟨#[114, 111, 111, 116]⟩, .string ⟨#[102, 114, 111, 109]⟩, .string ⟨#[100, 101, 112, 116, 104]⟩] (by kernel_rfl) ?_; clear HM; intro g_ w_ HM; go_simp)
    | (refine Go.Proofs.Ytiokllhoaaamiaa.Sl.at_bslice 64 (p := #[(0, Operand.const (Value.string ⟨#[109, 97, 115, 107]⟩))]) rfl ?_; refine Go.Proofs.Ytiokllhoaaamiaa.Sl.bslice_m HM rfl rfl 64 9 1 _ rfl (by kernel_rfl) #[.string ⟨#[109, 97, 115, 107]⟩] (by kernel_rfl) ?_; clear HM; intro g_ w_ HM; go_simp)
    | (refine Go.Proofs.Ytiokllhoaaamiaa.Sl.at_bslice 64 (p := #[(0, Operand.const (Value.string ⟨#[109, 97, 115, 107]⟩)), (1, Operand.const (Value.string ⟨#[100, 97, 116, 97]⟩))]) rfl ?_; refine Go.Proofs.Ytiokllhoaaamiaa.Sl.bslice_m HM rfl rfl 64 9 2 _ rfl (by kernel_rfl) #[.string ⟨#[109, 97, 115, 107]⟩, .string ⟨#[100, 97, 116, 97]⟩] (by kernel_rfl) ?_; clear HM; intro g_ w_ HM; go_simp)
    | (refine Go.Proofs.Ytiokllhoaaamiaa.Sl.at_bslice 64 (p := #[(0, Operand.const (Value.string ⟨#[100, 97, 116, 97]⟩))]) rfl ?_; refine Go.Proofs.Ytiokllhoaaamiaa.Sl.bslice_m HM rfl rfl 64 9 1 _ rfl (by kernel_rfl) #[.string ⟨#[100, 97, 116, 97]⟩] (by kernel_rfl) ?_; clear HM; intro g_ w_ HM; go_simp)
    | (refine Go.Proofs.Ytiokllhoaaamiaa.Sl.at_index 88 rfl ?_; refine Go.Proofs.Ytiokllhoaaamiaa.Sl.index_m rfl _ rfl 88 rfl 4 64 (by kernel_rfl) (by kernel_rfl) (by kernel_rfl) (by kernel_rfl) _ rfl .i64 0 rfl (by decide) (by decide) _ rfl ?_; go_simp)
    | (refine Go.Proofs.Ytiokllhoaaamiaa.Sm.at_call_append rfl ?_; refine Go.Proofs.Ytiokllhoaaamiaa.Sm.append_m HM rfl rfl _ _ 64 9 rfl 1 16 (by kernel_rfl) (by kernel_rfl) (by decide) 3 _ 5 5 _ rfl rfl (by decide) (by decide) rfl _ 1 _ rfl _ rfl (Go.Proofs.Ytiokllhoaaamiaa.Sm.row_cells 2 rfl) (by simp [Value.oneCell']) (by decide) (by decide) 6 rfl ?_; clear HM; intro g_ cap_ cur_ w_ e1_ e2_ e3_ e4_ HM; go_simp)
    | ((fail_if_success (refine Go.Proofs.Ytiokllhoaaamiaa.M.lit_t rfl ?_)); (fail_if_success (refine Go.Proofs.Ytiokllhoaaamiaa.M.lit_f rfl ?_)); refine Go.Proofs.Ytiokllhoaaamiaa.M.split_guard rfl rfl ?_ ?_ <;> (intro hg_; simp only [hg_]; try simp only [decide_eq_true_eq, decide_eq_false_iff_not, Bool.and_eq_true, Bool.or_eq_true, Bool.and_eq_false_iff, Bool.or_eq_false_iff, Bool.not_eq_true', Bool.not_eq_false', beq_iff_eq, bne_iff_ne, beq_eq_false_iff_ne, bne_eq_false_iff_eq, Int.not_lt, Int.not_le, ne_eq] at hg_)))
  all_goals
    go_ret
    refine Ans.mk (.inr ⟨g_, cap_, cur_, rfl, e1_, e2_, by simpa using e3_, e4_, rfl⟩) (HM.take (A := [_]))
set_option maxHeartbeats 1000000 in
theorem fields_3 (w : World) : Calls Try.prog 46 #[.int .i64 3] w (Ans w [] (NewF (fnV 2))) := by
  have HM := Mem.nil w
  go_enter Try.func46, Try.ntmps46
  go_wp2_with (first
    | (refine Go.Proofs.Ytiokllhoaaamiaa.Sl.at_bslice 64 (p := #[(0, Operand.const (Value.string ⟨#[116, 111]⟩)), (1, Operand.const (Value.string ⟨#[100, 101, 112, 116, 104]⟩)), (2, Operand.const (Value.string ⟨#[114, 111, 111, 116]⟩)), (3, Operand.const (Value.string ⟨#[102, 114, 111, 109]⟩)), (4, Operand.const (Value.string ⟨#[100, 101, 112, 116, 104]⟩))]) rfl ?_; refine Go.Proofs.Ytiokllhoaaamiaa.Sl.bslice_m HM rfl rfl 64 9 5 _ rfl (by kernel_rfl) #[.string ⟨#[116, 111]⟩, .string ⟨#[100, 101, 112, 116, 104]⟩, .string ⟨#[114, 111, 111, 116]⟩, .string ⟨#[102, 114, 111, 109]⟩, .string ⟨#[100, 101, 112, 116, 104]⟩] (by kernel_rfl) ?_; clear HM; intro g_ w_ HM; go_simp)
    | (refine Go.Proofs.Ytiokllhoaaamiaa.Sl.at_bslice 64 (p := #[(0, Operand.const (Value.string ⟨#[109, 97, 115, 107]⟩))]) rfl ?_; refine Go.Proofs.Ytiokllhoaaamiaa.Sl.bslice_m HM rfl rfl 64 9 1 _ rfl (by kernel_rfl) #[.string ⟨#[109, 97, 115, 107]⟩] (by kernel_rfl) ?_; clear HM; intro g_ w_ HM; go_simp)
    | (refine Go.Proofs.Ytiokllhoaaamiaa.Sl.at_bslice 64 (p := #[(0, Operand.const (Value.string ⟨#[109, 97, 115, 107]⟩)), (1, Operand.const (Value.string ⟨#[100, 97, 116, 97]⟩))]) rfl ?_; refine Go.Proofs.Ytiokllhoaaamiaa.Sl.bslice_m HM rfl rfl 64 9 2 _ rfl (by kernel_rfl) #[.string ⟨#[109, 97, 115, 107]⟩, .string ⟨#[100, 97, 116, 97]⟩] (by kernel_rfl) ?_; clear HM; intro g_ w_ HM; go_simp)
    | (refine Go.Proofs.Ytiokllhoaaamiaa.Sl.at_bslice 64 (p := #[(0, Operand.const (Value.string ⟨#[100, 97, 116, 97]⟩))]) rfl ?_; refine Go.Proofs.Ytiokllhoaaamiaa.Sl.bslice_m HM rfl rfl 64 9 1 _ rfl (by kernel_rfl) #[.string ⟨#[100, 97, 116, 97]⟩] (by kernel_rfl) ?_; clear HM; intro g_ w_ HM; go_simp)
    | (refine Go.Proofs.Ytiokllhoaaamiaa.Sl.at_index 88 rfl ?_; refine Go.Proofs.Ytiokllhoaaamiaa.Sl.index_m rfl _ rfl 88 rfl 4 64 (by kernel_rfl) (by kernel_rfl) (by kernel_rfl) (by kernel_rfl) _ rfl .i64 1 rfl (by decide) (by decide) _ rfl ?_; go_simp)
    | (refine Go.Proofs.Ytiokllhoaaamiaa.Sm.at_call_append rfl ?_; refine Go.Proofs.Ytiokllhoaaamiaa.Sm.append_m HM rfl rfl _ _ 64 9 rfl 1 16 (by kernel_rfl) (by kernel_rfl) (by decide) 3 _ 5 5 _ rfl rfl (by decide) (by decide) rfl _ 2 _ rfl _ rfl (Go.Proofs.Ytiokllhoaaamiaa.Sm.row_cells 1 rfl) (by simp [Value.oneCell']) (by decide) (by decide) 7 rfl ?_; clear HM; intro g_ cap_ cur_ w_ e1_ e2_ e3_ e4_ HM; go_simp)
    | ((fail_if_success (refine Go.Proofs.Ytiokllhoaaamiaa.M.lit_t rfl ?_)); (fail_if_success (refine Go.Proofs.Ytiokllhoaaamiaa.M.lit_f rfl ?_)); refine Go.Proofs.Ytiokllhoaaamiaa.M.split_guard rfl rfl ?_ ?_ <;> (intro hg_; simp only [hg_]; try simp only [decide_eq_true_eq, decide_eq_false_iff_not, Bool.and_eq_true, Bool.or_eq_true, Bool.and_eq_false_iff, Bool.or_eq_false_iff, Bool.not_eq_true', Bool.not_eq_false', beq_iff_eq, bne_iff_ne, beq_eq_false_iff_ne, bne_eq_false_iff_eq, Int.not_lt, Int.not_le, ne_eq] at hg_)))
  all_goals
    go_ret
    refine Ans.mk (.inr ⟨g_, cap_, cur_, rfl, e1_, e2_, by simpa using e3_, e4_, rfl⟩) (HM.take (A := [_]))
set_option maxHeartbeats 1000000 in
theorem fields_4 (w : World) : Calls Try.prog 46 #[.int .i64 4] w (Ans w [] (NewF (fnV 3))) := by
  have HM := Mem.nil w
  go_enter Try.func46, Try.ntmps46
  go_wp2_with (first
    | (refine Go.Proofs.Ytiokllhoaaamiaa.Sl.at_bslice 64 (p := #[(0, Operand.const (Value.string ⟨#[116, 111]⟩)), (1, Operand.const (Value.string ⟨#[100, 101, 112, 116, 104]⟩)), (2, Operand.const (Value.string ⟨#[114, 111, 111, 116]⟩)), (3, Operand.const (Value.string ⟨#[102, 114, 111, 109]⟩)), (4, Operand.const (Value.string ⟨#[100, 101, 112, 116, 104]⟩))]) rfl ?_; refine Go.Proofs.Ytiokllhoaaamiaa.Sl.bslice_m HM rfl rfl 64 9 5 _ rfl (by kernel_rfl) #[.string ⟨#[116, 111]⟩, .string ⟨#[100, 101, 112, 116, 104]⟩, .string ⟨#[114, 111, 111, 116]⟩, .string ⟨#[102, 114, 111, 109]⟩, .string ⟨#[100, 101, 112, 116, 104]⟩] (by kernel_rfl) ?_; clear HM; intro g_ w_ HM; go_simp)
    | (refine Go.Proofs.Ytiokllhoaaamiaa.Sl.at_bslice 64 (p := #[(0, Operand.const (Value.string ⟨#[109, 97, 115, 107]⟩))]) rfl ?_; refine Go.Proofs.Ytiokllhoaaamiaa.Sl.bslice_m HM rfl rfl 64 9 1 _ rfl (by kernel_rfl) #[.string ⟨#[109, 97, 115, 107]⟩] (by kernel_rfl) ?_; clear HM; intro g_ w_ HM; go_simp)
    | (refine Go.Proofs.Ytiokllhoaaamiaa.Sl.at_bslice 64 (p := #[(0, Operand.const (Value.string ⟨#[109, 97, 115, 107]⟩)), (1, Operand.const (Value.string ⟨#[100, 97, 116, 97]⟩))]) rfl ?_; refine Go.Proofs.Ytiokllhoaaamiaa.Sl.bslice_m HM rfl rfl 64 9 2 _ rfl (by kernel_rfl) #[.string ⟨#[109, 97, 115, 107]⟩, .string ⟨#[100, 97, 116, 97]⟩] (by kernel_rfl) ?_; clear HM; intro g_ w_ HM; go_simp)
    | (refine Go.Proofs.Ytiokllhoaaamiaa.Sl.at_bslice 64 (p := #[(0, Operand.const (Value.string ⟨#[100, 97, 116, 97]⟩))]) rfl ?_; refine Go.Proofs.Ytiokllhoaaamiaa.Sl.bslice_m HM rfl rfl 64 9 1 _ rfl (by kernel_rfl) #[.string ⟨#[100, 97, 116, 97]⟩] (by kernel_rfl) ?_; clear HM; intro g_ w_ HM; go_simp)
    | (refine Go.Proofs.Ytiokllhoaaamiaa.Sl.at_index 88 rfl ?_; refine Go.Proofs.Ytiokllhoaaamiaa.Sl.index_m rfl _ rfl 88 rfl 4 64 (by kernel_rfl) (by kernel_rfl) (by kernel_rfl) (by kernel_rfl) _ rfl .i64 2 rfl (by decide) (by decide) _ rfl ?_; go_simp)
    | (refine Go.Proofs.Ytiokllhoaaamiaa.Sm.at_call_append rfl ?_; refine Go.Proofs.Ytiokllhoaaamiaa.Sm.append_none_m rfl rfl _ _ 64 9 rfl 1 (by kernel_rfl) (by kernel_rfl) _ _ _ rfl (by decide) rfl ?_; go_simp)
    | ((fail_if_success (refine Go.Proofs.Ytiokllhoaaamiaa.M.lit_t rfl ?_)); (fail_if_success (refine Go.Proofs.Ytiokllhoaaamiaa.M.lit_f rfl ?_)); refine Go.Proofs.Ytiokllhoaaamiaa.M.split_guard rfl rfl ?_ ?_ <;> (intro hg_; simp only [hg_]; try simp only [decide_eq_true_eq, decide_eq_false_iff_not, Bool.and_eq_true, Bool.or_eq_true, Bool.and_eq_false_iff, Bool.or_eq_false_iff, Bool.not_eq_true', Bool.not_eq_false', beq_iff_eq, bne_iff_ne, beq_eq_false_iff_ne, bne_eq_false_iff_eq, Int.not_lt, Int.not_le, ne_eq] at hg_)))
  all_goals
    go_ret
    refine Ans.mk (.inr ⟨_, _, _, rfl, by decide, by decide, rfl, rfl, rfl⟩) ((HM.drop (A := [_, _, _])).take (A := [_]))
set_option maxHeartbeats 1000000 in
theorem fields_5 (w : World) : Calls Try.prog 46 #[.int .i64 5] w (Ans w [] (NewF (fnV 4))) := by
  have HM := Mem.nil w
  go_enter Try.func46, Try.ntmps46
  go_wp2_with (first
    | (refine Go.Proofs.Ytiokllhoaaamiaa.Sl.at_bslice 64 (p := #[(0, Operand.const (Value.string ⟨#[116, 111]⟩)), (1, Operand.const (Value.string ⟨#[100, 101, 112, 116, 104]⟩)), (2, Operand.const (Value.string ⟨#[114, 111, 111, 116]⟩)), (3, Operand.const (Value.string ⟨#[102, 114, 111, 109]⟩)), (4, Operand.const (Value.string ⟨#[100, 101, 112, 116, 104]⟩))]) rfl ?_; refine Go.Proofs.Ytiokllhoaaamiaa.Sl.bslice_m HM rfl rfl 64 9 5 _ rfl (by kernel_rfl) #[.string ⟨#[116, 111]⟩, .string ⟨#[100, 101, 112, 116, 104]⟩, .string ⟨#[114, 111, 111, 116]⟩, .string ⟨#[102, 114, 111, 109]⟩, .string ⟨#[100, 101, 112, 116, 104]⟩] (by kernel_rfl) ?_; clear HM; intro g_ w_ HM; go_simp)
    | (refine Go.Proofs.Ytiokllhoaaamiaa.Sl.at_bslice 64 (p := #[(0, Operand.const (Value.string ⟨#[109, 97, 115, 107]⟩))]) rfl ?_; refine Go.Proofs.Ytiokllhoaaamiaa.Sl.bslice_m HM rfl rfl 64 9 1 _ rfl (by kernel_rfl) #[.string ⟨#[109, 97, 115, 107]⟩] (by kernel_rfl) ?_; clear HM; intro g_ w_ HM; go_simp)
    | (refine Go.Proofs.Ytiokllhoaaamiaa.Sl.at_bslice 64 (p := #[(0, Operand.const (Value.string ⟨#[109, 97, 115, 107]⟩)), (1, Operand.const (Value.string ⟨#[100, 97, 116, 97]⟩))]) rfl ?_; refine Go.Proofs.Ytiokllhoaaamiaa.Sl.bslice_m HM rfl rfl 64 9 2 _ rfl (by kernel_rfl) #[.string ⟨#[109, 97, 115, 107]⟩, .string ⟨#[100, 97, 116, 97]⟩] (by kernel_rfl) ?_; clear HM; intro g_ w_ HM; go_simp)
    | (refine Go.Proofs.Ytiokllhoaaamiaa.Sl.at_bslice 64 (p := #[(0, Operand.const (Value.string ⟨#[100, 97, 116, 97]⟩))]) rfl ?_; refine Go.Proofs.Ytiokllhoaaamiaa.Sl.bslice_m HM rfl rfl 64 9 1 _ rfl (by kernel_rfl) #[.string ⟨#[100, 97, 116, 97]⟩] (by kernel_rfl) ?_; clear HM; intro g_ w_ HM; go_simp)
    | (refine Go.Proofs.Ytiokllhoaaamiaa.Sl.at_index 88 rfl ?_; refine Go.Proofs.Ytiokllhoaaamiaa.Sl.index_m rfl _ rfl 88 rfl 4 64 (by kernel_rfl) (by kernel_rfl) (by kernel_rfl) (by kernel_rfl) _ rfl .i64 3 rfl (by decide) (by decide) _ rfl ?_; go_simp)
    | (refine Go.Proofs.Ytiokllhoaaamiaa.Sm.at_call_append rfl ?_; refine Go.Proofs.Ytiokllhoaaamiaa.Sm.append_m HM rfl rfl _ _ 64 9 rfl 1 16 (by kernel_rfl) (by kernel_rfl) (by decide) 3 _ 5 5 _ rfl rfl (by decide) (by decide) rfl _ 1 _ rfl _ rfl (Go.Proofs.Ytiokllhoaaamiaa.Sm.row_cells 0 rfl) (by simp [Value.oneCell']) (by decide) (by decide) 6 rfl ?_; clear HM; intro g_ cap_ cur_ w_ e1_ e2_ e3_ e4_ HM; go_simp)
    | ((fail_if_success (refine Go.Proofs.Ytiokllhoaaamiaa.M.lit_t rfl ?_)); (fail_if_success (refine Go.Proofs.Ytiokllhoaaamiaa.M.lit_f rfl ?_)); refine Go.Proofs.Ytiokllhoaaamiaa.M.split_guard rfl rfl ?_ ?_ <;> (intro hg_; simp only [hg_]; try simp only [decide_eq_true_eq, decide_eq_false_iff_not, Bool.and_eq_true, Bool.or_eq_true, Bool.and_eq_false_iff, Bool.or_eq_false_iff, Bool.not_eq_true', Bool.not_eq_false', beq_iff_eq, bne_iff_ne, beq_eq_false_iff_ne, bne_eq_false_iff_eq, Int.not_lt, Int.not_le, ne_eq] at hg_)))
  all_goals
    go_ret
    refine Ans.mk (.inr ⟨g_, cap_, cur_, rfl, e1_, e2_, by simpa using e3_, e4_, rfl⟩) (HM.take (A := [_]))
set_option maxHeartbeats 1000000 in
theorem fields_6 (w : World) : Calls Try.prog 46 #[.int .i64 6] w (Ans w [] (NewF (fnV 5))) := by
  have HM := Mem.nil w
  go_enter Try.func46, Try.ntmps46
  go_wp2_with (first
    | (refine Go.Proofs.Ytiokllhoaaamiaa.Sl.at_bslice 64 (p := #[(0, Operand.const (Value.string ⟨#[116, 111]⟩)), (1, Operand.const (Value.string ⟨#[100, 101, 112, 116, 104]⟩)), (2, Operand.const (Value.string ⟨#[112, 105, 118, 111, 116]⟩)), (3, Operand.const (Value.string ⟨#[100, 101, 112, 116, 104]⟩)), (4, Operand.const (Value.string ⟨#[100, 97, 116, 97]⟩)), (5, Operand.const (Value.string ⟨#[102, 114, 111, 109]⟩)), (6, Operand.const (Value.string ⟨#[100, 101, 112, 116, 104]⟩)), (7, Operand.const (Value.string ⟨#[100, 97, 116, 97]⟩))]) rfl ?_; refine Go.Proofs.Ytiokllhoaaamiaa.Sl.bslice_m HM rfl rfl 64 9 8 _ rfl (by kernel_rfl) #[.string ⟨#[116, 111]⟩, .string ⟨#[100, 101, 112, 116, 104]⟩, .string ⟨#[112, 105, 118, 111, 116]⟩, .string ⟨#[100, 101, 112, 116, 104]⟩, .string ⟨#[100, 97, 116, 97]⟩, .string ⟨#[102, 114, 111, 109]⟩, .string ⟨#[100, 101, 112, 116, 104]⟩, .string ⟨#[100, 97, 116, 97]⟩] (by kernel_rfl) ?_; clear HM; intro g_ w_ HM; go_simp)
    | ((fail_if_success (refine Go.Proofs.Ytiokllhoaaamiaa.M.lit_t rfl ?_)); (fail_if_success (refine Go.Proofs.Ytiokllhoaaamiaa.M.lit_f rfl ?_)); refine Go.Proofs.Ytiokllhoaaamiaa.M.split_guard rfl rfl ?_ ?_ <;> (intro hg_; simp only [hg_]; try simp only [decide_eq_true_eq, decide_eq_false_iff_not, Bool.and_eq_true, Bool.or_eq_true, Bool.and_eq_false_iff, Bool.or_eq_false_iff, Bool.not_eq_true', Bool.not_eq_false', beq_iff_eq, bne_iff_ne, beq_eq_false_iff_ne, bne_eq_false_iff_eq, Int.not_lt, Int.not_le, ne_eq] at hg_)))
  all_goals
    go_ret
    refine Ans.mk (.inr ⟨_, _, _, rfl, by decide, by decide, rfl, rfl, rfl⟩) (HM.take (A := [_]))
set_option maxHeartbeats 1000000 in
theorem fields_7 (w : World) : Calls Try.prog 46 #[.int .i64 7] w (Ans w [] (NewF (fnV 6))) := by
  have HM := Mem.nil w
  go_enter Try.func46, Try.ntmps46
  go_wp2_with (first
    | (refine Go.Proofs.Ytiokllhoaaamiaa.Sl.at_bslice 64 (p := #[(0, Operand.const (Value.string ⟨#[105, 110, 100, 101, 120]⟩)), (1, Operand.const (Value.string ⟨#[100, 101, 112, 116, 104]⟩))]) rfl ?_; refine Go.Proofs.Ytiokllhoaaamiaa.Sl.bslice_m HM rfl rfl 64 9 2 _ rfl (by kernel_rfl) #[.string ⟨#[105, 110, 100, 101, 120]⟩, .string ⟨#[100, 101, 112, 116, 104]⟩] (by kernel_rfl) ?_; clear HM; intro g_ w_ HM; go_simp)
    | ((fail_if_success (refine Go.Proofs.Ytiokllhoaaamiaa.M.lit_t rfl ?_)); (fail_if_success (refine Go.Proofs.Ytiokllhoaaamiaa.M.lit_f rfl ?_)); refine Go.Proofs.Ytiokllhoaaamiaa.M.split_guard rfl rfl ?_ ?_ <;> (intro hg_; simp only [hg_]; try simp only [decide_eq_true_eq, decide_eq_false_iff_not, Bool.and_eq_true, Bool.or_eq_true, Bool.and_eq_false_iff, Bool.or_eq_false_iff, Bool.not_eq_true', Bool.not_eq_false', beq_iff_eq, bne_iff_ne, beq_eq_false_iff_ne, bne_eq_false_iff_eq, Int.not_lt, Int.not_le, ne_eq] at hg_)))
  all_goals
    go_ret
    refine Ans.mk (.inr ⟨_, _, _, rfl, by decide, by decide, rfl, rfl, rfl⟩) (HM.take (A := [_]))
set_option maxHeartbeats 1000000 in
theorem fields_8 (w : World) : Calls Try.prog 46 #[.int .i64 8] w (Ans w [] (NewF (fnV 7))) := by
  have HM := Mem.nil w
  go_enter Try.func46, Try.ntmps46
  go_wp2_with (first
    | (refine Go.Proofs.Ytiokllhoaaamiaa.Sl.at_bslice 64 (p := #[(0, Operand.const (Value.string ⟨#[105, 110, 100, 101, 120]⟩)), (1, Operand.const (Value.string ⟨#[100, 101, 112, 116, 104]⟩))]) rfl ?_; refine Go.Proofs.Ytiokllhoaaamiaa.Sl.bslice_m HM rfl rfl 64 9 2 _ rfl (by kernel_rfl) #[.string ⟨#[105, 110, 100, 101, 120]⟩, .string ⟨#[100, 101, 112, 116, 104]⟩] (by kernel_rfl) ?_; clear HM; intro g_ w_ HM; go_simp)
    | ((fail_if_success (refine Go.Proofs.Ytiokllhoaaamiaa.M.lit_t rfl ?_)); (fail_if_success (refine Go.Proofs.Ytiokllhoaaamiaa.M.lit_f rfl ?_)); refine Go.Proofs.Ytiokllhoaaamiaa.M.split_guard rfl rfl ?_ ?_ <;> (intro hg_; simp only [hg_]; try simp only [decide_eq_true_eq, decide_eq_false_iff_not, Bool.and_eq_true, Bool.or_eq_true, Bool.and_eq_false_iff, Bool.or_eq_false_iff, Bool.not_eq_true', Bool.not_eq_false', beq_iff_eq, bne_iff_ne, beq_eq_false_iff_ne, bne_eq_false_iff_eq, Int.not_lt, Int.not_le, ne_eq] at hg_)))
  all_goals
    go_ret
    refine Ans.mk (.inr ⟨_, _, _, rfl, by decide, by decide, rfl, rfl, rfl⟩) (HM.take (A := [_]))
set_option maxHeartbeats 1000000 in
theorem fields_9 (w : World) : Calls Try.prog 46 #[.int .i64 9] w (Ans w [] (NewF (fnV 8))) := by
  have HM := Mem.nil w
  go_enter Try.func46, Try.ntmps46
  go_wp2_with (first
    | (refine Go.Proofs.Ytiokllhoaaamiaa.Sl.at_bslice 64 (p := #[(0, Operand.const (Value.string ⟨#[115, 112, 97, 99, 101]⟩)), (1, Operand.const (Value.string ⟨#[97, 100, 100, 114, 101, 115, 115]⟩)), (2, Operand.const (Value.string ⟨#[109, 97, 115, 107]⟩))]) rfl ?_; refine Go.Proofs.Ytiokllhoaaamiaa.Sl.bslice_m HM rfl rfl 64 9 3 _ rfl (by kernel_rfl) #[.string ⟨#[115, 112, 97, 99, 101]⟩, .string ⟨#[97, 100, 100, 114, 101, 115, 115]⟩, .string ⟨#[109, 97, 115, 107]⟩] (by kernel_rfl) ?_; clear HM; intro g_ w_ HM; go_simp)
    | ((fail_if_success (refine Go.Proofs.Ytiokllhoaaamiaa.M.lit_t rfl ?_)); (fail_if_success (refine Go.Proofs.Ytiokllhoaaamiaa.M.lit_f rfl ?_)); refine Go.Proofs.Ytiokllhoaaamiaa.M.split_guard rfl rfl ?_ ?_ <;> (intro hg_; simp only [hg_]; try simp only [decide_eq_true_eq, decide_eq_false_iff_not, Bool.and_eq_true, Bool.or_eq_true, Bool.and_eq_false_iff, Bool.or_eq_false_iff, Bool.not_eq_true', Bool.not_eq_false', beq_iff_eq, bne_iff_ne, beq_eq_false_iff_ne, bne_eq_false_iff_eq, Int.not_lt, Int.not_le, ne_eq] at hg_)))
  all_goals
    go_ret
    refine Ans.mk (.inr ⟨_, _, _, rfl, by decide, by decide, rfl, rfl, rfl⟩) (HM.take (A := [_]))
set_option maxHeartbeats 1000000 in
theorem fields_10 (w : World) : Calls Try.prog 46 #[.int .i64 10] w (Ans w [] (NewF (fnV 9))) := by
  have HM := Mem.nil w
  go_enter Try.func46, Try.ntmps46
  go_wp2_with (first
    | ((fail_if_success (refine Go.Proofs.Ytiokllhoaaamiaa.M.lit_t rfl ?_)); (fail_if_success (refine Go.Proofs.Ytiokllhoaaamiaa.M.lit_f rfl ?_)); refine Go.Proofs.Ytiokllhoaaamiaa.M.split_guard rfl rfl ?_ ?_ <;> (intro hg_; simp only [hg_]; try simp only [decide_eq_true_eq, decide_eq_false_iff_not, Bool.and_eq_true, Bool.or_eq_true, Bool.and_eq_false_iff, Bool.or_eq_false_iff, Bool.not_eq_true', Bool.not_eq_false', beq_iff_eq, bne_iff_ne, beq_eq_false_iff_ne, bne_eq_false_iff_eq, Int.not_lt, Int.not_le, ne_eq] at hg_)))
  all_goals
    go_ret
    exact Ans.mk (.inl ⟨rfl, rfl, rfl⟩) HM
set_option maxHeartbeats 1000000 in
theorem fields_11 (w : World) : Calls Try.prog 46 #[.int .i64 11] w (Ans w [] (NewF (fnV 10))) := by
  have HM := Mem.nil w
  go_enter Try.func46, Try.ntmps46
  go_wp2_with (first
    | ((fail_if_success (refine Go.Proofs.Ytiokllhoaaamiaa.M.lit_t rfl ?_)); (fail_if_success (refine Go.Proofs.Ytiokllhoaaamiaa.M.lit_f rfl ?_)); refine Go.Proofs.Ytiokllhoaaamiaa.M.split_guard rfl rfl ?_ ?_ <;> (intro hg_; simp only [hg_]; try simp only [decide_eq_true_eq, decide_eq_false_iff_not, Bool.and_eq_true, Bool.or_eq_true, Bool.and_eq_false_iff, Bool.or_eq_false_iff, Bool.not_eq_true', Bool.not_eq_false', beq_iff_eq, bne_iff_ne, beq_eq_false_iff_ne, bne_eq_false_iff_eq, Int.not_lt, Int.not_le, ne_eq] at hg_)))
  all_goals
    go_ret
    exact Ans.mk (.inl ⟨rfl, rfl, rfl⟩) HM
set_option maxHeartbeats 1000000 in
theorem fields_12 (w : World) : Calls Try.prog 46 #[.int .i64 12] w (Ans w [] (NewF (fnV 11))) := by
  have HM := Mem.nil w
  go_enter Try.func46, Try.ntmps46
  go_wp2_with (first
    | (refine Go.Proofs.Ytiokllhoaaamiaa.Sl.at_bslice 64 (p := #[(0, Operand.const (Value.string ⟨#[115, 112, 97, 99, 101]⟩)), (1, Operand.const (Value.string ⟨#[97, 100, 100, 114, 101, 115, 115]⟩))]) rfl ?_; refine Go.Proofs.Ytiokllhoaaamiaa.Sl.bslice_m HM rfl rfl 64 9 2 _ rfl (by kernel_rfl) #[.string ⟨#[115, 112, 97, 99, 101]⟩, .string ⟨#[97, 100, 100, 114, 101, 115, 115]⟩] (by kernel_rfl) ?_; clear HM; intro g_ w_ HM; go_simp)
    | ((fail_if_success (refine Go.Proofs.Ytiokllhoaaamiaa.M.lit_t rfl ?_)); (fail_if_success (refine Go.Proofs.Ytiokllhoaaamiaa.M.lit_f rfl ?_)); refine Go.Proofs.Ytiokllhoaaamiaa.M.split_guard rfl rfl ?_ ?_ <;> (intro hg_; simp only [hg_]; try simp only [decide_eq_true_eq, decide_eq_false_iff_not, Bool.and_eq_true, Bool.or_eq_true, Bool.and_eq_false_iff, Bool.or_eq_false_iff, Bool.not_eq_true', Bool.not_eq_false', beq_iff_eq, bne_iff_ne, beq_eq_false_iff_ne, bne_eq_false_iff_eq, Int.not_lt, Int.not_le, ne_eq] at hg_)))
  all_goals
    go_ret
    refine Ans.mk (.inr ⟨_, _, _, rfl, by decide, by decide, rfl, rfl, rfl⟩) (HM.take (A := [_]))
set_option maxHeartbeats 1000000 in
theorem fields_13 (w : World) : Calls Try.prog 46 #[.int .i64 13] w (Ans w [] (NewF (fnV 12))) := by
  have HM := Mem.nil w
  go_enter Try.func46, Try.ntmps46
  go_wp2_with (first
    | ((fail_if_success (refine Go.Proofs.Ytiokllhoaaamiaa.M.lit_t rfl ?_)); (fail_if_success (refine Go.Proofs.Ytiokllhoaaamiaa.M.lit_f rfl ?_)); refine Go.Proofs.Ytiokllhoaaamiaa.M.split_guard rfl rfl ?_ ?_ <;> (intro hg_; simp only [hg_]; try simp only [decide_eq_true_eq, decide_eq_false_iff_not, Bool.and_eq_true, Bool.or_eq_true, Bool.and_eq_false_iff, Bool.or_eq_false_iff, Bool.not_eq_true', Bool.not_eq_false', beq_iff_eq, bne_iff_ne, beq_eq_false_iff_ne, bne_eq_false_iff_eq, Int.not_lt, Int.not_le, ne_eq] at hg_)))
  all_goals
    go_ret
    exact Ans.mk (.inl ⟨rfl, rfl, rfl⟩) HM
set_option maxHeartbeats 1000000 in
theorem fields_14 (w : World) : Calls Try.prog 46 #[.int .i64 14] w (Ans w [] (NewF (fnV 13))) := by
  have HM := Mem.nil w
  go_enter Try.func46, Try.ntmps46
  go_wp2_with (first
    | (refine Go.Proofs.Ytiokllhoaaamiaa.Sl.at_bslice 64 (p := #[(0, Operand.const (Value.string ⟨#[117, 110, 116, 121, 112, 101, 100]⟩)), (1, Operand.const (Value.string ⟨#[114, 111, 111, 116]⟩)), (2, Operand.const (Value.string ⟨#[105, 110, 100, 101, 120]⟩)), (3, Operand.const (Value.string ⟨#[100, 101, 112, 116, 104]⟩))]) rfl ?_; refine Go.Proofs.Ytiokllhoaaamiaa.Sl.bslice_m HM rfl rfl 64 9 4 _ rfl (by kernel_rfl) #[.string ⟨#[117, 110, 116, 121, 112, 101, 100]⟩, .string ⟨#[114, 111, 111, 116]⟩, .string ⟨#[105, 110, 100, 101, 120]⟩, .string ⟨#[100, 101, 112, 116, 104]⟩] (by kernel_rfl) ?_; clear HM; intro g_ w_ HM; go_simp)
    | ((fail_if_success (refine Go.Proofs.Ytiokllhoaaamiaa.M.lit_t rfl ?_)); (fail_if_success (refine Go.Proofs.Ytiokllhoaaamiaa.M.lit_f rfl ?_)); refine Go.Proofs.Ytiokllhoaaamiaa.M.split_guard rfl rfl ?_ ?_ <;> (intro hg_; simp only [hg_]; try simp only [decide_eq_true_eq, decide_eq_false_iff_not, Bool.and_eq_true, Bool.or_eq_true, Bool.and_eq_false_iff, Bool.or_eq_false_iff, Bool.not_eq_true', Bool.not_eq_false', beq_iff_eq, bne_iff_ne, beq_eq_false_iff_ne, bne_eq_false_iff_eq, Int.not_lt, Int.not_le, ne_eq] at hg_)))
  all_goals
    go_ret
    refine Ans.mk (.inr ⟨_, _, _, rfl, by decide, by decide, rfl, rfl, rfl⟩) (HM.take (A := [_]))
set_option maxHeartbeats 1000000 in
theorem fields_15 (w : World) : Calls Try.prog 46 #[.int .i64 15] w (Ans w [] (NewF (fnV 14))) := by
  have HM := Mem.nil w
  go_enter Try.func46, Try.ntmps46
  go_wp2_with (first
    | (refine Go.Proofs.Ytiokllhoaaamiaa.Sl.at_bslice 64 (p := #[(0, Operand.const (Value.string ⟨#[115, 112, 97, 99, 101]⟩))]) rfl ?_; refine Go.Proofs.Ytiokllhoaaamiaa.Sl.bslice_m HM rfl rfl 64 9 1 _ rfl (by kernel_rfl) #[.string ⟨#[115, 112, 97, 99, 101]⟩] (by kernel_rfl) ?_; clear HM; intro g_ w_ HM; go_simp)
    | ((fail_if_success (refine Go.Proofs.Ytiokllhoaaamiaa.M.lit_t rfl ?_)); (fail_if_success (refine Go.Proofs.Ytiokllhoaaamiaa.M.lit_f rfl ?_)); refine Go.Proofs.Ytiokllhoaaamiaa.M.split_guard rfl rfl ?_ ?_ <;> (intro hg_; simp only [hg_]; try simp only [decide_eq_true_eq, decide_eq_false_iff_not, Bool.and_eq_true, Bool.or_eq_true, Bool.and_eq_false_iff, Bool.or_eq_false_iff, Bool.not_eq_true', Bool.not_eq_false', beq_iff_eq, bne_iff_ne, beq_eq_false_iff_ne, bne_eq_false_iff_eq, Int.not_lt, Int.not_le, ne_eq] at hg_)))
  all_goals
    go_ret
    refine Ans.mk (.inr ⟨_, _, _, rfl, by decide, by decide, rfl, rfl, rfl⟩) (HM.take (A := [_]))
set_option maxHeartbeats 1000000 in
theorem fields_16 (w : World) : Calls Try.prog 46 #[.int .i64 16] w (Ans w [] (NewF (fnV 15))) := by
  have HM := Mem.nil w
  go_enter Try.func46, Try.ntmps46
  go_wp2_with (first
    | (refine Go.Proofs.Ytiokllhoaaamiaa.Sl.at_bslice 64 (p := #[(0, Operand.const (Value.string ⟨#[110, 111, 100, 101]⟩)), (1, Operand.const (Value.string ⟨#[115, 112, 97, 99, 101]⟩))]) rfl ?_; refine Go.Proofs.Ytiokllhoaaamiaa.Sl.bslice_m HM rfl rfl 64 9 2 _ rfl (by kernel_rfl) #[.string ⟨#[110, 111, 100, 101]⟩, .string ⟨#[115, 112, 97, 99, 101]⟩] (by kernel_rfl) ?_; clear HM; intro g_ w_ HM; go_simp)
    | ((fail_if_success (refine Go.Proofs.Ytiokllhoaaamiaa.M.lit_t rfl ?_)); (fail_if_success (refine Go.Proofs.Ytiokllhoaaamiaa.M.lit_f rfl ?_)); refine Go.Proofs.Ytiokllhoaaamiaa.M.split_guard rfl rfl ?_ ?_ <;> (intro hg_; simp only [hg_]; try simp only [decide_eq_true_eq, decide_eq_false_iff_not, Bool.and_eq_true, Bool.or_eq_true, Bool.and_eq_false_iff, Bool.or_eq_false_iff, Bool.not_eq_true', Bool.not_eq_false', beq_iff_eq, bne_iff_ne, beq_eq_false_iff_ne, bne_eq_false_iff_eq, Int.not_lt, Int.not_le, ne_eq] at hg_)))
  all_goals
    go_ret
    refine Ans.mk (.inr ⟨_, _, _, rfl, by decide, by decide, rfl, rfl, rfl⟩) (HM.take (A := [_]))
set_option maxHeartbeats 1000000 in
theorem fields_17 (w : World) : Calls Try.prog 46 #[.int .i64 17] w (Ans w [] (NewF (fnV 16))) := by
  have HM := Mem.nil w
  go_enter Try.func46, Try.ntmps46
  go_wp2_with (first
    | ((fail_if_success (refine Go.Proofs.Ytiokllhoaaamiaa.M.lit_t rfl ?_)); (fail_if_success (refine Go.Proofs.Ytiokllhoaaamiaa.M.lit_f rfl ?_)); refine Go.Proofs.Ytiokllhoaaamiaa.M.split_guard rfl rfl ?_ ?_ <;> (intro hg_; simp only [hg_]; try simp only [decide_eq_true_eq, decide_eq_false_iff_not, Bool.and_eq_true, Bool.or_eq_true, Bool.and_eq_false_iff, Bool.or_eq_false_iff, Bool.not_eq_true', Bool.not_eq_false', beq_iff_eq, bne_iff_ne, beq_eq_false_iff_ne, bne_eq_false_iff_eq, Int.not_lt, Int.not_le, ne_eq] at hg_)))
  all_goals
    go_ret
    exact Ans.mk (.inl ⟨rfl, rfl, rfl⟩) HM
set_option maxHeartbeats 1000000 in
theorem fields_18 (w : World) : Calls Try.prog 46 #[.int .i64 18] w (Ans w [] (NewF (fnV 17))) := by
  have HM := Mem.nil w
  go_enter Try.func46, Try.ntmps46
  go_wp2_with (first
    | ((fail_if_success (refine Go.Proofs.Ytiokllhoaaamiaa.M.lit_t rfl ?_)); (fail_if_success (refine Go.Proofs.Ytiokllhoaaamiaa.M.lit_f rfl ?_)); refine Go.Proofs.Ytiokllhoaaamiaa.M.split_guard rfl rfl ?_ ?_ <;> (intro hg_; simp only [hg_]; try simp only [decide_eq_true_eq, decide_eq_false_iff_not, Bool.and_eq_true, Bool.or_eq_true, Bool.and_eq_false_iff, Bool.or_eq_false_iff, Bool.not_eq_true', Bool.not_eq_false', beq_iff_eq, bne_iff_ne, beq_eq_false_iff_ne, bne_eq_false_iff_eq, Int.not_lt, Int.not_le, ne_eq] at hg_)))
  all_goals
    go_ret
    exact Ans.mk (.inl ⟨rfl, rfl, rfl⟩) HM
set_option maxHeartbeats 1000000 in
theorem fields_19 (w : World) : Calls Try.prog 46 #[.int .i64 19] w (Ans w [] (NewF (fnV 18))) := by
  have HM := Mem.nil w
  go_enter Try.func46, Try.ntmps46
  go_wp2_with (first
    | ((fail_if_success (refine Go.Proofs.Ytiokllhoaaamiaa.M.lit_t rfl ?_)); (fail_if_success (refine Go.Proofs.Ytiokllhoaaamiaa.M.lit_f rfl ?_)); refine Go.Proofs.Ytiokllhoaaamiaa.M.split_guard rfl rfl ?_ ?_ <;> (intro hg_; simp only [hg_]; try simp only [decide_eq_true_eq, decide_eq_false_iff_not, Bool.and_eq_true, Bool.or_eq_true, Bool.and_eq_false_iff, Bool.or_eq_false_iff, Bool.not_eq_true', Bool.not_eq_false', beq_iff_eq, bne_iff_ne, beq_eq_false_iff_ne, bne_eq_false_iff_eq, Int.not_lt, Int.not_le, ne_eq] at hg_)))
  all_goals
    go_ret
    exact Ans.mk (.inl ⟨rfl, rfl, rfl⟩) HM
set_option maxHeartbeats 2000000 in
theorem fields_no (m : Int) (h : m < 1 ∨ 19 < m) (w : World) : Calls Try.prog 46 #[.int .i64 m] w (Ans w [] (NewF [])) := by
  have n1 : ¬ m = 1 := by omega
  have n2 : ¬ m = 2 := by omega
  have n3 : ¬ m = 3 := by omega
  have n4 : ¬ m = 4 := by omega
  have n5 : ¬ m = 5 := by omega
  have n6 : ¬ m = 6 := by omega
  have n7 : ¬ m = 7 := by omega
  have n8 : ¬ m = 8 := by omega
  have n9 : ¬ m = 9 := by omega
  have n12 : ¬ m = 12 := by omega
  have n14 : ¬ m = 14 := by omega
  have n15 : ¬ m = 15 := by omega
  have n16 : ¬ m = 16 := by omega
  have HM := Mem.nil w
  go_enter Try.func46, Try.ntmps46
  go_wp2_with (first
    | (refine Go.Proofs.Ytiokllhoaaamiaa.Mc.at_cmp _ rfl ?_; refine Go.Proofs.Ytiokllhoaaamiaa.Mc.cmp_m rfl _ rfl _ _ _ rfl _ _ _ rfl rfl _ rfl ?_ ?_ <;> (intro hg_; try simp only [decide_eq_true_eq, decide_eq_false_iff_not, Bool.and_eq_true, Bool.or_eq_true, Bool.and_eq_false_iff, Bool.or_eq_false_iff, Bool.not_eq_true', Bool.not_eq_false', beq_iff_eq, bne_iff_ne, beq_eq_false_iff_ne, bne_eq_false_iff_eq, Int.not_lt, Int.not_le, ne_eq] at hg_; first | (exfalso; first | omega | (simp at hg_; done)) | go_simp))
    | ((fail_if_success (refine Go.Proofs.Ytiokllhoaaamiaa.M.lit_t rfl ?_)); (fail_if_success (refine Go.Proofs.Ytiokllhoaaamiaa.M.lit_f rfl ?_)); refine Go.Proofs.Ytiokllhoaaamiaa.M.split_guard rfl rfl ?_ ?_ <;> (intro hg_; simp only [hg_]; try simp only [decide_eq_true_eq, decide_eq_false_iff_not, Bool.and_eq_true, Bool.or_eq_true, Bool.and_eq_false_iff, Bool.or_eq_false_iff, Bool.not_eq_true', Bool.not_eq_false', beq_iff_eq, bne_iff_ne, beq_eq_false_iff_ne, bne_eq_false_iff_eq, Int.not_lt, Int.not_le, ne_eq] at hg_)))
  all_goals
    go_ret
    exact Ans.mk (.inl ⟨rfl, rfl, rfl⟩) HM
theorem fields_any (i : Nat) (hi : i < 19) (m : Int) (hm : m = i + 1) (w : World) : Calls Try.prog 46 #[.int .i64 m] w (Ans w [] (NewF (fnV i))) := by
  subst hm
  rcases cases19 hi with rfl | rfl | rfl | rfl | rfl | rfl | rfl | rfl | rfl | rfl | rfl | rfl | rfl | rfl | rfl | rfl | rfl | rfl | rfl
  · exact fields_1 w
  · exact fields_2 w
  · exact fields_3 w
  · exact fields_4 w
  · exact fields_5 w
  · exact fields_6 w
  · exact fields_7 w
  · exact fields_8 w
  · exact fields_9 w
  · exact fields_10 w
  · exact fields_11 w
  · exact fields_12 w
  · exact fields_13 w
  · exact fields_14 w
  · exact fields_15 w
  · exact fields_16 w
  · exact fields_17 w
  · exact fields_18 w
  · exact fields_19 w
set_option maxHeartbeats 1000000 in
theorem shown_any (xs : List Value) (m : Int) (w : World) (CF : ∀ u, Mem w [] [] u → Calls Try.prog 46 #[.int .i64 m] u (Ans u [] (NewF xs))) : Calls Try.prog 33 #[.int .i64 m] w (Ans w [] (NewF xs)) := by
  have HM := Mem.nil w
  go_enter Try.func33, Try.ntmps33
  go_wp2_with (first
    | (go_at_call 46; (with_reducible refine (Go.Proofs.Ytiokllhoaaamiaa.Sm.new_call HM (CF _ (Go.Proofs.Ytiokllhoaaamiaa.M.Mem.none HM))).mono ?_); clear HM; rintro e w_ ⟨v_, L_, rfl, hr_, HM⟩; (try simp only [List.cons_append, List.nil_append, List.append_nil] at HM); dsimp only)
    | ((fail_if_success (refine Go.Proofs.Ytiokllhoaaamiaa.M.lit_t rfl ?_)); (fail_if_success (refine Go.Proofs.Ytiokllhoaaamiaa.M.lit_f rfl ?_)); refine Go.Proofs.Ytiokllhoaaamiaa.M.split_guard rfl rfl ?_ ?_ <;> (intro hg_; simp only [hg_]; try simp only [decide_eq_true_eq, decide_eq_false_iff_not, Bool.and_eq_true, Bool.or_eq_true, Bool.and_eq_false_iff, Bool.or_eq_false_iff, Bool.not_eq_true', Bool.not_eq_false', beq_iff_eq, bne_iff_ne, beq_eq_false_iff_ne, bne_eq_false_iff_eq, Int.not_lt, Int.not_le, ne_eq] at hg_)))
  all_goals
    go_ret
    exact Ans.mk hr_ (by simpa using HM)
end Go.Proofs.Ytiokllhoaaamiaa.Pk
