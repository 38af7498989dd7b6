/- Layer 25's anchor, the law MsgLabels. -/
import Derived.Test.YtiokllhoaaamiaaProg
import Derived.Test.YtiokllhoaaamiaaPf
namespace Go.Proofs.Ytiokllhoaaamiaa.Pg
open Go.RowKit Go.Proofs.Ytiokllhoaaamiaa.G Go.Proofs.Ytiokllhoaaamiaa.B Go.Proofs.Ytiokllhoaaamiaa.M Go.Proofs.Ytiokllhoaaamiaa.Mv Go.Proofs.Ytiokllhoaaamiaa.Sm Go.Proofs.Ytiokllhoaaamiaa.Pa Go.Proofs.Ytiokllhoaaamiaa.Pb Go.Proofs.Ytiokllhoaaamiaa.Pc Go.Proofs.Ytiokllhoaaamiaa.Pd Go.Proofs.Ytiokllhoaaamiaa.Pe Go.Proofs.Ytiokllhoaaamiaa.Pf
set_option linter.unusedVariables false
set_option linter.unusedSimpArgs false
set_option maxRecDepth 100000
theorem cell_at {w0 u : World} {M : List Nat} {L : Hp} {g : Nat} {cs : Array Value} {t : TypeId} (h : Mem w0 M ((g, row cs t) :: L) u) (j : Nat) : u.cell? ((⟨g, 0, none⟩ : Addr).add j) = cs[j]? := by
  have := blk_cell (h.get 0 rfl) j
  rw [← this]
  unfold Addr.add
  split <;> simp_all
set_option maxHeartbeats 1000000 in
theorem anchor_any (w : World) : Calls Try.prog 13 #[] w fun e w' => e = .returned (.bool true) ∧ Below w.heap.size w w' := by
  have PA : ∀ g L u, Mem w [] ((g, row #[.int .u64 7, .int .u64 11, .int .u64 5] 31) :: L) u → Calls Try.prog 14 #[.slice (some ⟨g, 0, none⟩) 3 3] u (Ans u [] (NewM 7 11 0 [])) := fun g L u h =>
    parse_ok ⟨g, 0, none⟩ 3 3 10 0 (by decide) 7 11 rfl (by decide) (by decide) (by decide) rfl (by decide) [] rfl (by simp) u (by rw [cell_at h]; rfl) (by rw [cell_at h]; rfl) (by simp)
  have CN := fun w => name_ok 10 (by decide) 11 rfl w
  have hn : nm 10 = ⟨#[97, 100, 100, 114, 101, 115, 115]⟩ := rfl
  rw [hn] at CN
  clear hn
  have HM := Mem.nil w
  go_enter Try.func13, Try.ntmps13
  go_wp2_with (first
    | (go_big_skip)
    | (refine Go.Proofs.Ytiokllhoaaamiaa.Sl.at_bslice 30 rfl ?_; refine Go.Proofs.Ytiokllhoaaamiaa.Sl.bslice_m HM rfl rfl 30 31 3 _ rfl (by kernel_rfl) #[.int .u64 7, .int .u64 11, .int .u64 5] (by kernel_rfl) ?_; clear HM; intro g_ w_ HM; go_simp)
    | (go_at_call 14; (with_reducible refine (Go.Proofs.Ytiokllhoaaamiaa.Sm.new_call HM (PA _ _ _ HM)).mono ?_); clear HM; rintro e w_ ⟨v_, L_, rfl, ⟨g_, cap_, cur_, rfl, e1_, e2_, e3_, e4_, rfl⟩, HM⟩; simp only [List.cons_append, List.nil_append] at HM; dsimp only [msgV])
    | (go_at_call 28; (with_reducible refine (Go.Proofs.Ytiokllhoaaamiaa.M.call_pure (CN) HM).mono ?_); clear HM; rintro e w_ ⟨rfl, HM⟩; dsimp only)
    | (refine Go.Proofs.Ytiokllhoaaamiaa.M.at_mem rfl ?_; first | (refine Go.Proofs.Ytiokllhoaaamiaa.M.at_load 3 rfl ?_; first | (refine Go.Proofs.Ytiokllhoaaamiaa.M.load_cell_m HM rfl 3 _ rfl 0 _ _ _ _ _ rfl rfl rfl (by kernel_rfl) (by kernel_rfl) ?_; go_simp) | (refine Go.Proofs.Ytiokllhoaaamiaa.M.load_cell_m HM rfl 3 _ rfl 1 _ _ _ _ _ rfl rfl rfl (by kernel_rfl) (by kernel_rfl) ?_; go_simp) | (refine Go.Proofs.Ytiokllhoaaamiaa.M.load_cell_m HM rfl 3 _ rfl 2 _ _ _ _ _ rfl rfl rfl (by kernel_rfl) (by kernel_rfl) ?_; go_simp)) | (refine Go.Proofs.Ytiokllhoaaamiaa.M.at_load 30 rfl ?_; first | (refine Go.Proofs.Ytiokllhoaaamiaa.M.load_cell_m HM rfl 30 _ rfl 0 _ _ _ _ _ rfl rfl rfl (by kernel_rfl) (by kernel_rfl) ?_; go_simp) | (refine Go.Proofs.Ytiokllhoaaamiaa.M.load_cell_m HM rfl 30 _ rfl 1 _ _ _ _ _ rfl rfl rfl (by kernel_rfl) (by kernel_rfl) ?_; go_simp) | (refine Go.Proofs.Ytiokllhoaaamiaa.M.load_cell_m HM rfl 30 _ rfl 2 _ _ _ _ _ rfl rfl rfl (by kernel_rfl) (by kernel_rfl) ?_; go_simp)) | (refine Go.Proofs.Ytiokllhoaaamiaa.M.at_load 31 rfl ?_; first | (refine Go.Proofs.Ytiokllhoaaamiaa.M.load_cell_m HM rfl 31 _ rfl 0 _ _ _ _ _ rfl rfl rfl (by kernel_rfl) (by kernel_rfl) ?_; go_simp) | (refine Go.Proofs.Ytiokllhoaaamiaa.M.load_cell_m HM rfl 31 _ rfl 1 _ _ _ _ _ rfl rfl rfl (by kernel_rfl) (by kernel_rfl) ?_; go_simp) | (refine Go.Proofs.Ytiokllhoaaamiaa.M.load_cell_m HM rfl 31 _ rfl 2 _ _ _ _ _ rfl rfl rfl (by kernel_rfl) (by kernel_rfl) ?_; go_simp)) | (refine Go.Proofs.Ytiokllhoaaamiaa.M.at_store 33 rfl ?_; first | (refine Go.Proofs.Ytiokllhoaaamiaa.M.store_row_m HM rfl 33 _ _ rfl 0 _ _ _ _ rfl rfl rfl (by kernel_rfl) rfl (by simp [Value.oneCell']) ?_; clear HM; intro w_ HM; (try simp only [List.set_cons_zero, List.set_cons_succ, List.setIfInBounds_toArray, List.eraseIdx_cons_zero, List.eraseIdx_cons_succ, List.cons_append, List.nil_append] at HM); go_simp) | (refine Go.Proofs.Ytiokllhoaaamiaa.M.store_row_m HM rfl 33 _ _ rfl 1 _ _ _ _ rfl rfl rfl (by kernel_rfl) rfl (by simp [Value.oneCell']) ?_; clear HM; intro w_ HM; (try simp only [List.set_cons_zero, List.set_cons_succ, List.setIfInBounds_toArray, List.eraseIdx_cons_zero, List.eraseIdx_cons_succ, List.cons_append, List.nil_append] at HM); go_simp) | (refine Go.Proofs.Ytiokllhoaaamiaa.M.store_row_m HM rfl 33 _ _ rfl 2 _ _ _ _ rfl rfl rfl (by kernel_rfl) rfl (by simp [Value.oneCell']) ?_; clear HM; intro w_ HM; (try simp only [List.set_cons_zero, List.set_cons_succ, List.setIfInBounds_toArray, List.eraseIdx_cons_zero, List.eraseIdx_cons_succ, List.cons_append, List.nil_append] at HM); go_simp)) | (refine Go.Proofs.Ytiokllhoaaamiaa.M.at_alloc 33 rfl ?_; first | (refine Go.Proofs.Ytiokllhoaaamiaa.M.alloc_m HM rfl rfl 33 rfl (.agg #[(.int .u64 0), (.int .i64 0), (.slice none 0 0)]) (by kernel_rfl) #[(.int .u64 0), (.int .i64 0), (.slice none 0 0)] rfl ?_; clear HM; intro g_ w_ HM; go_simp)) | ((fail_if_success (refine Go.Proofs.Ytiokllhoaaamiaa.M.lit_t rfl ?_)); (fail_if_success (refine Go.Proofs.Ytiokllhoaaamiaa.M.lit_f rfl ?_)); refine Go.Proofs.Ytiokllhoaaamiaa.M.split_guard rfl rfl ?_ ?_ <;> (intro hg_; simp only [hg_]; try simp only [decide_eq_true_eq, decide_eq_false_iff_not, Bool.and_eq_true, Bool.or_eq_true, Bool.and_eq_false_iff, Bool.or_eq_false_iff, Bool.not_eq_true', Bool.not_eq_false', beq_iff_eq, bne_iff_ne, beq_eq_false_iff_ne, bne_eq_false_iff_eq, Int.not_lt, Int.not_le, ne_eq] at hg_)))
    | ((fail_if_success (refine Go.Proofs.Ytiokllhoaaamiaa.M.lit_t rfl ?_)); (fail_if_success (refine Go.Proofs.Ytiokllhoaaamiaa.M.lit_f rfl ?_)); refine Go.Proofs.Ytiokllhoaaamiaa.M.split_guard rfl rfl ?_ ?_ <;> (intro hg_; simp only [hg_]; try simp only [decide_eq_true_eq, decide_eq_false_iff_not, Bool.and_eq_true, Bool.or_eq_true, Bool.and_eq_false_iff, Bool.or_eq_false_iff, Bool.not_eq_true', Bool.not_eq_false', beq_iff_eq, bne_iff_ne, beq_eq_false_iff_ne, bne_eq_false_iff_eq, Int.not_lt, Int.not_le, ne_eq] at hg_)))
  all_goals
    go_ret
    exact ⟨by first | rfl | simp, HM.none.to_below⟩
end Go.Proofs.Ytiokllhoaaamiaa.Pg
