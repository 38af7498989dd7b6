/- msg.Label and what it calls: what each call answers. -/
import Derived.Test.YtiokllhoaaamiaaProg
import Derived.Test.YtiokllhoaaamiaaPc
import Derived.Laws.Strings
namespace Go.Proofs.Ytiokllhoaaamiaa.Pd
open Go.RowKit Go.Proofs.Ytiokllhoaaamiaa.G Go.Proofs.Ytiokllhoaaamiaa.B Go.Proofs.Ytiokllhoaaamiaa.M Go.Proofs.Ytiokllhoaaamiaa.Mv Go.Proofs.Ytiokllhoaaamiaa.Pa Go.Proofs.Ytiokllhoaaamiaa.Pb
set_option linter.unusedVariables false
set_option linter.unusedSimpArgs false
set_option maxRecDepth 100000
set_option maxHeartbeats 1000000 in
theorem same_any (n s : ByteArray) (k r : Int) (h : Nat) : Does Try.prog 45 #[.agg #[.string n, .int .i64 k, .int .i64 r], .pointer (some ⟨h, 0, none⟩)] [(h, row #[.string s] 9)] fun v L => v = .bool (n.toList == s.toList) ∧ L = [(h, row #[.string s] 9)] := by
  intro w hH
  have HM := Mem.start hH
  go_enter Try.func45, Try.ntmps45
  go_wp2_with (first
    | (refine Go.Proofs.Ytiokllhoaaamiaa.M.at_mem rfl ?_; first | (refine Go.Proofs.Ytiokllhoaaamiaa.M.at_load 9 rfl ?_; first | (refine Go.Proofs.Ytiokllhoaaamiaa.M.load_cell_m HM rfl 9 _ rfl 0 _ _ _ _ _ rfl rfl rfl (by kernel_rfl) (by kernel_rfl) ?_; go_simp) | (refine Go.Proofs.Ytiokllhoaaamiaa.M.load_cell_m HM rfl 9 _ rfl 1 _ _ _ _ _ rfl rfl rfl (by kernel_rfl) (by kernel_rfl) ?_; go_simp)) | (refine Go.Proofs.Ytiokllhoaaamiaa.M.at_box 76 rfl ?_; first | (refine Go.Proofs.Ytiokllhoaaamiaa.M.box_m HM rfl rfl 76 _ rfl _ rfl ?_; clear HM; intro g_ w_ HM; go_simp)) | ((fail_if_success (refine Go.Proofs.Ytiokllhoaaamiaa.M.lit_t rfl ?_)); (fail_if_success (refine Go.Proofs.Ytiokllhoaaamiaa.M.lit_f rfl ?_)); refine Go.Proofs.Ytiokllhoaaamiaa.M.split_guard rfl rfl ?_ ?_ <;> (intro hg_; simp only [hg_]; try simp only [decide_eq_true_eq, decide_eq_false_iff_not, Bool.and_eq_true, Bool.or_eq_true, Bool.and_eq_false_iff, Bool.or_eq_false_iff, Bool.not_eq_true', Bool.not_eq_false', beq_iff_eq, bne_iff_ne, beq_eq_false_iff_ne, bne_eq_false_iff_eq, Int.not_lt, Int.not_le, ne_eq] at hg_)))
    | ((fail_if_success (refine Go.Proofs.Ytiokllhoaaamiaa.M.lit_t rfl ?_)); (fail_if_success (refine Go.Proofs.Ytiokllhoaaamiaa.M.lit_f rfl ?_)); refine Go.Proofs.Ytiokllhoaaamiaa.M.split_guard rfl rfl ?_ ?_ <;> (intro hg_; simp only [hg_]; try simp only [decide_eq_true_eq, decide_eq_false_iff_not, Bool.and_eq_true, Bool.or_eq_true, Bool.and_eq_false_iff, Bool.or_eq_false_iff, Bool.not_eq_true', Bool.not_eq_false', beq_iff_eq, bne_iff_ne, beq_eq_false_iff_ne, bne_eq_false_iff_eq, Int.not_lt, Int.not_le, ne_eq] at hg_)))
  go_ret
  exact ⟨_, _, rfl, ⟨rfl, rfl⟩, HM.drop (A := [_])⟩
/-- The first label of a name, or -1. -/
def idxV (s : ByteArray) : Int := match (List.range 19).find? (fun i => (nm i).toList == s.toList) with | some i => i | none => -1
theorem idxV_at {s : ByteArray} {k : Nat} (hk : k < 19) (h : ((nm k).toList == s.toList) = true) (hn : ∀ j, j < k → ((nm j).toList == s.toList) = false) : idxV s = k := by
  unfold idxV
  have : (List.range 19).find? (fun i => (nm i).toList == s.toList) = some k := by
    rw [List.find?_range_eq_some]
    exact ⟨h, by simpa using hk, fun j hj => by simp only [hn j hj]; rfl⟩
  rw [this]
theorem idxV_none {s : ByteArray} (hn : ∀ j, j < 19 → ((nm j).toList == s.toList) = false) : idxV s = -1 := by
  unfold idxV
  have : (List.range 19).find? (fun i => (nm i).toList == s.toList) = none := by
    rw [List.find?_eq_none]
    intro j hj
    rw [hn j (by simpa using hj)]; simp
  rw [this]
set_option maxHeartbeats 1000000 in
theorem index_any (s : ByteArray) (g h : Nat) : Does Try.prog 43 #[.slice (some ⟨g, 0, none⟩) 19 19, .func (.func 45) #[] #[.pointer (some ⟨h, 0, none⟩)]] [(h, row #[.string s] 9), (g, row labCells 76)]
    fun v L => v = .int .i64 (idxV s) ∧ L = [(h, row #[.string s] 9), (g, row labCells 76)] := by
  intro w hH
  have HM := Mem.start hH
  go_enter Try.func43, Try.ntmps43
  go_wp2_with (first
    | (refine Go.Proofs.Ytiokllhoaaamiaa.M.at_mem rfl ?_; first | (refine Go.Proofs.Ytiokllhoaaamiaa.M.at_load 76 rfl ?_; first | (refine Go.Proofs.Ytiokllhoaaamiaa.M.load_row_m HM rfl 76 _ rfl 0 _ _ _ rfl rfl (by kernel_rfl) (by kernel_rfl) ?_; go_simp) | (refine Go.Proofs.Ytiokllhoaaamiaa.M.load_row_m HM rfl 76 _ rfl 1 _ _ _ rfl rfl (by kernel_rfl) (by kernel_rfl) ?_; go_simp)) | ((fail_if_success (refine Go.Proofs.Ytiokllhoaaamiaa.M.lit_t rfl ?_)); (fail_if_success (refine Go.Proofs.Ytiokllhoaaamiaa.M.lit_f rfl ?_)); refine Go.Proofs.Ytiokllhoaaamiaa.M.split_guard rfl rfl ?_ ?_ <;> (intro hg_; simp only [hg_]; try simp only [decide_eq_true_eq, decide_eq_false_iff_not, Bool.and_eq_true, Bool.or_eq_true, Bool.and_eq_false_iff, Bool.or_eq_false_iff, Bool.not_eq_true', Bool.not_eq_false', beq_iff_eq, bne_iff_ne, beq_eq_false_iff_ne, bne_eq_false_iff_eq, Int.not_lt, Int.not_le, ne_eq] at hg_)))
    | ((fail_if_success (refine Go.Proofs.Ytiokllhoaaamiaa.M.lit_t rfl ?_)); (fail_if_success (refine Go.Proofs.Ytiokllhoaaamiaa.M.lit_f rfl ?_)); refine Go.Proofs.Ytiokllhoaaamiaa.M.split_guard rfl rfl ?_ ?_ <;> (intro hg_; simp only [hg_]; try simp only [decide_eq_true_eq, decide_eq_false_iff_not, Bool.and_eq_true, Bool.or_eq_true, Bool.and_eq_false_iff, Bool.or_eq_false_iff, Bool.not_eq_true', Bool.not_eq_false', beq_iff_eq, bne_iff_ne, beq_eq_false_iff_ne, bne_eq_false_iff_eq, Int.not_lt, Int.not_le, ne_eq] at hg_)))
  go_loopw [8] (fun iv wr => ∃ k : Nat, k ≤ 19 ∧ iv = .int .i64 k ∧ (∀ j, j < k → ((nm j).toList == s.toList) = false) ∧ Mem w [h, g] [(h, row #[.string s] 9), (g, row labCells 76)] wr) (fun iv _ => 19 - (intOf iv).toNat)
  case atStart => exact ⟨0, by omega, rfl, fun j hj => absurd hj (Nat.not_lt_zero _), HM⟩
  case round =>
    clear HM
    obtain ⟨k, k19, rfl, hno, HM⟩ := hrel
    by_cases hlt : k < 19
    · have hE := lab_part k hlt
      have HNO := Lib.hid hno; clear hno
      have CS := fun n k r => same_any n s k r h
      have HX : (nm k).toList == s.toList → idxV s = k := fun e => idxV_at hlt e HNO.out
      have HX := Lib.hid HX
      have HF : ((nm k).toList == s.toList) = false → ∀ j, j < k + 1 → ((nm j).toList == s.toList) = false := fun e j hj => by
        by_cases ej : j = k
        · subst ej; exact e
        · exact HNO.out j (by omega)
      have HF := Lib.hid HF
      generalize nm k = n at hE HX HF; generalize kd k = kk at hE; generalize ar k = rr at hE
      have hsz : labCells.size = 57 := rfl
      have HE := Lib.hid hE; clear hE
      have HS := Lib.hid (show k * 3 + 3 ≤ labCells.size by omega); clear hsz
      go_wp2_with (first
        | (refine Go.Proofs.Ytiokllhoaaamiaa.Sl.at_indexAddr 84 rfl ?_; refine Go.Proofs.Ytiokllhoaaamiaa.Sl.indexAddr_m rfl _ rfl 84 rfl 76 (by kernel_rfl) 3 (by kernel_rfl) _ 0 19 19 rfl .i64 (k : Int) rfl (by omega) (by omega) (k * 3) (by omega) ?_; go_simp)
        | (go_at_call 45; (with_reducible refine (Go.Proofs.Ytiokllhoaaamiaa.M.Does.call (CS _ _ _) HM (Go.Proofs.Ytiokllhoaaamiaa.M.perm_at 0 rfl)).mono ?_); clear HM; rintro e w_ ⟨v_, L_, rfl, ⟨rfl, rfl⟩, HM⟩; (try simp only [List.set_cons_zero, List.set_cons_succ, List.setIfInBounds_toArray, List.eraseIdx_cons_zero, List.eraseIdx_cons_succ, List.cons_append, List.nil_append] at HM); dsimp only)
        | (refine Go.Proofs.Ytiokllhoaaamiaa.M.at_mem rfl ?_; first | (refine Go.Proofs.Ytiokllhoaaamiaa.M.at_load 76 rfl ?_; first | (refine Go.Proofs.Ytiokllhoaaamiaa.M.load_part_m HM rfl 76 _ rfl 1 _ _ 3 _ labCells rfl rfl HS.out _ HE.out (by kernel_rfl) (by kernel_rfl) ?_; go_simp) | (refine Go.Proofs.Ytiokllhoaaamiaa.M.load_row_m HM rfl 76 _ rfl 0 _ _ _ rfl rfl (by kernel_rfl) (by kernel_rfl) ?_; go_simp) | (refine Go.Proofs.Ytiokllhoaaamiaa.M.load_row_m HM rfl 76 _ rfl 1 _ _ _ rfl rfl (by kernel_rfl) (by kernel_rfl) ?_; go_simp)) | ((fail_if_success (refine Go.Proofs.Ytiokllhoaaamiaa.M.lit_t rfl ?_)); (fail_if_success (refine Go.Proofs.Ytiokllhoaaamiaa.M.lit_f rfl ?_)); refine Go.Proofs.Ytiokllhoaaamiaa.M.split_guard rfl rfl ?_ ?_ <;> (intro hg_; simp only [hg_]; try simp only [decide_eq_true_eq, decide_eq_false_iff_not, Bool.and_eq_true, Bool.or_eq_true, Bool.and_eq_false_iff, Bool.or_eq_false_iff, Bool.not_eq_true', Bool.not_eq_false', beq_iff_eq, bne_iff_ne, beq_eq_false_iff_ne, bne_eq_false_iff_eq, Int.not_lt, Int.not_le, ne_eq] at hg_)))
        | ((fail_if_success (refine Go.Proofs.Ytiokllhoaaamiaa.M.lit_t rfl ?_)); (fail_if_success (refine Go.Proofs.Ytiokllhoaaamiaa.M.lit_f rfl ?_)); refine Go.Proofs.Ytiokllhoaaamiaa.M.split_guard rfl rfl ?_ ?_ <;> (intro hg_; simp only [hg_]; try simp only [decide_eq_true_eq, decide_eq_false_iff_not, Bool.and_eq_true, Bool.or_eq_true, Bool.and_eq_false_iff, Bool.or_eq_false_iff, Bool.not_eq_true', Bool.not_eq_false', beq_iff_eq, bne_iff_ne, beq_eq_false_iff_ne, bne_eq_false_iff_eq, Int.not_lt, Int.not_le, ne_eq] at hg_)))
      all_goals
        first
        | (go_ret
           exact ⟨_, _, rfl, ⟨by rw [HX.out (by assumption)]; rfl, rfl⟩, HM⟩)
        | (go_roundw
           case rel => exact ⟨k + 1, by omega, by first | rfl | (refine congrArg (fun z => Value.int .i64 z) ?_; omega), HF.out (by first | assumption | (simp only [Bool.not_eq_true] at *; assumption)), HM⟩
           case measure => simp [intOf]; omega)
    · obtain rfl : k = 19 := by omega
      have HV := Lib.hid (idxV_none hno); clear hno
      go_wp2_with (first
        | (refine Go.Proofs.Ytiokllhoaaamiaa.M.at_mem rfl ?_; first | (refine Go.Proofs.Ytiokllhoaaamiaa.M.at_load 76 rfl ?_; first | (refine Go.Proofs.Ytiokllhoaaamiaa.M.load_row_m HM rfl 76 _ rfl 0 _ _ _ rfl rfl (by kernel_rfl) (by kernel_rfl) ?_; go_simp) | (refine Go.Proofs.Ytiokllhoaaamiaa.M.load_row_m HM rfl 76 _ rfl 1 _ _ _ rfl rfl (by kernel_rfl) (by kernel_rfl) ?_; go_simp)) | ((fail_if_success (refine Go.Proofs.Ytiokllhoaaamiaa.M.lit_t rfl ?_)); (fail_if_success (refine Go.Proofs.Ytiokllhoaaamiaa.M.lit_f rfl ?_)); refine Go.Proofs.Ytiokllhoaaamiaa.M.split_guard rfl rfl ?_ ?_ <;> (intro hg_; simp only [hg_]; try simp only [decide_eq_true_eq, decide_eq_false_iff_not, Bool.and_eq_true, Bool.or_eq_true, Bool.and_eq_false_iff, Bool.or_eq_false_iff, Bool.not_eq_true', Bool.not_eq_false', beq_iff_eq, bne_iff_ne, beq_eq_false_iff_ne, bne_eq_false_iff_eq, Int.not_lt, Int.not_le, ne_eq] at hg_)))
        | ((fail_if_success (refine Go.Proofs.Ytiokllhoaaamiaa.M.lit_t rfl ?_)); (fail_if_success (refine Go.Proofs.Ytiokllhoaaamiaa.M.lit_f rfl ?_)); refine Go.Proofs.Ytiokllhoaaamiaa.M.split_guard rfl rfl ?_ ?_ <;> (intro hg_; simp only [hg_]; try simp only [decide_eq_true_eq, decide_eq_false_iff_not, Bool.and_eq_true, Bool.or_eq_true, Bool.and_eq_false_iff, Bool.or_eq_false_iff, Bool.not_eq_true', Bool.not_eq_false', beq_iff_eq, bne_iff_ne, beq_eq_false_iff_ne, bne_eq_false_iff_eq, Int.not_lt, Int.not_le, ne_eq] at hg_)))
      go_ret
      exact ⟨_, _, rfl, ⟨by rw [HV.out]; rfl, rfl⟩, HM⟩
set_option maxHeartbeats 1000000 in
theorem label_any (s : ByteArray) (w : World) : Calls Try.prog 31 #[.string s] w fun e w' => e = .returned (.tuple #[.int .i64 (idxV s + 1), .bool (decide (0 ≤ idxV s))]) ∧ Below w.heap.size w w' := by
  have CI := fun g h => index_any s g h
  have hi : -1 ≤ idxV s ∧ idxV s < 19 := by
    unfold idxV
    split
    · rename_i i hi
      have := List.mem_of_find?_eq_some hi
      simp at this; omega
    · omega
  generalize idxV s = v at CI hi ⊢
  have HM := Mem.nil w
  go_enter Try.func31, Try.ntmps31
  go_wp2_with (first
    | (go_at_call 44; (with_reducible refine (Go.Proofs.Ytiokllhoaaamiaa.M.Does.call (labels_any) HM (List.Perm.refl _)).mono ?_); clear HM; rintro e w_ ⟨v_, L_, rfl, ⟨g_, rfl, rfl⟩, HM⟩; (try simp only [List.set_cons_zero, List.set_cons_succ, List.setIfInBounds_toArray, List.eraseIdx_cons_zero, List.eraseIdx_cons_succ, List.cons_append, List.nil_append] at HM); dsimp only)
    | (go_at_call 43; (with_reducible refine (Go.Proofs.Ytiokllhoaaamiaa.M.Does.call (CI _ _) HM (Go.Proofs.Ytiokllhoaaamiaa.M.perm2 1 0 rfl rfl)).mono ?_); clear HM; rintro e w_ ⟨v_, L_, rfl, ⟨rfl, rfl⟩, HM⟩; (try simp only [List.set_cons_zero, List.set_cons_succ, List.setIfInBounds_toArray, List.eraseIdx_cons_zero, List.eraseIdx_cons_succ, List.cons_append, List.nil_append] at HM); dsimp only)
    | (refine Go.Proofs.Ytiokllhoaaamiaa.M.at_mem rfl ?_; first | (refine Go.Proofs.Ytiokllhoaaamiaa.M.at_box 9 rfl ?_; first | (refine Go.Proofs.Ytiokllhoaaamiaa.M.box1_m HM rfl rfl 9 _ rfl _ rfl rfl ?_; clear HM; intro g_ w_ HM; go_simp)) | ((fail_if_success (refine Go.Proofs.Ytiokllhoaaamiaa.M.lit_t rfl ?_)); (fail_if_success (refine Go.Proofs.Ytiokllhoaaamiaa.M.lit_f rfl ?_)); refine Go.Proofs.Ytiokllhoaaamiaa.M.split_guard rfl rfl ?_ ?_ <;> (intro hg_; simp only [hg_]; try simp only [decide_eq_true_eq, decide_eq_false_iff_not, Bool.and_eq_true, Bool.or_eq_true, Bool.and_eq_false_iff, Bool.or_eq_false_iff, Bool.not_eq_true', Bool.not_eq_false', beq_iff_eq, bne_iff_ne, beq_eq_false_iff_ne, bne_eq_false_iff_eq, Int.not_lt, Int.not_le, ne_eq] at hg_)))
    | ((fail_if_success (refine Go.Proofs.Ytiokllhoaaamiaa.M.lit_t rfl ?_)); (fail_if_success (refine Go.Proofs.Ytiokllhoaaamiaa.M.lit_f rfl ?_)); refine Go.Proofs.Ytiokllhoaaamiaa.M.split_guard rfl rfl ?_ ?_ <;> (intro hg_; simp only [hg_]; try simp only [decide_eq_true_eq, decide_eq_false_iff_not, Bool.and_eq_true, Bool.or_eq_true, Bool.and_eq_false_iff, Bool.or_eq_false_iff, Bool.not_eq_true', Bool.not_eq_false', beq_iff_eq, bne_iff_ne, beq_eq_false_iff_ne, bne_eq_false_iff_eq, Int.not_lt, Int.not_le, ne_eq] at hg_)))
  go_ret2
  refine ⟨?_, HM.none.to_below⟩
  simp [*]
end Go.Proofs.Ytiokllhoaaamiaa.Pd
