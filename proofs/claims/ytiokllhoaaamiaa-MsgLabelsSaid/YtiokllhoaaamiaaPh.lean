/- The law MsgLabels walked. -/
import Derived.Test.YtiokllhoaaamiaaProg
import Derived.Test.YtiokllhoaaamiaaPg
namespace Go.Proofs.Ytiokllhoaaamiaa.Ph
open Go.RowKit Go.Proofs.Ytiokllhoaaamiaa.G Go.Proofs.Ytiokllhoaaamiaa.B Go.Proofs.Ytiokllhoaaamiaa.M Go.Proofs.Ytiokllhoaaamiaa.Mv Go.Proofs.Ytiokllhoaaamiaa.Sm Go.Proofs.Ytiokllhoaaamiaa.Pa Go.Proofs.Ytiokllhoaaamiaa.Pb Go.Proofs.Ytiokllhoaaamiaa.Pc Go.Proofs.Ytiokllhoaaamiaa.Pd Go.Proofs.Ytiokllhoaaamiaa.Pg
set_option linter.unusedVariables false
set_option linter.unusedSimpArgs false
set_option maxRecDepth 100000
set_option maxHeartbeats 4000000 in
theorem known_T (i : Nat) (hi : i < 19) (s : ByteArray) (h0 : 0 ≤ Pd.idxV s) (w : World) : Calls Try.prog 7 #[.int .i64 (i + 1), .string s] w fun e w' => e = .returned (.bool true) ∧ Below w.heap.size w w' := by
  have CA := anchor_any
  have CN := fun w => need_ok i hi (i + 1) rfl w
  have CM := fun w => name_ok i hi (i + 1) rfl w
  have CL := fun w => label_any s w
  rw [show decide (0 ≤ Pd.idxV s) = true by simp [h0]] at CL
  have hv := nm_cell i hi; have hk := kd_cell i hi; have ha := ar_cell i hi
  have HS : ∀ k : Nat, k < 19 → ((nm k).toList == s.toList) = true → (∀ j, j < k → ((nm j).toList == s.toList) = false) → Pd.idxV s = k := fun k hk h hn => idxV_at hk h hn
  have HN : (∀ j, j < 19 → ((nm j).toList == s.toList) = false) → Pd.idxV s = -1 := idxV_none
  generalize Pd.idxV s = iv at CL HS HN h0
  have hi1 : (i : Int) < 19 := by omega
  have hi2 : (i : Int).toNat = i := by omega
  generalize nm i = n at CM hv; generalize kd i = kk at CN hk; generalize ar i = aa at CN ha
  have HV := Lib.hid (show nmCells[(i : Int).toNat]? = some (.string n) by rw [hi2]; exact hv); have HK := Lib.hid (show kdCells[(i : Int).toNat]? = some (.int .i64 kk) by rw [hi2]; exact hk); have HA := Lib.hid (show arCells[(i : Int).toNat]? = some (.int .i64 aa) by rw [hi2]; exact ha)
  have HS := Lib.hid HS; have HN := Lib.hid HN
  clear hv hk ha hi hi2
  have HM := Mem.nil w
  go_enter Try.func7, Try.ntmps7
  go_wp2_with (first
    | (go_big_skip)
    | (refine Go.Proofs.Ytiokllhoaaamiaa.Sl.at_index 59 rfl ?_; refine Go.Proofs.Ytiokllhoaaamiaa.Sl.index_m rfl _ rfl 59 rfl 19 9 (by kernel_rfl) (by kernel_rfl) (by kernel_rfl) (by kernel_rfl) nmCells rfl .i64 (i : Int) rfl (by omega) (by omega) _ HV.out ?_; go_simp)
    | (refine Go.Proofs.Ytiokllhoaaamiaa.Sl.at_index 37 rfl ?_; refine Go.Proofs.Ytiokllhoaaamiaa.Sl.index_m rfl _ rfl 37 rfl 19 3 (by kernel_rfl) (by kernel_rfl) (by kernel_rfl) (by kernel_rfl) kdCells rfl .i64 (i : Int) rfl (by omega) (by omega) _ HK.out ?_; go_simp)
    | (refine Go.Proofs.Ytiokllhoaaamiaa.Sl.at_index 37 rfl ?_; refine Go.Proofs.Ytiokllhoaaamiaa.Sl.index_m rfl _ rfl 37 rfl 19 3 (by kernel_rfl) (by kernel_rfl) (by kernel_rfl) (by kernel_rfl) arCells rfl .i64 (i : Int) rfl (by omega) (by omega) _ HA.out ?_; go_simp)
    | (go_at_call 13; (with_reducible refine (Go.Proofs.Ytiokllhoaaamiaa.M.call_pure (CA) HM).mono ?_); clear HM; rintro e w_ ⟨rfl, HM⟩; dsimp only)
    | (go_at_call 27; (with_reducible refine (Go.Proofs.Ytiokllhoaaamiaa.M.call_pure (CN) HM).mono ?_); clear HM; rintro e w_ ⟨rfl, HM⟩; dsimp only)
    | (go_at_call 28; (with_reducible refine (Go.Proofs.Ytiokllhoaaamiaa.M.call_pure (CM) HM).mono ?_); clear HM; rintro e w_ ⟨rfl, HM⟩; dsimp only)
    | (go_at_call 31; (with_reducible refine (Go.Proofs.Ytiokllhoaaamiaa.M.call_pure (CL) HM).mono ?_); clear HM; rintro e w_ ⟨rfl, HM⟩; dsimp only)
    | (go_at_call 29; (with_reducible refine (Go.Proofs.Ytiokllhoaaamiaa.M.call_pure (names_any) HM).mono ?_); clear HM; rintro e w_ ⟨rfl, HM⟩; dsimp only)
    | (go_at_call 30; (with_reducible refine (Go.Proofs.Ytiokllhoaaamiaa.M.call_pure (kinds_any) HM).mono ?_); clear HM; rintro e w_ ⟨rfl, HM⟩; dsimp only)
    | (go_at_call 16; (with_reducible refine (Go.Proofs.Ytiokllhoaaamiaa.M.call_pure (args_any) HM).mono ?_); clear HM; rintro e w_ ⟨rfl, HM⟩; dsimp only)
    | (refine Go.Proofs.Ytiokllhoaaamiaa.Mc.at_cmp _ rfl ?_; refine Go.Proofs.Ytiokllhoaaamiaa.Mc.cmp_m rfl _ rfl _ _ _ rfl _ _ _ rfl rfl _ rfl ?_ ?_ <;> (intro hg_; try simp only [decide_eq_true_eq, decide_eq_false_iff_not, Bool.and_eq_true, Bool.or_eq_true, Bool.and_eq_false_iff, Bool.or_eq_false_iff, Bool.not_eq_true', Bool.not_eq_false', beq_iff_eq, bne_iff_ne, beq_eq_false_iff_ne, bne_eq_false_iff_eq, Int.not_lt, Int.not_le, ne_eq] at hg_; first | (exfalso; first | omega | (simp at hg_; done)) | go_simp))
    | ((fail_if_success (refine Go.Proofs.Ytiokllhoaaamiaa.M.lit_t rfl ?_)); (fail_if_success (refine Go.Proofs.Ytiokllhoaaamiaa.M.lit_f rfl ?_)); refine Go.Proofs.Ytiokllhoaaamiaa.M.split_guard rfl rfl ?_ ?_ <;> (intro hg_; simp only [hg_]; try simp only [decide_eq_true_eq, decide_eq_false_iff_not, Bool.and_eq_true, Bool.or_eq_true, Bool.and_eq_false_iff, Bool.or_eq_false_iff, Bool.not_eq_true', Bool.not_eq_false', beq_iff_eq, bne_iff_ne, beq_eq_false_iff_ne, bne_eq_false_iff_eq, Int.not_lt, Int.not_le, ne_eq] at hg_)))
  clear CA CN CM CL HV HK HA
  go_loopw [75] (fun v wr => ∃ k : Nat, k ≤ 19 ∧ v = .int .i64 k ∧ (∀ j, j < k → ((nm j).toList == s.toList) = false) ∧ Mem w [] [] wr) (fun v _ => 19 - (intOf v).toNat)
  case atStart => exact ⟨0, by omega, rfl, fun j hj => absurd hj (Nat.not_lt_zero _), HM.none⟩
  case round =>
    clear HM
    obtain ⟨k, k19, rfl, hno, HM⟩ := hrel
    by_cases hlt : k < 19
    · have HX : ((nm k).toList == s.toList) = true → iv = k := fun e => HS.out k hlt e hno
      have HF : ((nm k).toList == s.toList) = false → ∀ j, j < k + 1 → ((nm j).toList == s.toList) = false := fun e j hj => by
        by_cases ej : j = k
        · subst ej; exact e
        · exact hno j (by omega)
      have hv := nm_cell k hlt
      have hk1 : (k : Int) < 19 := by omega
      have hk2 : (k : Int).toNat = k := by omega
      generalize nm k = n2 at HX HF hv
      have HX := Lib.hid HX; have HF := Lib.hid HF
      have HW := Lib.hid (show nmCells[(k : Int).toNat]? = some (.string n2) by rw [hk2]; exact hv)
      clear hno hv hk2
      go_wp2_with (first
        | (go_big_skip)
        | (refine Go.Proofs.Ytiokllhoaaamiaa.Sl.at_index 59 rfl ?_; refine Go.Proofs.Ytiokllhoaaamiaa.Sl.index_m rfl _ rfl 59 rfl 19 9 (by kernel_rfl) (by kernel_rfl) (by kernel_rfl) (by kernel_rfl) nmCells rfl .i64 (k : Int) rfl (by omega) (by omega) _ HW.out ?_; go_simp)
        | (refine Go.Proofs.Ytiokllhoaaamiaa.Mc.at_cmp _ rfl ?_; refine Go.Proofs.Ytiokllhoaaamiaa.Mc.cmp_m rfl _ rfl _ _ _ rfl _ _ _ rfl rfl _ rfl ?_ ?_ <;> (intro hg_; try simp only [decide_eq_true_eq, decide_eq_false_iff_not, Bool.and_eq_true, Bool.or_eq_true, Bool.and_eq_false_iff, Bool.or_eq_false_iff, Bool.not_eq_true', Bool.not_eq_false', beq_iff_eq, bne_iff_ne, beq_eq_false_iff_ne, bne_eq_false_iff_eq, Int.not_lt, Int.not_le, ne_eq] at hg_; first | (exfalso; first | omega | (simp at hg_; done)) | go_simp))
        | ((fail_if_success (refine Go.Proofs.Ytiokllhoaaamiaa.M.lit_t rfl ?_)); (fail_if_success (refine Go.Proofs.Ytiokllhoaaamiaa.M.lit_f rfl ?_)); refine Go.Proofs.Ytiokllhoaaamiaa.M.split_guard rfl rfl ?_ ?_ <;> (intro hg_; simp only [hg_]; try simp only [decide_eq_true_eq, decide_eq_false_iff_not, Bool.and_eq_true, Bool.or_eq_true, Bool.and_eq_false_iff, Bool.or_eq_false_iff, Bool.not_eq_true', Bool.not_eq_false', beq_iff_eq, bne_iff_ne, beq_eq_false_iff_ne, bne_eq_false_iff_eq, Int.not_lt, Int.not_le, ne_eq] at hg_)))
      all_goals
        first
        | (have e_ := HX.out (by assumption)
           exfalso; omega)
        | (go_ret
           have e_ := HX.out (by assumption)
           exact ⟨by first | rfl | simp [e_], HM.none.to_below⟩)
        | (go_roundw
           case rel => exact ⟨k + 1, by omega, by first | rfl | (refine congrArg (fun z => Value.int .i64 z) ?_; omega), HF.out (by first | assumption | (simp only [Bool.not_eq_true] at *; assumption)), HM⟩
           case measure => simp [intOf]; omega)
    · obtain rfl : k = 19 := by omega
      have e_ := HN.out hno
      go_wp2_with (first
        | (go_big_skip)
        | (refine Go.Proofs.Ytiokllhoaaamiaa.Mc.at_cmp _ rfl ?_; refine Go.Proofs.Ytiokllhoaaamiaa.Mc.cmp_m rfl _ rfl _ _ _ rfl _ _ _ rfl rfl _ rfl ?_ ?_ <;> (intro hg_; try simp only [decide_eq_true_eq, decide_eq_false_iff_not, Bool.and_eq_true, Bool.or_eq_true, Bool.and_eq_false_iff, Bool.or_eq_false_iff, Bool.not_eq_true', Bool.not_eq_false', beq_iff_eq, bne_iff_ne, beq_eq_false_iff_ne, bne_eq_false_iff_eq, Int.not_lt, Int.not_le, ne_eq] at hg_; first | (exfalso; first | omega | (simp at hg_; done)) | go_simp))
        | ((fail_if_success (refine Go.Proofs.Ytiokllhoaaamiaa.M.lit_t rfl ?_)); (fail_if_success (refine Go.Proofs.Ytiokllhoaaamiaa.M.lit_f rfl ?_)); refine Go.Proofs.Ytiokllhoaaamiaa.M.split_guard rfl rfl ?_ ?_ <;> (intro hg_; simp only [hg_]; try simp only [decide_eq_true_eq, decide_eq_false_iff_not, Bool.and_eq_true, Bool.or_eq_true, Bool.and_eq_false_iff, Bool.or_eq_false_iff, Bool.not_eq_true', Bool.not_eq_false', beq_iff_eq, bne_iff_ne, beq_eq_false_iff_ne, bne_eq_false_iff_eq, Int.not_lt, Int.not_le, ne_eq] at hg_)))
      all_goals
        first
        | (exfalso; omega)
        | (go_ret
           exact ⟨by first | rfl | simp [e_], HM.none.to_below⟩)
set_option maxHeartbeats 4000000 in
theorem known_F (i : Nat) (hi : i < 19) (s : ByteArray) (h0 : Pd.idxV s = -1) (w : World) : Calls Try.prog 7 #[.int .i64 (i + 1), .string s] w fun e w' => e = .returned (.bool true) ∧ Below w.heap.size w w' := by
  have CA := anchor_any
  have CN := fun w => need_ok i hi (i + 1) rfl w
  have CM := fun w => name_ok i hi (i + 1) rfl w
  have CL : ∀ w, Calls Try.prog 31 #[.string s] w fun e w' => e = .returned (.tuple #[.int .i64 0, .bool false]) ∧ Below w.heap.size w w' := fun w => by
    have := label_any s w
    rw [h0] at this
    exact this
  have hv := nm_cell i hi; have hk := kd_cell i hi; have ha := ar_cell i hi
  have HS : ∀ k : Nat, k < 19 → ((nm k).toList == s.toList) = true → (∀ j, j < k → ((nm j).toList == s.toList) = false) → Pd.idxV s = k := fun k hk h hn => idxV_at hk h hn
  have HN : (∀ j, j < 19 → ((nm j).toList == s.toList) = false) → Pd.idxV s = -1 := idxV_none
  generalize Pd.idxV s = iv at CL HS HN h0
  have hi1 : (i : Int) < 19 := by omega
  have hi2 : (i : Int).toNat = i := by omega
  generalize nm i = n at CM hv; generalize kd i = kk at CN hk; generalize ar i = aa at CN ha
  have HV := Lib.hid (show nmCells[(i : Int).toNat]? = some (.string n) by rw [hi2]; exact hv); have HK := Lib.hid (show kdCells[(i : Int).toNat]? = some (.int .i64 kk) by rw [hi2]; exact hk); have HA := Lib.hid (show arCells[(i : Int).toNat]? = some (.int .i64 aa) by rw [hi2]; exact ha)
  have HS := Lib.hid HS; have HN := Lib.hid HN
  clear hv hk ha hi hi2
  have HM := Mem.nil w
  go_enter Try.func7, Try.ntmps7
  go_wp2_with (first
    | (go_big_skip)
    | (refine Go.Proofs.Ytiokllhoaaamiaa.Sl.at_index 59 rfl ?_; refine Go.Proofs.Ytiokllhoaaamiaa.Sl.index_m rfl _ rfl 59 rfl 19 9 (by kernel_rfl) (by kernel_rfl) (by kernel_rfl) (by kernel_rfl) nmCells rfl .i64 (i : Int) rfl (by omega) (by omega) _ HV.out ?_; go_simp)
    | (refine Go.Proofs.Ytiokllhoaaamiaa.Sl.at_index 37 rfl ?_; refine Go.Proofs.Ytiokllhoaaamiaa.Sl.index_m rfl _ rfl 37 rfl 19 3 (by kernel_rfl) (by kernel_rfl) (by kernel_rfl) (by kernel_rfl) kdCells rfl .i64 (i : Int) rfl (by omega) (by omega) _ HK.out ?_; go_simp)
    | (refine Go.Proofs.Ytiokllhoaaamiaa.Sl.at_index 37 rfl ?_; refine Go.Proofs.Ytiokllhoaaamiaa.Sl.index_m rfl _ rfl 37 rfl 19 3 (by kernel_rfl) (by kernel_rfl) (by kernel_rfl) (by kernel_rfl) arCells rfl .i64 (i : Int) rfl (by omega) (by omega) _ HA.out ?_; go_simp)
    | (go_at_call 13; (with_reducible refine (Go.Proofs.Ytiokllhoaaamiaa.M.call_pure (CA) HM).mono ?_); clear HM; rintro e w_ ⟨rfl, HM⟩; dsimp only)
    | (go_at_call 27; (with_reducible refine (Go.Proofs.Ytiokllhoaaamiaa.M.call_pure (CN) HM).mono ?_); clear HM; rintro e w_ ⟨rfl, HM⟩; dsimp only)
    | (go_at_call 28; (with_reducible refine (Go.Proofs.Ytiokllhoaaamiaa.M.call_pure (CM) HM).mono ?_); clear HM; rintro e w_ ⟨rfl, HM⟩; dsimp only)
    | (go_at_call 31; (with_reducible refine (Go.Proofs.Ytiokllhoaaamiaa.M.call_pure (CL) HM).mono ?_); clear HM; rintro e w_ ⟨rfl, HM⟩; dsimp only)
    | (go_at_call 29; (with_reducible refine (Go.Proofs.Ytiokllhoaaamiaa.M.call_pure (names_any) HM).mono ?_); clear HM; rintro e w_ ⟨rfl, HM⟩; dsimp only)
    | (go_at_call 30; (with_reducible refine (Go.Proofs.Ytiokllhoaaamiaa.M.call_pure (kinds_any) HM).mono ?_); clear HM; rintro e w_ ⟨rfl, HM⟩; dsimp only)
    | (go_at_call 16; (with_reducible refine (Go.Proofs.Ytiokllhoaaamiaa.M.call_pure (args_any) HM).mono ?_); clear HM; rintro e w_ ⟨rfl, HM⟩; dsimp only)
    | (refine Go.Proofs.Ytiokllhoaaamiaa.Mc.at_cmp _ rfl ?_; refine Go.Proofs.Ytiokllhoaaamiaa.Mc.cmp_m rfl _ rfl _ _ _ rfl _ _ _ rfl rfl _ rfl ?_ ?_ <;> (intro hg_; try simp only [decide_eq_true_eq, decide_eq_false_iff_not, Bool.and_eq_true, Bool.or_eq_true, Bool.and_eq_false_iff, Bool.or_eq_false_iff, Bool.not_eq_true', Bool.not_eq_false', beq_iff_eq, bne_iff_ne, beq_eq_false_iff_ne, bne_eq_false_iff_eq, Int.not_lt, Int.not_le, ne_eq] at hg_; first | (exfalso; first | omega | (simp at hg_; done)) | go_simp))
    | ((fail_if_success (refine Go.Proofs.Ytiokllhoaaamiaa.M.lit_t rfl ?_)); (fail_if_success (refine Go.Proofs.Ytiokllhoaaamiaa.M.lit_f rfl ?_)); refine Go.Proofs.Ytiokllhoaaamiaa.M.split_guard rfl rfl ?_ ?_ <;> (intro hg_; simp only [hg_]; try simp only [decide_eq_true_eq, decide_eq_false_iff_not, Bool.and_eq_true, Bool.or_eq_true, Bool.and_eq_false_iff, Bool.or_eq_false_iff, Bool.not_eq_true', Bool.not_eq_false', beq_iff_eq, bne_iff_ne, beq_eq_false_iff_ne, bne_eq_false_iff_eq, Int.not_lt, Int.not_le, ne_eq] at hg_)))
  clear CA CN CM CL HV HK HA
  go_loopw [75] (fun v wr => ∃ k : Nat, k ≤ 19 ∧ v = .int .i64 k ∧ (∀ j, j < k → ((nm j).toList == s.toList) = false) ∧ Mem w [] [] wr) (fun v _ => 19 - (intOf v).toNat)
  case atStart => exact ⟨0, by omega, rfl, fun j hj => absurd hj (Nat.not_lt_zero _), HM.none⟩
  case round =>
    clear HM
    obtain ⟨k, k19, rfl, hno, HM⟩ := hrel
    by_cases hlt : k < 19
    · have HX : ((nm k).toList == s.toList) = true → iv = k := fun e => HS.out k hlt e hno
      have HF : ((nm k).toList == s.toList) = false → ∀ j, j < k + 1 → ((nm j).toList == s.toList) = false := fun e j hj => by
        by_cases ej : j = k
        · subst ej; exact e
        · exact hno j (by omega)
      have hv := nm_cell k hlt
      have hk1 : (k : Int) < 19 := by omega
      have hk2 : (k : Int).toNat = k := by omega
      generalize nm k = n2 at HX HF hv
      have HX := Lib.hid HX; have HF := Lib.hid HF
      have HW := Lib.hid (show nmCells[(k : Int).toNat]? = some (.string n2) by rw [hk2]; exact hv)
      clear hno hv hk2
      go_wp2_with (first
        | (go_big_skip)
        | (refine Go.Proofs.Ytiokllhoaaamiaa.Sl.at_index 59 rfl ?_; refine Go.Proofs.Ytiokllhoaaamiaa.Sl.index_m rfl _ rfl 59 rfl 19 9 (by kernel_rfl) (by kernel_rfl) (by kernel_rfl) (by kernel_rfl) nmCells rfl .i64 (k : Int) rfl (by omega) (by omega) _ HW.out ?_; go_simp)
        | (refine Go.Proofs.Ytiokllhoaaamiaa.Mc.at_cmp _ rfl ?_; refine Go.Proofs.Ytiokllhoaaamiaa.Mc.cmp_m rfl _ rfl _ _ _ rfl _ _ _ rfl rfl _ rfl ?_ ?_ <;> (intro hg_; try simp only [decide_eq_true_eq, decide_eq_false_iff_not, Bool.and_eq_true, Bool.or_eq_true, Bool.and_eq_false_iff, Bool.or_eq_false_iff, Bool.not_eq_true', Bool.not_eq_false', beq_iff_eq, bne_iff_ne, beq_eq_false_iff_ne, bne_eq_false_iff_eq, Int.not_lt, Int.not_le, ne_eq] at hg_; first | (exfalso; first | omega | (simp at hg_; done)) | go_simp))
        | ((fail_if_success (refine Go.Proofs.Ytiokllhoaaamiaa.M.lit_t rfl ?_)); (fail_if_success (refine Go.Proofs.Ytiokllhoaaamiaa.M.lit_f rfl ?_)); refine Go.Proofs.Ytiokllhoaaamiaa.M.split_guard rfl rfl ?_ ?_ <;> (intro hg_; simp only [hg_]; try simp only [decide_eq_true_eq, decide_eq_false_iff_not, Bool.and_eq_true, Bool.or_eq_true, Bool.and_eq_false_iff, Bool.or_eq_false_iff, Bool.not_eq_true', Bool.not_eq_false', beq_iff_eq, bne_iff_ne, beq_eq_false_iff_ne, bne_eq_false_iff_eq, Int.not_lt, Int.not_le, ne_eq] at hg_)))
      all_goals
        first
        | (have e_ := HX.out (by assumption)
           exfalso; omega)
        | (go_ret
           have e_ := HX.out (by assumption)
           exact ⟨by first | rfl | simp [e_], HM.none.to_below⟩)
        | (go_roundw
           case rel => exact ⟨k + 1, by omega, by first | rfl | (refine congrArg (fun z => Value.int .i64 z) ?_; omega), HF.out (by first | assumption | (simp only [Bool.not_eq_true] at *; assumption)), HM⟩
           case measure => simp [intOf]; omega)
    · obtain rfl : k = 19 := by omega
      have e_ := HN.out hno
      go_wp2_with (first
        | (go_big_skip)
        | (refine Go.Proofs.Ytiokllhoaaamiaa.Mc.at_cmp _ rfl ?_; refine Go.Proofs.Ytiokllhoaaamiaa.Mc.cmp_m rfl _ rfl _ _ _ rfl _ _ _ rfl rfl _ rfl ?_ ?_ <;> (intro hg_; try simp only [decide_eq_true_eq, decide_eq_false_iff_not, Bool.and_eq_true, Bool.or_eq_true, Bool.and_eq_false_iff, Bool.or_eq_false_iff, Bool.not_eq_true', Bool.not_eq_false', beq_iff_eq, bne_iff_ne, beq_eq_false_iff_ne, bne_eq_false_iff_eq, Int.not_lt, Int.not_le, ne_eq] at hg_; first | (exfalso; first | omega | (simp at hg_; done)) | go_simp))
        | ((fail_if_success (refine Go.Proofs.Ytiokllhoaaamiaa.M.lit_t rfl ?_)); (fail_if_success (refine Go.Proofs.Ytiokllhoaaamiaa.M.lit_f rfl ?_)); refine Go.Proofs.Ytiokllhoaaamiaa.M.split_guard rfl rfl ?_ ?_ <;> (intro hg_; simp only [hg_]; try simp only [decide_eq_true_eq, decide_eq_false_iff_not, Bool.and_eq_true, Bool.or_eq_true, Bool.and_eq_false_iff, Bool.or_eq_false_iff, Bool.not_eq_true', Bool.not_eq_false', beq_iff_eq, bne_iff_ne, beq_eq_false_iff_ne, bne_eq_false_iff_eq, Int.not_lt, Int.not_le, ne_eq] at hg_)))
      all_goals
        first
        | (exfalso; omega)
        | (go_ret
           exact ⟨by first | rfl | simp [e_], HM.none.to_below⟩)
set_option maxHeartbeats 4000000 in
theorem other_T (m : Int) (hm : m < 1 ∨ 19 < m) (hm2 : m ≤ 9223372036854775807) (s : ByteArray) (h0 : 0 ≤ Pd.idxV s) (w : World) : Calls Try.prog 7 #[.int .i64 m, .string s] w fun e w' => e = .returned (.bool true) ∧ Below w.heap.size w w' := by
  have CA := anchor_any
  have CN := fun w => need_no m hm hm2 w
  have CM := fun w => name_no m hm hm2 w
  have CL := fun w => label_any s w
  rw [show decide (0 ≤ Pd.idxV s) = true by simp [h0]] at CL
  have HS : ∀ k : Nat, k < 19 → ((nm k).toList == s.toList) = true → (∀ j, j < k → ((nm j).toList == s.toList) = false) → Pd.idxV s = k := fun k hk h hn => idxV_at hk h hn
  have HN : (∀ j, j < 19 → ((nm j).toList == s.toList) = false) → Pd.idxV s = -1 := idxV_none
  generalize Pd.idxV s = iv at CL HS HN h0
  have HS := Lib.hid HS; have HN := Lib.hid HN
  have HH := Lib.hid hm; clear hm
  have HM := Mem.nil w
  go_enter Try.func7, Try.ntmps7
  go_wp2_with (first
    | (go_big_skip)
    | (exfalso; have H_ := HH.out; omega)
    | (go_at_call 13; (with_reducible refine (Go.Proofs.Ytiokllhoaaamiaa.M.call_pure (CA) HM).mono ?_); clear HM; rintro e w_ ⟨rfl, HM⟩; dsimp only)
    | (go_at_call 27; (with_reducible refine (Go.Proofs.Ytiokllhoaaamiaa.M.call_pure (CN) HM).mono ?_); clear HM; rintro e w_ ⟨rfl, HM⟩; dsimp only)
    | (go_at_call 28; (with_reducible refine (Go.Proofs.Ytiokllhoaaamiaa.M.call_pure (CM) HM).mono ?_); clear HM; rintro e w_ ⟨rfl, HM⟩; dsimp only)
    | (go_at_call 31; (with_reducible refine (Go.Proofs.Ytiokllhoaaamiaa.M.call_pure (CL) HM).mono ?_); clear HM; rintro e w_ ⟨rfl, HM⟩; dsimp only)
    | (go_at_call 29; (with_reducible refine (Go.Proofs.Ytiokllhoaaamiaa.M.call_pure (names_any) HM).mono ?_); clear HM; rintro e w_ ⟨rfl, HM⟩; dsimp only)
    | (refine Go.Proofs.Ytiokllhoaaamiaa.Mc.at_cmp _ rfl ?_; refine Go.Proofs.Ytiokllhoaaamiaa.Mc.cmp_m rfl _ rfl _ _ _ rfl _ _ _ rfl rfl _ rfl ?_ ?_ <;> (intro hg_; try simp only [decide_eq_true_eq, decide_eq_false_iff_not, Bool.and_eq_true, Bool.or_eq_true, Bool.and_eq_false_iff, Bool.or_eq_false_iff, Bool.not_eq_true', Bool.not_eq_false', beq_iff_eq, bne_iff_ne, beq_eq_false_iff_ne, bne_eq_false_iff_eq, Int.not_lt, Int.not_le, ne_eq] at hg_; first | (exfalso; first | omega | (simp at hg_; done)) | go_simp))
    | ((fail_if_success (refine Go.Proofs.Ytiokllhoaaamiaa.M.lit_t rfl ?_)); (fail_if_success (refine Go.Proofs.Ytiokllhoaaamiaa.M.lit_f rfl ?_)); refine Go.Proofs.Ytiokllhoaaamiaa.M.split_guard rfl rfl ?_ ?_ <;> (intro hg_; simp only [hg_]; try simp only [decide_eq_true_eq, decide_eq_false_iff_not, Bool.and_eq_true, Bool.or_eq_true, Bool.and_eq_false_iff, Bool.or_eq_false_iff, Bool.not_eq_true', Bool.not_eq_false', beq_iff_eq, bne_iff_ne, beq_eq_false_iff_ne, bne_eq_false_iff_eq, Int.not_lt, Int.not_le, ne_eq] at hg_)))
  all_goals try (exfalso; have H_ := HH.out; omega)
  all_goals clear CA CN CM CL HH
  all_goals
    go_loopw [75] (fun v wr => ∃ k : Nat, k ≤ 19 ∧ v = .int .i64 k ∧ (∀ j, j < k → ((nm j).toList == s.toList) = false) ∧ Mem w [] [] wr) (fun v _ => 19 - (intOf v).toNat)
    case atStart => exact ⟨0, by omega, rfl, fun j hj => absurd hj (Nat.not_lt_zero _), HM.none⟩
    case round =>
      clear HM
      obtain ⟨k, k19, rfl, hno, HM⟩ := hrel
      by_cases hlt : k < 19
      · have HX : ((nm k).toList == s.toList) = true → iv = k := fun e => HS.out k hlt e hno
        have HF : ((nm k).toList == s.toList) = false → ∀ j, j < k + 1 → ((nm j).toList == s.toList) = false := fun e j hj => by
          by_cases ej : j = k
          · subst ej; exact e
          · exact hno j (by omega)
        have hv := nm_cell k hlt
        have hk1 : (k : Int) < 19 := by omega
        have hk2 : (k : Int).toNat = k := by omega
        generalize nm k = n2 at HX HF hv
        have HX := Lib.hid HX; have HF := Lib.hid HF
        have HW := Lib.hid (show nmCells[(k : Int).toNat]? = some (.string n2) by rw [hk2]; exact hv)
        clear hno hv hk2
        go_wp2_with (first
          | (go_big_skip)
          | (refine Go.Proofs.Ytiokllhoaaamiaa.Sl.at_index 59 rfl ?_; refine Go.Proofs.Ytiokllhoaaamiaa.Sl.index_m rfl _ rfl 59 rfl 19 9 (by kernel_rfl) (by kernel_rfl) (by kernel_rfl) (by kernel_rfl) nmCells rfl .i64 (k : Int) rfl (by omega) (by omega) _ HW.out ?_; go_simp)
          | (refine Go.Proofs.Ytiokllhoaaamiaa.Mc.at_cmp _ rfl ?_; refine Go.Proofs.Ytiokllhoaaamiaa.Mc.cmp_m rfl _ rfl _ _ _ rfl _ _ _ rfl rfl _ rfl ?_ ?_ <;> (intro hg_; try simp only [decide_eq_true_eq, decide_eq_false_iff_not, Bool.and_eq_true, Bool.or_eq_true, Bool.and_eq_false_iff, Bool.or_eq_false_iff, Bool.not_eq_true', Bool.not_eq_false', beq_iff_eq, bne_iff_ne, beq_eq_false_iff_ne, bne_eq_false_iff_eq, Int.not_lt, Int.not_le, ne_eq] at hg_; first | (exfalso; first | omega | (simp at hg_; done)) | go_simp))
          | ((fail_if_success (refine Go.Proofs.Ytiokllhoaaamiaa.M.lit_t rfl ?_)); (fail_if_success (refine Go.Proofs.Ytiokllhoaaamiaa.M.lit_f rfl ?_)); refine Go.Proofs.Ytiokllhoaaamiaa.M.split_guard rfl rfl ?_ ?_ <;> (intro hg_; simp only [hg_]; try simp only [decide_eq_true_eq, decide_eq_false_iff_not, Bool.and_eq_true, Bool.or_eq_true, Bool.and_eq_false_iff, Bool.or_eq_false_iff, Bool.not_eq_true', Bool.not_eq_false', beq_iff_eq, bne_iff_ne, beq_eq_false_iff_ne, bne_eq_false_iff_eq, Int.not_lt, Int.not_le, ne_eq] at hg_)))
        all_goals
          first
          | (have e_ := HX.out (by assumption)
             exfalso; omega)
          | (go_ret
             have e_ := HX.out (by assumption)
             exact ⟨by first | rfl | simp [e_], HM.none.to_below⟩)
          | (go_roundw
             case rel => exact ⟨k + 1, by omega, by first | rfl | (refine congrArg (fun z => Value.int .i64 z) ?_; omega), HF.out (by first | assumption | (simp only [Bool.not_eq_true] at *; assumption)), HM⟩
             case measure => simp [intOf]; omega)
      · obtain rfl : k = 19 := by omega
        have e_ := HN.out hno
        go_wp2_with (first
          | (go_big_skip)
          | (refine Go.Proofs.Ytiokllhoaaamiaa.Mc.at_cmp _ rfl ?_; refine Go.Proofs.Ytiokllhoaaamiaa.Mc.cmp_m rfl _ rfl _ _ _ rfl _ _ _ rfl rfl _ rfl ?_ ?_ <;> (intro hg_; try simp only [decide_eq_true_eq, decide_eq_false_iff_not, Bool.and_eq_true, Bool.or_eq_true, Bool.and_eq_false_iff, Bool.or_eq_false_iff, Bool.not_eq_true', Bool.not_eq_false', beq_iff_eq, bne_iff_ne, beq_eq_false_iff_ne, bne_eq_false_iff_eq, Int.not_lt, Int.not_le, ne_eq] at hg_; first | (exfalso; first | omega | (simp at hg_; done)) | go_simp))
          | ((fail_if_success (refine Go.Proofs.Ytiokllhoaaamiaa.M.lit_t rfl ?_)); (fail_if_success (refine Go.Proofs.Ytiokllhoaaamiaa.M.lit_f rfl ?_)); refine Go.Proofs.Ytiokllhoaaamiaa.M.split_guard rfl rfl ?_ ?_ <;> (intro hg_; simp only [hg_]; try simp only [decide_eq_true_eq, decide_eq_false_iff_not, Bool.and_eq_true, Bool.or_eq_true, Bool.and_eq_false_iff, Bool.or_eq_false_iff, Bool.not_eq_true', Bool.not_eq_false', beq_iff_eq, bne_iff_ne, beq_eq_false_iff_ne, bne_eq_false_iff_eq, Int.not_lt, Int.not_le, ne_eq] at hg_)))
        all_goals
          first
          | (exfalso; omega)
          | (go_ret
             exact ⟨by first | rfl | simp [e_], HM.none.to_below⟩)
set_option maxHeartbeats 4000000 in
theorem other_F (m : Int) (hm : m < 1 ∨ 19 < m) (hm2 : m ≤ 9223372036854775807) (s : ByteArray) (h0 : Pd.idxV s = -1) (w : World) : Calls Try.prog 7 #[.int .i64 m, .string s] w fun e w' => e = .returned (.bool true) ∧ Below w.heap.size w w' := by
  have CA := anchor_any
  have CN := fun w => need_no m hm hm2 w
  have CM := fun w => name_no m hm hm2 w
  have CL : ∀ w, Calls Try.prog 31 #[.string s] w fun e w' => e = .returned (.tuple #[.int .i64 0, .bool false]) ∧ Below w.heap.size w w' := fun w => by
    have := label_any s w
    rw [h0] at this
    exact this
  have HS : ∀ k : Nat, k < 19 → ((nm k).toList == s.toList) = true → (∀ j, j < k → ((nm j).toList == s.toList) = false) → Pd.idxV s = k := fun k hk h hn => idxV_at hk h hn
  have HN : (∀ j, j < 19 → ((nm j).toList == s.toList) = false) → Pd.idxV s = -1 := idxV_none
  generalize Pd.idxV s = iv at CL HS HN h0
  have HS := Lib.hid HS; have HN := Lib.hid HN
  have HH := Lib.hid hm; clear hm
  have HM := Mem.nil w
  go_enter Try.func7, Try.ntmps7
  go_wp2_with (first
    | (go_big_skip)
    | (exfalso; have H_ := HH.out; omega)
    | (go_at_call 13; (with_reducible refine (Go.Proofs.Ytiokllhoaaamiaa.M.call_pure (CA) HM).mono ?_); clear HM; rintro e w_ ⟨rfl, HM⟩; dsimp only)
    | (go_at_call 27; (with_reducible refine (Go.Proofs.Ytiokllhoaaamiaa.M.call_pure (CN) HM).mono ?_); clear HM; rintro e w_ ⟨rfl, HM⟩; dsimp only)
    | (go_at_call 28; (with_reducible refine (Go.Proofs.Ytiokllhoaaamiaa.M.call_pure (CM) HM).mono ?_); clear HM; rintro e w_ ⟨rfl, HM⟩; dsimp only)
    | (go_at_call 31; (with_reducible refine (Go.Proofs.Ytiokllhoaaamiaa.M.call_pure (CL) HM).mono ?_); clear HM; rintro e w_ ⟨rfl, HM⟩; dsimp only)
    | (go_at_call 29; (with_reducible refine (Go.Proofs.Ytiokllhoaaamiaa.M.call_pure (names_any) HM).mono ?_); clear HM; rintro e w_ ⟨rfl, HM⟩; dsimp only)
    | (refine Go.Proofs.Ytiokllhoaaamiaa.Mc.at_cmp _ rfl ?_; refine Go.Proofs.Ytiokllhoaaamiaa.Mc.cmp_m rfl _ rfl _ _ _ rfl _ _ _ rfl rfl _ rfl ?_ ?_ <;> (intro hg_; try simp only [decide_eq_true_eq, decide_eq_false_iff_not, Bool.and_eq_true, Bool.or_eq_true, Bool.and_eq_false_iff, Bool.or_eq_false_iff, Bool.not_eq_true', Bool.not_eq_false', beq_iff_eq, bne_iff_ne, beq_eq_false_iff_ne, bne_eq_false_iff_eq, Int.not_lt, Int.not_le, ne_eq] at hg_; first | (exfalso; first | omega | (simp at hg_; done)) | go_simp))
    | ((fail_if_success (refine Go.Proofs.Ytiokllhoaaamiaa.M.lit_t rfl ?_)); (fail_if_success (refine Go.Proofs.Ytiokllhoaaamiaa.M.lit_f rfl ?_)); refine Go.Proofs.Ytiokllhoaaamiaa.M.split_guard rfl rfl ?_ ?_ <;> (intro hg_; simp only [hg_]; try simp only [decide_eq_true_eq, decide_eq_false_iff_not, Bool.and_eq_true, Bool.or_eq_true, Bool.and_eq_false_iff, Bool.or_eq_false_iff, Bool.not_eq_true', Bool.not_eq_false', beq_iff_eq, bne_iff_ne, beq_eq_false_iff_ne, bne_eq_false_iff_eq, Int.not_lt, Int.not_le, ne_eq] at hg_)))
  all_goals try (exfalso; have H_ := HH.out; omega)
  all_goals clear CA CN CM CL HH
  all_goals
    go_loopw [75] (fun v wr => ∃ k : Nat, k ≤ 19 ∧ v = .int .i64 k ∧ (∀ j, j < k → ((nm j).toList == s.toList) = false) ∧ Mem w [] [] wr) (fun v _ => 19 - (intOf v).toNat)
    case atStart => exact ⟨0, by omega, rfl, fun j hj => absurd hj (Nat.not_lt_zero _), HM.none⟩
    case round =>
      clear HM
      obtain ⟨k, k19, rfl, hno, HM⟩ := hrel
      by_cases hlt : k < 19
      · have HX : ((nm k).toList == s.toList) = true → iv = k := fun e => HS.out k hlt e hno
        have HF : ((nm k).toList == s.toList) = false → ∀ j, j < k + 1 → ((nm j).toList == s.toList) = false := fun e j hj => by
          by_cases ej : j = k
          · subst ej; exact e
          · exact hno j (by omega)
        have hv := nm_cell k hlt
        have hk1 : (k : Int) < 19 := by omega
        have hk2 : (k : Int).toNat = k := by omega
        generalize nm k = n2 at HX HF hv
        have HX := Lib.hid HX; have HF := Lib.hid HF
        have HW := Lib.hid (show nmCells[(k : Int).toNat]? = some (.string n2) by rw [hk2]; exact hv)
        clear hno hv hk2
        go_wp2_with (first
          | (go_big_skip)
          | (refine Go.Proofs.Ytiokllhoaaamiaa.Sl.at_index 59 rfl ?_; refine Go.Proofs.Ytiokllhoaaamiaa.Sl.index_m rfl _ rfl 59 rfl 19 9 (by kernel_rfl) (by kernel_rfl) (by kernel_rfl) (by kernel_rfl) nmCells rfl .i64 (k : Int) rfl (by omega) (by omega) _ HW.out ?_; go_simp)
          | (refine Go.Proofs.Ytiokllhoaaamiaa.Mc.at_cmp _ rfl ?_; refine Go.Proofs.Ytiokllhoaaamiaa.Mc.cmp_m rfl _ rfl _ _ _ rfl _ _ _ rfl rfl _ rfl ?_ ?_ <;> (intro hg_; try simp only [decide_eq_true_eq, decide_eq_false_iff_not, Bool.and_eq_true, Bool.or_eq_true, Bool.and_eq_false_iff, Bool.or_eq_false_iff, Bool.not_eq_true', Bool.not_eq_false', beq_iff_eq, bne_iff_ne, beq_eq_false_iff_ne, bne_eq_false_iff_eq, Int.not_lt, Int.not_le, ne_eq] at hg_; first | (exfalso; first | omega | (simp at hg_; done)) | go_simp))
          | ((fail_if_success (refine Go.Proofs.Ytiokllhoaaamiaa.M.lit_t rfl ?_)); (fail_if_success (refine Go.Proofs.Ytiokllhoaaamiaa.M.lit_f rfl ?_)); refine Go.Proofs.Ytiokllhoaaamiaa.M.split_guard rfl rfl ?_ ?_ <;> (intro hg_; simp only [hg_]; try simp only [decide_eq_true_eq, decide_eq_false_iff_not, Bool.and_eq_true, Bool.or_eq_true, Bool.and_eq_false_iff, Bool.or_eq_false_iff, Bool.not_eq_true', Bool.not_eq_false', beq_iff_eq, bne_iff_ne, beq_eq_false_iff_ne, bne_eq_false_iff_eq, Int.not_lt, Int.not_le, ne_eq] at hg_)))
        all_goals
          first
          | (have e_ := HX.out (by assumption)
             exfalso; omega)
          | (go_ret
             have e_ := HX.out (by assumption)
             exact ⟨by first | rfl | simp [e_], HM.none.to_below⟩)
          | (go_roundw
             case rel => exact ⟨k + 1, by omega, by first | rfl | (refine congrArg (fun z => Value.int .i64 z) ?_; omega), HF.out (by first | assumption | (simp only [Bool.not_eq_true] at *; assumption)), HM⟩
             case measure => simp [intOf]; omega)
      · obtain rfl : k = 19 := by omega
        have e_ := HN.out hno
        go_wp2_with (first
          | (go_big_skip)
          | (refine Go.Proofs.Ytiokllhoaaamiaa.Mc.at_cmp _ rfl ?_; refine Go.Proofs.Ytiokllhoaaamiaa.Mc.cmp_m rfl _ rfl _ _ _ rfl _ _ _ rfl rfl _ rfl ?_ ?_ <;> (intro hg_; try simp only [decide_eq_true_eq, decide_eq_false_iff_not, Bool.and_eq_true, Bool.or_eq_true, Bool.and_eq_false_iff, Bool.or_eq_false_iff, Bool.not_eq_true', Bool.not_eq_false', beq_iff_eq, bne_iff_ne, beq_eq_false_iff_ne, bne_eq_false_iff_eq, Int.not_lt, Int.not_le, ne_eq] at hg_; first | (exfalso; first | omega | (simp at hg_; done)) | go_simp))
          | ((fail_if_success (refine Go.Proofs.Ytiokllhoaaamiaa.M.lit_t rfl ?_)); (fail_if_success (refine Go.Proofs.Ytiokllhoaaamiaa.M.lit_f rfl ?_)); refine Go.Proofs.Ytiokllhoaaamiaa.M.split_guard rfl rfl ?_ ?_ <;> (intro hg_; simp only [hg_]; try simp only [decide_eq_true_eq, decide_eq_false_iff_not, Bool.and_eq_true, Bool.or_eq_true, Bool.and_eq_false_iff, Bool.or_eq_false_iff, Bool.not_eq_true', Bool.not_eq_false', beq_iff_eq, bne_iff_ne, beq_eq_false_iff_ne, bne_eq_false_iff_eq, Int.not_lt, Int.not_le, ne_eq] at hg_)))
        all_goals
          first
          | (exfalso; omega)
          | (go_ret
             exact ⟨by first | rfl | simp [e_], HM.none.to_below⟩)
theorem law_any (m : Int) (s : ByteArray) (h1 : m ≤ 9223372036854775807) (w : World) : Calls Try.prog 7 #[.int .i64 m, .string s] w fun e w' => e = .returned (.bool true) ∧ Below w.heap.size w w' := by
  have hf : 0 ≤ Pd.idxV s ∨ Pd.idxV s = -1 := by
    unfold Pd.idxV
    split <;> omega
  by_cases h : m < 1 ∨ 19 < m
  · rcases hf with hf | hf
    · exact other_T m h h1 s hf w
    · exact other_F m h h1 s hf w
  · obtain ⟨i, hi⟩ := Int.eq_ofNat_of_zero_le (show 0 ≤ m - 1 by omega)
    obtain rfl : m = i + 1 := by omega
    rcases hf with hf | hf
    · exact known_T i (by omega) s hf w
    · exact known_F i (by omega) s hf w
end Go.Proofs.Ytiokllhoaaamiaa.Ph
