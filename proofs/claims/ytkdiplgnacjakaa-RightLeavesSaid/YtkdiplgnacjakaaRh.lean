/- The law RightMeets walked. -/
import Derived.Test.YtkdiplgnacjakaaProg
import Derived.Test.YtkdiplgnacjakaaRf
import Derived.Test.YtkdiplgnacjakaaMs
namespace Go.Proofs.Ytkdiplgnacjakaa.Rh
open Go.RowKit Go.Proofs.Ytkdiplgnacjakaa.G Go.Proofs.Ytkdiplgnacjakaa.B Go.Proofs.Ytkdiplgnacjakaa.M Go.Proofs.Ytkdiplgnacjakaa.Dr Go.Proofs.Ytkdiplgnacjakaa.Rt Go.Proofs.Ytkdiplgnacjakaa.Re Go.Proofs.Ytkdiplgnacjakaa.Rf

set_option linter.unusedVariables false
set_option linter.unusedSimpArgs false
set_option maxRecDepth 100000 in
set_option maxHeartbeats 1000000 in
theorem refright_any (r : Int) (w : World) : Calls Try.prog 13 #[.int .i64 r] w fun e w' => e = .returned (.bool (kr r)) ∧ Below w.heap.size w w' := by
  have HM := Mem.nil w
  go_enter Try.func13, Try.ntmps13
  go_wp2_with (first
    | (refine Go.Proofs.Ytkdiplgnacjakaa.Mc.at_cmp _ rfl ?_; refine Go.Proofs.Ytkdiplgnacjakaa.Mc.cmp_m rfl _ rfl _ _ _ rfl _ _ _ rfl rfl _ rfl ?_ ?_ <;> (intro hg_; try simp only [decide_eq_true_eq, decide_eq_false_iff_not, Bool.and_eq_true, Bool.or_eq_true, Bool.and_eq_false_iff, Bool.or_eq_false_iff, Bool.not_eq_true', Bool.not_eq_false', beq_iff_eq, bne_iff_ne, beq_eq_false_iff_ne, bne_eq_false_iff_eq, Int.not_lt, Int.not_le, ne_eq] at hg_; first | (exfalso; first | omega | (simp at hg_; done)) | go_simp))
    | ((fail_if_success (refine Go.Proofs.Ytkdiplgnacjakaa.M.lit_t rfl ?_)); (fail_if_success (refine Go.Proofs.Ytkdiplgnacjakaa.M.lit_f rfl ?_)); refine Go.Proofs.Ytkdiplgnacjakaa.M.split_guard rfl rfl ?_ ?_ <;> (intro hg_; simp only [hg_]; try simp only [decide_eq_true_eq, decide_eq_false_iff_not, Bool.and_eq_true, Bool.or_eq_true, Bool.and_eq_false_iff, Bool.or_eq_false_iff, Bool.not_eq_true', Bool.not_eq_false', beq_iff_eq, bne_iff_ne, beq_eq_false_iff_ne, bne_eq_false_iff_eq, Int.not_lt, Int.not_le, ne_eq] at hg_)))
  all_goals
    go_ret
    refine ⟨congrArg (fun z => Ending.returned (Value.bool z)) ?_, HM.none.to_below⟩
    unfold kr
    simp
    omega
def meetV (a b : Int) : Int := if kr a = true ∧ kr b = true then Go.bits .and .i64 a b else 0
set_option maxRecDepth 100000 in
set_option maxHeartbeats 1000000 in
theorem meet_any (a b : Int) (w : World) : Calls Try.prog 19 #[.int .i64 a, .int .i64 b] w fun e w' => e = .returned (.int .i64 (meetV a b)) ∧ Below w.heap.size w w' := by
  have C1 := fun w => right_any a w
  have C2 := fun w => right_any b w
  change ∀ w, Calls _ _ _ _ (fun e w' => e = Ending.returned (.bool (kr a)) ∧ _) at C1
  change ∀ w, Calls _ _ _ _ (fun e w' => e = Ending.returned (.bool (kr b)) ∧ _) at C2
  unfold meetV
  generalize kr a = ka at C1
  generalize kr b = kb at C2
  have HM := Mem.nil w
  go_enter Try.func19, Try.ntmps19
  go_wp2_with (first
    | (go_at_call 18; (with_reducible refine (Go.Proofs.Ytkdiplgnacjakaa.M.call_pure (C1) HM).mono ?_); clear HM; rintro e w_ ⟨rfl, HM⟩; dsimp only)
    | (go_at_call 18; (with_reducible refine (Go.Proofs.Ytkdiplgnacjakaa.M.call_pure (C2) HM).mono ?_); clear HM; rintro e w_ ⟨rfl, HM⟩; dsimp only)
    | (refine Go.Proofs.Ytkdiplgnacjakaa.Mc.at_cmp _ rfl ?_; refine Go.Proofs.Ytkdiplgnacjakaa.Mc.cmp_m rfl _ rfl _ _ _ rfl _ _ _ rfl rfl _ rfl ?_ ?_ <;> (intro hg_; try simp only [decide_eq_true_eq, decide_eq_false_iff_not, Bool.and_eq_true, Bool.or_eq_true, Bool.and_eq_false_iff, Bool.or_eq_false_iff, Bool.not_eq_true', Bool.not_eq_false', beq_iff_eq, bne_iff_ne, beq_eq_false_iff_ne, bne_eq_false_iff_eq, Int.not_lt, Int.not_le, ne_eq] at hg_; first | (exfalso; first | omega | (simp at hg_; done)) | go_simp))
    | ((fail_if_success (refine Go.Proofs.Ytkdiplgnacjakaa.M.lit_t rfl ?_)); (fail_if_success (refine Go.Proofs.Ytkdiplgnacjakaa.M.lit_f rfl ?_)); refine Go.Proofs.Ytkdiplgnacjakaa.M.split_guard rfl rfl ?_ ?_ <;> (intro hg_; simp only [hg_]; try simp only [decide_eq_true_eq, decide_eq_false_iff_not, Bool.and_eq_true, Bool.or_eq_true, Bool.and_eq_false_iff, Bool.or_eq_false_iff, Bool.not_eq_true', Bool.not_eq_false', beq_iff_eq, bne_iff_ne, beq_eq_false_iff_ne, bne_eq_false_iff_eq, Int.not_lt, Int.not_le, ne_eq] at hg_)))
  all_goals
    go_ret
    refine ⟨congrArg (fun z => Ending.returned (Value.int .i64 z)) ?_, HM.none.to_below⟩
    clear HM C1 C2
    cases ka <;> cases kb <;> first | contradiction | simp
def refMeetV (x0 y0 x1 y1 x2 y2 : Bool) : Int := (if x0 && y0 then 1 else 0) + (if x1 && y1 then 2 else 0) + (if x2 && y2 then 4 else 0)
def hasV (r : Int) (n : Nat) : Bool := decide (r / 2 ^ n % 2 = 1)
set_option maxRecDepth 100000 in
set_option maxHeartbeats 4000000 in
theorem refmeet_any (a b : Int) (a0 : 0 ≤ a) (a7 : a ≤ 7) (b0 : 0 ≤ b) (b7 : b ≤ 7) (w : World) : Calls Try.prog 21 #[.int .i64 a, .int .i64 b] w fun e w' => e = .returned (.int .i64 (refMeetV (hasV a 0) (hasV b 0) (hasV a 1) (hasV b 1) (hasV a 2) (hasV b 2))) ∧ Below w.heap.size w w' := by
  have A0 : ∀ w, Calls Try.prog 15 #[.int .i64 a, .int .i64 0] w fun e w' => e = .returned (.bool (hasV a 0)) ∧ Below w.heap.size w w' := fun w => has_any a 0 a0 a7 (by decide) w
  have A1 : ∀ w, Calls Try.prog 15 #[.int .i64 a, .int .i64 1] w fun e w' => e = .returned (.bool (hasV a 1)) ∧ Below w.heap.size w w' := fun w => has_any a 1 a0 a7 (by decide) w
  have A2 : ∀ w, Calls Try.prog 15 #[.int .i64 a, .int .i64 2] w fun e w' => e = .returned (.bool (hasV a 2)) ∧ Below w.heap.size w w' := fun w => has_any a 2 a0 a7 (by decide) w
  have B0 : ∀ w, Calls Try.prog 15 #[.int .i64 b, .int .i64 0] w fun e w' => e = .returned (.bool (hasV b 0)) ∧ Below w.heap.size w w' := fun w => has_any b 0 b0 b7 (by decide) w
  have B1 : ∀ w, Calls Try.prog 15 #[.int .i64 b, .int .i64 1] w fun e w' => e = .returned (.bool (hasV b 1)) ∧ Below w.heap.size w w' := fun w => has_any b 1 b0 b7 (by decide) w
  have B2 : ∀ w, Calls Try.prog 15 #[.int .i64 b, .int .i64 2] w fun e w' => e = .returned (.bool (hasV b 2)) ∧ Below w.heap.size w w' := fun w => has_any b 2 b0 b7 (by decide) w
  generalize hasV a 0 = x0 at A0 ⊢
  generalize hasV a 1 = x1 at A1 ⊢
  generalize hasV a 2 = x2 at A2 ⊢
  generalize hasV b 0 = y0 at B0 ⊢
  generalize hasV b 1 = y1 at B1 ⊢
  generalize hasV b 2 = y2 at B2 ⊢
  clear a0 a7 b0 b7
  have HM := Mem.nil w
  go_enter Try.func21, Try.ntmps21
  go_wp2_with (first
    | (refine wp_loop_rounds 5 ?_; refine Go.Proofs.Ytkdiplgnacjakaa.Ms.rounds_mk ?_)
    | (refine Go.Proofs.Ytkdiplgnacjakaa.Ms.rounds_mk ?_)
    | (go_at_call 15; (with_reducible refine (Go.Proofs.Ytkdiplgnacjakaa.M.call_pure (A0) HM).mono ?_); clear HM; rintro e w_ ⟨rfl, HM⟩; dsimp only)
    | (go_at_call 15; (with_reducible refine (Go.Proofs.Ytkdiplgnacjakaa.M.call_pure (A1) HM).mono ?_); clear HM; rintro e w_ ⟨rfl, HM⟩; dsimp only)
    | (go_at_call 15; (with_reducible refine (Go.Proofs.Ytkdiplgnacjakaa.M.call_pure (A2) HM).mono ?_); clear HM; rintro e w_ ⟨rfl, HM⟩; dsimp only)
    | (go_at_call 15; (with_reducible refine (Go.Proofs.Ytkdiplgnacjakaa.M.call_pure (B0) HM).mono ?_); clear HM; rintro e w_ ⟨rfl, HM⟩; dsimp only)
    | (go_at_call 15; (with_reducible refine (Go.Proofs.Ytkdiplgnacjakaa.M.call_pure (B1) HM).mono ?_); clear HM; rintro e w_ ⟨rfl, HM⟩; dsimp only)
    | (go_at_call 15; (with_reducible refine (Go.Proofs.Ytkdiplgnacjakaa.M.call_pure (B2) HM).mono ?_); clear HM; rintro e w_ ⟨rfl, HM⟩; dsimp only)
    | ((fail_if_success (refine Go.Proofs.Ytkdiplgnacjakaa.M.lit_t rfl ?_)); (fail_if_success (refine Go.Proofs.Ytkdiplgnacjakaa.M.lit_f rfl ?_)); refine Go.Proofs.Ytkdiplgnacjakaa.M.split_guard rfl rfl ?_ ?_ <;> (intro hg_; simp only [hg_]; try simp only [decide_eq_true_eq, decide_eq_false_iff_not, Bool.and_eq_true, Bool.or_eq_true, Bool.and_eq_false_iff, Bool.or_eq_false_iff, Bool.not_eq_true', Bool.not_eq_false', beq_iff_eq, bne_iff_ne, beq_eq_false_iff_ne, bne_eq_false_iff_eq, Int.not_lt, Int.not_le, ne_eq] at hg_)))
  all_goals
    go_ret
    refine ⟨congrArg (fun z => Ending.returned (Value.int .i64 z)) ?_, HM.none.to_below⟩
    clear HM A0 A1 A2 B0 B1 B2
    subst_vars
    simp [refMeetV, *]
theorem plain : ∀ a ∈ List.range 8, ∀ b ∈ List.range 8, meetV (a : Int) (b : Int) = refMeetV (hasV a 0) (hasV b 0) (hasV a 1) (hasV b 1) (hasV a 2) (hasV b 2) ∧ withinV (meetV a b) a = true ∧ withinV (meetV a b) b = true ∧ withinV (a : Int) b = decide (meetV (a : Int) b = a) := by decide +kernel
set_option maxRecDepth 100000 in
set_option maxHeartbeats 4000000 in
theorem law_any (a b : Int) (w : World) : Calls Try.prog 5 #[.int .i64 a, .int .i64 b] w fun e w' => e = .returned (.bool true) ∧ Below w.heap.size w w' := by
  have CA := anchor_any
  have C1 := fun w => refright_any a w
  have C2 := fun w => refright_any b w
  have C3 := fun w => right_any a w
  change ∀ w, Calls _ _ _ _ (fun e w' => e = Ending.returned (.bool (kr a)) ∧ _) at C3
  have CM := fun w => meet_any a b w
  have CW := fun w => within_any a b w
  by_cases h : kr a = true ∧ kr b = true
  · have ha : 0 ≤ a ∧ a ≤ 7 := by simpa [kr] using h.1
    have hb : 0 ≤ b ∧ b ≤ 7 := by simpa [kr] using h.2
    have P := plain a.toNat (by simp; omega) b.toNat (by simp; omega)
    rw [show ((a.toNat : Nat) : Int) = a by omega, show ((b.toNat : Nat) : Int) = b by omega] at P
    have CR := fun w => refmeet_any a b ha.1 ha.2 hb.1 hb.2 w
    have CWa := fun w => within_any (meetV a b) a w
    have CWb := fun w => within_any (meetV a b) b w
    rw [h.1] at C1 C3
    rw [h.2] at C2
    rw [← P.1] at CR
    rw [P.2.1] at CWa
    rw [P.2.2.1] at CWb
    rw [P.2.2.2] at CW
    generalize meetV a b = m at *
    clear P ha hb h
    have HM := Mem.nil w
    go_enter Try.func5, Try.ntmps5
    go_wp2_with (first
      | (go_at_call 11; (with_reducible refine (Go.Proofs.Ytkdiplgnacjakaa.M.call_pure (CA) HM).mono ?_); clear HM; rintro e w_ ⟨rfl, HM⟩; dsimp only)
      | (go_at_call 13; (with_reducible refine (Go.Proofs.Ytkdiplgnacjakaa.M.call_pure (C1) HM).mono ?_); clear HM; rintro e w_ ⟨rfl, HM⟩; dsimp only)
      | (go_at_call 13; (with_reducible refine (Go.Proofs.Ytkdiplgnacjakaa.M.call_pure (C2) HM).mono ?_); clear HM; rintro e w_ ⟨rfl, HM⟩; dsimp only)
      | (go_at_call 18; (with_reducible refine (Go.Proofs.Ytkdiplgnacjakaa.M.call_pure (C3) HM).mono ?_); clear HM; rintro e w_ ⟨rfl, HM⟩; dsimp only)
      | (go_at_call 19; (with_reducible refine (Go.Proofs.Ytkdiplgnacjakaa.M.call_pure (CM) HM).mono ?_); clear HM; rintro e w_ ⟨rfl, HM⟩; dsimp only)
      | (go_at_call 21; (with_reducible refine (Go.Proofs.Ytkdiplgnacjakaa.M.call_pure (CR) HM).mono ?_); clear HM; rintro e w_ ⟨rfl, HM⟩; dsimp only)
      | (go_at_call 20; (with_reducible refine (Go.Proofs.Ytkdiplgnacjakaa.M.call_pure (CWa) HM).mono ?_); clear HM; rintro e w_ ⟨rfl, HM⟩; dsimp only)
      | (go_at_call 20; (with_reducible refine (Go.Proofs.Ytkdiplgnacjakaa.M.call_pure (CWb) HM).mono ?_); clear HM; rintro e w_ ⟨rfl, HM⟩; dsimp only)
      | (go_at_call 20; (with_reducible refine (Go.Proofs.Ytkdiplgnacjakaa.M.call_pure (CW) HM).mono ?_); clear HM; rintro e w_ ⟨rfl, HM⟩; dsimp only)
      | ((fail_if_success (refine Go.Proofs.Ytkdiplgnacjakaa.M.lit_t rfl ?_)); (fail_if_success (refine Go.Proofs.Ytkdiplgnacjakaa.M.lit_f rfl ?_)); refine Go.Proofs.Ytkdiplgnacjakaa.M.split_guard rfl rfl ?_ ?_ <;> (intro hg_; simp only [hg_]; try simp only [decide_eq_true_eq, decide_eq_false_iff_not, Bool.and_eq_true, Bool.or_eq_true, Bool.and_eq_false_iff, Bool.or_eq_false_iff, Bool.not_eq_true', Bool.not_eq_false', beq_iff_eq, bne_iff_ne, beq_eq_false_iff_ne, bne_eq_false_iff_eq, Int.not_lt, Int.not_le, ne_eq] at hg_)))
    go_ret
    exact ⟨by by_cases h : m = a <;> simp [h], HM.none.to_below⟩
  · have hm : meetV a b = 0 := by unfold meetV; rw [if_neg h]
    have hw : withinV a b = false := by
      unfold withinV
      cases ka : kr a <;> cases kb : kr b <;> simp_all
    rw [hm] at CM
    rw [hw] at CW
    replace h : (kr a && kr b) = false := by cases ka : kr a <;> cases kb : kr b <;> simp_all
    clear hm hw
    generalize kr a = ka at *
    generalize kr b = kb at *
    have HM := Mem.nil w
    have HH := Lib.hid h; clear h
    go_enter Try.func5, Try.ntmps5
    go_wp2_with (first
      | (go_at_call 11; (with_reducible refine (Go.Proofs.Ytkdiplgnacjakaa.M.call_pure (CA) HM).mono ?_); clear HM; rintro e w_ ⟨rfl, HM⟩; dsimp only)
      | (go_at_call 13; (with_reducible refine (Go.Proofs.Ytkdiplgnacjakaa.M.call_pure (C1) HM).mono ?_); clear HM; rintro e w_ ⟨rfl, HM⟩; dsimp only)
      | (go_at_call 13; (with_reducible refine (Go.Proofs.Ytkdiplgnacjakaa.M.call_pure (C2) HM).mono ?_); clear HM; rintro e w_ ⟨rfl, HM⟩; dsimp only)
      | (go_at_call 18; (with_reducible refine (Go.Proofs.Ytkdiplgnacjakaa.M.call_pure (C3) HM).mono ?_); clear HM; rintro e w_ ⟨rfl, HM⟩; dsimp only)
      | (go_at_call 19; (with_reducible refine (Go.Proofs.Ytkdiplgnacjakaa.M.call_pure (CM) HM).mono ?_); clear HM; rintro e w_ ⟨rfl, HM⟩; dsimp only)
      | (go_at_call 20; (with_reducible refine (Go.Proofs.Ytkdiplgnacjakaa.M.call_pure (CW) HM).mono ?_); clear HM; rintro e w_ ⟨rfl, HM⟩; dsimp only)
      | ((fail_if_success (refine Go.Proofs.Ytkdiplgnacjakaa.M.lit_t rfl ?_)); (fail_if_success (refine Go.Proofs.Ytkdiplgnacjakaa.M.lit_f rfl ?_)); refine Go.Proofs.Ytkdiplgnacjakaa.M.split_guard rfl rfl ?_ ?_ <;> (intro hg_; simp only [hg_]; try simp only [decide_eq_true_eq, decide_eq_false_iff_not, Bool.and_eq_true, Bool.or_eq_true, Bool.and_eq_false_iff, Bool.or_eq_false_iff, Bool.not_eq_true', Bool.not_eq_false', beq_iff_eq, bne_iff_ne, beq_eq_false_iff_ne, bne_eq_false_iff_eq, Int.not_lt, Int.not_le, ne_eq] at hg_)))
    all_goals
      first
      | (go_ret; exact ⟨rfl, HM.none.to_below⟩)
      | (exfalso; have H := HH.out; simp_all)
end Go.Proofs.Ytkdiplgnacjakaa.Rh
