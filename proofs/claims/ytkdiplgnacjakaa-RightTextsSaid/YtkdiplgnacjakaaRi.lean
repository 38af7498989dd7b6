/- The law RightTexts walked. -/
import Derived.Test.YtkdiplgnacjakaaProg
import Derived.Test.YtkdiplgnacjakaaRh
namespace Go.Proofs.Ytkdiplgnacjakaa.Ri
open Go.RowKit Go.Proofs.Ytkdiplgnacjakaa.G Go.Proofs.Ytkdiplgnacjakaa.B Go.Proofs.Ytkdiplgnacjakaa.M Go.Proofs.Ytkdiplgnacjakaa.Dr Go.Proofs.Ytkdiplgnacjakaa.Rt Go.Proofs.Ytkdiplgnacjakaa.Re Go.Proofs.Ytkdiplgnacjakaa.Rf Go.Proofs.Ytkdiplgnacjakaa.Rh

set_option linter.unusedVariables false
set_option linter.unusedSimpArgs false
set_option maxRecDepth 100000 in
set_option maxHeartbeats 4000000 in
theorem no_ok (r q : Int) (s : ByteArray) (C1 : ∀ w, Calls Try.prog 13 #[.int .i64 r] w fun e w' => e = .returned (.bool false) ∧ Below w.heap.size w w') (CS : ∀ w, Calls Try.prog 12 #[.int .i64 r] w fun e w' => e = .returned (.string ⟨#[]⟩) ∧ Below w.heap.size w w')
    (CP : ∀ w, Calls Try.prog 14 #[.string s] w fun e w' => e = .returned (.tuple #[.int .i64 q, .bool true]) ∧ Below w.heap.size w w')
    (CT : ∀ w, Calls Try.prog 12 #[.int .i64 q] w fun e w' => e = .returned (.string s) ∧ Below w.heap.size w w') (w : World) :
    Calls Try.prog 3 #[.int .i64 r, .string s] w fun e w' => e = .returned (.bool true) ∧ Below w.heap.size w w' := by
  have CA := anchor_any
  have HM := Mem.nil w
  go_enter Try.func3, Try.ntmps3
  go_wp2_with (first
    | (go_at_call 11; (with_reducible refine (Go.Proofs.Ytkdiplgnacjakaa.M.call_pure (CA) HM).mono ?_); clear HM; rintro e w_ ⟨rfl, HM⟩; dsimp only)
    | (go_at_call 13; (with_reducible refine (Go.Proofs.Ytkdiplgnacjakaa.M.call_pure (C1) HM).mono ?_); clear HM; rintro e w_ ⟨rfl, HM⟩; dsimp only)
    | (go_at_call 12; (with_reducible refine (Go.Proofs.Ytkdiplgnacjakaa.M.call_pure (CS) HM).mono ?_); clear HM; rintro e w_ ⟨rfl, HM⟩; dsimp only)
    | (go_at_call 14; (with_reducible refine (Go.Proofs.Ytkdiplgnacjakaa.M.call_pure (CP) HM).mono ?_); clear HM; rintro e w_ ⟨rfl, HM⟩; dsimp only)
    | (go_at_call 12; (with_reducible refine (Go.Proofs.Ytkdiplgnacjakaa.M.call_pure (CT) HM).mono ?_); clear HM; rintro e w_ ⟨rfl, HM⟩; dsimp only)
    | ((fail_if_success (refine Go.Proofs.Ytkdiplgnacjakaa.M.lit_t rfl ?_)); (fail_if_success (refine Go.Proofs.Ytkdiplgnacjakaa.M.lit_f rfl ?_)); refine Go.Proofs.Ytkdiplgnacjakaa.M.split_guard rfl rfl ?_ ?_ <;> (intro hg_; simp only [hg_]; try simp only [decide_eq_true_eq, decide_eq_false_iff_not, Bool.and_eq_true, Bool.or_eq_true, Bool.and_eq_false_iff, Bool.or_eq_false_iff, Bool.not_eq_true', Bool.not_eq_false', beq_iff_eq, bne_iff_ne, beq_eq_false_iff_ne, bne_eq_false_iff_eq, Int.not_lt, Int.not_le, ne_eq] at hg_)))
  all_goals
    go_ret
    exact ⟨by simp, HM.none.to_below⟩
set_option maxRecDepth 100000 in
set_option maxHeartbeats 4000000 in
theorem yes_ok (r q : Int) (s : ByteArray) (c0 c1 c2 : UInt8) (C1 : ∀ w, Calls Try.prog 13 #[.int .i64 r] w fun e w' => e = .returned (.bool true) ∧ Below w.heap.size w w') (CS : ∀ w, Calls Try.prog 12 #[.int .i64 r] w fun e w' => e = .returned (.string ⟨#[c0, c1, c2]⟩) ∧ Below w.heap.size w w')
    (CQ : ∀ w, Calls Try.prog 14 #[.string ⟨#[c0, c1, c2]⟩] w fun e w' => e = .returned (.tuple #[.int .i64 r, .bool true]) ∧ Below w.heap.size w w')
    (H0 : ∀ w, Calls Try.prog 15 #[.int .i64 r, .int .i64 0] w fun e w' => e = .returned (.bool ((c0.toNat : Int) == 114)) ∧ Below w.heap.size w w')
    (H1 : ∀ w, Calls Try.prog 15 #[.int .i64 r, .int .i64 1] w fun e w' => e = .returned (.bool ((c1.toNat : Int) == 119)) ∧ Below w.heap.size w w')
    (H2 : ∀ w, Calls Try.prog 15 #[.int .i64 r, .int .i64 2] w fun e w' => e = .returned (.bool ((c2.toNat : Int) == 120)) ∧ Below w.heap.size w w')
    (CP : ∀ w, Calls Try.prog 14 #[.string s] w fun e w' => e = .returned (.tuple #[.int .i64 q, .bool true]) ∧ Below w.heap.size w w')
    (CT : ∀ w, Calls Try.prog 12 #[.int .i64 q] w fun e w' => e = .returned (.string s) ∧ Below w.heap.size w w') (w : World) :
    Calls Try.prog 3 #[.int .i64 r, .string s] w fun e w' => e = .returned (.bool true) ∧ Below w.heap.size w w' := by
  have CA := anchor_any
  have k0 : ∀ h, ((⟨#[c0, c1, c2]⟩ : ByteArray)[0]'h) = c0 := fun _ => rfl
  have k1 : ∀ h, ((⟨#[c0, c1, c2]⟩ : ByteArray)[1]'h) = c1 := fun _ => rfl
  have k2 : ∀ h, ((⟨#[c0, c1, c2]⟩ : ByteArray)[2]'h) = c2 := fun _ => rfl
  have HM := Mem.nil w
  go_enter Try.func3, Try.ntmps3
  go_wp2_with (first
    | (go_at_call 11; (with_reducible refine (Go.Proofs.Ytkdiplgnacjakaa.M.call_pure (CA) HM).mono ?_); clear HM; rintro e w_ ⟨rfl, HM⟩; dsimp only)
    | (go_at_call 13; (with_reducible refine (Go.Proofs.Ytkdiplgnacjakaa.M.call_pure (C1) HM).mono ?_); clear HM; rintro e w_ ⟨rfl, HM⟩; dsimp only)
    | (go_at_call 12; (with_reducible refine (Go.Proofs.Ytkdiplgnacjakaa.M.call_pure (CS) HM).mono ?_); clear HM; rintro e w_ ⟨rfl, HM⟩; dsimp only)
    | (go_at_call 14; (with_reducible refine (Go.Proofs.Ytkdiplgnacjakaa.M.call_pure (CQ) HM).mono ?_); clear HM; rintro e w_ ⟨rfl, HM⟩; dsimp only)
    | (go_at_call 15; (with_reducible refine (Go.Proofs.Ytkdiplgnacjakaa.M.call_pure (H0) HM).mono ?_); clear HM; rintro e w_ ⟨rfl, HM⟩; dsimp only)
    | (go_at_call 15; (with_reducible refine (Go.Proofs.Ytkdiplgnacjakaa.M.call_pure (H1) HM).mono ?_); clear HM; rintro e w_ ⟨rfl, HM⟩; dsimp only)
    | (go_at_call 15; (with_reducible refine (Go.Proofs.Ytkdiplgnacjakaa.M.call_pure (H2) HM).mono ?_); clear HM; rintro e w_ ⟨rfl, HM⟩; dsimp only)
    | (go_at_call 14; (with_reducible refine (Go.Proofs.Ytkdiplgnacjakaa.M.call_pure (CP) HM).mono ?_); clear HM; rintro e w_ ⟨rfl, HM⟩; dsimp only)
    | (go_at_call 12; (with_reducible refine (Go.Proofs.Ytkdiplgnacjakaa.M.call_pure (CT) HM).mono ?_); clear HM; rintro e w_ ⟨rfl, HM⟩; dsimp only)
    | (refine Go.Proofs.Ytkdiplgnacjakaa.M.at_reg 8 ?_; refine Go.Proofs.Ytkdiplgnacjakaa.Mq.region_m (id := 8) HM (by kernel_rfl) (by kernel_rfl) ?_; (repeat (any_goals (first | ((fail_if_success (refine Go.Proofs.Ytkdiplgnacjakaa.Mq.qlit_t rfl ?_)); (fail_if_success (refine Go.Proofs.Ytkdiplgnacjakaa.Mq.qlit_f rfl ?_)); refine Go.Proofs.Ytkdiplgnacjakaa.Mq.qsplit rfl rfl ?_ ?_ <;> (intro hg_; simp only [hg_]; try simp only [decide_eq_true_eq, decide_eq_false_iff_not, Bool.and_eq_true, Bool.or_eq_true, Bool.and_eq_false_iff, Bool.or_eq_false_iff, Bool.not_eq_true', Bool.not_eq_false', beq_iff_eq, bne_iff_ne, beq_eq_false_iff_ne, bne_eq_false_iff_eq, Int.not_lt, Int.not_le, ne_eq] at hg_)) | go_big_quiet_step (first | (go_at_call 11; with_reducible exact Go.Proofs.Ytkdiplgnacjakaa.Mq.quiet_call_m (CA _)) | (go_at_call 13; with_reducible exact Go.Proofs.Ytkdiplgnacjakaa.Mq.quiet_call_m (C1 _)) | (go_at_call 12; with_reducible exact Go.Proofs.Ytkdiplgnacjakaa.Mq.quiet_call_m (CS _)) | (go_at_call 14; with_reducible exact Go.Proofs.Ytkdiplgnacjakaa.Mq.quiet_call_m (CQ _)) | (go_at_call 15; with_reducible exact Go.Proofs.Ytkdiplgnacjakaa.Mq.quiet_call_m (H0 _)) | (go_at_call 15; with_reducible exact Go.Proofs.Ytkdiplgnacjakaa.Mq.quiet_call_m (H1 _)) | (go_at_call 15; with_reducible exact Go.Proofs.Ytkdiplgnacjakaa.Mq.quiet_call_m (H2 _)) | (go_at_call 14; with_reducible exact Go.Proofs.Ytkdiplgnacjakaa.Mq.quiet_call_m (CP _)) | (go_at_call 12; with_reducible exact Go.Proofs.Ytkdiplgnacjakaa.Mq.quiet_call_m (CT _)) | exact rfl)))); all_goals (refine Go.Proofs.Ytkdiplgnacjakaa.G.wpQuiet_end ?_; clear HM; intro w_ HM))
    | ((fail_if_success (refine Go.Proofs.Ytkdiplgnacjakaa.M.lit_t rfl ?_)); (fail_if_success (refine Go.Proofs.Ytkdiplgnacjakaa.M.lit_f rfl ?_)); refine Go.Proofs.Ytkdiplgnacjakaa.M.split_guard rfl rfl ?_ ?_ <;> (intro hg_; simp only [hg_]; try simp only [decide_eq_true_eq, decide_eq_false_iff_not, Bool.and_eq_true, Bool.or_eq_true, Bool.and_eq_false_iff, Bool.or_eq_false_iff, Bool.not_eq_true', Bool.not_eq_false', beq_iff_eq, bne_iff_ne, beq_eq_false_iff_ne, bne_eq_false_iff_eq, Int.not_lt, Int.not_le, ne_eq] at hg_)))
  all_goals
    go_ret
    first
    | exact ⟨by simp, HM.none.to_below⟩
    | (exfalso; clear HM
       have k0 : ∀ h, ((⟨#[c0, c1, c2]⟩ : ByteArray)[0]'h) = c0 := fun _ => rfl
       have k1 : ∀ h, ((⟨#[c0, c1, c2]⟩ : ByteArray)[1]'h) = c1 := fun _ => rfl
       have k2 : ∀ h, ((⟨#[c0, c1, c2]⟩ : ByteArray)[2]'h) = c2 := fun _ => rfl
       simp only [k0, k1, k2, bne_self_eq_false, beq_self_eq_true, not_true_eq_false, Bool.not_true, Bool.false_eq_true] at *
       done)
end Go.Proofs.Ytkdiplgnacjakaa.Ri
