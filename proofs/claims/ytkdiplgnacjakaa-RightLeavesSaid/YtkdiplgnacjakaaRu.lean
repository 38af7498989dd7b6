/- right.Parse: a text is read as the rights that it shows; any other text is none. -/
import Derived.Test.YtkdiplgnacjakaaRt
namespace Go.Proofs.Ytkdiplgnacjakaa.Ru
open Go.RowKit Go.Proofs.Ytkdiplgnacjakaa.G Go.Proofs.Ytkdiplgnacjakaa.B Go.Proofs.Ytkdiplgnacjakaa.Ha Go.Proofs.Ytkdiplgnacjakaa.M Go.Proofs.Ytkdiplgnacjakaa.Rt
set_option linter.unusedVariables false
set_option linter.unusedSimpArgs false
theorem show_dec (r : Int) (r0 : 0 ≤ r) (r7 : r ≤ 7) : ((Utf8.decode (showS r) 0).1 = 114 ∨ (Utf8.decode (showS r) 0).1 = 45) ∧ ((Utf8.decode (showS r) 1).1 = 119 ∨ (Utf8.decode (showS r) 1).1 = 45) ∧ ((Utf8.decode (showS r) 2).1 = 120 ∨ (Utf8.decode (showS r) 2).1 = 45) := by
  obtain rfl | rfl | rfl | rfl | rfl | rfl | rfl | rfl : r = 0 ∨ r = 1 ∨ r = 2 ∨ r = 3 ∨ r = 4 ∨ r = 5 ∨ r = 6 ∨ r = 7 := by omega
  all_goals decide +kernel
set_option maxRecDepth 100000 in
set_option maxHeartbeats 1000000 in
theorem show_no (r : Int) (hr : ¬ (0 ≤ r ∧ r ≤ 7)) (w : World) : Calls Try.prog 12 #[.int .i64 r] w fun e w' => e = .returned (.string ⟨#[]⟩) ∧ Below w.heap.size w w' := by
  have CR : ∀ w, Calls Try.prog 18 #[.int .i64 r] w fun e w' => e = .returned (.bool false) ∧ Below w.heap.size w w' := fun w => by
    have := right_any r w
    rwa [show (decide (0 ≤ r) && decide (r ≤ 7)) = false by simp; omega] at this
  have HM := Mem.nil w
  go_enter Try.func12, Try.ntmps12
  go_wp2_with (first
    | (go_at_call 18; (with_reducible refine (Go.Proofs.Ytkdiplgnacjakaa.M.call_pure (CR) HM).mono ?_); clear HM; rintro e w_ ⟨rfl, HM⟩; dsimp only)
    | ((fail_if_success (refine Go.Proofs.Ytkdiplgnacjakaa.M.lit_t rfl ?_)); (fail_if_success (refine Go.Proofs.Ytkdiplgnacjakaa.M.lit_f rfl ?_)); refine Go.Proofs.Ytkdiplgnacjakaa.M.split_guard rfl rfl ?_ ?_ <;> (intro hg_; simp only [hg_]; try simp only [decide_eq_true_eq, decide_eq_false_iff_not, Bool.and_eq_true, Bool.or_eq_true, Bool.and_eq_false_iff, Bool.or_eq_false_iff, Bool.not_eq_true', Bool.not_eq_false', beq_iff_eq, bne_iff_ne, beq_eq_false_iff_ne, bne_eq_false_iff_eq, Int.not_lt, Int.not_le, ne_eq] at hg_)))
  go_ret
  exact ⟨rfl, HM.none.to_below⟩
/-- A text is read as the rights that it shows; any other text is none. -/
theorem parse_any (s : ByteArray) : (∃ r : Int, 0 ≤ r ∧ r ≤ 7 ∧ s = showS r ∧ ∀ w, Calls Try.prog 14 #[.string s] w fun e w' => e = .returned (.tuple #[.int .i64 r, .bool true]) ∧ Below w.heap.size w w') ∨
    ((∀ r : Int, 0 ≤ r → r ≤ 7 → s ≠ showS r) ∧ ∀ w, Calls Try.prog 14 #[.string s] w fun e w' => e = .returned (.tuple #[.int .i64 0, .bool false]) ∧ Below w.heap.size w w') := by
  by_cases hs : s.size = 3
  · have dec : ∀ (p x : Nat), x < 128 → (Utf8.decode s p).1 = x → Utf8.decode s p = (x, 1) ∧ (s.get! p).toNat = x := fun p x hx h => by
      have := decode_small (s := s) (p := p) (by omega)
      exact ⟨by rw [this.1, ← this.2, h], by rw [← this.2, h]⟩
    by_cases g0 : (Utf8.decode s 0).1 = 114 ∨ (Utf8.decode s 0).1 = 45
    · obtain ⟨d0, b0⟩ := dec 0 (Utf8.decode s 0).1 (by omega) rfl
      by_cases g1 : (Utf8.decode s 1).1 = 119 ∨ (Utf8.decode s 1).1 = 45
      · obtain ⟨d1, b1⟩ := dec 1 (Utf8.decode s 1).1 (by omega) rfl
        by_cases g2 : (Utf8.decode s 2).1 = 120 ∨ (Utf8.decode s 2).1 = 45
        · obtain ⟨d2, b2⟩ := dec 2 (Utf8.decode s 2).1 (by omega) rfl
          obtain ⟨v0, v7, vs⟩ := val_show _ _ _ s hs b0 b1 b2 g0 g1 g2
          exact .inl ⟨_, v0, v7, vs, fun w => parse_key _ _ _ s hs d0 d1 d2 g0 g1 g2 w⟩
        · exact .inr ⟨fun r r0 r7 h => g2 (by rw [h]; exact (show_dec r r0 r7).2.2), fun w => parse_bad2 _ _ _ _ s hs d0 d1 rfl g0 g1 g2 w⟩
      · exact .inr ⟨fun r r0 r7 h => g1 (by rw [h]; exact (show_dec r r0 r7).2.1), fun w => parse_bad1 _ _ _ s hs d0 rfl g0 g1 w⟩
    · exact .inr ⟨fun r r0 r7 h => g0 (by rw [h]; exact (show_dec r r0 r7).1), fun w => parse_bad0 _ _ s hs rfl g0 w⟩
  · exact .inr ⟨fun r _ _ h => hs (by rw [h]; rfl), fun w => parse_size s hs w⟩
theorem show_inj (a b : Int) (a0 : 0 ≤ a) (a7 : a ≤ 7) (b0 : 0 ≤ b) (b7 : b ≤ 7) (h : showS a = showS b) : a = b := by
  obtain rfl | rfl | rfl | rfl | rfl | rfl | rfl | rfl : a = 0 ∨ a = 1 ∨ a = 2 ∨ a = 3 ∨ a = 4 ∨ a = 5 ∨ a = 6 ∨ a = 7 := by omega
  all_goals
    obtain rfl | rfl | rfl | rfl | rfl | rfl | rfl | rfl : b = 0 ∨ b = 1 ∨ b = 2 ∨ b = 3 ∨ b = 4 ∨ b = 5 ∨ b = 6 ∨ b = 7 := by omega
    all_goals first | rfl | exact absurd h (by decide +kernel)
end Go.Proofs.Ytkdiplgnacjakaa.Ru
