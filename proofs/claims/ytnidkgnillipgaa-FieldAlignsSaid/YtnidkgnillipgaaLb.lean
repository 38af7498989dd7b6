/- The law FieldAligns: each call answers true. -/
import Derived.Test.YtnidkgnillipgaaLa
import Derived.WalkLawsBesides
namespace Go.Proofs.Ytnidkgnillipgaa.Lb
open Go.RowKit Go.Proofs.Ytnidkgnillipgaa.G Go.Proofs.Ytnidkgnillipgaa.B Go.Proofs.Ytnidkgnillipgaa.Ha Go.Proofs.Ytnidkgnillipgaa.Hc Go.Proofs.Ytnidkgnillipgaa.La
set_option linter.unusedVariables false
set_option linter.unusedSimpArgs false

theorem rdown_neg (x n : Int) (h0 : 0 ≤ x) (h1 : x < 18446744073709551616) (hn : n < 0) (w : World) :
    Calls Try.prog 22 #[.int .u64 x, .int .i64 0] w fun e w' => e = .returned (.int .u64 (dn x n)) ∧ Below w.heap.size w w' := by
  rw [← dn_neg x n hn]
  exact rdown_nonneg x 0 h0 h1 (by omega) (by omega) w
theorem up_yes {x n : Int} (hal : al x n = true) (h0 : 0 ≤ x) (h1 : x < 18446744073709551616) (w : World) : Calls Try.prog 23 #[.int .u64 x, .int .i64 n] w fun e w' => e = .returned (.tuple #[.int .u64 x, .bool true]) ∧ w = w' := by
  have := up_any x n h0 h1 w; unfold upF at this; rwa [if_pos hal] at this
theorem up_no {x n : Int} (hal : al x n = false) (h0 : 0 ≤ x) (h1 : x < 18446744073709551616) (w : World) : Calls Try.prog 23 #[.int .u64 x, .int .i64 n] w fun e w' => e = .returned (.tuple #[.int .u64 (IntKind.u64.wrap (dn x n + ones n + 1)), .bool (dn x n + ones n != 18446744073709551615)]) ∧ w = w' := by
  have := up_any x n h0 h1 w; unfold upF at this; rwa [if_neg (by rw [hal]; decide)] at this
theorem aligned_as {x n : Int} {b : Bool} (hal : al x n = b) (h0 : 0 ≤ x) (h1 : x < 18446744073709551616) (w : World) : Calls Try.prog 25 #[.int .u64 x, .int .i64 n] w fun e w' => e = .returned (.bool b) ∧ w = w' := by
  have := aligned_any x n h0 h1 w; rwa [hal] at this

theorem up_over {x n : Int} (hal : al x n = false) (hov : dn x n + ones n = 18446744073709551615) (h0 : 0 ≤ x) (h1 : x < 18446744073709551616) (w : World) : Calls Try.prog 23 #[.int .u64 x, .int .i64 n] w fun e w' => e = .returned (.tuple #[.int .u64 0, .bool false]) ∧ w = w' := by
  have := up_no hal h0 h1 w
  rw [hov] at this
  exact this
theorem up_go {x n : Int} (hal : al x n = false) (hov : dn x n + ones n < 18446744073709551615) (h0 : 0 ≤ x) (h1 : x < 18446744073709551616) (w : World) : Calls Try.prog 23 #[.int .u64 x, .int .i64 n] w fun e w' => e = .returned (.tuple #[.int .u64 (nx x n), .bool true]) ∧ w = w' := by
  have := up_no hal h0 h1 w
  have a := dn_range x n h0 h1
  have b := ones_range n
  rw [u64_wrap _ (by omega) (by omega), show (dn x n + ones n != 18446744073709551615) = true by simp; omega] at this
  exact this

set_option maxRecDepth 100000 in
set_option maxHeartbeats 1600000 in
theorem fieldAligns_yes (x n : Int) (h0 : 0 ≤ x) (h1 : x < 18446744073709551616) (hn0 : -9223372036854775808 ≤ n) (hn1 : n ≤ 9223372036854775807) (hal : al x n = true) (w : World) :
    Calls Try.prog 5 #[.int .u64 x, .int .i64 n] w fun e w' => e = .returned (.bool true) ∧ Below w.heap.size w w' := by
  have hdx : dn x n = x := by rw [al_dn] at hal; simpa using hal
  have ho := ones_range n
  have hx1 : bits BinOp.xor IntKind.u64 (if IntKind.u64.signed = true then -1 else IntKind.u64.max) (dn 18446744073709551615 n) = ones n := by
    rw [not_u64 _ (by rw [dn_max64]; omega) (by rw [dn_max64]; omega), dn_max64]; omega
  by_cases hn : 0 ≤ n
  · go_enter Try.func5, Try.ntmps5
    go_wp2_with (first
      | (go_at_call 13; (with_reducible refine (anchor_any _).mono ?_); rintro e w1 ⟨rfl, hB⟩)
      | (go_at_call 22; (with_reducible refine (rdown_nonneg x n h0 h1 hn hn1 _).mono ?_); rintro e w2 ⟨rfl, hq_⟩; have hB2 := below_step hB hq_; clear hB hq_)
      | (go_at_call 23; (with_reducible refine (up_yes hal h0 h1 _).mono ?_); rintro e w3 ⟨rfl, rfl⟩)
      | (go_at_call 24; (with_reducible refine (down_any' x n h0 h1 _).mono ?_); rintro e w3 ⟨rfl, rfl⟩)
      | (go_at_call 25; (with_reducible refine (aligned_as hal h0 h1 _).mono ?_); rintro e w3 ⟨rfl, rfl⟩)
      | (go_at_call 19; (with_reducible refine (ones_any n _).mono ?_); rintro e w3 ⟨rfl, rfl⟩)
      | (go_at_call 22; (with_reducible refine (rdown_nonneg 18446744073709551615 n (by omega) (by omega) hn hn1 _).mono ?_); rintro e w4 ⟨rfl, hq_⟩; have hB4 := below_step hB2 hq_; clear hB2 hq_))
    go_ret
    exact ⟨rfl, hB4⟩
  · replace hn := Int.not_le.mp hn
    go_enter Try.func5, Try.ntmps5
    go_wp2_with (first
      | (go_at_call 13; (with_reducible refine (anchor_any _).mono ?_); rintro e w1 ⟨rfl, hB⟩)
      | (go_at_call 22; (with_reducible refine (rdown_neg x n h0 h1 hn _).mono ?_); rintro e w2 ⟨rfl, hq_⟩; have hB2 := below_step hB hq_; clear hB hq_)
      | (go_at_call 23; (with_reducible refine (up_yes hal h0 h1 _).mono ?_); rintro e w3 ⟨rfl, rfl⟩)
      | (go_at_call 24; (with_reducible refine (down_any' x n h0 h1 _).mono ?_); rintro e w3 ⟨rfl, rfl⟩)
      | (go_at_call 25; (with_reducible refine (aligned_as hal h0 h1 _).mono ?_); rintro e w3 ⟨rfl, rfl⟩)
      | (go_at_call 19; (with_reducible refine (ones_any n _).mono ?_); rintro e w3 ⟨rfl, rfl⟩)
      | (go_at_call 22; (with_reducible refine (rdown_neg 18446744073709551615 n (by omega) (by omega) hn _).mono ?_); rintro e w4 ⟨rfl, hq_⟩; have hB4 := below_step hB2 hq_; clear hB2 hq_))
    go_ret
    exact ⟨rfl, hB4⟩

set_option maxRecDepth 100000 in
set_option maxHeartbeats 1600000 in
theorem fieldAligns_over (x n : Int) (h0 : 0 ≤ x) (h1 : x < 18446744073709551616) (hn0 : -9223372036854775808 ≤ n) (hn1 : n ≤ 9223372036854775807) (hal : al x n = false) (hov : dn x n + ones n = 18446744073709551615) (w : World) :
    Calls Try.prog 5 #[.int .u64 x, .int .i64 n] w fun e w' => e = .returned (.bool true) ∧ Below w.heap.size w w' := by
  have hdx : (dn x n == x) = false := by rw [al_dn] at hal; exact hal
  have ho := ones_range n
  have hd := dn_range x n h0 h1
  have hx1 : bits BinOp.xor IntKind.u64 (if IntKind.u64.signed = true then -1 else IntKind.u64.max) (dn 18446744073709551615 n) = ones n := by
    rw [not_u64 _ (by rw [dn_max64]; omega) (by rw [dn_max64]; omega), dn_max64]; omega
  have hx2 : bits BinOp.xor IntKind.u64 (if IntKind.u64.signed = true then -1 else IntKind.u64.max) (dn x n) = ones n := by
    rw [not_u64 _ hd.1 (by omega)]; omega
  have hne : (dn x n != x) = true := by simpa using hdx
  have hov' := Lib.hid hov; clear hov
  by_cases hn : 0 ≤ n
  · go_enter Try.func5, Try.ntmps5
    go_wp2_with (first
      | (go_at_call 13; (with_reducible refine (anchor_any _).mono ?_); rintro e w1 ⟨rfl, hB⟩)
      | (go_at_call 22; (with_reducible refine (rdown_nonneg x n h0 h1 hn hn1 _).mono ?_); rintro e w2 ⟨rfl, hq_⟩; have hB2 := below_step hB hq_; clear hB hq_)
      | (go_at_call 23; (with_reducible refine (up_over hal hov'.out h0 h1 _).mono ?_); rintro e w3 ⟨rfl, rfl⟩)
      | (go_at_call 24; (with_reducible refine (down_any' x n h0 h1 _).mono ?_); rintro e w3 ⟨rfl, rfl⟩)
      | (go_at_call 25; (with_reducible refine (aligned_as hal h0 h1 _).mono ?_); rintro e w3 ⟨rfl, rfl⟩)
      | (go_at_call 19; (with_reducible refine (ones_any n _).mono ?_); rintro e w3 ⟨rfl, rfl⟩)
      | (go_at_call 22; (with_reducible refine (rdown_nonneg 18446744073709551615 n (by omega) (by omega) hn hn1 _).mono ?_); rintro e w4 ⟨rfl, hq_⟩; have hB4 := below_step hB2 hq_; clear hB2 hq_))
    go_ret
    exact ⟨rfl, hB4⟩
  · replace hn := Int.not_le.mp hn
    go_enter Try.func5, Try.ntmps5
    go_wp2_with (first
      | (go_at_call 13; (with_reducible refine (anchor_any _).mono ?_); rintro e w1 ⟨rfl, hB⟩)
      | (go_at_call 22; (with_reducible refine (rdown_neg x n h0 h1 hn _).mono ?_); rintro e w2 ⟨rfl, hq_⟩; have hB2 := below_step hB hq_; clear hB hq_)
      | (go_at_call 23; (with_reducible refine (up_over hal hov'.out h0 h1 _).mono ?_); rintro e w3 ⟨rfl, rfl⟩)
      | (go_at_call 24; (with_reducible refine (down_any' x n h0 h1 _).mono ?_); rintro e w3 ⟨rfl, rfl⟩)
      | (go_at_call 25; (with_reducible refine (aligned_as hal h0 h1 _).mono ?_); rintro e w3 ⟨rfl, rfl⟩)
      | (go_at_call 19; (with_reducible refine (ones_any n _).mono ?_); rintro e w3 ⟨rfl, rfl⟩)
      | (go_at_call 22; (with_reducible refine (rdown_neg 18446744073709551615 n (by omega) (by omega) hn _).mono ?_); rintro e w4 ⟨rfl, hq_⟩; have hB4 := below_step hB2 hq_; clear hB2 hq_))
    go_ret
    exact ⟨rfl, hB4⟩

set_option maxRecDepth 100000 in
set_option maxHeartbeats 1600000 in
theorem fieldAligns_go (x n : Int) (h0 : 0 ≤ x) (h1 : x < 18446744073709551616) (hn0 : -9223372036854775808 ≤ n) (hn1 : n ≤ 9223372036854775807) (hal : al x n = false) (hov : dn x n + ones n < 18446744073709551615) (w : World) :
    Calls Try.prog 5 #[.int .u64 x, .int .i64 n] w fun e w' => e = .returned (.bool true) ∧ Below w.heap.size w w' := by
  have hdx : (dn x n == x) = false := by rw [al_dn] at hal; exact hal
  have ho := ones_range n
  have hd := dn_range x n h0 h1
  have hx1 : bits BinOp.xor IntKind.u64 (if IntKind.u64.signed = true then -1 else IntKind.u64.max) (dn 18446744073709551615 n) = ones n := by
    rw [not_u64 _ (by rw [dn_max64]; omega) (by rw [dn_max64]; omega), dn_max64]; omega
  have hne : (dn x n != x) = true := by simpa using hdx
  have hg : x < nx x n := nx_gt h0
  have hgx : (nx x n == x) = false := beq_eq_false_iff_ne.mpr (by omega)
  have hg2 : nx x n < 18446744073709551616 := by unfold nx; omega
  have hg0 : 0 ≤ nx x n := by omega
  have hw1 : IntKind.u64.wrap (nx x n - dn x n) = ones n + 1 := by unfold nx; rw [u64_wrap _ (by omega) (by omega)]; omega
  have hw2 : IntKind.u64.wrap (ones n + 1) = ones n + 1 := u64_wrap _ (by omega) (by omega)
  have han := al_nx x n
  have hov' := Lib.hid hov; clear hov
  by_cases hn : 0 ≤ n
  · go_enter Try.func5, Try.ntmps5
    go_wp2_with (first
      | (go_at_call 13; (with_reducible refine (anchor_any _).mono ?_); rintro e w1 ⟨rfl, hB⟩)
      | (go_at_call 22; (with_reducible refine (rdown_nonneg x n h0 h1 hn hn1 _).mono ?_); rintro e w2 ⟨rfl, hq_⟩; have hB2 := below_step hB hq_; clear hB hq_)
      | (go_at_call 23; (with_reducible refine (up_go hal hov'.out h0 h1 _).mono ?_); rintro e w3 ⟨rfl, rfl⟩)
      | (go_at_call 24; (with_reducible refine (down_any' x n h0 h1 _).mono ?_); rintro e w3 ⟨rfl, rfl⟩)
      | (go_at_call 25; (with_reducible refine (aligned_as hal h0 h1 _).mono ?_); rintro e w3 ⟨rfl, rfl⟩)
      | (go_at_call 19; (with_reducible refine (ones_any n _).mono ?_); rintro e w3 ⟨rfl, rfl⟩)
      | (go_at_call 22; (with_reducible refine (rdown_nonneg 18446744073709551615 n (by omega) (by omega) hn hn1 _).mono ?_); rintro e w4 ⟨rfl, hq_⟩; have hB4 := below_step hB2 hq_; clear hB2 hq_)
        | (go_at_call 25; (with_reducible refine (aligned_as han hg0 hg2 _).mono ?_); rintro e w3 ⟨rfl, rfl⟩))
    go_ret
    exact ⟨rfl, hB4⟩
  · replace hn := Int.not_le.mp hn
    go_enter Try.func5, Try.ntmps5
    go_wp2_with (first
      | (go_at_call 13; (with_reducible refine (anchor_any _).mono ?_); rintro e w1 ⟨rfl, hB⟩)
      | (go_at_call 22; (with_reducible refine (rdown_neg x n h0 h1 hn _).mono ?_); rintro e w2 ⟨rfl, hq_⟩; have hB2 := below_step hB hq_; clear hB hq_)
      | (go_at_call 23; (with_reducible refine (up_go hal hov'.out h0 h1 _).mono ?_); rintro e w3 ⟨rfl, rfl⟩)
      | (go_at_call 24; (with_reducible refine (down_any' x n h0 h1 _).mono ?_); rintro e w3 ⟨rfl, rfl⟩)
      | (go_at_call 25; (with_reducible refine (aligned_as hal h0 h1 _).mono ?_); rintro e w3 ⟨rfl, rfl⟩)
      | (go_at_call 19; (with_reducible refine (ones_any n _).mono ?_); rintro e w3 ⟨rfl, rfl⟩)
      | (go_at_call 22; (with_reducible refine (rdown_neg 18446744073709551615 n (by omega) (by omega) hn _).mono ?_); rintro e w4 ⟨rfl, hq_⟩; have hB4 := below_step hB2 hq_; clear hB2 hq_)
        | (go_at_call 25; (with_reducible refine (aligned_as han hg0 hg2 _).mono ?_); rintro e w3 ⟨rfl, rfl⟩))
    go_ret
    exact ⟨rfl, hB4⟩

theorem fieldAligns_any (x n : Int) (h0 : 0 ≤ x) (h1 : x < 18446744073709551616) (hn0 : -9223372036854775808 ≤ n) (hn1 : n ≤ 9223372036854775807) (w : World) :
    Calls Try.prog 5 #[.int .u64 x, .int .i64 n] w fun e w' => e = .returned (.bool true) ∧ Below w.heap.size w w' := by
  cases hal : al x n
  · by_cases hov : dn x n + ones n = 18446744073709551615
    · exact fieldAligns_over x n h0 h1 hn0 hn1 hal hov w
    · refine fieldAligns_go x n h0 h1 hn0 hn1 hal ?_ w
      have a : x % 2 ^ min n.toNat 64 = x - dn x n := by unfold dn; omega
      have b : dn x n + ones n < 18446744073709551616 := by
        rw [← or_ones x n h0 h1]
        unfold bits IntKind.wrap
        simp [IntKind.bits, IntKind.signed]
        omega
      omega
  · exact fieldAligns_yes x n h0 h1 hn0 hn1 hal w
end Go.Proofs.Ytnidkgnillipgaa.Lb
