/- The laws of package field: each call answers true. -/
import Derived.Test.YtnidkgnillipgaaHc
namespace Go.Proofs.Ytnidkgnillipgaa.La
open Go.RowKit Go.Proofs.Ytnidkgnillipgaa.G Go.Proofs.Ytnidkgnillipgaa.B Go.Proofs.Ytnidkgnillipgaa.Ha Go.Proofs.Ytnidkgnillipgaa.Hc
set_option linter.unusedVariables false
set_option linter.unusedSimpArgs false

set_option maxRecDepth 100000 in
set_option maxHeartbeats 1600000 in
theorem fieldGets_any (low wide x : Int) (h0 : 0 ≤ x) (h1 : x < 18446744073709551616) (w : World) :
    Calls Try.prog 3 #[.agg #[.int .i64 low, .int .i64 wide], .int .u64 x] w fun e w' => e = .returned (.bool true) ∧ Below w.heap.size w w' := by
  cases hfr : fr low wide
  · go_enter Try.func3, Try.ntmps3
    go_wp2_with (first
      | (refine box_agg_ev rfl rfl _ _ rfl #[.int .i64 low, .int .i64 wide] rfl ?_; intro g g_lo w1 hb hB; have hb_0 : w1.cell? ⟨g, 0, none⟩ = some (.int .i64 low) := (blk_cell hb 0).trans rfl; have hb_1 : w1.cell? ⟨g, 1, none⟩ = some (.int .i64 wide) := (blk_cell hb 1).trans rfl)
      | (go_at_call 13; (with_reducible refine (anchor_any _).mono ?_); rintro e w2 ⟨rfl, hq_⟩; have hb2 := blk_below hb hq_; clear hb hb_0 hb_1; have hb2_0 : w2.cell? ⟨g, 0, none⟩ = some (.int .i64 low) := (blk_cell hb2 0).trans rfl; have hb2_1 : w2.cell? ⟨g, 1, none⟩ = some (.int .i64 wide) := (blk_cell hb2 1).trans rfl; have hB2 := below_step hB hq_; clear hB hq_)
      | (go_at_call 14; refine (rright_any low wide _).mono ?_; rintro e w3 ⟨rfl, rfl⟩; rw [hfr])
      | (go_at_call 15; (with_reducible refine (right_as hfr _).mono ?_); rintro e w4 ⟨rfl, hq_⟩; have hb4 := blk_below hb2 hq_; clear hb2 hb2_0 hb2_1; have hb4_0 : w4.cell? ⟨g, 0, none⟩ = some (.int .i64 low) := (blk_cell hb4 0).trans rfl; have hb4_1 : w4.cell? ⟨g, 1, none⟩ = some (.int .i64 wide) := (blk_cell hb4 1).trans rfl; have hB4 := below_step hB2 hq_; clear hB2 hq_)
      | (go_at_call 16; (with_reducible refine (fget_no hfr x h0 h1 _).mono ?_); rintro e w5 ⟨rfl, hq_⟩; have hb5 := blk_below hb4 hq_; clear hb4 hb4_0 hb4_1; have hb5_0 : w5.cell? ⟨g, 0, none⟩ = some (.int .i64 low) := (blk_cell hb5 0).trans rfl; have hb5_1 : w5.cell? ⟨g, 1, none⟩ = some (.int .i64 wide) := (blk_cell hb5 1).trans rfl; have hB5 := below_step hB4 hq_; clear hB4 hq_)
      | (go_at_call 17; (with_reducible refine (fmask_no hfr _).mono ?_); rintro e w6 ⟨rfl, hq_⟩; have hb6 := blk_below hb5 hq_; clear hb5 hb5_0 hb5_1; have hb6_0 : w6.cell? ⟨g, 0, none⟩ = some (.int .i64 low) := (blk_cell hb6 0).trans rfl; have hb6_1 : w6.cell? ⟨g, 1, none⟩ = some (.int .i64 wide) := (blk_cell hb6 1).trans rfl; have hB6 := below_step hB5 hq_; clear hB5 hq_))
    go_ret
    exact ⟨rfl, hB6⟩
  · obtain ⟨l, k, rfl, rfl, hlk, hk1⟩ := fr_nat hfr
    have ho := ones_range k
    have hok : ones k < 2 ^ k := by unfold ones; rw [show min (k : Int).toNat 64 = k by omega]; omega
    have hmix : mixV 0 (ones k) l k = ((maskN l k : Nat) : Int) := by
      rw [← mask_ones l k hlk]
      simp [mixV, Int.mul_comm]
    go_enter Try.func3, Try.ntmps3
    go_wp2_with (first
      | (refine box_agg_ev rfl rfl _ _ rfl #[.int .i64 l, .int .i64 k] rfl ?_; intro g g_lo w1 hb hB; have hb_0 : w1.cell? ⟨g, 0, none⟩ = some (.int .i64 l) := (blk_cell hb 0).trans rfl; have hb_1 : w1.cell? ⟨g, 1, none⟩ = some (.int .i64 k) := (blk_cell hb 1).trans rfl)
      | (go_at_call 13; (with_reducible refine (anchor_any _).mono ?_); rintro e w2 ⟨rfl, hq_⟩; have hb2 := blk_below hb hq_; clear hb hb_0 hb_1; have hb2_0 : w2.cell? ⟨g, 0, none⟩ = some (.int .i64 l) := (blk_cell hb2 0).trans rfl; have hb2_1 : w2.cell? ⟨g, 1, none⟩ = some (.int .i64 k) := (blk_cell hb2 1).trans rfl; have hB2 := below_step hB hq_; clear hB hq_)
      | (go_at_call 14; refine (rright_any l k _).mono ?_; rintro e w3 ⟨rfl, rfl⟩; rw [hfr]))
    have qc_0_0 : ∀ x : WIn (Held w [(g, #[.int .i64 l, .int .i64 k], 23)]), x.val.cell? ⟨g, 0, none⟩ = some (.int .i64 l) := fun x => x.prop.cell 0 rfl 0 rfl
    have qc_0_1 : ∀ x : WIn (Held w [(g, #[.int .i64 l, .int .i64 k], 23)]), x.val.cell? ⟨g, 1, none⟩ = some (.int .i64 k) := fun x => x.prop.cell 0 rfl 1 rfl
    refine wp_region_S (Held w [(g, #[.int .i64 l, .int .i64 k], 23)]) (by kernel_rfl) (by kernel_rfl) (Held.cons hb2 (Held.nil hB2)).drew ?_
    repeat (go_big_quiet_step (first | (go_at_call 19; with_reducible exact quiet_same (ones_any _ _)) | (go_at_call 18; with_reducible exact quiet_held (rput_yes hlk 0 (ones k) (by omega) (by omega) ho.1 ho.2 hok _)) | exact rfl))
    refine wpQuiet_end ?_
    intro u hu
    clear qc_0_0 qc_0_1
    go_wp2
    have hb3 := hu.blk 0 rfl
    have hB3 := hu.low
    clear hu
    have qc_0_0 : ∀ x : WIn (Held w [(g, #[.int .i64 l, .int .i64 k], 23)]), x.val.cell? ⟨g, 0, none⟩ = some (.int .i64 l) := fun x => x.prop.cell 0 rfl 0 rfl
    have qc_0_1 : ∀ x : WIn (Held w [(g, #[.int .i64 l, .int .i64 k], 23)]), x.val.cell? ⟨g, 1, none⟩ = some (.int .i64 k) := fun x => x.prop.cell 0 rfl 1 rfl
    refine wp_region_S (Held w [(g, #[.int .i64 l, .int .i64 k], 23)]) (by kernel_rfl) (by kernel_rfl) (Held.cons hb3 (Held.nil hB3)).drew ?_
    repeat (go_big_quiet_step (first | (go_at_call 15; with_reducible exact quiet_held (right_as hfr _)) | (go_at_call 16; with_reducible exact quiet_held (fget_yes hfr x h0 h1 _)) | (go_at_call 20; with_reducible exact quiet_held (get_any x l k h0 h1 hlk _)) | (go_at_call 17; with_reducible exact quiet_held (fmask_yes hfr _)) | exact rfl))
    refine wpQuiet_end ?_
    intro u hu
    clear qc_0_0 qc_0_1
    go_wp2
    go_ret
    exact ⟨rfl, hu.low⟩

set_option maxRecDepth 100000 in
set_option maxHeartbeats 1600000 in
theorem fieldPuts_any (low wide x v : Int) (h0 : 0 ≤ x) (h1 : x < 18446744073709551616) (v0 : 0 ≤ v) (v1 : v < 18446744073709551616) (w : World) :
    Calls Try.prog 4 #[.agg #[.int .i64 low, .int .i64 wide], .int .u64 x, .int .u64 v] w fun e w' => e = .returned (.bool true) ∧ Below w.heap.size w w' := by
  cases hfr : fr low wide
  · go_enter Try.func4, Try.ntmps4
    go_wp2_with (first
      | (refine box_agg_ev rfl rfl _ _ rfl #[.int .i64 low, .int .i64 wide] rfl ?_; intro g g_lo w1 hb hB; have hb_0 : w1.cell? ⟨g, 0, none⟩ = some (.int .i64 low) := (blk_cell hb 0).trans rfl; have hb_1 : w1.cell? ⟨g, 1, none⟩ = some (.int .i64 wide) := (blk_cell hb 1).trans rfl)
      | (go_at_call 13; (with_reducible refine (anchor_any _).mono ?_); rintro e w2 ⟨rfl, hq_⟩; have hb2 := blk_below hb hq_; clear hb hb_0 hb_1; have hb2_0 : w2.cell? ⟨g, 0, none⟩ = some (.int .i64 low) := (blk_cell hb2 0).trans rfl; have hb2_1 : w2.cell? ⟨g, 1, none⟩ = some (.int .i64 wide) := (blk_cell hb2 1).trans rfl; have hB2 := below_step hB hq_; clear hB hq_)
      | (go_at_call 21; (with_reducible refine (fput_bad hfr x v h0 h1 v0 v1 _).mono ?_); rintro e w4 ⟨rfl, hq_⟩; have hb4 := blk_below hb2 hq_; clear hb2 hb2_0 hb2_1; have hb4_0 : w4.cell? ⟨g, 0, none⟩ = some (.int .i64 low) := (blk_cell hb4 0).trans rfl; have hb4_1 : w4.cell? ⟨g, 1, none⟩ = some (.int .i64 wide) := (blk_cell hb4 1).trans rfl; have hB4 := below_step hB2 hq_; clear hB2 hq_)
      | (go_at_call 15; (with_reducible refine (right_as hfr _).mono ?_); rintro e w5 ⟨rfl, hq_⟩; have hb5 := blk_below hb4 hq_; clear hb4 hb4_0 hb4_1; have hb5_0 : w5.cell? ⟨g, 0, none⟩ = some (.int .i64 low) := (blk_cell hb5 0).trans rfl; have hb5_1 : w5.cell? ⟨g, 1, none⟩ = some (.int .i64 wide) := (blk_cell hb5 1).trans rfl; have hB5 := below_step hB4 hq_; clear hB4 hq_))
    go_ret
    exact ⟨rfl, hB5⟩
  · obtain ⟨l, k, rfl, rfl, hlk, hk1⟩ := fr_nat hfr
    by_cases hv : v < 2 ^ k
    · have hm := mixV_ok x v l k h0 h1 v0 hv hlk
      have hmg : mixV x v l k / 2 ^ l % 2 ^ k = v := mixV_get x v l k h0 h1 v0 hv hlk
      have hma : bits .andNot .u64 (mixV x v l k) ((maskN l k : Nat) : Int) = bits .andNot .u64 x ((maskN l k : Nat) : Int) := mixV_rest x v l k h0 h1 v0 hv hlk
      go_enter Try.func4, Try.ntmps4
      go_wp2_with (first
        | (refine box_agg_ev rfl rfl _ _ rfl #[.int .i64 l, .int .i64 k] rfl ?_; intro g g_lo w1 hb hB; have hb_0 : w1.cell? ⟨g, 0, none⟩ = some (.int .i64 l) := (blk_cell hb 0).trans rfl; have hb_1 : w1.cell? ⟨g, 1, none⟩ = some (.int .i64 k) := (blk_cell hb 1).trans rfl)
        | (go_at_call 13; (with_reducible refine (anchor_any _).mono ?_); rintro e w2 ⟨rfl, hq_⟩; have hb2 := blk_below hb hq_; clear hb hb_0 hb_1; have hb2_0 : w2.cell? ⟨g, 0, none⟩ = some (.int .i64 l) := (blk_cell hb2 0).trans rfl; have hb2_1 : w2.cell? ⟨g, 1, none⟩ = some (.int .i64 k) := (blk_cell hb2 1).trans rfl; have hB2 := below_step hB hq_; clear hB hq_)
        | (go_at_call 21; (with_reducible refine (fput_yes hfr x v h0 h1 v0 v1 hv _).mono ?_); rintro e w4 ⟨rfl, hq_⟩; have hb4 := blk_below hb2 hq_; clear hb2 hb2_0 hb2_1; have hb4_0 : w4.cell? ⟨g, 0, none⟩ = some (.int .i64 l) := (blk_cell hb4 0).trans rfl; have hb4_1 : w4.cell? ⟨g, 1, none⟩ = some (.int .i64 k) := (blk_cell hb4 1).trans rfl; have hB4 := below_step hB2 hq_; clear hB2 hq_)
        | (go_at_call 15; (with_reducible refine (right_as hfr _).mono ?_); rintro e w5 ⟨rfl, hq_⟩; have hb5 := blk_below hb4 hq_; clear hb4 hb4_0 hb4_1; have hb5_0 : w5.cell? ⟨g, 0, none⟩ = some (.int .i64 l) := (blk_cell hb5 0).trans rfl; have hb5_1 : w5.cell? ⟨g, 1, none⟩ = some (.int .i64 k) := (blk_cell hb5 1).trans rfl; have hB5 := below_step hB4 hq_; clear hB4 hq_)
        | (go_at_call 18; (with_reducible refine (rput_yes hlk x v h0 h1 v0 v1 hv _).mono ?_); rintro e w6 ⟨rfl, hq_⟩; have hb6 := blk_below hb5 hq_; clear hb5 hb5_0 hb5_1; have hb6_0 : w6.cell? ⟨g, 0, none⟩ = some (.int .i64 l) := (blk_cell hb6 0).trans rfl; have hb6_1 : w6.cell? ⟨g, 1, none⟩ = some (.int .i64 k) := (blk_cell hb6 1).trans rfl; have hB6 := below_step hB5 hq_; clear hB5 hq_))
      have qc_0_0 : ∀ x : WIn (Held w [(g, #[.int .i64 l, .int .i64 k], 23)]), x.val.cell? ⟨g, 0, none⟩ = some (.int .i64 l) := fun x => x.prop.cell 0 rfl 0 rfl
      have qc_0_1 : ∀ x : WIn (Held w [(g, #[.int .i64 l, .int .i64 k], 23)]), x.val.cell? ⟨g, 1, none⟩ = some (.int .i64 k) := fun x => x.prop.cell 0 rfl 1 rfl
      refine wp_region_S (Held w [(g, #[.int .i64 l, .int .i64 k], 23)]) (by kernel_rfl) (by kernel_rfl) (Held.cons hb6 (Held.nil hB6)).drew ?_
      repeat (go_big_quiet_step (first | (go_at_call 16; with_reducible exact quiet_held (fget_yes hfr (mixV x v l k) hm.1 hm.2 _)) | (go_at_call 17; with_reducible exact quiet_held (fmask_yes hfr _)) | exact rfl))
      refine wpQuiet_end ?_
      intro u hu
      clear qc_0_0 qc_0_1
      go_wp2
      go_ret
      exact ⟨rfl, hu.low⟩
    · replace hv := Int.not_lt.mp hv
      go_enter Try.func4, Try.ntmps4
      go_wp2_with (first
        | (refine box_agg_ev rfl rfl _ _ rfl #[.int .i64 l, .int .i64 k] rfl ?_; intro g g_lo w1 hb hB; have hb_0 : w1.cell? ⟨g, 0, none⟩ = some (.int .i64 l) := (blk_cell hb 0).trans rfl; have hb_1 : w1.cell? ⟨g, 1, none⟩ = some (.int .i64 k) := (blk_cell hb 1).trans rfl)
        | (go_at_call 13; (with_reducible refine (anchor_any _).mono ?_); rintro e w2 ⟨rfl, hq_⟩; have hb2 := blk_below hb hq_; clear hb hb_0 hb_1; have hb2_0 : w2.cell? ⟨g, 0, none⟩ = some (.int .i64 l) := (blk_cell hb2 0).trans rfl; have hb2_1 : w2.cell? ⟨g, 1, none⟩ = some (.int .i64 k) := (blk_cell hb2 1).trans rfl; have hB2 := below_step hB hq_; clear hB hq_)
        | (go_at_call 21; (with_reducible refine (fput_big hfr x v h0 h1 v0 v1 hv _).mono ?_); rintro e w4 ⟨rfl, hq_⟩; have hb4 := blk_below hb2 hq_; clear hb2 hb2_0 hb2_1; have hb4_0 : w4.cell? ⟨g, 0, none⟩ = some (.int .i64 l) := (blk_cell hb4 0).trans rfl; have hb4_1 : w4.cell? ⟨g, 1, none⟩ = some (.int .i64 k) := (blk_cell hb4 1).trans rfl; have hB4 := below_step hB2 hq_; clear hB2 hq_)
        | (go_at_call 15; (with_reducible refine (right_as hfr _).mono ?_); rintro e w5 ⟨rfl, hq_⟩; have hb5 := blk_below hb4 hq_; clear hb4 hb4_0 hb4_1; have hb5_0 : w5.cell? ⟨g, 0, none⟩ = some (.int .i64 l) := (blk_cell hb5 0).trans rfl; have hb5_1 : w5.cell? ⟨g, 1, none⟩ = some (.int .i64 k) := (blk_cell hb5 1).trans rfl; have hB5 := below_step hB4 hq_; clear hB4 hq_)
        | (go_at_call 18; (with_reducible refine (rput_big hlk x v h0 h1 v0 v1 hv _).mono ?_); rintro e w6 ⟨rfl, hq_⟩; have hb6 := blk_below hb5 hq_; clear hb5 hb5_0 hb5_1; have hb6_0 : w6.cell? ⟨g, 0, none⟩ = some (.int .i64 l) := (blk_cell hb6 0).trans rfl; have hb6_1 : w6.cell? ⟨g, 1, none⟩ = some (.int .i64 k) := (blk_cell hb6 1).trans rfl; have hB6 := below_step hB5 hq_; clear hB5 hq_))
      go_ret
      exact ⟨rfl, hB6⟩

/-! ### FieldAligns -/
theorem rdown_nonneg (x n : Int) (h0 : 0 ≤ x) (h1 : x < 18446744073709551616) (hn0 : 0 ≤ n) (hn1 : n ≤ 9223372036854775807) (w : World) :
    Calls Try.prog 22 #[.int .u64 x, .int .i64 n] w fun e w' => e = .returned (.int .u64 (dn x n)) ∧ Below w.heap.size w w' := by
  have := down_any x n h0 h1 (by omega) hn1 w
  exact this
end Go.Proofs.Ytnidkgnillipgaa.La
