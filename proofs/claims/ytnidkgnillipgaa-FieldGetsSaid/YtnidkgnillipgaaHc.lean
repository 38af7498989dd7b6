/- The functions of package field: what each call answers. -/
import Derived.Test.YtnidkgnillipgaaProg
import Derived.Test.YtnidkgnillipgaaHa
namespace Go.Proofs.Ytnidkgnillipgaa.Hc
open Go.RowKit Go.Proofs.Ytnidkgnillipgaa.G Go.Proofs.Ytnidkgnillipgaa.B Go.Proofs.Ytnidkgnillipgaa.Ha
set_option linter.unusedVariables false
set_option linter.unusedSimpArgs false

set_option maxRecDepth 100000 in
theorem ones_any (n : Int) (w : World) : Calls Try.prog 19 #[.int .i64 n] w fun e w' => e = .returned (.int .u64 (ones n)) ∧ w = w' := by
  by_cases h1 : n < 1
  · have E := Lib.hid (ones_low n h1)
    go_enter Try.func19, Try.ntmps19
    go_wp2
    go_ret
    exact ⟨by rw [E.out]; rfl, rfl⟩
  · by_cases h2 : 64 ≤ n
    · have E := Lib.hid (ones_high n h2)
      go_enter Try.func19, Try.ntmps19
      go_wp2
      go_ret
      exact ⟨by rw [E.out]; rfl, rfl⟩
    · have E := Lib.hid (ones_mid n (by omega) (by omega))
      go_enter Try.func19, Try.ntmps19
      go_wp2
      go_ret
      exact ⟨by rw [← E.out]; rfl, rfl⟩

set_option maxRecDepth 100000 in
set_option maxHeartbeats 800000 in
theorem right_any (low wide : Int) (w : World) : Calls Try.prog 15 #[.agg #[.int .i64 low, .int .i64 wide]] w fun e w' => e = .returned (.bool (fr low wide)) ∧ Below w.heap.size w w' := by
  by_cases h1 : 0 ≤ low
  · by_cases h2 : low < 64
    · by_cases h3 : 1 ≤ wide
      · have e : fr low wide = decide (wide ≤ 64 - low) := by
          unfold fr
          rw [decide_eq_decide]
          omega
        have E := Lib.hid e; clear e
        go_enter Try.func15, Try.ntmps15
        go_wp2_with (refine box_agg_ev rfl rfl _ _ rfl #[.int .i64 low, .int .i64 wide] rfl ?_; intro g g_lo w1 hb hB; have hb_0 : w1.cell? ⟨g, 0, none⟩ = some (.int .i64 low) := (blk_cell hb 0).trans rfl; have hb_1 : w1.cell? ⟨g, 1, none⟩ = some (.int .i64 wide) := (blk_cell hb 1).trans rfl)
        go_ret
        exact ⟨by rw [E.out]; rfl, hB⟩
      · have e : fr low wide = false := by simp [fr]; omega
        have E := Lib.hid e; clear e
        go_enter Try.func15, Try.ntmps15
        go_wp2_with (refine box_agg_ev rfl rfl _ _ rfl #[.int .i64 low, .int .i64 wide] rfl ?_; intro g g_lo w1 hb hB; have hb_0 : w1.cell? ⟨g, 0, none⟩ = some (.int .i64 low) := (blk_cell hb 0).trans rfl; have hb_1 : w1.cell? ⟨g, 1, none⟩ = some (.int .i64 wide) := (blk_cell hb 1).trans rfl)
        go_ret
        exact ⟨by rw [E.out]; rfl, hB⟩
    · have e : fr low wide = false := by simp [fr]; omega
      have E := Lib.hid e; clear e
      go_enter Try.func15, Try.ntmps15
      go_wp2_with (refine box_agg_ev rfl rfl _ _ rfl #[.int .i64 low, .int .i64 wide] rfl ?_; intro g g_lo w1 hb hB; have hb_0 : w1.cell? ⟨g, 0, none⟩ = some (.int .i64 low) := (blk_cell hb 0).trans rfl; have hb_1 : w1.cell? ⟨g, 1, none⟩ = some (.int .i64 wide) := (blk_cell hb 1).trans rfl)
      go_ret
      exact ⟨by rw [E.out]; rfl, hB⟩
  · have e : fr low wide = false := by simp [fr]; omega
    have E := Lib.hid e; clear e
    go_enter Try.func15, Try.ntmps15
    go_wp2_with (refine box_agg_ev rfl rfl _ _ rfl #[.int .i64 low, .int .i64 wide] rfl ?_; intro g g_lo w1 hb hB; have hb_0 : w1.cell? ⟨g, 0, none⟩ = some (.int .i64 low) := (blk_cell hb 0).trans rfl; have hb_1 : w1.cell? ⟨g, 1, none⟩ = some (.int .i64 wide) := (blk_cell hb 1).trans rfl)
    go_ret
    exact ⟨by rw [E.out]; rfl, hB⟩

set_option maxRecDepth 100000 in
set_option maxHeartbeats 800000 in
theorem fget_any (low wide x : Int) (h0 : 0 ≤ x) (h1 : x < 18446744073709551616) (w : World) : Calls Try.prog 16 #[.agg #[.int .i64 low, .int .i64 wide], .int .u64 x] w fun e w' => e = .returned (.int .u64 (getV low wide x)) ∧ Below w.heap.size w w' := by
  cases hfr : fr low wide
  · have E := Lib.hid (getV_no (x := x) hfr)
    go_enter Try.func16, Try.ntmps16
    go_wp2_with (first | (refine box_agg_ev rfl rfl _ _ rfl #[.int .i64 low, .int .i64 wide] rfl ?_; intro g g_lo w1 hb hB; have hb_0 : w1.cell? ⟨g, 0, none⟩ = some (.int .i64 low) := (blk_cell hb 0).trans rfl; have hb_1 : w1.cell? ⟨g, 1, none⟩ = some (.int .i64 wide) := (blk_cell hb 1).trans rfl) | (go_at_call 15; (with_reducible refine (right_any low wide _).mono ?_); rintro e w2 ⟨rfl, hB2⟩))
    go_ret
    exact ⟨by rw [E.out]; rfl, below_step hB hB2⟩
  · obtain ⟨l, k, rfl, rfl, hlk, hk1⟩ := fr_nat hfr
    have E := Lib.hid (getV_yes (x := x) hfr)
    have hl63 : (l : Int) ≤ 64 := by omega
    go_enter Try.func16, Try.ntmps16
    go_wp2_with (first | (refine box_agg_ev rfl rfl _ _ rfl #[.int .i64 l, .int .i64 k] rfl ?_; intro g g_lo w1 hb hB; have hb_0 : w1.cell? ⟨g, 0, none⟩ = some (.int .i64 l) := (blk_cell hb 0).trans rfl; have hb_1 : w1.cell? ⟨g, 1, none⟩ = some (.int .i64 k) := (blk_cell hb 1).trans rfl) | (go_at_call 15; (with_reducible refine (right_any l k _).mono ?_); rintro e w2 ⟨rfl, hB2⟩))
    have hb2 := blk_below hb hB2
    have hB3 := below_step hB hB2
    clear hb hB hB2 hb_0 hb_1
    have qc_0_0 : ∀ x : WIn (Held w [(g, #[.int .i64 l, .int .i64 k], 23)]), x.val.cell? ⟨g, 0, none⟩ = some (.int .i64 l) := fun x => x.prop.cell 0 rfl 0 rfl
    have qc_0_1 : ∀ x : WIn (Held w [(g, #[.int .i64 l, .int .i64 k], 23)]), x.val.cell? ⟨g, 1, none⟩ = some (.int .i64 k) := fun x => x.prop.cell 0 rfl 1 rfl
    refine wp_region_S (Held w [(g, #[.int .i64 l, .int .i64 k], 23)]) (by kernel_rfl) (by kernel_rfl) (Held.cons hb2 (Held.nil hB3)).drew ?_
    repeat (go_big_quiet_step (first | (go_at_call 19; with_reducible exact quiet_same (ones_any _ _)) | exact rfl))
    refine wpQuiet_end ?_
    intro u hu
    clear qc_0_0 qc_0_1
    go_wp2
    go_ret
    refine ⟨?_, hu.low⟩
    rw [E.out, and_ones _ _ (shr_range x l h0 h1).1 (shr_range x l h0 h1).2, show min (k : Int).toNat 64 = k by omega]
    rfl

set_option maxRecDepth 100000 in
set_option maxHeartbeats 800000 in
theorem fmask_any (low wide : Int) (w : World) : Calls Try.prog 17 #[.agg #[.int .i64 low, .int .i64 wide]] w fun e w' => e = .returned (.int .u64 (maskV low wide)) ∧ Below w.heap.size w w' := by
  cases hfr : fr low wide
  · have E := Lib.hid (maskV_no hfr)
    go_enter Try.func17, Try.ntmps17
    go_wp2_with (first | (refine box_agg_ev rfl rfl _ _ rfl #[.int .i64 low, .int .i64 wide] rfl ?_; intro g g_lo w1 hb hB; have hb_0 : w1.cell? ⟨g, 0, none⟩ = some (.int .i64 low) := (blk_cell hb 0).trans rfl; have hb_1 : w1.cell? ⟨g, 1, none⟩ = some (.int .i64 wide) := (blk_cell hb 1).trans rfl) | (go_at_call 15; (with_reducible refine (right_any low wide _).mono ?_); rintro e w2 ⟨rfl, hB2⟩))
    go_ret
    exact ⟨by rw [E.out]; rfl, below_step hB hB2⟩
  · obtain ⟨l, k, rfl, rfl, hlk, hk1⟩ := fr_nat hfr
    have E := Lib.hid (maskV_yes hfr)
    have hl63 : (l : Int) ≤ 64 := by omega
    go_enter Try.func17, Try.ntmps17
    go_wp2_with (first | (refine box_agg_ev rfl rfl _ _ rfl #[.int .i64 l, .int .i64 k] rfl ?_; intro g g_lo w1 hb hB; have hb_0 : w1.cell? ⟨g, 0, none⟩ = some (.int .i64 l) := (blk_cell hb 0).trans rfl; have hb_1 : w1.cell? ⟨g, 1, none⟩ = some (.int .i64 k) := (blk_cell hb 1).trans rfl) | (go_at_call 15; (with_reducible refine (right_any l k _).mono ?_); rintro e w2 ⟨rfl, hB2⟩))
    have hb2 := blk_below hb hB2
    have hB3 := below_step hB hB2
    clear hb hB hB2 hb_0 hb_1
    have qc_0_0 : ∀ x : WIn (Held w [(g, #[.int .i64 l, .int .i64 k], 23)]), x.val.cell? ⟨g, 0, none⟩ = some (.int .i64 l) := fun x => x.prop.cell 0 rfl 0 rfl
    have qc_0_1 : ∀ x : WIn (Held w [(g, #[.int .i64 l, .int .i64 k], 23)]), x.val.cell? ⟨g, 1, none⟩ = some (.int .i64 k) := fun x => x.prop.cell 0 rfl 1 rfl
    refine wp_region_S (Held w [(g, #[.int .i64 l, .int .i64 k], 23)]) (by kernel_rfl) (by kernel_rfl) (Held.cons hb2 (Held.nil hB3)).drew ?_
    repeat (go_big_quiet_step (first | (go_at_call 19; with_reducible exact quiet_same (ones_any _ _)) | exact rfl))
    refine wpQuiet_end ?_
    intro u hu
    clear qc_0_0 qc_0_1
    go_wp2
    go_ret
    refine ⟨?_, hu.low⟩
    rw [E.out]
    rw [← mask_wrap l k hlk]
    rfl

/-- What Put answers. -/
def putF (low wide x v : Int) : Value := .tuple (if fr low wide then (if v < 2 ^ wide.toNat then #[.int .u64 (x % 2 ^ low.toNat + 2 ^ low.toNat * v + 2 ^ (low.toNat + wide.toNat) * (x / 2 ^ (low.toNat + wide.toNat))), .int .i64 0] else #[.int .u64 0, .int .i64 11]) else #[.int .u64 0, .int .i64 10])
set_option maxRecDepth 100000 in
set_option maxHeartbeats 1600000 in
theorem fput_any (low wide x v : Int) (h0 : 0 ≤ x) (h1 : x < 18446744073709551616) (v0 : 0 ≤ v) (v1 : v < 18446744073709551616) (w : World) :
    Calls Try.prog 21 #[.agg #[.int .i64 low, .int .i64 wide], .int .u64 x, .int .u64 v] w fun e w' => e = .returned (putF low wide x v) ∧ Below w.heap.size w w' := by
  cases hfr : fr low wide
  · go_enter Try.func21, Try.ntmps21
    go_wp2_with (first | (refine box_agg_ev rfl rfl _ _ rfl #[.int .i64 low, .int .i64 wide] rfl ?_; intro g g_lo w1 hb hB; have hb_0 : w1.cell? ⟨g, 0, none⟩ = some (.int .i64 low) := (blk_cell hb 0).trans rfl; have hb_1 : w1.cell? ⟨g, 1, none⟩ = some (.int .i64 wide) := (blk_cell hb 1).trans rfl) | (go_at_call 15; (with_reducible refine (right_any low wide _).mono ?_); rintro e w2 ⟨rfl, hB2⟩))
    go_ret2
    refine ⟨?_, below_step hB hB2⟩
    unfold putF
    rw [hfr]
    rfl
  · obtain ⟨l, k, rfl, rfl, hlk, hk1⟩ := fr_nat hfr
    have hhi := high_word v k v0 v1 (by omega)
    by_cases hv : v < 2 ^ k
    · rw [decide_eq_true hv] at hhi
      have HV := Lib.hid hv; clear hv
      have E := Lib.hid (put_word x v l k h0 h1 v0 HV.out hlk)
      have EM := Lib.hid (maskV_yes hfr)
      have hl63 : (l : Int) ≤ 64 := by omega
      have hhi' : (bits .andNot .u64 v (ones k) != 0) = false := hhi
      clear hhi
      go_enter Try.func21, Try.ntmps21
      go_wp2_with (first | (refine box_agg_ev rfl rfl _ _ rfl #[.int .i64 l, .int .i64 k] rfl ?_; intro g g_lo w1 hb hB; have hb_0 : w1.cell? ⟨g, 0, none⟩ = some (.int .i64 l) := (blk_cell hb 0).trans rfl; have hb_1 : w1.cell? ⟨g, 1, none⟩ = some (.int .i64 k) := (blk_cell hb 1).trans rfl) | (go_at_call 15; (with_reducible refine (right_any l k _).mono ?_); rintro e w2 ⟨rfl, hq_⟩; have hb2 := blk_below hb hq_; clear hb hb_0 hb_1; have hb2_0 : w2.cell? ⟨g, 0, none⟩ = some (.int .i64 l) := (blk_cell hb2 0).trans rfl; have hb2_1 : w2.cell? ⟨g, 1, none⟩ = some (.int .i64 k) := (blk_cell hb2 1).trans rfl; have hB2 := below_step hB hq_; clear hB hq_) | (go_at_call 19; (with_reducible refine (ones_any _ _).mono ?_); rintro e w3 ⟨rfl, rfl⟩))
      have qc_0_0 : ∀ x : WIn (Held w [(g, #[.int .i64 l, .int .i64 k], 23)]), x.val.cell? ⟨g, 0, none⟩ = some (.int .i64 l) := fun x => x.prop.cell 0 rfl 0 rfl
      have qc_0_1 : ∀ x : WIn (Held w [(g, #[.int .i64 l, .int .i64 k], 23)]), x.val.cell? ⟨g, 1, none⟩ = some (.int .i64 k) := fun x => x.prop.cell 0 rfl 1 rfl
      refine wp_region_S (Held w [(g, #[.int .i64 l, .int .i64 k], 23)]) (by kernel_rfl) (by kernel_rfl) (Held.cons hb2 (Held.nil hB2)).drew ?_
      repeat (go_big_quiet_step (first | (go_at_call 17; with_reducible exact quiet_held (fmask_any _ _ _)) | exact rfl))
      refine wpQuiet_end ?_
      intro u hu
      clear qc_0_0 qc_0_1
      go_wp2
      go_ret2
      refine ⟨?_, hu.low⟩
      unfold putF
      rw [hfr, if_pos rfl, if_pos (by simpa using HV.out)]
      rw [EM.out, E.out]
      rfl
    · have hhi' : (bits .andNot .u64 v (ones k) != 0) = true := by rw [hhi, decide_eq_false hv]; rfl
      have HV := Lib.hid hv; clear hv hhi
      go_enter Try.func21, Try.ntmps21
      go_wp2_with (first | (refine box_agg_ev rfl rfl _ _ rfl #[.int .i64 l, .int .i64 k] rfl ?_; intro g g_lo w1 hb hB; have hb_0 : w1.cell? ⟨g, 0, none⟩ = some (.int .i64 l) := (blk_cell hb 0).trans rfl; have hb_1 : w1.cell? ⟨g, 1, none⟩ = some (.int .i64 k) := (blk_cell hb 1).trans rfl) | (go_at_call 15; (with_reducible refine (right_any l k _).mono ?_); rintro e w2 ⟨rfl, hq_⟩; have hb2 := blk_below hb hq_; clear hb hb_0 hb_1; have hb2_0 : w2.cell? ⟨g, 0, none⟩ = some (.int .i64 l) := (blk_cell hb2 0).trans rfl; have hb2_1 : w2.cell? ⟨g, 1, none⟩ = some (.int .i64 k) := (blk_cell hb2 1).trans rfl; have hB2 := below_step hB hq_; clear hB hq_) | (go_at_call 19; (with_reducible refine (ones_any _ _).mono ?_); rintro e w3 ⟨rfl, rfl⟩))
      go_ret2
      refine ⟨?_, hB2⟩
      unfold putF
      rw [hfr, if_pos rfl, if_neg (by simpa using HV.out)]
      rfl

/-! ### The same, where it is known whether the field is right -/
theorem right_as {low wide : Int} {b : Bool} (h : fr low wide = b) (w : World) : Calls Try.prog 15 #[.agg #[.int .i64 low, .int .i64 wide]] w fun e w' => e = .returned (.bool b) ∧ Below w.heap.size w w' := by
  have := right_any low wide w; rwa [h] at this
theorem fget_no {low wide : Int} (h : fr low wide = false) (x : Int) (h0 : 0 ≤ x) (h1 : x < 18446744073709551616) (w : World) : Calls Try.prog 16 #[.agg #[.int .i64 low, .int .i64 wide], .int .u64 x] w fun e w' => e = .returned (.int .u64 0) ∧ Below w.heap.size w w' := by
  have := fget_any low wide x h0 h1 w; rwa [getV_no h] at this
theorem fget_yes {l k : Nat} (h : fr l k = true) (x : Int) (h0 : 0 ≤ x) (h1 : x < 18446744073709551616) (w : World) : Calls Try.prog 16 #[.agg #[.int .i64 l, .int .i64 k], .int .u64 x] w fun e w' => e = .returned (.int .u64 (x / 2 ^ l % 2 ^ k)) ∧ Below w.heap.size w w' := by
  have := fget_any l k x h0 h1 w; rwa [getV_yes h] at this
theorem fmask_no {low wide : Int} (h : fr low wide = false) (w : World) : Calls Try.prog 17 #[.agg #[.int .i64 low, .int .i64 wide]] w fun e w' => e = .returned (.int .u64 0) ∧ Below w.heap.size w w' := by
  have := fmask_any low wide w; rwa [maskV_no h] at this
theorem fmask_yes {l k : Nat} (h : fr l k = true) (w : World) : Calls Try.prog 17 #[.agg #[.int .i64 l, .int .i64 k]] w fun e w' => e = .returned (.int .u64 ((maskN l k : Nat) : Int)) ∧ Below w.heap.size w w' := by
  have := fmask_any l k w; rwa [maskV_yes h] at this
theorem fput_bad {low wide : Int} (h : fr low wide = false) (x v : Int) (h0 : 0 ≤ x) (h1 : x < 18446744073709551616) (v0 : 0 ≤ v) (v1 : v < 18446744073709551616) (w : World) :
    Calls Try.prog 21 #[.agg #[.int .i64 low, .int .i64 wide], .int .u64 x, .int .u64 v] w fun e w' => e = .returned (.tuple #[.int .u64 0, .int .i64 10]) ∧ Below w.heap.size w w' := by
  have := fput_any low wide x v h0 h1 v0 v1 w; unfold putF at this; rw [h] at this; simpa using this
theorem fput_big {l k : Nat} (h : fr l k = true) (x v : Int) (h0 : 0 ≤ x) (h1 : x < 18446744073709551616) (v0 : 0 ≤ v) (v1 : v < 18446744073709551616) (hv : 2 ^ k ≤ v) (w : World) :
    Calls Try.prog 21 #[.agg #[.int .i64 l, .int .i64 k], .int .u64 x, .int .u64 v] w fun e w' => e = .returned (.tuple #[.int .u64 0, .int .i64 11]) ∧ Below w.heap.size w w' := by
  have := fput_any l k x v h0 h1 v0 v1 w; unfold putF at this; rw [h, if_pos rfl, if_neg (by simpa using Int.not_lt.mpr hv)] at this; exact this
theorem fput_yes {l k : Nat} (h : fr l k = true) (x v : Int) (h0 : 0 ≤ x) (h1 : x < 18446744073709551616) (v0 : 0 ≤ v) (v1 : v < 18446744073709551616) (hv : v < 2 ^ k) (w : World) :
    Calls Try.prog 21 #[.agg #[.int .i64 l, .int .i64 k], .int .u64 x, .int .u64 v] w fun e w' => e = .returned (.tuple #[.int .u64 (mixV x v l k), .int .i64 0]) ∧ Below w.heap.size w w' := by
  have := fput_any l k x v h0 h1 v0 v1 w; unfold putF at this; rw [h, if_pos rfl, if_pos (by simpa using hv)] at this; exact this
theorem rput_big {l k : Nat} (h : l + k ≤ 64) (x v : Int) (h0 : 0 ≤ x) (h1 : x < 18446744073709551616) (v0 : 0 ≤ v) (v1 : v < 18446744073709551616) (hv : 2 ^ k ≤ v) (w : World) :
    Calls Try.prog 18 #[.int .u64 x, .int .i64 l, .int .i64 k, .int .u64 v] w fun e w' => e = .returned (.tuple #[.int .u64 0, .bool false]) ∧ Below w.heap.size w w' := by
  have := put_any x v l k h0 h1 v0 v1 h w; unfold putRes at this; rwa [if_neg (Int.not_lt.mpr hv)] at this
theorem rput_yes {l k : Nat} (h : l + k ≤ 64) (x v : Int) (h0 : 0 ≤ x) (h1 : x < 18446744073709551616) (v0 : 0 ≤ v) (v1 : v < 18446744073709551616) (hv : v < 2 ^ k) (w : World) :
    Calls Try.prog 18 #[.int .u64 x, .int .i64 l, .int .i64 k, .int .u64 v] w fun e w' => e = .returned (.tuple #[.int .u64 (mixV x v l k), .bool true]) ∧ Below w.heap.size w w' := by
  have := put_any x v l k h0 h1 v0 v1 h w; unfold putRes at this; rwa [if_pos hv] at this

/-! ### Alignment -/
set_option maxRecDepth 100000 in
theorem aligned_any (x n : Int) (h0 : 0 ≤ x) (h1 : x < 18446744073709551616) (w : World) : Calls Try.prog 25 #[.int .u64 x, .int .i64 n] w fun e w' => e = .returned (.bool (al x n)) ∧ w = w' := by
  have E := Lib.hid (and_ones x n h0 h1)
  go_enter Try.func25, Try.ntmps25
  go_wp2_with (go_at_call 19; (with_reducible refine (ones_any _ _).mono ?_); rintro e w3 ⟨rfl, rfl⟩)
  go_ret
  refine ⟨?_, rfl⟩
  unfold al
  rw [E.out]
  rfl
set_option maxRecDepth 100000 in
theorem down_any' (x n : Int) (h0 : 0 ≤ x) (h1 : x < 18446744073709551616) (w : World) : Calls Try.prog 24 #[.int .u64 x, .int .i64 n] w fun e w' => e = .returned (.int .u64 (dn x n)) ∧ w = w' := by
  have E := Lib.hid (andNot_ones x n h0 h1)
  go_enter Try.func24, Try.ntmps24
  go_wp2_with (go_at_call 19; (with_reducible refine (ones_any _ _).mono ?_); rintro e w3 ⟨rfl, rfl⟩)
  go_ret
  refine ⟨?_, rfl⟩
  unfold dn
  rw [E.out]
  rfl
/-- What Up answers. -/
def upF (x n : Int) : Value := if al x n then .tuple #[.int .u64 x, .bool true] else .tuple #[.int .u64 (IntKind.u64.wrap (dn x n + ones n + 1)), .bool (dn x n + ones n != 18446744073709551615)]
set_option maxRecDepth 100000 in
set_option maxHeartbeats 800000 in
theorem up_any (x n : Int) (h0 : 0 ≤ x) (h1 : x < 18446744073709551616) (w : World) : Calls Try.prog 23 #[.int .u64 x, .int .i64 n] w fun e w' => e = .returned (upF x n) ∧ w = w' := by
  have E := Lib.hid (or_ones x n h0 h1)
  cases hal : al x n
  all_goals
    go_enter Try.func23, Try.ntmps23
    go_wp2_with (first | (go_at_call 25; (with_reducible refine (aligned_any x n h0 h1 _).mono ?_); rintro e w2 ⟨rfl, rfl⟩) | (go_at_call 19; (with_reducible refine (ones_any _ _).mono ?_); rintro e w3 ⟨rfl, rfl⟩))
    go_ret2
    refine ⟨?_, rfl⟩
    unfold upF
    rw [hal]
    first | rfl | (rw [E.out]; rfl)

set_option maxRecDepth 100000 in
set_option maxHeartbeats 800000 in
theorem rright_any (low wide : Int) (w : World) : Calls Try.prog 14 #[.int .i64 low, .int .i64 wide] w fun e w' => e = .returned (.bool (fr low wide)) ∧ w = w' := by
  by_cases h1 : 0 ≤ low
  · by_cases h2 : low ≤ 63
    · by_cases h3 : 1 ≤ wide
      · have e : fr low wide = decide (wide ≤ 64 - low) := by
          unfold fr
          rw [decide_eq_decide]
          omega
        have E := Lib.hid e; clear e
        go_enter Try.func14, Try.ntmps14
        go_wp2
        go_ret
        exact ⟨by rw [E.out]; rfl, rfl⟩
      · have e : fr low wide = false := by simp [fr]; omega
        have E := Lib.hid e; clear e
        go_enter Try.func14, Try.ntmps14
        go_wp2
        go_ret
        exact ⟨by rw [E.out]; rfl, rfl⟩
    · have e : fr low wide = false := by simp [fr]; omega
      have E := Lib.hid e; clear e
      go_enter Try.func14, Try.ntmps14
      go_wp2
      go_ret
      exact ⟨by rw [E.out]; rfl, rfl⟩
  · have e : fr low wide = false := by simp [fr]; omega
    have E := Lib.hid e; clear e
    go_enter Try.func14, Try.ntmps14
    go_wp2
    go_ret
    exact ⟨by rw [E.out]; rfl, rfl⟩

set_option maxRecDepth 100000 in
set_option maxHeartbeats 800000 in
theorem anchor_any (w : World) : Calls Try.prog 13 #[] w fun e w' => e = .returned (.bool true) ∧ Below w.heap.size w w' := by
  have e1 : putF 4 8 43981 18 = .tuple #[.int .u64 41261, .int .i64 0] := by kernel_rfl
  have e2 : upF 5 2 = .tuple #[.int .u64 8, .bool true] := by kernel_rfl
  have e3 : getV 4 8 43981 = 188 := by decide +kernel
  go_enter Try.func13, Try.ntmps13
  go_wp2_with (first
    | (refine alloc_ev rfl (N := 1) rfl _ rfl (.agg #[.int .i64 0, .int .i64 0]) (by kernel_rfl) #[.int .i64 0, .int .i64 0] rfl ?_; intro g g_lo w1 hb hB)
    | (refine store_row_ev rfl _ _ _ rfl g #[.int .i64 4, .int .i64 8] rfl rfl _ _ hb (by kernel_rfl) rfl (by simp [Value.oneCell']) ?_; intro w2 hb2 hM2; have hB2 := hM2.below hB g_lo; clear hb hB hM2; have hb2_0 : w2.cell? ⟨g, 0, none⟩ = some (.int .i64 4) := (blk_cell hb2 0).trans rfl; have hb2_1 : w2.cell? ⟨g, 1, none⟩ = some (.int .i64 8) := (blk_cell hb2 1).trans rfl)
    | (go_at_call 21; refine (fput_any 4 8 43981 18 (by omega) (by omega) (by omega) (by omega) _).mono ?_; rintro e w3 ⟨rfl, hq⟩; rw [e1]; have hb3 := blk_below hb2 hq; have hB3 := below_step hB2 hq; clear hb2 hb2_0 hb2_1 hB2 hq; have hb3_0 : w3.cell? ⟨g, 0, none⟩ = some (.int .i64 4) := (blk_cell hb3 0).trans rfl; have hb3_1 : w3.cell? ⟨g, 1, none⟩ = some (.int .i64 8) := (blk_cell hb3 1).trans rfl)
    | (go_at_call 23; refine (up_any 5 2 (by omega) (by omega) _).mono ?_; rintro e w4 ⟨rfl, rfl⟩; rw [e2])
    | (go_at_call 16; refine (fget_any 4 8 43981 (by omega) (by omega) _).mono ?_; rintro e w5 ⟨rfl, hB4⟩; rw [e3]))
  go_ret
  exact ⟨rfl, below_step hB3 hB4⟩
end Go.Proofs.Ytnidkgnillipgaa.Hc
