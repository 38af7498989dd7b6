/- portreeveref04.Right: what each call at a level from 0 to 3 answers. -/
import Derived.Test.YtccbpcdepgnmgaaProg
import Derived.Test.YtccbpcdepgnmgaaG
import Derived.Test.YtccbpcdepgnmgaaB
import Derived.Test.YtccbpcdepgnmgaaHa
namespace Go.Proofs.Ytccbpcdepgnmgaa.Lg
open Go.RowKit Go.Proofs.Ytccbpcdepgnmgaa.G Go.Proofs.Ytccbpcdepgnmgaa.B Go.Proofs.Ytccbpcdepgnmgaa.Ha
set_option linter.unusedVariables false
set_option linter.unusedSimpArgs false
/-- Is there such a descriptor at a level? -/
def rightD (level kind out : Int) (user write exec used : Bool) (attr : Int) : Bool :=
  decide (0 ≤ out ∧ out < 281474976710656) && (
  (kind == 0 && out == 0 && !user && !write && !exec && !used && attr == 0) ||
  (kind == 1 && decide (level < 3) && decide (out % 4096 = 0) && !user && !write && !exec && !used && attr == 0) ||
  (((kind == 2 && (level == 1 || level == 2)) || (kind == 3 && level == 3)) && decide (0 ≤ attr ∧ attr ≤ 7) && decide (out % 2 ^ (39 - 9 * level).toNat = 0)))
theorem down_as {x n r : Int} (h0 : 0 ≤ x) (h1 : x < 18446744073709551616) (n0 : 0 ≤ n) (n1 : n ≤ 64) (hr : x - x % 2 ^ n.toNat = r) (w : World) :
    Calls Try.prog 41 #[.int .u64 x, .int .i64 n] w fun e w' => e = .returned (.int .u64 r) ∧ Below w.heap.size w w' := by
  have := down_any x n h0 h1 (by omega) (by omega) w
  rw [show min n.toNat 64 = n.toNat by omega, hr] at this
  exact this
def plainD (user write exec used : Bool) (attr : Int) : Bool := !user && (!write && (!exec && (!used && attr == 0)))
set_option maxRecDepth 100000 in
set_option maxHeartbeats 8000000 in
theorem rright_any (level kind out attr : Int) (user write exec used : Bool) (l0 : 0 ≤ level) (l1 : level ≤ 3) (h0 : 0 ≤ out) (h1 : out < 18446744073709551616) (w : World) :
    Calls Try.prog 25 #[.int .i64 level, .agg #[.int .i64 kind, .int .u64 out, .bool user, .bool write, .bool exec, .bool used, .int .i64 attr]] w fun e w' => e = .returned (.bool (rightD level kind out user write exec used attr)) ∧ Below w.heap.size w w' := by
  by_cases c1 : kind < 0 ∨ 3 < kind ∨ attr < 0 ∨ 7 < attr ∨ 281474976710656 ≤ out
  · have e : rightD level kind out user write exec used attr = false := by
      unfold rightD
      simp
      omega
    rw [e]
    clear e
    rcases c1 with c | c | c | c | c
    all_goals
      go_enter Try.func25, Try.ntmps25
      go_wp2_with (first
        | (refine box_agg_ev rfl rfl _ _ rfl #[.int .i64 kind, .int .u64 out, .bool user, .bool write, .bool exec, .bool used, .int .i64 attr] rfl ?_; intro g g_lo w1 hb hB; have hb_0 : w1.cell? ⟨g, 0, none⟩ = some (.int .i64 kind) := (blk_cell hb 0).trans rfl; have hb_1 : w1.cell? ⟨g, 1, none⟩ = some (.int .u64 out) := (blk_cell hb 1).trans rfl; have hb_2 : w1.cell? ⟨g, 2, none⟩ = some (.bool user) := (blk_cell hb 2).trans rfl; have hb_3 : w1.cell? ⟨g, 3, none⟩ = some (.bool write) := (blk_cell hb 3).trans rfl; have hb_4 : w1.cell? ⟨g, 4, none⟩ = some (.bool exec) := (blk_cell hb 4).trans rfl; have hb_5 : w1.cell? ⟨g, 5, none⟩ = some (.bool used) := (blk_cell hb 5).trans rfl; have hb_6 : w1.cell? ⟨g, 6, none⟩ = some (.int .i64 attr) := (blk_cell hb 6).trans rfl))
      all_goals
        go_ret
        exact ⟨by simp, hB⟩
  · have k0 : 0 ≤ kind := by omega
    have k1 : kind ≤ 3 := by omega
    have a0 : 0 ≤ attr := by omega
    have a1 : attr ≤ 7 := by omega
    have o1 : out < 281474976710656 := by omega
    clear c1
    obtain rfl | rfl | c : kind = 0 ∨ kind = 1 ∨ 2 ≤ kind := by omega
    · clear k0 k1
      go_enter Try.func25, Try.ntmps25
      go_wp2_with (first
        | (refine box_agg_ev rfl rfl _ _ rfl #[.int .i64 0, .int .u64 out, .bool user, .bool write, .bool exec, .bool used, .int .i64 attr] rfl ?_; intro g g_lo w1 hb hB; have hb_0 : w1.cell? ⟨g, 0, none⟩ = some (.int .i64 0) := (blk_cell hb 0).trans rfl; have hb_1 : w1.cell? ⟨g, 1, none⟩ = some (.int .u64 out) := (blk_cell hb 1).trans rfl; have hb_2 : w1.cell? ⟨g, 2, none⟩ = some (.bool user) := (blk_cell hb 2).trans rfl; have hb_3 : w1.cell? ⟨g, 3, none⟩ = some (.bool write) := (blk_cell hb 3).trans rfl; have hb_4 : w1.cell? ⟨g, 4, none⟩ = some (.bool exec) := (blk_cell hb 4).trans rfl; have hb_5 : w1.cell? ⟨g, 5, none⟩ = some (.bool used) := (blk_cell hb 5).trans rfl; have hb_6 : w1.cell? ⟨g, 6, none⟩ = some (.int .i64 attr) := (blk_cell hb 6).trans rfl))
      all_goals
        go_ret
        exact ⟨by simp [rightD, *], hB⟩
    · clear k0 k1
      go_enter Try.func25, Try.ntmps25
      go_wp2_with (first
        | (refine box_agg_ev rfl rfl _ _ rfl #[.int .i64 1, .int .u64 out, .bool user, .bool write, .bool exec, .bool used, .int .i64 attr] rfl ?_; intro g g_lo w1 hb hB; have hb_0 : w1.cell? ⟨g, 0, none⟩ = some (.int .i64 1) := (blk_cell hb 0).trans rfl; have hb_1 : w1.cell? ⟨g, 1, none⟩ = some (.int .u64 out) := (blk_cell hb 1).trans rfl; have hb_2 : w1.cell? ⟨g, 2, none⟩ = some (.bool user) := (blk_cell hb 2).trans rfl; have hb_3 : w1.cell? ⟨g, 3, none⟩ = some (.bool write) := (blk_cell hb 3).trans rfl; have hb_4 : w1.cell? ⟨g, 4, none⟩ = some (.bool exec) := (blk_cell hb 4).trans rfl; have hb_5 : w1.cell? ⟨g, 5, none⟩ = some (.bool used) := (blk_cell hb 5).trans rfl; have hb_6 : w1.cell? ⟨g, 6, none⟩ = some (.int .i64 attr) := (blk_cell hb 6).trans rfl))
      all_goals
        go_ret
        exact ⟨by simp [rightD, *] <;> first | rfl | (intros; omega), hB⟩
    · have CL := fun w => low_any level l0 l1 w
      have CD := fun w => down_as (r := out - out % 2 ^ (39 - 9 * level).toNat) (n := 39 - 9 * level) h0 h1 (by omega) (by omega) rfl w
      have hr : (out - out % 2 ^ (39 - 9 * level).toNat == out) = decide (out % 2 ^ (39 - 9 * level).toNat = 0) := by
        rw [Bool.eq_iff_iff]; simp; omega
      have HR := fun (hk : (kind = 2 ∧ (level = 1 ∨ level = 2)) ∨ (kind = 3 ∧ level = 3)) => show rightD level kind out user write exec used attr = (out - out % 2 ^ (39 - 9 * level).toNat == out) by
        rw [hr]
        unfold rightD
        rcases hk with ⟨rfl, rfl | rfl⟩ | ⟨rfl, rfl⟩ <;> simp [h0, o1, a0, a1]
      have HN := fun (hk : ¬ ((kind = 2 ∧ (level = 1 ∨ level = 2)) ∨ (kind = 3 ∧ level = 3))) => show rightD level kind out user write exec used attr = false by
        unfold rightD
        simp
        omega
      generalize 39 - 9 * level = b at CL CD hr HR
      generalize out - out % 2 ^ b.toNat = r at CD hr HR
      clear hr
      obtain rfl | rfl : kind = 2 ∨ kind = 3 := by omega
      · by_cases c0 : level = 0
        · rw [HN (by omega)]
          subst c0
          clear CL CD HR HN c k0 k1
          go_enter Try.func25, Try.ntmps25
          go_wp2_with (first
            | (refine box_agg_ev rfl rfl _ _ rfl #[.int .i64 2, .int .u64 out, .bool user, .bool write, .bool exec, .bool used, .int .i64 attr] rfl ?_; intro g g_lo w1 hb hB; have hb_0 : w1.cell? ⟨g, 0, none⟩ = some (.int .i64 2) := (blk_cell hb 0).trans rfl; have hb_1 : w1.cell? ⟨g, 1, none⟩ = some (.int .u64 out) := (blk_cell hb 1).trans rfl; have hb_2 : w1.cell? ⟨g, 2, none⟩ = some (.bool user) := (blk_cell hb 2).trans rfl; have hb_3 : w1.cell? ⟨g, 3, none⟩ = some (.bool write) := (blk_cell hb 3).trans rfl; have hb_4 : w1.cell? ⟨g, 4, none⟩ = some (.bool exec) := (blk_cell hb 4).trans rfl; have hb_5 : w1.cell? ⟨g, 5, none⟩ = some (.bool used) := (blk_cell hb 5).trans rfl; have hb_6 : w1.cell? ⟨g, 6, none⟩ = some (.int .i64 attr) := (blk_cell hb 6).trans rfl))
          all_goals
            go_ret
            exact ⟨by simp, hB⟩
        · by_cases c3 : level = 3
          · rw [HN (by omega)]
            subst c3
            clear CL CD HR HN c k0 k1 c0
            go_enter Try.func25, Try.ntmps25
            go_wp2_with (first
              | (refine box_agg_ev rfl rfl _ _ rfl #[.int .i64 2, .int .u64 out, .bool user, .bool write, .bool exec, .bool used, .int .i64 attr] rfl ?_; intro g g_lo w1 hb hB; have hb_0 : w1.cell? ⟨g, 0, none⟩ = some (.int .i64 2) := (blk_cell hb 0).trans rfl; have hb_1 : w1.cell? ⟨g, 1, none⟩ = some (.int .u64 out) := (blk_cell hb 1).trans rfl; have hb_2 : w1.cell? ⟨g, 2, none⟩ = some (.bool user) := (blk_cell hb 2).trans rfl; have hb_3 : w1.cell? ⟨g, 3, none⟩ = some (.bool write) := (blk_cell hb 3).trans rfl; have hb_4 : w1.cell? ⟨g, 4, none⟩ = some (.bool exec) := (blk_cell hb 4).trans rfl; have hb_5 : w1.cell? ⟨g, 5, none⟩ = some (.bool used) := (blk_cell hb 5).trans rfl; have hb_6 : w1.cell? ⟨g, 6, none⟩ = some (.int .i64 attr) := (blk_cell hb 6).trans rfl))
            all_goals
              go_ret
              exact ⟨by simp, hB⟩
          · rw [HR (by omega)]
            have c0' : (level == 0) = false := by simpa using c0
            have c3' : (level == 3) = false := by simpa using c3
            clear HR HN c k0 k1 c0 c3
            go_enter Try.func25, Try.ntmps25
            go_wp2_with (first
              | (refine box_agg_ev rfl rfl _ _ rfl #[.int .i64 2, .int .u64 out, .bool user, .bool write, .bool exec, .bool used, .int .i64 attr] rfl ?_; intro g g_lo w1 hb hB; have hb_0 : w1.cell? ⟨g, 0, none⟩ = some (.int .i64 2) := (blk_cell hb 0).trans rfl; have hb_1 : w1.cell? ⟨g, 1, none⟩ = some (.int .u64 out) := (blk_cell hb 1).trans rfl; have hb_2 : w1.cell? ⟨g, 2, none⟩ = some (.bool user) := (blk_cell hb 2).trans rfl; have hb_3 : w1.cell? ⟨g, 3, none⟩ = some (.bool write) := (blk_cell hb 3).trans rfl; have hb_4 : w1.cell? ⟨g, 4, none⟩ = some (.bool exec) := (blk_cell hb 4).trans rfl; have hb_5 : w1.cell? ⟨g, 5, none⟩ = some (.bool used) := (blk_cell hb 5).trans rfl; have hb_6 : w1.cell? ⟨g, 6, none⟩ = some (.int .i64 attr) := (blk_cell hb 6).trans rfl))
            all_goals
              have qc_0_0 : ∀ x : WIn (Held w [(g, #[.int .i64 2, .int .u64 out, .bool user, .bool write, .bool exec, .bool used, .int .i64 attr], 28)]), x.val.cell? ⟨g, 0, none⟩ = some (.int .i64 2) := fun x => x.prop.cell 0 rfl 0 rfl
              have qc_0_1 : ∀ x : WIn (Held w [(g, #[.int .i64 2, .int .u64 out, .bool user, .bool write, .bool exec, .bool used, .int .i64 attr], 28)]), x.val.cell? ⟨g, 1, none⟩ = some (.int .u64 out) := fun x => x.prop.cell 0 rfl 1 rfl
              have qc_0_2 : ∀ x : WIn (Held w [(g, #[.int .i64 2, .int .u64 out, .bool user, .bool write, .bool exec, .bool used, .int .i64 attr], 28)]), x.val.cell? ⟨g, 2, none⟩ = some (.bool user) := fun x => x.prop.cell 0 rfl 2 rfl
              have qc_0_3 : ∀ x : WIn (Held w [(g, #[.int .i64 2, .int .u64 out, .bool user, .bool write, .bool exec, .bool used, .int .i64 attr], 28)]), x.val.cell? ⟨g, 3, none⟩ = some (.bool write) := fun x => x.prop.cell 0 rfl 3 rfl
              have qc_0_4 : ∀ x : WIn (Held w [(g, #[.int .i64 2, .int .u64 out, .bool user, .bool write, .bool exec, .bool used, .int .i64 attr], 28)]), x.val.cell? ⟨g, 4, none⟩ = some (.bool exec) := fun x => x.prop.cell 0 rfl 4 rfl
              have qc_0_5 : ∀ x : WIn (Held w [(g, #[.int .i64 2, .int .u64 out, .bool user, .bool write, .bool exec, .bool used, .int .i64 attr], 28)]), x.val.cell? ⟨g, 5, none⟩ = some (.bool used) := fun x => x.prop.cell 0 rfl 5 rfl
              have qc_0_6 : ∀ x : WIn (Held w [(g, #[.int .i64 2, .int .u64 out, .bool user, .bool write, .bool exec, .bool used, .int .i64 attr], 28)]), x.val.cell? ⟨g, 6, none⟩ = some (.int .i64 attr) := fun x => x.prop.cell 0 rfl 6 rfl
              refine wp_region_S (Held w [(g, #[.int .i64 2, .int .u64 out, .bool user, .bool write, .bool exec, .bool used, .int .i64 attr], 28)]) (by kernel_rfl) (by kernel_rfl) (Held.cons hb (Held.nil hB)).drew ?_
              repeat (go_big_quiet_step (first | (go_at_call 42; with_reducible exact quiet_held (CL _)) | (go_at_call 41; with_reducible exact quiet_held (CD _)) | exact rfl))
              refine wpQuiet_end ?_
              intro u hu
              clear qc_0_0 qc_0_1 qc_0_2 qc_0_3 qc_0_4 qc_0_5 qc_0_6
              go_wp2
              go_ret
              exact ⟨rfl, hu.low⟩
      · by_cases c3 : level = 3
        · rw [HR (by omega)]
          subst c3
          clear HR HN c k0 k1
          go_enter Try.func25, Try.ntmps25
          go_wp2_with (first
            | (refine box_agg_ev rfl rfl _ _ rfl #[.int .i64 3, .int .u64 out, .bool user, .bool write, .bool exec, .bool used, .int .i64 attr] rfl ?_; intro g g_lo w1 hb hB; have hb_0 : w1.cell? ⟨g, 0, none⟩ = some (.int .i64 3) := (blk_cell hb 0).trans rfl; have hb_1 : w1.cell? ⟨g, 1, none⟩ = some (.int .u64 out) := (blk_cell hb 1).trans rfl; have hb_2 : w1.cell? ⟨g, 2, none⟩ = some (.bool user) := (blk_cell hb 2).trans rfl; have hb_3 : w1.cell? ⟨g, 3, none⟩ = some (.bool write) := (blk_cell hb 3).trans rfl; have hb_4 : w1.cell? ⟨g, 4, none⟩ = some (.bool exec) := (blk_cell hb 4).trans rfl; have hb_5 : w1.cell? ⟨g, 5, none⟩ = some (.bool used) := (blk_cell hb 5).trans rfl; have hb_6 : w1.cell? ⟨g, 6, none⟩ = some (.int .i64 attr) := (blk_cell hb 6).trans rfl))
          all_goals
            have qc_0_0 : ∀ x : WIn (Held w [(g, #[.int .i64 3, .int .u64 out, .bool user, .bool write, .bool exec, .bool used, .int .i64 attr], 28)]), x.val.cell? ⟨g, 0, none⟩ = some (.int .i64 3) := fun x => x.prop.cell 0 rfl 0 rfl
            have qc_0_1 : ∀ x : WIn (Held w [(g, #[.int .i64 3, .int .u64 out, .bool user, .bool write, .bool exec, .bool used, .int .i64 attr], 28)]), x.val.cell? ⟨g, 1, none⟩ = some (.int .u64 out) := fun x => x.prop.cell 0 rfl 1 rfl
            have qc_0_2 : ∀ x : WIn (Held w [(g, #[.int .i64 3, .int .u64 out, .bool user, .bool write, .bool exec, .bool used, .int .i64 attr], 28)]), x.val.cell? ⟨g, 2, none⟩ = some (.bool user) := fun x => x.prop.cell 0 rfl 2 rfl
            have qc_0_3 : ∀ x : WIn (Held w [(g, #[.int .i64 3, .int .u64 out, .bool user, .bool write, .bool exec, .bool used, .int .i64 attr], 28)]), x.val.cell? ⟨g, 3, none⟩ = some (.bool write) := fun x => x.prop.cell 0 rfl 3 rfl
            have qc_0_4 : ∀ x : WIn (Held w [(g, #[.int .i64 3, .int .u64 out, .bool user, .bool write, .bool exec, .bool used, .int .i64 attr], 28)]), x.val.cell? ⟨g, 4, none⟩ = some (.bool exec) := fun x => x.prop.cell 0 rfl 4 rfl
            have qc_0_5 : ∀ x : WIn (Held w [(g, #[.int .i64 3, .int .u64 out, .bool user, .bool write, .bool exec, .bool used, .int .i64 attr], 28)]), x.val.cell? ⟨g, 5, none⟩ = some (.bool used) := fun x => x.prop.cell 0 rfl 5 rfl
            have qc_0_6 : ∀ x : WIn (Held w [(g, #[.int .i64 3, .int .u64 out, .bool user, .bool write, .bool exec, .bool used, .int .i64 attr], 28)]), x.val.cell? ⟨g, 6, none⟩ = some (.int .i64 attr) := fun x => x.prop.cell 0 rfl 6 rfl
            refine wp_region_S (Held w [(g, #[.int .i64 3, .int .u64 out, .bool user, .bool write, .bool exec, .bool used, .int .i64 attr], 28)]) (by kernel_rfl) (by kernel_rfl) (Held.cons hb (Held.nil hB)).drew ?_
            repeat (go_big_quiet_step (first | (go_at_call 42; with_reducible exact quiet_held (CL _)) | (go_at_call 41; with_reducible exact quiet_held (CD _)) | exact rfl))
            refine wpQuiet_end ?_
            intro u hu
            clear qc_0_0 qc_0_1 qc_0_2 qc_0_3 qc_0_4 qc_0_5 qc_0_6
            go_wp2
            go_ret
            exact ⟨rfl, hu.low⟩
        · rw [HN (by omega)]
          have c3' : (level == 3) = false := by simpa using c3
          clear CL CD HR HN c k0 k1 c3
          go_enter Try.func25, Try.ntmps25
          go_wp2_with (first
            | (refine box_agg_ev rfl rfl _ _ rfl #[.int .i64 3, .int .u64 out, .bool user, .bool write, .bool exec, .bool used, .int .i64 attr] rfl ?_; intro g g_lo w1 hb hB; have hb_0 : w1.cell? ⟨g, 0, none⟩ = some (.int .i64 3) := (blk_cell hb 0).trans rfl; have hb_1 : w1.cell? ⟨g, 1, none⟩ = some (.int .u64 out) := (blk_cell hb 1).trans rfl; have hb_2 : w1.cell? ⟨g, 2, none⟩ = some (.bool user) := (blk_cell hb 2).trans rfl; have hb_3 : w1.cell? ⟨g, 3, none⟩ = some (.bool write) := (blk_cell hb 3).trans rfl; have hb_4 : w1.cell? ⟨g, 4, none⟩ = some (.bool exec) := (blk_cell hb 4).trans rfl; have hb_5 : w1.cell? ⟨g, 5, none⟩ = some (.bool used) := (blk_cell hb 5).trans rfl; have hb_6 : w1.cell? ⟨g, 6, none⟩ = some (.int .i64 attr) := (blk_cell hb 6).trans rfl))
          all_goals
            go_ret
            exact ⟨by simp, hB⟩
end Go.Proofs.Ytccbpcdepgnmgaa.Lg
