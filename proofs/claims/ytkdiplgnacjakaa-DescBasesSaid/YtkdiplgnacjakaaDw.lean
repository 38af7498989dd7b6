/- desc.Desc's word: what each call answers (the print's own proof of it fails at its second drawn region). -/
import Derived.Test.YtkdiplgnacjakaaProg
import Derived.Test.YtkdiplgnacjakaaG
import Derived.Test.YtkdiplgnacjakaaQx3
namespace Go.Proofs.Ytkdiplgnacjakaa.Dw
open Go.RowKit Go.Proofs.Ytkdiplgnacjakaa.G Go.Proofs.Ytkdiplgnacjakaa.PDescBases
set_option linter.unusedVariables false
set_option linter.unusedSimpArgs false
theorem bit_as {n : Int} {b : Bool} {r : Int} (h : desc_bit.f n b = some r) (w : World) : Calls Try.prog 49 #[.int .i64 n, .bool b] w fun e w' => e = .returned (.int .u64 r) ∧ Below w.heap.size w w' :=
  (desc_bit.calls n b r w h).mono fun _ _ ⟨he, hd⟩ => ⟨he, hd.below⟩
theorem fixed_as {r : Int} (h : desc_fixed.f = some r) (w : World) : Calls Try.prog 48 #[] w fun e w' => e = .returned (.int .u64 r) ∧ Below w.heap.size w w' :=
  (desc_fixed.calls r w h).mono fun _ _ ⟨he, hd⟩ => ⟨he, hd.below⟩
set_option maxRecDepth 100000 in
set_option maxHeartbeats 4000000 in
theorem word_calls (kind out : Int) (user write exec used : Bool) (attr : Int) (r : Int) (w : World) (h : desc_Desc_word.f kind out user write exec used attr = some r) :
    Calls Try.prog 40 #[.agg #[.int .i64 kind, .int .u64 out, .bool user, .bool write, .bool exec, .bool used, .int .i64 attr]] w fun e w' => e = .returned (.int .u64 r) ∧ Below w.heap.size w w' := by
  unfold desc_Desc_word.f at h
  by_cases h0 : kind = 0
  · rw [if_pos h0] at h
    obtain rfl := Option.some.inj h
    subst h0
    clear h
    go_enter Try.func40, Try.ntmps40
    go_wp2_with (first
      | (refine box_agg_ev rfl rfl _ _ rfl #[.int .i64 0, .int .u64 out, .bool user, .bool write, .bool exec, .bool used, .int .i64 attr] rfl ?_; intro g g_lo w1 hb hB; have hb_0 : w1.cell? ⟨g, 0, none⟩ = some (.int .i64 0) := (blk_cell hb 0).trans rfl; have hb_1 : w1.cell? ⟨g, 1, none⟩ = some (.int .u64 out) := (blk_cell hb 1).trans rfl; have hb_2 : w1.cell? ⟨g, 2, none⟩ = some (.bool user) := (blk_cell hb 2).trans rfl; have hb_3 : w1.cell? ⟨g, 3, none⟩ = some (.bool write) := (blk_cell hb 3).trans rfl; have hb_4 : w1.cell? ⟨g, 4, none⟩ = some (.bool exec) := (blk_cell hb 4).trans rfl; have hb_5 : w1.cell? ⟨g, 5, none⟩ = some (.bool used) := (blk_cell hb 5).trans rfl; have hb_6 : w1.cell? ⟨g, 6, none⟩ = some (.int .i64 attr) := (blk_cell hb 6).trans rfl))
    go_ret
    exact ⟨rfl, hB⟩
  · rw [if_neg h0] at h
    by_cases h1 : kind = 1
    · rw [if_pos h1] at h
      obtain rfl := Option.some.inj h
      subst h1
      clear h h0
      go_enter Try.func40, Try.ntmps40
      go_wp2_with (first
        | (refine box_agg_ev rfl rfl _ _ rfl #[.int .i64 1, .int .u64 out, .bool user, .bool write, .bool exec, .bool used, .int .i64 attr] rfl ?_; intro g g_lo w1 hb hB; have hb_0 : w1.cell? ⟨g, 0, none⟩ = some (.int .i64 1) := (blk_cell hb 0).trans rfl; have hb_1 : w1.cell? ⟨g, 1, none⟩ = some (.int .u64 out) := (blk_cell hb 1).trans rfl; have hb_2 : w1.cell? ⟨g, 2, none⟩ = some (.bool user) := (blk_cell hb 2).trans rfl; have hb_3 : w1.cell? ⟨g, 3, none⟩ = some (.bool write) := (blk_cell hb 3).trans rfl; have hb_4 : w1.cell? ⟨g, 4, none⟩ = some (.bool exec) := (blk_cell hb 4).trans rfl; have hb_5 : w1.cell? ⟨g, 5, none⟩ = some (.bool used) := (blk_cell hb 5).trans rfl; have hb_6 : w1.cell? ⟨g, 6, none⟩ = some (.int .i64 attr) := (blk_cell hb 6).trans rfl))
      go_ret
      exact ⟨rfl, hB⟩
    · rw [if_neg h1] at h
      obtain ⟨t0, A0, h⟩ := Option.bind_eq_some_iff.mp h
      obtain ⟨t1, A1, h⟩ := Option.bind_eq_some_iff.mp h
      obtain ⟨t6, A6, h⟩ := Option.bind_eq_some_iff.mp h
      obtain ⟨t7, A7, h⟩ := Option.bind_eq_some_iff.mp h
      obtain ⟨t10, A10, h⟩ := Option.bind_eq_some_iff.mp h
      obtain ⟨t54, A54, h⟩ := Option.bind_eq_some_iff.mp h
      obtain ⟨⟨f1, f2⟩, AF, h⟩ := Option.bind_eq_some_iff.mp h
      obtain ⟨⟨p1, p2⟩, AP, h⟩ := Option.bind_eq_some_iff.mp h
      obtain rfl := Option.some.inj h
      have C0 := fun w => fixed_as A0 w
      have C1 := fun w => bit_as A1 w
      have C6 := fun w => bit_as A6 w
      have C7 := fun w => bit_as A7 w
      have C10 := fun w => bit_as A10 w
      have C54 := fun w => bit_as A54 w
      have CF := fun w => desc_attr.calls _ _ w AF
      have CP := fun w => field_Field_Put.calls _ _ _ _ _ _ w AP
      clear A0 A1 A6 A7 A10 A54 AF AP h
      dsimp only at CP
      have hk0 : (kind == 0) = false := by simpa using h0
      have hk1 : (kind == 1) = false := by simpa using h1
      clear h0 h1
      go_enter Try.func40, Try.ntmps40
      go_wp2_with (first
        | (refine box_agg_ev rfl rfl _ _ rfl #[.int .i64 kind, .int .u64 out, .bool user, .bool write, .bool exec, .bool used, .int .i64 attr] rfl ?_; intro g g_lo w1 hb hB; have hb_0 : w1.cell? ⟨g, 0, none⟩ = some (.int .i64 kind) := (blk_cell hb 0).trans rfl; have hb_1 : w1.cell? ⟨g, 1, none⟩ = some (.int .u64 out) := (blk_cell hb 1).trans rfl; have hb_2 : w1.cell? ⟨g, 2, none⟩ = some (.bool user) := (blk_cell hb 2).trans rfl; have hb_3 : w1.cell? ⟨g, 3, none⟩ = some (.bool write) := (blk_cell hb 3).trans rfl; have hb_4 : w1.cell? ⟨g, 4, none⟩ = some (.bool exec) := (blk_cell hb 4).trans rfl; have hb_5 : w1.cell? ⟨g, 5, none⟩ = some (.bool used) := (blk_cell hb 5).trans rfl; have hb_6 : w1.cell? ⟨g, 6, none⟩ = some (.int .i64 attr) := (blk_cell hb 6).trans rfl))
      have qc_0_0 : ∀ x : WIn (Held w [(g, #[.int .i64 kind, .int .u64 out, .bool user, .bool write, .bool exec, .bool used, .int .i64 attr], 31)]), x.val.cell? ⟨g, 0, none⟩ = some (.int .i64 kind) := fun x => x.prop.cell 0 rfl 0 rfl
      have qc_0_1 : ∀ x : WIn (Held w [(g, #[.int .i64 kind, .int .u64 out, .bool user, .bool write, .bool exec, .bool used, .int .i64 attr], 31)]), x.val.cell? ⟨g, 1, none⟩ = some (.int .u64 out) := fun x => x.prop.cell 0 rfl 1 rfl
      have qc_0_2 : ∀ x : WIn (Held w [(g, #[.int .i64 kind, .int .u64 out, .bool user, .bool write, .bool exec, .bool used, .int .i64 attr], 31)]), x.val.cell? ⟨g, 2, none⟩ = some (.bool user) := fun x => x.prop.cell 0 rfl 2 rfl
      have qc_0_3 : ∀ x : WIn (Held w [(g, #[.int .i64 kind, .int .u64 out, .bool user, .bool write, .bool exec, .bool used, .int .i64 attr], 31)]), x.val.cell? ⟨g, 3, none⟩ = some (.bool write) := fun x => x.prop.cell 0 rfl 3 rfl
      have qc_0_4 : ∀ x : WIn (Held w [(g, #[.int .i64 kind, .int .u64 out, .bool user, .bool write, .bool exec, .bool used, .int .i64 attr], 31)]), x.val.cell? ⟨g, 4, none⟩ = some (.bool exec) := fun x => x.prop.cell 0 rfl 4 rfl
      have qc_0_5 : ∀ x : WIn (Held w [(g, #[.int .i64 kind, .int .u64 out, .bool user, .bool write, .bool exec, .bool used, .int .i64 attr], 31)]), x.val.cell? ⟨g, 5, none⟩ = some (.bool used) := fun x => x.prop.cell 0 rfl 5 rfl
      have qc_0_6 : ∀ x : WIn (Held w [(g, #[.int .i64 kind, .int .u64 out, .bool user, .bool write, .bool exec, .bool used, .int .i64 attr], 31)]), x.val.cell? ⟨g, 6, none⟩ = some (.int .i64 attr) := fun x => x.prop.cell 0 rfl 6 rfl
      refine wp_region_S (Held w [(g, #[.int .i64 kind, .int .u64 out, .bool user, .bool write, .bool exec, .bool used, .int .i64 attr], 31)]) (by kernel_rfl) (by kernel_rfl) (Held.cons hb (Held.nil hB)).drew ?_
      repeat (go_big_quiet_step (first | (go_at_call 48; with_reducible exact quiet_held (C0 _)) | (go_at_call 49; with_reducible exact quiet_held (C1 _)) | (go_at_call 49; with_reducible exact quiet_held (C6 _)) | (go_at_call 49; with_reducible exact quiet_held (C7 _)) | (go_at_call 49; with_reducible exact quiet_held (C10 _)) | (go_at_call 49; with_reducible exact quiet_held (C54 _)) | exact rfl))
      refine wpQuiet_end ?_
      intro u hu
      clear qc_0_0 qc_0_1 qc_0_2 qc_0_3 qc_0_4 qc_0_5 qc_0_6
      go_wp2
      have qc_0_0 : ∀ x : WIn (Held w [(g, #[.int .i64 kind, .int .u64 out, .bool user, .bool write, .bool exec, .bool used, .int .i64 attr], 31)]), x.val.cell? ⟨g, 0, none⟩ = some (.int .i64 kind) := fun x => x.prop.cell 0 rfl 0 rfl
      have qc_0_1 : ∀ x : WIn (Held w [(g, #[.int .i64 kind, .int .u64 out, .bool user, .bool write, .bool exec, .bool used, .int .i64 attr], 31)]), x.val.cell? ⟨g, 1, none⟩ = some (.int .u64 out) := fun x => x.prop.cell 0 rfl 1 rfl
      have qc_0_2 : ∀ x : WIn (Held w [(g, #[.int .i64 kind, .int .u64 out, .bool user, .bool write, .bool exec, .bool used, .int .i64 attr], 31)]), x.val.cell? ⟨g, 2, none⟩ = some (.bool user) := fun x => x.prop.cell 0 rfl 2 rfl
      have qc_0_3 : ∀ x : WIn (Held w [(g, #[.int .i64 kind, .int .u64 out, .bool user, .bool write, .bool exec, .bool used, .int .i64 attr], 31)]), x.val.cell? ⟨g, 3, none⟩ = some (.bool write) := fun x => x.prop.cell 0 rfl 3 rfl
      have qc_0_4 : ∀ x : WIn (Held w [(g, #[.int .i64 kind, .int .u64 out, .bool user, .bool write, .bool exec, .bool used, .int .i64 attr], 31)]), x.val.cell? ⟨g, 4, none⟩ = some (.bool exec) := fun x => x.prop.cell 0 rfl 4 rfl
      have qc_0_5 : ∀ x : WIn (Held w [(g, #[.int .i64 kind, .int .u64 out, .bool user, .bool write, .bool exec, .bool used, .int .i64 attr], 31)]), x.val.cell? ⟨g, 5, none⟩ = some (.bool used) := fun x => x.prop.cell 0 rfl 5 rfl
      have qc_0_6 : ∀ x : WIn (Held w [(g, #[.int .i64 kind, .int .u64 out, .bool user, .bool write, .bool exec, .bool used, .int .i64 attr], 31)]), x.val.cell? ⟨g, 6, none⟩ = some (.int .i64 attr) := fun x => x.prop.cell 0 rfl 6 rfl
      refine wp_region_S (Held w [(g, #[.int .i64 kind, .int .u64 out, .bool user, .bool write, .bool exec, .bool used, .int .i64 attr], 31)]) (by kernel_rfl) (by kernel_rfl) (hu).drew ?_
      repeat (go_big_quiet_step (first | (go_at_call 50; with_reducible exact quiet_held (CF _)) | (go_at_call 43; with_reducible exact quiet_held (CP _)) | exact rfl))
      refine wpQuiet_end ?_
      intro u hu
      clear qc_0_0 qc_0_1 qc_0_2 qc_0_3 qc_0_4 qc_0_5 qc_0_6
      go_wp2
      go_ret
      exact ⟨rfl, hu.low⟩
end Go.Proofs.Ytkdiplgnacjakaa.Dw
