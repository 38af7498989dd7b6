/- More on entries: the document's Right, both Matches, listed, page, New: what each call answers. -/
import Derived.Test.YtccbpcdepgnmgaaProg
import Derived.Test.YtccbpcdepgnmgaaTp
namespace Go.Proofs.Ytccbpcdepgnmgaa.Tq
open Go.RowKit Go.Proofs.Ytccbpcdepgnmgaa.G Go.Proofs.Ytccbpcdepgnmgaa.B Go.Proofs.Ytccbpcdepgnmgaa.M Go.Proofs.Ytccbpcdepgnmgaa.Mv Go.Proofs.Ytccbpcdepgnmgaa.Sl Go.Proofs.Ytccbpcdepgnmgaa.Sm Go.Proofs.Ytccbpcdepgnmgaa.Sn Go.Proofs.Ytccbpcdepgnmgaa.Te Go.Proofs.Ytccbpcdepgnmgaa.Dr Go.Proofs.Ytccbpcdepgnmgaa.Ds Go.Proofs.Ytccbpcdepgnmgaa.Tp

set_option linter.unusedVariables false
set_option linter.unusedSimpArgs false
set_option maxRecDepth 100000
set_option maxHeartbeats 2000000
theorem rightD_V (level kind out attr : Int) (user write exec used : Bool) (l0 : 1 ≤ level) (l1 : level ≤ 3) (h0 : 0 ≤ out) (hk : 1 < kind) :
    Lg.rightD level kind out user write exec used attr = rightV level kind out user write exec used attr ∧ (rightV level kind out user write exec used attr = true → kind = 2 ∨ kind = 3) := by
  have hkn : kn level = true := by unfold kn; exact decide_eq_true (by omega)
  have e0 : (kind == 0) = false := by simp; omega
  have e1 : (kind == 1) = false := by simp; omega
  have hal : al out (lbits level) = decide (out % 2 ^ (39 - 9 * level).toNat = 0) := by
    unfold al
    rw [lbits_yes hkn, show min (39 - 9 * level).toNat 64 = (39 - 9 * level).toNat by omega]
  constructor
  · unfold Lg.rightD rightV leafB
    rw [hkn, e0, e1, hal, show decide (0 ≤ out ∧ out < 281474976710656) = decide (out < 281474976710656) from decide_eq_decide.mpr (by omega)]
    simp
  · unfold rightV leafB
    rw [e0, e1]
    simp
    omega
theorem rright07_any (e : E) (ho : e.ok) (w : World) : Calls Try.prog 9 #[.agg e.cells] w fun x w' => x = .returned (.bool (rightE e)) ∧ Below w.heap.size w w' := by
  obtain ⟨v0, v1, o0, o1⟩ := ho
  by_cases hl : 1 ≤ e.level ∧ e.level ≤ 3
  · have CB := fun w => rbase_any e.va e.level v0 v1 (by omega) hl.2 w
    have CR := fun w => Lg.rright_any e.level e.kind e.out e.attr e.user e.write e.exec e.used (by omega) hl.2 o0 o1 w
    have hdv := rightD_V e.level e.kind e.out e.attr e.user e.write e.exec e.used hl.1 hl.2 o0
    have hlow : lowB e.va = decide (e.va < 281474976710656) := rfl
    generalize hr : rightE e = r
    have HR := Lib.hid hr; clear hr
    obtain ⟨asid, va, level, kind, out, user, write, exec, used, attr⟩ := e
    dsimp only at CB CR v0 v1 o0 o1 hl hdv hlow
    obtain ⟨l0, l1⟩ := hl
    have HM := Mem.nil w
    simp only [E.cells]
    generalize hb : baseV va level = ba at CB
    generalize hd : rightV level kind out user write exec used attr = rv at hdv
    generalize Lg.rightD level kind out user write exec used attr = rd at CR hdv
    have HB := Lib.hid hb; have HD := Lib.hid hd; have HV := Lib.hid hdv; have HL := Lib.hid hlow
    clear hb hd hdv hlow
    go_enter Try.func9, Try.ntmps9
    go_wp2_with (first
      | (go_big_skip)
      | (go_at_call 24; (with_reducible refine (M.call_pure (CB) HM).mono ?_); clear HM; rintro e w_ ⟨rfl, HM⟩; dsimp only)
      | (go_at_call 25; (with_reducible refine (M.call_pure (CR) HM).mono ?_); clear HM; rintro e w_ ⟨rfl, HM⟩; dsimp only)
      | (refine M.at_reg 3 ?_; refine Mq.region_m (id := 3) HM (by kernel_rfl) (by kernel_rfl) ?_; (repeat (any_goals (first | go_big_quiet_skip | (refine Mq.qat_load 3 rfl ?_; go_big_quiet_want; first | (refine Sn.quiet_load_part 28 _ rfl 0 _ 3 7 _ _ rfl rfl (by simp) #[.int .i64 kind, .int .u64 out, .bool user, .bool write, .bool exec, .bool used, .int .i64 attr] (by kernel_rfl) (by kernel_rfl) (by kernel_rfl) ?_; simp only [Act.put, List.setIfInBounds_toArray, List.set_cons_zero, List.set_cons_succ]; go_big_quiet_on) | (refine Mq.quiet_load_cell 3 _ rfl 0 _ _ _ _ _ rfl rfl rfl (by kernel_rfl) (by kernel_rfl) ?_; simp only [Act.put, List.setIfInBounds_toArray, List.set_cons_zero, List.set_cons_succ]; go_big_quiet_on)) | (refine Mq.qat_load 4 rfl ?_; go_big_quiet_want; first | (refine Sn.quiet_load_part 28 _ rfl 0 _ 3 7 _ _ rfl rfl (by simp) #[.int .i64 kind, .int .u64 out, .bool user, .bool write, .bool exec, .bool used, .int .i64 attr] (by kernel_rfl) (by kernel_rfl) (by kernel_rfl) ?_; simp only [Act.put, List.setIfInBounds_toArray, List.set_cons_zero, List.set_cons_succ]; go_big_quiet_on) | (refine Mq.quiet_load_cell 4 _ rfl 0 _ _ _ _ _ rfl rfl rfl (by kernel_rfl) (by kernel_rfl) ?_; simp only [Act.put, List.setIfInBounds_toArray, List.set_cons_zero, List.set_cons_succ]; go_big_quiet_on)) | (refine Mq.qat_load 22 rfl ?_; go_big_quiet_want; first | (refine Sn.quiet_load_part 28 _ rfl 0 _ 3 7 _ _ rfl rfl (by simp) #[.int .i64 kind, .int .u64 out, .bool user, .bool write, .bool exec, .bool used, .int .i64 attr] (by kernel_rfl) (by kernel_rfl) (by kernel_rfl) ?_; simp only [Act.put, List.setIfInBounds_toArray, List.set_cons_zero, List.set_cons_succ]; go_big_quiet_on) | (refine Mq.quiet_load_cell 22 _ rfl 0 _ _ _ _ _ rfl rfl rfl (by kernel_rfl) (by kernel_rfl) ?_; simp only [Act.put, List.setIfInBounds_toArray, List.set_cons_zero, List.set_cons_succ]; go_big_quiet_on)) | (refine Mq.qat_load 28 rfl ?_; go_big_quiet_want; first | (refine Sn.quiet_load_part 28 _ rfl 0 _ 3 7 _ _ rfl rfl (by simp) #[.int .i64 kind, .int .u64 out, .bool user, .bool write, .bool exec, .bool used, .int .i64 attr] (by kernel_rfl) (by kernel_rfl) (by kernel_rfl) ?_; simp only [Act.put, List.setIfInBounds_toArray, List.set_cons_zero, List.set_cons_succ]; go_big_quiet_on) | (refine Mq.quiet_load_row 28 _ rfl 0 _ _ _ rfl rfl (by kernel_rfl) (by kernel_rfl) ?_; simp only [Act.put, List.setIfInBounds_toArray, List.set_cons_zero, List.set_cons_succ]; go_big_quiet_on)) | ((fail_if_success (refine Mq.qlit_t rfl ?_)); (fail_if_success (refine Mq.qlit_f rfl ?_)); refine Mq.qsplit rfl rfl ?_ ?_ <;> (intro hg_; simp only [hg_]; try simp only [M.hgs] at hg_)) | go_big_quiet_step (first | (go_at_call 24; with_reducible exact Mq.quiet_call_m (CB _)) | (go_at_call 25; with_reducible exact Mq.quiet_call_m (CR _)) | exact rfl)))); all_goals (refine Go.Proofs.Ytccbpcdepgnmgaa.G.wpQuiet_end ?_; clear HM; intro w_ HM))
      | (refine M.at_mem rfl ?_; first | (refine M.at_load 3 rfl ?_; first | (refine M.load_cell_m HM rfl 3 _ rfl 0 _ _ _ _ _ rfl rfl rfl (by kernel_rfl) (by kernel_rfl) ?_; go_simp)) | (refine M.at_load 4 rfl ?_; first | (refine M.load_cell_m HM rfl 4 _ rfl 0 _ _ _ _ _ rfl rfl rfl (by kernel_rfl) (by kernel_rfl) ?_; go_simp)) | (refine M.at_load 22 rfl ?_; first | (refine M.load_cell_m HM rfl 22 _ rfl 0 _ _ _ _ _ rfl rfl rfl (by kernel_rfl) (by kernel_rfl) ?_; go_simp)) | (refine M.at_load 28 rfl ?_; first | (refine M.load_row_m HM rfl 28 _ rfl 0 _ _ _ rfl rfl (by kernel_rfl) (by kernel_rfl) ?_; go_simp)) | (refine M.at_box 30 rfl ?_; first | (refine M.box_m HM rfl rfl 30 _ rfl _ rfl ?_; clear HM; intro g_ w_ HM; go_simp)) | ((fail_if_success (refine M.lit_t rfl ?_)); (fail_if_success (refine M.lit_f rfl ?_)); refine M.split_guard rfl rfl ?_ ?_ <;> (intro hg_; simp only [hg_]; try simp only [M.hgs] at hg_)))
      | (refine Mc.at_cmp _ rfl ?_; refine Mc.cmp_m rfl _ rfl _ _ _ rfl _ _ _ rfl rfl _ rfl ?_ ?_ <;> (intro hg_; try simp only [M.hgs] at hg_; first | (exfalso; first | omega | (simp at hg_; done)) | (go_simp)))
      | ((fail_if_success (refine M.lit_t rfl ?_)); (fail_if_success (refine M.lit_f rfl ?_)); refine M.split_guard rfl rfl ?_ ?_ <;> (intro hg_; simp only [hg_]; try simp only [M.hgs] at hg_)))
    all_goals
      go_ret
      refine ⟨congrArg (fun z => Ending.returned (Value.bool z)) ?_, HM.none.to_below⟩
      rw [← HR.out]
      have hb := HB.out; have hd := HD.out; have hv := HV.out; have hlow := HL.out
      simp only [rightE, hb, hd, hlow]
      clear hb hd HB HD HR HM CB CR HV HL hlow
      by_cases hk : 1 < kind
      · have hv' := hv hk; clear hv
        obtain ⟨h1, h2⟩ := hv'
        subst h1
        cases rd
        · first | (simp_all; done) | (simp_all; intros; omega) | (simp_all; intros; exfalso; omega) | (exfalso; omega)
        · have := h2 rfl; first | (simp_all; done) | (simp_all; intros; omega) | (simp_all; intros; exfalso; omega) | (exfalso; omega)
      · have : ¬ kind = 2 ∧ ¬ kind = 3 := by omega
        first | (simp_all; done) | (simp_all; intros; omega) | (simp_all; intros; exfalso; omega) | (exfalso; omega)
  · have e0 : rightE e = false := by
      unfold rightE
      rw [show decide (0 ≤ e.asid ∧ e.asid ≤ 255 ∧ 1 ≤ e.level ∧ e.level ≤ 3) = false from decide_eq_false (by omega)]
      rfl
    rw [e0]; clear e0
    obtain ⟨asid, va, level, kind, out, user, write, exec, used, attr⟩ := e
    dsimp only at v0 v1 o0 o1 hl
    have hl : level < 1 ∨ 3 < level := by omega
    have HM := Mem.nil w
    simp only [E.cells]
    rcases hl with hl | hl
    all_goals
      go_enter Try.func9, Try.ntmps9
      go_wp2_with (first
        | (go_big_skip)
        | (refine M.at_mem rfl ?_; first | (refine M.at_load 3 rfl ?_; first | (refine M.load_cell_m HM rfl 3 _ rfl 0 _ _ _ _ _ rfl rfl rfl (by kernel_rfl) (by kernel_rfl) ?_; go_simp)) | (refine M.at_load 4 rfl ?_; first | (refine M.load_cell_m HM rfl 4 _ rfl 0 _ _ _ _ _ rfl rfl rfl (by kernel_rfl) (by kernel_rfl) ?_; go_simp)) | (refine M.at_load 22 rfl ?_; first | (refine M.load_cell_m HM rfl 22 _ rfl 0 _ _ _ _ _ rfl rfl rfl (by kernel_rfl) (by kernel_rfl) ?_; go_simp)) | (refine M.at_load 28 rfl ?_; first | (refine M.load_row_m HM rfl 28 _ rfl 0 _ _ _ rfl rfl (by kernel_rfl) (by kernel_rfl) ?_; go_simp)) | (refine M.at_box 30 rfl ?_; first | (refine M.box_m HM rfl rfl 30 _ rfl _ rfl ?_; clear HM; intro g_ w_ HM; go_simp)) | ((fail_if_success (refine M.lit_t rfl ?_)); (fail_if_success (refine M.lit_f rfl ?_)); refine M.split_guard rfl rfl ?_ ?_ <;> (intro hg_; simp only [hg_]; try simp only [M.hgs] at hg_)))
        | (refine Mc.at_cmp _ rfl ?_; refine Mc.cmp_m rfl _ rfl _ _ _ rfl _ _ _ rfl rfl _ rfl ?_ ?_ <;> (intro hg_; try simp only [M.hgs] at hg_; first | (exfalso; first | omega | (simp at hg_; done)) | (go_simp)))
        | ((fail_if_success (refine M.lit_t rfl ?_)); (fail_if_success (refine M.lit_f rfl ?_)); refine M.split_guard rfl rfl ?_ ?_ <;> (intro hg_; simp only [hg_]; try simp only [M.hgs] at hg_)))
      all_goals
        go_ret
        exact ⟨by first | rfl | simp, HM.none.to_below⟩
/-- Is an entry of an ASID and an address? -/
def matchE (e : E) (asid va : Int) : Bool := decide (e.asid = asid) && (lowB va && decide (baseV va e.level = e.va))
theorem match_any (e : E) (asid va : Int) (h0 : 0 ≤ va) (h1 : va < 18446744073709551616) (w : World) : Calls Try.prog 12 #[.agg e.cells, .int .i64 asid, .int .u64 va] w fun x w' => x = .returned (.bool (matchE e asid va)) ∧ Below w.heap.size w w' := by
  have CL := fun w => vlow_any va h0 w
  have CB := fun w => vbase_any va e.level h0 h1 w
  generalize hr : matchE e asid va = r
  have HR := Lib.hid hr; clear hr
  obtain ⟨asid', va', level, kind, out, user, write, exec, used, attr⟩ := e
  dsimp only at CL CB
  have HM := Mem.nil w
  simp only [E.cells]
  generalize hl : lowB va = lo at CL
  generalize hb : baseV va level = ba at CB
  have HL := Lib.hid hl; have HB := Lib.hid hb
  clear hl hb
  go_enter Try.func12, Try.ntmps12
  go_wp2_with (first
    | (go_big_skip)
    | (go_at_call 26; (with_reducible refine (M.call_pure (CL) HM).mono ?_); clear HM; rintro e w_ ⟨rfl, HM⟩; dsimp only)
    | (go_at_call 27; (with_reducible refine (M.call_pure (CB) HM).mono ?_); clear HM; rintro e w_ ⟨rfl, HM⟩; dsimp only)
    | (refine M.at_reg 1 ?_; refine Mq.region_m (id := 1) HM (by kernel_rfl) (by kernel_rfl) ?_; (repeat (any_goals (first | go_big_quiet_skip | (refine Mq.qat_load 3 rfl ?_; go_big_quiet_want; first | (refine Mq.quiet_load_cell 3 _ rfl 0 _ _ _ _ _ rfl rfl rfl (by kernel_rfl) (by kernel_rfl) ?_; simp only [Act.put, List.setIfInBounds_toArray, List.set_cons_zero, List.set_cons_succ]; go_big_quiet_on)) | (refine Mq.qat_load 22 rfl ?_; go_big_quiet_want; first | (refine Mq.quiet_load_cell 22 _ rfl 0 _ _ _ _ _ rfl rfl rfl (by kernel_rfl) (by kernel_rfl) ?_; simp only [Act.put, List.setIfInBounds_toArray, List.set_cons_zero, List.set_cons_succ]; go_big_quiet_on)) | ((fail_if_success (refine Mq.qlit_t rfl ?_)); (fail_if_success (refine Mq.qlit_f rfl ?_)); refine Mq.qsplit rfl rfl ?_ ?_ <;> (intro hg_; simp only [hg_]; try simp only [M.hgs] at hg_)) | go_big_quiet_step (first | (go_at_call 26; with_reducible exact Mq.quiet_call_m (CL _)) | (go_at_call 27; with_reducible exact Mq.quiet_call_m (CB _)) | exact rfl)))); all_goals (refine Go.Proofs.Ytccbpcdepgnmgaa.G.wpQuiet_end ?_; clear HM; intro w_ HM))
    | (refine M.at_mem rfl ?_; first | (refine M.at_load 3 rfl ?_; first | (refine M.load_cell_m HM rfl 3 _ rfl 0 _ _ _ _ _ rfl rfl rfl (by kernel_rfl) (by kernel_rfl) ?_; go_simp)) | (refine M.at_load 22 rfl ?_; first | (refine M.load_cell_m HM rfl 22 _ rfl 0 _ _ _ _ _ rfl rfl rfl (by kernel_rfl) (by kernel_rfl) ?_; go_simp)) | (refine M.at_box 26 rfl ?_; first | (refine M.box_m HM rfl rfl 26 _ rfl _ rfl ?_; clear HM; intro g_ w_ HM; go_simp)) | ((fail_if_success (refine M.lit_t rfl ?_)); (fail_if_success (refine M.lit_f rfl ?_)); refine M.split_guard rfl rfl ?_ ?_ <;> (intro hg_; simp only [hg_]; try simp only [M.hgs] at hg_)))
    | (refine Mc.at_cmp _ rfl ?_; refine Mc.cmp_m rfl _ rfl _ _ _ rfl _ _ _ rfl rfl _ rfl ?_ ?_ <;> (intro hg_; try simp only [M.hgs] at hg_; first | (exfalso; first | omega | (simp at hg_; done)) | (go_simp)))
    | ((fail_if_success (refine M.lit_t rfl ?_)); (fail_if_success (refine M.lit_f rfl ?_)); refine M.split_guard rfl rfl ?_ ?_ <;> (intro hg_; simp only [hg_]; try simp only [M.hgs] at hg_)))
  all_goals
    go_ret
    refine ⟨congrArg (fun z => Ending.returned (Value.bool z)) ?_, HM.none.to_below⟩
    rw [← HR.out]
    have hl := HL.out; have hb := HB.out
    simp only [matchE, hl, hb]
    clear hl hb HL HB HR HM CL CB
    first | (simp_all; done) | (simp_all; intros; omega) | (simp_all; rw [Bool.eq_iff_iff]; simp; done)
theorem rmatch_any (e : E) (asid va : Int) (h0 : 0 ≤ va) (h1 : va < 18446744073709551616) (l0 : 0 ≤ e.level) (l1 : e.level ≤ 3) (w : World) : Calls Try.prog 50 #[.agg e.cells, .int .i64 asid, .int .u64 va] w fun x w' => x = .returned (.bool (matchE e asid va)) ∧ Below w.heap.size w w' := by
  have CB := fun w => rbase_any va e.level h0 h1 l0 l1 w
  have hlow : lowB va = decide (va < 281474976710656) := rfl
  generalize hr : matchE e asid va = r
  have HR := Lib.hid hr; clear hr
  obtain ⟨asid', va', level, kind, out, user, write, exec, used, attr⟩ := e
  dsimp only at CB
  have HM := Mem.nil w
  simp only [E.cells]
  generalize hb : baseV va level = ba at CB
  have HL := Lib.hid hlow; have HB := Lib.hid hb
  clear hlow hb
  go_enter Try.func50, Try.ntmps50
  go_wp2_with (first
    | (go_big_skip)
    | (go_at_call 24; (with_reducible refine (M.call_pure (CB) HM).mono ?_); clear HM; rintro e w_ ⟨rfl, HM⟩; dsimp only)
    | (refine M.at_reg 1 ?_; refine Mq.region_m (id := 1) HM (by kernel_rfl) (by kernel_rfl) ?_; (repeat (any_goals (first | go_big_quiet_skip | (refine Mq.qat_load 3 rfl ?_; go_big_quiet_want; first | (refine Mq.quiet_load_cell 3 _ rfl 0 _ _ _ _ _ rfl rfl rfl (by kernel_rfl) (by kernel_rfl) ?_; simp only [Act.put, List.setIfInBounds_toArray, List.set_cons_zero, List.set_cons_succ]; go_big_quiet_on)) | (refine Mq.qat_load 22 rfl ?_; go_big_quiet_want; first | (refine Mq.quiet_load_cell 22 _ rfl 0 _ _ _ _ _ rfl rfl rfl (by kernel_rfl) (by kernel_rfl) ?_; simp only [Act.put, List.setIfInBounds_toArray, List.set_cons_zero, List.set_cons_succ]; go_big_quiet_on)) | ((fail_if_success (refine Mq.qlit_t rfl ?_)); (fail_if_success (refine Mq.qlit_f rfl ?_)); refine Mq.qsplit rfl rfl ?_ ?_ <;> (intro hg_; simp only [hg_]; try simp only [M.hgs] at hg_)) | go_big_quiet_step (first | (go_at_call 24; with_reducible exact Mq.quiet_call_m (CB _)) | exact rfl)))); all_goals (refine Go.Proofs.Ytccbpcdepgnmgaa.G.wpQuiet_end ?_; clear HM; intro w_ HM))
    | (refine M.at_mem rfl ?_; first | (refine M.at_load 3 rfl ?_; first | (refine M.load_cell_m HM rfl 3 _ rfl 0 _ _ _ _ _ rfl rfl rfl (by kernel_rfl) (by kernel_rfl) ?_; go_simp)) | (refine M.at_load 22 rfl ?_; first | (refine M.load_cell_m HM rfl 22 _ rfl 0 _ _ _ _ _ rfl rfl rfl (by kernel_rfl) (by kernel_rfl) ?_; go_simp)) | (refine M.at_box 30 rfl ?_; first | (refine M.box_m HM rfl rfl 30 _ rfl _ rfl ?_; clear HM; intro g_ w_ HM; go_simp)) | ((fail_if_success (refine M.lit_t rfl ?_)); (fail_if_success (refine M.lit_f rfl ?_)); refine M.split_guard rfl rfl ?_ ?_ <;> (intro hg_; simp only [hg_]; try simp only [M.hgs] at hg_)))
    | (refine Mc.at_cmp _ rfl ?_; refine Mc.cmp_m rfl _ rfl _ _ _ rfl _ _ _ rfl rfl _ rfl ?_ ?_ <;> (intro hg_; try simp only [M.hgs] at hg_; first | (exfalso; first | omega | (simp at hg_; done)) | (go_simp)))
    | ((fail_if_success (refine M.lit_t rfl ?_)); (fail_if_success (refine M.lit_f rfl ?_)); refine M.split_guard rfl rfl ?_ ?_ <;> (intro hg_; simp only [hg_]; try simp only [M.hgs] at hg_)))
  all_goals
    go_ret
    refine ⟨congrArg (fun z => Ending.returned (Value.bool z)) ?_, HM.none.to_below⟩
    rw [← HR.out]
    have hl := HL.out; have hb := HB.out
    simp only [matchE, hl, hb]
    clear hl hb HL HB HR HM CB
    first | (simp_all; done) | (simp_all; intros; omega) | (simp_all; rw [Bool.eq_iff_iff]; simp; done)
theorem listed_any (e : E) (w : World) : Calls Try.prog 8 #[.agg e.cells] w fun x w' => x = .returned (.agg e.cells) ∧ Below w.heap.size w w' := by
  obtain ⟨asid, va, level, kind, out, user, write, exec, used, attr⟩ := e
  have HM := Mem.nil w
  simp only [E.cells]
  go_enter Try.func8, Try.ntmps8
  go_wp2_with (first
    | (refine M.at_mem rfl ?_; first | (refine M.at_load 3 rfl ?_; first | (refine M.load_part_m HM rfl 24 _ rfl 1 _ 3 7 _ _ rfl rfl (by simp) #[.int .i64 kind, .int .u64 out, .bool user, .bool write, .bool exec, .bool used, .int .i64 attr] (by kernel_rfl) (by kernel_rfl) (by kernel_rfl) ?_; go_simp) | (refine M.load_cell_m HM rfl 3 _ rfl 0 _ _ _ _ _ rfl rfl rfl (by kernel_rfl) (by kernel_rfl) ?_; go_simp) | (refine M.load_cell_m HM rfl 3 _ rfl 1 _ _ _ _ _ rfl rfl rfl (by kernel_rfl) (by kernel_rfl) ?_; go_simp)) | (refine M.at_load 22 rfl ?_; first | (refine M.load_part_m HM rfl 24 _ rfl 1 _ 3 7 _ _ rfl rfl (by simp) #[.int .i64 kind, .int .u64 out, .bool user, .bool write, .bool exec, .bool used, .int .i64 attr] (by kernel_rfl) (by kernel_rfl) (by kernel_rfl) ?_; go_simp) | (refine M.load_cell_m HM rfl 22 _ rfl 0 _ _ _ _ _ rfl rfl rfl (by kernel_rfl) (by kernel_rfl) ?_; go_simp) | (refine M.load_cell_m HM rfl 22 _ rfl 1 _ _ _ _ _ rfl rfl rfl (by kernel_rfl) (by kernel_rfl) ?_; go_simp)) | (refine M.at_load 24 rfl ?_; first | (refine M.load_part_m HM rfl 24 _ rfl 1 _ 3 7 _ _ rfl rfl (by simp) #[.int .i64 kind, .int .u64 out, .bool user, .bool write, .bool exec, .bool used, .int .i64 attr] (by kernel_rfl) (by kernel_rfl) (by kernel_rfl) ?_; go_simp) | (refine M.load_row_m HM rfl 24 _ rfl 0 _ _ _ rfl rfl (by kernel_rfl) (by kernel_rfl) ?_; go_simp) | (refine M.load_row_m HM rfl 24 _ rfl 1 _ _ _ rfl rfl (by kernel_rfl) (by kernel_rfl) ?_; go_simp)) | (refine M.at_store 30 rfl ?_; first | (refine M.store_row_m HM rfl 30 _ _ rfl 0 _ _ _ _ rfl rfl rfl (by kernel_rfl) rfl (by simp [Value.oneCell']) ?_; clear HM; intro w_ HM; (try simp only [M.nrm] at HM); go_simp) | (refine M.store_row_m HM rfl 30 _ _ rfl 1 _ _ _ _ rfl rfl rfl (by kernel_rfl) rfl (by simp [Value.oneCell']) ?_; clear HM; intro w_ HM; (try simp only [M.nrm] at HM); go_simp)) | (refine M.at_alloc 30 rfl ?_; first | (refine M.alloc_m HM rfl rfl 30 rfl (.agg #[(.int .i64 0), (.int .u64 0), (.int .i64 0), (.int .i64 0), (.int .u64 0), (.bool false), (.bool false), (.bool false), (.bool false), (.int .i64 0)]) (by kernel_rfl) #[(.int .i64 0), (.int .u64 0), (.int .i64 0), (.int .i64 0), (.int .u64 0), (.bool false), (.bool false), (.bool false), (.bool false), (.int .i64 0)] rfl ?_; clear HM; intro g_ w_ HM; go_simp)) | (refine M.at_box 26 rfl ?_; first | (refine M.box_m HM rfl rfl 26 _ rfl _ rfl ?_; clear HM; intro g_ w_ HM; go_simp)) | ((fail_if_success (refine M.lit_t rfl ?_)); (fail_if_success (refine M.lit_f rfl ?_)); refine M.split_guard rfl rfl ?_ ?_ <;> (intro hg_; simp only [hg_]; try simp only [M.hgs] at hg_)))
    | ((fail_if_success (refine M.lit_t rfl ?_)); (fail_if_success (refine M.lit_f rfl ?_)); refine M.split_guard rfl rfl ?_ ?_ <;> (intro hg_; simp only [hg_]; try simp only [M.hgs] at hg_)))
  refine bodyPost_ret (res_c HM rfl _ 0 _ _ _ rfl rfl (by kernel_rfl) (by kernel_rfl)) rfl ?_
  exact ⟨rfl, HM.none.to_below⟩
def pageE (asid out : Int) : E := ⟨asid, 12288, 3, 3, out, false, false, false, true, 0⟩
theorem page_any (asid out : Int) (w : World) : Calls Try.prog 23 #[.int .i64 asid, .int .u64 out] w fun x w' => x = .returned (.agg (pageE asid out).cells) ∧ Below w.heap.size w w' := by
  have HM := Mem.nil w
  go_enter Try.func23, Try.ntmps23
  go_wp2_with (first
    | (refine M.at_mem rfl ?_; first | (refine M.at_store 26 rfl ?_; first | (refine M.store_row_m HM rfl 26 _ _ rfl 0 _ _ _ _ rfl rfl rfl (by kernel_rfl) rfl (by simp [Value.oneCell']) ?_; clear HM; intro w_ HM; (try simp only [M.nrm] at HM); go_simp)) | (refine M.at_alloc 26 rfl ?_; first | (refine M.alloc_m HM rfl rfl 26 rfl (.agg #[(.int .i64 0), (.int .u64 0), (.int .i64 0), (.int .i64 0), (.int .u64 0), (.bool false), (.bool false), (.bool false), (.bool false), (.int .i64 0)]) (by kernel_rfl) #[(.int .i64 0), (.int .u64 0), (.int .i64 0), (.int .i64 0), (.int .u64 0), (.bool false), (.bool false), (.bool false), (.bool false), (.int .i64 0)] rfl ?_; clear HM; intro g_ w_ HM; go_simp)) | ((fail_if_success (refine M.lit_t rfl ?_)); (fail_if_success (refine M.lit_f rfl ?_)); refine M.split_guard rfl rfl ?_ ?_ <;> (intro hg_; simp only [hg_]; try simp only [M.hgs] at hg_)))
    | ((fail_if_success (refine M.lit_t rfl ?_)); (fail_if_success (refine M.lit_f rfl ?_)); refine M.split_guard rfl rfl ?_ ?_ <;> (intro hg_; simp only [hg_]; try simp only [M.hgs] at hg_)))
  refine bodyPost_ret (res_c HM rfl _ 0 _ _ _ rfl rfl (by kernel_rfl) (by kernel_rfl)) rfl ?_
  exact ⟨rfl, HM.none.to_below⟩
theorem new_no (most : Int) (h : most < 1 ∨ 64 < most) (w : World) : Calls Try.prog 13 #[.int .i64 most] w fun x w' => x = .returned (.tuple #[.pointer none, .int .i64 12]) ∧ Below w.heap.size w w' := by
  have HM := Mem.nil w
  rcases h with h | h
  all_goals
    go_enter Try.func13, Try.ntmps13
    go_wp2_with (first
      | (go_big_skip)
      | (refine M.at_mem rfl ?_; first | (refine M.at_box 64 rfl ?_; first | (refine M.box_m HM rfl rfl 64 _ rfl _ rfl ?_; clear HM; intro g_ w_ HM; go_simp)) | ((fail_if_success (refine M.lit_t rfl ?_)); (fail_if_success (refine M.lit_f rfl ?_)); refine M.split_guard rfl rfl ?_ ?_ <;> (intro hg_; simp only [hg_]; try simp only [M.hgs] at hg_)))
      | (refine Mc.at_cmp _ rfl ?_; refine Mc.cmp_m rfl _ rfl _ _ _ rfl _ _ _ rfl rfl _ rfl ?_ ?_ <;> (intro hg_; try simp only [M.hgs] at hg_; first | (exfalso; first | omega | (simp at hg_; done)) | (go_simp)))
      | ((fail_if_success (refine M.lit_t rfl ?_)); (fail_if_success (refine M.lit_f rfl ?_)); refine M.split_guard rfl rfl ?_ ?_ <;> (intro hg_; simp only [hg_]; try simp only [M.hgs] at hg_)))
    all_goals
      go_ret2
      exact ⟨by first | rfl | simp, HM.none.to_below⟩
theorem new_ok (most : Int) (h1 : 1 ≤ most) (h2 : most ≤ 64) (w : World) : Calls Try.prog 13 #[.int .i64 most] w (Ans w [] fun v L => ∃ g, v = .tuple #[.pointer (some ⟨g, 0, none⟩), .int .i64 0] ∧ L = [(g, row #[.int .i64 most, .slice none 0 0] 64)]) := by
  have HM := Mem.nil w
  go_enter Try.func13, Try.ntmps13
  go_wp2_with (first
    | (go_big_skip)
    | (refine M.at_mem rfl ?_; first | (refine M.at_box 64 rfl ?_; first | (refine M.box_m HM rfl rfl 64 _ rfl _ rfl ?_; clear HM; intro g_ w_ HM; go_simp)) | ((fail_if_success (refine M.lit_t rfl ?_)); (fail_if_success (refine M.lit_f rfl ?_)); refine M.split_guard rfl rfl ?_ ?_ <;> (intro hg_; simp only [hg_]; try simp only [M.hgs] at hg_)))
    | (refine Mc.at_cmp _ rfl ?_; refine Mc.cmp_m rfl _ rfl _ _ _ rfl _ _ _ rfl rfl _ rfl ?_ ?_ <;> (intro hg_; try simp only [M.hgs] at hg_; first | (exfalso; first | omega | (simp at hg_; done)) | (go_simp)))
    | ((fail_if_success (refine M.lit_t rfl ?_)); (fail_if_success (refine M.lit_f rfl ?_)); refine M.split_guard rfl rfl ?_ ?_ <;> (intro hg_; simp only [hg_]; try simp only [M.hgs] at hg_)))
  all_goals
    go_ret2
    exact Ans.mk ⟨_, rfl, rfl⟩ HM
end Go.Proofs.Ytccbpcdepgnmgaa.Tq
