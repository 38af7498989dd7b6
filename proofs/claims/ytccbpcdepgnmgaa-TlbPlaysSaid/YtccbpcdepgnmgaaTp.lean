/- Addresses, and entries: virt.Low, Base, the document's Base, both Right, both Matches, listed, page, New, meets: what each call answers. -/
import Derived.Test.YtccbpcdepgnmgaaProg
import Derived.Test.YtccbpcdepgnmgaaMv
import Derived.Test.YtccbpcdepgnmgaaDs
import Derived.Test.YtccbpcdepgnmgaaLg
import Derived.Test.YtccbpcdepgnmgaaTe
namespace Go.Proofs.Ytccbpcdepgnmgaa.Tp
open Go.RowKit Go.Proofs.Ytccbpcdepgnmgaa.G Go.Proofs.Ytccbpcdepgnmgaa.B Go.Proofs.Ytccbpcdepgnmgaa.M Go.Proofs.Ytccbpcdepgnmgaa.Mv Go.Proofs.Ytccbpcdepgnmgaa.Sl Go.Proofs.Ytccbpcdepgnmgaa.Sm Go.Proofs.Ytccbpcdepgnmgaa.Sn Go.Proofs.Ytccbpcdepgnmgaa.Te Go.Proofs.Ytccbpcdepgnmgaa.Dr Go.Proofs.Ytccbpcdepgnmgaa.Ds

set_option linter.unusedVariables false
set_option linter.unusedSimpArgs false
set_option maxRecDepth 100000
set_option maxHeartbeats 2000000
theorem fdown_any (x n : Int) (h0 : 0 ≤ x) (h1 : x < 18446744073709551616) (w : World) : Calls Try.prog 44 #[.int .u64 x, .int .i64 n] w fun e w' => e = .returned (.int .u64 (dn x n)) ∧ Below w.heap.size w w' := by
  have CO := fun w => ones_any n w
  have ha := Lib.hid (andNot_ones x n h0 h1)
  have HM := Mem.nil w
  generalize ones n = o at CO ha
  go_enter Try.func44, Try.ntmps44
  go_wp2_with (first
    | (go_at_call 45; (with_reducible refine (M.call_pure (CO) HM).mono ?_); clear HM; rintro e w_ ⟨rfl, HM⟩; dsimp only)
    | ((fail_if_success (refine M.lit_t rfl ?_)); (fail_if_success (refine M.lit_f rfl ?_)); refine M.split_guard rfl rfl ?_ ?_ <;> (intro hg_; simp only [hg_]; try simp only [M.hgs] at hg_)))
  go_ret
  refine ⟨?_, HM.to_below⟩
  unfold dn
  simp
  exact ha.out
theorem known_any (level : Int) (w : World) : Calls Try.prog 43 #[.int .i64 level] w fun e w' => e = .returned (.bool (kn level)) ∧ Below w.heap.size w w' := by
  have HM := Mem.nil w
  generalize hr : kn level = r
  have HR := Lib.hid hr; clear hr
  go_enter Try.func43, Try.ntmps43
  go_wp2_with (first
    | (refine Mc.at_cmp _ rfl ?_; refine Mc.cmp_m rfl _ rfl _ _ _ rfl _ _ _ rfl rfl _ rfl ?_ ?_ <;> (intro hg_; try simp only [M.hgs] at hg_; first | (exfalso; first | omega | (simp at hg_; done)) | (go_simp)))
    | ((fail_if_success (refine M.lit_t rfl ?_)); (fail_if_success (refine M.lit_f rfl ?_)); refine M.split_guard rfl rfl ?_ ?_ <;> (intro hg_; simp only [hg_]; try simp only [M.hgs] at hg_)))
  all_goals
    go_ret
    refine ⟨congrArg (fun z => Ending.returned (Value.bool z)) ?_, HM.to_below⟩
    rw [← HR.out]
    unfold kn
    symm
    first | (exact decide_eq_true (by omega)) | (exact decide_eq_false (by omega))
theorem vlow_any (va : Int) (h0 : 0 ≤ va) (w : World) : Calls Try.prog 26 #[.int .u64 va] w fun e w' => e = .returned (.bool (lowB va)) ∧ Below w.heap.size w w' := by
  have HM := Mem.nil w
  have HR := Lib.hid (lowB_div va h0)
  generalize lowB va = r at HR
  go_enter Try.func26, Try.ntmps26
  go_wp2_with (first
    | ((fail_if_success (refine M.lit_t rfl ?_)); (fail_if_success (refine M.lit_f rfl ?_)); refine M.split_guard rfl rfl ?_ ?_ <;> (intro hg_; simp only [hg_]; try simp only [M.hgs] at hg_)))
  all_goals
    go_ret
    refine ⟨congrArg (fun z => Ending.returned (Value.bool z)) ?_, HM.to_below⟩
    rw [← HR.out]
    try rfl
theorem vbase_any (va level : Int) (h0 : 0 ≤ va) (h1 : va < 18446744073709551616) (w : World) : Calls Try.prog 27 #[.int .u64 va, .int .i64 level] w fun e w' => e = .returned (.int .u64 (baseV va level)) ∧ Below w.heap.size w w' := by
  have CK := fun w => known_any level w
  have HM := Mem.nil w
  cases hk : kn level with
  | false =>
    rw [hk] at CK
    have e : baseV va level = 0 := by simp [baseV, hk]
    rw [e]; clear e hk
    go_enter Try.func27, Try.ntmps27
    go_wp2_with (first
      | (go_at_call 43; (with_reducible refine (M.call_pure (CK) HM).mono ?_); clear HM; rintro e w_ ⟨rfl, HM⟩; dsimp only)
      | ((fail_if_success (refine M.lit_t rfl ?_)); (fail_if_success (refine M.lit_f rfl ?_)); refine M.split_guard rfl rfl ?_ ?_ <;> (intro hg_; simp only [hg_]; try simp only [M.hgs] at hg_)))
    go_ret
    exact ⟨by first | rfl | simp, HM.to_below⟩
  | true =>
    rw [hk] at CK
    have CO := fun w => ones_any 48 w
    have CB := fun w => bits_any level w
    have ha := and_ones va 48 h0 h1
    rw [show min (Int.toNat 48) 64 = 48 from rfl, p48] at ha
    have hlt := Int.emod_lt_of_pos va (show (0 : Int) < 281474976710656 by decide)
    have hge := Int.emod_nonneg va (show (281474976710656 : Int) ≠ 0 by decide)
    have CD := fun w => fdown_any (va % 281474976710656) (lbits level) hge (by omega) w
    have e : dn (va % 281474976710656) (lbits level) = baseV va level := by
      have hr := lbits_range level
      unfold dn
      rw [show min (lbits level).toNat 64 = (lbits level).toNat by omega]
      simp [baseV, hk]
    rw [e] at CD
    rw [← ha] at CD
    clear e ha hlt hge hk
    generalize baseV va level = bv at CD
    generalize ones 48 = o at CO CD
    generalize lbits level = lb at CB CD
    go_enter Try.func27, Try.ntmps27
    go_wp2_with (first
      | (go_at_call 43; (with_reducible refine (M.call_pure (CK) HM).mono ?_); clear HM; rintro e w_ ⟨rfl, HM⟩; dsimp only)
      | (go_at_call 45; (with_reducible refine (M.call_pure (CO) HM).mono ?_); clear HM; rintro e w_ ⟨rfl, HM⟩; dsimp only)
      | (go_at_call 11; (with_reducible refine (M.call_pure (CB) HM).mono ?_); clear HM; rintro e w_ ⟨rfl, HM⟩; dsimp only)
      | (go_at_call 44; (with_reducible refine (M.call_pure (CD) HM).mono ?_); clear HM; rintro e w_ ⟨rfl, HM⟩; dsimp only)
      | ((fail_if_success (refine M.lit_t rfl ?_)); (fail_if_success (refine M.lit_f rfl ?_)); refine M.split_guard rfl rfl ?_ ?_ <;> (intro hg_; simp only [hg_]; try simp only [M.hgs] at hg_)))
    go_ret
    exact ⟨by first | rfl | simp, HM.to_below⟩
theorem rbase_any (va level : Int) (h0 : 0 ≤ va) (h1 : va < 18446744073709551616) (l0 : 0 ≤ level) (l1 : level ≤ 3) (w : World) : Calls Try.prog 24 #[.int .u64 va, .int .i64 level] w fun e w' => e = .returned (.int .u64 (baseV va level)) ∧ Below w.heap.size w w' := by
  have CL := fun w => Ha.low_any level l0 l1 w
  have HM := Mem.nil w
  have hlt := Int.emod_lt_of_pos va (show (0 : Int) < 281474976710656 by decide)
  have hge := Int.emod_nonneg va (show (281474976710656 : Int) ≠ 0 by decide)
  have hk : kn level = true := by unfold kn; exact decide_eq_true (by omega)
  have CD := fun w => Lg.down_as (x := va % 281474976710656) (n := 39 - 9 * level) (r := baseV va level) hge (by omega) (by omega) (by omega) (by
    simp [baseV, hk, lbits_yes hk]) w
  have hm : va.tmod 281474976710656 = va % 281474976710656 := Int.tmod_eq_emod_of_nonneg h0
  clear hm hlt hge hk
  generalize baseV va level = bv at CD
  generalize hb : 39 - 9 * level = lb at CL CD
  clear hb
  go_enter Try.func24, Try.ntmps24
  go_wp2_with (first
    | (go_at_call 42; (with_reducible refine (M.call_pure (CL) HM).mono ?_); clear HM; rintro e w_ ⟨rfl, HM⟩; dsimp only)
    | (go_at_call 41; (with_reducible refine (M.call_pure (CD) HM).mono ?_); clear HM; rintro e w_ ⟨rfl, HM⟩; dsimp only)
    | ((fail_if_success (refine M.lit_t rfl ?_)); (fail_if_success (refine M.lit_f rfl ?_)); refine M.split_guard rfl rfl ?_ ?_ <;> (intro hg_; simp only [hg_]; try simp only [M.hgs] at hg_)))
  go_ret
  exact ⟨by first | rfl | simp, HM.to_below⟩
theorem dright_any (level kind out attr : Int) (user write exec used : Bool) (h0 : 0 ≤ out) (h1 : out < 18446744073709551616) (w : World) :
    Calls Try.prog 28 #[.agg #[.int .i64 kind, .int .u64 out, .bool user, .bool write, .bool exec, .bool used, .int .i64 attr], .int .i64 level] w fun e w' => e = .returned (.bool (rightV level kind out user write exec used attr)) ∧ Below w.heap.size w w' := by
  by_cases h : level < 0 ∨ 4 ≤ level ∨ kind = 0 ∨ kind = 1
  · exact dright_low level kind out attr user write exec used h0 h1 h w
  · exact dright_leaf level kind out attr user write exec used h0 h1 (by omega) (by omega) (by omega) (by omega) w
/-- May an entry be? -/
def rightE (e : E) : Bool := decide (0 ≤ e.asid ∧ e.asid ≤ 255 ∧ 1 ≤ e.level ∧ e.level ≤ 3) && (lowB e.va && (decide (baseV e.va e.level = e.va) && (decide (e.kind = 2 ∨ e.kind = 3) && (rightV e.level e.kind e.out e.user e.write e.exec e.used e.attr && e.used))))
theorem right_any (e : E) (ho : e.ok) (w : World) : Calls Try.prog 10 #[.agg e.cells] w fun x w' => x = .returned (.bool (rightE e)) ∧ Below w.heap.size w w' := by
  obtain ⟨v0, v1, o0, o1⟩ := ho
  have CL := fun w => vlow_any e.va v0 w
  have CB := fun w => vbase_any e.va e.level v0 v1 w
  have CR := fun w => dright_any e.level e.kind e.out e.attr e.user e.write e.exec e.used o0 o1 w
  generalize hr : rightE e = r
  have HR := Lib.hid hr; clear hr
  obtain ⟨asid, va, level, kind, out, user, write, exec, used, attr⟩ := e
  dsimp only at CL CB CR v0 v1 o0 o1
  have HM := Mem.nil w
  simp only [E.cells]
  generalize hl : lowB va = lo at CL
  generalize hb : baseV va level = ba at CB
  generalize hd : rightV level kind out user write exec used attr = rv at CR
  have HL := Lib.hid hl; have HB := Lib.hid hb; have HD := Lib.hid hd
  clear hl hb hd
  have key : kind = 2 ∨ kind = 3 ∨ (¬ kind = 2 ∧ ¬ kind = 3) := by omega
  rcases key with rfl | rfl | ⟨n2, n3⟩
  · go_enter Try.func10, Try.ntmps10
    go_wp2_with (first
      | (go_big_skip)
      | (go_at_call 26; (with_reducible refine (M.call_pure (CL) HM).mono ?_); clear HM; rintro e w_ ⟨rfl, HM⟩; dsimp only)
      | (go_at_call 27; (with_reducible refine (M.call_pure (CB) HM).mono ?_); clear HM; rintro e w_ ⟨rfl, HM⟩; dsimp only)
      | (go_at_call 28; (with_reducible refine (M.call_pure (CR) HM).mono ?_); clear HM; rintro e w_ ⟨rfl, HM⟩; dsimp only)
      | (refine M.at_reg 4 ?_; refine Mq.region_m (id := 4) HM (by kernel_rfl) (by kernel_rfl) ?_; (repeat (any_goals (first | go_big_quiet_skip | (refine Mq.qat_load 3 rfl ?_; go_big_quiet_want; first | (refine Sn.quiet_load_part 24 _ rfl 0 _ 3 7 _ _ rfl rfl (by simp) #[.int .i64 2, .int .u64 out, .bool user, .bool write, .bool exec, .bool used, .int .i64 attr] (by kernel_rfl) (by kernel_rfl) (by kernel_rfl) ?_; simp only [Act.put, List.setIfInBounds_toArray, List.set_cons_zero, List.set_cons_succ]; go_big_quiet_on) | (refine Mq.quiet_load_cell 3 _ rfl 0 _ _ _ _ _ rfl rfl rfl (by kernel_rfl) (by kernel_rfl) ?_; simp only [Act.put, List.setIfInBounds_toArray, List.set_cons_zero, List.set_cons_succ]; go_big_quiet_on)) | (refine Mq.qat_load 4 rfl ?_; go_big_quiet_want; first | (refine Sn.quiet_load_part 24 _ rfl 0 _ 3 7 _ _ rfl rfl (by simp) #[.int .i64 2, .int .u64 out, .bool user, .bool write, .bool exec, .bool used, .int .i64 attr] (by kernel_rfl) (by kernel_rfl) (by kernel_rfl) ?_; simp only [Act.put, List.setIfInBounds_toArray, List.set_cons_zero, List.set_cons_succ]; go_big_quiet_on) | (refine Mq.quiet_load_cell 4 _ rfl 0 _ _ _ _ _ rfl rfl rfl (by kernel_rfl) (by kernel_rfl) ?_; simp only [Act.put, List.setIfInBounds_toArray, List.set_cons_zero, List.set_cons_succ]; go_big_quiet_on)) | (refine Mq.qat_load 22 rfl ?_; go_big_quiet_want; first | (refine Sn.quiet_load_part 24 _ rfl 0 _ 3 7 _ _ rfl rfl (by simp) #[.int .i64 2, .int .u64 out, .bool user, .bool write, .bool exec, .bool used, .int .i64 attr] (by kernel_rfl) (by kernel_rfl) (by kernel_rfl) ?_; simp only [Act.put, List.setIfInBounds_toArray, List.set_cons_zero, List.set_cons_succ]; go_big_quiet_on) | (refine Mq.quiet_load_cell 22 _ rfl 0 _ _ _ _ _ rfl rfl rfl (by kernel_rfl) (by kernel_rfl) ?_; simp only [Act.put, List.setIfInBounds_toArray, List.set_cons_zero, List.set_cons_succ]; go_big_quiet_on)) | (refine Mq.qat_load 24 rfl ?_; go_big_quiet_want; first | (refine Sn.quiet_load_part 24 _ rfl 0 _ 3 7 _ _ rfl rfl (by simp) #[.int .i64 2, .int .u64 out, .bool user, .bool write, .bool exec, .bool used, .int .i64 attr] (by kernel_rfl) (by kernel_rfl) (by kernel_rfl) ?_; simp only [Act.put, List.setIfInBounds_toArray, List.set_cons_zero, List.set_cons_succ]; go_big_quiet_on) | (refine Mq.quiet_load_row 24 _ rfl 0 _ _ _ rfl rfl (by kernel_rfl) (by kernel_rfl) ?_; simp only [Act.put, List.setIfInBounds_toArray, List.set_cons_zero, List.set_cons_succ]; go_big_quiet_on)) | ((fail_if_success (refine Mq.qlit_t rfl ?_)); (fail_if_success (refine Mq.qlit_f rfl ?_)); refine Mq.qsplit rfl rfl ?_ ?_ <;> (intro hg_; simp only [hg_]; try simp only [M.hgs] at hg_)) | go_big_quiet_step (first | (go_at_call 26; with_reducible exact Mq.quiet_call_m (CL _)) | (go_at_call 27; with_reducible exact Mq.quiet_call_m (CB _)) | (go_at_call 28; with_reducible exact Mq.quiet_call_m (CR _)) | exact rfl)))); all_goals (refine Go.Proofs.Ytccbpcdepgnmgaa.G.wpQuiet_end ?_; clear HM; intro w_ HM))
      | (refine M.at_mem rfl ?_; first | (refine M.at_load 3 rfl ?_; first | (refine M.load_cell_m HM rfl 3 _ rfl 0 _ _ _ _ _ rfl rfl rfl (by kernel_rfl) (by kernel_rfl) ?_; go_simp)) | (refine M.at_load 4 rfl ?_; first | (refine M.load_cell_m HM rfl 4 _ rfl 0 _ _ _ _ _ rfl rfl rfl (by kernel_rfl) (by kernel_rfl) ?_; go_simp)) | (refine M.at_load 22 rfl ?_; first | (refine M.load_cell_m HM rfl 22 _ rfl 0 _ _ _ _ _ rfl rfl rfl (by kernel_rfl) (by kernel_rfl) ?_; go_simp)) | (refine M.at_load 24 rfl ?_; first | (refine M.load_row_m HM rfl 24 _ rfl 0 _ _ _ rfl rfl (by kernel_rfl) (by kernel_rfl) ?_; go_simp)) | (refine M.at_box 26 rfl ?_; first | (refine M.box_m HM rfl rfl 26 _ rfl _ rfl ?_; clear HM; intro g_ w_ HM; go_simp)) | ((fail_if_success (refine M.lit_t rfl ?_)); (fail_if_success (refine M.lit_f rfl ?_)); refine M.split_guard rfl rfl ?_ ?_ <;> (intro hg_; simp only [hg_]; try simp only [M.hgs] at hg_)))
      | (refine Mc.at_cmp _ rfl ?_; refine Mc.cmp_m rfl _ rfl _ _ _ rfl _ _ _ rfl rfl _ rfl ?_ ?_ <;> (intro hg_; try simp only [M.hgs] at hg_; first | (exfalso; first | omega | (simp at hg_; done)) | (go_simp)))
      | ((fail_if_success (refine M.lit_t rfl ?_)); (fail_if_success (refine M.lit_f rfl ?_)); refine M.split_guard rfl rfl ?_ ?_ <;> (intro hg_; simp only [hg_]; try simp only [M.hgs] at hg_)))
    all_goals
      go_ret
      refine ⟨congrArg (fun z => Ending.returned (Value.bool z)) ?_, HM.none.to_below⟩
      rw [← HR.out]
      have hl := HL.out; have hb := HB.out; have hd := HD.out
      simp only [rightE, hl, hb, hd]
      clear hl hb hd HL HB HD HR HM CL CB CR
      first | (simp_all; done) | (simp_all; omega)
  · go_enter Try.func10, Try.ntmps10
    go_wp2_with (first
      | (go_big_skip)
      | (go_at_call 26; (with_reducible refine (M.call_pure (CL) HM).mono ?_); clear HM; rintro e w_ ⟨rfl, HM⟩; dsimp only)
      | (go_at_call 27; (with_reducible refine (M.call_pure (CB) HM).mono ?_); clear HM; rintro e w_ ⟨rfl, HM⟩; dsimp only)
      | (go_at_call 28; (with_reducible refine (M.call_pure (CR) HM).mono ?_); clear HM; rintro e w_ ⟨rfl, HM⟩; dsimp only)
      | (refine M.at_reg 4 ?_; refine Mq.region_m (id := 4) HM (by kernel_rfl) (by kernel_rfl) ?_; (repeat (any_goals (first | go_big_quiet_skip | (refine Mq.qat_load 3 rfl ?_; go_big_quiet_want; first | (refine Sn.quiet_load_part 24 _ rfl 0 _ 3 7 _ _ rfl rfl (by simp) #[.int .i64 3, .int .u64 out, .bool user, .bool write, .bool exec, .bool used, .int .i64 attr] (by kernel_rfl) (by kernel_rfl) (by kernel_rfl) ?_; simp only [Act.put, List.setIfInBounds_toArray, List.set_cons_zero, List.set_cons_succ]; go_big_quiet_on) | (refine Mq.quiet_load_cell 3 _ rfl 0 _ _ _ _ _ rfl rfl rfl (by kernel_rfl) (by kernel_rfl) ?_; simp only [Act.put, List.setIfInBounds_toArray, List.set_cons_zero, List.set_cons_succ]; go_big_quiet_on)) | (refine Mq.qat_load 4 rfl ?_; go_big_quiet_want; first | (refine Sn.quiet_load_part 24 _ rfl 0 _ 3 7 _ _ rfl rfl (by simp) #[.int .i64 3, .int .u64 out, .bool user, .bool write, .bool exec, .bool used, .int .i64 attr] (by kernel_rfl) (by kernel_rfl) (by kernel_rfl) ?_; simp only [Act.put, List.setIfInBounds_toArray, List.set_cons_zero, List.set_cons_succ]; go_big_quiet_on) | (refine Mq.quiet_load_cell 4 _ rfl 0 _ _ _ _ _ rfl rfl rfl (by kernel_rfl) (by kernel_rfl) ?_; simp only [Act.put, List.setIfInBounds_toArray, List.set_cons_zero, List.set_cons_succ]; go_big_quiet_on)) | (refine Mq.qat_load 22 rfl ?_; go_big_quiet_want; first | (refine Sn.quiet_load_part 24 _ rfl 0 _ 3 7 _ _ rfl rfl (by simp) #[.int .i64 3, .int .u64 out, .bool user, .bool write, .bool exec, .bool used, .int .i64 attr] (by kernel_rfl) (by kernel_rfl) (by kernel_rfl) ?_; simp only [Act.put, List.setIfInBounds_toArray, List.set_cons_zero, List.set_cons_succ]; go_big_quiet_on) | (refine Mq.quiet_load_cell 22 _ rfl 0 _ _ _ _ _ rfl rfl rfl (by kernel_rfl) (by kernel_rfl) ?_; simp only [Act.put, List.setIfInBounds_toArray, List.set_cons_zero, List.set_cons_succ]; go_big_quiet_on)) | (refine Mq.qat_load 24 rfl ?_; go_big_quiet_want; first | (refine Sn.quiet_load_part 24 _ rfl 0 _ 3 7 _ _ rfl rfl (by simp) #[.int .i64 3, .int .u64 out, .bool user, .bool write, .bool exec, .bool used, .int .i64 attr] (by kernel_rfl) (by kernel_rfl) (by kernel_rfl) ?_; simp only [Act.put, List.setIfInBounds_toArray, List.set_cons_zero, List.set_cons_succ]; go_big_quiet_on) | (refine Mq.quiet_load_row 24 _ rfl 0 _ _ _ rfl rfl (by kernel_rfl) (by kernel_rfl) ?_; simp only [Act.put, List.setIfInBounds_toArray, List.set_cons_zero, List.set_cons_succ]; go_big_quiet_on)) | ((fail_if_success (refine Mq.qlit_t rfl ?_)); (fail_if_success (refine Mq.qlit_f rfl ?_)); refine Mq.qsplit rfl rfl ?_ ?_ <;> (intro hg_; simp only [hg_]; try simp only [M.hgs] at hg_)) | go_big_quiet_step (first | (go_at_call 26; with_reducible exact Mq.quiet_call_m (CL _)) | (go_at_call 27; with_reducible exact Mq.quiet_call_m (CB _)) | (go_at_call 28; with_reducible exact Mq.quiet_call_m (CR _)) | exact rfl)))); all_goals (refine Go.Proofs.Ytccbpcdepgnmgaa.G.wpQuiet_end ?_; clear HM; intro w_ HM))
      | (refine M.at_mem rfl ?_; first | (refine M.at_load 3 rfl ?_; first | (refine M.load_cell_m HM rfl 3 _ rfl 0 _ _ _ _ _ rfl rfl rfl (by kernel_rfl) (by kernel_rfl) ?_; go_simp)) | (refine M.at_load 4 rfl ?_; first | (refine M.load_cell_m HM rfl 4 _ rfl 0 _ _ _ _ _ rfl rfl rfl (by kernel_rfl) (by kernel_rfl) ?_; go_simp)) | (refine M.at_load 22 rfl ?_; first | (refine M.load_cell_m HM rfl 22 _ rfl 0 _ _ _ _ _ rfl rfl rfl (by kernel_rfl) (by kernel_rfl) ?_; go_simp)) | (refine M.at_load 24 rfl ?_; first | (refine M.load_row_m HM rfl 24 _ rfl 0 _ _ _ rfl rfl (by kernel_rfl) (by kernel_rfl) ?_; go_simp)) | (refine M.at_box 26 rfl ?_; first | (refine M.box_m HM rfl rfl 26 _ rfl _ rfl ?_; clear HM; intro g_ w_ HM; go_simp)) | ((fail_if_success (refine M.lit_t rfl ?_)); (fail_if_success (refine M.lit_f rfl ?_)); refine M.split_guard rfl rfl ?_ ?_ <;> (intro hg_; simp only [hg_]; try simp only [M.hgs] at hg_)))
      | (refine Mc.at_cmp _ rfl ?_; refine Mc.cmp_m rfl _ rfl _ _ _ rfl _ _ _ rfl rfl _ rfl ?_ ?_ <;> (intro hg_; try simp only [M.hgs] at hg_; first | (exfalso; first | omega | (simp at hg_; done)) | (go_simp)))
      | ((fail_if_success (refine M.lit_t rfl ?_)); (fail_if_success (refine M.lit_f rfl ?_)); refine M.split_guard rfl rfl ?_ ?_ <;> (intro hg_; simp only [hg_]; try simp only [M.hgs] at hg_)))
    all_goals
      go_ret
      refine ⟨congrArg (fun z => Ending.returned (Value.bool z)) ?_, HM.none.to_below⟩
      rw [← HR.out]
      have hl := HL.out; have hb := HB.out; have hd := HD.out
      simp only [rightE, hl, hb, hd]
      clear hl hb hd HL HB HD HR HM CL CB CR
      first | (simp_all; done) | (simp_all; omega)
  · go_enter Try.func10, Try.ntmps10
    go_wp2_with (first
      | (go_big_skip)
      | (go_at_call 26; (with_reducible refine (M.call_pure (CL) HM).mono ?_); clear HM; rintro e w_ ⟨rfl, HM⟩; dsimp only)
      | (go_at_call 27; (with_reducible refine (M.call_pure (CB) HM).mono ?_); clear HM; rintro e w_ ⟨rfl, HM⟩; dsimp only)
      | (go_at_call 28; (with_reducible refine (M.call_pure (CR) HM).mono ?_); clear HM; rintro e w_ ⟨rfl, HM⟩; dsimp only)
      | (refine M.at_reg 4 ?_; refine Mq.region_m (id := 4) HM (by kernel_rfl) (by kernel_rfl) ?_; (repeat (any_goals (first | go_big_quiet_skip | (refine Mq.qat_load 3 rfl ?_; go_big_quiet_want; first | (refine Sn.quiet_load_part 24 _ rfl 0 _ 3 7 _ _ rfl rfl (by simp) #[.int .i64 kind, .int .u64 out, .bool user, .bool write, .bool exec, .bool used, .int .i64 attr] (by kernel_rfl) (by kernel_rfl) (by kernel_rfl) ?_; simp only [Act.put, List.setIfInBounds_toArray, List.set_cons_zero, List.set_cons_succ]; go_big_quiet_on) | (refine Mq.quiet_load_cell 3 _ rfl 0 _ _ _ _ _ rfl rfl rfl (by kernel_rfl) (by kernel_rfl) ?_; simp only [Act.put, List.setIfInBounds_toArray, List.set_cons_zero, List.set_cons_succ]; go_big_quiet_on)) | (refine Mq.qat_load 4 rfl ?_; go_big_quiet_want; first | (refine Sn.quiet_load_part 24 _ rfl 0 _ 3 7 _ _ rfl rfl (by simp) #[.int .i64 kind, .int .u64 out, .bool user, .bool write, .bool exec, .bool used, .int .i64 attr] (by kernel_rfl) (by kernel_rfl) (by kernel_rfl) ?_; simp only [Act.put, List.setIfInBounds_toArray, List.set_cons_zero, List.set_cons_succ]; go_big_quiet_on) | (refine Mq.quiet_load_cell 4 _ rfl 0 _ _ _ _ _ rfl rfl rfl (by kernel_rfl) (by kernel_rfl) ?_; simp only [Act.put, List.setIfInBounds_toArray, List.set_cons_zero, List.set_cons_succ]; go_big_quiet_on)) | (refine Mq.qat_load 22 rfl ?_; go_big_quiet_want; first | (refine Sn.quiet_load_part 24 _ rfl 0 _ 3 7 _ _ rfl rfl (by simp) #[.int .i64 kind, .int .u64 out, .bool user, .bool write, .bool exec, .bool used, .int .i64 attr] (by kernel_rfl) (by kernel_rfl) (by kernel_rfl) ?_; simp only [Act.put, List.setIfInBounds_toArray, List.set_cons_zero, List.set_cons_succ]; go_big_quiet_on) | (refine Mq.quiet_load_cell 22 _ rfl 0 _ _ _ _ _ rfl rfl rfl (by kernel_rfl) (by kernel_rfl) ?_; simp only [Act.put, List.setIfInBounds_toArray, List.set_cons_zero, List.set_cons_succ]; go_big_quiet_on)) | (refine Mq.qat_load 24 rfl ?_; go_big_quiet_want; first | (refine Sn.quiet_load_part 24 _ rfl 0 _ 3 7 _ _ rfl rfl (by simp) #[.int .i64 kind, .int .u64 out, .bool user, .bool write, .bool exec, .bool used, .int .i64 attr] (by kernel_rfl) (by kernel_rfl) (by kernel_rfl) ?_; simp only [Act.put, List.setIfInBounds_toArray, List.set_cons_zero, List.set_cons_succ]; go_big_quiet_on) | (refine Mq.quiet_load_row 24 _ rfl 0 _ _ _ rfl rfl (by kernel_rfl) (by kernel_rfl) ?_; simp only [Act.put, List.setIfInBounds_toArray, List.set_cons_zero, List.set_cons_succ]; go_big_quiet_on)) | ((fail_if_success (refine Mq.qlit_t rfl ?_)); (fail_if_success (refine Mq.qlit_f rfl ?_)); refine Mq.qsplit rfl rfl ?_ ?_ <;> (intro hg_; simp only [hg_]; try simp only [M.hgs] at hg_)) | go_big_quiet_step (first | (go_at_call 26; with_reducible exact Mq.quiet_call_m (CL _)) | (go_at_call 27; with_reducible exact Mq.quiet_call_m (CB _)) | (go_at_call 28; with_reducible exact Mq.quiet_call_m (CR _)) | exact rfl)))); all_goals (refine Go.Proofs.Ytccbpcdepgnmgaa.G.wpQuiet_end ?_; clear HM; intro w_ HM))
      | (refine M.at_mem rfl ?_; first | (refine M.at_load 3 rfl ?_; first | (refine M.load_cell_m HM rfl 3 _ rfl 0 _ _ _ _ _ rfl rfl rfl (by kernel_rfl) (by kernel_rfl) ?_; go_simp)) | (refine M.at_load 4 rfl ?_; first | (refine M.load_cell_m HM rfl 4 _ rfl 0 _ _ _ _ _ rfl rfl rfl (by kernel_rfl) (by kernel_rfl) ?_; go_simp)) | (refine M.at_load 22 rfl ?_; first | (refine M.load_cell_m HM rfl 22 _ rfl 0 _ _ _ _ _ rfl rfl rfl (by kernel_rfl) (by kernel_rfl) ?_; go_simp)) | (refine M.at_load 24 rfl ?_; first | (refine M.load_row_m HM rfl 24 _ rfl 0 _ _ _ rfl rfl (by kernel_rfl) (by kernel_rfl) ?_; go_simp)) | (refine M.at_box 26 rfl ?_; first | (refine M.box_m HM rfl rfl 26 _ rfl _ rfl ?_; clear HM; intro g_ w_ HM; go_simp)) | ((fail_if_success (refine M.lit_t rfl ?_)); (fail_if_success (refine M.lit_f rfl ?_)); refine M.split_guard rfl rfl ?_ ?_ <;> (intro hg_; simp only [hg_]; try simp only [M.hgs] at hg_)))
      | (refine Mc.at_cmp _ rfl ?_; refine Mc.cmp_m rfl _ rfl _ _ _ rfl _ _ _ rfl rfl _ rfl ?_ ?_ <;> (intro hg_; try simp only [M.hgs] at hg_; first | (exfalso; first | omega | (simp at hg_; done)) | (go_simp)))
      | ((fail_if_success (refine M.lit_t rfl ?_)); (fail_if_success (refine M.lit_f rfl ?_)); refine M.split_guard rfl rfl ?_ ?_ <;> (intro hg_; simp only [hg_]; try simp only [M.hgs] at hg_)))
    all_goals
      go_ret
      refine ⟨congrArg (fun z => Ending.returned (Value.bool z)) ?_, HM.none.to_below⟩
      rw [← HR.out]
      have hl := HL.out; have hb := HB.out; have hd := HD.out
      simp only [rightE, hl, hb, hd]
      clear hl hb hd HL HB HD HR HM CL CB CR
      first | (simp_all; done) | (simp_all; omega)
end Go.Proofs.Ytccbpcdepgnmgaa.Tp
