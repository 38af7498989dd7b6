/- Marks of a trail: records, Right and Leads, the document's. -/
/- A trail: Index, Contains, New, Add. -/
import Derived.Test.YtmmljeekonechaaProg
import Derived.Test.YtmmljeekonechaaLs
import Derived.Test.YtmmljeekonechaaTp
import Derived.Test.YtmmljeekonechaaLt
namespace Go.Proofs.Ytmmljeekonechaa.Za
open Go.RowKit Go.Proofs.Ytmmljeekonechaa.G Go.Proofs.Ytmmljeekonechaa.B Go.Proofs.Ytmmljeekonechaa.M Go.Proofs.Ytmmljeekonechaa.Mv Go.Proofs.Ytmmljeekonechaa.Sl Go.Proofs.Ytmmljeekonechaa.Sm Go.Proofs.Ytmmljeekonechaa.Sn Go.Proofs.Ytmmljeekonechaa.Ls Go.Proofs.Ytmmljeekonechaa.Dr Go.Proofs.Ytmmljeekonechaa.Ds Go.Proofs.Ytmmljeekonechaa.Tp

set_option linter.unusedVariables false
set_option linter.unusedSimpArgs false
set_option maxRecDepth 100000
/-- A mark. -/
structure K where
  asid : Int
  va : Int
  level : Int
  table : Int
deriving DecidableEq
def K.cells (k : K) : Array Value := #[.int .i64 k.asid, .int .u64 k.va, .int .i64 k.level, .int .u64 k.table]
instance : Rec K 4 := ⟨K.cells, fun _ => rfl, fun _ => by simp [K.cells, Value.oneCell'], by decide⟩
def K.zero : K := ⟨0, 0, 0, 0⟩
def K.ok (k : K) : Prop := 0 ≤ k.va ∧ k.va < 18446744073709551616 ∧ 0 ≤ k.table ∧ k.table < 18446744073709551616
theorem eqK_and (e f : K) : decide (e = f) = (decide (e.asid = f.asid) && (decide (e.va = f.va) && (decide (e.level = f.level) && decide (e.table = f.table)))) := by
  cases e; cases f
  rw [Bool.eq_iff_iff]
  simp
set_option maxHeartbeats 2000000 in
theorem eqK : EqR Try.prog 30 K := by
  refine ⟨by kernel_rfl, fun e f w => ?_⟩
  rw [eqK_and]
  simp [go_sem, Rec.cells, K.cells]
  by_cases h : e.asid = f.asid
  case neg => simp [h]
  rw [if_pos h, decide_eq_true h, Bool.true_and]; clear h
  by_cases h : e.va = f.va
  case neg => simp [h]
  rw [if_pos h, decide_eq_true h, Bool.true_and]; clear h
  by_cases h : e.level = f.level
  case neg => simp [h]
  rw [if_pos h, decide_eq_true h, Bool.true_and]; clear h
  by_cases h : e.table = f.table <;> simp [h]
set_option maxHeartbeats 2000000 in
theorem eqK2 : EqR Try.prog 45 K := by
  refine ⟨by kernel_rfl, fun e f w => ?_⟩
  rw [eqK_and]
  simp [go_sem, Rec.cells, K.cells]
  by_cases h : e.asid = f.asid
  case neg => simp [h]
  rw [if_pos h, decide_eq_true h, Bool.true_and]; clear h
  by_cases h : e.va = f.va
  case neg => simp [h]
  rw [if_pos h, decide_eq_true h, Bool.true_and]; clear h
  by_cases h : e.level = f.level
  case neg => simp [h]
  rw [if_pos h, decide_eq_true h, Bool.true_and]; clear h
  by_cases h : e.table = f.table <;> simp [h]
/-- May a mark be? -/
def rightK (k : K) : Bool := decide (0 ≤ k.asid ∧ k.asid ≤ 255 ∧ 1 ≤ k.level ∧ k.level ≤ 3) && (lowB k.va && (decide (baseV k.va (k.level - 1) = k.va) && (decide (k.table < 281474976710656) && decide (k.table % 4096 = 0))))
/-- Is it of an ASID and an address? -/
def leadsK (k : K) (asid va : Int) : Bool := decide (k.asid = asid) && (lowB va && decide (baseV va (k.level - 1) = k.va))
theorem rightK_level {k : K} (h : rightK k = true) : 0 ≤ k.asid ∧ k.asid ≤ 255 ∧ 1 ≤ k.level ∧ k.level ≤ 3 := by
  unfold rightK at h
  simp only [Bool.and_eq_true, decide_eq_true_eq] at h
  exact h.1
theorem wrap_pred {l : Int} (l0 : 1 ≤ l) (l1 : l ≤ 3) : IntKind.i64.wrap (l - 1) = l - 1 := by
  obtain rfl | rfl | rfl : l = 1 ∨ l = 2 ∨ l = 3 := by omega
  all_goals rfl
theorem shr48 (x : Int) (h0 : 0 ≤ x) : decide (x / 281474976710656 = 0) = decide (x < 281474976710656) := decide_eq_decide.mpr (by omega)
theorem al12 (x : Int) : al x 12 = decide (x % 4096 = 0) := by
  unfold al
  rw [show (2 : Int) ^ min (Int.toNat 12) 64 = 4096 by decide]
set_option maxHeartbeats 2000000 in
theorem right_any (k : K) (ho : k.ok) (w : World) : Calls Try.prog 19 #[.agg k.cells] w fun x w' => x = .returned (.bool (rightK k)) ∧ Below w.heap.size w w' := by
  obtain ⟨v0, v1, t0, t1⟩ := ho
  have CL := fun w => vlow_any k.va v0 w
  have CB := fun w => vbase_any k.va (k.level - 1) v0 v1 w
  have CA := fun w => aligned_any k.table 12 t0 t1 w
  rw [al12] at CA
  have hsh := shr48 k.table t0
  have hwr := fun h0 h1 => wrap_pred (l := k.level) h0 h1
  generalize hr : rightK k = r
  have HR := Lib.hid hr; clear hr
  obtain ⟨asid, va, level, table⟩ := k
  dsimp only at CL CB CA v0 v1 t0 t1 hsh hwr
  have HM := Mem.nil w
  simp only [K.cells]
  generalize hl : lowB va = lo at CL
  generalize hb : baseV va (level - 1) = ba at CB
  generalize ha : decide (table % 4096 = 0) = al at CA
  have HL := Lib.hid hl; have HB := Lib.hid hb; have HA := Lib.hid ha; have HW := Lib.hid hwr; have HS := Lib.hid hsh
  clear hl hb ha hwr hsh
  by_cases hlv : 1 ≤ level ∧ level ≤ 3
  · obtain ⟨l0, l1⟩ := hlv
    have hw := HW.out l0 l1
    go_enter Try.func19, Try.ntmps19
    go_wp2_with (first
      | (go_big_skip)
      | (go_at_call 24; (with_reducible refine (M.call_pure (CL) HM).mono ?_); clear HM; rintro e w_ ⟨rfl, HM⟩; dsimp only)
      | (go_at_call 25; (with_reducible refine (M.call_pure (CB) HM).mono ?_); clear HM; rintro e w_ ⟨rfl, HM⟩; dsimp only)
      | (go_at_call 38; (with_reducible refine (M.call_pure (CA) HM).mono ?_); clear HM; rintro e w_ ⟨rfl, HM⟩; dsimp only)
      | (refine M.at_reg 3 ?_; refine Mq.region_m (id := 3) HM (by kernel_rfl) (by kernel_rfl) ?_; (repeat (any_goals (first | go_big_quiet_skip | (refine Mq.qat_load 3 rfl ?_; go_big_quiet_want; first | (refine Mq.quiet_load_cell 3 _ rfl 0 _ _ _ _ _ rfl rfl rfl (by kernel_rfl) (by kernel_rfl) ?_; simp only [Act.put, List.setIfInBounds_toArray, List.set_cons_zero, List.set_cons_succ]; go_big_quiet_on)) | (refine Mq.qat_load 23 rfl ?_; go_big_quiet_want; first | (refine Mq.quiet_load_cell 23 _ rfl 0 _ _ _ _ _ rfl rfl rfl (by kernel_rfl) (by kernel_rfl) ?_; simp only [Act.put, List.setIfInBounds_toArray, List.set_cons_zero, List.set_cons_succ]; go_big_quiet_on)) | ((fail_if_success (refine Mq.qlit_t rfl ?_)); (fail_if_success (refine Mq.qlit_f rfl ?_)); refine Mq.qsplit rfl rfl ?_ ?_ <;> (intro hg_; simp only [hg_]; try simp only [M.hgs] at hg_)) | go_big_quiet_step (first | (go_at_call 24; with_reducible exact Mq.quiet_call_m (CL _)) | (go_at_call 25; with_reducible exact Mq.quiet_call_m (CB _)) | (go_at_call 38; with_reducible exact Mq.quiet_call_m (CA _)) | exact rfl)))); all_goals (refine Go.Proofs.Ytmmljeekonechaa.G.wpQuiet_end ?_; clear HM; intro w_ HM))
      | (refine M.at_mem rfl ?_; first | (refine M.at_load 3 rfl ?_; first | (refine M.load_cell_m HM rfl 3 _ rfl 0 _ _ _ _ _ rfl rfl rfl (by kernel_rfl) (by kernel_rfl) ?_; go_simp)) | (refine M.at_load 23 rfl ?_; first | (refine M.load_cell_m HM rfl 23 _ rfl 0 _ _ _ _ _ rfl rfl rfl (by kernel_rfl) (by kernel_rfl) ?_; go_simp)) | (refine M.at_box 30 rfl ?_; first | (refine M.box_m HM rfl rfl 30 _ rfl _ rfl ?_; clear HM; intro g_ w_ HM; go_simp)) | ((fail_if_success (refine M.lit_t rfl ?_)); (fail_if_success (refine M.lit_f rfl ?_)); refine M.split_guard rfl rfl ?_ ?_ <;> (intro hg_; simp only [hg_]; try simp only [M.hgs] at hg_)))
      | (refine Mc.at_cmp _ rfl ?_; refine Mc.cmp_m rfl _ rfl _ _ _ rfl _ _ _ rfl rfl _ rfl ?_ ?_ <;> (intro hg_; try simp only [M.hgs] at hg_; first | (exfalso; first | omega | (simp at hg_; done)) | (go_simp)))
      | ((fail_if_success (refine M.lit_t rfl ?_)); (fail_if_success (refine M.lit_f rfl ?_)); refine M.split_guard rfl rfl ?_ ?_ <;> (intro hg_; simp only [hg_]; try simp only [M.hgs] at hg_)))
    all_goals
      go_ret
      refine ⟨congrArg (fun z => Ending.returned (Value.bool z)) ?_, HM.none.to_below⟩
      rw [← HR.out]
      have hb := HB.out; have hl := HL.out; have ha := HA.out
      simp only [rightK, hb, hl, ha]
      have hs := HS.out
      clear hb hl ha HB HL HA HR HM CB CL
      first | (simp_all; done) | (simp_all; omega) | (rw [Bool.eq_iff_iff]; simp; omega)
  · have hlv : level < 1 ∨ 3 < level := by omega
    have e0 : r = false := by
      rw [← HR.out]
      unfold rightK
      rw [decide_eq_false (by dsimp only; omega)]
      rfl
    subst e0
    rcases hlv with hlv | hlv
    all_goals
      go_enter Try.func19, Try.ntmps19
      go_wp2_with (first
        | (go_big_skip)
        | (refine M.at_mem rfl ?_; first | (refine M.at_load 3 rfl ?_; first | (refine M.load_cell_m HM rfl 3 _ rfl 0 _ _ _ _ _ rfl rfl rfl (by kernel_rfl) (by kernel_rfl) ?_; go_simp)) | (refine M.at_load 23 rfl ?_; first | (refine M.load_cell_m HM rfl 23 _ rfl 0 _ _ _ _ _ rfl rfl rfl (by kernel_rfl) (by kernel_rfl) ?_; go_simp)) | (refine M.at_box 30 rfl ?_; first | (refine M.box_m HM rfl rfl 30 _ rfl _ rfl ?_; clear HM; intro g_ w_ HM; go_simp)) | ((fail_if_success (refine M.lit_t rfl ?_)); (fail_if_success (refine M.lit_f rfl ?_)); refine M.split_guard rfl rfl ?_ ?_ <;> (intro hg_; simp only [hg_]; try simp only [M.hgs] at hg_)))
        | (refine Mc.at_cmp _ rfl ?_; refine Mc.cmp_m rfl _ rfl _ _ _ rfl _ _ _ rfl rfl _ rfl ?_ ?_ <;> (intro hg_; try simp only [M.hgs] at hg_; first | (exfalso; first | omega | (simp at hg_; done)) | (go_simp)))
        | ((fail_if_success (refine M.lit_t rfl ?_)); (fail_if_success (refine M.lit_f rfl ?_)); refine M.split_guard rfl rfl ?_ ?_ <;> (intro hg_; simp only [hg_]; try simp only [M.hgs] at hg_)))
      all_goals
        go_ret
        exact ⟨by first | rfl | simp, HM.none.to_below⟩
set_option maxHeartbeats 2000000 in
theorem leads_any (k : K) (asid va : Int) (v0 : 0 ≤ va) (v1 : va < 18446744073709551616) (l0 : 1 ≤ k.level) (l1 : k.level ≤ 3) (w : World) : Calls Try.prog 12 #[.agg k.cells, .int .i64 asid, .int .u64 va] w fun x w' => x = .returned (.bool (leadsK k asid va)) ∧ Below w.heap.size w w' := by
  have CB := fun w => vbase_any va (k.level - 1) v0 v1 w
  have CL := fun w => vlow_any va v0 w
  have hlow : lowB va = decide (va < 281474976710656) := rfl
  have hw := wrap_pred (l := k.level) l0 l1
  generalize hr : leadsK k asid va = r
  have HR := Lib.hid hr; clear hr
  obtain ⟨asid', va', level, table⟩ := k
  dsimp only at CB l0 l1 hw
  have HM := Mem.nil w
  simp only [K.cells]
  generalize hb : baseV va (level - 1) = ba at CB
  generalize hl : lowB va = lo at CL
  have HL := Lib.hid hl; clear hl hlow
  have HB := Lib.hid hb; clear hb
  go_enter Try.func12, Try.ntmps12
  go_wp2_with (first
    | (go_big_skip)
    | (go_at_call 24; (with_reducible refine (M.call_pure (CL) HM).mono ?_); clear HM; rintro e w_ ⟨rfl, HM⟩; dsimp only)
    | (go_at_call 25; (with_reducible refine (M.call_pure (CB) HM).mono ?_); clear HM; rintro e w_ ⟨rfl, HM⟩; dsimp only)
    | (refine M.at_reg 1 ?_; refine Mq.region_m (id := 1) HM (by kernel_rfl) (by kernel_rfl) ?_; (repeat (any_goals (first | go_big_quiet_skip | (refine Mq.qat_load 3 rfl ?_; go_big_quiet_want; first | (refine Mq.quiet_load_cell 3 _ rfl 0 _ _ _ _ _ rfl rfl rfl (by kernel_rfl) (by kernel_rfl) ?_; simp only [Act.put, List.setIfInBounds_toArray, List.set_cons_zero, List.set_cons_succ]; go_big_quiet_on)) | (refine Mq.qat_load 23 rfl ?_; go_big_quiet_want; first | (refine Mq.quiet_load_cell 23 _ rfl 0 _ _ _ _ _ rfl rfl rfl (by kernel_rfl) (by kernel_rfl) ?_; simp only [Act.put, List.setIfInBounds_toArray, List.set_cons_zero, List.set_cons_succ]; go_big_quiet_on)) | ((fail_if_success (refine Mq.qlit_t rfl ?_)); (fail_if_success (refine Mq.qlit_f rfl ?_)); refine Mq.qsplit rfl rfl ?_ ?_ <;> (intro hg_; simp only [hg_]; try simp only [M.hgs] at hg_)) | go_big_quiet_step (first | (go_at_call 24; with_reducible exact Mq.quiet_call_m (CL _)) | (go_at_call 25; with_reducible exact Mq.quiet_call_m (CB _)) | exact rfl)))); all_goals (refine Go.Proofs.Ytmmljeekonechaa.G.wpQuiet_end ?_; clear HM; intro w_ HM))
    | (refine M.at_mem rfl ?_; first | (refine M.at_load 3 rfl ?_; first | (refine M.load_cell_m HM rfl 3 _ rfl 0 _ _ _ _ _ rfl rfl rfl (by kernel_rfl) (by kernel_rfl) ?_; go_simp)) | (refine M.at_load 23 rfl ?_; first | (refine M.load_cell_m HM rfl 23 _ rfl 0 _ _ _ _ _ rfl rfl rfl (by kernel_rfl) (by kernel_rfl) ?_; go_simp)) | (refine M.at_box 30 rfl ?_; first | (refine M.box_m HM rfl rfl 30 _ rfl _ rfl ?_; clear HM; intro g_ w_ HM; go_simp)) | ((fail_if_success (refine M.lit_t rfl ?_)); (fail_if_success (refine M.lit_f rfl ?_)); refine M.split_guard rfl rfl ?_ ?_ <;> (intro hg_; simp only [hg_]; try simp only [M.hgs] at hg_)))
    | (refine Mc.at_cmp _ rfl ?_; refine Mc.cmp_m rfl _ rfl _ _ _ rfl _ _ _ rfl rfl _ rfl ?_ ?_ <;> (intro hg_; try simp only [M.hgs] at hg_; first | (exfalso; first | omega | (simp at hg_; done)) | (go_simp)))
    | ((fail_if_success (refine M.lit_t rfl ?_)); (fail_if_success (refine M.lit_f rfl ?_)); refine M.split_guard rfl rfl ?_ ?_ <;> (intro hg_; simp only [hg_]; try simp only [M.hgs] at hg_)))
  all_goals
    go_ret
    refine ⟨congrArg (fun z => Ending.returned (Value.bool z)) ?_, HM.none.to_below⟩
    rw [← HR.out]
    have hl := HL.out; have hb := HB.out
    simp only [leadsK, hl, hb]
    clear hl hb HL HB HR HM CB
    first | (simp_all; done) | (simp_all; intros; omega) | (simp_all; rw [Bool.eq_iff_iff]; simp; done)
set_option maxHeartbeats 2000000 in
theorem rleads_any (k : K) (asid va : Int) (v0 : 0 ≤ va) (v1 : va < 18446744073709551616) (l0 : 1 ≤ k.level) (l1 : k.level ≤ 3) (w : World) : Calls Try.prog 45 #[.agg k.cells, .int .i64 asid, .int .u64 va] w fun x w' => x = .returned (.bool (leadsK k asid va)) ∧ Below w.heap.size w w' := by
  have CB := fun w => rbase_any va (k.level - 1) v0 v1 (by omega) (by omega) w
  have hlow : lowB va = decide (va < 281474976710656) := rfl
  have hw := wrap_pred (l := k.level) l0 l1
  generalize hr : leadsK k asid va = r
  have HR := Lib.hid hr; clear hr
  obtain ⟨asid', va', level, table⟩ := k
  dsimp only at CB l0 l1 hw
  have HM := Mem.nil w
  simp only [K.cells]
  generalize hb : baseV va (level - 1) = ba at CB
  have HL := Lib.hid hlow; clear hlow
  have HB := Lib.hid hb; clear hb
  go_enter Try.func45, Try.ntmps45
  go_wp2_with (first
    | (go_big_skip)
    | (go_at_call 44; (with_reducible refine (M.call_pure (CB) HM).mono ?_); clear HM; rintro e w_ ⟨rfl, HM⟩; dsimp only)
    | (refine M.at_reg 1 ?_; refine Mq.region_m (id := 1) HM (by kernel_rfl) (by kernel_rfl) ?_; (repeat (any_goals (first | go_big_quiet_skip | (refine Mq.qat_load 3 rfl ?_; go_big_quiet_want; first | (refine Mq.quiet_load_cell 3 _ rfl 0 _ _ _ _ _ rfl rfl rfl (by kernel_rfl) (by kernel_rfl) ?_; simp only [Act.put, List.setIfInBounds_toArray, List.set_cons_zero, List.set_cons_succ]; go_big_quiet_on)) | (refine Mq.qat_load 23 rfl ?_; go_big_quiet_want; first | (refine Mq.quiet_load_cell 23 _ rfl 0 _ _ _ _ _ rfl rfl rfl (by kernel_rfl) (by kernel_rfl) ?_; simp only [Act.put, List.setIfInBounds_toArray, List.set_cons_zero, List.set_cons_succ]; go_big_quiet_on)) | ((fail_if_success (refine Mq.qlit_t rfl ?_)); (fail_if_success (refine Mq.qlit_f rfl ?_)); refine Mq.qsplit rfl rfl ?_ ?_ <;> (intro hg_; simp only [hg_]; try simp only [M.hgs] at hg_)) | go_big_quiet_step (first | (go_at_call 44; with_reducible exact Mq.quiet_call_m (CB _)) | exact rfl)))); all_goals (refine Go.Proofs.Ytmmljeekonechaa.G.wpQuiet_end ?_; clear HM; intro w_ HM))
    | (refine M.at_mem rfl ?_; first | (refine M.at_load 3 rfl ?_; first | (refine M.load_cell_m HM rfl 3 _ rfl 0 _ _ _ _ _ rfl rfl rfl (by kernel_rfl) (by kernel_rfl) ?_; go_simp)) | (refine M.at_load 23 rfl ?_; first | (refine M.load_cell_m HM rfl 23 _ rfl 0 _ _ _ _ _ rfl rfl rfl (by kernel_rfl) (by kernel_rfl) ?_; go_simp)) | (refine M.at_box 45 rfl ?_; first | (refine M.box_m HM rfl rfl 45 _ rfl _ rfl ?_; clear HM; intro g_ w_ HM; go_simp)) | ((fail_if_success (refine M.lit_t rfl ?_)); (fail_if_success (refine M.lit_f rfl ?_)); refine M.split_guard rfl rfl ?_ ?_ <;> (intro hg_; simp only [hg_]; try simp only [M.hgs] at hg_)))
    | (refine Mc.at_cmp _ rfl ?_; refine Mc.cmp_m rfl _ rfl _ _ _ rfl _ _ _ rfl rfl _ rfl ?_ ?_ <;> (intro hg_; try simp only [M.hgs] at hg_; first | (exfalso; first | omega | (simp at hg_; done)) | (go_simp)))
    | ((fail_if_success (refine M.lit_t rfl ?_)); (fail_if_success (refine M.lit_f rfl ?_)); refine M.split_guard rfl rfl ?_ ?_ <;> (intro hg_; simp only [hg_]; try simp only [M.hgs] at hg_)))
  all_goals
    go_ret
    refine ⟨congrArg (fun z => Ending.returned (Value.bool z)) ?_, HM.none.to_below⟩
    rw [← HR.out]
    have hl := HL.out; have hb := HB.out
    simp only [leadsK, hl, hb]
    clear hl hb HL HB HR HM CB
    first | (simp_all; done) | (simp_all; intros; omega) | (simp_all; rw [Bool.eq_iff_iff]; simp; done)
set_option maxHeartbeats 2000000 in
theorem rright_any (k : K) (ho : k.ok) (w : World) : Calls Try.prog 27 #[.agg k.cells] w fun x w' => x = .returned (.bool (rightK k)) ∧ Below w.heap.size w w' := by
  obtain ⟨v0, v1, t0, t1⟩ := ho
  have hlow : lowB k.va = decide (k.va < 281474976710656) := rfl
  have CB := fun h0 h1 w => rbase_any k.va (k.level - 1) v0 v1 h0 h1 w
  have hwr := fun h0 h1 => wrap_pred (l := k.level) h0 h1
  have htm : k.table.tmod 4096 = k.table % 4096 := Int.tmod_eq_emod_of_nonneg t0
  generalize hr : rightK k = r
  have HR := Lib.hid hr; clear hr
  obtain ⟨asid, va, level, table⟩ := k
  dsimp only at CB v0 v1 t0 t1 hwr hlow htm
  have HM := Mem.nil w
  simp only [K.cells]
  generalize hb : baseV va (level - 1) = ba at CB
  have HL := Lib.hid hlow; have HB := Lib.hid hb; have HW := Lib.hid hwr; have HT := Lib.hid htm
  clear hlow hb hwr htm
  by_cases hlv : 1 ≤ level ∧ level ≤ 3
  · obtain ⟨l0, l1⟩ := hlv
    have hw := HW.out l0 l1
    have CB := fun w => CB (by omega) (by omega) w
    have htm := HT.out
    go_enter Try.func27, Try.ntmps27
    go_wp2_with (first
      | (go_big_skip)
      | (go_at_call 44; (with_reducible refine (M.call_pure (CB) HM).mono ?_); clear HM; rintro e w_ ⟨rfl, HM⟩; dsimp only)
      | (refine M.at_reg 3 ?_; refine Mq.region_m (id := 3) HM (by kernel_rfl) (by kernel_rfl) ?_; (repeat (any_goals (first | go_big_quiet_skip | (refine Mq.qat_load 3 rfl ?_; go_big_quiet_want; first | (refine Mq.quiet_load_cell 3 _ rfl 0 _ _ _ _ _ rfl rfl rfl (by kernel_rfl) (by kernel_rfl) ?_; simp only [Act.put, List.setIfInBounds_toArray, List.set_cons_zero, List.set_cons_succ]; go_big_quiet_on)) | (refine Mq.qat_load 23 rfl ?_; go_big_quiet_want; first | (refine Mq.quiet_load_cell 23 _ rfl 0 _ _ _ _ _ rfl rfl rfl (by kernel_rfl) (by kernel_rfl) ?_; simp only [Act.put, List.setIfInBounds_toArray, List.set_cons_zero, List.set_cons_succ]; go_big_quiet_on)) | ((fail_if_success (refine Mq.qlit_t rfl ?_)); (fail_if_success (refine Mq.qlit_f rfl ?_)); refine Mq.qsplit rfl rfl ?_ ?_ <;> (intro hg_; simp only [hg_]; try simp only [M.hgs] at hg_)) | go_big_quiet_step (first | (go_at_call 44; with_reducible exact Mq.quiet_call_m (CB _)) | exact rfl)))); all_goals (refine Go.Proofs.Ytmmljeekonechaa.G.wpQuiet_end ?_; clear HM; intro w_ HM))
      | (refine M.at_mem rfl ?_; first | (refine M.at_load 3 rfl ?_; first | (refine M.load_cell_m HM rfl 3 _ rfl 0 _ _ _ _ _ rfl rfl rfl (by kernel_rfl) (by kernel_rfl) ?_; go_simp)) | (refine M.at_load 23 rfl ?_; first | (refine M.load_cell_m HM rfl 23 _ rfl 0 _ _ _ _ _ rfl rfl rfl (by kernel_rfl) (by kernel_rfl) ?_; go_simp)) | (refine M.at_box 45 rfl ?_; first | (refine M.box_m HM rfl rfl 45 _ rfl _ rfl ?_; clear HM; intro g_ w_ HM; go_simp)) | ((fail_if_success (refine M.lit_t rfl ?_)); (fail_if_success (refine M.lit_f rfl ?_)); refine M.split_guard rfl rfl ?_ ?_ <;> (intro hg_; simp only [hg_]; try simp only [M.hgs] at hg_)))
      | (refine Mc.at_cmp _ rfl ?_; refine Mc.cmp_m rfl _ rfl _ _ _ rfl _ _ _ rfl rfl _ rfl ?_ ?_ <;> (intro hg_; try simp only [M.hgs] at hg_; first | (exfalso; first | omega | (simp at hg_; done)) | (go_simp)))
      | ((fail_if_success (refine M.lit_t rfl ?_)); (fail_if_success (refine M.lit_f rfl ?_)); refine M.split_guard rfl rfl ?_ ?_ <;> (intro hg_; simp only [hg_]; try simp only [M.hgs] at hg_)))
    all_goals
      go_ret
      refine ⟨congrArg (fun z => Ending.returned (Value.bool z)) ?_, HM.none.to_below⟩
      rw [← HR.out]
      have hl := HL.out; have hb := HB.out
      simp only [rightK, hl, hb]
      clear hl hb HL HB HR HM CB HT
      first | (simp_all; done) | (simp_all; omega) | (rw [Bool.eq_iff_iff]; simp; omega)
  · have hlv : level < 1 ∨ 3 < level := by omega
    have e0 : r = false := by
      rw [← HR.out]
      unfold rightK
      rw [decide_eq_false (by dsimp only; omega)]
      rfl
    subst e0
    clear CB
    rcases hlv with hlv | hlv
    all_goals
      go_enter Try.func27, Try.ntmps27
      go_wp2_with (first
        | (go_big_skip)
        | (refine M.at_mem rfl ?_; first | (refine M.at_load 3 rfl ?_; first | (refine M.load_cell_m HM rfl 3 _ rfl 0 _ _ _ _ _ rfl rfl rfl (by kernel_rfl) (by kernel_rfl) ?_; go_simp)) | (refine M.at_load 23 rfl ?_; first | (refine M.load_cell_m HM rfl 23 _ rfl 0 _ _ _ _ _ rfl rfl rfl (by kernel_rfl) (by kernel_rfl) ?_; go_simp)) | (refine M.at_box 45 rfl ?_; first | (refine M.box_m HM rfl rfl 45 _ rfl _ rfl ?_; clear HM; intro g_ w_ HM; go_simp)) | ((fail_if_success (refine M.lit_t rfl ?_)); (fail_if_success (refine M.lit_f rfl ?_)); refine M.split_guard rfl rfl ?_ ?_ <;> (intro hg_; simp only [hg_]; try simp only [M.hgs] at hg_)))
        | (refine Mc.at_cmp _ rfl ?_; refine Mc.cmp_m rfl _ rfl _ _ _ rfl _ _ _ rfl rfl _ rfl ?_ ?_ <;> (intro hg_; try simp only [M.hgs] at hg_; first | (exfalso; first | omega | (simp at hg_; done)) | (go_simp)))
        | ((fail_if_success (refine M.lit_t rfl ?_)); (fail_if_success (refine M.lit_f rfl ?_)); refine M.split_guard rfl rfl ?_ ?_ <;> (intro hg_; simp only [hg_]; try simp only [M.hgs] at hg_)))
      all_goals
        go_ret
        exact ⟨by first | rfl | simp, HM.none.to_below⟩
end Go.Proofs.Ytmmljeekonechaa.Za

namespace Go.Proofs.Ytmmljeekonechaa.Zb
open Go.RowKit Go.Proofs.Ytmmljeekonechaa.G Go.Proofs.Ytmmljeekonechaa.B Go.Proofs.Ytmmljeekonechaa.M Go.Proofs.Ytmmljeekonechaa.Mv Go.Proofs.Ytmmljeekonechaa.Sl Go.Proofs.Ytmmljeekonechaa.Sm Go.Proofs.Ytmmljeekonechaa.Sn Go.Proofs.Ytmmljeekonechaa.Ls Go.Proofs.Ytmmljeekonechaa.Lt Go.Proofs.Ytmmljeekonechaa.Za

set_option linter.unusedVariables false
set_option linter.unusedSimpArgs false
set_option maxRecDepth 100000
set_option maxHeartbeats 2000000 in
theorem index_any (l : List K) (e : K) (p : Option Addr) (n c : Nat) (A : Hp) (hV : LV 30 l p A) (hn : l.length = n) (h1 : n ≤ 1000) : Does Try.prog 39 #[.slice p n c, .agg e.cells] A
    fun r L => (∃ i : Int, r = .int .i64 i ∧ (0 ≤ i ↔ e ∈ l)) ∧ L = A := by
  intro w hH
  have HM := Mem.start hH
  have HV := Lib.hid hV; have HN := Lib.hid hn; clear hV hn
  go_enter Try.func39, Try.ntmps39
  go_wp2_with (first
    | (refine M.at_reg 4 ?_; refine Mq.region_m (id := 4) HM (by kernel_rfl) (by kernel_rfl) ?_; (repeat (any_goals (first | go_big_quiet_skip | (refine Mq.qat_load 30 rfl ?_; go_big_quiet_want; first | (refine Mq.quiet_load_row 30 _ rfl 0 _ _ _ rfl rfl (by kernel_rfl) (by kernel_rfl) ?_; simp only [Act.put, List.setIfInBounds_toArray, List.set_cons_zero, List.set_cons_succ]; go_big_quiet_on) | (refine Mq.quiet_load_row 30 _ rfl 1 _ _ _ rfl rfl (by kernel_rfl) (by kernel_rfl) ?_; simp only [Act.put, List.setIfInBounds_toArray, List.set_cons_zero, List.set_cons_succ]; go_big_quiet_on)) | ((fail_if_success (refine Mq.qlit_t rfl ?_)); (fail_if_success (refine Mq.qlit_f rfl ?_)); refine Mq.qsplit rfl rfl ?_ ?_ <;> (intro hg_; simp only [hg_]; try simp only [M.hgs] at hg_)) | go_big_quiet_step (first | exact rfl)))); all_goals (refine Go.Proofs.Ytmmljeekonechaa.G.wpQuiet_end ?_; clear HM; intro w_ HM))
    | (refine M.at_mem rfl ?_; first | (refine M.at_load 30 rfl ?_; first | (refine M.load_row_m HM rfl 30 _ rfl 0 _ _ _ rfl rfl (by kernel_rfl) (by kernel_rfl) ?_; go_simp) | (refine M.load_row_m HM rfl 30 _ rfl 1 _ _ _ rfl rfl (by kernel_rfl) (by kernel_rfl) ?_; go_simp)) | (refine M.at_box 30 rfl ?_; first | (refine M.box_m HM rfl rfl 30 _ rfl _ rfl ?_; clear HM; intro g_ w_ HM; go_simp)) | ((fail_if_success (refine M.lit_t rfl ?_)); (fail_if_success (refine M.lit_f rfl ?_)); refine M.split_guard rfl rfl ?_ ?_ <;> (intro hg_; simp only [hg_]; try simp only [M.hgs] at hg_)))
    | ((fail_if_success (refine M.lit_t rfl ?_)); (fail_if_success (refine M.lit_f rfl ?_)); refine M.split_guard rfl rfl ?_ ?_ <;> (intro hg_; simp only [hg_]; try simp only [M.hgs] at hg_)))
  go_loopw [8] (fun iv wr => ∃ k : Nat, k ≤ n ∧ iv = .int .i64 k ∧ (∀ j, j < k → ¬ l[j]? = some e) ∧ Mem w _ _ wr) (fun iv _ => n - (intOf iv).toNat)
  case atStart => exact ⟨0, by omega, rfl, fun j hj => absurd hj (Nat.not_lt_zero _), HM⟩
  case round =>
    clear HM
    obtain ⟨k, k19, rfl, hno, HM⟩ := hrel
    have hn1 : (n : Int) ≤ 1000 := by omega
    by_cases hlt : k < n
    · obtain ⟨x, hx⟩ : ∃ x, l[k]? = some x := ⟨_, List.getElem?_eq_getElem (by have := HN.out; omega)⟩
      rcases HV.out with ⟨-, hl, -⟩ | ⟨g, off, cur, rfl, hR, rfl⟩
      · rw [hl] at hx; simp at hx
      have hg := hR.get hx
      have hsz := hR.fit (List.getElem?_eq_some_iff.1 hx).1
      have HG := Lib.hid hg; have HOFF := Lib.hid hsz; clear hg hsz hR
      have hk1 : (k : Int) < n := by omega
      by_cases hxe : e = x
      · have hb : eqB .eql (decide (e = x)) = some true := by simp [eqB, hxe]
        have hm : e ∈ l := by rw [hxe]; exact List.mem_of_getElem? hx
        have HB := Lib.hid hb; have HX := Lib.hid hm; clear hb hm hx hxe hno
        go_wp2_with (first
          | (refine M.at_reg 4 ?_; refine Mq.region_m (id := 4) HM (by kernel_rfl) (by kernel_rfl) ?_; (repeat (any_goals (first | go_big_quiet_skip | (refine Sm.qat_indexAddr 22 rfl ?_; go_big_quiet_want; refine Sm.quiet_indexAddr_own 22 rfl 30 (by kernel_rfl) 4 (by kernel_rfl) g (off) (n) (c) rfl .i64 (k : Int) rfl (by omega) (by omega) (off + k * 4) (by omega) ?_; simp only [Act.put, List.setIfInBounds_toArray, List.set_cons_zero, List.set_cons_succ]; go_big_quiet_on) | (refine Ls.qat_bin .eql rfl ?_; go_big_quiet_want; refine Ls.quiet_eqR (T := K) rfl Za.eqK (e := e) (f := x) rfl rfl (b := true) (HB.out) ?_; simp only [Act.put, List.setIfInBounds_toArray, List.set_cons_zero, List.set_cons_succ]; go_big_quiet_on) | (refine Mq.qat_load 30 rfl ?_; go_big_quiet_want; first | (refine Sn.quiet_load_part 30 _ rfl 1 g (off + k * 4) 4 _ cur rfl rfl HOFF.out x.cells HG.out (by kernel_rfl) (by kernel_rfl) ?_; simp only [Act.put, List.setIfInBounds_toArray, List.set_cons_zero, List.set_cons_succ]; go_big_quiet_on) | (refine Mq.quiet_load_row 30 _ rfl 0 _ _ _ rfl rfl (by kernel_rfl) (by kernel_rfl) ?_; simp only [Act.put, List.setIfInBounds_toArray, List.set_cons_zero, List.set_cons_succ]; go_big_quiet_on)) | ((fail_if_success (refine Mq.qlit_t rfl ?_)); (fail_if_success (refine Mq.qlit_f rfl ?_)); refine Mq.qsplit rfl rfl ?_ ?_ <;> (intro hg_; simp only [hg_]; try simp only [M.hgs] at hg_)) | go_big_quiet_step (first | exact rfl)))); all_goals (refine Go.Proofs.Ytmmljeekonechaa.G.wpQuiet_end ?_; clear HM; intro w_ HM))
          | (refine M.at_mem rfl ?_; first | (refine M.at_load 30 rfl ?_; first | (refine M.load_row_m HM rfl 30 _ rfl 0 _ _ _ rfl rfl (by kernel_rfl) (by kernel_rfl) ?_; go_simp)) | (refine M.at_box 30 rfl ?_; first | (refine M.box_m HM rfl rfl 30 _ rfl _ rfl ?_; clear HM; intro g_ w_ HM; go_simp)) | ((fail_if_success (refine M.lit_t rfl ?_)); (fail_if_success (refine M.lit_f rfl ?_)); refine M.split_guard rfl rfl ?_ ?_ <;> (intro hg_; simp only [hg_]; try simp only [M.hgs] at hg_)))
          | (refine Mc.at_cmp _ rfl ?_; refine Mc.cmp_m rfl _ rfl _ _ _ rfl _ _ _ rfl rfl _ rfl ?_ ?_ <;> (intro hg_; try simp only [M.hgs] at hg_; first | (exfalso; first | omega | (simp at hg_; done)) | (go_simp)))
          | ((fail_if_success (refine M.lit_t rfl ?_)); (fail_if_success (refine M.lit_f rfl ?_)); refine M.split_guard rfl rfl ?_ ?_ <;> (intro hg_; simp only [hg_]; try simp only [M.hgs] at hg_)))
        all_goals
          go_ret
          exact ⟨_, _, rfl, ⟨⟨k, rfl, by constructor <;> intro _ <;> first | exact HX.out | omega⟩, rfl⟩, HM.drop (A := [_])⟩
      · have hb : eqB .eql (decide (e = x)) = some false := by simp [eqB, hxe]
        have hno' : ∀ j, j < k + 1 → ¬ l[j]? = some e := fun j hj => by
          by_cases ej : j = k
          · subst ej; rw [hx]; intro h; exact hxe (Option.some.inj h).symm
          · exact hno j (by omega)
        have HB := Lib.hid hb; have HX := Lib.hid hno'; clear hb hno' hx hxe hno
        go_wp2_with (first
          | (refine M.at_reg 4 ?_; refine Mq.region_m (id := 4) HM (by kernel_rfl) (by kernel_rfl) ?_; (repeat (any_goals (first | go_big_quiet_skip | (refine Sm.qat_indexAddr 22 rfl ?_; go_big_quiet_want; refine Sm.quiet_indexAddr_own 22 rfl 30 (by kernel_rfl) 4 (by kernel_rfl) g (off) (n) (c) rfl .i64 (k : Int) rfl (by omega) (by omega) (off + k * 4) (by omega) ?_; simp only [Act.put, List.setIfInBounds_toArray, List.set_cons_zero, List.set_cons_succ]; go_big_quiet_on) | (refine Ls.qat_bin .eql rfl ?_; go_big_quiet_want; refine Ls.quiet_eqR (T := K) rfl Za.eqK (e := e) (f := x) rfl rfl (b := false) (HB.out) ?_; simp only [Act.put, List.setIfInBounds_toArray, List.set_cons_zero, List.set_cons_succ]; go_big_quiet_on) | (refine Mq.qat_load 30 rfl ?_; go_big_quiet_want; first | (refine Sn.quiet_load_part 30 _ rfl 1 g (off + k * 4) 4 _ cur rfl rfl HOFF.out x.cells HG.out (by kernel_rfl) (by kernel_rfl) ?_; simp only [Act.put, List.setIfInBounds_toArray, List.set_cons_zero, List.set_cons_succ]; go_big_quiet_on) | (refine Mq.quiet_load_row 30 _ rfl 0 _ _ _ rfl rfl (by kernel_rfl) (by kernel_rfl) ?_; simp only [Act.put, List.setIfInBounds_toArray, List.set_cons_zero, List.set_cons_succ]; go_big_quiet_on)) | ((fail_if_success (refine Mq.qlit_t rfl ?_)); (fail_if_success (refine Mq.qlit_f rfl ?_)); refine Mq.qsplit rfl rfl ?_ ?_ <;> (intro hg_; simp only [hg_]; try simp only [M.hgs] at hg_)) | go_big_quiet_step (first | exact rfl)))); all_goals (refine Go.Proofs.Ytmmljeekonechaa.G.wpQuiet_end ?_; clear HM; intro w_ HM))
          | (refine M.at_mem rfl ?_; first | (refine M.at_load 30 rfl ?_; first | (refine M.load_row_m HM rfl 30 _ rfl 0 _ _ _ rfl rfl (by kernel_rfl) (by kernel_rfl) ?_; go_simp)) | (refine M.at_box 30 rfl ?_; first | (refine M.box_m HM rfl rfl 30 _ rfl _ rfl ?_; clear HM; intro g_ w_ HM; go_simp)) | ((fail_if_success (refine M.lit_t rfl ?_)); (fail_if_success (refine M.lit_f rfl ?_)); refine M.split_guard rfl rfl ?_ ?_ <;> (intro hg_; simp only [hg_]; try simp only [M.hgs] at hg_)))
          | (refine Mc.at_cmp _ rfl ?_; refine Mc.cmp_m rfl _ rfl _ _ _ rfl _ _ _ rfl rfl _ rfl ?_ ?_ <;> (intro hg_; try simp only [M.hgs] at hg_; first | (exfalso; first | omega | (simp at hg_; done)) | (go_simp)))
          | ((fail_if_success (refine M.lit_t rfl ?_)); (fail_if_success (refine M.lit_f rfl ?_)); refine M.split_guard rfl rfl ?_ ?_ <;> (intro hg_; simp only [hg_]; try simp only [M.hgs] at hg_)))
        all_goals
          go_roundw
          case rel => exact ⟨k + 1, by omega, by first | rfl | (refine congrArg (fun z => Value.int .i64 z) ?_; omega), HX.out, HM⟩
          case measure => simp [intOf]; omega
    · obtain rfl : k = n := by omega
      have hm : ¬ e ∈ l := fun h => by
        obtain ⟨j, hj⟩ := List.mem_iff_getElem?.1 h
        exact hno j (by rw [← HN.out]; exact (List.getElem?_eq_some_iff.1 hj).1) hj
      have HX := Lib.hid hm; clear hm hno
      go_wp2_with (first
        | (refine M.at_reg 4 ?_; refine Mq.region_m (id := 4) HM (by kernel_rfl) (by kernel_rfl) ?_; (repeat (any_goals (first | go_big_quiet_skip | (refine Mq.qat_load 30 rfl ?_; go_big_quiet_want; first | (refine Mq.quiet_load_row 30 _ rfl 0 _ _ _ rfl rfl (by kernel_rfl) (by kernel_rfl) ?_; simp only [Act.put, List.setIfInBounds_toArray, List.set_cons_zero, List.set_cons_succ]; go_big_quiet_on)) | ((fail_if_success (refine Mq.qlit_t rfl ?_)); (fail_if_success (refine Mq.qlit_f rfl ?_)); refine Mq.qsplit rfl rfl ?_ ?_ <;> (intro hg_; simp only [hg_]; try simp only [M.hgs] at hg_)) | go_big_quiet_step (first | exact rfl)))); all_goals (refine Go.Proofs.Ytmmljeekonechaa.G.wpQuiet_end ?_; clear HM; intro w_ HM))
        | (refine M.at_mem rfl ?_; first | (refine M.at_load 30 rfl ?_; first | (refine M.load_row_m HM rfl 30 _ rfl 0 _ _ _ rfl rfl (by kernel_rfl) (by kernel_rfl) ?_; go_simp)) | (refine M.at_box 30 rfl ?_; first | (refine M.box_m HM rfl rfl 30 _ rfl _ rfl ?_; clear HM; intro g_ w_ HM; go_simp)) | ((fail_if_success (refine M.lit_t rfl ?_)); (fail_if_success (refine M.lit_f rfl ?_)); refine M.split_guard rfl rfl ?_ ?_ <;> (intro hg_; simp only [hg_]; try simp only [M.hgs] at hg_)))
        | (refine Mc.at_cmp _ rfl ?_; refine Mc.cmp_m rfl _ rfl _ _ _ rfl _ _ _ rfl rfl _ rfl ?_ ?_ <;> (intro hg_; try simp only [M.hgs] at hg_; first | (exfalso; first | omega | (simp at hg_; done)) | (go_simp)))
        | ((fail_if_success (refine M.lit_t rfl ?_)); (fail_if_success (refine M.lit_f rfl ?_)); refine M.split_guard rfl rfl ?_ ?_ <;> (intro hg_; simp only [hg_]; try simp only [M.hgs] at hg_)))
      all_goals
        go_ret
        exact ⟨_, _, rfl, ⟨⟨-1, rfl, by constructor <;> intro h <;> first | exact absurd h HX.out | omega⟩, rfl⟩, HM.drop (A := [_])⟩
set_option maxHeartbeats 2000000 in
theorem contains_any (l : List K) (e : K) (p : Option Addr) (n c : Nat) (A : Hp) (hV : LV 30 l p A) (hn : l.length = n) (h1 : n ≤ 1000) : Does Try.prog 20 #[.slice p n c, .agg e.cells] A
    fun r L => r = .bool (decide (e ∈ l)) ∧ L = A := by
  have CI := index_any l e p n c A hV hn h1
  intro w hH
  have HM := Mem.start hH
  go_enter Try.func20, Try.ntmps20
  go_wp2_with (first
    | (go_at_call 39; have HM_ : M.Mem _ _ (([_]) ++ (A)) _ := HM; (with_reducible refine (M.Does.tail _ (CI) HM_).mono ?_); clear HM HM_; rintro e w_ ⟨v_, L_, rfl, ⟨⟨i_, rfl, hi_⟩, rfl⟩, HM⟩; (try simp only [List.cons_append, List.nil_append, List.append_nil] at HM); dsimp only)
    | (refine M.at_mem rfl ?_; first | (refine M.at_load 30 rfl ?_; first | (refine M.load_row_m HM rfl 30 _ rfl 0 _ _ _ rfl rfl (by kernel_rfl) (by kernel_rfl) ?_; go_simp)) | (refine M.at_box 30 rfl ?_; first | (refine M.box_m HM rfl rfl 30 _ rfl _ rfl ?_; clear HM; intro g_ w_ HM; go_simp)) | ((fail_if_success (refine M.lit_t rfl ?_)); (fail_if_success (refine M.lit_f rfl ?_)); refine M.split_guard rfl rfl ?_ ?_ <;> (intro hg_; simp only [hg_]; try simp only [M.hgs] at hg_)))
    | ((fail_if_success (refine M.lit_t rfl ?_)); (fail_if_success (refine M.lit_f rfl ?_)); refine M.split_guard rfl rfl ?_ ?_ <;> (intro hg_; simp only [hg_]; try simp only [M.hgs] at hg_)))
  all_goals
    go_ret
    refine ⟨_, _, rfl, ⟨congrArg Value.bool ?_, rfl⟩, HM.drop (A := [_])⟩
    first | rfl | (rw [decide_eq_decide]; done) | (rw [decide_eq_decide]; simpa using hi_)
theorem new_no (most : Int) (h : most < 1 ∨ 64 < most) (w : World) : Calls Try.prog 7 #[.int .i64 most] w fun x w' => x = .returned (.tuple #[.pointer none, .int .i64 12]) ∧ Below w.heap.size w w' := by
  have HM := Mem.nil w
  rcases h with h | h
  all_goals
    go_enter Try.func7, Try.ntmps7
    go_wp2_with (first
      | (go_big_skip)
      | (refine M.at_mem rfl ?_; first | (refine M.at_box 66 rfl ?_; first | (refine M.box_m HM rfl rfl 66 _ rfl _ rfl ?_; clear HM; intro g_ w_ HM; go_simp)) | ((fail_if_success (refine M.lit_t rfl ?_)); (fail_if_success (refine M.lit_f rfl ?_)); refine M.split_guard rfl rfl ?_ ?_ <;> (intro hg_; simp only [hg_]; try simp only [M.hgs] at hg_)))
      | (refine Mc.at_cmp _ rfl ?_; refine Mc.cmp_m rfl _ rfl _ _ _ rfl _ _ _ rfl rfl _ rfl ?_ ?_ <;> (intro hg_; try simp only [M.hgs] at hg_; first | (exfalso; first | omega | (simp at hg_; done)) | (go_simp)))
      | ((fail_if_success (refine M.lit_t rfl ?_)); (fail_if_success (refine M.lit_f rfl ?_)); refine M.split_guard rfl rfl ?_ ?_ <;> (intro hg_; simp only [hg_]; try simp only [M.hgs] at hg_)))
    all_goals
      go_ret2
      exact ⟨by first | rfl | simp, HM.none.to_below⟩
theorem new_ok (most : Int) (h1 : 1 ≤ most) (h2 : most ≤ 64) (w : World) : Calls Try.prog 7 #[.int .i64 most] w (Ans w [] fun v L => ∃ g, v = .tuple #[.pointer (some ⟨g, 0, none⟩), .int .i64 0] ∧ L = [(g, row #[.int .i64 most, .slice none 0 0] 66)]) := by
  have HM := Mem.nil w
  go_enter Try.func7, Try.ntmps7
  go_wp2_with (first
    | (go_big_skip)
    | (refine M.at_mem rfl ?_; first | (refine M.at_box 66 rfl ?_; first | (refine M.box_m HM rfl rfl 66 _ rfl _ rfl ?_; clear HM; intro g_ w_ HM; go_simp)) | ((fail_if_success (refine M.lit_t rfl ?_)); (fail_if_success (refine M.lit_f rfl ?_)); refine M.split_guard rfl rfl ?_ ?_ <;> (intro hg_; simp only [hg_]; try simp only [M.hgs] at hg_)))
    | (refine Mc.at_cmp _ rfl ?_; refine Mc.cmp_m rfl _ rfl _ _ _ rfl _ _ _ rfl rfl _ rfl ?_ ?_ <;> (intro hg_; try simp only [M.hgs] at hg_; first | (exfalso; first | omega | (simp at hg_; done)) | (go_simp)))
    | ((fail_if_success (refine M.lit_t rfl ?_)); (fail_if_success (refine M.lit_f rfl ?_)); refine M.split_guard rfl rfl ?_ ?_ <;> (intro hg_; simp only [hg_]; try simp only [M.hgs] at hg_)))
  all_goals
    go_ret2
    exact Ans.mk ⟨_, rfl, rfl⟩ HM
theorem weaken {P : Program} {f : FuncId} {args : Array Value} {A : Hp} {R1 R2 : Value → Hp → Prop} (C : Does P f args A R1) (h : ∀ v L, R1 v L → R2 v L) : Does P f args A R2 :=
  fun w hw => (C w hw).mono fun _ _ ⟨v, L', he, hr, hm⟩ => ⟨v, L', he, h _ _ hr, hm⟩
/-- A trail that holds marks, and its blocks. -/
def TR (most : Int) (l : List K) (gT : Nat) (T : Hp) : Prop := ∃ v A, LR 30 l v A ∧ T = (gT, row #[.int .i64 most, v] 66) :: A
theorem TR.nil (most : Int) (gT : Nat) : TR most [] gT [(gT, row #[.int .i64 most, .slice none 0 0] 66)] := ⟨_, [], LR.nil _, rfl⟩
/-- One more mark. -/
def addK (most : Int) (l : List K) (e : K) : List K := if e ∈ l then l else if (l.length : Int) + 1 ≤ most then l ++ [e] else (l ++ [e]).drop 1
set_option maxHeartbeats 2000000 in
theorem add_no {most : Int} {l : List K} {gT : Nat} {T : Hp} (HT : TR most l gT T) (e : K) (ho : e.ok) (hr : rightK e = false) : Does Try.prog 8 #[.pointer (some ⟨gT, 0, none⟩), .agg e.cells] T fun r L => r = .int .i64 10 ∧ L = T := by
  have CR := fun w => right_any e ho w
  rw [hr] at CR
  intro w hH
  have HM := Mem.start hH
  go_enter Try.func8, Try.ntmps8
  go_wp2_with (first
    | (go_big_skip)
    | (go_at_call 19; (with_reducible refine (M.call_pure (CR) HM).mono ?_); clear HM; rintro e w_ ⟨rfl, HM⟩; dsimp only)
    | (refine M.at_reg 3 ?_; refine Mq.region_tail_m (id := 3) 5 HM (by kernel_rfl) (by kernel_rfl) ?_; simp only [List.take_succ_cons, List.take_zero, List.drop_succ_cons, List.drop_zero]; (repeat (any_goals (first | go_big_quiet_skip | (refine Mq.qat_load 3 rfl ?_; go_big_quiet_want; first | (refine Mq.quiet_load_cell 3 _ rfl 0 _ _ _ _ _ rfl rfl rfl (by kernel_rfl) (by kernel_rfl) ?_; simp only [Act.put, List.setIfInBounds_toArray, List.set_cons_zero, List.set_cons_succ]; go_big_quiet_on) | (refine Mq.quiet_load_cell 3 _ rfl 1 _ _ _ _ _ rfl rfl rfl (by kernel_rfl) (by kernel_rfl) ?_; simp only [Act.put, List.setIfInBounds_toArray, List.set_cons_zero, List.set_cons_succ]; go_big_quiet_on)) | (refine Mq.qat_load 22 rfl ?_; go_big_quiet_want; first | (refine Mq.quiet_load_cell 22 _ rfl 0 _ _ _ _ _ rfl rfl rfl (by kernel_rfl) (by kernel_rfl) ?_; simp only [Act.put, List.setIfInBounds_toArray, List.set_cons_zero, List.set_cons_succ]; go_big_quiet_on) | (refine Mq.quiet_load_cell 22 _ rfl 1 _ _ _ _ _ rfl rfl rfl (by kernel_rfl) (by kernel_rfl) ?_; simp only [Act.put, List.setIfInBounds_toArray, List.set_cons_zero, List.set_cons_succ]; go_big_quiet_on)) | (refine Mq.qat_load 30 rfl ?_; go_big_quiet_want; first | (refine Mq.quiet_load_row 30 _ rfl 0 _ _ _ rfl rfl (by kernel_rfl) (by kernel_rfl) ?_; simp only [Act.put, List.setIfInBounds_toArray, List.set_cons_zero, List.set_cons_succ]; go_big_quiet_on) | (refine Mq.quiet_load_row 30 _ rfl 1 _ _ _ rfl rfl (by kernel_rfl) (by kernel_rfl) ?_; simp only [Act.put, List.setIfInBounds_toArray, List.set_cons_zero, List.set_cons_succ]; go_big_quiet_on)) | ((fail_if_success (refine Mq.qlit_t rfl ?_)); (fail_if_success (refine Mq.qlit_f rfl ?_)); refine Mq.qsplit rfl rfl ?_ ?_ <;> (intro hg_; simp only [hg_]; try simp only [M.hgs] at hg_)) | go_big_quiet_step (first | (go_at_call 19; with_reducible exact Mq.quiet_call_m (CR _)) | exact rfl)))); all_goals (refine Go.Proofs.Ytmmljeekonechaa.G.wpQuiet_end ?_; clear HM; intro w_ HM))
    | (refine M.at_reg 6 ?_; refine Mq.region_tail_m (id := 6) 17 HM (by kernel_rfl) (by kernel_rfl) ?_; simp only [List.take_succ_cons, List.take_zero, List.drop_succ_cons, List.drop_zero]; (repeat (any_goals (first | go_big_quiet_skip | (refine Mq.qat_load 3 rfl ?_; go_big_quiet_want; first | (refine Mq.quiet_load_cell 3 _ rfl 0 _ _ _ _ _ rfl rfl rfl (by kernel_rfl) (by kernel_rfl) ?_; simp only [Act.put, List.setIfInBounds_toArray, List.set_cons_zero, List.set_cons_succ]; go_big_quiet_on) | (refine Mq.quiet_load_cell 3 _ rfl 1 _ _ _ _ _ rfl rfl rfl (by kernel_rfl) (by kernel_rfl) ?_; simp only [Act.put, List.setIfInBounds_toArray, List.set_cons_zero, List.set_cons_succ]; go_big_quiet_on)) | (refine Mq.qat_load 22 rfl ?_; go_big_quiet_want; first | (refine Mq.quiet_load_cell 22 _ rfl 0 _ _ _ _ _ rfl rfl rfl (by kernel_rfl) (by kernel_rfl) ?_; simp only [Act.put, List.setIfInBounds_toArray, List.set_cons_zero, List.set_cons_succ]; go_big_quiet_on) | (refine Mq.quiet_load_cell 22 _ rfl 1 _ _ _ _ _ rfl rfl rfl (by kernel_rfl) (by kernel_rfl) ?_; simp only [Act.put, List.setIfInBounds_toArray, List.set_cons_zero, List.set_cons_succ]; go_big_quiet_on)) | (refine Mq.qat_load 30 rfl ?_; go_big_quiet_want; first | (refine Mq.quiet_load_row 30 _ rfl 0 _ _ _ rfl rfl (by kernel_rfl) (by kernel_rfl) ?_; simp only [Act.put, List.setIfInBounds_toArray, List.set_cons_zero, List.set_cons_succ]; go_big_quiet_on) | (refine Mq.quiet_load_row 30 _ rfl 1 _ _ _ rfl rfl (by kernel_rfl) (by kernel_rfl) ?_; simp only [Act.put, List.setIfInBounds_toArray, List.set_cons_zero, List.set_cons_succ]; go_big_quiet_on)) | ((fail_if_success (refine Mq.qlit_t rfl ?_)); (fail_if_success (refine Mq.qlit_f rfl ?_)); refine Mq.qsplit rfl rfl ?_ ?_ <;> (intro hg_; simp only [hg_]; try simp only [M.hgs] at hg_)) | go_big_quiet_step (first | (go_at_call 19; with_reducible exact Mq.quiet_call_m (CR _)) | exact rfl)))); all_goals (refine Go.Proofs.Ytmmljeekonechaa.G.wpQuiet_end ?_; clear HM; intro w_ HM))
    | (refine M.at_mem rfl ?_; first | (refine M.at_load 3 rfl ?_; first | (refine M.load_cell_m HM rfl 3 _ rfl 0 _ _ _ _ _ rfl rfl rfl (by kernel_rfl) (by kernel_rfl) ?_; go_simp) | (refine M.load_cell_m HM rfl 3 _ rfl 1 _ _ _ _ _ rfl rfl rfl (by kernel_rfl) (by kernel_rfl) ?_; go_simp)) | (refine M.at_load 22 rfl ?_; first | (refine M.load_cell_m HM rfl 22 _ rfl 0 _ _ _ _ _ rfl rfl rfl (by kernel_rfl) (by kernel_rfl) ?_; go_simp) | (refine M.load_cell_m HM rfl 22 _ rfl 1 _ _ _ _ _ rfl rfl rfl (by kernel_rfl) (by kernel_rfl) ?_; go_simp)) | (refine M.at_load 30 rfl ?_; first | (refine M.load_row_m HM rfl 30 _ rfl 0 _ _ _ rfl rfl (by kernel_rfl) (by kernel_rfl) ?_; go_simp) | (refine M.load_row_m HM rfl 30 _ rfl 1 _ _ _ rfl rfl (by kernel_rfl) (by kernel_rfl) ?_; go_simp)) | (refine M.at_store 22 rfl ?_; first | (refine M.store_cell_m HM rfl 22 _ _ rfl 0 _ _ _ _ _ rfl rfl rfl (by kernel_rfl) rfl (by simp) ?_; clear HM; intro w_ HM; (try simp only [M.nrm] at HM); go_simp) | (refine M.store_cell_m HM rfl 22 _ _ rfl 1 _ _ _ _ _ rfl rfl rfl (by kernel_rfl) rfl (by simp) ?_; clear HM; intro w_ HM; (try simp only [M.nrm] at HM); go_simp)) | (refine M.at_box 30 rfl ?_; first | (refine M.box_m HM rfl rfl 30 _ rfl _ rfl ?_; clear HM; intro g_ w_ HM; go_simp)) | ((fail_if_success (refine M.lit_t rfl ?_)); (fail_if_success (refine M.lit_f rfl ?_)); refine M.split_guard rfl rfl ?_ ?_ <;> (intro hg_; simp only [hg_]; try simp only [M.hgs] at hg_)))
    | ((fail_if_success (refine M.lit_t rfl ?_)); (fail_if_success (refine M.lit_f rfl ?_)); refine M.split_guard rfl rfl ?_ ?_ <;> (intro hg_; simp only [hg_]; try simp only [M.hgs] at hg_)))
  all_goals
    go_ret
    exact ⟨_, _, rfl, ⟨rfl, rfl⟩, HM.drop (A := [_])⟩
set_option maxHeartbeats 2000000 in
theorem add_has {most : Int} {l : List K} {gT : Nat} {T : Hp} (HT : TR most l gT T) (e : K) (ho : e.ok) (hr : rightK e = true) (h1 : l.length ≤ 900) (hi : e ∈ l) : Does Try.prog 8 #[.pointer (some ⟨gT, 0, none⟩), .agg e.cells] T fun r L => r = .int .i64 0 ∧ L = T := by
  have CR := fun w => right_any e ho w
  rw [hr] at CR
  obtain ⟨v, A, hA, rfl⟩ := HT
  obtain ⟨p, c, rfl, hc, hV⟩ := hA.read
  have CC := contains_any l e p l.length c A hV rfl (by omega)
  rw [decide_eq_true hi] at CC
  intro w hH
  have HM := Mem.start hH
  go_enter Try.func8, Try.ntmps8
  go_wp2_with (first
    | (go_big_skip)
    | (go_at_call 19; (with_reducible refine (M.call_pure (CR) HM).mono ?_); clear HM; rintro e w_ ⟨rfl, HM⟩; dsimp only)
    | (refine M.at_reg 3 ?_; refine Mq.region_m (id := 3) HM (by kernel_rfl) (by kernel_rfl) ?_; (repeat (any_goals (first | go_big_quiet_skip | (refine Mq.qat_load 3 rfl ?_; go_big_quiet_want; first | (refine Mq.quiet_load_cell 3 _ rfl 0 _ _ _ _ _ rfl rfl rfl (by kernel_rfl) (by kernel_rfl) ?_; simp only [Act.put, List.setIfInBounds_toArray, List.set_cons_zero, List.set_cons_succ]; go_big_quiet_on) | (refine Mq.quiet_load_cell 3 _ rfl 1 _ _ _ _ _ rfl rfl rfl (by kernel_rfl) (by kernel_rfl) ?_; simp only [Act.put, List.setIfInBounds_toArray, List.set_cons_zero, List.set_cons_succ]; go_big_quiet_on)) | (refine Mq.qat_load 22 rfl ?_; go_big_quiet_want; first | (refine Mq.quiet_load_cell 22 _ rfl 0 _ _ _ _ _ rfl rfl rfl (by kernel_rfl) (by kernel_rfl) ?_; simp only [Act.put, List.setIfInBounds_toArray, List.set_cons_zero, List.set_cons_succ]; go_big_quiet_on) | (refine Mq.quiet_load_cell 22 _ rfl 1 _ _ _ _ _ rfl rfl rfl (by kernel_rfl) (by kernel_rfl) ?_; simp only [Act.put, List.setIfInBounds_toArray, List.set_cons_zero, List.set_cons_succ]; go_big_quiet_on)) | (refine Mq.qat_load 30 rfl ?_; go_big_quiet_want; first | (refine Mq.quiet_load_row 30 _ rfl 0 _ _ _ rfl rfl (by kernel_rfl) (by kernel_rfl) ?_; simp only [Act.put, List.setIfInBounds_toArray, List.set_cons_zero, List.set_cons_succ]; go_big_quiet_on) | (refine Mq.quiet_load_row 30 _ rfl 1 _ _ _ rfl rfl (by kernel_rfl) (by kernel_rfl) ?_; simp only [Act.put, List.setIfInBounds_toArray, List.set_cons_zero, List.set_cons_succ]; go_big_quiet_on)) | ((fail_if_success (refine Mq.qlit_t rfl ?_)); (fail_if_success (refine Mq.qlit_f rfl ?_)); refine Mq.qsplit rfl rfl ?_ ?_ <;> (intro hg_; simp only [hg_]; try simp only [M.hgs] at hg_)) | go_big_quiet_step (first | (go_at_call 19; with_reducible exact Mq.quiet_call_m (CR _)) | (go_at_call 20; exact Sm.quiet_does (CC) (List.perm_append_comm (l₁ := [_, _]) (l₂ := A))) | exact rfl)))); all_goals (refine Go.Proofs.Ytmmljeekonechaa.G.wpQuiet_end ?_; clear HM; intro w_ HM))
    | (refine M.at_reg 6 ?_; refine Mq.region_tail_m (id := 6) 17 HM (by kernel_rfl) (by kernel_rfl) ?_; simp only [List.take_succ_cons, List.take_zero, List.drop_succ_cons, List.drop_zero]; (repeat (any_goals (first | go_big_quiet_skip | (refine Mq.qat_load 3 rfl ?_; go_big_quiet_want; first | (refine Mq.quiet_load_cell 3 _ rfl 0 _ _ _ _ _ rfl rfl rfl (by kernel_rfl) (by kernel_rfl) ?_; simp only [Act.put, List.setIfInBounds_toArray, List.set_cons_zero, List.set_cons_succ]; go_big_quiet_on) | (refine Mq.quiet_load_cell 3 _ rfl 1 _ _ _ _ _ rfl rfl rfl (by kernel_rfl) (by kernel_rfl) ?_; simp only [Act.put, List.setIfInBounds_toArray, List.set_cons_zero, List.set_cons_succ]; go_big_quiet_on)) | (refine Mq.qat_load 22 rfl ?_; go_big_quiet_want; first | (refine Mq.quiet_load_cell 22 _ rfl 0 _ _ _ _ _ rfl rfl rfl (by kernel_rfl) (by kernel_rfl) ?_; simp only [Act.put, List.setIfInBounds_toArray, List.set_cons_zero, List.set_cons_succ]; go_big_quiet_on) | (refine Mq.quiet_load_cell 22 _ rfl 1 _ _ _ _ _ rfl rfl rfl (by kernel_rfl) (by kernel_rfl) ?_; simp only [Act.put, List.setIfInBounds_toArray, List.set_cons_zero, List.set_cons_succ]; go_big_quiet_on)) | (refine Mq.qat_load 30 rfl ?_; go_big_quiet_want; first | (refine Mq.quiet_load_row 30 _ rfl 0 _ _ _ rfl rfl (by kernel_rfl) (by kernel_rfl) ?_; simp only [Act.put, List.setIfInBounds_toArray, List.set_cons_zero, List.set_cons_succ]; go_big_quiet_on) | (refine Mq.quiet_load_row 30 _ rfl 1 _ _ _ rfl rfl (by kernel_rfl) (by kernel_rfl) ?_; simp only [Act.put, List.setIfInBounds_toArray, List.set_cons_zero, List.set_cons_succ]; go_big_quiet_on)) | ((fail_if_success (refine Mq.qlit_t rfl ?_)); (fail_if_success (refine Mq.qlit_f rfl ?_)); refine Mq.qsplit rfl rfl ?_ ?_ <;> (intro hg_; simp only [hg_]; try simp only [M.hgs] at hg_)) | go_big_quiet_step (first | (go_at_call 19; with_reducible exact Mq.quiet_call_m (CR _)) | (go_at_call 20; exact Sm.quiet_does (CC) (List.perm_append_comm (l₁ := [_, _]) (l₂ := A))) | exact rfl)))); all_goals (refine Go.Proofs.Ytmmljeekonechaa.G.wpQuiet_end ?_; clear HM; intro w_ HM))
    | (refine M.at_mem rfl ?_; first | (refine M.at_load 3 rfl ?_; first | (refine M.load_cell_m HM rfl 3 _ rfl 0 _ _ _ _ _ rfl rfl rfl (by kernel_rfl) (by kernel_rfl) ?_; go_simp) | (refine M.load_cell_m HM rfl 3 _ rfl 1 _ _ _ _ _ rfl rfl rfl (by kernel_rfl) (by kernel_rfl) ?_; go_simp)) | (refine M.at_load 22 rfl ?_; first | (refine M.load_cell_m HM rfl 22 _ rfl 0 _ _ _ _ _ rfl rfl rfl (by kernel_rfl) (by kernel_rfl) ?_; go_simp) | (refine M.load_cell_m HM rfl 22 _ rfl 1 _ _ _ _ _ rfl rfl rfl (by kernel_rfl) (by kernel_rfl) ?_; go_simp)) | (refine M.at_load 30 rfl ?_; first | (refine M.load_row_m HM rfl 30 _ rfl 0 _ _ _ rfl rfl (by kernel_rfl) (by kernel_rfl) ?_; go_simp) | (refine M.load_row_m HM rfl 30 _ rfl 1 _ _ _ rfl rfl (by kernel_rfl) (by kernel_rfl) ?_; go_simp)) | (refine M.at_store 22 rfl ?_; first | (refine M.store_cell_m HM rfl 22 _ _ rfl 0 _ _ _ _ _ rfl rfl rfl (by kernel_rfl) rfl (by simp) ?_; clear HM; intro w_ HM; (try simp only [M.nrm] at HM); go_simp) | (refine M.store_cell_m HM rfl 22 _ _ rfl 1 _ _ _ _ _ rfl rfl rfl (by kernel_rfl) rfl (by simp) ?_; clear HM; intro w_ HM; (try simp only [M.nrm] at HM); go_simp)) | (refine M.at_box 30 rfl ?_; first | (refine M.box_m HM rfl rfl 30 _ rfl _ rfl ?_; clear HM; intro g_ w_ HM; go_simp)) | ((fail_if_success (refine M.lit_t rfl ?_)); (fail_if_success (refine M.lit_f rfl ?_)); refine M.split_guard rfl rfl ?_ ?_ <;> (intro hg_; simp only [hg_]; try simp only [M.hgs] at hg_)))
    | ((fail_if_success (refine M.lit_t rfl ?_)); (fail_if_success (refine M.lit_f rfl ?_)); refine M.split_guard rfl rfl ?_ ?_ <;> (intro hg_; simp only [hg_]; try simp only [M.hgs] at hg_)))
  all_goals
    go_ret
    exact ⟨_, _, rfl, ⟨rfl, rfl⟩, HM.drop (A := [_])⟩
end Go.Proofs.Ytmmljeekonechaa.Zb
