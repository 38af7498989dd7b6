/- Faults, leaves and descriptors: compared field by field. -/
/- Walks: from, From, Walk, Trace, Out: what each call answers. -/
import Derived.Test.YtfnmdelkdombbaaProg
import Derived.Test.YtfnmdelkdombbaaLs
import Derived.Test.YtfnmdelkdombbaaEq
import Derived.Test.YtfnmdelkdombbaaYj
namespace Go.Proofs.Ytfnmdelkdombbaa.Yl
open Go.RowKit Go.Proofs.Ytfnmdelkdombbaa.G Go.Proofs.Ytfnmdelkdombbaa.B Go.Proofs.Ytfnmdelkdombbaa.M Go.Proofs.Ytfnmdelkdombbaa.Mv Go.Proofs.Ytfnmdelkdombbaa.Sl Go.Proofs.Ytfnmdelkdombbaa.Sm Go.Proofs.Ytfnmdelkdombbaa.Sn Go.Proofs.Ytfnmdelkdombbaa.Ls Go.Proofs.Ytfnmdelkdombbaa.Eq

set_option linter.unusedVariables false
set_option linter.unusedSimpArgs false
set_option maxRecDepth 100000
/-- A fault. -/
structure F2 where
  kind : Int
  level : Int
deriving DecidableEq
def F2.cells (x : F2) : Array Value := #[.int .i64 x.kind, .int .i64 x.level]
instance : Rec F2 2 := ⟨F2.cells, fun _ => rfl, fun _ => by simp [F2.cells, Value.oneCell'], by decide⟩
def D7.cells (d : D7) : Array Value := #[.int .i64 d.kind, .int .u64 d.out, .bool d.user, .bool d.write, .bool d.exec, .bool d.used, .int .i64 d.attr]
instance : Rec D7 7 := ⟨D7.cells, fun _ => rfl, fun _ => by simp [D7.cells, Value.oneCell'], by decide⟩
/-- A leaf. -/
structure L8 where
  lev : Int
  kind : Int
  out : Int
  user : Bool
  write : Bool
  exec : Bool
  used : Bool
  attr : Int
deriving DecidableEq
def L8.cells (d : L8) : Array Value := #[.int .i64 d.lev, .int .i64 d.kind, .int .u64 d.out, .bool d.user, .bool d.write, .bool d.exec, .bool d.used, .int .i64 d.attr]
instance : Rec L8 8 := ⟨L8.cells, fun _ => rfl, fun _ => by simp [L8.cells, Value.oneCell'], by decide⟩
def l8 (l : Int) (d : D7) : L8 := ⟨l, d.kind, d.out, d.user, d.write, d.exec, d.used, d.attr⟩
theorem l8_eq (l m : Int) (d e : D7) : l8 l d = l8 m e ↔ l = m ∧ d = e := by
  cases d; cases e
  simp [l8]
theorem eqF_and (e f : F2) : decide (e = f) = (decide (e.kind = f.kind) && decide (e.level = f.level)) := by
  cases e; cases f
  rw [Bool.eq_iff_iff]
  simp
set_option maxHeartbeats 2000000 in
theorem eqF : EqR Try.prog 37 F2 := by
  refine ⟨by kernel_rfl, fun e f w => ?_⟩
  rw [eqF_and]
  simp [go_sem, Rec.cells, F2.cells]
  by_cases h : e.kind = f.kind
  case neg => simp [h]
  rw [if_pos h, decide_eq_true h, Bool.true_and]; clear h
  by_cases h : e.level = f.level <;> simp [h]
theorem eqF2_and (e f : F2) : decide (e = f) = (decide (e.kind = f.kind) && decide (e.level = f.level)) := by
  cases e; cases f
  rw [Bool.eq_iff_iff]
  simp
set_option maxHeartbeats 2000000 in
theorem eqF2 : EqR Try.prog 41 F2 := by
  refine ⟨by kernel_rfl, fun e f w => ?_⟩
  rw [eqF2_and]
  simp [go_sem, Rec.cells, F2.cells]
  by_cases h : e.kind = f.kind
  case neg => simp [h]
  rw [if_pos h, decide_eq_true h, Bool.true_and]; clear h
  by_cases h : e.level = f.level <;> simp [h]
theorem eqD_and (e f : D7) : decide (e = f) = (decide (e.kind = f.kind) && (decide (e.out = f.out) && (decide (e.user = f.user) && (decide (e.write = f.write) && (decide (e.exec = f.exec) && (decide (e.used = f.used) && decide (e.attr = f.attr))))))) := by
  cases e; cases f
  rw [Bool.eq_iff_iff]
  simp
set_option maxHeartbeats 2000000 in
theorem eqD : EqR Try.prog 33 D7 := by
  refine ⟨by kernel_rfl, fun e f w => ?_⟩
  rw [eqD_and]
  simp [go_sem, Rec.cells, D7.cells]
  by_cases h : e.kind = f.kind
  case neg => simp [h]
  rw [if_pos h, decide_eq_true h, Bool.true_and]; clear h
  by_cases h : e.out = f.out
  case neg => simp [h]
  rw [if_pos h, decide_eq_true h, Bool.true_and]; clear h
  by_cases h : e.user = f.user
  case neg => simp [h]
  rw [if_pos h, decide_eq_true h, Bool.true_and]; clear h
  by_cases h : e.write = f.write
  case neg => simp [h]
  rw [if_pos h, decide_eq_true h, Bool.true_and]; clear h
  by_cases h : e.exec = f.exec
  case neg => simp [h]
  rw [if_pos h, decide_eq_true h, Bool.true_and]; clear h
  by_cases h : e.used = f.used
  case neg => simp [h]
  rw [if_pos h, decide_eq_true h, Bool.true_and]; clear h
  by_cases h : e.attr = f.attr <;> simp [h]
theorem eqD2_and (e f : D7) : decide (e = f) = (decide (e.kind = f.kind) && (decide (e.out = f.out) && (decide (e.user = f.user) && (decide (e.write = f.write) && (decide (e.exec = f.exec) && (decide (e.used = f.used) && decide (e.attr = f.attr))))))) := by
  cases e; cases f
  rw [Bool.eq_iff_iff]
  simp
set_option maxHeartbeats 2000000 in
theorem eqD2 : EqR Try.prog 40 D7 := by
  refine ⟨by kernel_rfl, fun e f w => ?_⟩
  rw [eqD2_and]
  simp [go_sem, Rec.cells, D7.cells]
  by_cases h : e.kind = f.kind
  case neg => simp [h]
  rw [if_pos h, decide_eq_true h, Bool.true_and]; clear h
  by_cases h : e.out = f.out
  case neg => simp [h]
  rw [if_pos h, decide_eq_true h, Bool.true_and]; clear h
  by_cases h : e.user = f.user
  case neg => simp [h]
  rw [if_pos h, decide_eq_true h, Bool.true_and]; clear h
  by_cases h : e.write = f.write
  case neg => simp [h]
  rw [if_pos h, decide_eq_true h, Bool.true_and]; clear h
  by_cases h : e.exec = f.exec
  case neg => simp [h]
  rw [if_pos h, decide_eq_true h, Bool.true_and]; clear h
  by_cases h : e.used = f.used
  case neg => simp [h]
  rw [if_pos h, decide_eq_true h, Bool.true_and]; clear h
  by_cases h : e.attr = f.attr <;> simp [h]
theorem eqL_and (e f : L8) : decide (e = f) = (decide (e.lev = f.lev) && (decide (e.kind = f.kind) && (decide (e.out = f.out) && (decide (e.user = f.user) && (decide (e.write = f.write) && (decide (e.exec = f.exec) && (decide (e.used = f.used) && decide (e.attr = f.attr)))))))) := by
  cases e; cases f
  rw [Bool.eq_iff_iff]
  simp
set_option maxHeartbeats 2000000 in
theorem eqL : EqR Try.prog 35 L8 := by
  refine ⟨by kernel_rfl, fun e f w => ?_⟩
  rw [eqL_and]
  simp [go_sem, Rec.cells, L8.cells]
  by_cases h : e.lev = f.lev
  case neg => simp [h]
  rw [if_pos h, decide_eq_true h, Bool.true_and]; clear h
  by_cases h : e.kind = f.kind
  case neg => simp [h]
  rw [if_pos h, decide_eq_true h, Bool.true_and]; clear h
  by_cases h : e.out = f.out
  case neg => simp [h]
  rw [if_pos h, decide_eq_true h, Bool.true_and]; clear h
  by_cases h : e.user = f.user
  case neg => simp [h]
  rw [if_pos h, decide_eq_true h, Bool.true_and]; clear h
  by_cases h : e.write = f.write
  case neg => simp [h]
  rw [if_pos h, decide_eq_true h, Bool.true_and]; clear h
  by_cases h : e.exec = f.exec
  case neg => simp [h]
  rw [if_pos h, decide_eq_true h, Bool.true_and]; clear h
  by_cases h : e.used = f.used
  case neg => simp [h]
  rw [if_pos h, decide_eq_true h, Bool.true_and]; clear h
  by_cases h : e.attr = f.attr <;> simp [h]
end Go.Proofs.Ytfnmdelkdombbaa.Yl

namespace Go.Proofs.Ytfnmdelkdombbaa.Yk
open Go.RowKit Go.Proofs.Ytfnmdelkdombbaa.G Go.Proofs.Ytfnmdelkdombbaa.B Go.Proofs.Ytfnmdelkdombbaa.M Go.Proofs.Ytfnmdelkdombbaa.Mv Go.Proofs.Ytfnmdelkdombbaa.Sl Go.Proofs.Ytfnmdelkdombbaa.Sm Go.Proofs.Ytfnmdelkdombbaa.Sn Go.Proofs.Ytfnmdelkdombbaa.Ma Go.Proofs.Ytfnmdelkdombbaa.Dr Go.Proofs.Ytfnmdelkdombbaa.Ds Go.Proofs.Ytfnmdelkdombbaa.Tp Go.Proofs.Ytfnmdelkdombbaa.Ya Go.Proofs.Ytfnmdelkdombbaa.Yb Go.Proofs.Ytfnmdelkdombbaa.Yc Go.Proofs.Ytfnmdelkdombbaa.Ls Go.Proofs.Ytfnmdelkdombbaa.Yd Go.Proofs.Ytfnmdelkdombbaa.Yf Go.Proofs.Ytfnmdelkdombbaa.Yg Go.Proofs.Ytfnmdelkdombbaa.Yh Go.Proofs.Ytfnmdelkdombbaa.Yi Go.Proofs.Ytfnmdelkdombbaa.Yj Go.Proofs.Ytfnmdelkdombbaa.Yl Go.Proofs.Ytfnmdelkdombbaa.Eq

set_option linter.unusedVariables false
set_option linter.unusedSimpArgs false
set_option maxRecDepth 100000
/-- What a walk answers: its leaf and its fault. -/
def leafV (l : Int) (d : D7) : Value := .agg #[.int .i64 l, .int .i64 d.kind, .int .u64 d.out, .bool d.user, .bool d.write, .bool d.exec, .bool d.used, .int .i64 d.attr]
def resV (r : Res) : Value := .tuple #[leafV r.lev r.d, fltV r.fk r.fl]
theorem lowB_is (va : Int) : lowB va = decide (va < 281474976710656) := rfl
set_option maxHeartbeats 4000000 in
theorem from_bad {size : Int} {f : Int → Int} {gM gW : Nat} {st : List W2} {L : Hp} (hW : WK size f gM gW st L) (table level va : Int) (t0 : 0 ≤ table) (t1 : table < 18446744073709551616) (v0 : 0 ≤ va) (v1 : va < 18446744073709551616) (h : ¬ (0 ≤ level ∧ level ≤ 3 ∧ table % 4096 = 0 ∧ va < 281474976710656)) :
    Does Try.prog 24 #[.pointer (some ⟨gW, 0, none⟩), .int .i64 level, .int .u64 table, .int .u64 va] L fun r L' => r = resV ⟨0, zero, 1, 0, []⟩ ∧ WK size f gM gW st L' := by
  have CA := fun w => aligned_any table 12 t0 t1 w
  have CL := fun w => vlow_any va v0 w
  rw [al12] at CA
  rw [lowB_is] at CL
  have key : level < 0 ∨ (0 ≤ level ∧ 3 < level) ∨ ((0 ≤ level ∧ level ≤ 3) ∧ ¬ table % 4096 = 0) ∨ ((0 ≤ level ∧ level ≤ 3) ∧ table % 4096 = 0 ∧ ¬ va < 281474976710656) := by omega
  clear h
  simp only [resV, leafV, fltV, zero]
  intro w hH
  have HM := Mem.start hH
  rcases key with h | ⟨h, h2⟩ | ⟨⟨h, h2⟩, h3⟩ | ⟨⟨h, h2⟩, h3, h4⟩
  rotate_left 2
  · rw [decide_eq_false h3] at CA
    clear h3
    go_enter Try.func24, Try.ntmps24
    go_wp2_with (first
      | (go_big_skip)
      | (go_at_call 38; (with_reducible refine (M.call_pure (CA) HM).mono ?_); clear HM; rintro e w_ ⟨rfl, HM⟩; dsimp only)
      | (refine M.at_mem rfl ?_; first | (refine M.at_load 3 rfl ?_; first | (refine M.load_cell_m HM rfl 3 _ rfl 0 _ _ _ _ _ rfl rfl rfl (by kernel_rfl) (by kernel_rfl) ?_; go_simp) | (refine M.load_cell_m HM rfl 3 _ rfl 1 _ _ _ _ _ rfl rfl rfl (by kernel_rfl) (by kernel_rfl) ?_; go_simp)) | (refine M.at_load 22 rfl ?_; first | (refine M.load_cell_m HM rfl 22 _ rfl 0 _ _ _ _ _ rfl rfl rfl (by kernel_rfl) (by kernel_rfl) ?_; go_simp) | (refine M.load_cell_m HM rfl 22 _ rfl 1 _ _ _ _ _ rfl rfl rfl (by kernel_rfl) (by kernel_rfl) ?_; go_simp)) | (refine M.at_load 33 rfl ?_; first | (refine M.load_row_m HM rfl 33 _ rfl 0 _ _ _ rfl rfl (by kernel_rfl) (by kernel_rfl) ?_; go_simp) | (refine M.load_row_m HM rfl 33 _ rfl 1 _ _ _ rfl rfl (by kernel_rfl) (by kernel_rfl) ?_; go_simp)) | (refine M.at_load 37 rfl ?_; first | (refine M.load_row_m HM rfl 37 _ rfl 0 _ _ _ rfl rfl (by kernel_rfl) (by kernel_rfl) ?_; go_simp) | (refine M.load_row_m HM rfl 37 _ rfl 1 _ _ _ rfl rfl (by kernel_rfl) (by kernel_rfl) ?_; go_simp)) | (refine M.at_store 33 rfl ?_; first | (refine M.store_row_m HM rfl 33 _ _ rfl 0 _ _ _ _ rfl rfl rfl (by kernel_rfl) rfl (by simp [Value.oneCell']) ?_; clear HM; intro w_ HM; (try simp only [M.nrm] at HM); go_simp) | (refine M.store_row_m HM rfl 33 _ _ rfl 1 _ _ _ _ rfl rfl rfl (by kernel_rfl) rfl (by simp [Value.oneCell']) ?_; clear HM; intro w_ HM; (try simp only [M.nrm] at HM); go_simp)) | (refine M.at_store 35 rfl ?_; first | (refine M.store_row_m HM rfl 35 _ _ rfl 0 _ _ _ _ rfl rfl rfl (by kernel_rfl) rfl (by simp [Value.oneCell']) ?_; clear HM; intro w_ HM; (try simp only [M.nrm] at HM); go_simp) | (refine M.store_row_m HM rfl 35 _ _ rfl 1 _ _ _ _ rfl rfl rfl (by kernel_rfl) rfl (by simp [Value.oneCell']) ?_; clear HM; intro w_ HM; (try simp only [M.nrm] at HM); go_simp)) | (refine M.at_store 37 rfl ?_; first | (refine M.store_row_m HM rfl 37 _ _ rfl 0 _ _ _ _ rfl rfl rfl (by kernel_rfl) rfl (by simp [Value.oneCell']) ?_; clear HM; intro w_ HM; (try simp only [M.nrm] at HM); go_simp) | (refine M.store_row_m HM rfl 37 _ _ rfl 1 _ _ _ _ rfl rfl rfl (by kernel_rfl) rfl (by simp [Value.oneCell']) ?_; clear HM; intro w_ HM; (try simp only [M.nrm] at HM); go_simp)) | (refine M.at_alloc 33 rfl ?_; first | (refine M.alloc_m HM rfl rfl 33 rfl (.agg #[(.int .i64 0), (.int .u64 0), (.bool false), (.bool false), (.bool false), (.bool false), (.int .i64 0)]) (by kernel_rfl) #[(.int .i64 0), (.int .u64 0), (.bool false), (.bool false), (.bool false), (.bool false), (.int .i64 0)] rfl ?_; clear HM; intro g_ w_ HM; go_simp)) | (refine M.at_alloc 35 rfl ?_; first | (refine M.alloc_m HM rfl rfl 35 rfl (.agg #[(.int .i64 0), (.int .i64 0), (.int .u64 0), (.bool false), (.bool false), (.bool false), (.bool false), (.int .i64 0)]) (by kernel_rfl) #[(.int .i64 0), (.int .i64 0), (.int .u64 0), (.bool false), (.bool false), (.bool false), (.bool false), (.int .i64 0)] rfl ?_; clear HM; intro g_ w_ HM; go_simp)) | (refine M.at_alloc 37 rfl ?_; first | (refine M.alloc_m HM rfl rfl 37 rfl (.agg #[(.int .i64 0), (.int .i64 0)]) (by kernel_rfl) #[(.int .i64 0), (.int .i64 0)] rfl ?_; clear HM; intro g_ w_ HM; go_simp)) | ((fail_if_success (refine M.lit_t rfl ?_)); (fail_if_success (refine M.lit_f rfl ?_)); refine M.split_guard rfl rfl ?_ ?_ <;> (intro hg_; simp only [hg_]; try simp only [M.hgs] at hg_)))
      | (refine Mc.at_cmp _ rfl ?_; refine Mc.cmp_m rfl _ rfl _ _ _ rfl _ _ _ rfl rfl _ rfl ?_ ?_ <;> (intro hg_; try simp only [M.hgs] at hg_; first | (exfalso; first | omega | (simp at hg_; done)) | (go_simp)))
      | ((fail_if_success (refine M.lit_t rfl ?_)); (fail_if_success (refine M.lit_f rfl ?_)); refine M.split_guard rfl rfl ?_ ?_ <;> (intro hg_; simp only [hg_]; try simp only [M.hgs] at hg_)))
    all_goals
      refine bodyPost_ret (res_cc HM rfl _ 1 _ _ _ rfl 0 _ _ _ rfl rfl rfl (by kernel_rfl) (by kernel_rfl) (by kernel_rfl) (by kernel_rfl)) rfl ?_
      first | exact ⟨_, _, rfl, ⟨rfl, hW⟩, HM.drop (A := [_, _])⟩ | exact ⟨_, rfl, _, hW, HM.drop (A := [_, _])⟩
  · rw [decide_eq_true h3] at CA
    rw [decide_eq_false h4] at CL
    clear h3 h4
    go_enter Try.func24, Try.ntmps24
    go_wp2_with (first
      | (go_big_skip)
      | (go_at_call 38; (with_reducible refine (M.call_pure (CA) HM).mono ?_); clear HM; rintro e w_ ⟨rfl, HM⟩; dsimp only)
      | (go_at_call 20; (with_reducible refine (M.call_pure (CL) HM).mono ?_); clear HM; rintro e w_ ⟨rfl, HM⟩; dsimp only)
      | (refine M.at_mem rfl ?_; first | (refine M.at_load 3 rfl ?_; first | (refine M.load_cell_m HM rfl 3 _ rfl 0 _ _ _ _ _ rfl rfl rfl (by kernel_rfl) (by kernel_rfl) ?_; go_simp) | (refine M.load_cell_m HM rfl 3 _ rfl 1 _ _ _ _ _ rfl rfl rfl (by kernel_rfl) (by kernel_rfl) ?_; go_simp)) | (refine M.at_load 22 rfl ?_; first | (refine M.load_cell_m HM rfl 22 _ rfl 0 _ _ _ _ _ rfl rfl rfl (by kernel_rfl) (by kernel_rfl) ?_; go_simp) | (refine M.load_cell_m HM rfl 22 _ rfl 1 _ _ _ _ _ rfl rfl rfl (by kernel_rfl) (by kernel_rfl) ?_; go_simp)) | (refine M.at_load 33 rfl ?_; first | (refine M.load_row_m HM rfl 33 _ rfl 0 _ _ _ rfl rfl (by kernel_rfl) (by kernel_rfl) ?_; go_simp) | (refine M.load_row_m HM rfl 33 _ rfl 1 _ _ _ rfl rfl (by kernel_rfl) (by kernel_rfl) ?_; go_simp)) | (refine M.at_load 37 rfl ?_; first | (refine M.load_row_m HM rfl 37 _ rfl 0 _ _ _ rfl rfl (by kernel_rfl) (by kernel_rfl) ?_; go_simp) | (refine M.load_row_m HM rfl 37 _ rfl 1 _ _ _ rfl rfl (by kernel_rfl) (by kernel_rfl) ?_; go_simp)) | (refine M.at_store 33 rfl ?_; first | (refine M.store_row_m HM rfl 33 _ _ rfl 0 _ _ _ _ rfl rfl rfl (by kernel_rfl) rfl (by simp [Value.oneCell']) ?_; clear HM; intro w_ HM; (try simp only [M.nrm] at HM); go_simp) | (refine M.store_row_m HM rfl 33 _ _ rfl 1 _ _ _ _ rfl rfl rfl (by kernel_rfl) rfl (by simp [Value.oneCell']) ?_; clear HM; intro w_ HM; (try simp only [M.nrm] at HM); go_simp)) | (refine M.at_store 35 rfl ?_; first | (refine M.store_row_m HM rfl 35 _ _ rfl 0 _ _ _ _ rfl rfl rfl (by kernel_rfl) rfl (by simp [Value.oneCell']) ?_; clear HM; intro w_ HM; (try simp only [M.nrm] at HM); go_simp) | (refine M.store_row_m HM rfl 35 _ _ rfl 1 _ _ _ _ rfl rfl rfl (by kernel_rfl) rfl (by simp [Value.oneCell']) ?_; clear HM; intro w_ HM; (try simp only [M.nrm] at HM); go_simp)) | (refine M.at_store 37 rfl ?_; first | (refine M.store_row_m HM rfl 37 _ _ rfl 0 _ _ _ _ rfl rfl rfl (by kernel_rfl) rfl (by simp [Value.oneCell']) ?_; clear HM; intro w_ HM; (try simp only [M.nrm] at HM); go_simp) | (refine M.store_row_m HM rfl 37 _ _ rfl 1 _ _ _ _ rfl rfl rfl (by kernel_rfl) rfl (by simp [Value.oneCell']) ?_; clear HM; intro w_ HM; (try simp only [M.nrm] at HM); go_simp)) | (refine M.at_alloc 33 rfl ?_; first | (refine M.alloc_m HM rfl rfl 33 rfl (.agg #[(.int .i64 0), (.int .u64 0), (.bool false), (.bool false), (.bool false), (.bool false), (.int .i64 0)]) (by kernel_rfl) #[(.int .i64 0), (.int .u64 0), (.bool false), (.bool false), (.bool false), (.bool false), (.int .i64 0)] rfl ?_; clear HM; intro g_ w_ HM; go_simp)) | (refine M.at_alloc 35 rfl ?_; first | (refine M.alloc_m HM rfl rfl 35 rfl (.agg #[(.int .i64 0), (.int .i64 0), (.int .u64 0), (.bool false), (.bool false), (.bool false), (.bool false), (.int .i64 0)]) (by kernel_rfl) #[(.int .i64 0), (.int .i64 0), (.int .u64 0), (.bool false), (.bool false), (.bool false), (.bool false), (.int .i64 0)] rfl ?_; clear HM; intro g_ w_ HM; go_simp)) | (refine M.at_alloc 37 rfl ?_; first | (refine M.alloc_m HM rfl rfl 37 rfl (.agg #[(.int .i64 0), (.int .i64 0)]) (by kernel_rfl) #[(.int .i64 0), (.int .i64 0)] rfl ?_; clear HM; intro g_ w_ HM; go_simp)) | ((fail_if_success (refine M.lit_t rfl ?_)); (fail_if_success (refine M.lit_f rfl ?_)); refine M.split_guard rfl rfl ?_ ?_ <;> (intro hg_; simp only [hg_]; try simp only [M.hgs] at hg_)))
      | (refine Mc.at_cmp _ rfl ?_; refine Mc.cmp_m rfl _ rfl _ _ _ rfl _ _ _ rfl rfl _ rfl ?_ ?_ <;> (intro hg_; try simp only [M.hgs] at hg_; first | (exfalso; first | omega | (simp at hg_; done)) | (go_simp)))
      | ((fail_if_success (refine M.lit_t rfl ?_)); (fail_if_success (refine M.lit_f rfl ?_)); refine M.split_guard rfl rfl ?_ ?_ <;> (intro hg_; simp only [hg_]; try simp only [M.hgs] at hg_)))
    all_goals
      refine bodyPost_ret (res_cc HM rfl _ 1 _ _ _ rfl 0 _ _ _ rfl rfl rfl (by kernel_rfl) (by kernel_rfl) (by kernel_rfl) (by kernel_rfl)) rfl ?_
      first | exact ⟨_, _, rfl, ⟨rfl, hW⟩, HM.drop (A := [_, _])⟩ | exact ⟨_, rfl, _, hW, HM.drop (A := [_, _])⟩
  all_goals
    clear CA CL
    go_enter Try.func24, Try.ntmps24
    go_wp2_with (first
      | (go_big_skip)
      | (refine M.at_mem rfl ?_; first | (refine M.at_load 3 rfl ?_; first | (refine M.load_cell_m HM rfl 3 _ rfl 0 _ _ _ _ _ rfl rfl rfl (by kernel_rfl) (by kernel_rfl) ?_; go_simp) | (refine M.load_cell_m HM rfl 3 _ rfl 1 _ _ _ _ _ rfl rfl rfl (by kernel_rfl) (by kernel_rfl) ?_; go_simp)) | (refine M.at_load 22 rfl ?_; first | (refine M.load_cell_m HM rfl 22 _ rfl 0 _ _ _ _ _ rfl rfl rfl (by kernel_rfl) (by kernel_rfl) ?_; go_simp) | (refine M.load_cell_m HM rfl 22 _ rfl 1 _ _ _ _ _ rfl rfl rfl (by kernel_rfl) (by kernel_rfl) ?_; go_simp)) | (refine M.at_load 33 rfl ?_; first | (refine M.load_row_m HM rfl 33 _ rfl 0 _ _ _ rfl rfl (by kernel_rfl) (by kernel_rfl) ?_; go_simp) | (refine M.load_row_m HM rfl 33 _ rfl 1 _ _ _ rfl rfl (by kernel_rfl) (by kernel_rfl) ?_; go_simp)) | (refine M.at_load 37 rfl ?_; first | (refine M.load_row_m HM rfl 37 _ rfl 0 _ _ _ rfl rfl (by kernel_rfl) (by kernel_rfl) ?_; go_simp) | (refine M.load_row_m HM rfl 37 _ rfl 1 _ _ _ rfl rfl (by kernel_rfl) (by kernel_rfl) ?_; go_simp)) | (refine M.at_store 33 rfl ?_; first | (refine M.store_row_m HM rfl 33 _ _ rfl 0 _ _ _ _ rfl rfl rfl (by kernel_rfl) rfl (by simp [Value.oneCell']) ?_; clear HM; intro w_ HM; (try simp only [M.nrm] at HM); go_simp) | (refine M.store_row_m HM rfl 33 _ _ rfl 1 _ _ _ _ rfl rfl rfl (by kernel_rfl) rfl (by simp [Value.oneCell']) ?_; clear HM; intro w_ HM; (try simp only [M.nrm] at HM); go_simp)) | (refine M.at_store 35 rfl ?_; first | (refine M.store_row_m HM rfl 35 _ _ rfl 0 _ _ _ _ rfl rfl rfl (by kernel_rfl) rfl (by simp [Value.oneCell']) ?_; clear HM; intro w_ HM; (try simp only [M.nrm] at HM); go_simp) | (refine M.store_row_m HM rfl 35 _ _ rfl 1 _ _ _ _ rfl rfl rfl (by kernel_rfl) rfl (by simp [Value.oneCell']) ?_; clear HM; intro w_ HM; (try simp only [M.nrm] at HM); go_simp)) | (refine M.at_store 37 rfl ?_; first | (refine M.store_row_m HM rfl 37 _ _ rfl 0 _ _ _ _ rfl rfl rfl (by kernel_rfl) rfl (by simp [Value.oneCell']) ?_; clear HM; intro w_ HM; (try simp only [M.nrm] at HM); go_simp) | (refine M.store_row_m HM rfl 37 _ _ rfl 1 _ _ _ _ rfl rfl rfl (by kernel_rfl) rfl (by simp [Value.oneCell']) ?_; clear HM; intro w_ HM; (try simp only [M.nrm] at HM); go_simp)) | (refine M.at_alloc 33 rfl ?_; first | (refine M.alloc_m HM rfl rfl 33 rfl (.agg #[(.int .i64 0), (.int .u64 0), (.bool false), (.bool false), (.bool false), (.bool false), (.int .i64 0)]) (by kernel_rfl) #[(.int .i64 0), (.int .u64 0), (.bool false), (.bool false), (.bool false), (.bool false), (.int .i64 0)] rfl ?_; clear HM; intro g_ w_ HM; go_simp)) | (refine M.at_alloc 35 rfl ?_; first | (refine M.alloc_m HM rfl rfl 35 rfl (.agg #[(.int .i64 0), (.int .i64 0), (.int .u64 0), (.bool false), (.bool false), (.bool false), (.bool false), (.int .i64 0)]) (by kernel_rfl) #[(.int .i64 0), (.int .i64 0), (.int .u64 0), (.bool false), (.bool false), (.bool false), (.bool false), (.int .i64 0)] rfl ?_; clear HM; intro g_ w_ HM; go_simp)) | (refine M.at_alloc 37 rfl ?_; first | (refine M.alloc_m HM rfl rfl 37 rfl (.agg #[(.int .i64 0), (.int .i64 0)]) (by kernel_rfl) #[(.int .i64 0), (.int .i64 0)] rfl ?_; clear HM; intro g_ w_ HM; go_simp)) | ((fail_if_success (refine M.lit_t rfl ?_)); (fail_if_success (refine M.lit_f rfl ?_)); refine M.split_guard rfl rfl ?_ ?_ <;> (intro hg_; simp only [hg_]; try simp only [M.hgs] at hg_)))
      | (refine Mc.at_cmp _ rfl ?_; refine Mc.cmp_m rfl _ rfl _ _ _ rfl _ _ _ rfl rfl _ rfl ?_ ?_ <;> (intro hg_; try simp only [M.hgs] at hg_; first | (exfalso; first | omega | (simp at hg_; done)) | (go_simp)))
      | ((fail_if_success (refine M.lit_t rfl ?_)); (fail_if_success (refine M.lit_f rfl ?_)); refine M.split_guard rfl rfl ?_ ?_ <;> (intro hg_; simp only [hg_]; try simp only [M.hgs] at hg_)))
    all_goals
      refine bodyPost_ret (res_cc HM rfl _ 1 _ _ _ rfl 0 _ _ _ rfl rfl rfl (by kernel_rfl) (by kernel_rfl) (by kernel_rfl) (by kernel_rfl)) rfl ?_
      first | exact ⟨_, _, rfl, ⟨rfl, hW⟩, HM.drop (A := [_, _])⟩ | exact ⟨_, rfl, _, hW, HM.drop (A := [_, _])⟩
set_option maxHeartbeats 8000000 in
theorem from_ok {size : Int} {f : Int → Int} {gM gW : Nat} {st : List W2} {L : Hp} (hW : WK size f gM gW st L) (s0 : 0 ≤ size) (s1 : size < 18446744073709551616) (hst : st.length ≤ 9000) (table level va : Int) (t0 : 0 ≤ table) (t1 : table < 18446744073709551616) (v0 : 0 ≤ va) (l0 : 0 ≤ level) (l3 : level ≤ 3) (ta : table % 4096 = 0) (v1 : va < 281474976710656) :
    Does Try.prog 24 #[.pointer (some ⟨gW, 0, none⟩), .int .i64 level, .int .u64 table, .int .u64 va] L fun r L' => r = resV (goV size f va (4 - level).toNat level table) ∧ WK size f gM gW (st ++ (goV size f va (4 - level).toNat level table).st) L' := by
  have CA := fun w => aligned_any table 12 t0 t1 w
  have CL := fun w => vlow_any va v0 w
  rw [al12, decide_eq_true ta] at CA
  rw [lowB_is, decide_eq_true v1] at CL
  have CI := fun (lv : Int) (h0 : 0 ≤ lv) (h3 : lv ≤ 3) w => Yg.vindex_any va lv v0 (by omega) h0 h3 w
  have CIH := Lib.hid CI; clear CI
  have hf : ∀ n, 0 ≤ f n ∧ f n < 18446744073709551616 := by obtain ⟨v, AS, AM, -, hP, -⟩ := hW; exact hP.rng
  have HF := Lib.hid hf; clear hf
  have HT := Lib.hid ta; clear ta
  have HW := Lib.hid hW; clear hW
  intro w hH
  have HM := Mem.start hH
  go_enter Try.func24, Try.ntmps24
  go_wp2_with (first
    | (go_big_skip)
    | (go_at_call 38; (with_reducible refine (M.call_pure (CA) HM).mono ?_); clear HM; rintro e w_ ⟨rfl, HM⟩; dsimp only)
    | (go_at_call 20; (with_reducible refine (M.call_pure (CL) HM).mono ?_); clear HM; rintro e w_ ⟨rfl, HM⟩; dsimp only)
    | (refine M.at_mem rfl ?_; first | (refine M.at_load 3 rfl ?_; first | (refine M.load_cell_m HM rfl 3 _ rfl 0 _ _ _ _ _ rfl rfl rfl (by kernel_rfl) (by kernel_rfl) ?_; go_simp) | (refine M.load_cell_m HM rfl 3 _ rfl 1 _ _ _ _ _ rfl rfl rfl (by kernel_rfl) (by kernel_rfl) ?_; go_simp)) | (refine M.at_load 22 rfl ?_; first | (refine M.load_cell_m HM rfl 22 _ rfl 0 _ _ _ _ _ rfl rfl rfl (by kernel_rfl) (by kernel_rfl) ?_; go_simp) | (refine M.load_cell_m HM rfl 22 _ rfl 1 _ _ _ _ _ rfl rfl rfl (by kernel_rfl) (by kernel_rfl) ?_; go_simp)) | (refine M.at_load 33 rfl ?_; first | (refine M.load_row_m HM rfl 33 _ rfl 0 _ _ _ rfl rfl (by kernel_rfl) (by kernel_rfl) ?_; go_simp) | (refine M.load_row_m HM rfl 33 _ rfl 1 _ _ _ rfl rfl (by kernel_rfl) (by kernel_rfl) ?_; go_simp)) | (refine M.at_load 37 rfl ?_; first | (refine M.load_row_m HM rfl 37 _ rfl 0 _ _ _ rfl rfl (by kernel_rfl) (by kernel_rfl) ?_; go_simp) | (refine M.load_row_m HM rfl 37 _ rfl 1 _ _ _ rfl rfl (by kernel_rfl) (by kernel_rfl) ?_; go_simp)) | (refine M.at_store 33 rfl ?_; first | (refine M.store_row_m HM rfl 33 _ _ rfl 0 _ _ _ _ rfl rfl rfl (by kernel_rfl) rfl (by simp [Value.oneCell']) ?_; clear HM; intro w_ HM; (try simp only [M.nrm] at HM); go_simp) | (refine M.store_row_m HM rfl 33 _ _ rfl 1 _ _ _ _ rfl rfl rfl (by kernel_rfl) rfl (by simp [Value.oneCell']) ?_; clear HM; intro w_ HM; (try simp only [M.nrm] at HM); go_simp)) | (refine M.at_store 35 rfl ?_; first | (refine M.store_row_m HM rfl 35 _ _ rfl 0 _ _ _ _ rfl rfl rfl (by kernel_rfl) rfl (by simp [Value.oneCell']) ?_; clear HM; intro w_ HM; (try simp only [M.nrm] at HM); go_simp) | (refine M.store_row_m HM rfl 35 _ _ rfl 1 _ _ _ _ rfl rfl rfl (by kernel_rfl) rfl (by simp [Value.oneCell']) ?_; clear HM; intro w_ HM; (try simp only [M.nrm] at HM); go_simp)) | (refine M.at_store 37 rfl ?_; first | (refine M.store_row_m HM rfl 37 _ _ rfl 0 _ _ _ _ rfl rfl rfl (by kernel_rfl) rfl (by simp [Value.oneCell']) ?_; clear HM; intro w_ HM; (try simp only [M.nrm] at HM); go_simp) | (refine M.store_row_m HM rfl 37 _ _ rfl 1 _ _ _ _ rfl rfl rfl (by kernel_rfl) rfl (by simp [Value.oneCell']) ?_; clear HM; intro w_ HM; (try simp only [M.nrm] at HM); go_simp)) | (refine M.at_alloc 33 rfl ?_; first | ((fail_if_success (have x_ := gA_)); refine M.alloc_m HM rfl rfl 35 rfl (.agg (L8.mk 0 0 0 false false false false 0).cells) (by kernel_rfl) (L8.mk 0 0 0 false false false false 0).cells rfl ?_; clear HM; intro gA_ w_ HM; go_simp) | (refine M.alloc_m HM rfl rfl 37 rfl (.agg (F2.mk 0 0).cells) (by kernel_rfl) (F2.mk 0 0).cells rfl ?_; clear HM; intro gF_ w_ HM; go_simp) | (refine M.alloc_m HM rfl rfl 33 rfl (.agg #[(.int .i64 0), (.int .u64 0), (.bool false), (.bool false), (.bool false), (.bool false), (.int .i64 0)]) (by kernel_rfl) #[(.int .i64 0), (.int .u64 0), (.bool false), (.bool false), (.bool false), (.bool false), (.int .i64 0)] rfl ?_; clear HM; intro g_ w_ HM; go_simp)) | (refine M.at_alloc 35 rfl ?_; first | ((fail_if_success (have x_ := gA_)); refine M.alloc_m HM rfl rfl 35 rfl (.agg (L8.mk 0 0 0 false false false false 0).cells) (by kernel_rfl) (L8.mk 0 0 0 false false false false 0).cells rfl ?_; clear HM; intro gA_ w_ HM; go_simp) | (refine M.alloc_m HM rfl rfl 37 rfl (.agg (F2.mk 0 0).cells) (by kernel_rfl) (F2.mk 0 0).cells rfl ?_; clear HM; intro gF_ w_ HM; go_simp) | (refine M.alloc_m HM rfl rfl 35 rfl (.agg #[(.int .i64 0), (.int .i64 0), (.int .u64 0), (.bool false), (.bool false), (.bool false), (.bool false), (.int .i64 0)]) (by kernel_rfl) #[(.int .i64 0), (.int .i64 0), (.int .u64 0), (.bool false), (.bool false), (.bool false), (.bool false), (.int .i64 0)] rfl ?_; clear HM; intro g_ w_ HM; go_simp)) | (refine M.at_alloc 37 rfl ?_; first | ((fail_if_success (have x_ := gA_)); refine M.alloc_m HM rfl rfl 35 rfl (.agg (L8.mk 0 0 0 false false false false 0).cells) (by kernel_rfl) (L8.mk 0 0 0 false false false false 0).cells rfl ?_; clear HM; intro gA_ w_ HM; go_simp) | (refine M.alloc_m HM rfl rfl 37 rfl (.agg (F2.mk 0 0).cells) (by kernel_rfl) (F2.mk 0 0).cells rfl ?_; clear HM; intro gF_ w_ HM; go_simp) | (refine M.alloc_m HM rfl rfl 37 rfl (.agg #[(.int .i64 0), (.int .i64 0)]) (by kernel_rfl) #[(.int .i64 0), (.int .i64 0)] rfl ?_; clear HM; intro g_ w_ HM; go_simp)) | ((fail_if_success (refine M.lit_t rfl ?_)); (fail_if_success (refine M.lit_f rfl ?_)); refine M.split_guard rfl rfl ?_ ?_ <;> (intro hg_; simp only [hg_]; try simp only [M.hgs] at hg_)))
    | (refine Mc.at_cmp _ rfl ?_; refine Mc.cmp_m rfl _ rfl _ _ _ rfl _ _ _ rfl rfl _ rfl ?_ ?_ <;> (intro hg_; try simp only [M.hgs] at hg_; first | (exfalso; first | omega | (simp at hg_; done)) | (go_simp)))
    | ((fail_if_success (refine M.lit_t rfl ?_)); (fail_if_success (refine M.lit_f rfl ?_)); refine M.split_guard rfl rfl ?_ ?_ <;> (intro hg_; simp only [hg_]; try simp only [M.hgs] at hg_)))
  clear CA CL
  go_loopw [1, 2] (fun lv tb wr => ∃ (n : Nat) (lev tab : Int) (st' : List W2) (L' : Hp), lv = .int .i64 lev ∧ tb = .int .u64 tab ∧ lev + n = 3 ∧ 0 ≤ lev ∧ 0 ≤ tab ∧ tab < 18446744073709551616 ∧ tab % 4096 = 0 ∧ st'.length + n ≤ 3 ∧ WK size f gM gW (st ++ st') L' ∧
    resV (goV size f va (4 - level).toNat level table) = resV (goV size f va (n + 1) lev tab) ∧ (goV size f va (4 - level).toNat level table).st = st' ++ (goV size f va (n + 1) lev tab).st ∧
    Mem w (L.map (·.1)) ([(gF_, row (F2.mk 0 0).cells 37), (gA_, row (L8.mk 0 0 0 false false false false 0).cells 35)] ++ L') wr) (fun lv _ _ => (4 - intOf lv).toNat)
  case atStart => exact ⟨(3 - level).toNat, level, table, [], L, rfl, rfl, by omega, l0, t0, t1, HT.out, by simp; omega, by rw [List.append_nil]; exact HW.out, by rw [show (4 - level).toNat = (3 - level).toNat + 1 by omega], by rw [show (4 - level).toNat = (3 - level).toNat + 1 by omega]; rfl, HM⟩
  case round =>
    clear HM HW HT
    obtain ⟨n, lev, tab, st', L', rfl, rfl, hn, n0, b0, b1, ba, hsl, hW, hres, hst2, HM⟩ := hrel
    have CE := Yj.entry_any hW s0 s1 (by rw [List.length_append]; omega) tab lev (idxV va lev) b0 b1 ba (idx_range n0 (by omega)).1 (idx_range n0 (by omega)).2 n0 (by omega)
    have CX := CIH.out lev n0 (by omega)
    have hc := ent_cases size f HF.out lev tab (idxV va lev) n0 (by omega)
    rcases hc with ⟨fk, hk, h1, h2, h3⟩ | ⟨h1, h2, h3, h4, h5, h6, h7⟩ | ⟨h1, h2, h3, h4, h5⟩
    · have hgo := go_fault (n := n) (show (entV size f lev tab (idxV va lev)).fk ≠ 0 by rw [h1]; omega)
      rw [hgo, h1, h2] at hres hst2
      rw [h1, h2, h3] at CE
      clear hgo h1 h2 h3
      generalize (entV size f lev tab (idxV va lev)).st = es at CE hres hst2
      generalize idxV va lev = ix at CE CX
      have HR := Lib.hid hres; have HS := Lib.hid hst2
      have hb : eqB .neq (decide (F2.mk fk lev = F2.mk 0 0)) = some true := by simp [eqB]; omega
      have HB := Lib.hid hb
      clear hres hst2 hb hW
      simp only [D7.val, zero, fltV] at CE
      go_wp2_with (first
        | (go_big_skip)
        | (refine Mc.at_cmp .neq rfl ?_; first | (refine Ls.eqRv_m (T := F2) rfl _ rfl .neq _ _ rfl Yl.eqF (F2.mk fk lev) (F2.mk 0 0) rfl rfl true (HB.out) ?_; go_simp))
        | (go_at_call 44; (with_reducible refine (M.call_pure (CX) HM).mono ?_); clear HM; rintro e w_ ⟨rfl, HM⟩; dsimp only)
        | (go_at_call 43; have HM_ : M.Mem _ _ (([_, _]) ++ (L')) _ := HM; (with_reducible refine (M.Does.tail _ (CE) HM_).mono ?_); clear HM HM_; rintro e w_ ⟨v_, L_, rfl, ⟨rfl, hW⟩, HM⟩; (try simp only [List.cons_append, List.nil_append, List.append_nil] at HM); dsimp only)
        | (refine M.at_reg 5 ?_; refine Mr.region_any (id := 5) 3 4 1 HM (by kernel_rfl) rfl rfl (by kernel_rfl) ?_; intro s_; refine Mr.any_run 2 0 #[true, true, false, false] s_ (by decide) (by kernel_rfl) ?_; simp only [List.drop_succ_cons, List.drop_zero, List.take_succ_cons, List.take_zero]; (repeat (any_goals (first | go_big_quiet_skip | (refine Mq.qat_load 3 rfl ?_; go_big_quiet_want; first | (refine Mq.quiet_load_cell 3 _ rfl 0 _ _ _ _ _ rfl rfl rfl (by kernel_rfl) (by kernel_rfl) ?_; simp only [Act.put, List.setIfInBounds_toArray, List.set_cons_zero, List.set_cons_succ]; go_big_quiet_on) | (refine Mq.quiet_load_cell 3 _ rfl 1 _ _ _ _ _ rfl rfl rfl (by kernel_rfl) (by kernel_rfl) ?_; simp only [Act.put, List.setIfInBounds_toArray, List.set_cons_zero, List.set_cons_succ]; go_big_quiet_on) | (refine Mq.quiet_load_cell 3 _ rfl 2 _ _ _ _ _ rfl rfl rfl (by kernel_rfl) (by kernel_rfl) ?_; simp only [Act.put, List.setIfInBounds_toArray, List.set_cons_zero, List.set_cons_succ]; go_big_quiet_on) | (refine Mq.quiet_load_cell 3 _ rfl 3 _ _ _ _ _ rfl rfl rfl (by kernel_rfl) (by kernel_rfl) ?_; simp only [Act.put, List.setIfInBounds_toArray, List.set_cons_zero, List.set_cons_succ]; go_big_quiet_on)) | (refine Mq.qat_load 22 rfl ?_; go_big_quiet_want; first | (refine Mq.quiet_load_cell 22 _ rfl 0 _ _ _ _ _ rfl rfl rfl (by kernel_rfl) (by kernel_rfl) ?_; simp only [Act.put, List.setIfInBounds_toArray, List.set_cons_zero, List.set_cons_succ]; go_big_quiet_on) | (refine Mq.quiet_load_cell 22 _ rfl 1 _ _ _ _ _ rfl rfl rfl (by kernel_rfl) (by kernel_rfl) ?_; simp only [Act.put, List.setIfInBounds_toArray, List.set_cons_zero, List.set_cons_succ]; go_big_quiet_on) | (refine Mq.quiet_load_cell 22 _ rfl 2 _ _ _ _ _ rfl rfl rfl (by kernel_rfl) (by kernel_rfl) ?_; simp only [Act.put, List.setIfInBounds_toArray, List.set_cons_zero, List.set_cons_succ]; go_big_quiet_on) | (refine Mq.quiet_load_cell 22 _ rfl 3 _ _ _ _ _ rfl rfl rfl (by kernel_rfl) (by kernel_rfl) ?_; simp only [Act.put, List.setIfInBounds_toArray, List.set_cons_zero, List.set_cons_succ]; go_big_quiet_on)) | (refine Mq.qat_load 33 rfl ?_; go_big_quiet_want; first | (refine Mq.quiet_load_row 33 _ rfl 0 _ _ _ rfl rfl (by kernel_rfl) (by kernel_rfl) ?_; simp only [Act.put, List.setIfInBounds_toArray, List.set_cons_zero, List.set_cons_succ]; go_big_quiet_on) | (refine Mq.quiet_load_row 33 _ rfl 1 _ _ _ rfl rfl (by kernel_rfl) (by kernel_rfl) ?_; simp only [Act.put, List.setIfInBounds_toArray, List.set_cons_zero, List.set_cons_succ]; go_big_quiet_on) | (refine Mq.quiet_load_row 33 _ rfl 2 _ _ _ rfl rfl (by kernel_rfl) (by kernel_rfl) ?_; simp only [Act.put, List.setIfInBounds_toArray, List.set_cons_zero, List.set_cons_succ]; go_big_quiet_on) | (refine Mq.quiet_load_row 33 _ rfl 3 _ _ _ rfl rfl (by kernel_rfl) (by kernel_rfl) ?_; simp only [Act.put, List.setIfInBounds_toArray, List.set_cons_zero, List.set_cons_succ]; go_big_quiet_on)) | (refine Mq.qat_load 37 rfl ?_; go_big_quiet_want; first | (refine Mq.quiet_load_row 37 _ rfl 0 _ _ _ rfl rfl (by kernel_rfl) (by kernel_rfl) ?_; simp only [Act.put, List.setIfInBounds_toArray, List.set_cons_zero, List.set_cons_succ]; go_big_quiet_on) | (refine Mq.quiet_load_row 37 _ rfl 1 _ _ _ rfl rfl (by kernel_rfl) (by kernel_rfl) ?_; simp only [Act.put, List.setIfInBounds_toArray, List.set_cons_zero, List.set_cons_succ]; go_big_quiet_on) | (refine Mq.quiet_load_row 37 _ rfl 2 _ _ _ rfl rfl (by kernel_rfl) (by kernel_rfl) ?_; simp only [Act.put, List.setIfInBounds_toArray, List.set_cons_zero, List.set_cons_succ]; go_big_quiet_on) | (refine Mq.quiet_load_row 37 _ rfl 3 _ _ _ rfl rfl (by kernel_rfl) (by kernel_rfl) ?_; simp only [Act.put, List.setIfInBounds_toArray, List.set_cons_zero, List.set_cons_succ]; go_big_quiet_on)) | ((fail_if_success (refine Mq.qlit_t rfl ?_)); (fail_if_success (refine Mq.qlit_f rfl ?_)); refine Mq.qsplit rfl rfl ?_ ?_ <;> (intro hg_; simp only [hg_]; try simp only [M.hgs] at hg_)) | (go_big_quiet_step (exact rfl); skip)))); refine Go.Proofs.Ytfnmdelkdombbaa.G.wpQuiet_end ?_; clear s_; intro s_; refine Mr.any_one 2 none #[true, true, true, false] s_ rfl rfl (by kernel_rfl) (by kernel_rfl) rfl (fun _ h_ => ⟨⟨_, h_⟩, rfl⟩) (M.outs_store_row 35 _ _ rfl 3 _ _ _ (L8.mk 0 0 0 false false false false 0).cells rfl rfl rfl (by kernel_rfl) rfl (Rec.one (L8.mk 0 0 0 false false false false 0))) ?_; clear s_; rintro v_ L_ ⟨rfl, rfl⟩ s_; simp only [Act.put, List.setIfInBounds_toArray, List.set_cons_zero, List.set_cons_succ]; refine Mr.any_tail (by kernel_rfl) (fun _ h_ => ⟨⟨_, h_⟩, rfl⟩) ?_; clear s_ HM; intro w_ HM; simp only [List.drop_succ_cons, List.drop_zero])
        | (refine M.at_mem rfl ?_; first | (refine M.at_load 3 rfl ?_; first | (refine M.load_cell_m HM rfl 3 _ rfl 0 _ _ _ _ _ rfl rfl rfl (by kernel_rfl) (by kernel_rfl) ?_; go_simp) | (refine M.load_cell_m HM rfl 3 _ rfl 1 _ _ _ _ _ rfl rfl rfl (by kernel_rfl) (by kernel_rfl) ?_; go_simp) | (refine M.load_cell_m HM rfl 3 _ rfl 2 _ _ _ _ _ rfl rfl rfl (by kernel_rfl) (by kernel_rfl) ?_; go_simp) | (refine M.load_cell_m HM rfl 3 _ rfl 3 _ _ _ _ _ rfl rfl rfl (by kernel_rfl) (by kernel_rfl) ?_; go_simp)) | (refine M.at_load 22 rfl ?_; first | (refine M.load_cell_m HM rfl 22 _ rfl 0 _ _ _ _ _ rfl rfl rfl (by kernel_rfl) (by kernel_rfl) ?_; go_simp) | (refine M.load_cell_m HM rfl 22 _ rfl 1 _ _ _ _ _ rfl rfl rfl (by kernel_rfl) (by kernel_rfl) ?_; go_simp) | (refine M.load_cell_m HM rfl 22 _ rfl 2 _ _ _ _ _ rfl rfl rfl (by kernel_rfl) (by kernel_rfl) ?_; go_simp) | (refine M.load_cell_m HM rfl 22 _ rfl 3 _ _ _ _ _ rfl rfl rfl (by kernel_rfl) (by kernel_rfl) ?_; go_simp)) | (refine M.at_load 33 rfl ?_; first | (refine M.load_row_m HM rfl 33 _ rfl 0 _ _ _ rfl rfl (by kernel_rfl) (by kernel_rfl) ?_; go_simp) | (refine M.load_row_m HM rfl 33 _ rfl 1 _ _ _ rfl rfl (by kernel_rfl) (by kernel_rfl) ?_; go_simp) | (refine M.load_row_m HM rfl 33 _ rfl 2 _ _ _ rfl rfl (by kernel_rfl) (by kernel_rfl) ?_; go_simp) | (refine M.load_row_m HM rfl 33 _ rfl 3 _ _ _ rfl rfl (by kernel_rfl) (by kernel_rfl) ?_; go_simp)) | (refine M.at_load 37 rfl ?_; first | (refine M.load_row_m HM rfl 37 _ rfl 0 _ _ _ rfl rfl (by kernel_rfl) (by kernel_rfl) ?_; go_simp) | (refine M.load_row_m HM rfl 37 _ rfl 1 _ _ _ rfl rfl (by kernel_rfl) (by kernel_rfl) ?_; go_simp) | (refine M.load_row_m HM rfl 37 _ rfl 2 _ _ _ rfl rfl (by kernel_rfl) (by kernel_rfl) ?_; go_simp) | (refine M.load_row_m HM rfl 37 _ rfl 3 _ _ _ rfl rfl (by kernel_rfl) (by kernel_rfl) ?_; go_simp)) | (refine M.at_store 33 rfl ?_; first | (refine M.store_row_m HM rfl 33 _ _ rfl 0 _ _ _ _ rfl rfl rfl (by kernel_rfl) rfl (by simp [Value.oneCell']) ?_; clear HM; intro w_ HM; (try simp only [M.nrm] at HM); go_simp) | (refine M.store_row_m HM rfl 33 _ _ rfl 1 _ _ _ _ rfl rfl rfl (by kernel_rfl) rfl (by simp [Value.oneCell']) ?_; clear HM; intro w_ HM; (try simp only [M.nrm] at HM); go_simp) | (refine M.store_row_m HM rfl 33 _ _ rfl 2 _ _ _ _ rfl rfl rfl (by kernel_rfl) rfl (by simp [Value.oneCell']) ?_; clear HM; intro w_ HM; (try simp only [M.nrm] at HM); go_simp) | (refine M.store_row_m HM rfl 33 _ _ rfl 3 _ _ _ _ rfl rfl rfl (by kernel_rfl) rfl (by simp [Value.oneCell']) ?_; clear HM; intro w_ HM; (try simp only [M.nrm] at HM); go_simp)) | (refine M.at_store 35 rfl ?_; first | (refine M.store_row_m HM rfl 35 _ _ rfl 0 _ _ _ _ rfl rfl rfl (by kernel_rfl) rfl (by simp [Value.oneCell']) ?_; clear HM; intro w_ HM; (try simp only [M.nrm] at HM); go_simp) | (refine M.store_row_m HM rfl 35 _ _ rfl 1 _ _ _ _ rfl rfl rfl (by kernel_rfl) rfl (by simp [Value.oneCell']) ?_; clear HM; intro w_ HM; (try simp only [M.nrm] at HM); go_simp) | (refine M.store_row_m HM rfl 35 _ _ rfl 2 _ _ _ _ rfl rfl rfl (by kernel_rfl) rfl (by simp [Value.oneCell']) ?_; clear HM; intro w_ HM; (try simp only [M.nrm] at HM); go_simp) | (refine M.store_row_m HM rfl 35 _ _ rfl 3 _ _ _ _ rfl rfl rfl (by kernel_rfl) rfl (by simp [Value.oneCell']) ?_; clear HM; intro w_ HM; (try simp only [M.nrm] at HM); go_simp)) | (refine M.at_store 37 rfl ?_; first | (refine M.store_row_m HM rfl 37 _ _ rfl 0 _ _ _ _ rfl rfl rfl (by kernel_rfl) rfl (by simp [Value.oneCell']) ?_; clear HM; intro w_ HM; (try simp only [M.nrm] at HM); go_simp) | (refine M.store_row_m HM rfl 37 _ _ rfl 1 _ _ _ _ rfl rfl rfl (by kernel_rfl) rfl (by simp [Value.oneCell']) ?_; clear HM; intro w_ HM; (try simp only [M.nrm] at HM); go_simp) | (refine M.store_row_m HM rfl 37 _ _ rfl 2 _ _ _ _ rfl rfl rfl (by kernel_rfl) rfl (by simp [Value.oneCell']) ?_; clear HM; intro w_ HM; (try simp only [M.nrm] at HM); go_simp) | (refine M.store_row_m HM rfl 37 _ _ rfl 3 _ _ _ _ rfl rfl rfl (by kernel_rfl) rfl (by simp [Value.oneCell']) ?_; clear HM; intro w_ HM; (try simp only [M.nrm] at HM); go_simp)) | (refine M.at_alloc 33 rfl ?_; first | (refine M.alloc_m HM rfl rfl 33 rfl (.agg #[(.int .i64 0), (.int .u64 0), (.bool false), (.bool false), (.bool false), (.bool false), (.int .i64 0)]) (by kernel_rfl) #[(.int .i64 0), (.int .u64 0), (.bool false), (.bool false), (.bool false), (.bool false), (.int .i64 0)] rfl ?_; clear HM; intro g_ w_ HM; go_simp)) | (refine M.at_alloc 35 rfl ?_; first | (refine M.alloc_m HM rfl rfl 35 rfl (.agg #[(.int .i64 0), (.int .i64 0), (.int .u64 0), (.bool false), (.bool false), (.bool false), (.bool false), (.int .i64 0)]) (by kernel_rfl) #[(.int .i64 0), (.int .i64 0), (.int .u64 0), (.bool false), (.bool false), (.bool false), (.bool false), (.int .i64 0)] rfl ?_; clear HM; intro g_ w_ HM; go_simp)) | (refine M.at_alloc 37 rfl ?_; first | (refine M.alloc_m HM rfl rfl 37 rfl (.agg #[(.int .i64 0), (.int .i64 0)]) (by kernel_rfl) #[(.int .i64 0), (.int .i64 0)] rfl ?_; clear HM; intro g_ w_ HM; go_simp)) | ((fail_if_success (refine M.lit_t rfl ?_)); (fail_if_success (refine M.lit_f rfl ?_)); refine M.split_guard rfl rfl ?_ ?_ <;> (intro hg_; simp only [hg_]; try simp only [M.hgs] at hg_)))
        | (refine Mc.at_cmp _ rfl ?_; refine Mc.cmp_m rfl _ rfl _ _ _ rfl _ _ _ rfl rfl _ rfl ?_ ?_ <;> (intro hg_; try simp only [M.hgs] at hg_; first | (exfalso; first | omega | (simp at hg_; done)) | (go_simp)))
        | ((fail_if_success (refine M.lit_t rfl ?_)); (fail_if_success (refine M.lit_f rfl ?_)); refine M.split_guard rfl rfl ?_ ?_ <;> (intro hg_; simp only [hg_]; try simp only [M.hgs] at hg_)))
      all_goals
        refine bodyPost_ret (res_cc HM rfl _ 3 _ _ _ rfl 2 _ _ _ rfl rfl rfl (by kernel_rfl) (by kernel_rfl) (by kernel_rfl) (by kernel_rfl)) rfl ?_
        first | refine ⟨_, _, rfl, ⟨?_, ?_⟩, HM.drop (A := [_, _, _, _])⟩ | refine ⟨_, rfl, _, ⟨?_, ?_⟩, HM.drop (A := [_, _, _, _])⟩
        · rw [HR.out]; rfl
        · rw [HS.out, ← List.append_assoc]; exact hW
    · obtain ⟨m, rfl⟩ : ∃ m, n = m + 1 := ⟨n - 1, by omega⟩
      have hgo := go_table (n := m + 1) h1 h3
      rw [hgo] at hres hst2
      rw [h1, h2] at CE
      have hsl2 := ent_st_len size f lev tab (idxV va lev)
      clear hgo h1 h2
      generalize (entV size f lev tab (idxV va lev)).st = es at CE hres hst2 hsl2
      generalize idxV va lev = ix at CE CX h3 h5 h6 h7 hres hst2
      generalize (entV size f lev tab ix).d = d at CE h3 h5 h6 h7 hres hst2
      obtain ⟨kind, out, user, write, exec, used, attr⟩ := d
      dsimp only at h3 h5 h6 h7 hres hst2
      subst h3
      have HR := Lib.hid hres; have HS := Lib.hid hst2
      have hb : eqB .neq (decide (F2.mk 0 0 = F2.mk 0 0)) = some false := by simp [eqB]
      have HB := Lib.hid hb
      clear hres hst2 hb hW
      simp only [D7.val, fltV] at CE
      go_wp2_with (first
        | (go_big_skip)
        | (refine Mc.at_cmp .neq rfl ?_; first | (refine Ls.eqRv_m (T := F2) rfl _ rfl .neq _ _ rfl Yl.eqF (F2.mk 0 0) (F2.mk 0 0) rfl rfl false (HB.out) ?_; go_simp))
        | (go_at_call 44; (with_reducible refine (M.call_pure (CX) HM).mono ?_); clear HM; rintro e w_ ⟨rfl, HM⟩; dsimp only)
        | (go_at_call 43; have HM_ : M.Mem _ _ (([_, _]) ++ (L')) _ := HM; (with_reducible refine (M.Does.tail _ (CE) HM_).mono ?_); clear HM HM_; rintro e w_ ⟨v_, L_, rfl, ⟨rfl, hW⟩, HM⟩; (try simp only [List.cons_append, List.nil_append, List.append_nil] at HM); dsimp only)
        | (refine M.at_mem rfl ?_; first | (refine M.at_load 3 rfl ?_; first | (refine M.load_cell_m HM rfl 3 _ rfl 0 _ _ _ _ _ rfl rfl rfl (by kernel_rfl) (by kernel_rfl) ?_; go_simp) | (refine M.load_cell_m HM rfl 3 _ rfl 1 _ _ _ _ _ rfl rfl rfl (by kernel_rfl) (by kernel_rfl) ?_; go_simp) | (refine M.load_cell_m HM rfl 3 _ rfl 2 _ _ _ _ _ rfl rfl rfl (by kernel_rfl) (by kernel_rfl) ?_; go_simp) | (refine M.load_cell_m HM rfl 3 _ rfl 3 _ _ _ _ _ rfl rfl rfl (by kernel_rfl) (by kernel_rfl) ?_; go_simp)) | (refine M.at_load 22 rfl ?_; first | (refine M.load_cell_m HM rfl 22 _ rfl 0 _ _ _ _ _ rfl rfl rfl (by kernel_rfl) (by kernel_rfl) ?_; go_simp) | (refine M.load_cell_m HM rfl 22 _ rfl 1 _ _ _ _ _ rfl rfl rfl (by kernel_rfl) (by kernel_rfl) ?_; go_simp) | (refine M.load_cell_m HM rfl 22 _ rfl 2 _ _ _ _ _ rfl rfl rfl (by kernel_rfl) (by kernel_rfl) ?_; go_simp) | (refine M.load_cell_m HM rfl 22 _ rfl 3 _ _ _ _ _ rfl rfl rfl (by kernel_rfl) (by kernel_rfl) ?_; go_simp)) | (refine M.at_load 33 rfl ?_; first | (refine M.load_row_m HM rfl 33 _ rfl 0 _ _ _ rfl rfl (by kernel_rfl) (by kernel_rfl) ?_; go_simp) | (refine M.load_row_m HM rfl 33 _ rfl 1 _ _ _ rfl rfl (by kernel_rfl) (by kernel_rfl) ?_; go_simp) | (refine M.load_row_m HM rfl 33 _ rfl 2 _ _ _ rfl rfl (by kernel_rfl) (by kernel_rfl) ?_; go_simp) | (refine M.load_row_m HM rfl 33 _ rfl 3 _ _ _ rfl rfl (by kernel_rfl) (by kernel_rfl) ?_; go_simp)) | (refine M.at_load 37 rfl ?_; first | (refine M.load_row_m HM rfl 37 _ rfl 0 _ _ _ rfl rfl (by kernel_rfl) (by kernel_rfl) ?_; go_simp) | (refine M.load_row_m HM rfl 37 _ rfl 1 _ _ _ rfl rfl (by kernel_rfl) (by kernel_rfl) ?_; go_simp) | (refine M.load_row_m HM rfl 37 _ rfl 2 _ _ _ rfl rfl (by kernel_rfl) (by kernel_rfl) ?_; go_simp) | (refine M.load_row_m HM rfl 37 _ rfl 3 _ _ _ rfl rfl (by kernel_rfl) (by kernel_rfl) ?_; go_simp)) | (refine M.at_store 33 rfl ?_; first | (refine M.store_row_m HM rfl 33 _ _ rfl 0 _ _ _ _ rfl rfl rfl (by kernel_rfl) rfl (by simp [Value.oneCell']) ?_; clear HM; intro w_ HM; (try simp only [M.nrm] at HM); go_simp) | (refine M.store_row_m HM rfl 33 _ _ rfl 1 _ _ _ _ rfl rfl rfl (by kernel_rfl) rfl (by simp [Value.oneCell']) ?_; clear HM; intro w_ HM; (try simp only [M.nrm] at HM); go_simp) | (refine M.store_row_m HM rfl 33 _ _ rfl 2 _ _ _ _ rfl rfl rfl (by kernel_rfl) rfl (by simp [Value.oneCell']) ?_; clear HM; intro w_ HM; (try simp only [M.nrm] at HM); go_simp) | (refine M.store_row_m HM rfl 33 _ _ rfl 3 _ _ _ _ rfl rfl rfl (by kernel_rfl) rfl (by simp [Value.oneCell']) ?_; clear HM; intro w_ HM; (try simp only [M.nrm] at HM); go_simp)) | (refine M.at_store 35 rfl ?_; first | (refine M.store_row_m HM rfl 35 _ _ rfl 0 _ _ _ _ rfl rfl rfl (by kernel_rfl) rfl (by simp [Value.oneCell']) ?_; clear HM; intro w_ HM; (try simp only [M.nrm] at HM); go_simp) | (refine M.store_row_m HM rfl 35 _ _ rfl 1 _ _ _ _ rfl rfl rfl (by kernel_rfl) rfl (by simp [Value.oneCell']) ?_; clear HM; intro w_ HM; (try simp only [M.nrm] at HM); go_simp) | (refine M.store_row_m HM rfl 35 _ _ rfl 2 _ _ _ _ rfl rfl rfl (by kernel_rfl) rfl (by simp [Value.oneCell']) ?_; clear HM; intro w_ HM; (try simp only [M.nrm] at HM); go_simp) | (refine M.store_row_m HM rfl 35 _ _ rfl 3 _ _ _ _ rfl rfl rfl (by kernel_rfl) rfl (by simp [Value.oneCell']) ?_; clear HM; intro w_ HM; (try simp only [M.nrm] at HM); go_simp)) | (refine M.at_store 37 rfl ?_; first | (refine M.store_row_m HM rfl 37 _ _ rfl 0 _ _ _ _ rfl rfl rfl (by kernel_rfl) rfl (by simp [Value.oneCell']) ?_; clear HM; intro w_ HM; (try simp only [M.nrm] at HM); go_simp) | (refine M.store_row_m HM rfl 37 _ _ rfl 1 _ _ _ _ rfl rfl rfl (by kernel_rfl) rfl (by simp [Value.oneCell']) ?_; clear HM; intro w_ HM; (try simp only [M.nrm] at HM); go_simp) | (refine M.store_row_m HM rfl 37 _ _ rfl 2 _ _ _ _ rfl rfl rfl (by kernel_rfl) rfl (by simp [Value.oneCell']) ?_; clear HM; intro w_ HM; (try simp only [M.nrm] at HM); go_simp) | (refine M.store_row_m HM rfl 37 _ _ rfl 3 _ _ _ _ rfl rfl rfl (by kernel_rfl) rfl (by simp [Value.oneCell']) ?_; clear HM; intro w_ HM; (try simp only [M.nrm] at HM); go_simp)) | (refine M.at_alloc 33 rfl ?_; first | (refine M.alloc_m HM rfl rfl 33 rfl (.agg #[(.int .i64 0), (.int .u64 0), (.bool false), (.bool false), (.bool false), (.bool false), (.int .i64 0)]) (by kernel_rfl) #[(.int .i64 0), (.int .u64 0), (.bool false), (.bool false), (.bool false), (.bool false), (.int .i64 0)] rfl ?_; clear HM; intro g_ w_ HM; go_simp)) | (refine M.at_alloc 35 rfl ?_; first | (refine M.alloc_m HM rfl rfl 35 rfl (.agg #[(.int .i64 0), (.int .i64 0), (.int .u64 0), (.bool false), (.bool false), (.bool false), (.bool false), (.int .i64 0)]) (by kernel_rfl) #[(.int .i64 0), (.int .i64 0), (.int .u64 0), (.bool false), (.bool false), (.bool false), (.bool false), (.int .i64 0)] rfl ?_; clear HM; intro g_ w_ HM; go_simp)) | (refine M.at_alloc 37 rfl ?_; first | (refine M.alloc_m HM rfl rfl 37 rfl (.agg #[(.int .i64 0), (.int .i64 0)]) (by kernel_rfl) #[(.int .i64 0), (.int .i64 0)] rfl ?_; clear HM; intro g_ w_ HM; go_simp)) | ((fail_if_success (refine M.lit_t rfl ?_)); (fail_if_success (refine M.lit_f rfl ?_)); refine M.split_guard rfl rfl ?_ ?_ <;> (intro hg_; simp only [hg_]; try simp only [M.hgs] at hg_)))
        | (refine Mc.at_cmp _ rfl ?_; refine Mc.cmp_m rfl _ rfl _ _ _ rfl _ _ _ rfl rfl _ rfl ?_ ?_ <;> (intro hg_; try simp only [M.hgs] at hg_; first | (exfalso; first | omega | (simp at hg_; done)) | (go_simp)))
        | ((fail_if_success (refine M.lit_t rfl ?_)); (fail_if_success (refine M.lit_f rfl ?_)); refine M.split_guard rfl rfl ?_ ?_ <;> (intro hg_; simp only [hg_]; try simp only [M.hgs] at hg_)))
      go_roundw
      case rel => exact ⟨m, lev + 1, out, st' ++ es, L_, by first | rfl | (refine congrArg (fun z => Value.int .i64 z) ?_; omega), rfl, by omega, by omega, h5, by omega, h7, by rw [List.length_append]; omega, by rw [← List.append_assoc]; exact hW, HR.out, by rw [HS.out, List.append_assoc], HM.drop (A := [_, _])⟩
      case measure => simp [intOf]; omega
    · have hgo := go_leaf (n := n) h1 (show (entV size f lev tab (idxV va lev)).d.kind ≠ 1 by omega)
      rw [hgo] at hres hst2
      rw [h1, h2] at CE
      clear hgo h1 h2
      generalize (entV size f lev tab (idxV va lev)).st = es at CE hres hst2
      generalize idxV va lev = ix at CE CX h3 hres hst2
      generalize (entV size f lev tab ix).d = d at CE h3 hres hst2
      obtain ⟨kind, out, user, write, exec, used, attr⟩ := d
      dsimp only at h3 hres hst2
      clear h4 h5
      have HR := Lib.hid hres; have HS := Lib.hid hst2
      have hb : eqB .neq (decide (F2.mk 0 0 = F2.mk 0 0)) = some false := by simp [eqB]
      have HB := Lib.hid hb
      clear hres hst2 hb hW
      have hk1 : kind ≠ 1 := by omega
      simp only [D7.val, fltV] at CE
      go_wp2_with (first
        | (go_big_skip)
        | (refine Mc.at_cmp .neq rfl ?_; first | (refine Ls.eqRv_m (T := F2) rfl _ rfl .neq _ _ rfl Yl.eqF (F2.mk 0 0) (F2.mk 0 0) rfl rfl false (HB.out) ?_; go_simp))
        | (go_at_call 44; (with_reducible refine (M.call_pure (CX) HM).mono ?_); clear HM; rintro e w_ ⟨rfl, HM⟩; dsimp only)
        | (go_at_call 43; have HM_ : M.Mem _ _ (([_, _]) ++ (L')) _ := HM; (with_reducible refine (M.Does.tail _ (CE) HM_).mono ?_); clear HM HM_; rintro e w_ ⟨v_, L_, rfl, ⟨rfl, hW⟩, HM⟩; (try simp only [List.cons_append, List.nil_append, List.append_nil] at HM); dsimp only)
        | (refine M.at_mem rfl ?_; first | (refine M.at_load 3 rfl ?_; first | (refine M.load_cell_m HM rfl 3 _ rfl 0 _ _ _ _ _ rfl rfl rfl (by kernel_rfl) (by kernel_rfl) ?_; go_simp) | (refine M.load_cell_m HM rfl 3 _ rfl 1 _ _ _ _ _ rfl rfl rfl (by kernel_rfl) (by kernel_rfl) ?_; go_simp) | (refine M.load_cell_m HM rfl 3 _ rfl 2 _ _ _ _ _ rfl rfl rfl (by kernel_rfl) (by kernel_rfl) ?_; go_simp) | (refine M.load_cell_m HM rfl 3 _ rfl 3 _ _ _ _ _ rfl rfl rfl (by kernel_rfl) (by kernel_rfl) ?_; go_simp)) | (refine M.at_load 22 rfl ?_; first | (refine M.load_cell_m HM rfl 22 _ rfl 0 _ _ _ _ _ rfl rfl rfl (by kernel_rfl) (by kernel_rfl) ?_; go_simp) | (refine M.load_cell_m HM rfl 22 _ rfl 1 _ _ _ _ _ rfl rfl rfl (by kernel_rfl) (by kernel_rfl) ?_; go_simp) | (refine M.load_cell_m HM rfl 22 _ rfl 2 _ _ _ _ _ rfl rfl rfl (by kernel_rfl) (by kernel_rfl) ?_; go_simp) | (refine M.load_cell_m HM rfl 22 _ rfl 3 _ _ _ _ _ rfl rfl rfl (by kernel_rfl) (by kernel_rfl) ?_; go_simp)) | (refine M.at_load 33 rfl ?_; first | (refine M.load_row_m HM rfl 33 _ rfl 0 _ _ _ rfl rfl (by kernel_rfl) (by kernel_rfl) ?_; go_simp) | (refine M.load_row_m HM rfl 33 _ rfl 1 _ _ _ rfl rfl (by kernel_rfl) (by kernel_rfl) ?_; go_simp) | (refine M.load_row_m HM rfl 33 _ rfl 2 _ _ _ rfl rfl (by kernel_rfl) (by kernel_rfl) ?_; go_simp) | (refine M.load_row_m HM rfl 33 _ rfl 3 _ _ _ rfl rfl (by kernel_rfl) (by kernel_rfl) ?_; go_simp)) | (refine M.at_load 37 rfl ?_; first | (refine M.load_row_m HM rfl 37 _ rfl 0 _ _ _ rfl rfl (by kernel_rfl) (by kernel_rfl) ?_; go_simp) | (refine M.load_row_m HM rfl 37 _ rfl 1 _ _ _ rfl rfl (by kernel_rfl) (by kernel_rfl) ?_; go_simp) | (refine M.load_row_m HM rfl 37 _ rfl 2 _ _ _ rfl rfl (by kernel_rfl) (by kernel_rfl) ?_; go_simp) | (refine M.load_row_m HM rfl 37 _ rfl 3 _ _ _ rfl rfl (by kernel_rfl) (by kernel_rfl) ?_; go_simp)) | (refine M.at_store 33 rfl ?_; first | (refine M.store_row_m HM rfl 33 _ _ rfl 0 _ _ _ _ rfl rfl rfl (by kernel_rfl) rfl (by simp [Value.oneCell']) ?_; clear HM; intro w_ HM; (try simp only [M.nrm] at HM); go_simp) | (refine M.store_row_m HM rfl 33 _ _ rfl 1 _ _ _ _ rfl rfl rfl (by kernel_rfl) rfl (by simp [Value.oneCell']) ?_; clear HM; intro w_ HM; (try simp only [M.nrm] at HM); go_simp) | (refine M.store_row_m HM rfl 33 _ _ rfl 2 _ _ _ _ rfl rfl rfl (by kernel_rfl) rfl (by simp [Value.oneCell']) ?_; clear HM; intro w_ HM; (try simp only [M.nrm] at HM); go_simp) | (refine M.store_row_m HM rfl 33 _ _ rfl 3 _ _ _ _ rfl rfl rfl (by kernel_rfl) rfl (by simp [Value.oneCell']) ?_; clear HM; intro w_ HM; (try simp only [M.nrm] at HM); go_simp)) | (refine M.at_store 35 rfl ?_; first | (refine M.store_row_m HM rfl 35 _ _ rfl 0 _ _ _ _ rfl rfl rfl (by kernel_rfl) rfl (by simp [Value.oneCell']) ?_; clear HM; intro w_ HM; (try simp only [M.nrm] at HM); go_simp) | (refine M.store_row_m HM rfl 35 _ _ rfl 1 _ _ _ _ rfl rfl rfl (by kernel_rfl) rfl (by simp [Value.oneCell']) ?_; clear HM; intro w_ HM; (try simp only [M.nrm] at HM); go_simp) | (refine M.store_row_m HM rfl 35 _ _ rfl 2 _ _ _ _ rfl rfl rfl (by kernel_rfl) rfl (by simp [Value.oneCell']) ?_; clear HM; intro w_ HM; (try simp only [M.nrm] at HM); go_simp) | (refine M.store_row_m HM rfl 35 _ _ rfl 3 _ _ _ _ rfl rfl rfl (by kernel_rfl) rfl (by simp [Value.oneCell']) ?_; clear HM; intro w_ HM; (try simp only [M.nrm] at HM); go_simp)) | (refine M.at_store 37 rfl ?_; first | (refine M.store_row_m HM rfl 37 _ _ rfl 0 _ _ _ _ rfl rfl rfl (by kernel_rfl) rfl (by simp [Value.oneCell']) ?_; clear HM; intro w_ HM; (try simp only [M.nrm] at HM); go_simp) | (refine M.store_row_m HM rfl 37 _ _ rfl 1 _ _ _ _ rfl rfl rfl (by kernel_rfl) rfl (by simp [Value.oneCell']) ?_; clear HM; intro w_ HM; (try simp only [M.nrm] at HM); go_simp) | (refine M.store_row_m HM rfl 37 _ _ rfl 2 _ _ _ _ rfl rfl rfl (by kernel_rfl) rfl (by simp [Value.oneCell']) ?_; clear HM; intro w_ HM; (try simp only [M.nrm] at HM); go_simp) | (refine M.store_row_m HM rfl 37 _ _ rfl 3 _ _ _ _ rfl rfl rfl (by kernel_rfl) rfl (by simp [Value.oneCell']) ?_; clear HM; intro w_ HM; (try simp only [M.nrm] at HM); go_simp)) | (refine M.at_alloc 33 rfl ?_; first | (refine M.alloc_m HM rfl rfl 33 rfl (.agg #[(.int .i64 0), (.int .u64 0), (.bool false), (.bool false), (.bool false), (.bool false), (.int .i64 0)]) (by kernel_rfl) #[(.int .i64 0), (.int .u64 0), (.bool false), (.bool false), (.bool false), (.bool false), (.int .i64 0)] rfl ?_; clear HM; intro g_ w_ HM; go_simp)) | (refine M.at_alloc 35 rfl ?_; first | (refine M.alloc_m HM rfl rfl 35 rfl (.agg #[(.int .i64 0), (.int .i64 0), (.int .u64 0), (.bool false), (.bool false), (.bool false), (.bool false), (.int .i64 0)]) (by kernel_rfl) #[(.int .i64 0), (.int .i64 0), (.int .u64 0), (.bool false), (.bool false), (.bool false), (.bool false), (.int .i64 0)] rfl ?_; clear HM; intro g_ w_ HM; go_simp)) | (refine M.at_alloc 37 rfl ?_; first | (refine M.alloc_m HM rfl rfl 37 rfl (.agg #[(.int .i64 0), (.int .i64 0)]) (by kernel_rfl) #[(.int .i64 0), (.int .i64 0)] rfl ?_; clear HM; intro g_ w_ HM; go_simp)) | ((fail_if_success (refine M.lit_t rfl ?_)); (fail_if_success (refine M.lit_f rfl ?_)); refine M.split_guard rfl rfl ?_ ?_ <;> (intro hg_; simp only [hg_]; try simp only [M.hgs] at hg_)))
        | (refine Mc.at_cmp _ rfl ?_; refine Mc.cmp_m rfl _ rfl _ _ _ rfl _ _ _ rfl rfl _ rfl ?_ ?_ <;> (intro hg_; try simp only [M.hgs] at hg_; first | (exfalso; first | omega | (simp at hg_; done)) | (go_simp)))
        | ((fail_if_success (refine M.lit_t rfl ?_)); (fail_if_success (refine M.lit_f rfl ?_)); refine M.split_guard rfl rfl ?_ ?_ <;> (intro hg_; simp only [hg_]; try simp only [M.hgs] at hg_)))
      all_goals
        refine bodyPost_ret (res_cc HM rfl _ 3 _ _ _ rfl 2 _ _ _ rfl rfl rfl (by kernel_rfl) (by kernel_rfl) (by kernel_rfl) (by kernel_rfl)) rfl ?_
        first | refine ⟨_, _, rfl, ⟨?_, ?_⟩, HM.drop (A := [_, _, _, _])⟩ | refine ⟨_, rfl, _, ⟨?_, ?_⟩, HM.drop (A := [_, _, _, _])⟩
        · rw [HR.out]; rfl
        · rw [HS.out, ← List.append_assoc]; exact hW
end Go.Proofs.Ytfnmdelkdombbaa.Yk
