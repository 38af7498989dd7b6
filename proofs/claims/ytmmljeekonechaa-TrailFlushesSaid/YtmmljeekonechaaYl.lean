/- Faults, leaves and descriptors: compared field by field. -/
import Derived.Test.YtmmljeekonechaaProg
import Derived.Test.YtmmljeekonechaaLs
import Derived.Test.YtmmljeekonechaaEq
namespace Go.Proofs.Ytmmljeekonechaa.Yl
open Go.RowKit Go.Proofs.Ytmmljeekonechaa.G Go.Proofs.Ytmmljeekonechaa.B Go.Proofs.Ytmmljeekonechaa.M Go.Proofs.Ytmmljeekonechaa.Mv Go.Proofs.Ytmmljeekonechaa.Sl Go.Proofs.Ytmmljeekonechaa.Sm Go.Proofs.Ytmmljeekonechaa.Sn Go.Proofs.Ytmmljeekonechaa.Ls Go.Proofs.Ytmmljeekonechaa.Eq

set_option linter.unusedVariables false
set_option linter.unusedSimpArgs false
set_option maxRecDepth 100000
/-- A fault. -/
structure F2 where
  kind : Int
  level : Int
deriving DecidableEq
def F2.cells (x : F2) : Array Value := #[.int .i64 x.kind, .int .i64 x.level]
instance : Rec F2 2 := ⟨F2.cells, fun _ => rfl, fun _ => by simp [F2.cells, Value.oneCell'], by decide⟩
def D7.cells (d : D7) : Array Value := #[.int .i64 d.kind, .int .u64 d.out, .bool d.user, .bool d.write, .bool d.exec, .bool d.used, .int .i64 d.attr]
instance : Rec D7 7 := ⟨D7.cells, fun _ => rfl, fun _ => by simp [D7.cells, Value.oneCell'], by decide⟩
/-- A leaf. -/
structure L8 where
  lev : Int
  kind : Int
  out : Int
  user : Bool
  write : Bool
  exec : Bool
  used : Bool
  attr : Int
deriving DecidableEq
def L8.cells (d : L8) : Array Value := #[.int .i64 d.lev, .int .i64 d.kind, .int .u64 d.out, .bool d.user, .bool d.write, .bool d.exec, .bool d.used, .int .i64 d.attr]
instance : Rec L8 8 := ⟨L8.cells, fun _ => rfl, fun _ => by simp [L8.cells, Value.oneCell'], by decide⟩
def l8 (l : Int) (d : D7) : L8 := ⟨l, d.kind, d.out, d.user, d.write, d.exec, d.used, d.attr⟩
theorem l8_eq (l m : Int) (d e : D7) : l8 l d = l8 m e ↔ l = m ∧ d = e := by
  cases d; cases e
  simp [l8]
theorem eqF_and (e f : F2) : decide (e = f) = (decide (e.kind = f.kind) && decide (e.level = f.level)) := by
  cases e; cases f
  rw [Bool.eq_iff_iff]
  simp
set_option maxHeartbeats 2000000 in
theorem eqF : EqR Try.prog 58 F2 := by
  refine ⟨by kernel_rfl, fun e f w => ?_⟩
  rw [eqF_and]
  simp [go_sem, Rec.cells, F2.cells]
  by_cases h : e.kind = f.kind
  case neg => simp [h]
  rw [if_pos h, decide_eq_true h, Bool.true_and]; clear h
  by_cases h : e.level = f.level <;> simp [h]
theorem eqF2_and (e f : F2) : decide (e = f) = (decide (e.kind = f.kind) && decide (e.level = f.level)) := by
  cases e; cases f
  rw [Bool.eq_iff_iff]
  simp
theorem eqD_and (e f : D7) : decide (e = f) = (decide (e.kind = f.kind) && (decide (e.out = f.out) && (decide (e.user = f.user) && (decide (e.write = f.write) && (decide (e.exec = f.exec) && (decide (e.used = f.used) && decide (e.attr = f.attr))))))) := by
  cases e; cases f
  rw [Bool.eq_iff_iff]
  simp
set_option maxHeartbeats 2000000 in
theorem eqD : EqR Try.prog 54 D7 := by
  refine ⟨by kernel_rfl, fun e f w => ?_⟩
  rw [eqD_and]
  simp [go_sem, Rec.cells, D7.cells]
  by_cases h : e.kind = f.kind
  case neg => simp [h]
  rw [if_pos h, decide_eq_true h, Bool.true_and]; clear h
  by_cases h : e.out = f.out
  case neg => simp [h]
  rw [if_pos h, decide_eq_true h, Bool.true_and]; clear h
  by_cases h : e.user = f.user
  case neg => simp [h]
  rw [if_pos h, decide_eq_true h, Bool.true_and]; clear h
  by_cases h : e.write = f.write
  case neg => simp [h]
  rw [if_pos h, decide_eq_true h, Bool.true_and]; clear h
  by_cases h : e.exec = f.exec
  case neg => simp [h]
  rw [if_pos h, decide_eq_true h, Bool.true_and]; clear h
  by_cases h : e.used = f.used
  case neg => simp [h]
  rw [if_pos h, decide_eq_true h, Bool.true_and]; clear h
  by_cases h : e.attr = f.attr <;> simp [h]
theorem eqD2_and (e f : D7) : decide (e = f) = (decide (e.kind = f.kind) && (decide (e.out = f.out) && (decide (e.user = f.user) && (decide (e.write = f.write) && (decide (e.exec = f.exec) && (decide (e.used = f.used) && decide (e.attr = f.attr))))))) := by
  cases e; cases f
  rw [Bool.eq_iff_iff]
  simp
set_option maxHeartbeats 2000000 in
theorem eqD2 : EqR Try.prog 98 D7 := by
  refine ⟨by kernel_rfl, fun e f w => ?_⟩
  rw [eqD2_and]
  simp [go_sem, Rec.cells, D7.cells]
  by_cases h : e.kind = f.kind
  case neg => simp [h]
  rw [if_pos h, decide_eq_true h, Bool.true_and]; clear h
  by_cases h : e.out = f.out
  case neg => simp [h]
  rw [if_pos h, decide_eq_true h, Bool.true_and]; clear h
  by_cases h : e.user = f.user
  case neg => simp [h]
  rw [if_pos h, decide_eq_true h, Bool.true_and]; clear h
  by_cases h : e.write = f.write
  case neg => simp [h]
  rw [if_pos h, decide_eq_true h, Bool.true_and]; clear h
  by_cases h : e.exec = f.exec
  case neg => simp [h]
  rw [if_pos h, decide_eq_true h, Bool.true_and]; clear h
  by_cases h : e.used = f.used
  case neg => simp [h]
  rw [if_pos h, decide_eq_true h, Bool.true_and]; clear h
  by_cases h : e.attr = f.attr <;> simp [h]
theorem eqL_and (e f : L8) : decide (e = f) = (decide (e.lev = f.lev) && (decide (e.kind = f.kind) && (decide (e.out = f.out) && (decide (e.user = f.user) && (decide (e.write = f.write) && (decide (e.exec = f.exec) && (decide (e.used = f.used) && decide (e.attr = f.attr)))))))) := by
  cases e; cases f
  rw [Bool.eq_iff_iff]
  simp
set_option maxHeartbeats 2000000 in
theorem eqL : EqR Try.prog 56 L8 := by
  refine ⟨by kernel_rfl, fun e f w => ?_⟩
  rw [eqL_and]
  simp [go_sem, Rec.cells, L8.cells]
  by_cases h : e.lev = f.lev
  case neg => simp [h]
  rw [if_pos h, decide_eq_true h, Bool.true_and]; clear h
  by_cases h : e.kind = f.kind
  case neg => simp [h]
  rw [if_pos h, decide_eq_true h, Bool.true_and]; clear h
  by_cases h : e.out = f.out
  case neg => simp [h]
  rw [if_pos h, decide_eq_true h, Bool.true_and]; clear h
  by_cases h : e.user = f.user
  case neg => simp [h]
  rw [if_pos h, decide_eq_true h, Bool.true_and]; clear h
  by_cases h : e.write = f.write
  case neg => simp [h]
  rw [if_pos h, decide_eq_true h, Bool.true_and]; clear h
  by_cases h : e.exec = f.exec
  case neg => simp [h]
  rw [if_pos h, decide_eq_true h, Bool.true_and]; clear h
  by_cases h : e.used = f.used
  case neg => simp [h]
  rw [if_pos h, decide_eq_true h, Bool.true_and]; clear h
  by_cases h : e.attr = f.attr <;> simp [h]
end Go.Proofs.Ytmmljeekonechaa.Yl
