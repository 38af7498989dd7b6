/- Results of a function out of memory: a struct, a struct beside a value. Over any program. -/
import Derived.Test.YtndeaikmelpflaaM
namespace Go.Proofs.Ytndeaikmelpflaa.Mv
open Go.RowKit Go.Proofs.Ytndeaikmelpflaa.G Go.Proofs.Ytndeaikmelpflaa.M
set_option linter.unusedVariables false
section
variable {P : Program} {w0 W : World} {M : List Nat} {L : Hp}
/-- Results: a struct in memory and a value. -/
theorem res_ct (HM : Mem w0 M L W) {fn : Func} {p u : Tmp} {ty : TypeId} (h : fn.results = #[.cell p ty, .tmp u]) (tmps : Array Value) (i g : Nat) (t : TypeId) (cs : Array Value) (hi : L[i]? = some (g, row cs t))
    (hp : tmps.getD p undef = .pointer (some ⟨g, 0, none⟩)) (hagg : aggB P ty = true) (hs : sizB P ty cs.size = true) : (results fn tmps).run P W = .ok (.tuple #[.agg cs, tmps.getD u undef]) W := by
  have hl' : (loadVar ty ⟨g, 0, none⟩).run P W = .ok (.agg cs) W := by simpa [Instr.loadAt, Instr.sureAddr] using run_load_row (P := P) (W := W) hagg hs (HM.get i hi)
  have hp' : tmps[p]?.getD undef = .pointer (some ⟨g, 0, none⟩) := by simpa using hp
  simp [results, h, hp', asAddr, hl']
/-- A result: a struct in memory. -/
theorem res_c (HM : Mem w0 M L W) {fn : Func} {p : Tmp} {ty : TypeId} (h : fn.results = #[.cell p ty]) (tmps : Array Value) (i g : Nat) (t : TypeId) (cs : Array Value) (hi : L[i]? = some (g, row cs t))
    (hp : tmps.getD p undef = .pointer (some ⟨g, 0, none⟩)) (hagg : aggB P ty = true) (hs : sizB P ty cs.size = true) : (results fn tmps).run P W = .ok (.agg cs) W := by
  have hl' : (loadVar ty ⟨g, 0, none⟩).run P W = .ok (.agg cs) W := by simpa [Instr.loadAt, Instr.sureAddr] using run_load_row (P := P) (W := W) hagg hs (HM.get i hi)
  have hp' : tmps[p]?.getD undef = .pointer (some ⟨g, 0, none⟩) := by simpa using hp
  simp [results, h, hp', asAddr, hl']
end
end Go.Proofs.Ytndeaikmelpflaa.Mv
