/- Words at addresses among the arguments: a slice of them. -/
import Derived.Test.YtfnmdelkdombbaaProg
import Derived.Test.YtfnmdelkdombbaaYf
import Derived.Test.YtfnmdelkdombbaaR
import Derived.Deep.Slices
namespace Go.Proofs.Ytfnmdelkdombbaa.Yr
open Go.ChangeShapes Go.WideShapes Go.ChangeAt Go.RowKit Go.Proofs.Ytfnmdelkdombbaa.Sm Go.Proofs.Ytfnmdelkdombbaa.Yd Go.Proofs.Ytfnmdelkdombbaa.Yf Go.Proofs.Ytfnmdelkdombbaa.R
set_option linter.unusedVariables false
set_option linter.unusedSimpArgs false
set_option maxRecDepth 100000
instance : Inhabited W2 := ⟨⟨0, 0⟩⟩
section
variable {H : Type} {enc : TypeId × Value → H} {w : World} {base : Nat} {spare : Nat → Bool} {held : Bool} {n : Nat}
theorem step_of {cs : List Value} {y : DataW H × List MemPlace} (h : DataW.trod enc Try.prog w base spare held n 48 cs = some y) : ∃ e : W2, cs = e.cells.toList ∧ W2.ok e := by
  obtain ⟨m, hl, hf⟩ := struct_cells Try.underlying48 h
  rw [show Try.prog.cellsOf 48 = 2 by kernel_rfl] at hl
  obtain ⟨x0, x1, rfl⟩ := list2 hl
  obtain ⟨y0, h0⟩ := hf 0 _ rfl
  obtain ⟨y1, h1⟩ := hf 1 _ rfl
  replace h0 : DataW.trod enc Try.prog w base spare held m 22 (([x0, x1].drop 0).take (Try.prog.cellsOf 22)) = some y0 := h0
  replace h1 : DataW.trod enc Try.prog w base spare held m 22 (([x0, x1].drop 1).take (Try.prog.cellsOf 22)) = some y1 := h1
  rw [show Try.prog.cellsOf 22 = 1 by kernel_rfl] at h0 h1
  simp only [List.drop_succ_cons, List.drop_zero, List.take_succ_cons, List.take_zero] at h0 h1
  obtain ⟨a, rfl, wa⟩ := cell_int Try.underlying22 h0
  obtain ⟨b, rfl, wb⟩ := cell_int Try.underlying22 h1
  have b1 := bd_u64 wa
  have b2 := bd_u64 wb
  exact ⟨⟨a, b⟩, rfl, ⟨b1.1, b1.2⟩, b2.1, b2.2⟩
/-- A slice of them. -/
theorem val_steps {r : Reach} {b0 : Nat} {v : Value} {d : DataW H} {p : List MemPlace} (hv : Value.okWide Try.prog w r b0 23 v) (h : DataW.Trod enc Try.prog w base spare held 23 v d p) :
    ∃ (n c : Nat) (ao : Option Addr) (es : Nat → W2), v = .slice ao n c ∧ n ≤ maxLen ∧ ∀ i, i < n → W2.ok (es i) ∧ ∃ a, ao = some a ∧ ∀ j x, (es i).cells.toList[j]? = some x → w.cell? (a.add (i * 2 + j)) = some x := by
  obtain ⟨a0, len, cap, rfl⟩ := okWide_slice Try.underlying23 hv
  obtain ⟨fuel, hf⟩ := h
  rcases Go.Deep.open_slice Try.underlying23 hf with ⟨hcs, -⟩ | ⟨a, len', cap', m, n, D, Pl, hcs, -, hl, hm, hmm, -, hx⟩
  · simp [Value.cells] at hcs
    obtain ⟨rfl, rfl, rfl⟩ := hcs
    exact ⟨0, 0, none, fun _ => default, rfl, Nat.zero_le _, fun i hi => absurd hi (Nat.not_lt_zero _)⟩
  · simp [Value.cells] at hcs
    obtain ⟨rfl, rfl, rfl⟩ := hcs
    have hle : len ≤ m := by rw [hmm]; split <;> omega
    have key : ∀ i, i < len → ∃ e : W2, W2.ok e ∧ ∀ j x, e.cells.toList[j]? = some x → w.cell? (a.add (i * 2 + j)) = some x := fun i hi => by
      obtain ⟨cs', hc1, htr⟩ := hx i (by omega)
      rw [show Try.prog.cellsOf 48 = 2 by kernel_rfl] at hc1
      obtain ⟨-, hlen, hcell⟩ := World.cells?_some hc1
      obtain ⟨e, rfl, hok⟩ := step_of htr
      refine ⟨e, hok, fun j x hj => ?_⟩
      have hj2 : j < 2 := (List.getElem?_eq_some_iff.1 hj).1
      rw [← add_add, hcell j hj2]
      exact hj
    obtain ⟨f, hf'⟩ := Go.Deep.choose_lt key
    exact ⟨len, cap, some a, f, rfl, by omega, fun i hi => ⟨(hf' i hi).1, a, rfl, (hf' i hi).2⟩⟩
end
end Go.Proofs.Ytfnmdelkdombbaa.Yr
