/- Marks among the arguments: a slice of them. -/
import Derived.Test.YtmmljeekonechaaProg
import Derived.Test.YtmmljeekonechaaZb
import Derived.Test.YtmmljeekonechaaR
import Derived.Deep.Slices
namespace Go.Proofs.Ytmmljeekonechaa.Zr
open Go.ChangeShapes Go.WideShapes Go.ChangeAt Go.RowKit Go.Proofs.Ytmmljeekonechaa.Sm Go.Proofs.Ytmmljeekonechaa.Za Go.Proofs.Ytmmljeekonechaa.R
set_option linter.unusedVariables false
set_option linter.unusedSimpArgs false
set_option maxRecDepth 100000
instance : Inhabited K := ⟨K.zero⟩
theorem list4 {l : List Value} (h : l.length = 4) : ∃ a b c d, l = [a, b, c, d] := by
  match l, h with
  | [a, b, c, d], _ => exact ⟨a, b, c, d, rfl⟩
section
variable {H : Type} {enc : TypeId × Value → H} {w : World} {base : Nat} {spare : Nat → Bool} {held : Bool} {n : Nat}
theorem mark_of {cs : List Value} {y : DataW H × List MemPlace} (h : DataW.trod enc Try.prog w base spare held n 30 cs = some y) : ∃ e : K, cs = e.cells.toList ∧ e.ok := by
  obtain ⟨m, hl, hf⟩ := struct_cells Try.underlying30 h
  rw [show Try.prog.cellsOf 30 = 4 by kernel_rfl] at hl
  obtain ⟨x0, x1, x2, x3, rfl⟩ := list4 hl
  obtain ⟨y0, h0⟩ := hf 0 _ rfl
  obtain ⟨y1, h1⟩ := hf 1 _ rfl
  obtain ⟨y2, h2⟩ := hf 2 _ rfl
  obtain ⟨y3, h3⟩ := hf 3 _ rfl
  replace h0 : DataW.trod enc Try.prog w base spare held m 3 (([x0, x1, x2, x3].drop 0).take (Try.prog.cellsOf 3)) = some y0 := h0
  replace h1 : DataW.trod enc Try.prog w base spare held m 23 (([x0, x1, x2, x3].drop 1).take (Try.prog.cellsOf 23)) = some y1 := h1
  replace h2 : DataW.trod enc Try.prog w base spare held m 3 (([x0, x1, x2, x3].drop 2).take (Try.prog.cellsOf 3)) = some y2 := h2
  replace h3 : DataW.trod enc Try.prog w base spare held m 23 (([x0, x1, x2, x3].drop 3).take (Try.prog.cellsOf 23)) = some y3 := h3
  rw [show Try.prog.cellsOf 3 = 1 by kernel_rfl] at h0 h2
  rw [show Try.prog.cellsOf 23 = 1 by kernel_rfl] at h1 h3
  simp only [List.drop_succ_cons, List.drop_zero, List.take_succ_cons, List.take_zero] at h0 h1 h2 h3
  obtain ⟨a, rfl, -⟩ := cell_int Try.underlying3 h0
  obtain ⟨b, rfl, wb⟩ := cell_int Try.underlying23 h1
  obtain ⟨c, rfl, -⟩ := cell_int Try.underlying3 h2
  obtain ⟨d, rfl, wd⟩ := cell_int Try.underlying23 h3
  have b1 := bd_u64 wb
  have b2 := bd_u64 wd
  exact ⟨⟨a, b, c, d⟩, rfl, b1.1, b1.2, b2.1, b2.2⟩
/-- A slice of them. -/
theorem val_marks {r : Reach} {b0 : Nat} {v : Value} {d : DataW H} {p : List MemPlace} (hv : Value.okWide Try.prog w r b0 22 v) (h : DataW.Trod enc Try.prog w base spare held 22 v d p) :
    ∃ (n c : Nat) (ao : Option Addr) (es : Nat → K), v = .slice ao n c ∧ n ≤ maxLen ∧ ∀ i, i < n → K.ok (es i) ∧ ∃ a, ao = some a ∧ ∀ j x, (es i).cells.toList[j]? = some x → w.cell? (a.add (i * 4 + j)) = some x := by
  obtain ⟨a0, len, cap, rfl⟩ := okWide_slice Try.underlying22 hv
  obtain ⟨fuel, hf⟩ := h
  rcases Go.Deep.open_slice Try.underlying22 hf with ⟨hcs, -⟩ | ⟨a, len', cap', m, n, D, Pl, hcs, -, hl, hm, hmm, -, hx⟩
  · simp [Value.cells] at hcs
    obtain ⟨rfl, rfl, rfl⟩ := hcs
    exact ⟨0, 0, none, fun _ => default, rfl, Nat.zero_le _, fun i hi => absurd hi (Nat.not_lt_zero _)⟩
  · simp [Value.cells] at hcs
    obtain ⟨rfl, rfl, rfl⟩ := hcs
    have hle : len ≤ m := by rw [hmm]; split <;> omega
    have key : ∀ i, i < len → ∃ e : K, K.ok e ∧ ∀ j x, e.cells.toList[j]? = some x → w.cell? (a.add (i * 4 + j)) = some x := fun i hi => by
      obtain ⟨cs', hc1, htr⟩ := hx i (by omega)
      rw [show Try.prog.cellsOf 30 = 4 by kernel_rfl] at hc1
      obtain ⟨-, hlen, hcell⟩ := World.cells?_some hc1
      obtain ⟨e, rfl, hok⟩ := mark_of htr
      refine ⟨e, hok, fun j x hj => ?_⟩
      have hj2 : j < 4 := (List.getElem?_eq_some_iff.1 hj).1
      rw [← add_add, hcell j hj2]
      exact hj
    obtain ⟨f, hf'⟩ := Go.Deep.choose_lt key
    exact ⟨len, cap, some a, f, rfl, by omega, fun i hi => ⟨(hf' i hi).1, a, rfl, (hf' i hi).2⟩⟩
end
end Go.Proofs.Ytmmljeekonechaa.Zr
