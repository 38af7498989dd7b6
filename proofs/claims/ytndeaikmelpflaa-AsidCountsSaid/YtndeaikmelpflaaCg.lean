/- Virtual ASIDs: steps of a play among the arguments. -/
import Derived.Test.YtndeaikmelpflaaProg
import Derived.Test.YtndeaikmelpflaaSm
import Derived.Test.YtndeaikmelpflaaR
import Derived.Deep.Slices
namespace Go.Proofs.Ytndeaikmelpflaa.Cg
open Go.ChangeShapes Go.WideShapes Go.ChangeAt Go.RowKit Go.Proofs.Ytndeaikmelpflaa.Sm Go.Proofs.Ytndeaikmelpflaa.R
set_option linter.unusedVariables false
set_option linter.unusedSimpArgs false
set_option maxRecDepth 100000
/-- A step of a play. -/
structure O4 where
  kd : Int
  nn : Int
  mm : Int
  aa : Int
def O4.cells (o : O4) : Array Value := #[.int .i64 o.kd, .int .i64 o.nn, .int .i64 o.mm, .int .u64 o.aa]
def O4.ok (o : O4) : Prop := 0 ≤ o.aa ∧ o.aa < 18446744073709551616 ∧ o.nn < 9223372036854775808
theorem list4 {l : List Value} (h : l.length = 4) : ∃ a b c d, l = [a, b, c, d] := by
  match l, h with
  | [a, b, c, d], _ => exact ⟨a, b, c, d, rfl⟩
section
variable {H : Type} {enc : TypeId × Value → H} {w : World} {base : Nat} {spare : Nat → Bool} {held : Bool} {n : Nat}
theorem op_of {cs : List Value} {y : DataW H × List MemPlace} (h : DataW.trod enc Try.prog w base spare held n 43 cs = some y) : ∃ e : O4, cs = e.cells.toList ∧ e.ok := by
  obtain ⟨m, hl, hf⟩ := struct_cells Try.underlying43 h
  rw [show Try.prog.cellsOf 43 = 4 by kernel_rfl] at hl
  obtain ⟨x0, x1, x2, x3, rfl⟩ := list4 hl
  obtain ⟨y0, h0⟩ := hf 0 _ rfl
  obtain ⟨y1, h1⟩ := hf 1 _ rfl
  obtain ⟨y2, h2⟩ := hf 2 _ rfl
  obtain ⟨y3, h3⟩ := hf 3 _ rfl
  replace h0 : DataW.trod enc Try.prog w base spare held m 3 (([x0, x1, x2, x3].drop 0).take (Try.prog.cellsOf 3)) = some y0 := h0
  replace h1 : DataW.trod enc Try.prog w base spare held m 3 (([x0, x1, x2, x3].drop 1).take (Try.prog.cellsOf 3)) = some y1 := h1
  replace h2 : DataW.trod enc Try.prog w base spare held m 3 (([x0, x1, x2, x3].drop 2).take (Try.prog.cellsOf 3)) = some y2 := h2
  replace h3 : DataW.trod enc Try.prog w base spare held m 25 (([x0, x1, x2, x3].drop 3).take (Try.prog.cellsOf 25)) = some y3 := h3
  rw [show Try.prog.cellsOf 3 = 1 by kernel_rfl] at h0 h1 h2
  rw [show Try.prog.cellsOf 25 = 1 by kernel_rfl] at h3
  simp only [List.drop_succ_cons, List.drop_zero, List.take_succ_cons, List.take_zero] at h0 h1 h2 h3
  obtain ⟨a, rfl, -⟩ := cell_int Try.underlying3 h0
  obtain ⟨b, rfl, wb⟩ := cell_int Try.underlying3 h1
  obtain ⟨c, rfl, -⟩ := cell_int Try.underlying3 h2
  obtain ⟨d, rfl, wd⟩ := cell_int Try.underlying25 h3
  have b1 := bd_i64 wb
  have b2 := bd_u64 wd
  exact ⟨⟨a, b, c, d⟩, rfl, by have := b2.1; show 0 ≤ d; omega, by have := b2.2; show d < _; omega, by have := b1.2; show b < _; omega⟩
/-- A slice of them. -/
theorem val_ops {r : Reach} {b0 : Nat} {v : Value} {d : DataW H} {p : List MemPlace} (hv : Value.okWide Try.prog w r b0 41 v) (h : DataW.Trod enc Try.prog w base spare held 41 v d p) :
    ∃ (n c : Nat) (ao : Option Addr) (es : Nat → O4), v = .slice ao n c ∧ n ≤ maxLen ∧ ∀ i, i < n → (es i).ok ∧ ∃ a, ao = some a ∧ ∀ j x, (es i).cells.toList[j]? = some x → w.cell? (a.add (i * 4 + j)) = some x := by
  obtain ⟨a0, len, cap, rfl⟩ := okWide_slice Try.underlying41 hv
  obtain ⟨fuel, hf⟩ := h
  rcases Go.Deep.open_slice Try.underlying41 hf with ⟨hcs, -⟩ | ⟨a, len', cap', m, n, D, Pl, hcs, -, hl, hm, hmm, -, hx⟩
  · simp [Value.cells] at hcs
    obtain ⟨rfl, rfl, rfl⟩ := hcs
    exact ⟨0, 0, none, fun _ => ⟨0, 0, 0, 0⟩, rfl, Nat.zero_le _, fun i hi => absurd hi (Nat.not_lt_zero _)⟩
  · simp [Value.cells] at hcs
    obtain ⟨rfl, rfl, rfl⟩ := hcs
    have hle : len ≤ m := by rw [hmm]; split <;> omega
    have : Inhabited O4 := ⟨⟨0, 0, 0, 0⟩⟩
    have key : ∀ i, i < len → ∃ e : O4, e.ok ∧ ∀ j x, e.cells.toList[j]? = some x → w.cell? (a.add (i * 4 + j)) = some x := fun i hi => by
      obtain ⟨cs', hc1, htr⟩ := hx i (by omega)
      rw [show Try.prog.cellsOf 43 = 4 by kernel_rfl] at hc1
      obtain ⟨-, hlen, hcell⟩ := World.cells?_some hc1
      obtain ⟨e, rfl, hok⟩ := op_of htr
      refine ⟨e, hok, fun j x hj => ?_⟩
      have hj2 : j < 4 := (List.getElem?_eq_some_iff.1 hj).1
      rw [← add_add, hcell j hj2]
      exact hj
    obtain ⟨f, hf'⟩ := Go.Deep.choose_lt key
    exact ⟨len, cap, some a, f, rfl, by omega, fun i hi => ⟨(hf' i hi).1, a, rfl, (hf' i hi).2⟩⟩
end
end Go.Proofs.Ytndeaikmelpflaa.Cg
