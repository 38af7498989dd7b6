/- Entries among the arguments: a slice of them. -/
import Derived.Test.YtccbpcdepgnmgaaProg
import Derived.Test.YtccbpcdepgnmgaaTe
import Derived.Test.YtccbpcdepgnmgaaR
import Derived.Deep.Slices
namespace Go.Proofs.Ytccbpcdepgnmgaa.Tr
open Go.ChangeShapes Go.WideShapes Go.ChangeAt Go.RowKit Go.Proofs.Ytccbpcdepgnmgaa.Sm Go.Proofs.Ytccbpcdepgnmgaa.Te Go.Proofs.Ytccbpcdepgnmgaa.R
set_option linter.unusedVariables false
set_option linter.unusedSimpArgs false
instance : Inhabited E := ⟨E.zero⟩
section
variable {H : Type} {enc : TypeId × Value → H} {w : World} {base : Nat} {spare : Nat → Bool} {held : Bool} {n : Nat}
theorem entry_of {cs : List Value} {y : DataW H × List MemPlace} (h : DataW.trod enc Try.prog w base spare held n 26 cs = some y) : ∃ e : E, cs = e.cells.toList ∧ e.ok := by
  obtain ⟨m, hl, hf⟩ := struct_cells Try.underlying26 h
  rw [show Try.prog.cellsOf 26 = 10 by kernel_rfl] at hl
  obtain ⟨x0, x1, x2, x3, x4, x5, x6, x7, x8, x9, rfl⟩ := list10 hl
  obtain ⟨y0, h0⟩ := hf 0 _ rfl
  obtain ⟨y1, h1⟩ := hf 1 _ rfl
  obtain ⟨y2, h2⟩ := hf 2 _ rfl
  obtain ⟨y3, h3⟩ := hf 3 _ rfl
  replace h0 : DataW.trod enc Try.prog w base spare held m 3 (([x0, x1, x2, x3, x4, x5, x6, x7, x8, x9].drop 0).take (Try.prog.cellsOf 3)) = some y0 := h0
  replace h1 : DataW.trod enc Try.prog w base spare held m 22 (([x0, x1, x2, x3, x4, x5, x6, x7, x8, x9].drop 1).take (Try.prog.cellsOf 22)) = some y1 := h1
  replace h2 : DataW.trod enc Try.prog w base spare held m 3 (([x0, x1, x2, x3, x4, x5, x6, x7, x8, x9].drop 2).take (Try.prog.cellsOf 3)) = some y2 := h2
  replace h3 : DataW.trod enc Try.prog w base spare held m 24 (([x0, x1, x2, x3, x4, x5, x6, x7, x8, x9].drop 3).take (Try.prog.cellsOf 24)) = some y3 := h3
  rw [show Try.prog.cellsOf 3 = 1 by kernel_rfl] at h0 h2
  rw [show Try.prog.cellsOf 22 = 1 by kernel_rfl] at h1
  rw [show Try.prog.cellsOf 24 = 7 by kernel_rfl] at h3
  simp only [List.drop_succ_cons, List.drop_zero, List.take_succ_cons, List.take_zero] at h0 h1 h2 h3
  obtain ⟨asid, rfl, -⟩ := cell_int Try.underlying3 h0
  obtain ⟨va, rfl, wva⟩ := cell_int Try.underlying22 h1
  obtain ⟨level, rfl, -⟩ := cell_int Try.underlying3 h2
  obtain ⟨m', hl', hg⟩ := struct_cells Try.underlying24 h3
  obtain ⟨z0, g0⟩ := hg 0 _ rfl
  obtain ⟨z1, g1⟩ := hg 1 _ rfl
  obtain ⟨z2, g2⟩ := hg 2 _ rfl
  obtain ⟨z3, g3⟩ := hg 3 _ rfl
  obtain ⟨z4, g4⟩ := hg 4 _ rfl
  obtain ⟨z5, g5⟩ := hg 5 _ rfl
  obtain ⟨z6, g6⟩ := hg 6 _ rfl
  replace g0 : DataW.trod enc Try.prog w base spare held m' 3 (([x3, x4, x5, x6, x7, x8, x9].drop 0).take (Try.prog.cellsOf 3)) = some z0 := g0
  replace g1 : DataW.trod enc Try.prog w base spare held m' 22 (([x3, x4, x5, x6, x7, x8, x9].drop 1).take (Try.prog.cellsOf 22)) = some z1 := g1
  replace g2 : DataW.trod enc Try.prog w base spare held m' 4 (([x3, x4, x5, x6, x7, x8, x9].drop 2).take (Try.prog.cellsOf 4)) = some z2 := g2
  replace g3 : DataW.trod enc Try.prog w base spare held m' 4 (([x3, x4, x5, x6, x7, x8, x9].drop 3).take (Try.prog.cellsOf 4)) = some z3 := g3
  replace g4 : DataW.trod enc Try.prog w base spare held m' 4 (([x3, x4, x5, x6, x7, x8, x9].drop 4).take (Try.prog.cellsOf 4)) = some z4 := g4
  replace g5 : DataW.trod enc Try.prog w base spare held m' 4 (([x3, x4, x5, x6, x7, x8, x9].drop 5).take (Try.prog.cellsOf 4)) = some z5 := g5
  replace g6 : DataW.trod enc Try.prog w base spare held m' 3 (([x3, x4, x5, x6, x7, x8, x9].drop 6).take (Try.prog.cellsOf 3)) = some z6 := g6
  rw [show Try.prog.cellsOf 3 = 1 by kernel_rfl] at g0 g6
  rw [show Try.prog.cellsOf 22 = 1 by kernel_rfl] at g1
  rw [show Try.prog.cellsOf 4 = 1 by kernel_rfl] at g2 g3 g4 g5
  simp only [List.drop_succ_cons, List.drop_zero, List.take_succ_cons, List.take_zero] at g0 g1 g2 g3 g4 g5 g6
  obtain ⟨kind, rfl, -⟩ := cell_int Try.underlying3 g0
  obtain ⟨out, rfl, wout⟩ := cell_int Try.underlying22 g1
  obtain ⟨user, rfl⟩ := cell_bool Try.underlying4 g2
  obtain ⟨write, rfl⟩ := cell_bool Try.underlying4 g3
  obtain ⟨exec, rfl⟩ := cell_bool Try.underlying4 g4
  obtain ⟨used, rfl⟩ := cell_bool Try.underlying4 g5
  obtain ⟨attr, rfl, -⟩ := cell_int Try.underlying3 g6
  have b1 := bd_u64 wva
  have b2 := bd_u64 wout
  exact ⟨⟨asid, va, level, kind, out, user, write, exec, used, attr⟩, rfl, b1.1, b1.2, b2.1, b2.2⟩
/-- A slice of entries. -/
theorem val_entries {r : Reach} {b0 : Nat} {v : Value} {d : DataW H} {p : List MemPlace} (hv : Value.okWide Try.prog w r b0 36 v) (h : DataW.Trod enc Try.prog w base spare held 36 v d p) :
    ∃ (n c : Nat) (ao : Option Addr) (es : Nat → E), v = .slice ao n c ∧ n ≤ maxLen ∧ ∀ i, i < n → (es i).ok ∧ ∃ a, ao = some a ∧ ∀ j x, (es i).cells.toList[j]? = some x → w.cell? (a.add (i * 10 + j)) = some x := by
  obtain ⟨a0, len, cap, rfl⟩ := okWide_slice Try.underlying36 hv
  obtain ⟨fuel, hf⟩ := h
  rcases Go.Deep.open_slice Try.underlying36 hf with ⟨hcs, -⟩ | ⟨a, len', cap', m, n, D, Pl, hcs, -, hl, hm, hmm, -, hx⟩
  · simp [Value.cells] at hcs
    obtain ⟨rfl, rfl, rfl⟩ := hcs
    exact ⟨0, 0, none, fun _ => E.zero, rfl, Nat.zero_le _, fun i hi => absurd hi (Nat.not_lt_zero _)⟩
  · simp [Value.cells] at hcs
    obtain ⟨rfl, rfl, rfl⟩ := hcs
    have hle : len ≤ m := by rw [hmm]; split <;> omega
    have key : ∀ i, i < len → ∃ e : E, e.ok ∧ ∀ j x, e.cells.toList[j]? = some x → w.cell? (a.add (i * 10 + j)) = some x := fun i hi => by
      obtain ⟨cs', hc1, htr⟩ := hx i (by omega)
      rw [show Try.prog.cellsOf 26 = 10 by kernel_rfl] at hc1
      obtain ⟨-, hlen, hcell⟩ := World.cells?_some hc1
      obtain ⟨e, rfl, hok⟩ := entry_of htr
      refine ⟨e, hok, fun j x hj => ?_⟩
      have hj2 : j < 10 := (List.getElem?_eq_some_iff.1 hj).1
      rw [← add_add, hcell j hj2]
      exact hj
    obtain ⟨f, hf'⟩ := Go.Deep.choose_lt key
    exact ⟨len, cap, some a, f, rfl, by omega, fun i hi => ⟨(hf' i hi).1, a, rfl, (hf' i hi).2⟩⟩
end
end Go.Proofs.Ytccbpcdepgnmgaa.Tr
