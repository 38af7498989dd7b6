/- Steps of a play among the arguments: numbers, an entry. -/
import Derived.Test.YtccbpcdepgnmgaaProg
import Derived.Test.YtccbpcdepgnmgaaTr
namespace Go.Proofs.Ytccbpcdepgnmgaa.Ud
open Go.Proofs.Ytccbpcdepgnmgaa.Te (E)
open Go.ChangeShapes Go.WideShapes Go.ChangeAt Go.RowKit Go.Proofs.Ytccbpcdepgnmgaa.Sm Go.Proofs.Ytccbpcdepgnmgaa.R Go.Proofs.Ytccbpcdepgnmgaa.Tr
set_option linter.unusedVariables false
set_option linter.unusedSimpArgs false
set_option maxRecDepth 100000
/-- A step of a play. -/
structure O12 where
  kd : Int
  nn : Int
  e : E
def O12.cells (o : O12) : Array Value := #[.int .i64 o.kd, .int .i64 o.nn, .int .i64 o.e.asid, .int .u64 o.e.va, .int .i64 o.e.level, .int .i64 o.e.kind, .int .u64 o.e.out, .bool o.e.user, .bool o.e.write, .bool o.e.exec, .bool o.e.used, .int .i64 o.e.attr]
theorem list12 {l : List Value} (h : l.length = 12) : ∃ a b c, l = a :: b :: c ∧ c.length = 10 := by
  match l, h with
  | a :: b :: c, h => exact ⟨a, b, c, rfl, by simpa using h⟩
section
variable {H : Type} {enc : TypeId × Value → H} {w : World} {base : Nat} {spare : Nat → Bool} {held : Bool} {n : Nat}
theorem op_of {cs : List Value} {y : DataW H × List MemPlace} (h : DataW.trod enc Try.prog w base spare held n 53 cs = some y) : ∃ o : O12, cs = o.cells.toList ∧ o.e.ok := by
  obtain ⟨m, hl, hf⟩ := struct_cells Try.underlying53 h
  rw [show Try.prog.cellsOf 53 = 12 by kernel_rfl] at hl
  obtain ⟨x0, x1, xs, rfl, hxs⟩ := list12 hl
  obtain ⟨y0, h0⟩ := hf 0 _ rfl
  obtain ⟨y1, h1⟩ := hf 1 _ rfl
  obtain ⟨y2, h2⟩ := hf 2 _ rfl
  replace h0 : DataW.trod enc Try.prog w base spare held m 3 (((x0 :: x1 :: xs).drop 0).take (Try.prog.cellsOf 3)) = some y0 := h0
  replace h1 : DataW.trod enc Try.prog w base spare held m 3 (((x0 :: x1 :: xs).drop 1).take (Try.prog.cellsOf 3)) = some y1 := h1
  replace h2 : DataW.trod enc Try.prog w base spare held m 26 (((x0 :: x1 :: xs).drop 2).take (Try.prog.cellsOf 26)) = some y2 := h2
  rw [show Try.prog.cellsOf 3 = 1 by kernel_rfl] at h0 h1
  rw [show Try.prog.cellsOf 26 = 10 by kernel_rfl] at h2
  simp only [List.drop_succ_cons, List.drop_zero, List.take_succ_cons, List.take_zero] at h0 h1
  simp only [List.drop_succ_cons, List.drop_zero] at h2
  rw [List.take_of_length_le (by omega)] at h2
  obtain ⟨a, rfl, -⟩ := cell_int Try.underlying3 h0
  obtain ⟨b, rfl, -⟩ := cell_int Try.underlying3 h1
  obtain ⟨e, rfl, ho⟩ := entry_of h2
  exact ⟨⟨a, b, e⟩, rfl, ho⟩
/-- A slice of them. -/
theorem val_ops {r : Reach} {b0 : Nat} {v : Value} {d : DataW H} {p : List MemPlace} (hv : Value.okWide Try.prog w r b0 50 v) (h : DataW.Trod enc Try.prog w base spare held 50 v d p) :
    ∃ (n c : Nat) (ao : Option Addr) (es : Nat → O12), v = .slice ao n c ∧ n ≤ maxLen ∧ ∀ i, i < n → (es i).e.ok ∧ ∃ a, ao = some a ∧ ∀ j x, (es i).cells.toList[j]? = some x → w.cell? (a.add (i * 12 + j)) = some x := by
  obtain ⟨a0, len, cap, rfl⟩ := okWide_slice Try.underlying50 hv
  obtain ⟨fuel, hf⟩ := h
  rcases Go.Deep.open_slice Try.underlying50 hf with ⟨hcs, -⟩ | ⟨a, len', cap', m, n, D, Pl, hcs, -, hl, hm, hmm, -, hx⟩
  · simp [Value.cells] at hcs
    obtain ⟨rfl, rfl, rfl⟩ := hcs
    exact ⟨0, 0, none, fun _ => ⟨0, 0, Te.E.zero⟩, rfl, Nat.zero_le _, fun i hi => absurd hi (Nat.not_lt_zero _)⟩
  · simp [Value.cells] at hcs
    obtain ⟨rfl, rfl, rfl⟩ := hcs
    have hle : len ≤ m := by rw [hmm]; split <;> omega
    have : Inhabited O12 := ⟨⟨0, 0, Te.E.zero⟩⟩
    have key : ∀ i, i < len → ∃ e : O12, e.e.ok ∧ ∀ j x, e.cells.toList[j]? = some x → w.cell? (a.add (i * 12 + j)) = some x := fun i hi => by
      obtain ⟨cs', hc1, htr⟩ := hx i (by omega)
      rw [show Try.prog.cellsOf 53 = 12 by kernel_rfl] at hc1
      obtain ⟨-, hlen, hcell⟩ := World.cells?_some hc1
      obtain ⟨e, rfl, hok⟩ := op_of htr
      refine ⟨e, hok, fun j x hj => ?_⟩
      have hj2 : j < 12 := (List.getElem?_eq_some_iff.1 hj).1
      rw [← add_add, hcell j hj2]
      exact hj
    obtain ⟨f, hf'⟩ := Go.Deep.choose_lt key
    exact ⟨len, cap, some a, f, rfl, by omega, fun i hi => ⟨(hf' i hi).1, a, rfl, (hf' i hi).2⟩⟩
end
end Go.Proofs.Ytccbpcdepgnmgaa.Ud
