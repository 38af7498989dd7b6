/- Small laws for the rows: slices of whole numbers. Over any program. -/
import Derived.Test.YtmmljeekonechaaR
import Derived.Test.YtmmljeekonechaaSm
import Derived.Deep.Slices
namespace Go.Proofs.Ytmmljeekonechaa.Rs
open Go.ChangeShapes Go.WideShapes Go.ChangeAt Go.RowKit Go.Proofs.Ytmmljeekonechaa.Sm
set_option linter.unusedVariables false
set_option linter.unusedSimpArgs false
section
variable {H : Type} {enc : TypeId × Value → H} {P : Program} {w : World} {base : Nat} {spare : Nat → Bool} {held : Bool} {n : Nat}
theorem cell_ints {t e : TypeId} {k : IntKind} {c : Value} {y : DataW H × List MemPlace} (ht : P.underlying t = some (.slice e)) (he : P.underlying e = some (.int k)) (hc : P.cellsOf e = 1) (h : DataW.trod enc P w base spare held n t [c] = some y) :
    ∃ xs, ArgS w k c xs ∧ ∀ x ∈ xs, (Lit.int k x).wf = true := by
  rcases open_ints ht he hc h with ⟨h1, -⟩ | ⟨a, len, cap, zs, h1, -, hl, hm, hz, -, hcell, hwf⟩
  · simp at h1
    exact ⟨[], .inl ⟨h1, rfl⟩, by simp⟩
  · simp at h1
    have hlz : len ≤ zs.length := by rw [hz]; split <;> omega
    have hlen : (zs.take len).length = len := by simp; omega
    refine ⟨zs.take len, .inr ⟨a, cap, by rw [hlen]; exact h1, by rw [hlen]; exact hl, hm, fun j hj => ?_⟩, fun x hx => hwf x (List.mem_of_mem_take hx)⟩
    rw [hlen] at hj
    rw [hcell j (by omega)]
    simp only [List.getD_eq_getElem?_getD, List.getElem?_take, hj, if_true]
theorem val_ints {r : Reach} {b0 : Nat} {t e : TypeId} {k : IntKind} {v : Value} {d : DataW H} {p : List MemPlace} (ht : P.underlying t = some (.slice e)) (he : P.underlying e = some (.int k)) (hc : P.cellsOf e = 1) (hv : Value.okWide P w r b0 t v) (h : DataW.Trod enc P w base spare held t v d p) :
    ∃ xs, ArgS w k v xs ∧ ∀ x ∈ xs, (Lit.int k x).wf = true := by
  obtain ⟨a0, len, cap, rfl⟩ := okWide_slice ht hv
  obtain ⟨fuel, hf⟩ := h
  exact cell_ints ht he hc hf
/-- A slice of structs of two whole numbers. -/
theorem val_pairs {r : Reach} {b0 : Nat} {t e : TypeId} {fs : Array Field} {f0 f1 : Field} {v : Value} {d : DataW H} {p : List MemPlace} (ht : P.underlying t = some (.slice e)) (he : P.underlying e = some (.struct fs)) (hc : P.cellsOf e = 2) (h0 : fs[0]? = some f0) (h1 : fs[1]? = some f1)
    (t0 : P.underlying f0.type = some (.int .i64)) (t1 : P.underlying f1.type = some (.int .i64)) (c0 : P.cellsOf f0.type = 1) (c1 : P.cellsOf f1.type = 1) (o0 : f0.offset = 0) (o1 : f1.offset = 1) (hv : Value.okWide P w r b0 t v) (h : DataW.Trod enc P w base spare held t v d p) :
    ∃ (n c : Nat) (ao : Option Addr) (kd vs : Nat → Int), v = .slice ao n c ∧ n ≤ maxLen ∧ ∀ i, i < n → ∃ a, ao = some a ∧ ∀ j x, [Value.int .i64 (kd i), .int .i64 (vs i)][j]? = some x → w.cell? (a.add (i * 2 + j)) = some x := by
  obtain ⟨a0, len, cap, rfl⟩ := okWide_slice ht hv
  obtain ⟨fuel, hf⟩ := h
  rcases Go.Deep.open_slice ht hf with ⟨hcs, -⟩ | ⟨a, len', cap', m, n, D, Pl, hcs, -, hl, hm, hmm, -, hx⟩
  · simp [Value.cells] at hcs
    obtain ⟨rfl, rfl, rfl⟩ := hcs
    exact ⟨0, 0, none, fun _ => 0, fun _ => 0, rfl, Nat.zero_le _, fun i hi => absurd hi (Nat.not_lt_zero _)⟩
  · simp [Value.cells] at hcs
    obtain ⟨rfl, rfl, rfl⟩ := hcs
    have hle : len ≤ m := by rw [hmm]; split <;> omega
    have key : ∀ i, i < len → ∃ q : Int × Int, ∀ j x, [Value.int .i64 q.1, .int .i64 q.2][j]? = some x → w.cell? (a.add (i * 2 + j)) = some x := fun i hi => by
      obtain ⟨cs', hc1, htr⟩ := hx i (by omega)
      rw [hc] at hc1
      obtain ⟨-, hlen, hcell⟩ := World.cells?_some hc1
      obtain ⟨q, hlq, hfl⟩ := R.struct_cells he htr
      obtain ⟨y0, hy0⟩ := hfl 0 f0 h0
      obtain ⟨y1, hy1⟩ := hfl 1 f1 h1
      rw [o0, c0] at hy0
      rw [o1, c1] at hy1
      match cs', hlen with
      | [x0, x1], _ =>
        simp only [List.drop_succ_cons, List.drop_zero, List.take_succ_cons, List.take_zero] at hy0 hy1
        obtain ⟨k0, rfl, -⟩ := R.cell_int t0 hy0
        obtain ⟨k1, rfl, -⟩ := R.cell_int t1 hy1
        refine ⟨(k0, k1), fun j x hj => ?_⟩
        have hj2 : j < 2 := by simpa using (List.getElem?_eq_some_iff.1 hj).1
        rw [← add_add, hcell j hj2]
        exact hj
    obtain ⟨f, hf'⟩ := Go.Deep.choose_lt key
    exact ⟨len, cap, some a, fun i => (f i).1, fun i => (f i).2, rfl, by omega, fun i hi => ⟨a, rfl, hf' i hi⟩⟩
end
end Go.Proofs.Ytmmljeekonechaa.Rs
