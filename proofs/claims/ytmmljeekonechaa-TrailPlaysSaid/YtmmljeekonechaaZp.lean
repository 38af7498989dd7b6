/- Steps of a play among the arguments: marks, numbers, words of a walk. -/
import Derived.Test.YtmmljeekonechaaProg
import Derived.Test.YtmmljeekonechaaZr
import Derived.Test.YtmmljeekonechaaYr
namespace Go.Proofs.Ytmmljeekonechaa.Zp
open Go.ChangeShapes Go.WideShapes Go.ChangeAt Go.RowKit Go.Proofs.Ytmmljeekonechaa.Sm Go.Proofs.Ytmmljeekonechaa.Za Go.Proofs.Ytmmljeekonechaa.Yd Go.Proofs.Ytmmljeekonechaa.Yf Go.Proofs.Ytmmljeekonechaa.R Go.Proofs.Ytmmljeekonechaa.Zr Go.Proofs.Ytmmljeekonechaa.Yr
set_option linter.unusedVariables false
set_option linter.unusedSimpArgs false
set_option maxRecDepth 100000
/-- A step of a play. -/
structure O7 where
  kd : Int
  nn : Int
  k : K
  ps : Option Addr
  ns : Nat
  cs : Nat
  st : List W2
def O7.cells (o : O7) : Array Value := #[.int .i64 o.kd, .int .i64 o.nn, .int .i64 o.k.asid, .int .u64 o.k.va, .int .i64 o.k.level, .int .u64 o.k.table, .slice o.ps o.ns o.cs]
/-- What its words are in memory. -/
def O7.ok (w : World) (o : O7) : Prop := o.k.ok ∧ o.st.length = o.ns ∧ ∀ (i : Nat) (s : W2), o.st[i]? = some s → W2.ok s ∧ ∃ a, o.ps = some a ∧ ∀ j v, s.cells.toList[j]? = some v → w.cell? (a.add (i * 2 + j)) = some v
instance : Inhabited O7 := ⟨⟨0, 0, K.zero, none, 0, 0, []⟩⟩
theorem list7 {l : List Value} (h : l.length = 7) : ∃ a b c d e f g, l = [a, b, c, d, e, f, g] := by
  match l, h with
  | [a, b, c, d, e, f, g], _ => exact ⟨a, b, c, d, e, f, g, rfl⟩
section
variable {H : Type} {enc : TypeId × Value → H} {w : World} {base : Nat} {spare : Nat → Bool} {held : Bool} {n : Nat}
theorem cell_steps {c : Value} {y : DataW H × List MemPlace} (h : DataW.trod enc Try.prog w base spare held n 40 [c] = some y) :
    ∃ (ps : Option Addr) (ns cs : Nat) (st : List W2), c = .slice ps ns cs ∧ st.length = ns ∧ ∀ (i : Nat) (s : W2), st[i]? = some s → W2.ok s ∧ ∃ a, ps = some a ∧ ∀ j v, s.cells.toList[j]? = some v → w.cell? (a.add (i * 2 + j)) = some v := by
  rcases Go.Deep.open_slice Try.underlying40 h with ⟨hcs, -⟩ | ⟨a, len, cap, m, n, D, Pl, hcs, -, hl, hm, hmm, -, hx⟩
  · simp at hcs
    exact ⟨none, 0, 0, [], hcs, rfl, fun i s hs => by simp at hs⟩
  · simp at hcs
    have hle : len ≤ m := by rw [hmm]; split <;> omega
    have key : ∀ i, i < len → ∃ e : W2, W2.ok e ∧ ∀ j x, e.cells.toList[j]? = some x → w.cell? (a.add (i * 2 + j)) = some x := fun i hi => by
      obtain ⟨cs', hc1, htr⟩ := hx i (by omega)
      rw [show Try.prog.cellsOf 64 = 2 by kernel_rfl] at hc1
      obtain ⟨-, hlen, hcell⟩ := World.cells?_some hc1
      obtain ⟨e, rfl, hok⟩ := step_of htr
      refine ⟨e, hok, fun j x hj => ?_⟩
      have hj2 : j < 2 := (List.getElem?_eq_some_iff.1 hj).1
      rw [← add_add, hcell j hj2]
      exact hj
    obtain ⟨f, hf'⟩ := Go.Deep.choose_lt key
    refine ⟨some a, len, cap, (List.range len).map f, hcs, by simp, fun i s hs => ?_⟩
    have hi : i < len := by simpa using (List.getElem?_eq_some_iff.1 hs).1
    have he : s = f i := by
      have : ((List.range len).map f)[i]? = some (f i) := by simp [hi]
      rw [this] at hs
      exact (Option.some.inj hs).symm
    subst he
    exact ⟨(hf' i hi).1, a, rfl, (hf' i hi).2⟩
theorem op_of {cs : List Value} {y : DataW H × List MemPlace} (h : DataW.trod enc Try.prog w base spare held n 42 cs = some y) : ∃ e : O7, cs = e.cells.toList ∧ e.ok w := by
  obtain ⟨m, hl, hf⟩ := struct_cells Try.underlying42 h
  rw [show Try.prog.cellsOf 42 = 7 by kernel_rfl] at hl
  obtain ⟨x0, x1, x2, x3, x4, x5, x6, rfl⟩ := list7 hl
  obtain ⟨y0, h0⟩ := hf 0 _ rfl
  obtain ⟨y1, h1⟩ := hf 1 _ rfl
  obtain ⟨y2, h2⟩ := hf 2 _ rfl
  obtain ⟨y3, h3⟩ := hf 3 _ rfl
  replace h0 : DataW.trod enc Try.prog w base spare held m 3 (([x0, x1, x2, x3, x4, x5, x6].drop 0).take (Try.prog.cellsOf 3)) = some y0 := h0
  replace h1 : DataW.trod enc Try.prog w base spare held m 3 (([x0, x1, x2, x3, x4, x5, x6].drop 1).take (Try.prog.cellsOf 3)) = some y1 := h1
  replace h2 : DataW.trod enc Try.prog w base spare held m 30 (([x0, x1, x2, x3, x4, x5, x6].drop 2).take (Try.prog.cellsOf 30)) = some y2 := h2
  replace h3 : DataW.trod enc Try.prog w base spare held m 40 (([x0, x1, x2, x3, x4, x5, x6].drop 6).take (Try.prog.cellsOf 40)) = some y3 := h3
  rw [show Try.prog.cellsOf 3 = 1 by kernel_rfl] at h0 h1
  rw [show Try.prog.cellsOf 30 = 4 by kernel_rfl] at h2
  rw [show Try.prog.cellsOf 40 = 1 by kernel_rfl] at h3
  simp only [List.drop_succ_cons, List.drop_zero, List.take_succ_cons, List.take_zero] at h0 h1 h2 h3
  obtain ⟨a, rfl, -⟩ := cell_int Try.underlying3 h0
  obtain ⟨b, rfl, -⟩ := cell_int Try.underlying3 h1
  obtain ⟨k, hk, ho⟩ := mark_of h2
  obtain ⟨ps, ns, cs, st, rfl, h5, h6⟩ := cell_steps h3
  simp only [K.cells] at hk
  injection hk with e1 hk
  injection hk with e2 hk
  injection hk with e3 hk
  injection hk with e4 hk
  subst e1 e2 e3 e4
  exact ⟨⟨a, b, k, ps, ns, cs, st⟩, rfl, ho, h5, h6⟩
/-- A slice of them. -/
theorem val_ops {r : Reach} {b0 : Nat} {v : Value} {d : DataW H} {p : List MemPlace} (hv : Value.okWide Try.prog w r b0 38 v) (h : DataW.Trod enc Try.prog w base spare held 38 v d p) :
    ∃ (n c : Nat) (ao : Option Addr) (es : Nat → O7), v = .slice ao n c ∧ n ≤ maxLen ∧ ∀ i, i < n → O7.ok w (es i) ∧ ∃ a, ao = some a ∧ ∀ j x, (es i).cells.toList[j]? = some x → w.cell? (a.add (i * 7 + j)) = some x := by
  obtain ⟨a0, len, cap, rfl⟩ := okWide_slice Try.underlying38 hv
  obtain ⟨fuel, hf⟩ := h
  rcases Go.Deep.open_slice Try.underlying38 hf with ⟨hcs, -⟩ | ⟨a, len', cap', m, n, D, Pl, hcs, -, hl, hm, hmm, -, hx⟩
  · simp [Value.cells] at hcs
    obtain ⟨rfl, rfl, rfl⟩ := hcs
    exact ⟨0, 0, none, fun _ => default, rfl, Nat.zero_le _, fun i hi => absurd hi (Nat.not_lt_zero _)⟩
  · simp [Value.cells] at hcs
    obtain ⟨rfl, rfl, rfl⟩ := hcs
    have hle : len ≤ m := by rw [hmm]; split <;> omega
    have key : ∀ i, i < len → ∃ e : O7, O7.ok w e ∧ ∀ j x, e.cells.toList[j]? = some x → w.cell? (a.add (i * 7 + j)) = some x := fun i hi => by
      obtain ⟨cs', hc1, htr⟩ := hx i (by omega)
      rw [show Try.prog.cellsOf 42 = 7 by kernel_rfl] at hc1
      obtain ⟨-, hlen, hcell⟩ := World.cells?_some hc1
      obtain ⟨e, rfl, hok⟩ := op_of htr
      refine ⟨e, hok, fun j x hj => ?_⟩
      have hj2 : j < 7 := (List.getElem?_eq_some_iff.1 hj).1
      rw [← add_add, hcell j hj2]
      exact hj
    obtain ⟨f, hf'⟩ := Go.Deep.choose_lt key
    exact ⟨len, cap, some a, f, rfl, by omega, fun i hi => ⟨(hf' i hi).1, a, rfl, (hf' i hi).2⟩⟩
end
end Go.Proofs.Ytmmljeekonechaa.Zp
