/- Comparisons that part the ways at once, and Bools read from memory likewise. Over any program. -/
import Derived.Test.YtmmljeekonechaaMr
namespace Go.Proofs.Ytmmljeekonechaa.Mc
open Go.RowKit Go.Proofs.Ytmmljeekonechaa.G Go.Proofs.Ytmmljeekonechaa.M
set_option linter.unusedVariables false
set_option linter.unusedSimpArgs false
section
variable {P : Program} {ops : Array Oper} {rest : List Oper} {o : Oper} {a : Act} {Q : Exit → Act → World → Prop} {W w0 : World} {M : List Nat} {L : Hp}
/-- A comparison of whole numbers, parted at once. -/
def cmpB : BinOp → Int → Int → Option Bool
  | .eql, x, y => some (x == y)
  | .neq, x, y => some (x != y)
  | .lss, x, y => some (decide (x < y))
  | .leq, x, y => some (decide (x ≤ y))
  | .gtr, x, y => some (decide (x > y))
  | .geq, x, y => some (decide (x ≥ y))
  | _, _, _ => none
theorem run_cmp {W : World} {op : BinOp} {xt yt : TypeId} {x y : Operand} (ho : o.op = .binOp op xt x y yt) {k : IntKind} {p q : Int} (hx : a.eval x = .int k p) (hy : a.eval y = .int k q) {b : Bool} (hb : cmpB op p q = some b) : (execOp a.eval o).run P W = .ok (.value (.bool b)) W := by
  unfold execOp
  simp only [ho, hx, hy]
  cases op <;> simp [cmpB] at hb <;> subst hb <;> simp [eqGuard, Go.binOp, Op.intCmp]
theorem cmp_m (hw : Region.wanted o (yielded ops a.tmps) = true) (d : Tmp) (hd : o.dst = some d) (op : BinOp) {xt yt : TypeId} (x y : Operand) (ho : o.op = .binOp op xt x y yt) (k : IntKind) (p q : Int) (hx : a.eval x = .int k p) (hy : a.eval y = .int k q) (b : Bool) (hb : cmpB op p q = some b)
    (ht : b = true → wpList P ops Q rest (a.put (some d) (.bool true)) W) (hf : b = false → wpList P ops Q rest (a.put (some d) (.bool false)) W) : wpList P ops Q (o :: rest) a W :=
  (outs_run (N := fun v w => v = .bool b ∧ w = W) (run_cmp ho hx hy hb) ⟨rfl, rfl⟩).ev hw fun _ _ ⟨e1, e2⟩ => by
    subst e1 e2
    rw [hd]
    cases b
    · exact hf rfl
    · exact ht rfl
theorem at_cmp (op : BinOp) {xt yt : TypeId} {x y : Operand} (h : o.op = .binOp op xt x y yt) (k : wpList P ops Q (o :: rest) a W) : wpList P ops Q (o :: rest) a W := k
/-- A Bool is read from memory: both ways. -/
theorem load_bool_m (HM : Mem w0 M L W) (hw : Region.wanted o (yielded ops a.tmps) = true) (d : Tmp) (hd : o.dst = some d) (ty : TypeId) (x : Operand) (ho : o.op = .load ty x) (i : Nat) (g off : Nat) (t : TypeId) (cs : Array Value) (b : Bool) (hi : L[i]? = some (g, row cs t)) (hx : a.eval x = .pointer (some ⟨g, off, none⟩))
    (hc : cs[off]? = some (.bool b)) (hagg : aggB P ty = false) (hu : (P.underlying ty).isSome = true) (ht : b = true → wpList P ops Q rest (a.put (some d) (.bool true)) W) (hf : b = false → wpList P ops Q rest (a.put (some d) (.bool false)) W) : wpList P ops Q (o :: rest) a W :=
  (outs_load_cell ty x ho i g off t cs (.bool b) hi hx hc hagg hu HM (N := fun v' w => v' = .bool b ∧ w = W) ⟨rfl, rfl⟩).ev hw fun _ _ ⟨e1, e2⟩ => by
    subst e1 e2
    rw [hd]
    cases b
    · exact hf rfl
    · exact ht rfl
end
end Go.Proofs.Ytmmljeekonechaa.Mc
