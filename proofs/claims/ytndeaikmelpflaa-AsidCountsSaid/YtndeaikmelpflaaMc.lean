/- A range over a string, its block known. Over any program. -/
/- Comparisons that part the ways at once, and Bools read from memory likewise. Over any program. -/
import Derived.Test.YtndeaikmelpflaaMr
import Derived.Laws.RangeString
namespace Go.Proofs.Ytndeaikmelpflaa.Ms
open Go.RowKit Go.Proofs.Ytndeaikmelpflaa.G Go.Proofs.Ytndeaikmelpflaa.M
set_option linter.unusedVariables false
set_option linter.unusedSimpArgs false
section
variable {P : Program} {ops : Array Oper} {rest : List Oper} {o : Oper} {a : Act} {Q : Exit → Act → World → Prop} {W w0 : World} {M : List Nat} {L : Hp}
theorem outs_range (t : TypeId) (x : Operand) (ho : o.op = .range t x) (s : ByteArray) (hx : a.eval x = .string s) (hu : P.underlying t = some .string) : OutsM P o a w0 M L fun v L' => ∃ g, v = .pointer (some ⟨g, 0, none⟩) ∧ L' = (g, .stringIter s 0) :: L := by
  intro u hm
  refine outs_run (v := .pointer (some ⟨u.heap.size, 0, none⟩)) (w1 := u.alloc (.stringIter s 0)) ?_ ⟨_, ⟨_, rfl, rfl⟩, hm.new (Nat.le_refl _) (heap_alloc_new u _) (below_new _)⟩
  unfold execOp
  simp only [ho, hx]
  have := run_range_string (P := P) u t s hu
  simp [this, World.iter]
theorem Mod1.obj (W : World) (g : Nat) (o : Obj) : Mod1 g W { W with heap := W.heap.setIfInBounds g o } :=
  ⟨rfl, rfl, rfl, by simp, fun k hk => by simp [Array.getElem?_setIfInBounds, Ne.symm hk]⟩
theorem outs_next (it : Operand) (ho : o.op = .next it true) (i g : Nat) (s : ByteArray) (pos c n : Nat) (hi : L[i]? = some (g, .stringIter s pos)) (hx : a.eval it = .pointer (some ⟨g, 0, none⟩)) (hlt : pos < s.size) (hd : Utf8.decode s pos = (c, n)) :
    OutsM P o a w0 M L fun v L' => v = .tuple #[.bool true, .int .i64 pos, .int .i32 c] ∧ L' = L.set i (g, .stringIter s (pos + n)) := by
  intro u hm
  have hb := hm.get i hi
  have hg : g < u.heap.size := blk_lt hb
  refine outs_run (v := .tuple #[.bool true, .int .i64 pos, .int .i32 c]) (w1 := { u with heap := u.heap.setIfInBounds g (.stringIter s (pos + n)) }) ?_ ⟨_, ⟨rfl, rfl⟩, hm.turn i hi (by simp [hg]) (Mod1.obj u g _)⟩
  unfold execOp
  simp only [ho, hx]
  simp [Instr.next, getObj, setObj, Sem.run, hb, hlt, hd, goInt]
theorem outs_next_end (it : Operand) (ho : o.op = .next it true) (i g : Nat) (s : ByteArray) (pos : Nat) (hi : L[i]? = some (g, .stringIter s pos)) (hx : a.eval it = .pointer (some ⟨g, 0, none⟩)) (hlt : ¬ pos < s.size) :
    OutsM P o a w0 M L fun v L' => v = .tuple #[.bool false] ∧ L' = L := by
  intro u hm
  have hb := hm.get i hi
  refine outs_run (v := .tuple #[.bool false]) (w1 := u) ?_ ⟨_, ⟨rfl, rfl⟩, hm⟩
  unfold execOp
  simp only [ho, hx]
  simp [Instr.next, getObj, Sem.run, hb, hlt]
theorem range_m (HM : Mem w0 M L W) (hw : Region.wanted o (yielded ops a.tmps) = true) (d : Tmp) (hd : o.dst = some d) (t : TypeId) (x : Operand) (ho : o.op = .range t x) (s : ByteArray) (hx : a.eval x = .string s) (hu : P.underlying t = some .string)
    (h : ∀ g w1, Mem w0 M ((g, .stringIter s 0) :: L) w1 → wpList P ops Q rest (a.put (some d) (.pointer (some ⟨g, 0, none⟩))) w1) : wpList P ops Q (o :: rest) a W :=
  (outs_range t x ho s hx hu W HM).ev hw fun _ w1 ⟨_, ⟨g, hv, hl⟩, hm⟩ => by subst hv hl; rw [hd]; exact h g w1 hm
theorem next_m (HM : Mem w0 M L W) (hw : Region.wanted o (yielded ops a.tmps) = true) (d : Tmp) (hd : o.dst = some d) (it : Operand) (ho : o.op = .next it true) (i g : Nat) (s : ByteArray) (pos : Nat) (hi : L[i]? = some (g, .stringIter s pos)) (hx : a.eval it = .pointer (some ⟨g, 0, none⟩)) (c n : Nat) (hlt : pos < s.size) (hdc : Utf8.decode s pos = (c, n))
    (h : ∀ w1, Mem w0 M (L.set i (g, .stringIter s (pos + n))) w1 → wpList P ops Q rest (a.put (some d) (.tuple #[.bool true, .int .i64 pos, .int .i32 c])) w1) : wpList P ops Q (o :: rest) a W :=
  (outs_next it ho i g s pos c n hi hx hlt hdc W HM).ev hw fun _ w1 ⟨_, ⟨hv, hl⟩, hm⟩ => by subst hv hl; rw [hd]; exact h w1 hm
theorem next_end_m (HM : Mem w0 M L W) (hw : Region.wanted o (yielded ops a.tmps) = true) (d : Tmp) (hd : o.dst = some d) (it : Operand) (ho : o.op = .next it true) (i g : Nat) (s : ByteArray) (pos : Nat) (hi : L[i]? = some (g, .stringIter s pos)) (hx : a.eval it = .pointer (some ⟨g, 0, none⟩)) (hlt : ¬ pos < s.size)
    (h : ∀ w1, Mem w0 M L w1 → wpList P ops Q rest (a.put (some d) (.tuple #[.bool false])) w1) : wpList P ops Q (o :: rest) a W :=
  (outs_next_end it ho i g s pos hi hx hlt W HM).ev hw fun _ w1 ⟨_, ⟨hv, hl⟩, hm⟩ => by subst hv hl; rw [hd]; exact h w1 hm
/-- A loop that is walked round by round. -/
theorem rounds_mk {c : Code} {n : Nat} {u : World} (h : c.wp P (Exit.then (Code.rounds P c Q n) Q) a u) : Code.rounds P c Q (n + 1) a u := h
end
end Go.Proofs.Ytndeaikmelpflaa.Ms

namespace Go.Proofs.Ytndeaikmelpflaa.Mc
open Go.RowKit Go.Proofs.Ytndeaikmelpflaa.G Go.Proofs.Ytndeaikmelpflaa.M
set_option linter.unusedVariables false
set_option linter.unusedSimpArgs false
section
variable {P : Program} {ops : Array Oper} {rest : List Oper} {o : Oper} {a : Act} {Q : Exit → Act → World → Prop} {W w0 : World} {M : List Nat} {L : Hp}
/-- A comparison of whole numbers, parted at once. -/
def cmpB : BinOp → Int → Int → Option Bool
  | .eql, x, y => some (x == y)
  | .neq, x, y => some (x != y)
  | .lss, x, y => some (decide (x < y))
  | .leq, x, y => some (decide (x ≤ y))
  | .gtr, x, y => some (decide (x > y))
  | .geq, x, y => some (decide (x ≥ y))
  | _, _, _ => none
theorem run_cmp {W : World} {op : BinOp} {xt yt : TypeId} {x y : Operand} (ho : o.op = .binOp op xt x y yt) {k : IntKind} {p q : Int} (hx : a.eval x = .int k p) (hy : a.eval y = .int k q) {b : Bool} (hb : cmpB op p q = some b) : (execOp a.eval o).run P W = .ok (.value (.bool b)) W := by
  unfold execOp
  simp only [ho, hx, hy]
  cases op <;> simp [cmpB] at hb <;> subst hb <;> simp [eqGuard, Go.binOp, Op.intCmp]
theorem cmp_m (hw : Region.wanted o (yielded ops a.tmps) = true) (d : Tmp) (hd : o.dst = some d) (op : BinOp) {xt yt : TypeId} (x y : Operand) (ho : o.op = .binOp op xt x y yt) (k : IntKind) (p q : Int) (hx : a.eval x = .int k p) (hy : a.eval y = .int k q) (b : Bool) (hb : cmpB op p q = some b)
    (ht : b = true → wpList P ops Q rest (a.put (some d) (.bool true)) W) (hf : b = false → wpList P ops Q rest (a.put (some d) (.bool false)) W) : wpList P ops Q (o :: rest) a W :=
  (outs_run (N := fun v w => v = .bool b ∧ w = W) (run_cmp ho hx hy hb) ⟨rfl, rfl⟩).ev hw fun _ _ ⟨e1, e2⟩ => by
    subst e1 e2
    rw [hd]
    cases b
    · exact hf rfl
    · exact ht rfl
theorem at_cmp (op : BinOp) {xt yt : TypeId} {x y : Operand} (h : o.op = .binOp op xt x y yt) (k : wpList P ops Q (o :: rest) a W) : wpList P ops Q (o :: rest) a W := k
/-- A Bool is read from memory: both ways. -/
theorem load_bool_m (HM : Mem w0 M L W) (hw : Region.wanted o (yielded ops a.tmps) = true) (d : Tmp) (hd : o.dst = some d) (ty : TypeId) (x : Operand) (ho : o.op = .load ty x) (i : Nat) (g off : Nat) (t : TypeId) (cs : Array Value) (b : Bool) (hi : L[i]? = some (g, row cs t)) (hx : a.eval x = .pointer (some ⟨g, off, none⟩))
    (hc : cs[off]? = some (.bool b)) (hagg : aggB P ty = false) (hu : (P.underlying ty).isSome = true) (ht : b = true → wpList P ops Q rest (a.put (some d) (.bool true)) W) (hf : b = false → wpList P ops Q rest (a.put (some d) (.bool false)) W) : wpList P ops Q (o :: rest) a W :=
  (outs_load_cell ty x ho i g off t cs (.bool b) hi hx hc hagg hu HM (N := fun v' w => v' = .bool b ∧ w = W) ⟨rfl, rfl⟩).ev hw fun _ _ ⟨e1, e2⟩ => by
    subst e1 e2
    rw [hd]
    cases b
    · exact hf rfl
    · exact ht rfl
end
end Go.Proofs.Ytndeaikmelpflaa.Mc
