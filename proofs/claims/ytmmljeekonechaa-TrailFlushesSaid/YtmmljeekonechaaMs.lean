/- A range over a string, its block known. Over any program. -/
import Derived.Test.YtmmljeekonechaaMr
import Derived.Laws.RangeString
namespace Go.Proofs.Ytmmljeekonechaa.Ms
open Go.RowKit Go.Proofs.Ytmmljeekonechaa.G Go.Proofs.Ytmmljeekonechaa.M
set_option linter.unusedVariables false
set_option linter.unusedSimpArgs false
section
variable {P : Program} {ops : Array Oper} {rest : List Oper} {o : Oper} {a : Act} {Q : Exit → Act → World → Prop} {W w0 : World} {M : List Nat} {L : Hp}
theorem outs_range (t : TypeId) (x : Operand) (ho : o.op = .range t x) (s : ByteArray) (hx : a.eval x = .string s) (hu : P.underlying t = some .string) : OutsM P o a w0 M L fun v L' => ∃ g, v = .pointer (some ⟨g, 0, none⟩) ∧ L' = (g, .stringIter s 0) :: L := by
  intro u hm
  refine outs_run (v := .pointer (some ⟨u.heap.size, 0, none⟩)) (w1 := u.alloc (.stringIter s 0)) ?_ ⟨_, ⟨_, rfl, rfl⟩, hm.new (Nat.le_refl _) (heap_alloc_new u _) (below_new _)⟩
  unfold execOp
  simp only [ho, hx]
  have := run_range_string (P := P) u t s hu
  simp [this, World.iter]
theorem Mod1.obj (W : World) (g : Nat) (o : Obj) : Mod1 g W { W with heap := W.heap.setIfInBounds g o } :=
  ⟨rfl, rfl, rfl, by simp, fun k hk => by simp [Array.getElem?_setIfInBounds, Ne.symm hk]⟩
theorem outs_next (it : Operand) (ho : o.op = .next it true) (i g : Nat) (s : ByteArray) (pos c n : Nat) (hi : L[i]? = some (g, .stringIter s pos)) (hx : a.eval it = .pointer (some ⟨g, 0, none⟩)) (hlt : pos < s.size) (hd : Utf8.decode s pos = (c, n)) :
    OutsM P o a w0 M L fun v L' => v = .tuple #[.bool true, .int .i64 pos, .int .i32 c] ∧ L' = L.set i (g, .stringIter s (pos + n)) := by
  intro u hm
  have hb := hm.get i hi
  have hg : g < u.heap.size := blk_lt hb
  refine outs_run (v := .tuple #[.bool true, .int .i64 pos, .int .i32 c]) (w1 := { u with heap := u.heap.setIfInBounds g (.stringIter s (pos + n)) }) ?_ ⟨_, ⟨rfl, rfl⟩, hm.turn i hi (by simp [hg]) (Mod1.obj u g _)⟩
  unfold execOp
  simp only [ho, hx]
  simp [Instr.next, getObj, setObj, Sem.run, hb, hlt, hd, goInt]
theorem outs_next_end (it : Operand) (ho : o.op = .next it true) (i g : Nat) (s : ByteArray) (pos : Nat) (hi : L[i]? = some (g, .stringIter s pos)) (hx : a.eval it = .pointer (some ⟨g, 0, none⟩)) (hlt : ¬ pos < s.size) :
    OutsM P o a w0 M L fun v L' => v = .tuple #[.bool false] ∧ L' = L := by
  intro u hm
  have hb := hm.get i hi
  refine outs_run (v := .tuple #[.bool false]) (w1 := u) ?_ ⟨_, ⟨rfl, rfl⟩, hm⟩
  unfold execOp
  simp only [ho, hx]
  simp [Instr.next, getObj, Sem.run, hb, hlt]
theorem range_m (HM : Mem w0 M L W) (hw : Region.wanted o (yielded ops a.tmps) = true) (d : Tmp) (hd : o.dst = some d) (t : TypeId) (x : Operand) (ho : o.op = .range t x) (s : ByteArray) (hx : a.eval x = .string s) (hu : P.underlying t = some .string)
    (h : ∀ g w1, Mem w0 M ((g, .stringIter s 0) :: L) w1 → wpList P ops Q rest (a.put (some d) (.pointer (some ⟨g, 0, none⟩))) w1) : wpList P ops Q (o :: rest) a W :=
  (outs_range t x ho s hx hu W HM).ev hw fun _ w1 ⟨_, ⟨g, hv, hl⟩, hm⟩ => by subst hv hl; rw [hd]; exact h g w1 hm
theorem next_m (HM : Mem w0 M L W) (hw : Region.wanted o (yielded ops a.tmps) = true) (d : Tmp) (hd : o.dst = some d) (it : Operand) (ho : o.op = .next it true) (i g : Nat) (s : ByteArray) (pos : Nat) (hi : L[i]? = some (g, .stringIter s pos)) (hx : a.eval it = .pointer (some ⟨g, 0, none⟩)) (c n : Nat) (hlt : pos < s.size) (hdc : Utf8.decode s pos = (c, n))
    (h : ∀ w1, Mem w0 M (L.set i (g, .stringIter s (pos + n))) w1 → wpList P ops Q rest (a.put (some d) (.tuple #[.bool true, .int .i64 pos, .int .i32 c])) w1) : wpList P ops Q (o :: rest) a W :=
  (outs_next it ho i g s pos c n hi hx hlt hdc W HM).ev hw fun _ w1 ⟨_, ⟨hv, hl⟩, hm⟩ => by subst hv hl; rw [hd]; exact h w1 hm
theorem next_end_m (HM : Mem w0 M L W) (hw : Region.wanted o (yielded ops a.tmps) = true) (d : Tmp) (hd : o.dst = some d) (it : Operand) (ho : o.op = .next it true) (i g : Nat) (s : ByteArray) (pos : Nat) (hi : L[i]? = some (g, .stringIter s pos)) (hx : a.eval it = .pointer (some ⟨g, 0, none⟩)) (hlt : ¬ pos < s.size)
    (h : ∀ w1, Mem w0 M L w1 → wpList P ops Q rest (a.put (some d) (.tuple #[.bool false])) w1) : wpList P ops Q (o :: rest) a W :=
  (outs_next_end it ho i g s pos hi hx hlt W HM).ev hw fun _ w1 ⟨_, ⟨hv, hl⟩, hm⟩ => by subst hv hl; rw [hd]; exact h w1 hm
/-- A loop that is walked round by round. -/
theorem rounds_mk {c : Code} {n : Nat} {u : World} (h : c.wp P (Exit.then (Code.rounds P c Q n) Q) a u) : Code.rounds P c Q (n + 1) a u := h
end
end Go.Proofs.Ytmmljeekonechaa.Ms
