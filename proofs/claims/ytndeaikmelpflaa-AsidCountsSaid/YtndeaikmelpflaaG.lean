/- General laws on blocks that are known whole: a law a kind of operation, each leaving a world of which just the facts are told. Over any program. -/
import Derived.WalkKit
import Derived.KernelRfl
import Derived.Laws.Rows
import Derived.Laws.Tables
import Derived.Deep.LoopGhost
import Derived.Lib.Hide
import Derived.Deep.QuietTactic
import Derived.BigQuiet
import Derived.Outline
namespace Go.Proofs.Ytndeaikmelpflaa.G
open Go.RowKit
set_option linter.unusedVariables false
set_option linter.unusedSimpArgs false

/-- But for block g all is as it was. -/
structure Mod1 (g : Nat) (w w' : World) : Prop where
  os : w'.os = w.os
  tape : w'.tape = w.tape
  output : w'.output = w.output
  size : w'.heap.size = w.heap.size
  block : ∀ k, k ≠ g → w'.heap[k]? = w.heap[k]?

theorem Mod1.below {B g : Nat} {a w w' : World} (m : Mod1 g w w') (h : Below B a w) (hg : B ≤ g) : Below B a w' :=
  h.trans ⟨m.os, m.tape, m.output, Nat.le_of_eq m.size.symm, fun k hk => m.block k (by omega)⟩
theorem Mod1.keep {g k : Nat} {w w' : World} {o : Obj} (m : Mod1 g w w') (h : w.heap[k]? = some o) (hk : k ≠ g) : w'.heap[k]? = some o := (m.block k hk).trans h
theorem blk_lt {w : World} {g : Nat} {o : Obj} (h : w.heap[g]? = some o) : g < w.heap.size := (Array.getElem?_eq_some_iff.1 h).1
theorem blk_cell {w : World} {g : Nat} {t : TypeId} {cs : Array Value} (h : w.heap[g]? = some (.cells cs t (0, 0))) (i : Nat) : w.cell? ⟨g, i, none⟩ = cs[i]? := cell_of_row w g i cs t (0, 0) h
theorem blk_frozen {w : World} {g : Nat} {t : TypeId} {cs : Array Value} (h : w.heap[g]? = some (.cells cs t (0, 0))) (i : Nat) : w.frozen? ⟨g, i, none⟩ = false := by simp [World.frozen?, h]
theorem blk_below {w w1 : World} {g : Nat} {o : Obj} (h : w.heap[g]? = some o) (hb : Below w.heap.size w w1) : w1.heap[g]? = some o := (hb.block g (blk_lt h)).trans h
theorem below_step {w W w2 : World} (h : Below w.heap.size w W) (k : Below W.heap.size W w2) : Below w.heap.size w w2 :=
  h.trans ⟨k.os, k.tape, k.output, k.size, fun i hi => k.block i (Nat.lt_of_lt_of_le hi h.size)⟩
theorem below_new {w : World} (o : Obj) : Below w.heap.size w (w.alloc o) := (Below.refl _ _).alloc (Nat.le_refl _) o

section
variable {P : Program} {ops : Array Oper} {rest : List Oper} {o : Oper} {a : Act} {Q : Exit → Act → World → Prop} {W : World}
theorem event_run (hgd : o.guard = none) {v : Value} {w1 : World} (hrun : (execOp a.eval o).run P W = .ok (.value v) w1) (h : wpList P ops Q rest (a.put o.dst v) w1) : wpList P ops Q (o :: rest) a W :=
  wpList_plain hgd fun _ hK => by
    unfold Oper.wp
    rw [hrun]
    exact hK _ _ h
theorem event_skip (hgd : o.guard = none) {w1 : World} (hrun : (execOp a.eval o).run P W = .ok .skip w1) (h : wpList P ops Q rest (a.put o.dst undef) w1) : wpList P ops Q (o :: rest) a W :=
  wpList_plain hgd fun _ hK => by
    unfold Oper.wp
    rw [hrun]
    exact hK _ _ h
/-- A value is boxed: a new block with its cells. -/
theorem box_ev (hgd : o.guard = none) {N : Tmp} (hd : o.dst = some N) (t : TypeId) (x : Operand) (ho : o.op = .box t x) (v : Value) (hx : a.eval x = v)
    (h : ∀ g, W.heap.size ≤ g → ∀ w1, w1.heap[g]? = some (.cells v.cells t (0, 0)) → Below W.heap.size W w1 → wpList P ops Q rest (a.put (some N) (.pointer (some ⟨g, 0, none⟩))) w1) : wpList P ops Q (o :: rest) a W := by
  subst hx
  refine event_run hgd (v := .pointer (some ⟨W.heap.size, 0, none⟩)) (w1 := W.alloc (.cells (a.eval x).cells t (0, 0))) ?_ ?_
  · unfold execOp; simp only [ho]; rfl
  · rw [hd]
    exact h _ (Nat.le_refl _) _ (heap_alloc_new W _) (below_new _)
/-- A struct or an array is boxed. -/
theorem box_agg_ev (hgd : o.guard = none) {N : Tmp} (hd : o.dst = some N) (t : TypeId) (x : Operand) (ho : o.op = .box t x) (cs : Array Value) (hx : a.eval x = .agg cs)
    (h : ∀ g, W.heap.size ≤ g → ∀ w1, w1.heap[g]? = some (.cells cs t (0, 0)) → Below W.heap.size W w1 → wpList P ops Q rest (a.put (some N) (.pointer (some ⟨g, 0, none⟩))) w1) : wpList P ops Q (o :: rest) a W :=
  box_ev hgd hd t x ho (.agg cs) hx h
/-- A variable: a new block with the type's zero value. -/
theorem alloc_ev (hgd : o.guard = none) {N : Tmp} (hd : o.dst = some N) (t : TypeId) (ho : o.op = .alloc t) (z : Value) (hz : (P.info? t).map (·.zero) = some (some z)) (c : Array Value) (hc : z.cells = c)
    (h : ∀ g, W.heap.size ≤ g → ∀ w1, w1.heap[g]? = some (.cells c t (0, 0)) → Below W.heap.size W w1 → wpList P ops Q rest (a.put (some N) (.pointer (some ⟨g, 0, none⟩))) w1) : wpList P ops Q (o :: rest) a W := by
  subst hc
  refine event_run hgd (v := .pointer (some ⟨W.heap.size, 0, none⟩)) (w1 := W.alloc (.cells z.cells t (0, 0))) ?_ ?_
  · unfold execOp
    simp only [ho]
    cases hq : P.info? t with
    | none => simp [hq] at hz
    | some i =>
      have hzz : i.zero = some z := by simpa [hq] using hz
      have hzr : (zeroValue t).run P W = .ok z W := by simp [zeroValue, typeInfo, hq, hzz]
      simp only [Instr.alloc, Sem.run_bind, hzr, Result.andThen_ok]
      rfl
  · rw [hd]
    exact h _ (Nat.le_refl _) _ (heap_alloc_new W _) (below_new _)
theorem Mod1.row (W : World) (g : Nat) (cs : Array Value) : Mod1 g W (W.setRow g cs) :=
  ⟨rfl, rfl, rfl, by simp, fun k hk => by
    simp only [World.setRow, Array.getElem?_modify]
    rw [if_neg (fun e => hk e.symm)]⟩
theorem Mod1.cell (W : World) (g i : Nat) (v : Value) : Mod1 g W (W.setCell ⟨g, i, none⟩ v) :=
  ⟨rfl, rfl, rfl, by simp [World.setCell], fun k hk => heap_setCell_other _ _ _ _ hk⟩
/-- A whole row is stored. -/
theorem store_row_ev (hgd : o.guard = none) (ty : TypeId) (x y : Operand) (ho : o.op = .store ty x y) (g : Nat) (cells : Array Value) (hx : a.eval x = .pointer (some ⟨g, 0, none⟩)) (hy : a.eval y = .agg cells)
    (t : TypeId) (old : Array Value) (hg : W.heap[g]? = some (.cells old t (0, 0))) (hi : (P.info? ty).map (·.size) = some cells.size) (hold : old.size = cells.size) (h1 : cells.all (·.oneCell') = true)
    (h : ∀ w1, w1.heap[g]? = some (.cells cells t (0, 0)) → Mod1 g W w1 → wpList P ops Q rest (a.put o.dst undef) w1) : wpList P ops Q (o :: rest) a W :=
  wpList_store_row hgd ty x y ho g cells hx hy t old hg hi hold h1 (h _ (setRow_heap W g old cells t _ hg) (Mod1.row W g cells))
/-- One cell is stored. -/
theorem store_cell_ev (hgd : o.guard = none) (ty : TypeId) (x y : Operand) (ho : o.op = .store ty x y) (g i : Nat) (v : Value) (hx : a.eval x = .pointer (some ⟨g, i, none⟩)) (hy : a.eval y = v)
    (t : TypeId) (cs : Array Value) (hg : W.heap[g]? = some (.cells cs t (0, 0))) (hi : (P.info? ty).map (·.size) = some 1) (h1 : v.oneCell' = true) (hlt : i < cs.size)
    (h : ∀ w1, w1.heap[g]? = some (.cells (cs.setIfInBounds i v) t (0, 0)) → Mod1 g W w1 → wpList P ops Q rest (a.put o.dst undef) w1) : wpList P ops Q (o :: rest) a W := by
  have hcell : W.cell? ⟨g, i, none⟩ = some cs[i] := by rw [blk_cell hg]; simp [hlt]
  have hfr := blk_frozen hg i
  refine event_skip hgd (w1 := W.setCell ⟨g, i, none⟩ v) ?_ (h _ (heap_setCell_same W g i cs t v hg) (Mod1.cell W g i v))
  unfold execOp
  cases hq : P.info? ty with
  | none => simp [hq] at hi
  | some inf =>
    have hs : inf.size = 1 := by simpa [hq] using hi
    have hvc : v.cells = #[v] := by cases v <;> simp [Value.oneCell', Value.cells] at h1 ⊢
    have hadd : (⟨g, i, none⟩ : Addr).add 0 = ⟨g, i, none⟩ := by simp [Addr.add]
    simp only [ho, hx, hy, Instr.storeAt, Instr.sureAddr, Sem.run_bind, Sem.run_pure, Result.andThen_ok]
    have hst : (storeCells ⟨g, i, none⟩ [v] 0).run P W = .ok () (W.setCell ⟨g, i, none⟩ v) := by
      simp only [storeCells, Sem.run_bind, hadd, run_store P W _ v _ h1, hcell, hfr]
      rfl
    simp [storeVar, sizeOf, typeInfo, hq, hs, hvc, hst]
end

/-- A world of a class. -/
structure WIn (S : World → Prop) where
  val : World
  prop : S val
/-- A REGION THAT DRAWS ITS ORDER, all of whose calls keep a class S of worlds: the class as a type, so that what is known of all of it is a plain rule. -/
theorem wp_region_S {P : Program} {id : Nat} {Q : Exit → Act → World → Prop} {a : Act} {w : World} {l : List Oper} (S : World → Prop) (hm : P.follows .mixedOrders = true) (hB : Region.lexB .any l.toArray = true)
    (h0 : S { w with drawn := w.drawn + 1 })
    (h : wpQuiet P l.toArray (fun w' => ∃ x : WIn S, w' = x.val) (fun a' => ∀ u, S u → Q .normal a' u) l a) : (Code.region id l.toArray true).wp P Q a w := by
  refine wp_region_quiet (C := fun w' => ∃ x : WIn S, w' = x.val) hm hB ⟨⟨_, h0⟩, rfl⟩ ?_
  have e : (fun a' => ∀ w', (∃ x : WIn S, w' = x.val) → Q .normal a' w') = (fun a' => ∀ u, S u → Q .normal a' u) := by
    funext a'
    apply propext
    constructor
    · intro hq u hu
      exact hq u ⟨⟨u, hu⟩, rfl⟩
    · rintro hq w' ⟨x, rfl⟩
      exact hq x.val x.prop
  rw [e]
  simpa using h
theorem wpQuiet_end {P : Program} {ops : Array Oper} {C : World → Prop} {Q : Act → Prop} {a : Act} (h : Q a) : wpQuiet P ops C Q [] a := h
/-- What a call leaves, as the walk of such a region asks it. -/
theorem quiet_S {P : Program} {S : World → Prop} {f : FuncId} {args : Array Value} {x : WIn S} {v : Value} (h : Calls P f args x.val fun e w' => e = .returned v ∧ S w') :
    Calls P f args x.val fun e w' => e = .returned v ∧ ∃ y : WIn S, w' = y.val :=
  h.mono fun _ w' ⟨he, hs⟩ => ⟨he, ⟨w', hs⟩, rfl⟩
theorem quiet_same {P : Program} {S : World → Prop} {f : FuncId} {args : Array Value} {x : WIn S} {v : Value} (h : Calls P f args x.val fun e w' => e = .returned v ∧ x.val = w') :
    Calls P f args x.val fun e w' => e = .returned v ∧ ∃ y : WIn S, w' = y.val :=
  h.mono fun _ _ ⟨he, hs⟩ => ⟨he, x, hs.symm⟩
/-- The class is kept by whatever leaves the old blocks alone. -/
def KeepsB (S : World → Prop) : Prop := ∀ u u' : World, S u → Below u.heap.size u u' → S u'
theorem quiet_below {P : Program} {S : World → Prop} (hk : KeepsB S) {f : FuncId} {args : Array Value} {x : WIn S} {v : Value} (h : Calls P f args x.val fun e w' => e = .returned v ∧ Below x.val.heap.size x.val w') :
    Calls P f args x.val fun e w' => e = .returned v ∧ ∃ y : WIn S, w' = y.val :=
  h.mono fun _ w' ⟨he, hb⟩ => ⟨he, ⟨w', hk _ _ x.prop hb⟩, rfl⟩
theorem KeepsB.base {w : World} : KeepsB (fun u => Below w.heap.size w u) := fun _ _ h hb => below_step h hb
theorem KeepsB.and {S T : World → Prop} (h : KeepsB S) (k : KeepsB T) : KeepsB (fun u => S u ∧ T u) := fun u u' hu hb => ⟨h u u' hu.1 hb, k u u' hu.2 hb⟩
theorem KeepsB.blk {g : Nat} {o : Obj} : KeepsB (fun u => u.heap[g]? = some o) := fun _ _ h hb => blk_below h hb
/-- What is known of a world behind the start: below it nothing has turned; these blocks hold these cells. -/
structure Held (w : World) (l : List (Nat × Array Value × TypeId)) (u : World) : Prop where
  low : Below w.heap.size w u
  blks : ∀ (i g : Nat) cs t, l[i]? = some (g, cs, t) → u.heap[g]? = some (.cells cs t (0, 0))
theorem Held.nil {w u : World} (h : Below w.heap.size w u) : Held w [] u := ⟨h, by simp⟩
theorem Held.cons {w u : World} {l : List (Nat × Array Value × TypeId)} {g : Nat} {cs : Array Value} {t : TypeId} (hb : u.heap[g]? = some (.cells cs t (0, 0))) (h : Held w l u) : Held w ((g, cs, t) :: l) u :=
  ⟨h.low, fun i g' cs' t' hi => by
    cases i with
    | zero => simp at hi; obtain ⟨rfl, rfl, rfl⟩ := hi; exact hb
    | succ i => exact h.blks i g' cs' t' (by simpa using hi)⟩
theorem Held.blk {w u : World} {l : List (Nat × Array Value × TypeId)} (h : Held w l u) (i : Nat) {g : Nat} {cs : Array Value} {t : TypeId} (hi : l[i]? = some (g, cs, t)) : u.heap[g]? = some (.cells cs t (0, 0)) := h.blks i g cs t hi
theorem Held.cell {w u : World} {l : List (Nat × Array Value × TypeId)} (h : Held w l u) (i : Nat) {g : Nat} {cs : Array Value} {t : TypeId} (hi : l[i]? = some (g, cs, t)) (j : Nat) {v : Value} (hj : cs[j]? = some v) : u.cell? ⟨g, j, none⟩ = some v :=
  (blk_cell (h.blk i hi) j).trans hj
theorem Held.keeps {w : World} {l : List (Nat × Array Value × TypeId)} : KeepsB (Held w l) := fun _ _ h hb =>
  ⟨below_step h.low hb, fun i g cs t hi => blk_below (h.blks i g cs t hi) hb⟩
theorem Held.drew {w u : World} {l : List (Nat × Array Value × TypeId)} (h : Held w l u) : Held w l { u with drawn := u.drawn + 1 } := ⟨h.low.drew, h.blks⟩
theorem quiet_held {P : Program} {w : World} {l : List (Nat × Array Value × TypeId)} {f : FuncId} {args : Array Value} {x : WIn (Held w l)} {v : Value} (h : Calls P f args x.val fun e w' => e = .returned v ∧ Below x.val.heap.size x.val w') :
    Calls P f args x.val fun e w' => e = .returned v ∧ ∃ y : WIn (Held w l), w' = y.val := quiet_below Held.keeps h
end Go.Proofs.Ytndeaikmelpflaa.G
