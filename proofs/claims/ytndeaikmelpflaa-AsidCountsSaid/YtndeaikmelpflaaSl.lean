/- A drawn region in which a block is turned that its quiet operations don't read. Over any program. -/
/- Slices and arrays over what is known of memory: a literal, an element. Over any program. -/
import Derived.Test.YtndeaikmelpflaaMr
import Derived.Great.Walk
namespace Go.Proofs.Ytndeaikmelpflaa.Mr
open Go.RowKit Go.Proofs.Ytndeaikmelpflaa.G Go.Proofs.Ytndeaikmelpflaa.M Go.Proofs.Ytndeaikmelpflaa.Mq
set_option linter.unusedVariables false
section
variable {P : Program} {Q : Exit → Act → World → Prop} {w0 : World} {M : List Nat}
/-- The region itself, the quiet operations reading only the blocks Lc: n: where the tail begins. -/
theorem region_anyC {id : Nat} {a : Act} {w : World} {L Lc : Hp} {l : List Oper} (n len g : Nat) (hLc : ∀ u, Mem w0 M L u → Mem w0 M Lc u) (HM : Mem w0 M L w) (hm : P.follows .mixedOrders = true) (hlen : l.length = len) (hg : n + g = len) (hcut : okCut l.toArray n = true)
    (h : St l.toArray n (Tail P l Q w0 M n g) (Array.replicate len false) → HeadM P l.toArray (Cl w0 M Lc) w0 M n (Tail P l Q w0 M n g) n (Array.replicate len false) a L) : (Code.region id l.toArray true).wp P Q a w := by
  subst hlen
  have hsz : l.toArray.size = l.length := by simp
  have s : St l.toArray n (Tail P l Q w0 M n g) (Array.replicate l.length false) :=
    ⟨hcut, ⟨by simp, fun j oj _ hl => (by rw [getD_replicate_false] at hl; cases hl), fun t _ ht => getD_in (by simpa using ht) (getD_replicate_false _ _)⟩, fun listed a L ht => seqB_ready ht.1⟩
  refine wp_region_any hm ?_
  have hd : (l.drop n).length = g := by simp; omega
  have := HeadM.any (g := g) (fun listed a L u hu (hT : Tail P l Q w0 M n g listed a L) => hT.any hd hu) _ _ _ _ _ HM.drew (h s)
  rw [hg] at this
  simpa using this
end
end Go.Proofs.Ytndeaikmelpflaa.Mr

namespace Go.Proofs.Ytndeaikmelpflaa.Sl
open Go.RowKit Go.Proofs.Ytndeaikmelpflaa.G Go.Proofs.Ytndeaikmelpflaa.M
set_option linter.unusedVariables false
set_option linter.unusedSimpArgs false
section
variable {P : Program} {ops : Array Oper} {rest : List Oper} {o : Oper} {a : Act} {Q : Exit → Act → World → Prop} {W w0 : World} {M : List Nat} {L : Hp}
def sliceB (P : Program) (t e : TypeId) : Bool := match P.underlying t with | some (.slice e') => e' == e | _ => false
theorem sliceB_spec {t e : TypeId} (h : sliceB P t e = true) : P.underlying t = some (.slice e) := by
  unfold sliceB at h
  split at h
  · rename_i d hd; rw [hd]; simp at h; rw [h]
  · cases h
def arrB (P : Program) (t n e : Nat) : Bool := match P.underlying t with | some (.array m e') => m == n && e' == e | _ => false
theorem arrB_spec {t n e : Nat} (h : arrB P t n e = true) : P.underlying t = some (.array n e) := by
  unfold arrB at h
  split at h
  · rename_i m d hd; rw [hd]; simp at h; rw [h.1, h.2]
  · cases h
/-- A slice literal: a new block. -/
theorem outs_bslice (t e : TypeId) (len : Nat) (parts : Array (Nat × Operand)) (ho : o.op = .buildSlice t len parts) (hu : sliceB P t e = true) (cells : Array Value)
    (hf : P.builtSlice e len (parts.map fun (i, x) => (i, a.eval x)).toList = some cells) : OutsM P o a w0 M L fun v L' => ∃ g, v = .slice (some ⟨g, 0, none⟩) len len ∧ L' = (g, row cells e) :: L := by
  intro u hm
  unfold Program.builtSlice at hf
  cases hie : P.info? e with
  | none => simp [hie] at hf
  | some ie =>
    simp only [hie] at hf
    cases hz : ie.zero with
    | none => simp [hz] at hf
    | some z =>
      simp only [hz] at hf
      by_cases hc : len * ie.size > 2 ^ 24 ∨ len * ie.size = 0
      · simp [hc] at hf
      · rw [if_neg hc] at hf
        have hr := run_buildSlice u t e len _ cells ie z (sliceB_spec hu) hie hz (fun h' => hc (Or.inl h')) (fun h' => hc (Or.inr h')) hf
        refine outs_run (v := .slice (some ⟨u.heap.size, 0, none⟩) len len) (w1 := u.alloc (.cells cells e)) ?_ ⟨_, ⟨_, rfl, rfl⟩, hm.new (Nat.le_refl _) (heap_alloc_new u _) (below_new _)⟩
        unfold execOp
        simp only [ho, Sem.run_bind, hr, Result.andThen_ok]
        rfl
theorem bslice_m (HM : Mem w0 M L W) (hw : Region.wanted o (yielded ops a.tmps) = true) {N : Tmp} (hd : o.dst = some N) (t e : TypeId) (len : Nat) (parts : Array (Nat × Operand)) (ho : o.op = .buildSlice t len parts) (hu : sliceB P t e = true) (cells : Array Value)
    (hf : P.builtSlice e len (parts.map fun (i, x) => (i, a.eval x)).toList = some cells)
    (h : ∀ g w1, Mem w0 M ((g, row cells e) :: L) w1 → wpList P ops Q rest (a.put (some N) (.slice (some ⟨g, 0, none⟩) len len)) w1) : wpList P ops Q (o :: rest) a W :=
  (outs_bslice t e len parts ho hu cells hf W HM).ev hw fun _ w1 ⟨_, ⟨g, hv, hl⟩, hm⟩ => by subst hv hl; rw [hd]; exact h g w1 hm
/-- An element of an array that is a value: one cell. -/
theorem run_index_cell {W : World} {ty : TypeId} {x ix : Operand} (ho : o.op = .index ty x ix) (n e : Nat) (hu : arrB P ty n e = true) (he : aggB P e = false) (hi : (P.underlying e).isSome = true) (hs : sizB P e 1 = true) (cs : Array Value) (hx : a.eval x = .agg cs) (k : IntKind) (i : Int) (hix : a.eval ix = .int k i)
    (h0 : 0 ≤ i) (h1 : i < n) (v : Value) (hv : cs[i.toNat]? = some v) : (execOp a.eval o).run P W = .ok (.value v) W := by
  have hq : (underlying ty).run P W = .ok (.array n e) W := run_underlying (arrB_spec hu) W
  have hagg : (isAgg e).run P W = .ok false W := by
    unfold aggB at he
    cases hd : P.underlying e with
    | none => simp [hd] at hi
    | some d =>
      simp only [hd] at he
      have hq' : (underlying e).run P W = .ok d W := run_underlying hd W
      cases d <;> first | (simp at he; done) | simp [isAgg, hq', go_sem]
  have hsz : (sizeOf e).run P W = .ok 1 W := by
    have := sizB_spec hs
    cases hq : P.info? e with
    | none => simp [hq] at this
    | some i => simp [hq] at this; simp [sizeOf, typeInfo, hq, this]
  have hr : (Instr.index ty (.agg cs) (.int k i)).run P W = .ok v W := by
    have hp : (part e cs i.toNat).run P W = .ok v W := by simp [part, hagg, hv]
    simp [Instr.index, asIntOf, hq, h0, h1, hsz, hp]
  unfold execOp
  simp only [ho, hx, hix]
  simp [hr]
theorem index_m (hw : Region.wanted o (yielded ops a.tmps) = true) (d : Tmp) (hd : o.dst = some d) (ty : TypeId) {x ix : Operand} (ho : o.op = .index ty x ix) (n e : Nat) (hu : arrB P ty n e = true) (he : aggB P e = false) (hi : (P.underlying e).isSome = true) (hs : sizB P e 1 = true) (cs : Array Value) (hx : a.eval x = .agg cs) (k : IntKind) (i : Int) (hix : a.eval ix = .int k i)
    (h0 : 0 ≤ i) (h1 : i < n) (v : Value) (hv : cs[i.toNat]? = some v) (h : wpList P ops Q rest (a.put (some d) v) W) : wpList P ops Q (o :: rest) a W :=
  (outs_run (N := fun v' w => v' = v ∧ w = W) (run_index_cell ho n e hu he hi hs cs hx k i hix h0 h1 v hv) ⟨rfl, rfl⟩).ev hw fun _ _ ⟨e1, e2⟩ => by
    subst e1 e2
    rw [hd]
    exact h
theorem at_index (ty : TypeId) {x ix : Operand} (h : o.op = .index ty x ix) (k : wpList P ops Q (o :: rest) a W) : wpList P ops Q (o :: rest) a W := k
theorem at_bslice (ty : TypeId) {n : Nat} {p : Array (Nat × Operand)} (h : o.op = .buildSlice ty n p) (k : wpList P ops Q (o :: rest) a W) : wpList P ops Q (o :: rest) a W := k
/-- An element's place in a slice. -/
theorem run_indexAddr {W : World} {ty : TypeId} {x ix : Operand} (ho : o.op = .indexAddr ty x ix) (e : TypeId) (hu : sliceB P ty e = true) (s : Nat) (hs : sizB P e s = true) (g off n c : Nat) (hx : a.eval x = .slice (some ⟨g, off, none⟩) n c) (k : IntKind) (i : Int) (hix : a.eval ix = .int k i)
    (h0 : 0 ≤ i) (h1 : i < n) : (execOp a.eval o).run P W = .ok (.value (.pointer (some ⟨g, off + i.toNat * s, none⟩))) W := by
  have hq : (underlying ty).run P W = .ok (.slice e) W := run_underlying (sliceB_spec hu) W
  have hsz : (sizeOf e).run P W = .ok s W := by
    have := sizB_spec hs
    cases hq : P.info? e with
    | none => simp [hq] at this
    | some i => simp [hq] at this; simp [sizeOf, typeInfo, hq, this]
  have hr : (Instr.indexAt ty (.slice (some ⟨g, off, none⟩) n c) (.int k i)).run P W = .ok (.pointer (some ⟨g, off + i.toNat * s, none⟩)) W := by
    simp [Instr.indexAt, asIntOf, hq, h0, h1, hsz, Addr.add]
  unfold execOp
  simp only [ho, hx, hix]
  simp [hr]
theorem indexAddr_m (hw : Region.wanted o (yielded ops a.tmps) = true) (d : Tmp) (hd : o.dst = some d) (ty : TypeId) {x ix : Operand} (ho : o.op = .indexAddr ty x ix) (e : TypeId) (hu : sliceB P ty e = true) (s : Nat) (hs : sizB P e s = true) (g off n c : Nat) (hx : a.eval x = .slice (some ⟨g, off, none⟩) n c) (k : IntKind) (i : Int) (hix : a.eval ix = .int k i)
    (h0 : 0 ≤ i) (h1 : i < n) (off' : Nat) (ho' : off + i.toNat * s = off') (h : wpList P ops Q rest (a.put (some d) (.pointer (some ⟨g, off', none⟩))) W) : wpList P ops Q (o :: rest) a W :=
  (outs_run (N := fun v' w => v' = .pointer (some ⟨g, off', none⟩) ∧ w = W) (run_indexAddr (W := W) ho e hu s hs g off n c hx k i hix h0 h1) ⟨by rw [ho'], rfl⟩).ev hw fun _ _ ⟨e1, e2⟩ => by
    subst e1 e2
    rw [hd]
    exact h
theorem at_indexAddr (ty : TypeId) {x ix : Operand} (h : o.op = .indexAddr ty x ix) (k : wpList P ops Q (o :: rest) a W) : wpList P ops Q (o :: rest) a W := k
end
end Go.Proofs.Ytndeaikmelpflaa.Sl
