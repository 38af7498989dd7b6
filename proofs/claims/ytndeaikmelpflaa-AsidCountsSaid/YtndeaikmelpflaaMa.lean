/- Maps whose keys are words of 64 bits, and arrays in memory, over what is known of memory. Over any program. -/
import Derived.Test.YtndeaikmelpflaaSn
import Derived.Test.YtndeaikmelpflaaMc
import Derived.MapKept
namespace Go.Proofs.Ytndeaikmelpflaa.Ma
open Go.RowKit Go.Proofs.Ytndeaikmelpflaa.G Go.Proofs.Ytndeaikmelpflaa.M Go.Proofs.Ytndeaikmelpflaa.Sl Go.Proofs.Ytndeaikmelpflaa.Sm Go.Proofs.Ytndeaikmelpflaa.Sn
set_option linter.unusedVariables false
set_option linter.unusedSimpArgs false
/-- What a map holds, in its order. -/
def Ents (E : List MapEntry) (l : List (Int × Value)) : Prop := E.map (fun e => (e.key, e.val)) = l.map fun p => (Value.int .u64 p.1, p.2)
theorem Ents.nil : Ents [] [] := rfl
theorem Ents.push {es : Array MapEntry} {l : List (Int × Value)} (h : Ents es.toList l) (x : Int) (v : Value) (b : Nat) : Ents (es.push { key := .int .u64 x, val := v, born := b }).toList (l ++ [(x, v)]) := by
  unfold Ents at *
  rw [Array.toList_push, List.map_append, List.map_append, h]
  rfl
/-- What stands under a key. -/
def lookM (l : List (Int × Value)) (x : Int) : Option Value := (l.find? fun p => p.1 == x).map (·.2)
theorem findNow_l (x : Int) : ∀ (E : List MapEntry) (l : List (Int × Value)) (i : Nat), Ents E l → ∃ r, Instr.findNow (.int .u64) (.int .u64 x) E i = some r ∧ r.map (·.2) = lookM l x ∧ ∀ j v, r = some (j, v) → i ≤ j ∧ l[j - i]? = some (x, v)
  | [], l, i, h => by
    have : l = [] := by
      have := congrArg List.length h
      simp at this; exact List.eq_nil_of_length_eq_zero this.symm
    subst this
    exact ⟨none, rfl, rfl, fun _ _ h => by cases h⟩
  | e :: E, l, i, h => by
    cases l with
    | nil => simp [Ents] at h
    | cons p l =>
      unfold Ents at h
      simp only [List.map_cons, List.cons.injEq, Prod.mk.injEq] at h
      obtain ⟨⟨hk, hv⟩, h⟩ := h
      by_cases hx : p.1 = x
      · refine ⟨some (i, e.val), ?_, ?_, ?_⟩
        · simp [Instr.findNow, hk, Instr.sameNow, hx]
        · simp [lookM, hx, hv]
        · intro j v hj
          simp at hj
          obtain ⟨rfl, rfl⟩ := hj
          refine ⟨Nat.le_refl _, ?_⟩
          rw [Nat.sub_self, hv, ← hx]; rfl
      · obtain ⟨r, h1, h2, h3⟩ := findNow_l x E l (i + 1) h
        have hx' : (x == p.1) = false := by simp; omega
        refine ⟨r, ?_, ?_, ?_⟩
        · simp [Instr.findNow, hk, Instr.sameNow, hx', h1]
        · rw [h2]; simp [lookM, hx]
        · intro j v hj
          obtain ⟨h4, h5⟩ := h3 j v hj
          refine ⟨by omega, ?_⟩
          rw [show j - i = (j - (i + 1)) + 1 by omega]
          simpa using h5
def mapB (P : Program) (t kt et : TypeId) : Bool := match P.underlying t, P.underlying kt with | some (.map k e), some (.int .u64) => k == kt && e == et | _, _ => false
theorem mapB_spec {P : Program} {t kt et : TypeId} (h : mapB P t kt et = true) : P.underlying t = some (.map kt et) ∧ P.underlying kt = some (.int .u64) := by
  unfold mapB at h
  split at h
  · rename_i k e h1 h2
    simp at h
    obtain ⟨rfl, rfl⟩ := h
    exact ⟨h1, h2⟩
  · cases h
section
variable {P : Program} {ops : Array Oper} {rest : List Oper} {o : Oper} {a : Act} {Q : Exit → Act → World → Prop} {W w0 : World} {M : List Nat} {L : Hp}
/-- A map is made. -/
theorem outs_makeMap (t : TypeId) (ho : o.op = .makeMap t none) : OutsM P o a w0 M L fun v L' => ∃ g, v = .map (some g) ∧ L' = (g, .map #[] 0) :: L := by
  intro u hm
  refine outs_run (v := .map (some u.heap.size)) (w1 := u.alloc (.map #[] 0)) ?_ ⟨_, ⟨_, rfl, rfl⟩, hm.new (Nat.le_refl _) (heap_alloc_new u _) (below_new _)⟩
  unfold execOp
  simp only [ho]
  simp [Instr.makeMap, newObj]
  rfl
theorem makeMap_m (HM : Mem w0 M L W) (hw : Region.wanted o (yielded ops a.tmps) = true) {N : Tmp} (hd : o.dst = some N) (t : TypeId) (ho : o.op = .makeMap t none)
    (h : ∀ g w1, Mem w0 M ((g, .map #[] 0) :: L) w1 → wpList P ops Q rest (a.put (some N) (.map (some g))) w1) : wpList P ops Q (o :: rest) a W :=
  (outs_makeMap t ho W HM).ev hw fun _ w1 ⟨_, ⟨g, hv, hl⟩, hm⟩ => by subst hv hl; rw [hd]; exact h g w1 hm
/-- What a lookM tells. -/
def lookV (z : Value) (r : Option Value) : Value := match r with | some v => .tuple #[v, .bool true] | none => .tuple #[z, .bool false]
theorem run_lookup {W : World} {t kt et : TypeId} (ht : mapB P t kt et = true) {b clock : Nat} {es : Array MapEntry} {l : List (Int × Value)} (hb : W.heap[b]? = some (.map es clock)) (he : Ents es.toList l) (x : Int) (z : Value) (hz : (P.info? et).map (·.zero) = some (some z)) :
    (Instr.lookup t (.map (some b)) (.int .u64 x) true).run P W = .ok (lookV z (lookM l x)) W := by
  obtain ⟨h1, h2⟩ := mapB_spec ht
  obtain ⟨r, h3, h4, h5⟩ := findNow_l x es.toList l 0 he
  have hzr : (zeroValue et).run P W = .ok z W := by
    cases hq : P.info? et with
    | none => simp [hq] at hz
    | some i =>
      have hzz : i.zero = some z := by simpa [hq] using hz
      simp [zeroValue, typeInfo, hq, hzz]
  rw [← h4]
  have hk : MapKept.IsKey (.int .u64) (.int .u64 x) := rfl
  cases r with
  | none => simp [Instr.lookup, run_underlying h1, MapKept.run_getObj_map hb, MapKept.run_checkKey h2 hk, MapKept.run_findKey h2 h3, hzr, Result.andThen, lookV]
  | some r => simp [Instr.lookup, run_underlying h1, MapKept.run_getObj_map hb, MapKept.run_checkKey h2 hk, MapKept.run_findKey h2 h3, hzr, Result.andThen, lookV]
theorem lookup_m (HM : Mem w0 M L W) (hw : Region.wanted o (yielded ops a.tmps) = true) {N : Tmp} (hd : o.dst = some N) (t kt et : TypeId) (m x : Operand) (ho : o.op = .lookup t m x true) (ht : mapB P t kt et = true) (z : Value) (hz : (P.info? et).map (·.zero) = some (some z))
    (i b clock : Nat) (es : Array MapEntry) (l : List (Int × Value)) (hi : L[i]? = some (b, .map es clock)) (he : Ents es.toList l) (hm : a.eval m = .map (some b)) (k : Int) (hx : a.eval x = .int .u64 k) (r : Value) (hr : lookV z (lookM l k) = r)
    (h : wpList P ops Q rest (a.put (some N) r) W) : wpList P ops Q (o :: rest) a W := by
  subst hr
  refine (outs_run (N := fun v' w => v' = lookV z (lookM l k) ∧ w = W) (w1 := W) (v := lookV z (lookM l k)) ?_ ⟨rfl, rfl⟩).ev hw fun _ _ ⟨e1, e2⟩ => by subst e1 e2; rw [hd]; exact h
  unfold execOp
  simp only [ho, hm, hx]
  simp [run_lookup ht (HM.get i hi) he k z hz]
theorem at_lookup (ty : TypeId) {x ix : Operand} {b : Bool} (h : o.op = .lookup ty x ix b) (k : wpList P ops Q (o :: rest) a W) : wpList P ops Q (o :: rest) a W := k
theorem at_mapUpdate (ty : TypeId) {x ix v : Operand} (h : o.op = .mapUpdate ty x ix v) (k : wpList P ops Q (o :: rest) a W) : wpList P ops Q (o :: rest) a W := k
theorem at_makeMap (ty : TypeId) {x : Option Operand} (h : o.op = .makeMap ty x) (k : wpList P ops Q (o :: rest) a W) : wpList P ops Q (o :: rest) a W := k
/-- A key that isn't there yet is put in. -/
theorem outs_mapNew (t kt et : TypeId) (m x y : Operand) (ho : o.op = .mapUpdate t m x y) (ht : mapB P t kt et = true)
    (i b clock : Nat) (es : Array MapEntry) (l : List (Int × Value)) (hi : L[i]? = some (b, .map es clock)) (he : Ents es.toList l) (hm : a.eval m = .map (some b)) (k : Int) (hx : a.eval x = .int .u64 k) (v : Value) (hy : a.eval y = v) (hn : lookM l k = none) :
    OutsM P o a w0 M L fun r L' => r = undef ∧ L' = L.set i (b, .map (es.push { key := .int .u64 k, val := v, born := clock }) (clock + 1)) := by
  intro u hu
  subst hy
  have hb := hu.get i hi
  obtain ⟨h1, h2⟩ := mapB_spec ht
  obtain ⟨r, h3, h4, h5⟩ := findNow_l k es.toList l 0 he
  have hr : r = none := by
    cases r with
    | none => rfl
    | some r => rw [hn] at h4; simp at h4
  subst hr
  have hk : MapKept.IsKey (.int .u64) (.int .u64 k) := rfl
  have hg : b < u.heap.size := blk_lt hb
  refine outs_skip (w1 := { u with heap := u.heap.setIfInBounds b (.map (es.push { key := .int .u64 k, val := a.eval y, born := clock }) (clock + 1)) }) ?_ ⟨_, ⟨rfl, rfl⟩, hu.turn i hi (by simp [hg]) (Ms.Mod1.obj u b _)⟩
  unfold execOp
  simp only [ho, hm, hx]
  simp [Instr.mapUpdate, run_underlying h1, MapKept.run_getObj_map hb, MapKept.run_checkKey h2 hk, MapKept.run_findKey h2 h3, MapKept.run_setObj_map _ hb, Result.andThen]
theorem mapNew_m (HM : Mem w0 M L W) (hw : Region.wanted o (yielded ops a.tmps) = true) (t kt et : TypeId) (m x y : Operand) (ho : o.op = .mapUpdate t m x y) (ht : mapB P t kt et = true)
    (i b clock : Nat) (es : Array MapEntry) (l : List (Int × Value)) (hi : L[i]? = some (b, .map es clock)) (he : Ents es.toList l) (hm : a.eval m = .map (some b)) (k : Int) (hx : a.eval x = .int .u64 k) (v : Value) (hy : a.eval y = v) (hn : lookM l k = none)
    (h : ∀ w1, Mem w0 M (L.set i (b, .map (es.push { key := .int .u64 k, val := v, born := clock }) (clock + 1))) w1 → wpList P ops Q rest (a.put o.dst undef) w1) : wpList P ops Q (o :: rest) a W :=
  (outs_mapNew t kt et m x y ho ht i b clock es l hi he hm k hx v hy hn W HM).ev hw fun _ w1 ⟨_, ⟨hv, hl⟩, hm⟩ => by subst hv hl; exact h w1 hm
/-- An element's place in an array in memory. -/
theorem run_indexArr {W : World} {ty : TypeId} {x ix : Operand} (ho : o.op = .indexAddr ty x ix) (n e : Nat) (hu : arrB P ty n e = true) (s : Nat) (hs : sizB P e s = true) (p : Addr) (hx : a.eval x = .pointer (some p)) (k : IntKind) (i : Int) (hix : a.eval ix = .int k i)
    (h0 : 0 ≤ i) (h1 : i < n) : (execOp a.eval o).run P W = .ok (.value (.pointer (some (p.add (i.toNat * s))))) W := by
  have hq : (underlying ty).run P W = .ok (.array n e) W := run_underlying (arrB_spec hu) W
  have hsz : (sizeOf e).run P W = .ok s W := by
    have := sizB_spec hs
    cases hq : P.info? e with
    | none => simp [hq] at this
    | some i => simp [hq] at this; simp [sizeOf, typeInfo, hq, this]
  have hr : (Instr.indexAt ty (.pointer (some p)) (.int k i)).run P W = .ok (.pointer (some (p.add (i.toNat * s)))) W := by
    simp [Instr.indexAt, asIntOf, hq, h0, h1, hsz, Instr.sureAddr]
  unfold execOp
  simp only [ho, hx, hix]
  simp [hr]
theorem indexArr_m (hw : Region.wanted o (yielded ops a.tmps) = true) (d : Tmp) (hd : o.dst = some d) (ty : TypeId) {x ix : Operand} (ho : o.op = .indexAddr ty x ix) (n e : Nat) (hu : arrB P ty n e = true) (s : Nat) (hs : sizB P e s = true) (g off : Nat) (hx : a.eval x = .pointer (some ⟨g, off, none⟩)) (k : IntKind) (i : Int) (hix : a.eval ix = .int k i)
    (h0 : 0 ≤ i) (h1 : i < n) (j : Nat) (hj : off + i.toNat * s = j) (h : wpList P ops Q rest (a.put (some d) (.pointer (some ⟨g, j, none⟩))) W) : wpList P ops Q (o :: rest) a W :=
  (outs_run (N := fun v' w => v' = .pointer (some ⟨g, j, none⟩) ∧ w = W) (run_indexArr (W := W) ho n e hu s hs ⟨g, off, none⟩ hx k i hix h0 h1) ⟨by rw [← hj]; unfold Addr.add; split <;> simp_all, rfl⟩).ev hw fun _ _ ⟨e1, e2⟩ => by
    subst e1 e2
    rw [hd]
    exact h
end
end Go.Proofs.Ytndeaikmelpflaa.Ma
