/- Entries of a buffer: their cells, whether two are the same, lists of them in a row of cells. -/
import Derived.Test.YtfnmdelkdombbaaProg
import Derived.Test.YtfnmdelkdombbaaB
import Derived.Test.YtfnmdelkdombbaaSn
namespace Go.Proofs.Ytfnmdelkdombbaa.Te
open Go.RowKit Go.Proofs.Ytfnmdelkdombbaa.G Go.Proofs.Ytfnmdelkdombbaa.B Go.Proofs.Ytfnmdelkdombbaa.M Go.Proofs.Ytfnmdelkdombbaa.Sl Go.Proofs.Ytfnmdelkdombbaa.Sm Go.Proofs.Ytfnmdelkdombbaa.Sn
set_option linter.unusedVariables false
set_option linter.unusedSimpArgs false
/-- An entry. -/
structure E where
  asid : Int
  va : Int
  level : Int
  kind : Int
  out : Int
  user : Bool
  write : Bool
  exec : Bool
  used : Bool
  attr : Int
deriving DecidableEq
def E.cells (e : E) : Array Value := #[.int .i64 e.asid, .int .u64 e.va, .int .i64 e.level, .int .i64 e.kind, .int .u64 e.out, .bool e.user, .bool e.write, .bool e.exec, .bool e.used, .int .i64 e.attr]
def E.zero : E := ⟨0, 0, 0, 0, 0, false, false, false, false, 0⟩
def E.ok (e : E) : Prop := 0 ≤ e.va ∧ e.va < 18446744073709551616 ∧ 0 ≤ e.out ∧ e.out < 18446744073709551616
theorem E.size (e : E) : e.cells.size = 10 := rfl
theorem E.one (e : E) : e.cells.all (·.oneCell') = true := by simp [E.cells, Value.oneCell']
theorem E.one' (e : E) : ∀ v ∈ e.cells.toList, v.oneCell' = true := by simp [E.cells, Value.oneCell']
def flat (l : List E) : List Value := l.flatMap fun e => e.cells.toList
theorem flat_nil : flat [] = [] := rfl
theorem flat_cons (e : E) (l : List E) : flat (e :: l) = e.cells.toList ++ flat l := by simp [flat]
theorem flat_append (l m : List E) : flat (l ++ m) = flat l ++ flat m := by simp [flat]
theorem flat_one (e : E) : flat [e] = e.cells.toList := by simp [flat]
theorem flat_length (l : List E) : (flat l).length = l.length * 10 := by
  induction l with
  | nil => rfl
  | cons e l ih => rw [flat_cons, List.length_append, ih, Array.length_toList, E.size, List.length_cons]; omega
theorem flat_one' (l : List E) : ∀ v ∈ flat l, v.oneCell' = true := by
  intro v hv
  obtain ⟨e, -, h⟩ := List.mem_flatMap.1 hv
  exact e.one' v h
theorem flat_take (l : List E) (k : Nat) : (flat l).take (k * 10) = flat (l.take k) := by
  by_cases h : k ≤ l.length
  · conv => lhs; rw [← List.take_append_drop k l, flat_append]
    exact List.take_left' (by rw [flat_length, List.length_take, Nat.min_eq_left h])
  · rw [List.take_of_length_le (by rw [flat_length]; omega), List.take_of_length_le (by omega)]
theorem flat_drop (l : List E) (k : Nat) : (flat l).drop (k * 10) = flat (l.drop k) := by
  by_cases h : k ≤ l.length
  · conv => lhs; rw [← List.take_append_drop k l, flat_append]
    exact List.drop_left' (by rw [flat_length, List.length_take, Nat.min_eq_left h])
  · rw [List.drop_eq_nil_of_le (by rw [flat_length]; omega), List.drop_eq_nil_of_le (by omega)]; rfl
/-- The cells from off on of a row are those of the entries. -/
def Row (l : List E) (off : Nat) (cur : Array Value) : Prop := (cur.toList.drop off).take (l.length * 10) = flat l ∧ off + l.length * 10 ≤ cur.size
theorem Row.get {l : List E} {off : Nat} {cur : Array Value} (h : Row l off cur) {i : Nat} {e : E} (hi : l[i]? = some e) : cur.extract (off + i * 10) (off + i * 10 + 10) = e.cells := by
  obtain ⟨hlt, he⟩ := List.getElem?_eq_some_iff.1 hi
  have h1 : ((cur.toList.drop off).drop (i * 10)).take 10 = e.cells.toList := by
    have e1 : (((cur.toList.drop off).take (l.length * 10)).drop (i * 10)).take 10 = e.cells.toList := by
      rw [h.1, flat_drop, show l.drop i = e :: l.drop (i + 1) from by rw [← he]; exact List.drop_eq_getElem_cons hlt, flat_cons]
      exact List.take_left' rfl
    rw [List.drop_take, List.take_take, show min 10 (l.length * 10 - i * 10) = 10 by omega] at e1
    exact e1
  apply Array.ext'
  rw [Array.toList_extract]
  simp only [List.extract_eq_take_drop]
  rw [List.drop_drop] at h1
  rw [show off + i * 10 + 10 - (off + i * 10) = 10 by omega]
  exact h1
theorem Row.nil (off : Nat) (cur : Array Value) (h : off ≤ cur.size) : Row [] off cur := ⟨by simp [flat], by simpa using h⟩
theorem Row.cells {l : List E} {off : Nat} {cur : Array Value} (h : Row l off cur) {j : Nat} {v : Value} (hj : (flat l)[j]? = some v) : cur[off + j]? = some v := by
  have hlt : j < l.length * 10 := by
    rw [← flat_length]; exact (List.getElem?_eq_some_iff.1 hj).1
  rw [← h.1, List.getElem?_take, if_pos hlt, List.getElem?_drop] at hj
  simpa using hj
theorem Row.of_take {l : List E} {cur : Array Value} (h : cur.toList.take (l.length * 10) = flat l) : Row l 0 cur := ⟨by rw [List.drop_zero]; exact h, by
  have := congrArg List.length h
  simp only [List.length_take, flat_length, Array.length_toList] at this
  simp only [Nat.zero_add]
  omega⟩
theorem Row.take {l : List E} {cur : Array Value} (h : Row l 0 cur) : cur.toList.take (l.length * 10) = flat l := by simpa using h.1
theorem Row.some {l : List E} {off : Nat} {cur : Array Value} (h : Row l off cur) {k : Nat} (hk : k ≤ l.length) : Row (l.drop k) (off + k * 10) cur := by
  refine ⟨?_, ?_⟩
  · rw [← List.drop_drop]
    have := congrArg (List.drop (k * 10)) h.1
    rw [List.drop_take, flat_drop] at this
    rw [List.length_drop, Nat.sub_mul]
    exact this
  · have := h.2; rw [List.length_drop]; omega
section
variable {P : Program} {ops : Array Oper} {rest : List Oper} {o : Oper} {a : Act} {Q : Exit → Act → World → Prop} {W w0 : World} {M : List Nat} {L : Hp}
/-- Entries of a type are compared field by field. -/
def EqT (P : Program) (t : TypeId) : Prop := P.eqGuardType P.depth t = false ∧ ∀ (e f : E) (w : World), (Op.equalIn 10000 t (.agg e.cells) (.agg f.cells)).run P w = .ok (decide (e = f)) w
def eqV : BinOp → Bool → Option Bool
  | .eql, b => some b
  | .neq, b => some !b
  | _, _ => none
theorem run_eqE {W : World} {op : BinOp} {t yt : TypeId} {x y : Operand} (ho : o.op = .binOp op t x y yt) (hT : EqT P t) {e f : E} (hx : a.eval x = .agg e.cells) (hy : a.eval y = .agg f.cells) {b : Bool} (hb : eqV op (decide (e = f)) = some b) : (execOp a.eval o).run P W = .ok (.value (.bool b)) W := by
  unfold execOp
  simp only [ho, hx, hy]
  cases op <;> simp only [eqV, Option.some.injEq, reduceCtorEq] at hb <;> subst hb <;> simp [run_eqGuard_agg _ _ _ _ _ _ _ hT.1, run_eql_struct, run_neq_struct, hT.2]
theorem eqE_m (hw : Region.wanted o (yielded ops a.tmps) = true) (d : Tmp) (hd : o.dst = some d) (op : BinOp) {t yt : TypeId} (x y : Operand) (ho : o.op = .binOp op t x y yt) (hT : EqT P t) (e f : E) (hx : a.eval x = .agg e.cells) (hy : a.eval y = .agg f.cells) (b : Bool) (hb : eqV op (decide (e = f)) = some b)
    (ht : b = true → wpList P ops Q rest (a.put (some d) (.bool true)) W) (hf : b = false → wpList P ops Q rest (a.put (some d) (.bool false)) W) : wpList P ops Q (o :: rest) a W :=
  (outs_run (N := fun v w => v = .bool b ∧ w = W) (run_eqE ho hT hx hy hb) ⟨rfl, rfl⟩).ev hw fun _ _ ⟨e1, e2⟩ => by
    subst e1 e2
    rw [hd]
    cases b
    · exact hf rfl
    · exact ht rfl
end
theorem dec_and (e f : E) : decide (e = f) = (decide (e.asid = f.asid) && (decide (e.va = f.va) && (decide (e.level = f.level) && (decide (e.kind = f.kind) && (decide (e.out = f.out) && (decide (e.user = f.user) && (decide (e.write = f.write) && (decide (e.exec = f.exec) && (decide (e.used = f.used) && decide (e.attr = f.attr)))))))))) := by
  obtain ⟨a1, a2, a3, a4, a5, a6, a7, a8, a9, a10⟩ := e
  obtain ⟨b1, b2, b3, b4, b5, b6, b7, b8, b9, b10⟩ := f
  rw [Bool.eq_iff_iff]
  simp
end Go.Proofs.Ytfnmdelkdombbaa.Te
