/- Slices of records of any kind over what is known of memory: what they hold, an element, append. Over any program. -/
import Derived.Test.YtndeaikmelpflaaSn
import Derived.Test.YtndeaikmelpflaaMv
import Derived.Test.YtndeaikmelpflaaMc
namespace Go.Proofs.Ytndeaikmelpflaa.Ls
open Go.RowKit Go.Proofs.Ytndeaikmelpflaa.G Go.Proofs.Ytndeaikmelpflaa.M Go.Proofs.Ytndeaikmelpflaa.Sl Go.Proofs.Ytndeaikmelpflaa.Sm Go.Proofs.Ytndeaikmelpflaa.Sn
set_option linter.unusedVariables false
set_option linter.unusedSimpArgs false
/-- A kind of record: k cells each. -/
class Rec (T : Type) (k : outParam Nat) where
  cells : T → Array Value
  size : ∀ x, (cells x).size = k
  one : ∀ x, (cells x).all (·.oneCell') = true
  pos : 0 < k
instance : Rec Int 1 := ⟨fun x => #[.int .i64 x], fun _ => rfl, fun _ => by simp [Value.oneCell'], by decide⟩
theorem add_at (g off j : Nat) : (⟨g, off, none⟩ : Addr).add j = ⟨g, off + j, none⟩ := by unfold Addr.add; split <;> simp_all
section
variable {T : Type} {k : Nat} [Rec T k]
theorem one' (x : T) : ∀ v ∈ (Rec.cells x).toList, v.oneCell' = true := fun v hv => (Array.all_eq_true_iff_forall_mem.1 (Rec.one x)) v (by simpa using hv)
theorem len (x : T) : (Rec.cells x).toList.length = k := by rw [Array.length_toList, Rec.size]
def flat (l : List T) : List Value := l.flatMap fun e => (Rec.cells e).toList
theorem flat_nil : flat ([] : List T) = [] := rfl
theorem flat_cons (e : T) (l : List T) : flat (e :: l) = (Rec.cells e).toList ++ flat l := by simp [flat]
theorem flat_append (l m : List T) : flat (l ++ m) = flat l ++ flat m := by simp [flat]
theorem flat_one (e : T) : flat [e] = (Rec.cells e).toList := by simp [flat]
theorem flat_length (l : List T) : (flat l).length = l.length * k := by
  induction l with
  | nil => simp [flat]
  | cons e l ih => rw [flat_cons, List.length_append, ih, len, List.length_cons, Nat.add_mul]; omega
theorem flat_one' (l : List T) : ∀ v ∈ flat l, v.oneCell' = true := by
  intro v hv
  obtain ⟨e, -, h⟩ := List.mem_flatMap.1 hv
  exact one' e v h
theorem flat_take (l : List T) (i : Nat) : (flat l).take (i * k) = flat (l.take i) := by
  by_cases h : i ≤ l.length
  · conv => lhs; rw [← List.take_append_drop i l, flat_append]
    exact List.take_left' (by rw [flat_length, List.length_take, Nat.min_eq_left h])
  · rw [List.take_of_length_le (by rw [flat_length]; exact Nat.mul_le_mul_right _ (by omega)), List.take_of_length_le (by omega)]
theorem flat_drop (l : List T) (i : Nat) : (flat l).drop (i * k) = flat (l.drop i) := by
  by_cases h : i ≤ l.length
  · conv => lhs; rw [← List.take_append_drop i l, flat_append]
    exact List.drop_left' (by rw [flat_length, List.length_take, Nat.min_eq_left h])
  · rw [List.drop_eq_nil_of_le (by rw [flat_length]; exact Nat.mul_le_mul_right _ (by omega)), List.drop_eq_nil_of_le (by omega)]; rfl
/-- The cells from off on of a row are those of the records. -/
def Row (l : List T) (off : Nat) (cur : Array Value) : Prop := (cur.toList.drop off).take (l.length * k) = flat l ∧ off + l.length * k ≤ cur.size
theorem mul_lt_len {i n k : Nat} (h : i < n) : i * k + k ≤ n * k := by
  have := Nat.mul_le_mul_right k (show i + 1 ≤ n by omega)
  rwa [Nat.add_mul, Nat.one_mul] at this
theorem Row.fit {l : List T} {off : Nat} {cur : Array Value} (h : Row l off cur) {i : Nat} (hi : i < l.length) : off + i * k + k ≤ cur.size := by
  have h2 := h.2
  have h3 := mul_lt_len (k := k) hi
  omega
theorem Row.get {l : List T} {off : Nat} {cur : Array Value} (h : Row l off cur) {i : Nat} {e : T} (hi : l[i]? = some e) : cur.extract (off + i * k) (off + i * k + k) = Rec.cells e := by
  obtain ⟨hlt, he⟩ := List.getElem?_eq_some_iff.1 hi
  have hm := mul_lt_len (k := k) hlt
  have h1 : ((cur.toList.drop off).drop (i * k)).take k = (Rec.cells e).toList := by
    have e1 : (((cur.toList.drop off).take (l.length * k)).drop (i * k)).take k = (Rec.cells e).toList := by
      rw [h.1, flat_drop, show l.drop i = e :: l.drop (i + 1) from by rw [← he]; exact List.drop_eq_getElem_cons hlt, flat_cons]
      exact List.take_left' (len e)
    rw [List.drop_take, List.take_take, show min k (l.length * k - i * k) = k by omega] at e1
    exact e1
  apply Array.ext'
  rw [Array.toList_extract]
  simp only [List.extract_eq_take_drop]
  rw [List.drop_drop] at h1
  rw [show off + i * k + k - (off + i * k) = k by omega]
  exact h1
theorem Row.nil (off : Nat) (cur : Array Value) (h : off ≤ cur.size) : Row ([] : List T) off cur := ⟨by simp [flat], by simpa using h⟩
theorem Row.cells {l : List T} {off : Nat} {cur : Array Value} (h : Row l off cur) {j : Nat} {v : Value} (hj : (flat l)[j]? = some v) : cur[off + j]? = some v := by
  have hlt : j < l.length * k := by
    rw [← flat_length]; exact (List.getElem?_eq_some_iff.1 hj).1
  rw [← h.1, List.getElem?_take, if_pos hlt, List.getElem?_drop] at hj
  simpa using hj
theorem Row.of_take {l : List T} {cur : Array Value} (h : cur.toList.take (l.length * k) = flat l) : Row l 0 cur := ⟨by rw [List.drop_zero]; exact h, by
  have := congrArg List.length h
  simp only [List.length_take, flat_length, Array.length_toList] at this
  simp only [Nat.zero_add]
  omega⟩
theorem Row.of_take0 {l : List T} {cur : Array Value} (h : cur.toList.take (l.length * k) = flat l) : Row l (0 * k) cur := by rw [Nat.zero_mul]; exact Row.of_take h
theorem Row.take {l : List T} {cur : Array Value} (h : Row l 0 cur) : cur.toList.take (l.length * k) = flat l := by simpa using h.1
theorem Row.drop {l : List T} {off : Nat} {cur : Array Value} (h : Row l off cur) {i : Nat} (hi : i ≤ l.length) : Row (l.drop i) (off + i * k) cur := by
  refine ⟨?_, ?_⟩
  · rw [← List.drop_drop]
    have := congrArg (List.drop (i * k)) h.1
    rw [List.drop_take, flat_drop] at this
    rw [List.length_drop, Nat.sub_mul]
    exact this
  · have := h.2
    have h3 := Nat.mul_le_mul_right k hi
    rw [List.length_drop, Nat.sub_mul]; omega
theorem Row.fore {l : List T} {off : Nat} {cur : Array Value} (h : Row l off cur) {i : Nat} (hi : i ≤ l.length) : Row (l.take i) off cur := by
  have h3 := Nat.mul_le_mul_right k hi
  refine ⟨?_, ?_⟩
  · have := congrArg (List.take (i * k)) h.1
    rw [List.take_take, flat_take, Nat.min_eq_left h3] at this
    rw [List.length_take, Nat.min_eq_left hi]
    exact this
  · have := h.2
    rw [List.length_take, Nat.min_eq_left hi]; omega
/-- One more record behind them. -/
theorem Row.push {l : List T} {off : Nat} {cur : Array Value} (h : Row l off cur) (e : T) (hfit : off + (l.length + 1) * k ≤ cur.size) : Row (l ++ [e]) off (splice cur (off + l.length * k) (Rec.cells e).toList) := by
  have hf : off + l.length * k + (Rec.cells e).toList.length ≤ cur.size := by rw [len, Nat.add_assoc]; rw [Nat.add_mul, Nat.one_mul] at hfit; exact hfit
  refine ⟨?_, ?_⟩
  · have e1 := splice_take cur (off + l.length * k) (Rec.cells e).toList hf
    have e2 := congrArg (List.drop off) e1
    rw [List.drop_take, List.drop_append_of_le_length (by simp; omega), List.drop_take] at e2
    rw [List.length_append, List.length_singleton, Nat.add_mul, Nat.one_mul, flat_append, flat_one, ← h.1]
    rw [len] at e2
    rw [show off + l.length * k + k - off = l.length * k + k by omega, show off + l.length * k - off = l.length * k by omega] at e2
    exact e2
  · rw [splice_size _ _ _ hf, List.length_append, List.length_singleton]; exact hfit
/-- A slice that holds records, and its block. -/
def LR (t : TypeId) (l : List T) (v : Value) (A : Hp) : Prop := (v = .slice none 0 0 ∧ l = [] ∧ A = []) ∨
  ∃ g o cap cur, v = .slice (some ⟨g, o * k, none⟩) l.length cap ∧ l.length ≤ cap ∧ o + cap ≤ maxLen ∧ cur.size = (o + cap) * k ∧ Row l (o * k) cur ∧ A = [(g, row cur t)]
theorem LR.nil (t : TypeId) : LR t ([] : List T) (.slice none 0 0) [] := .inl ⟨rfl, rfl, rfl⟩
theorem LR.one {t : TypeId} {l : List T} {v : Value} {A : Hp} (h : LR t l v A) : v.oneCell' = true := by
  rcases h with ⟨rfl, -⟩ | ⟨g, o, cap, cur, rfl, -⟩ <;> rfl
theorem LR.val {t : TypeId} {l : List T} {v : Value} {A : Hp} (h : LR t l v A) : ∃ p c, v = .slice p l.length c ∧ l.length ≤ c := by
  rcases h with ⟨rfl, rfl, -⟩ | ⟨g, o, cap, cur, rfl, h, -⟩
  · exact ⟨none, 0, rfl, Nat.le_refl _⟩
  · exact ⟨_, cap, rfl, h⟩
/-- A slice whose records lie somewhere: to be read only. -/
def LV (t : TypeId) (l : List T) (p : Option Addr) (A : Hp) : Prop := (p = none ∧ l = [] ∧ A = []) ∨ ∃ g off cur, p = some ⟨g, off, none⟩ ∧ Row l off cur ∧ A = [(g, row cur t)]
theorem LR.read {t : TypeId} {l : List T} {v : Value} {A : Hp} (h : LR t l v A) : ∃ p c, v = .slice p l.length c ∧ l.length ≤ c ∧ LV t l p A := by
  rcases h with ⟨rfl, rfl, rfl⟩ | ⟨g, o, cap, cur, rfl, h, -, -, hr, rfl⟩
  · exact ⟨none, 0, rfl, Nat.le_refl _, .inl ⟨rfl, rfl, rfl⟩⟩
  · exact ⟨_, cap, rfl, h, .inr ⟨g, _, cur, rfl, hr, rfl⟩⟩
/-- An element of a slice that is read. -/
theorem LV.get {t : TypeId} {l : List T} {p : Option Addr} {A : Hp} (h : LV t l p A) {i : Nat} {e : T} (hi : l[i]? = some e) :
    ∃ g off cur, p = some ⟨g, off, none⟩ ∧ A = [(g, row cur t)] ∧ off + i * k + k ≤ cur.size ∧ cur.extract (off + i * k) (off + i * k + k) = Rec.cells e := by
  rcases h with ⟨rfl, rfl, rfl⟩ | ⟨g, off, cur, rfl, hr, rfl⟩
  · simp at hi
  · exact ⟨g, off, cur, rfl, rfl, hr.fit (List.getElem?_eq_some_iff.1 hi).1, hr.get hi⟩
/-- The same as cells of the memory. -/
theorem LV.cells {t : TypeId} {l : List T} {p : Option Addr} {A : Hp} (h : LV t l p A) {u : World} (hu : Has A u) {i : Nat} {e : T} (hi : l[i]? = some e) :
    ∃ a, p = some a ∧ ∀ j v, (Rec.cells e).toList[j]? = some v → u.cell? (a.add (i * k + j)) = some v := by
  rcases h with ⟨rfl, rfl, rfl⟩ | ⟨g, off, cur, rfl, hr, rfl⟩
  · simp at hi
  · refine ⟨_, rfl, fun j v hj => ?_⟩
    have hlt := (List.getElem?_eq_some_iff.1 hi).1
    have he := (List.getElem?_eq_some_iff.1 hi).2
    have hjk : j < k := by have := (List.getElem?_eq_some_iff.1 hj).1; rwa [len] at this
    have hm := mul_lt_len (k := k) hlt
    have hc : (flat l)[i * k + j]? = some v := by
      have e1 : (flat l).drop (i * k) = (Rec.cells e).toList ++ flat (l.drop (i + 1)) := by
        rw [flat_drop, show l.drop i = e :: l.drop (i + 1) from by rw [← he]; exact List.drop_eq_getElem_cons hlt, flat_cons]
      have e2 := congrArg (fun z => z[j]?) e1
      simp only [List.getElem?_drop] at e2
      rw [e2, List.getElem?_append_left (by rw [len]; exact hjk)]
      exact hj
    rw [add_at, blk_cell (hu.get 0 rfl)]
    exact hr.cells hc
section
variable {P : Program} {ops : Array Oper} {rest : List Oper} {o : Oper} {a : Act} {Q : Exit → Act → World → Prop} {W w0 : World} {M : List Nat} {R A : Hp}
/-- append of one record onto a slice of one's own. -/
theorem outs_append_lr (s x : Operand) (t e : TypeId) (ho : o.op = .call { callee := .builtin .append, args := #[s, x], argTypes := #[t, t] }) (bytes : Nat) (hu : sliceB P t e = true) (hb : appB P e k bytes = true)
    (l : List T) (v : Value) (hl : LR e l v A) (hs : a.eval s = v) (y : T) (j gb : Nat) (hj : R[j]? = some (gb, row (Rec.cells y) e)) (hx : a.eval x = .slice (some ⟨gb, 0, none⟩) 1 1)
    (hlen : l.length + 1 ≤ maxLen) (hby : (l.length + 1) * bytes ≤ 140737488355328) :
    OutsM P o a w0 M (R ++ A) fun v' L' => ∃ A', LR e (l ++ [y]) v' A' ∧ L' = R ++ A' := by
  intro u hm
  obtain ⟨ie, z, hie, hz, hsize, hbytes, hzs⟩ := appB_spec hb
  have hsl := sliceB_spec hu
  have hgb : u.heap[gb]? = some (row (Rec.cells y) e) := hm.get j (by rw [List.getElem?_append_left (List.getElem?_eq_some_iff.1 hj).1]; exact hj)
  have hnews : ∀ j v, (Rec.cells y).toList[j]? = some v → u.cell? ((⟨gb, 0, none⟩ : Addr).add j) = some v := fun j v hv => by
    rw [add_at, blk_cell hgb, Nat.zero_add]; simpa using hv
  have hnl : (Rec.cells y).toList.length = 1 * ie.size := by rw [len, hsize, Nat.one_mul]
  have h63 : (l.length + 1 : Nat) ≤ 9223372036854775807 := by simp only [maxLen] at hlen; omega
  subst hs
  have key : ∀ {v' : Value} {w1 : World}, (Builtin.append_ #[t, t] o.type #[a.eval s, .slice (some ⟨gb, 0, none⟩) 1 1]).run P u = .ok v' w1 → (∃ A', LR e (l ++ [y]) v' A' ∧ Mem w0 M (R ++ A') w1) → Outs P o a u fun v' u' => ∃ L', (∃ A', LR e (l ++ [y]) v' A' ∧ L' = R ++ A') ∧ Mem w0 M L' u' := by
    intro v' w1 hr ⟨A', h1, h2⟩
    refine outs_run (w1 := w1) (v := v') ?_ ⟨_, ⟨A', h1, rfl⟩, h2⟩
    unfold execOp
    simp only [ho, resolve, invoke, builtin, Sem.run_bind, Sem.run_pure, Result.andThen_ok, List.map_toArray, List.map_cons, List.map_nil, hx, hr]
  have hnew : ∀ (cur : Array Value) (w1 : World), w1 = u.drew.alloc (.cells cur e) → w1.heap[u.heap.size]? = some (row cur e) ∧ Below u.heap.size u w1 := fun cur w1 hw => by
    subst hw
    exact ⟨heap_alloc_new u.drew _, ((Below.refl u.heap.size u).drew).alloc (Nat.le_refl _) _⟩
  rcases hl with ⟨hv, rfl, rfl⟩ | ⟨g, off, cap, cur, hv, hn, hcm, hcs, hrow, rfl⟩
  · have hr := run_append_nil (P := P) u t o.type e ie z hsl hie hz ⟨gb, 0, none⟩ 1 1 (Rec.cells y).toList hnl hnews (by omega) (by omega) (by rw [hbytes]; have := hby; simp only [List.length_nil] at this; omega)
    rw [← hv] at hr
    have hge := grownCap_ge u 1 0 e
    have hcm := grownCap_le_maxLen u 1 0 e (by simp only [maxLen]; omega)
    obtain ⟨h1, h2⟩ := hnew ((Rec.cells y).toList.toArray ++ Builtin.zeroCells z.cells (grownCap u 1 0 e - 1)) _ rfl
    refine key hr ⟨_, .inr ⟨u.heap.size, 0, grownCap u 1 0 e, ((Rec.cells y).toList.toArray ++ Builtin.zeroCells z.cells (grownCap u 1 0 e - 1)), by simp, by simpa using hge, by simpa using hcm, ?_, Row.of_take0 ?_, rfl⟩, (hm.new (Nat.le_refl _) h1 h2).perm ?_⟩
    · simp only [Array.size_append, List.size_toArray, size_zeroCells, hzs, len, Nat.zero_add]
      rw [show k + (grownCap u 1 0 e - 1) * k = (1 + (grownCap u 1 0 e - 1)) * k by rw [Nat.add_mul, Nat.one_mul]]
      congr 1; omega
    · simp only [List.nil_append, List.length_singleton, Nat.one_mul, flat_one, Array.toList_append]
      exact List.take_left' (len y)
    · simpa using (List.perm_append_comm (l₁ := [(u.heap.size, _)]) (l₂ := R))
  · have hg : u.heap[g]? = some (row cur e) := hm.has.right.get 0 rfl
    by_cases hroom : l.length + 1 ≤ cap
    · have hfit : off * k + l.length * k + (Rec.cells y).toList.length ≤ cur.size := by
        rw [len, hcs, ← Nat.add_mul]
        have := Nat.mul_le_mul_right k (show off + l.length + 1 ≤ off + cap by omega)
        rw [Nat.add_mul (off + l.length) 1 k, Nat.one_mul] at this; exact this
      have hr : (Builtin.append_ #[t, t] o.type #[a.eval s, .slice (some ⟨gb, 0, none⟩) 1 1]).run P u = .ok (.slice (some ⟨g, off * k, none⟩) (l.length + 1) cap) (u.setRow g (splice cur (off * k + l.length * k) (Rec.cells y).toList)) := by
        have hf := run_firstCells_some (P := P) u ie.size 1 ⟨gb, 0, none⟩ 1 1 (Rec.cells y).toList hnl hnews
        have hst := run_storeCells_at P g (off * k + l.length * k) e (Rec.cells y).toList 0 cur u hg (by simpa using hfit) (one' y)
        simp only [Nat.add_zero] at hst
        rw [hsize] at hf
        simp [hv, Builtin.append_, run_underlying hsl, sizeOf, typeInfo, hie, Builtin.lenOf, hroom, hf, add_at, hst, hsize, splice]
      refine key hr ⟨_, .inr ⟨g, off, cap, _, by simp, by simpa using hroom, hcm, ?_, hrow.push y ?_, rfl⟩, ?_⟩
      · rw [splice_size _ _ _ hfit, hcs]
      · rw [hcs, ← Nat.add_mul]; exact Nat.mul_le_mul_right k (by omega)
      · have hp : (R ++ [(g, row cur e)]).Perm ((g, row cur e) :: R) := List.perm_append_comm
        have := (hm.perm hp).turn (g := g) (o' := row (splice cur (off * k + l.length * k) (Rec.cells y).toList) e) 0 rfl (setRow_heap u g cur _ e _ hg) (Mod1.row u g _)
        exact this.perm (by simpa using (List.perm_append_comm (l₁ := [(g, _)]) (l₂ := R)))
    · have holds : ∀ j v, (flat l)[j]? = some v → u.cell? ((⟨g, off * k, none⟩ : Addr).add j) = some v := fun j v hj => by
        rw [add_at, blk_cell hg]; exact hrow.cells hj
      have hfl : (flat l).length = l.length * ie.size := by rw [flat_length, hsize]
      have hr := run_append_grow (P := P) u t o.type e ie z hsl hie hz ⟨g, off * k, none⟩ l.length cap (flat l) hfl holds ⟨gb, 0, none⟩ 1 1 (Rec.cells y).toList hnl hnews (by omega) (by omega) (by rw [hbytes]; exact growslice_fits (by omega) hby)
      rw [← hv] at hr
      have hge := grownCap_ge u (l.length + 1) cap e
      have hcm := grownCap_le_maxLen u (l.length + 1) cap e (by omega)
      obtain ⟨h1, h2⟩ := hnew ((flat l).toArray ++ (Rec.cells y).toList.toArray ++ Builtin.zeroCells z.cells (grownCap u (l.length + 1) cap e - (l.length + 1))) _ rfl
      refine key hr ⟨_, .inr ⟨u.heap.size, 0, grownCap u (l.length + 1) cap e, ((flat l).toArray ++ (Rec.cells y).toList.toArray ++ Builtin.zeroCells z.cells (grownCap u (l.length + 1) cap e - (l.length + 1))), by simp, by simpa using hge, by simpa using hcm, ?_, Row.of_take0 ?_, rfl⟩, ((hm.take.new (Nat.le_refl _) h1 h2).perm ?_)⟩
      · simp only [Array.size_append, List.size_toArray, size_zeroCells, hzs, len, flat_length, Nat.zero_add]
        rw [show l.length * k + k = (l.length + 1) * k by rw [Nat.add_mul, Nat.one_mul], ← Nat.add_mul]
        congr 1; omega
      · rw [List.length_append, List.length_singleton, flat_append, flat_one]
        simp only [Array.toList_append]
        exact List.take_left' (by rw [List.length_append, flat_length, len, Nat.add_mul, Nat.one_mul])
      · simpa using (List.perm_append_comm (l₁ := [(u.heap.size, _)]) (l₂ := R))
theorem append_lr_m (HM : Mem w0 M (R ++ A) W) (hw : Region.wanted o (yielded ops a.tmps) = true) {N : Tmp} (hd : o.dst = some N) (s x : Operand) (t e : TypeId) (ho : o.op = .call { callee := .builtin .append, args := #[s, x], argTypes := #[t, t] }) (bytes : Nat) (hu : sliceB P t e = true) (hb : appB P e k bytes = true)
    (l : List T) (v : Value) (hl : LR e l v A) (hs : a.eval s = v) (y : T) (j gb : Nat) (hj : R[j]? = some (gb, row (Rec.cells y) e)) (hx : a.eval x = .slice (some ⟨gb, 0, none⟩) 1 1)
    (hlen : l.length + 1 ≤ maxLen) (hby : (l.length + 1) * bytes ≤ 140737488355328)
    (h : ∀ v' A' w1, LR e (l ++ [y]) v' A' → Mem w0 M (R ++ A') w1 → wpList P ops Q rest (a.put (some N) v') w1) : wpList P ops Q (o :: rest) a W :=
  (outs_append_lr s x t e ho bytes hu hb l v hl hs y j gb hj hx hlen hby W HM).ev hw fun v' w1 ⟨_, ⟨A', h1, hl'⟩, hm⟩ => by
    subst hl'; rw [hd]; exact h v' A' w1 h1 hm
/-- A literal of one record. -/
theorem bslice1_m {L : Hp} (HM : Mem w0 M L W) (hw : Region.wanted o (yielded ops a.tmps) = true) {N : Tmp} (hd : o.dst = some N) (t e : TypeId) (x : Operand) (ho : o.op = .buildSlice t 1 #[(0, x)]) (hu : sliceB P t e = true) (cells : Array Value) (hx : a.eval x = .agg cells)
    (hf : P.builtSlice e 1 [(0, .agg cells)] = some cells)
    (h : ∀ g w1, Mem w0 M ((g, row cells e) :: L) w1 → wpList P ops Q rest (a.put (some N) (.slice (some ⟨g, 0, none⟩) 1 1)) w1) : wpList P ops Q (o :: rest) a W :=
  bslice_m HM hw hd t e 1 #[(0, x)] ho hu cells (by simp [hx, hf]) h
/-- A literal of one value. -/
theorem bslice1v_m {L : Hp} (HM : Mem w0 M L W) (hw : Region.wanted o (yielded ops a.tmps) = true) {N : Tmp} (hd : o.dst = some N) (t e : TypeId) (x : Operand) (ho : o.op = .buildSlice t 1 #[(0, x)]) (hu : sliceB P t e = true) (v : Value) (hx : a.eval x = v)
    (hf : P.builtSlice e 1 [(0, v)] = some #[v])
    (h : ∀ g w1, Mem w0 M ((g, row #[v] e) :: L) w1 → wpList P ops Q rest (a.put (some N) (.slice (some ⟨g, 0, none⟩) 1 1)) w1) : wpList P ops Q (o :: rest) a W :=
  bslice_m HM hw hd t e 1 #[(0, x)] ho hu #[v] (by simp [hx, hf]) h
end
end
/-- Records of a type are compared field by field. -/
def EqR (P : Program) (t : TypeId) (T : Type) {k : Nat} [Rec T k] [DecidableEq T] : Prop := P.eqGuardType P.depth t = false ∧ ∀ (e f : T) (w : World), (Op.equalIn 10000 t (.agg (Rec.cells e)) (.agg (Rec.cells f))).run P w = .ok (decide (e = f)) w
def eqB : BinOp → Bool → Option Bool
  | .eql, b => some b
  | .neq, b => some !b
  | _, _ => none
section
variable {T : Type} {k : Nat} [Rec T k] [DecidableEq T]
variable {P : Program} {ops : Array Oper} {rest : List Oper} {o : Oper} {a : Act} {Q : Exit → Act → World → Prop} {W w0 : World} {M : List Nat} {L : Hp}
theorem run_eqR {W : World} {op : BinOp} {t yt : TypeId} {x y : Operand} (ho : o.op = .binOp op t x y yt) (hT : EqR P t T) {e f : T} (hx : a.eval x = .agg (Rec.cells e)) (hy : a.eval y = .agg (Rec.cells f)) {b : Bool} (hb : eqB op (decide (e = f)) = some b) : (execOp a.eval o).run P W = .ok (.value (.bool b)) W := by
  unfold execOp
  simp only [ho, hx, hy]
  cases op <;> simp only [eqB, Option.some.injEq, reduceCtorEq] at hb <;> subst hb <;> simp [run_eqGuard_agg _ _ _ _ _ _ _ hT.1, run_eql_struct, run_neq_struct, hT.2]
/-- Two records are compared: the ways part at once. -/
theorem eqR_m (hw : Region.wanted o (yielded ops a.tmps) = true) (d : Tmp) (hd : o.dst = some d) (op : BinOp) {t yt : TypeId} (x y : Operand) (ho : o.op = .binOp op t x y yt) (hT : EqR P t T) (e f : T) (hx : a.eval x = .agg (Rec.cells e)) (hy : a.eval y = .agg (Rec.cells f)) (b : Bool) (hb : eqB op (decide (e = f)) = some b)
    (ht : b = true → wpList P ops Q rest (a.put (some d) (.bool true)) W) (hf : b = false → wpList P ops Q rest (a.put (some d) (.bool false)) W) : wpList P ops Q (o :: rest) a W :=
  (outs_run (N := fun v w => v = .bool b ∧ w = W) (run_eqR ho hT hx hy hb) ⟨rfl, rfl⟩).ev hw fun _ _ ⟨e1, e2⟩ => by
    subst e1 e2
    rw [hd]
    cases b
    · exact hf rfl
    · exact ht rfl
/-- The answer is known. -/
theorem eqRv_m (hw : Region.wanted o (yielded ops a.tmps) = true) (d : Tmp) (hd : o.dst = some d) (op : BinOp) {t yt : TypeId} (x y : Operand) (ho : o.op = .binOp op t x y yt) (hT : EqR P t T) (e f : T) (hx : a.eval x = .agg (Rec.cells e)) (hy : a.eval y = .agg (Rec.cells f)) (b : Bool) (hb : eqB op (decide (e = f)) = some b)
    (h : wpList P ops Q rest (a.put (some d) (.bool b)) W) : wpList P ops Q (o :: rest) a W :=
  (outs_run (N := fun v w => v = .bool b ∧ w = W) (run_eqR ho hT hx hy hb) ⟨rfl, rfl⟩).ev hw fun _ _ ⟨e1, e2⟩ => by
    subst e1 e2
    rw [hd]
    exact h
theorem qat_bin (op : BinOp) {xt yt : TypeId} {x y : Operand} {C : World → Prop} {T : Act → Prop} {rest : List Oper} (h : o.op = .binOp op xt x y yt) (k : wpQuiet P ops C T (o :: rest) a) : wpQuiet P ops C T (o :: rest) a := k
/-- The same in a region that draws its order. -/
theorem quiet_eqR {K : Act → Prop} {op : BinOp} {t yt : TypeId} {x y : Operand} (ho : o.op = .binOp op t x y yt) (hT : EqR P t T) {e f : T} (hx : a.eval x = .agg (Rec.cells e)) (hy : a.eval y = .agg (Rec.cells f)) {b : Bool} (hb : eqB op (decide (e = f)) = some b) (h : K (a.put o.dst (.bool b))) : o.quiet P a (Mq.Cl w0 M L) K :=
  quiet_run _ (fun u hm => run_eqR ho hT hx hy hb) h
end
end Go.Proofs.Ytndeaikmelpflaa.Ls
