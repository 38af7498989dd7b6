/- More on slices of structs over what is known of memory: a struct is stored into an element, append in place, clear. Over any program. -/
import Derived.Test.YtndeaikmelpflaaSm
import Derived.Laws.CopyRow
namespace Go.Proofs.Ytndeaikmelpflaa.Sn
open Go.RowKit Go.Proofs.Ytndeaikmelpflaa.G Go.Proofs.Ytndeaikmelpflaa.M Go.Proofs.Ytndeaikmelpflaa.Sl Go.Proofs.Ytndeaikmelpflaa.Sm
set_option linter.unusedVariables false
set_option linter.unusedSimpArgs false
/-- Some cells of a row anew. -/
def splice (cur : Array Value) (off : Nat) (vs : List Value) : Array Value := (cur.toList.take off ++ vs ++ cur.toList.drop (off + vs.length)).toArray
theorem splice_size (cur : Array Value) (off : Nat) (vs : List Value) (h : off + vs.length ≤ cur.size) : (splice cur off vs).size = cur.size := by
  simp [splice]; omega
theorem splice_take (cur : Array Value) (off : Nat) (vs : List Value) (h : off + vs.length ≤ cur.size) : (splice cur off vs).toList.take (off + vs.length) = cur.toList.take off ++ vs := by
  unfold splice
  rw [List.toList_toArray]
  exact List.take_left' (by simp; omega)
theorem splice_fore (cur : Array Value) (off : Nat) (vs : List Value) (h : off + vs.length ≤ cur.size) : (splice cur off vs).toList.take off = cur.toList.take off := by
  have e := congrArg (List.take off) (splice_take cur off vs h)
  rw [List.take_take] at e
  rw [show min off (off + vs.length) = off by omega] at e
  rw [e]
  exact List.take_left' (by simp; omega)
theorem splice_behind (cur : Array Value) (off : Nat) (vs : List Value) (h : off + vs.length ≤ cur.size) : (splice cur off vs).toList.drop (off + vs.length) = cur.toList.drop (off + vs.length) := by
  unfold splice
  rw [List.toList_toArray]
  exact List.drop_left' (by simp; omega)
section
variable {P : Program} {ops : Array Oper} {rest : List Oper} {o : Oper} {a : Act} {Q : Exit → Act → World → Prop} {W w0 : World} {M : List Nat} {L : Hp}
theorem run_store_part {W : World} {g off : Nat} {ty t : TypeId} {cur cs : Array Value} (hs : sizB P ty cs.size = true) (h1 : cs.all (·.oneCell') = true) (hlt : off + cs.size ≤ cur.size) (hg : W.heap[g]? = some (row cur t)) : (storeVar ty ⟨g, off, none⟩ (.agg cs)).run P W = .ok () (W.setRow g (splice cur off cs.toList)) := by
  have hst := run_storeCells_at P g off t cs.toList 0 cur W hg (by simpa using hlt) (fun v hv => (Array.all_eq_true_iff_forall_mem.1 h1) v (by simpa using hv))
  simp only [Nat.add_zero] at hst
  have hi := sizB_spec hs
  cases hq : P.info? ty with
  | none => simp [hq] at hi
  | some inf =>
    have hsz : inf.size = cs.size := by simpa [hq] using hi
    simp [storeVar, sizeOf, typeInfo, hq, Value.cells, hsz, hst, splice]
theorem store_part_m (HM : Mem w0 M L W) (hw : Region.wanted o (yielded ops a.tmps) = true) (ty : TypeId) (x y : Operand) (ho : o.op = .store ty x y) (i : Nat) (g off : Nat) (t : TypeId) (cur cs : Array Value) (hi : L[i]? = some (g, row cur t)) (hx : a.eval x = .pointer (some ⟨g, off, none⟩)) (hy : a.eval y = .agg cs)
    (hs : sizB P ty cs.size = true) (h1 : cs.all (·.oneCell') = true) (hlt : off + cs.size ≤ cur.size)
    (h : ∀ w1, Mem w0 M (L.set i (g, row (splice cur off cs.toList) t)) w1 → wpList P ops Q rest (a.put o.dst undef) w1) : wpList P ops Q (o :: rest) a W := by
  have H : OutsM P o a w0 M L fun r L' => r = undef ∧ L' = L.set i (g, row (splice cur off cs.toList) t) := by
    intro u hu
    have hb := hu.get i hi
    refine outs_skip (w1 := u.setRow g (splice cur off cs.toList)) ?_ ⟨_, ⟨rfl, rfl⟩, hu.turn i hi (setRow_heap u g cur _ t _ hb) (Mod1.row u g _)⟩
    unfold execOp
    simp only [ho, hx, hy, Instr.storeAt, Instr.sureAddr, Sem.run_bind, Sem.run_pure, Result.andThen_ok, run_store_part hs h1 hlt hb]
  exact (H W HM).ev hw fun _ w1 ⟨_, ⟨hv, hl⟩, hm⟩ => by subst hv hl; exact h w1 hm
/-- append where there is room. -/
theorem outs_append_room (s x : Operand) (t e : TypeId) (ho : o.op = .call { callee := .builtin .append, args := #[s, x], argTypes := #[t, t] }) (size : Nat) (hu : sliceB P t e = true) (hb : sizB P e size = true)
    (i g n cap : Nat) (cur : Array Value) (hi : L[i]? = some (g, row cur e)) (hs : a.eval s = .slice (some ⟨g, 0, none⟩) n cap) (hcs : cur.size = cap * size)
    (ad : Addr) (m c : Nat) (hx : a.eval x = .slice (some ad) m c) (news : List Value) (hl : news.length = m * size) (hnews : ∀ u, Mem w0 M L u → ∀ j v, news[j]? = some v → u.cell? (ad.add j) = some v) (h1 : ∀ v ∈ news, v.oneCell' = true)
    (hroom : n + m ≤ cap) (nm : Nat) (hnm : n + m = nm) :
    OutsM P o a w0 M L fun v L' => v = .slice (some ⟨g, 0, none⟩) nm cap ∧ L' = L.set i (g, row (splice cur (n * size) news) e) := by
  subst hnm
  intro u hm
  have hg := hm.get i hi
  have hsz := sizB_spec hb
  cases hq : P.info? e with
  | none => simp [hq] at hsz
  | some ie =>
    have hsize : ie.size = size := by simpa [hq] using hsz
    subst hsize
    have hfit : n * ie.size + news.length ≤ cur.size := by rw [hl, hcs, ← Nat.add_mul]; exact Nat.mul_le_mul_right _ hroom
    have hr := run_append_room (P := P) u t o.type e ie (sliceB_spec hu) hq g n cap cur hg ad m c news hl (hnews u hm) h1 hroom hfit
    refine outs_run (w1 := u.setRow g (splice cur (n * ie.size) news)) (v := .slice (some ⟨g, 0, none⟩) (n + m) cap) ?_ ⟨_, ⟨rfl, rfl⟩, hm.turn i hi (setRow_heap u g cur _ e _ hg) (Mod1.row u g _)⟩
    unfold execOp
    simp only [ho, resolve, invoke, builtin, Sem.run_bind, Sem.run_pure, Result.andThen_ok, List.map_toArray, List.map_cons, List.map_nil, hs, hx, hr]
    rfl
theorem append_room_m (HM : Mem w0 M L W) (hw : Region.wanted o (yielded ops a.tmps) = true) {N : Tmp} (hd : o.dst = some N) (s x : Operand) (t e : TypeId) (ho : o.op = .call { callee := .builtin .append, args := #[s, x], argTypes := #[t, t] }) (size : Nat) (hu : sliceB P t e = true) (hb : sizB P e size = true)
    (i g n cap : Nat) (cur : Array Value) (hi : L[i]? = some (g, row cur e)) (hs : a.eval s = .slice (some ⟨g, 0, none⟩) n cap) (hcs : cur.size = cap * size)
    (ad : Addr) (m c : Nat) (hx : a.eval x = .slice (some ad) m c) (news : List Value) (hl : news.length = m * size) (hnews : ∀ u, Mem w0 M L u → ∀ j v, news[j]? = some v → u.cell? (ad.add j) = some v) (h1 : ∀ v ∈ news, v.oneCell' = true)
    (hroom : n + m ≤ cap) (nm : Nat) (hnm : n + m = nm)
    (h : ∀ w1, Mem w0 M (L.set i (g, row (splice cur (n * size) news) e)) w1 → wpList P ops Q rest (a.put (some N) (.slice (some ⟨g, 0, none⟩) nm cap)) w1) : wpList P ops Q (o :: rest) a W :=
  (outs_append_room s x t e ho size hu hb i g n cap cur hi hs hcs ad m c hx news hl hnews h1 hroom nm hnm W HM).ev hw fun _ w1 ⟨_, ⟨hv, hl'⟩, hm⟩ => by
    subst hv hl'; rw [hd]; exact h w1 hm
/-- clear of some elements of a block that is known. -/
def clrB (P : Program) (e size : Nat) : Bool := match P.info? e with | some i => (match i.zero with | some z => z.cells.size == size && z.cells.all (·.oneCell') | none => false) | none => false
theorem zeroCells_one (c : Array Value) (n : Nat) (h : c.all (·.oneCell') = true) : ∀ v ∈ (Builtin.zeroCells c n).toList, v.oneCell' = true := by
  intro v hv
  have hall := Array.all_eq_true_iff_forall_mem.1 h
  by_cases h0 : c.size = 0
  · have : (Builtin.zeroCells c n).size = 0 := by rw [size_zeroCells, h0, Nat.mul_zero]
    have := Array.eq_empty_of_size_eq_zero this
    rw [this] at hv; simp at hv
  · simp only [Builtin.zeroCells, Array.toList_map, List.mem_map] at hv
    obtain ⟨k, hk, rfl⟩ := hv
    have hlt : k % c.size < c.size := Nat.mod_lt _ (by omega)
    apply hall
    simp [hlt]
theorem outs_clear (s : Operand) (t e : TypeId) (ho : o.op = .call { callee := .builtin .clear, args := #[s], argTypes := #[t] }) (size : Nat) (hu : sliceB P t e = true) (hb : clrB P e size = true)
    (i g off n c : Nat) (cur : Array Value) (hi : L[i]? = some (g, row cur e)) (hs : a.eval s = .slice (some ⟨g, off, none⟩) n c) (hfit : off + n * size ≤ cur.size) :
    OutsM P o a w0 M L fun v L' => v = .tuple #[] ∧ ∃ cur', cur'.size = cur.size ∧ cur'.toList.take off = cur.toList.take off ∧ L' = L.set i (g, row cur' e) := by
  intro u hm
  have hg := hm.get i hi
  have hq := run_underlying (P := P) (sliceB_spec hu)
  by_cases hn : n = 0
  · subst hn
    have hr : (Builtin.clear_ #[t] o.type #[.slice (some ⟨g, off, none⟩) 0 c]).run P u = .ok (.tuple #[]) u := by simp [Builtin.clear_, hq]
    refine outs_run (w1 := u) (v := .tuple #[]) ?_ ⟨_, ⟨rfl, cur, rfl, rfl, rfl⟩, ?_⟩
    · unfold execOp
      simp only [ho, resolve, invoke, builtin, Sem.run_bind, Sem.run_pure, Result.andThen_ok, List.map_toArray, List.map_cons, List.map_nil, hs, hr]
    · have e : L.set i (g, row cur e) = L := by
        apply List.ext_getElem?
        intro j
        rw [List.getElem?_set]
        split
        · rename_i h; subst h; rw [hi]; simp; exact (List.getElem?_eq_some_iff.1 hi).1
        · rfl
      rw [e]; exact hm
  · unfold clrB at hb
    cases hie : P.info? e with
    | none => simp [hie] at hb
    | some ie =>
      cases hz : ie.zero with
      | none => simp [hie, hz] at hb
      | some z =>
        simp only [hie, hz, Bool.and_eq_true, beq_iff_eq] at hb
        have hlen : (Builtin.zeroCells z.cells n).toList.length = n * size := by rw [Array.length_toList, size_zeroCells, hb.1]
        have hst := run_storeCells_at P g off e (Builtin.zeroCells z.cells n).toList 0 cur u hg (by rw [hlen]; omega) (zeroCells_one _ _ hb.2)
        simp only [Nat.add_zero] at hst
        have hzv : (zeroValue e).run P u = .ok z u := by simp [zeroValue, typeInfo, hie, hz]
        have hr : (Builtin.clear_ #[t] o.type #[.slice (some ⟨g, off, none⟩) n c]).run P u = .ok (.tuple #[]) (u.setRow g (splice cur off (Builtin.zeroCells z.cells n).toList)) := by
          obtain ⟨m, rfl⟩ : ∃ m, n = m + 1 := ⟨n - 1, by omega⟩
          simp [Builtin.clear_, hq, hzv, hst, splice]
        refine outs_run (w1 := u.setRow g (splice cur off (Builtin.zeroCells z.cells n).toList)) (v := .tuple #[]) ?_ ⟨_, ⟨rfl, splice cur off (Builtin.zeroCells z.cells n).toList, splice_size _ _ _ (by rw [hlen]; exact hfit), splice_fore _ _ _ (by rw [hlen]; exact hfit), rfl⟩, hm.turn i hi (setRow_heap u g cur _ e _ hg) (Mod1.row u g _)⟩
        unfold execOp
        simp only [ho, resolve, invoke, builtin, Sem.run_bind, Sem.run_pure, Result.andThen_ok, List.map_toArray, List.map_cons, List.map_nil, hs, hr]
theorem clear_m (HM : Mem w0 M L W) (hw : Region.wanted o (yielded ops a.tmps) = true) (s : Operand) (t e : TypeId) (ho : o.op = .call { callee := .builtin .clear, args := #[s], argTypes := #[t] }) (size : Nat) (hu : sliceB P t e = true) (hb : clrB P e size = true)
    (i g off n c : Nat) (cur : Array Value) (hi : L[i]? = some (g, row cur e)) (hs : a.eval s = .slice (some ⟨g, off, none⟩) n c) (hfit : off + n * size ≤ cur.size)
    (h : ∀ cur' w1, cur'.size = cur.size → cur'.toList.take off = cur.toList.take off → Mem w0 M (L.set i (g, row cur' e)) w1 → wpList P ops Q rest (a.put o.dst (.tuple #[])) w1) : wpList P ops Q (o :: rest) a W :=
  (outs_clear s t e ho size hu hb i g off n c cur hi hs hfit W HM).ev hw fun _ w1 ⟨_, ⟨hv, cur', e1, e2, hl'⟩, hm⟩ => by
    subst hv hl'; exact h cur' w1 e1 e2 hm
theorem at_append {s x : Operand} {t u : TypeId} (h : o.op = .call { callee := .builtin .append, args := #[s, x], argTypes := #[t, u] }) (k : wpList P ops Q (o :: rest) a W) : wpList P ops Q (o :: rest) a W := k
theorem at_clear {s : Operand} {t : TypeId} (h : o.op = .call { callee := .builtin .clear, args := #[s], argTypes := #[t] }) (k : wpList P ops Q (o :: rest) a W) : wpList P ops Q (o :: rest) a W := k
end
section
variable {P : Program} {ops : Array Oper} {o : Oper} {a : Act} {w0 : World} {M : List Nat} {L : Hp}
/-- A part of a row is read, in a drawn region. -/
theorem quiet_load_part {K : Act → Prop} (ty : TypeId) (x : Operand) (ho : o.op = .load ty x) (i : Nat) (g off n : Nat) (t : TypeId) (cs : Array Value) (hi : L[i]? = some (g, row cs t)) (hx : a.eval x = .pointer (some ⟨g, off, none⟩))
    (hn : off + n ≤ cs.size) (r : Array Value) (hr : cs.extract off (off + n) = r) (hagg : aggB P ty = true) (hs : sizB P ty n = true) (h : K (a.put o.dst (.agg r))) : o.quiet P a (Mq.Cl w0 M L) K :=
  quiet_run _ (fun u hm => by unfold execOp; simp only [ho, hx]; simp [run_load_part hagg hs (hm.get i hi) hn, hr]) h
end
/-- Blocks that are handed over whole, behind some others. -/
theorem _root_.Go.Proofs.Ytndeaikmelpflaa.M.Does.tail {P : Program} {f : FuncId} {args : Array Value} {A : Hp} (R : Hp) {Rel : Value → Hp → Prop} {w0 u : World} {M : List Nat} (C : Does P f args A Rel) (h : Mem w0 M (R ++ A) u) :
    Calls P f args u fun e w' => ∃ v L', e = .returned v ∧ Rel v L' ∧ Mem w0 M (R ++ L') w' :=
  (C.call h List.perm_append_comm).mono fun _ _ ⟨v, L', he, hr, hm⟩ => ⟨v, L', he, hr, hm.perm List.perm_append_comm⟩
end Go.Proofs.Ytndeaikmelpflaa.Sn
