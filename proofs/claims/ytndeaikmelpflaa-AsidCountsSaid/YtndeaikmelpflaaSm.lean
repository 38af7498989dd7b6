/- More on slices over what is known of memory: the empty literal, append onto a slice of one's own, cells of an argument. Over any program. -/
import Derived.Test.YtndeaikmelpflaaSl
import Derived.Maps.AppendAt
namespace Go.Proofs.Ytndeaikmelpflaa.Sm
open Go.RowKit Go.Proofs.Ytndeaikmelpflaa.G Go.Proofs.Ytndeaikmelpflaa.M Go.Proofs.Ytndeaikmelpflaa.Sl
set_option linter.unusedVariables false
set_option linter.unusedSimpArgs false
section
variable {P : Program} {ops : Array Oper} {rest : List Oper} {o : Oper} {a : Act} {Q : Exit → Act → World → Prop} {W w0 : World} {M : List Nat} {L : Hp}
/-- An empty slice literal: a new block of no cells. -/
theorem outs_bslice0 (t e : TypeId) (ho : o.op = .buildSlice t 0 #[]) (hu : sliceB P t e = true) (he : (P.info? e).any (fun i => i.zero.isSome) = true) : OutsM P o a w0 M L fun v L' => ∃ g, v = .slice (some ⟨g, 0, none⟩) 0 0 ∧ L' = (g, row #[] e) :: L := by
  intro u hm
  have hq : (underlying t).run P u = .ok (.slice e) u := run_underlying (sliceB_spec hu) u
  cases hie : P.info? e with
  | none => simp [hie] at he
  | some ie =>
    cases hz : ie.zero with
    | none => simp [hie, hz] at he
    | some z =>
      have hr : (Instr.buildSlice t 0 #[]).run P u = .ok (.slice (some ⟨u.heap.size, 0, none⟩) 0 0) (u.alloc (.cells #[] e)) := by
        simp [Instr.buildSlice, hq, sizeOf, typeInfo, zeroValue, hie, hz, newRow, Instr.fill]
        rw [show Array.range 0 = #[] from Array.eq_empty_of_size_eq_zero (by simp), Array.map_empty]
      refine outs_run (v := .slice (some ⟨u.heap.size, 0, none⟩) 0 0) (w1 := u.alloc (.cells #[] e)) ?_ ⟨_, ⟨_, rfl, rfl⟩, hm.new (Nat.le_refl _) (heap_alloc_new u _) (below_new _)⟩
      unfold execOp
      simp only [ho]
      simp [hr]
theorem bslice0_m (HM : Mem w0 M L W) (hw : Region.wanted o (yielded ops a.tmps) = true) {N : Tmp} (hd : o.dst = some N) (t e : TypeId) (ho : o.op = .buildSlice t 0 #[]) (hu : sliceB P t e = true) (he : (P.info? e).any (fun i => i.zero.isSome) = true)
    (h : ∀ g w1, Mem w0 M ((g, row #[] e) :: L) w1 → wpList P ops Q rest (a.put (some N) (.slice (some ⟨g, 0, none⟩) 0 0)) w1) : wpList P ops Q (o :: rest) a W :=
  (outs_bslice0 t e ho hu he W HM).ev hw fun _ w1 ⟨_, ⟨g, hv, hl⟩, hm⟩ => by subst hv hl; rw [hd]; exact h g w1 hm
def appB (P : Program) (e size bytes : Nat) : Bool := match P.info? e with | some i => i.size == size && i.bytes == bytes && (match i.zero with | some z => z.cells.size == size | none => false) | none => false
theorem appB_spec {e size bytes : Nat} (h : appB P e size bytes = true) : ∃ i z, P.info? e = some i ∧ i.zero = some z ∧ i.size = size ∧ i.bytes = bytes ∧ z.cells.size = size := by
  unfold appB at h
  cases hi : P.info? e with
  | none => simp [hi] at h
  | some i =>
    cases hz : i.zero with
    | none => simp [hi, hz] at h
    | some z => simp [hi, hz] at h; exact ⟨i, z, rfl, hz, h.1.1, h.1.2, h.2⟩
/-- A block has grown, or been left for a new one. -/
theorem mem_grown {u u' : World} (h : Mem w0 M L u) (i : Nat) {g : Nat} {o' : Obj} (hi : L[i]? = some (g, o')) (hg : u.grownBy u' (some g)) (g' : Nat) (o1 : Obj) (h1 : u'.heap[g']? = some o1) (hh : g' = g ∨ g' = u.heap.size) : Mem w0 M ((g', o1) :: L.eraseIdx i) u' := by
  have hf := h.fore i hi
  have hn : g ∉ (L.eraseIdx i).map (·.1) := by have := hf.has.one; simp only [List.map_cons, List.nodup_cons] at this; exact this.1
  have hown : g ∈ M ∨ w0.heap.size ≤ g := h.own _ (List.mem_of_getElem? hi)
  have hlt : ∀ p ∈ L.eraseIdx i, p.1 < u.heap.size := fun p hp => hf.has.lt (List.mem_cons_of_mem _ hp)
  refine ⟨hg.os.trans h.os, hg.tape.trans h.tape, hg.output.trans h.output, Nat.le_trans h.size hg.size, fun k hk hM => ?_, Has.cons h1 ?_ ⟨fun p hp => ?_, ?_⟩, fun p hp => ?_⟩
  · rw [hg.block k (Nat.lt_of_lt_of_le hk h.size) (fun e => ?_)]
    · exact h.old k hk hM
    · simp at e; subst e
      rcases hown with hw | hw
      · exact hM hw
      · omega
  · rcases hh with rfl | rfl
    · exact hn
    · intro hm
      obtain ⟨p, hp, e⟩ := List.mem_map.1 hm
      have := hlt p hp; omega
  · rw [hg.block p.1 (hlt p hp) (fun e => by simp at e; exact hn (by rw [← e]; exact List.mem_map_of_mem hp))]
    exact hf.has.blk p (by simp [hp])
  · have := hf.has.one; simp only [List.map_cons, List.nodup_cons] at this; exact this.2
  · cases hp with
    | head =>
      rcases hh with rfl | rfl
      · exact hown
      · exact .inr h.size
    | tail _ hp => exact hf.own p (List.mem_cons_of_mem _ hp)
/-- append onto a slice of one's own. -/
theorem outs_append (s x : Operand) (t e : TypeId) (ho : o.op = .call { callee := .builtin .append, args := #[s, x], argTypes := #[t, t] }) (size bytes : Nat) (hu : sliceB P t e = true) (hb : appB P e size bytes = true) (hsz : 0 < size)
    (i g n cap : Nat) (cur : Array Value) (hi : L[i]? = some (g, row cur e)) (hs : a.eval s = .slice (some ⟨g, 0, none⟩) n cap) (hn : n ≤ cap) (hcm : cap ≤ maxLen) (hcs : cur.size = cap * size)
    (ad : Addr) (m c : Nat) (hx : a.eval x = .slice (some ad) m c) (news : List Value) (hl : news.length = m * size) (hnews : ∀ u, Mem w0 M L u → ∀ j v, news[j]? = some v → u.cell? (ad.add j) = some v) (h1 : ∀ v ∈ news, v.oneCell' = true)
    (h63 : n + m ≤ maxLen) (hby : (n + m) * bytes ≤ 140737488355328) :
    OutsM P o a w0 M L fun v L' => ∃ g' cap' cur', v = .slice (some ⟨g', 0, none⟩) (n + m) cap' ∧ n + m ≤ cap' ∧ cap' ≤ maxLen ∧ cur'.size = cap' * size ∧ cur'.toList.take ((n + m) * size) = cur.toList.take (n * size) ++ news ∧ L' = (g', row cur' e) :: L.eraseIdx i := by
  intro u hm
  obtain ⟨ie, z, hie, hz, hsize, hbytes, hzs⟩ := appB_spec hb
  have hg := hm.get i hi
  have hown : u.ownsRow 0 e size (.slice (some ⟨g, 0, none⟩) n cap) n (cur.toList.take (n * size)) :=
    ⟨by
      have := Nat.mul_le_mul_right size hn
      simp only [List.length_take, Array.length_toList]; omega, .inr ⟨g, cap, cur, rfl, Nat.zero_le _, hg, hn, hcm, hcs, rfl⟩⟩
  obtain ⟨v', w', hr, h2, h3, h4, h5⟩ := run_append_own_at (P := P) u 0 t o.type e ie z size bytes (sliceB_spec hu) hie hz hsize hbytes hzs hsz _ n _ hown ad m c news hl (hnews u hm) h1 h63 hby (Nat.zero_le _)
  rcases h2.2 with ⟨rfl, -⟩ | ⟨g', cap', cur', rfl, -, hg', hn', hcm', hcs', htake⟩
  · have := h4.1 rfl; simp at this
  · refine outs_run (w1 := w') (v := .slice (some ⟨g', 0, none⟩) (n + m) cap') ?_ ⟨_, ⟨g', cap', cur', rfl, hn', hcm', hcs', htake, rfl⟩, mem_grown hm i hi h3 g' _ hg' ?_⟩
    · unfold execOp
      simp only [ho, resolve, invoke, builtin, Sem.run_bind, Sem.run_pure, Result.andThen_ok, List.map_toArray, List.map_cons, List.map_nil, hs, hx, hr]
    · simpa [Value.ownBlock] using h5
/-- append onto a nil slice. -/
theorem outs_append_nil (s x : Operand) (t e : TypeId) (ho : o.op = .call { callee := .builtin .append, args := #[s, x], argTypes := #[t, t] }) (size bytes : Nat) (hu : sliceB P t e = true) (hb : appB P e size bytes = true) (hsz : 0 < size)
    (hs : a.eval s = .slice none 0 0) (ad : Addr) (m c : Nat) (hm0 : 0 < m) (hx : a.eval x = .slice (some ad) m c) (news : List Value) (hl : news.length = m * size) (hnews : ∀ u, Mem w0 M L u → ∀ j v, news[j]? = some v → u.cell? (ad.add j) = some v) (h1 : ∀ v ∈ news, v.oneCell' = true)
    (h63 : m ≤ maxLen) (hby : m * bytes ≤ 140737488355328) :
    OutsM P o a w0 M L fun v L' => ∃ g' cap' cur', v = .slice (some ⟨g', 0, none⟩) m cap' ∧ m ≤ cap' ∧ cap' ≤ maxLen ∧ cur'.size = cap' * size ∧ cur'.toList.take (m * size) = news ∧ L' = (g', row cur' e) :: L := by
  intro u hm
  obtain ⟨ie, z, hie, hz, hsize, hbytes, hzs⟩ := appB_spec hb
  obtain ⟨v', w', hr, h2, h3, h4, h5⟩ := run_append_own_at (P := P) u u.heap.size t o.type e ie z size bytes (sliceB_spec hu) hie hz hsize hbytes hzs hsz _ 0 _ (World.ownsRow_nil u _ e size) ad m c news hl (hnews u hm) h1 (by omega) (by simpa using hby) (Nat.le_refl _)
  rw [Nat.zero_add] at h2
  rcases h2.2 with ⟨rfl, hz⟩ | ⟨g', cap', cur', rfl, hlo, hg', hn', hcm', hcs', htake⟩
  · omega
  · refine outs_run (w1 := w') (v := .slice (some ⟨g', 0, none⟩) m cap') ?_ ⟨_, ⟨g', cap', cur', rfl, hn', hcm', hcs', by simpa using htake, rfl⟩, hm.new hlo hg' ⟨h3.os, h3.tape, h3.output, h3.size, fun k hk => h3.block k hk (by simp [Value.ownBlock])⟩⟩
    unfold execOp
    simp only [ho, resolve, invoke, builtin, Sem.run_bind, Sem.run_pure, Result.andThen_ok, List.map_toArray, List.map_cons, List.map_nil, hs, hx, hr]
theorem at_call_append {s x : Operand} {t u : TypeId} (ho : o.op = .call { callee := .builtin .append, args := #[s, x], argTypes := #[t, u] }) (k : wpList P ops Q (o :: rest) a W) : wpList P ops Q (o :: rest) a W := k
theorem append_m (HM : Mem w0 M L W) (hw : Region.wanted o (yielded ops a.tmps) = true) {N : Tmp} (hd : o.dst = some N) (s x : Operand) (t e : TypeId) (ho : o.op = .call { callee := .builtin .append, args := #[s, x], argTypes := #[t, t] }) (size bytes : Nat) (hu : sliceB P t e = true) (hb : appB P e size bytes = true) (hsz : 0 < size)
    (i g n cap : Nat) (cur : Array Value) (hi : L[i]? = some (g, row cur e)) (hs : a.eval s = .slice (some ⟨g, 0, none⟩) n cap) (hn : n ≤ cap) (hcm : cap ≤ maxLen) (hcs : cur.size = cap * size)
    (ad : Addr) (m c : Nat) (hx : a.eval x = .slice (some ad) m c) (news : List Value) (hl : news.length = m * size) (hnews : ∀ u, Mem w0 M L u → ∀ j v, news[j]? = some v → u.cell? (ad.add j) = some v) (h1 : ∀ v ∈ news, v.oneCell' = true)
    (h63 : n + m ≤ maxLen) (hby : (n + m) * bytes ≤ 140737488355328) (nm : Nat) (hnm : n + m = nm)
    (h : ∀ g' cap' cur' w1, nm ≤ cap' → cap' ≤ maxLen → cur'.size = cap' * size → cur'.toList.take (nm * size) = cur.toList.take (n * size) ++ news → Mem w0 M ((g', row cur' e) :: L.eraseIdx i) w1 → wpList P ops Q rest (a.put (some N) (.slice (some ⟨g', 0, none⟩) nm cap')) w1) : wpList P ops Q (o :: rest) a W := by
  subst hnm
  exact (outs_append s x t e ho size bytes hu hb hsz i g n cap cur hi hs hn hcm hcs ad m c hx news hl hnews h1 h63 hby W HM).ev hw fun _ w1 ⟨_, ⟨g', cap', cur', hv, e1, e2, e3, e4, hl'⟩, hm⟩ => by
    subst hv hl'; rw [hd]; exact h g' cap' cur' w1 e1 e2 e3 e4 hm
theorem append_nil_m (HM : Mem w0 M L W) (hw : Region.wanted o (yielded ops a.tmps) = true) {N : Tmp} (hd : o.dst = some N) (s x : Operand) (t e : TypeId) (ho : o.op = .call { callee := .builtin .append, args := #[s, x], argTypes := #[t, t] }) (size bytes : Nat) (hu : sliceB P t e = true) (hb : appB P e size bytes = true) (hsz : 0 < size)
    (hs : a.eval s = .slice none 0 0) (ad : Addr) (m c : Nat) (hm0 : 0 < m) (hx : a.eval x = .slice (some ad) m c) (news : List Value) (hl : news.length = m * size) (hnews : ∀ u, Mem w0 M L u → ∀ j v, news[j]? = some v → u.cell? (ad.add j) = some v) (h1 : ∀ v ∈ news, v.oneCell' = true)
    (h63 : m ≤ maxLen) (hby : m * bytes ≤ 140737488355328)
    (h : ∀ g' cap' cur' w1, m ≤ cap' → cap' ≤ maxLen → cur'.size = cap' * size → cur'.toList.take (m * size) = news → Mem w0 M ((g', row cur' e) :: L) w1 → wpList P ops Q rest (a.put (some N) (.slice (some ⟨g', 0, none⟩) m cap')) w1) : wpList P ops Q (o :: rest) a W :=
  (outs_append_nil s x t e ho size bytes hu hb hsz hs ad m c hm0 hx news hl hnews h1 h63 hby W HM).ev hw fun _ w1 ⟨_, ⟨g', cap', cur', hv, e1, e2, e3, e4, hl'⟩, hm⟩ => by
    subst hv hl'; rw [hd]; exact h g' cap' cur' w1 e1 e2 e3 e4 hm
/-- A cell of an argument is where it was. -/
theorem mem_cell {u : World} (h : Mem w0 M L u) {p : Addr} {v : Value} (hc : w0.cell? p = some v) (hM : p.block ∉ M) : u.cell? p = some v := by
  have hlt := World.block_lt_of_cell? w0 p hc
  rw [World.cell?_of_block (h.old p.block hlt hM)]
  exact hc
theorem run_load_at {W : World} {p : Addr} {ty : TypeId} {v : Value} (hagg : aggB P ty = false) (hu : (P.underlying ty).isSome = true) (hc : W.cell? p = some v) : (Instr.loadAt ty (.pointer (some p))).run P W = .ok v W := by
  unfold aggB at hagg
  cases hq : P.underlying ty with
  | none => simp [hq] at hu
  | some d =>
    simp only [hq] at hagg
    have hq' : (underlying ty).run P W = .ok d W := run_underlying hq W
    cases d <;> first | (simp at hagg; done) | simp [Instr.loadAt, Instr.sureAddr, loadVar, isAgg, hq', run_load, hc, go_sem]
theorem load_arg_m (HM : Mem w0 M L W) (hw : Region.wanted o (yielded ops a.tmps) = true) (ty : TypeId) (x : Operand) (ho : o.op = .load ty x) (p : Addr) (hx : a.eval x = .pointer (some p)) (v : Value) (hc : w0.cell? p = some v) (hM : p.block ∉ M) (hagg : aggB P ty = false) (hu : (P.underlying ty).isSome = true)
    (h : wpList P ops Q rest (a.put o.dst v) W) : wpList P ops Q (o :: rest) a W :=
  (outs_run (N := fun v' w => v' = v ∧ w = W) (w1 := W) (v := v) (by unfold execOp; simp only [ho, hx]; simp [run_load_at hagg hu (mem_cell HM hc hM)]) ⟨rfl, rfl⟩).ev hw fun _ _ ⟨e1, e2⟩ => by subst e1 e2; exact h
theorem run_indexAddr' {W : World} {ty : TypeId} {x ix : Operand} (ho : o.op = .indexAddr ty x ix) (e : TypeId) (hu : sliceB P ty e = true) (s : Nat) (hs : sizB P e s = true) (p : Addr) (n c : Nat) (hx : a.eval x = .slice (some p) n c) (k : IntKind) (i : Int) (hix : a.eval ix = .int k i)
    (h0 : 0 ≤ i) (h1 : i < n) : (execOp a.eval o).run P W = .ok (.value (.pointer (some (p.add (i.toNat * s))))) W := by
  have hq : (underlying ty).run P W = .ok (.slice e) W := run_underlying (sliceB_spec hu) W
  have hsz : (sizeOf e).run P W = .ok s W := by
    have := sizB_spec hs
    cases hq : P.info? e with
    | none => simp [hq] at this
    | some i => simp [hq] at this; simp [sizeOf, typeInfo, hq, this]
  have hr : (Instr.indexAt ty (.slice (some p) n c) (.int k i)).run P W = .ok (.pointer (some (p.add (i.toNat * s)))) W := by
    simp [Instr.indexAt, asIntOf, hq, h0, h1, hsz]
  unfold execOp
  simp only [ho, hx, hix]
  simp [hr]
theorem indexAddr_arg_m (hw : Region.wanted o (yielded ops a.tmps) = true) (d : Tmp) (hd : o.dst = some d) (ty : TypeId) {x ix : Operand} (ho : o.op = .indexAddr ty x ix) (e : TypeId) (hu : sliceB P ty e = true) (s : Nat) (hs : sizB P e s = true) (p : Addr) (n c : Nat) (hx : a.eval x = .slice (some p) n c) (k : IntKind) (i : Int) (hix : a.eval ix = .int k i)
    (h0 : 0 ≤ i) (h1 : i < n) (j : Nat) (hj : i.toNat * s = j) (h : wpList P ops Q rest (a.put (some d) (.pointer (some (p.add j)))) W) : wpList P ops Q (o :: rest) a W :=
  (outs_run (N := fun v' w => v' = .pointer (some (p.add j)) ∧ w = W) (run_indexAddr' (W := W) ho e hu s hs p n c hx k i hix h0 h1) ⟨by rw [hj], rfl⟩).ev hw fun _ _ ⟨e1, e2⟩ => by
    subst e1 e2
    rw [hd]
    exact h
theorem take_get {cur : Array Value} {N : Nat} {xs : List Value} (h : cur.toList.take N = xs) {k : Nat} {v : Value} (hk : xs[k]? = some v) : cur[k]? = some v := by
  subst h
  rw [List.getElem?_take] at hk
  split at hk
  · simpa using hk
  · cases hk
end
/-- What a call answers, and the new blocks that it leaves. -/
def Ans (w : World) (M : List Nat) (Rel : Value → Hp → Prop) : Ending → World → Prop := fun e w' => ∃ v L, e = .returned v ∧ Rel v L ∧ Mem w M L w'
theorem Ans.mk {w w' : World} {M : List Nat} {Rel : Value → Hp → Prop} {v : Value} {L : Hp} (h : Rel v L) (hm : Mem w M L w') : Ans w M Rel (.returned v) w' := ⟨v, L, rfl, h, hm⟩
/-- What a call does that reads arguments, too: its blocks may turn, the others not. -/
theorem does_call_at {P : Program} {f : FuncId} {args : Array Value} {A R L : Hp} {Rel : Value → Hp → Prop} {w0 u : World} {M : List Nat} (h : Mem w0 M L u) (hp : L.Perm (A ++ R)) (C : Has A u → Calls P f args u (Ans u (A.map (·.1)) Rel)) :
    Calls P f args u fun e w' => ∃ v L', e = .returned v ∧ Rel v L' ∧ Mem w0 M (L' ++ R) w' :=
  (C (h.perm hp).has.left).mono fun _ _ ⟨v, L', he, hr, hm⟩ => ⟨v, L', he, hr, (h.perm hp).trans (fun _ hg => hg) hm⟩
/-- The same of a call that only makes new blocks. -/
theorem new_call {P : Program} {f : FuncId} {args : Array Value} {L : Hp} {Rel : Value → Hp → Prop} {w0 u : World} {M : List Nat} (h : Mem w0 M L u) (C : Calls P f args u (Ans u [] Rel)) :
    Calls P f args u fun e w' => ∃ v L', e = .returned v ∧ Rel v L' ∧ Mem w0 M (L' ++ L) w' :=
  does_call_at (A := []) h (.refl _) (fun _ => C)
/-- A call that reads arguments and leaves nothing. -/
theorem pure_call {P : Program} {f : FuncId} {args : Array Value} {L : Hp} {v : Value} {w0 u : World} {M : List Nat} (h : Mem w0 M L u) (C : Calls P f args u fun e w' => e = .returned v ∧ Below u.heap.size u w') :
    Calls P f args u fun e w' => e = .returned v ∧ Mem w0 M L w' := C.mono fun _ _ ⟨he, hb⟩ => ⟨he, h.below hb⟩
section
variable {P : Program} {ops : Array Oper} {o : Oper} {a : Act} {w0 : World} {M : List Nat} {L : Hp}
/-- A call in a drawn region that only makes new blocks. -/
theorem outs_new {Rel : Value → Hp → Prop} (f : FuncId) (xs : List Operand) (ats : Array TypeId) (ho : o.op = .call { callee := .value (.func f), args := xs.toArray, argTypes := ats }) {fn : Func} (hf : P.funcs[f]? = some fn) (hn : (fn.name == "runtime.NumGoroutine") = false) (hb : fn.body.isNone = false)
    {vs : List Value} (h : ∀ u, Mem w0 M L u → Calls P f vs.toArray u (Ans u [] Rel)) (ha : xs.map a.eval = vs) : OutsM P o a w0 M L fun v L' => ∃ L1, Rel v L1 ∧ L' = L1 ++ L := fun u hu =>
  Mr.outs_call f xs.toArray ats ho hf hn hb vs.toArray (by rw [← ha]; simp) ((new_call hu (h u hu)).mono fun _ w' ⟨v, L1, he, hr, hm⟩ => ⟨v, he, L1 ++ L, ⟨L1, hr, rfl⟩, hm⟩)
/-- An operation of a drawn region that only reads. -/
theorem quiet_run {K : Act → Prop} (v : Value) (hr : ∀ u, Mem w0 M L u → (execOp a.eval o).run P u = .ok (.value v) u) (h : K (a.put o.dst v)) : o.quiet P a (Mq.Cl w0 M L) K := by
  refine ⟨v, ?_, h⟩
  rintro w ⟨y, rfl⟩
  unfold Oper.quietAt
  rw [hr y.val y.prop]
  simp [Oper.quietUpon]
theorem quiet_load_arg {K : Act → Prop} (ty : TypeId) (x : Operand) (ho : o.op = .load ty x) (p : Addr) (hx : a.eval x = .pointer (some p)) (v : Value) (hc : w0.cell? p = some v) (hM : p.block ∉ M) (hagg : aggB P ty = false) (hu : (P.underlying ty).isSome = true) (h : K (a.put o.dst v)) : o.quiet P a (Mq.Cl w0 M L) K :=
  quiet_run v (fun u hm => by unfold execOp; simp only [ho, hx]; simp [run_load_at hagg hu (mem_cell hm hc hM)]) h
theorem quiet_indexAddr_arg {K : Act → Prop} (ty : TypeId) {x ix : Operand} (ho : o.op = .indexAddr ty x ix) (e : TypeId) (hu : sliceB P ty e = true) (s : Nat) (hs : sizB P e s = true) (p : Addr) (n c : Nat) (hx : a.eval x = .slice (some p) n c) (k : IntKind) (i : Int) (hix : a.eval ix = .int k i)
    (h0 : 0 ≤ i) (h1 : i < n) (j : Nat) (hj : i.toNat * s = j) (h : K (a.put o.dst (.pointer (some (p.add j))))) : o.quiet P a (Mq.Cl w0 M L) K :=
  quiet_run _ (fun u hm => by rw [← hj]; exact run_indexAddr' ho e hu s hs p n c hx k i hix h0 h1) h
theorem quiet_indexAddr_own {K : Act → Prop} (ty : TypeId) {x ix : Operand} (ho : o.op = .indexAddr ty x ix) (e : TypeId) (hu : sliceB P ty e = true) (s : Nat) (hs : sizB P e s = true) (g off n c : Nat) (hx : a.eval x = .slice (some ⟨g, off, none⟩) n c) (k : IntKind) (i : Int) (hix : a.eval ix = .int k i)
    (h0 : 0 ≤ i) (h1 : i < n) (off' : Nat) (ho' : off + i.toNat * s = off') (h : K (a.put o.dst (.pointer (some ⟨g, off', none⟩)))) : o.quiet P a (Mq.Cl w0 M L) K :=
  quiet_run _ (fun u hm => by rw [← ho']; exact run_indexAddr ho e hu s hs g off n c hx k i hix h0 h1) h
theorem quiet_index {K : Act → Prop} (ty : TypeId) {x ix : Operand} (ho : o.op = .index ty x ix) (n e : Nat) (hu : arrB P ty n e = true) (he : aggB P e = false) (hi : (P.underlying e).isSome = true) (hs : sizB P e 1 = true) (cs : Array Value) (hx : a.eval x = .agg cs) (k : IntKind) (i : Int) (hix : a.eval ix = .int k i)
    (h0 : 0 ≤ i) (h1 : i < n) (v : Value) (hv : cs[i.toNat]? = some v) (h : K (a.put o.dst v)) : o.quiet P a (Mq.Cl w0 M L) K :=
  quiet_run _ (fun u hm => run_index_cell ho n e hu he hi hs cs hx k i hix h0 h1 v hv) h
theorem qat_indexAddr (ty : TypeId) {C : World → Prop} {T : Act → Prop} {rest : List Oper} {x ix : Operand} (h : o.op = .indexAddr ty x ix) (k : wpQuiet P ops C T (o :: rest) a) : wpQuiet P ops C T (o :: rest) a := k
theorem qat_index (ty : TypeId) {C : World → Prop} {T : Act → Prop} {rest : List Oper} {x ix : Operand} (h : o.op = .index ty x ix) (k : wpQuiet P ops C T (o :: rest) a) : wpQuiet P ops C T (o :: rest) a := k
end
section
variable {P : Program} {ops : Array Oper} {rest : List Oper} {o : Oper} {a : Act} {Q : Exit → Act → World → Prop} {W w0 : World} {M : List Nat} {L : Hp}
/-- append of nothing. -/
theorem append_none_m (hw : Region.wanted o (yielded ops a.tmps) = true) {N : Tmp} (hd : o.dst = some N) (s x : Operand) (t e : TypeId) (ho : o.op = .call { callee := .builtin .append, args := #[s, x], argTypes := #[t, t] }) (size : Nat) (hu : sliceB P t e = true) (hz : sizB P e size = true)
    (p : Option Addr) (n c : Nat) (hs : a.eval s = .slice p n c) (hn : n ≤ c) (hx : a.eval x = .slice none 0 0) (h : wpList P ops Q rest (a.put (some N) (.slice p n c)) W) : wpList P ops Q (o :: rest) a W := by
  have hq : (underlying t).run P W = .ok (.slice e) W := run_underlying (sliceB_spec hu) W
  have hsz : (sizeOf e).run P W = .ok size W := by
    have := sizB_spec hz
    cases hq : P.info? e with
    | none => simp [hq] at this
    | some i => simp [hq] at this; simp [sizeOf, typeInfo, hq, this]
  have hr : (Builtin.append_ #[t, t] o.type #[.slice p n c, .slice none 0 0]).run P W = .ok (.slice p n c) W := by
    cases p <;> simp [Builtin.append_, hq, hsz, Builtin.lenOf, Builtin.firstCells, loadCells, loadCellsFrom, hn, storeCells]
  refine (outs_run (N := fun v' w => v' = .slice p n c ∧ w = W) (w1 := W) (v := .slice p n c) ?_ ⟨rfl, rfl⟩).ev hw fun _ _ ⟨e1, e2⟩ => by subst e1 e2; rw [hd]; exact h
  unfold execOp
  simp only [ho, resolve, invoke, builtin, Sem.run_bind, Sem.run_pure, Result.andThen_ok, List.map_toArray, List.map_cons, List.map_nil, hs, hx, hr]
/-- The cells of a block that is known. -/
theorem row_cells {g : Nat} {cs : Array Value} {t : TypeId} (i : Nat) (hi : L[i]? = some (g, row cs t)) : ∀ u, Mem w0 M L u → ∀ j v, cs.toList[j]? = some v → u.cell? ((⟨g, 0, none⟩ : Addr).add j) = some v := fun u h j v hj => by
  have hb := blk_cell (h.get i hi) j
  have : u.cell? ((⟨g, 0, none⟩ : Addr).add j) = cs[j]? := by
    rw [← hb]; unfold Addr.add; split <;> simp_all
  rw [this]
  simpa using hj
end
section
variable {P : Program} {ops : Array Oper} {rest : List Oper} {o : Oper} {a : Act} {Q : Exit → Act → World → Prop} {W w0 : World} {M : List Nat} {L : Hp}
/-- A call that only reads blocks that are known. -/
theorem does_below {f : FuncId} {args : Array Value} {A : Hp} {v : Value} {u : World} (C : Does P f args A (fun r L => r = v ∧ L = A)) (h : Has A u) : Calls P f args u fun e w' => e = .returned v ∧ Below u.heap.size u w' :=
  (C u h).mono fun e w' ⟨r, L, he, ⟨hr, hl⟩, hm⟩ => by
    subst hr hl
    refine ⟨he, hm.os, hm.tape, hm.output, hm.size, fun k hk => ?_⟩
    by_cases hA : k ∈ L.map (·.1)
    · obtain ⟨p, hp, rfl⟩ := List.mem_map.1 hA
      rw [hm.has.blk p hp, h.blk p hp]
    · exact hm.old k hk hA
theorem quiet_does {f : FuncId} {args : Array Value} {A R : Hp} {v : Value} {x : WIn (Mem w0 M L)} (C : Does P f args A (fun r L => r = v ∧ L = A)) (hp : L.Perm (A ++ R)) : Calls P f args x.val fun e w' => e = .returned v ∧ ∃ y : WIn (Mem w0 M L), w' = y.val :=
  Mq.quiet_call_m (does_below C (x.prop.perm hp).has.left)
/-- A struct of an argument is read. -/
theorem run_load_struct {W : World} {p : Addr} {ty : TypeId} {cs : Array Value} (hagg : aggB P ty = true) (hs : sizB P ty cs.size = true) (hc : ∀ j v, cs.toList[j]? = some v → W.cell? (p.add j) = some v) : (Instr.loadAt ty (.pointer (some p))).run P W = .ok (.agg cs) W := by
  have hcells : (loadCells p cs.size).run P W = .ok cs W := by
    have h := run_loadCells_list (P := P) (w := W) p cs.toList hc
    rw [Array.length_toList] at h
    rw [h]
  have hsz : (sizeOf ty).run P W = .ok cs.size W := by
    have := sizB_spec hs
    cases hq : P.info? ty with
    | none => simp [hq] at this
    | some i => simp [hq] at this; simp [sizeOf, typeInfo, hq, this]
  unfold aggB at hagg
  split at hagg
  · rename_i d hd
    have hu : (underlying ty).run P W = .ok _ W := run_underlying hd W
    simp [Instr.loadAt, Instr.sureAddr, loadVar, isAgg, hu, hsz, hcells]
  · rename_i d hd
    have hu : (underlying ty).run P W = .ok _ W := run_underlying hd W
    simp [Instr.loadAt, Instr.sureAddr, loadVar, isAgg, hu, hsz, hcells]
  · cases hagg
theorem load_struct_arg_m (HM : Mem w0 M L W) (hw : Region.wanted o (yielded ops a.tmps) = true) (ty : TypeId) (x : Operand) (ho : o.op = .load ty x) (p : Addr) (hx : a.eval x = .pointer (some p)) (cs : Array Value) (hc : ∀ j v, cs.toList[j]? = some v → w0.cell? (p.add j) = some v) (hM : p.block ∉ M) (hagg : aggB P ty = true) (hs : sizB P ty cs.size = true)
    (h : wpList P ops Q rest (a.put o.dst (.agg cs)) W) : wpList P ops Q (o :: rest) a W := by
  have hb : ∀ j, (p.add j).block = p.block := fun j => by unfold Addr.add; split <;> rfl
  exact (outs_run (N := fun v' w => v' = .agg cs ∧ w = W) (w1 := W) (v := .agg cs) (by unfold execOp; simp only [ho, hx]; simp [run_load_struct hagg hs (fun j v hj => mem_cell HM (hc j v hj) (by rw [hb]; exact hM))]) ⟨rfl, rfl⟩).ev hw fun _ _ ⟨e1, e2⟩ => by subst e1 e2; exact h
end
/-- A slice of structs of whole numbers among the arguments: k cells each. -/
def ArgK (w : World) (k : Nat) (v : Value) (n : Nat) (cells : Nat → List Value) : Prop :=
  (v = .slice none 0 0 ∧ n = 0) ∨ ∃ a c, v = .slice (some a) n c ∧ n ≤ c ∧ c ≤ maxLen ∧ ∀ i, i < n → ∀ j x, (cells i)[j]? = some x → w.cell? (a.add (i * k + j)) = some x
/-- A slice of whole numbers among the arguments. -/
def ArgS (w : World) (k : IntKind) (v : Value) (xs : List Int) : Prop :=
  (v = .slice none 0 0 ∧ xs = []) ∨ ∃ a c, v = .slice (some a) xs.length c ∧ xs.length ≤ c ∧ c ≤ maxLen ∧ ∀ j, j < xs.length → w.cell? (a.add j) = some (.int k (xs.getD j 0))
theorem perm_nil (L : Hp) : L.Perm (L ++ []) := by rw [List.append_nil]
theorem add_add (a : Addr) (i j : Nat) : (a.add i).add j = a.add (i + j) := by
  unfold Addr.add
  by_cases hi : i = 0
  · by_cases hj : j = 0
    · simp [hi, hj]
    · simp [hi, hj]
  · by_cases hj : j = 0
    · simp [hi, hj]
    · simp [hi, hj]; omega
end Go.Proofs.Ytndeaikmelpflaa.Sm
