/- What is known of a world, block by block: a start, the blocks that may turn, and the blocks that are known whole. Laws that carry it. Over any program. -/
import Derived.Test.YtndeaikmelpflaaG
import Derived.StillTail
namespace Go.Proofs.Ytndeaikmelpflaa.M
open Go.RowKit Go.Proofs.Ytndeaikmelpflaa.G
set_option linter.unusedVariables false
set_option linter.unusedSimpArgs false
/-- What is told of comparisons, as plain facts. -/
theorem hgs : (∀ (p : Prop) [Decidable p], (decide p = true) = p) ∧ (∀ (p : Prop) [Decidable p], (decide p = false) = ¬p) ∧ (∀ a b : Bool, ((a && b) = true) = (a = true ∧ b = true)) ∧ (∀ a b : Bool, ((a || b) = true) = (a = true ∨ b = true)) ∧ (∀ a b : Bool, ((a && b) = false) = (a = false ∨ b = false)) ∧ (∀ a b : Bool, ((a || b) = false) = (a = false ∧ b = false)) ∧ (∀ b : Bool, ((!b) = true) = (b = false)) ∧ (∀ b : Bool, ((!b) = false) = (b = true)) ∧
    (∀ (α : Type) [BEq α] [LawfulBEq α] (a b : α), ((a == b) = true) = (a = b)) ∧ (∀ (α : Type) [BEq α] [LawfulBEq α] (a b : α), ((a != b) = true) = (a ≠ b)) ∧ (∀ (α : Type) [BEq α] [LawfulBEq α] (a b : α), ((a == b) = false) = (a ≠ b)) ∧ (∀ (α : Type) [BEq α] [LawfulBEq α] (a b : α), ((a != b) = false) = (a = b)) ∧ (∀ a b : Int, (¬a < b) = (b ≤ a)) ∧ (∀ a b : Int, (¬a ≤ b) = (b < a)) ∧ (∀ (α : Type) (a b : α), (a ≠ b) = ¬(a = b)) := by
  refine ⟨?_, ?_, ?_, ?_, fun a b => by cases a <;> cases b <;> simp, fun a b => by cases a <;> cases b <;> simp, ?_, ?_, ?_, ?_, ?_, ?_, ?_, ?_, ?_⟩ <;> intros <;> simp
theorem nrm : (∀ (α : Type) (a b : α) (l : List α), (a :: l).set 0 b = b :: l) ∧ (∀ (α : Type) (a b : α) (l : List α) (n : Nat), (a :: l).set (n + 1) b = a :: l.set n b) ∧ (∀ (α : Type) (l : List α) (i : Nat) (a : α), l.toArray.setIfInBounds i a = (l.set i a).toArray) ∧ (∀ (α : Type) (a : α) (l : List α), (a :: l).eraseIdx 0 = l) ∧ (∀ (α : Type) (a : α) (l : List α) (n : Nat), (a :: l).eraseIdx (n + 1) = a :: l.eraseIdx n) ∧ (∀ (α : Type) (a : α) (l m : List α), (a :: l) ++ m = a :: (l ++ m)) ∧ (∀ (α : Type) (l : List α), [] ++ l = l) := by
  refine ⟨?_, ?_, ?_, ?_, ?_, ?_, ?_⟩ <;> intros <;> simp

abbrev Hp := List (Nat × Obj)
abbrev row (cs : Array Value) (t : TypeId) : Obj := .cells cs t (0, 0)

/-- These blocks lie in a world, each known whole, no two of one number. -/
structure Has (L : Hp) (w : World) : Prop where
  blk : ∀ p ∈ L, w.heap[p.1]? = some p.2
  one : (L.map (·.1)).Nodup

/-- Since w0 nothing has turned but the blocks of M and new ones; the blocks of L are known whole. -/
structure Mem (w0 : World) (M : List Nat) (L : Hp) (u : World) : Prop where
  os : u.os = w0.os
  tape : u.tape = w0.tape
  output : u.output = w0.output
  size : w0.heap.size ≤ u.heap.size
  old : ∀ k, k < w0.heap.size → k ∉ M → u.heap[k]? = w0.heap[k]?
  has : Has L u
  own : ∀ p ∈ L, p.1 ∈ M ∨ w0.heap.size ≤ p.1

theorem Has.nil {w : World} : Has [] w := ⟨by simp, by simp⟩
theorem Has.cons {g : Nat} {o : Obj} {L : Hp} {w : World} (h : w.heap[g]? = some o) (hn : g ∉ L.map (·.1)) (hL : Has L w) : Has ((g, o) :: L) w :=
  ⟨fun p hp => by
    cases hp with
    | head => exact h
    | tail _ hp => exact hL.blk p hp, by simpa using ⟨by simpa using hn, hL.one⟩⟩
theorem Has.get {L : Hp} {w : World} (h : Has L w) (i : Nat) {g : Nat} {o : Obj} (hi : L[i]? = some (g, o)) : w.heap[g]? = some o := h.blk _ (List.mem_of_getElem? hi)
theorem Has.lt {L : Hp} {w : World} (h : Has L w) {p : Nat × Obj} (hp : p ∈ L) : p.1 < w.heap.size := (Array.getElem?_eq_some_iff.1 (h.blk p hp)).1
theorem Has.perm {L L' : Hp} {w : World} (h : Has L w) (hp : L.Perm L') : Has L' w :=
  ⟨fun p hm => h.blk p (hp.mem_iff.2 hm), (hp.map (·.1)).nodup_iff.1 h.one⟩
theorem Has.left {A R : Hp} {w : World} (h : Has (A ++ R) w) : Has A w :=
  ⟨fun p hm => h.blk p (by simp [hm]), by have := h.one; rw [List.map_append, List.nodup_append] at this; exact this.1⟩
theorem Has.right {A R : Hp} {w : World} (h : Has (A ++ R) w) : Has R w :=
  ⟨fun p hm => h.blk p (by simp [hm]), by have := h.one; rw [List.map_append, List.nodup_append] at this; exact this.2.1⟩
theorem Has.apart {A R : Hp} {w : World} (h : Has (A ++ R) w) {g : Nat} (hA : g ∈ A.map (·.1)) : g ∉ R.map (·.1) := by
  have := h.one; rw [List.map_append, List.nodup_append] at this; exact fun hR => this.2.2 _ hA _ hR rfl

theorem Mem.start {L : Hp} {w : World} (h : Has L w) : Mem w (L.map (·.1)) L w :=
  ⟨rfl, rfl, rfl, Nat.le_refl _, fun _ _ _ => rfl, h, fun p hp => .inl (List.mem_map_of_mem hp)⟩
theorem Mem.nil (w : World) : Mem w [] [] w := Mem.start Has.nil
theorem Mem.perm {w0 u : World} {M : List Nat} {L L' : Hp} (h : Mem w0 M L u) (hp : L.Perm L') : Mem w0 M L' u :=
  { h with has := h.has.perm hp, own := fun p hm => h.own p (hp.mem_iff.2 hm) }
/-- Blocks that are not wanted any more are forgotten. -/
theorem Mem.drop {w0 u : World} {M : List Nat} {A R : Hp} (h : Mem w0 M (A ++ R) u) : Mem w0 M R u :=
  { h with has := h.has.right, own := fun p hm => h.own p (by simp [hm]) }
theorem Mem.take {w0 u : World} {M : List Nat} {A R : Hp} (h : Mem w0 M (A ++ R) u) : Mem w0 M A u :=
  { h with has := h.has.left, own := fun p hm => h.own p (by simp [hm]) }
theorem perm_at {L : Hp} {p : Nat × Obj} (i : Nat) (hi : L[i]? = some p) : L.Perm (p :: L.eraseIdx i) := by
  induction L generalizing i with
  | nil => simp at hi
  | cons q L ih =>
    cases i with
    | zero => simp at hi; subst hi; exact .refl _
    | succ i => exact ((ih i (by simpa using hi)).cons q).trans (.swap p q _)
theorem perm2 {L : Hp} {p q : Nat × Obj} (i j : Nat) (hi : L[i]? = some p) (hj : (L.eraseIdx i)[j]? = some q) : L.Perm ([p, q] ++ (L.eraseIdx i).eraseIdx j) :=
  (perm_at i hi).trans ((perm_at j hj).cons p)
theorem perm3 {L : Hp} {p q r : Nat × Obj} (i j k : Nat) (hi : L[i]? = some p) (hj : (L.eraseIdx i)[j]? = some q) (hk : ((L.eraseIdx i).eraseIdx j)[k]? = some r) : L.Perm ([p, q, r] ++ ((L.eraseIdx i).eraseIdx j).eraseIdx k) :=
  (perm_at i hi).trans ((perm2 j k hj hk).cons p)
/-- Block number i of the list, ahead of the others. -/
theorem Mem.fore {w0 u : World} {M : List Nat} {L : Hp} (h : Mem w0 M L u) (i : Nat) {p : Nat × Obj} (hi : L[i]? = some p) : Mem w0 M (p :: L.eraseIdx i) u := h.perm (perm_at i hi)
theorem Mem.get {w0 u : World} {M : List Nat} {L : Hp} (h : Mem w0 M L u) (i : Nat) {g : Nat} {o : Obj} (hi : L[i]? = some (g, o)) : u.heap[g]? = some o := h.has.get i hi
theorem Mem.none {w0 u : World} {M : List Nat} {L : Hp} (h : Mem w0 M L u) : Mem w0 M [] u := { h with has := .nil, own := by simp }
theorem Mem.below {w0 u u' : World} {M : List Nat} {L : Hp} (h : Mem w0 M L u) (b : Below u.heap.size u u') : Mem w0 M L u' :=
  ⟨b.os.trans h.os, b.tape.trans h.tape, b.output.trans h.output, Nat.le_trans h.size b.size,
    fun k hk hM => (b.block k (Nat.lt_of_lt_of_le hk h.size)).trans (h.old k hk hM),
    ⟨fun p hp => (b.block _ (h.has.lt hp)).trans (h.has.blk p hp), h.has.one⟩, h.own⟩
theorem Mem.drew {w0 u : World} {M : List Nat} {L : Hp} (h : Mem w0 M L u) : Mem w0 M L { u with drawn := u.drawn + 1 } :=
  ⟨h.os, h.tape, h.output, h.size, h.old, ⟨h.has.blk, h.has.one⟩, h.own⟩
theorem Mem.to_below {w0 u : World} {L : Hp} (h : Mem w0 [] L u) : Below w0.heap.size w0 u := ⟨h.os, h.tape, h.output, h.size, fun k hk => h.old k hk (by simp)⟩
theorem Mem.keeps {w0 : World} {M : List Nat} {L : Hp} : KeepsB (Mem w0 M L) := fun _ _ h hb => h.below hb
/-- A new block. -/
theorem Mem.new {w0 u u1 : World} {M : List Nat} {L : Hp} {o : Obj} {g : Nat} (h : Mem w0 M L u) (hg : u.heap.size ≤ g) (h1 : u1.heap[g]? = some o) (b : Below u.heap.size u u1) : Mem w0 M ((g, o) :: L) u1 := by
  have h' := h.below b
  refine { h' with has := h'.has.cons h1 (fun hm => ?_), own := fun p hp => ?_ }
  · obtain ⟨p, hp, rfl⟩ := List.mem_map.1 hm
    have := h.has.lt hp
    omega
  · cases hp with
    | head => exact .inr (Nat.le_trans h.size hg)
    | tail _ hp => exact h.own p hp
/-- A known block has turned. -/
theorem Mem.turn {w0 u u1 : World} {M : List Nat} {L : Hp} {g : Nat} {o o' : Obj} (h : Mem w0 M L u) (i : Nat) (hi : L[i]? = some (g, o)) (h1 : u1.heap[g]? = some o') (m : Mod1 g u u1) : Mem w0 M (L.set i (g, o')) u1 := by
  have hp := perm_at i hi
  have h' := h.perm hp
  have hi' : i < L.length := (List.getElem?_eq_some_iff.1 hi).1
  have hn : g ∉ (L.eraseIdx i).map (·.1) := by have := h'.has.one; simp only [List.map_cons, List.nodup_cons] at this; exact this.1
  have hown : g ∈ M ∨ w0.heap.size ≤ g := h.own _ (List.mem_of_getElem? hi)
  have key : Mem w0 M ((g, o') :: L.eraseIdx i) u1 := by
    refine ⟨m.os.trans h.os, m.tape.trans h.tape, m.output.trans h.output, by rw [m.size]; exact h.size, fun k hk hM => ?_, Has.cons h1 hn ⟨fun p hp => ?_, ?_⟩, fun p hp => ?_⟩
    · rw [m.block k (fun e => by
        subst e
        rcases hown with hw | hw
        · exact hM hw
        · omega)]
      exact h.old k hk hM
    · rw [m.block p.1 (fun e => hn (by rw [← e]; exact List.mem_map_of_mem hp))]; exact h'.has.blk p (by simp [hp])
    · have := h'.has.one; simp only [List.map_cons, List.nodup_cons] at this; exact this.2
    · cases hp with
      | head => exact hown
      | tail _ hp => exact h'.own p (List.mem_cons_of_mem _ hp)
  have e : (L.set i (g, o')).Perm ((g, o') :: L.eraseIdx i) := by
    have := perm_at (L := L.set i (g, o')) (p := (g, o')) i (by simp [hi'])
    rwa [show (L.set i (g, o')).eraseIdx i = L.eraseIdx i from List.eraseIdx_set_eq] at this
  exact key.perm e.symm
theorem Mem.trans {w0 u u' : World} {M M' : List Nat} {A R L' : Hp} (h : Mem w0 M (A ++ R) u) (hM : ∀ g ∈ M', g ∈ A.map (·.1)) (h' : Mem u M' L' u') : Mem w0 M (L' ++ R) u' := by
  have hR : ∀ p ∈ R, p.1 ∉ M' := fun p hp hm => h.has.apart (hM _ hm) (List.mem_map_of_mem hp)
  have hlt : ∀ p ∈ R, p.1 < u.heap.size := fun p hp => h.has.right.lt hp
  refine ⟨h'.os.trans h.os, h'.tape.trans h.tape, h'.output.trans h.output, Nat.le_trans h.size h'.size, fun k hk hk' => ?_, ⟨fun p hp => ?_, ?_⟩, fun p hp => ?_⟩
  · rw [h'.old k (Nat.lt_of_lt_of_le hk h.size) (fun hm => ?_)]
    · exact h.old k hk hk'
    · obtain ⟨p, hp, rfl⟩ := List.mem_map.1 (hM _ hm)
      rcases h.own p (by simp [hp]) with hw | hw
      · exact hk' hw
      · omega
  · rcases List.mem_append.1 hp with hp | hp
    · exact h'.has.blk p hp
    · rw [h'.old _ (hlt p hp) (hR p hp)]; exact h.has.right.blk p hp
  · rw [List.map_append, List.nodup_append]
    refine ⟨h'.has.one, h.has.right.one, fun a ha b hb e => ?_⟩
    subst e
    obtain ⟨p, hp, rfl⟩ := List.mem_map.1 ha
    obtain ⟨q, hq, e⟩ := List.mem_map.1 hb
    rcases h'.own p hp with hw | hw
    · exact hR q hq (by rw [e]; exact hw)
    · have := hlt q hq; omega
  · rcases List.mem_append.1 hp with hp | hp
    · rcases h'.own p hp with hw | hw
      · obtain ⟨q, hq, e⟩ := List.mem_map.1 (hM _ hw)
        rw [← e]; exact h.own q (by simp [hq])
      · exact .inr (Nat.le_trans h.size hw)
    · exact h.own p (by simp [hp])

/-- What a call of a function does: it finds the blocks A, may turn them alone, and leaves what Rel tells. -/
def Does (P : Program) (f : FuncId) (args : Array Value) (A : Hp) (Rel : Value → Hp → Prop) : Prop :=
  ∀ w, Has A w → Calls P f args w fun e w' => ∃ v L, e = .returned v ∧ Rel v L ∧ Mem w (A.map (·.1)) L w'
theorem Does.call {P : Program} {f : FuncId} {args : Array Value} {A R L : Hp} {Rel : Value → Hp → Prop} {w0 u : World} {M : List Nat} (C : Does P f args A Rel) (h : Mem w0 M L u) (hp : L.Perm (A ++ R)) :
    Calls P f args u fun e w' => ∃ v L', e = .returned v ∧ Rel v L' ∧ Mem w0 M (L' ++ R) w' :=
  (C u (h.perm hp).has.left).mono fun _ _ ⟨v, L', he, hr, hm⟩ => ⟨v, L', he, hr, (h.perm hp).trans (fun _ hg => hg) hm⟩
theorem Does.of_below {P : Program} {f : FuncId} {args : Array Value} {v : Value} (C : ∀ w, Calls P f args w fun e w' => e = .returned v ∧ Below w.heap.size w w') : Does P f args [] fun v' L => v' = v ∧ L = [] :=
  fun w _ => (C w).mono fun _ _ ⟨he, hb⟩ => ⟨v, [], he, ⟨rfl, rfl⟩, (Mem.nil w).below hb⟩
/-- A pure call, carried. -/
theorem call_pure {P : Program} {f : FuncId} {args : Array Value} {L : Hp} {v : Value} {w0 u : World} {M : List Nat} (C : ∀ w, Calls P f args w fun e w' => e = .returned v ∧ Below w.heap.size w w') (h : Mem w0 M L u) :
    Calls P f args u fun e w' => e = .returned v ∧ Mem w0 M L w' := (C u).mono fun _ _ ⟨he, hb⟩ => ⟨he, h.below hb⟩

def aggB (P : Program) (ty : TypeId) : Bool := match P.underlying ty with | some (.struct _) | some (.array ..) => true | _ => false
def sizB (P : Program) (ty n : Nat) : Bool := match P.info? ty with | some i => i.size == n | none => false
theorem sizB_spec {P : Program} {ty n : Nat} (h : sizB P ty n = true) : (P.info? ty).map (·.size) = some n := by
  unfold sizB at h
  cases hq : P.info? ty with
  | none => simp [hq] at h
  | some i => simp [hq] at h; simp [h]

/-- What an operation yields, and the world that it leaves. -/
def Outs (P : Program) (o : Oper) (a : Act) (u : World) (N : Value → World → Prop) : Prop :=
  match (execOp a.eval o).run P u with
  | .ok (.value v) w' => N v w'
  | .ok .skip w' => N undef w'
  | .ok (.enter f args) w' => Calls P f args w' fun e w'' => ∃ v, e = .returned v ∧ N v w''
  | _ => False
section
variable {P : Program} {ops : Array Oper} {rest : List Oper} {o : Oper} {a : Act} {Q : Exit → Act → World → Prop} {W w0 : World} {M : List Nat} {L : Hp}
theorem Outs.mono {u : World} {N N' : Value → World → Prop} (h : Outs P o a u N) (hN : ∀ v w, N v w → N' v w) : Outs P o a u N' := by
  unfold Outs at *
  split at h
  · exact hN _ _ h
  · exact hN _ _ h
  · exact h.mono fun _ _ ⟨v, he, hn⟩ => ⟨v, he, hN _ _ hn⟩
  · exact h.elim
theorem Outs.wp {u : World} {N : Value → World → Prop} {K : Act → World → Prop} (h : Outs P o a u N) (hK : ∀ v w, N v w → K (a.put o.dst v) w) : o.wp P a u K Q := by
  unfold Outs at h
  unfold Oper.wp Oper.upon
  split at h
  · rename_i v w' e; simp only [e]; exact hK _ _ h
  · rename_i w' e; simp only [e]; exact hK _ _ h
  · rename_i f args w' e; simp only [e]; exact h.mono fun e w'' ⟨v, he, hn⟩ => by subst he; exact hK _ _ hn
  · exact h.elim
/-- An operation that comes up in a list. -/
theorem Outs.ev {u : World} {N : Value → World → Prop} (h : Outs P o a u N) (hw : Region.wanted o (yielded ops a.tmps) = true) (hK : ∀ v w, N v w → wpList P ops Q rest (a.put o.dst v) w) : wpList P ops Q (o :: rest) a u :=
  BigFrame.wpList_want hw fun K hk => h.wp fun v w hn => hk _ _ (hK v w hn)
theorem outs_run {u w1 : World} {v : Value} {N : Value → World → Prop} (hrun : (execOp a.eval o).run P u = .ok (.value v) w1) (h : N v w1) : Outs P o a u N := by
  unfold Outs; rw [hrun]; exact h
theorem outs_skip {u w1 : World} {N : Value → World → Prop} (hrun : (execOp a.eval o).run P u = .ok .skip w1) (h : N undef w1) : Outs P o a u N := by
  unfold Outs; rw [hrun]; exact h
/-- What is asked of an operation: a value and a change of the blocks that are known. -/
def OutsM (P : Program) (o : Oper) (a : Act) (w0 : World) (M : List Nat) (L : Hp) (R : Value → Hp → Prop) : Prop := ∀ u, Mem w0 M L u → Outs P o a u fun v u' => ∃ L', R v L' ∧ Mem w0 M L' u'
theorem outs_box (t : TypeId) (x : Operand) (ho : o.op = .box t x) (v : Value) (hx : a.eval x = v) (c : Array Value) (hc : v.cells = c) : OutsM P o a w0 M L fun v L' => ∃ g, v = .pointer (some ⟨g, 0, none⟩) ∧ L' = (g, row c t) :: L := by
  intro u hu
  subst hx hc
  refine outs_run (v := .pointer (some ⟨u.heap.size, 0, none⟩)) (w1 := u.alloc (.cells (a.eval x).cells t (0, 0))) ?_ ⟨_, ⟨_, rfl, rfl⟩, hu.new (Nat.le_refl _) (heap_alloc_new u _) (below_new _)⟩
  unfold execOp; simp only [ho]; rfl
theorem outs_alloc (t : TypeId) (ho : o.op = .alloc t) (z : Value) (hz : (P.info? t).map (·.zero) = some (some z)) (c : Array Value) (hc : z.cells = c) : OutsM P o a w0 M L fun v L' => ∃ g, v = .pointer (some ⟨g, 0, none⟩) ∧ L' = (g, row c t) :: L := by
  intro u hu
  subst hc
  refine outs_run (v := .pointer (some ⟨u.heap.size, 0, none⟩)) (w1 := u.alloc (.cells z.cells t (0, 0))) ?_ ⟨_, ⟨_, rfl, rfl⟩, hu.new (Nat.le_refl _) (heap_alloc_new u _) (below_new _)⟩
  unfold execOp
  simp only [ho]
  cases hq : P.info? t with
  | none => simp [hq] at hz
  | some i =>
    have hzz : i.zero = some z := by simpa [hq] using hz
    have hzr : (zeroValue t).run P u = .ok z u := by simp [zeroValue, typeInfo, hq, hzz]
    simp only [Instr.alloc, Sem.run_bind, hzr, Result.andThen_ok]
    rfl
theorem run_load_cell {W : World} {g off : Nat} {ty : TypeId} {v : Value} (hagg : aggB P ty = false) (hu : (P.underlying ty).isSome = true) (hc : W.cell? ⟨g, off, none⟩ = some v) : (Instr.loadAt ty (.pointer (some ⟨g, off, none⟩))).run P W = .ok v W := by
  unfold aggB at hagg
  cases hq : P.underlying ty with
  | none => simp [hq] at hu
  | some d =>
    simp only [hq] at hagg
    have hq' : (underlying ty).run P W = .ok d W := run_underlying hq W
    cases d <;> first | (simp at hagg; done) | simp [Instr.loadAt, Instr.sureAddr, loadVar, isAgg, hq', run_load, hc, go_sem]
theorem run_load_row {W : World} {g : Nat} {ty t : TypeId} {cs : Array Value} (hagg : aggB P ty = true) (hs : sizB P ty cs.size = true) (hg : W.heap[g]? = some (row cs t)) : (Instr.loadAt ty (.pointer (some ⟨g, 0, none⟩))).run P W = .ok (.agg cs) W := by
  unfold aggB at hagg
  split at hagg
  · rename_i d hd
    have := run_loadVar_row W g t ty cs (0, 0) _ hg hd rfl (sizB_spec hs)
    simp [Instr.loadAt, Instr.sureAddr, this]
  · rename_i d hd
    have := run_loadVar_row W g t ty cs (0, 0) _ hg hd rfl (sizB_spec hs)
    simp [Instr.loadAt, Instr.sureAddr, this]
  · cases hagg
/-- A part of a row is read: a struct that lies in an array. -/
theorem run_load_part {W : World} {g off n : Nat} {ty t : TypeId} {cs : Array Value} (hagg : aggB P ty = true) (hs : sizB P ty n = true) (hg : W.heap[g]? = some (row cs t)) (hn : off + n ≤ cs.size) : (Instr.loadAt ty (.pointer (some ⟨g, off, none⟩))).run P W = .ok (.agg (cs.extract off (off + n))) W := by
  have hlen : (cs.extract off (off + n)).toList.length = n := by simp; omega
  have hcells : (loadCells ⟨g, off, none⟩ n).run P W = .ok (cs.extract off (off + n)) W := by
    have h := run_loadCells_list (P := P) (w := W) ⟨g, off, none⟩ (cs.extract off (off + n)).toList (fun j v hj => by
      have hj' : j < n := by rw [← hlen]; exact (List.getElem?_eq_some_iff.1 hj).1
      have hadd : (⟨g, off, none⟩ : Addr).add j = ⟨g, off + j, none⟩ := by unfold Addr.add; split <;> simp_all
      rw [hadd, blk_cell hg, ← hj]
      simp [hj'])
    rw [hlen] at h
    rw [h]
  have hsz : (sizeOf ty).run P W = .ok n W := by
    have := sizB_spec hs
    cases hq : P.info? ty with
    | none => simp [hq] at this
    | some i => simp [hq] at this; simp [sizeOf, typeInfo, hq, this]
  unfold aggB at hagg
  split at hagg
  · rename_i d hd
    have hu : (underlying ty).run P W = .ok _ W := run_underlying hd W
    simp [Instr.loadAt, Instr.sureAddr, loadVar, isAgg, hu, hsz, hcells]
  · rename_i d hd
    have hu : (underlying ty).run P W = .ok _ W := run_underlying hd W
    simp [Instr.loadAt, Instr.sureAddr, loadVar, isAgg, hu, hsz, hcells]
  · cases hagg
theorem outs_load_row (ty : TypeId) (x : Operand) (ho : o.op = .load ty x) (i : Nat) (g : Nat) (t : TypeId) (cs : Array Value) (hi : L[i]? = some (g, row cs t)) (hx : a.eval x = .pointer (some ⟨g, 0, none⟩))
    (hagg : aggB P ty = true) (hs : sizB P ty cs.size = true) {u : World} (hu : Mem w0 M L u) {N : Value → World → Prop} (h : N (.agg cs) u) : Outs P o a u N := by
  refine outs_run (v := .agg cs) (w1 := u) ?_ h
  unfold execOp
  simp only [ho, hx]
  simp [run_load_row hagg hs (hu.get i hi)]
theorem outs_load_cell (ty : TypeId) (x : Operand) (ho : o.op = .load ty x) (i : Nat) (g off : Nat) (t : TypeId) (cs : Array Value) (v : Value) (hi : L[i]? = some (g, row cs t)) (hx : a.eval x = .pointer (some ⟨g, off, none⟩))
    (hc : cs[off]? = some v) (hagg : aggB P ty = false) (hu : (P.underlying ty).isSome = true) {u : World} (hm : Mem w0 M L u) {N : Value → World → Prop} (h : N v u) : Outs P o a u N := by
  refine outs_run (v := v) (w1 := u) ?_ h
  unfold execOp
  simp only [ho, hx]
  simp [run_load_cell (P := P) (W := u) (g := g) (off := off) hagg hu (v := v) (by rw [blk_cell (hm.get i hi)]; exact hc)]
theorem outs_load_part (ty : TypeId) (x : Operand) (ho : o.op = .load ty x) (i : Nat) (g off n : Nat) (t : TypeId) (cs : Array Value) (hi : L[i]? = some (g, row cs t)) (hx : a.eval x = .pointer (some ⟨g, off, none⟩))
    (hn : off + n ≤ cs.size) (hagg : aggB P ty = true) (hs : sizB P ty n = true) {u : World} (hm : Mem w0 M L u) {N : Value → World → Prop} (h : N (.agg (cs.extract off (off + n))) u) : Outs P o a u N := by
  refine outs_run (v := .agg (cs.extract off (off + n))) (w1 := u) ?_ h
  unfold execOp
  simp only [ho, hx]
  simp [run_load_part hagg hs (hm.get i hi) hn]
theorem outs_store_row (ty : TypeId) (x y : Operand) (ho : o.op = .store ty x y) (i : Nat) (g : Nat) (t : TypeId) (old cs : Array Value) (hi : L[i]? = some (g, row old t)) (hx : a.eval x = .pointer (some ⟨g, 0, none⟩)) (hy : a.eval y = .agg cs)
    (hs : sizB P ty cs.size = true) (hold : old.size = cs.size) (h1 : cs.all (·.oneCell') = true) : OutsM P o a w0 M L fun v L' => v = undef ∧ L' = L.set i (g, row cs t) := by
  intro u hu
  have hb := hu.get i hi
  refine outs_skip (w1 := u.setRow g cs) ?_ ⟨_, ⟨rfl, rfl⟩, hu.turn i hi (setRow_heap u g old cs t _ hb) (Mod1.row u g cs)⟩
  unfold execOp
  simp only [ho, hx, hy, Instr.storeAt, Instr.sureAddr, Sem.run_bind, Sem.run_pure, Result.andThen_ok, run_storeVar_row u g t ty old cs hb (sizB_spec hs) hold h1]
theorem run_store_one {W : World} {g off : Nat} {ty t : TypeId} {cs : Array Value} {v : Value} (hs : sizB P ty 1 = true) (h1 : v.oneCell' = true) (hlt : off < cs.size) (hg : W.heap[g]? = some (row cs t)) : (storeVar ty ⟨g, off, none⟩ v).run P W = .ok () (W.setCell ⟨g, off, none⟩ v) := by
  have hcell : W.cell? ⟨g, off, none⟩ = some cs[off] := by rw [blk_cell hg]; simp [hlt]
  have hfr := blk_frozen hg off
  have hi := sizB_spec hs
  cases hq : P.info? ty with
  | none => simp [hq] at hi
  | some inf =>
    have hsz : inf.size = 1 := by simpa [hq] using hi
    have hvc : v.cells = #[v] := by cases v <;> simp [Value.oneCell', Value.cells] at h1 ⊢
    have hadd : (⟨g, off, none⟩ : Addr).add 0 = ⟨g, off, none⟩ := by simp [Addr.add]
    have hst : (storeCells ⟨g, off, none⟩ [v] 0).run P W = .ok () (W.setCell ⟨g, off, none⟩ v) := by
      simp only [storeCells, Sem.run_bind, hadd, run_store P W _ v _ h1, hcell, hfr]
      rfl
    simp [storeVar, sizeOf, typeInfo, hq, hsz, hvc, hst]
theorem outs_store_cell (ty : TypeId) (x y : Operand) (ho : o.op = .store ty x y) (i : Nat) (g off : Nat) (t : TypeId) (cs : Array Value) (v : Value) (hi : L[i]? = some (g, row cs t)) (hx : a.eval x = .pointer (some ⟨g, off, none⟩)) (hy : a.eval y = v)
    (hs : sizB P ty 1 = true) (h1 : v.oneCell' = true) (hlt : off < cs.size) : OutsM P o a w0 M L fun r L' => r = undef ∧ L' = L.set i (g, row (cs.setIfInBounds off v) t) := by
  intro u hu
  have hb := hu.get i hi
  refine outs_skip (w1 := u.setCell ⟨g, off, none⟩ v) ?_ ⟨_, ⟨rfl, rfl⟩, hu.turn i hi (heap_setCell_same u g off cs t v hb) (Mod1.cell u g off v)⟩
  unfold execOp
  simp only [ho, hx, hy, Instr.storeAt, Instr.sureAddr, Sem.run_bind, Sem.run_pure, Result.andThen_ok, run_store_one hs h1 hlt hb]

theorem box_m (HM : Mem w0 M L W) (hw : Region.wanted o (yielded ops a.tmps) = true) {N : Tmp} (hd : o.dst = some N) (t : TypeId) (x : Operand) (ho : o.op = .box t x) (cs : Array Value) (hx : a.eval x = .agg cs)
    (h : ∀ g w1, Mem w0 M ((g, row cs t) :: L) w1 → wpList P ops Q rest (a.put (some N) (.pointer (some ⟨g, 0, none⟩))) w1) : wpList P ops Q (o :: rest) a W :=
  (outs_box t x ho _ hx cs rfl W HM).ev hw fun _ w1 ⟨_, ⟨g, hv, hl⟩, hm⟩ => by subst hv hl; rw [hd]; exact h g w1 hm
theorem box1_m (HM : Mem w0 M L W) (hw : Region.wanted o (yielded ops a.tmps) = true) {N : Tmp} (hd : o.dst = some N) (t : TypeId) (x : Operand) (ho : o.op = .box t x) (v : Value) (hx : a.eval x = v) (hc : v.cells = #[v])
    (h : ∀ g w1, Mem w0 M ((g, row #[v] t) :: L) w1 → wpList P ops Q rest (a.put (some N) (.pointer (some ⟨g, 0, none⟩))) w1) : wpList P ops Q (o :: rest) a W :=
  (outs_box t x ho _ hx _ hc W HM).ev hw fun _ w1 ⟨_, ⟨g, hv, hl⟩, hm⟩ => by subst hv hl; rw [hd]; exact h g w1 hm
theorem alloc_m (HM : Mem w0 M L W) (hw : Region.wanted o (yielded ops a.tmps) = true) {N : Tmp} (hd : o.dst = some N) (t : TypeId) (ho : o.op = .alloc t) (z : Value) (hz : (P.info? t).map (·.zero) = some (some z)) (c : Array Value) (hc : z.cells = c)
    (h : ∀ g w1, Mem w0 M ((g, row c t) :: L) w1 → wpList P ops Q rest (a.put (some N) (.pointer (some ⟨g, 0, none⟩))) w1) : wpList P ops Q (o :: rest) a W :=
  (outs_alloc t ho z hz c hc W HM).ev hw fun _ w1 ⟨_, ⟨g, hv, hl⟩, hm⟩ => by subst hv hl; rw [hd]; exact h g w1 hm
/-- What kind of operation comes next. -/
def memOp : Op → Bool
  | .load .. | .store .. | .alloc _ | .box .. | .buildSlice .. | .makeSlice .. => true
  | _ => false
theorem at_mem (h : memOp o.op = true) (k : wpList P ops Q (o :: rest) a W) : wpList P ops Q (o :: rest) a W := k
theorem at_reg (id : Nat) {l : Array Oper} (k : (Code.region id l true).wp P Q a W) : (Code.region id l true).wp P Q a W := k
theorem at_load (ty : TypeId) {x : Operand} (h : o.op = .load ty x) (k : wpList P ops Q (o :: rest) a W) : wpList P ops Q (o :: rest) a W := k
theorem at_store (ty : TypeId) {x y : Operand} (h : o.op = .store ty x y) (k : wpList P ops Q (o :: rest) a W) : wpList P ops Q (o :: rest) a W := k
theorem at_alloc (ty : TypeId) (h : o.op = .alloc ty) (k : wpList P ops Q (o :: rest) a W) : wpList P ops Q (o :: rest) a W := k
theorem at_box (ty : TypeId) {x : Operand} (h : o.op = .box ty x) (k : wpList P ops Q (o :: rest) a W) : wpList P ops Q (o :: rest) a W := k
/-- Whether an operation's guard is decided. -/
theorem lit_t (h : Region.wanted o (yielded ops a.tmps) = true) (k : wpList P ops Q (o :: rest) a W) : wpList P ops Q (o :: rest) a W := k
theorem lit_f (h : Region.wanted o (yielded ops a.tmps) = false) (k : wpList P ops Q (o :: rest) a W) : wpList P ops Q (o :: rest) a W := k
theorem split_guard {j : Nat} {want b : Bool} (hg : o.guard = some (j, want)) (hb : yielded ops a.tmps j = some b) (ht : b = true → wpList P ops Q (o :: rest) a W) (hf : b = false → wpList P ops Q (o :: rest) a W) : wpList P ops Q (o :: rest) a W := by
  cases b
  · exact hf rfl
  · exact ht rfl
/-- A whole variable is read. -/
theorem load_row_m (HM : Mem w0 M L W) (hw : Region.wanted o (yielded ops a.tmps) = true) (ty : TypeId) (x : Operand) (ho : o.op = .load ty x) (i : Nat) (g : Nat) (t : TypeId) (cs : Array Value) (hi : L[i]? = some (g, row cs t)) (hx : a.eval x = .pointer (some ⟨g, 0, none⟩))
    (hagg : aggB P ty = true) (hs : sizB P ty cs.size = true) (h : wpList P ops Q rest (a.put o.dst (.agg cs)) W) : wpList P ops Q (o :: rest) a W :=
  (outs_load_row ty x ho i g t cs hi hx hagg hs HM (N := fun v w => v = .agg cs ∧ w = W) ⟨rfl, rfl⟩).ev hw fun _ _ ⟨e1, e2⟩ => by subst e1 e2; exact h
/-- One cell is read. -/
theorem load_cell_m (HM : Mem w0 M L W) (hw : Region.wanted o (yielded ops a.tmps) = true) (ty : TypeId) (x : Operand) (ho : o.op = .load ty x) (i : Nat) (g off : Nat) (t : TypeId) (cs : Array Value) (v : Value) (hi : L[i]? = some (g, row cs t)) (hx : a.eval x = .pointer (some ⟨g, off, none⟩))
    (hc : cs[off]? = some v) (hagg : aggB P ty = false) (hu : (P.underlying ty).isSome = true) (h : wpList P ops Q rest (a.put o.dst v) W) : wpList P ops Q (o :: rest) a W :=
  (outs_load_cell ty x ho i g off t cs v hi hx hc hagg hu HM (N := fun v' w => v' = v ∧ w = W) ⟨rfl, rfl⟩).ev hw fun _ _ ⟨e1, e2⟩ => by subst e1 e2; exact h
theorem load_part_m (HM : Mem w0 M L W) (hw : Region.wanted o (yielded ops a.tmps) = true) (ty : TypeId) (x : Operand) (ho : o.op = .load ty x) (i : Nat) (g off n : Nat) (t : TypeId) (cs : Array Value) (hi : L[i]? = some (g, row cs t)) (hx : a.eval x = .pointer (some ⟨g, off, none⟩))
    (hn : off + n ≤ cs.size) (r : Array Value) (hr : cs.extract off (off + n) = r) (hagg : aggB P ty = true) (hs : sizB P ty n = true) (h : wpList P ops Q rest (a.put o.dst (.agg r)) W) : wpList P ops Q (o :: rest) a W :=
  (outs_load_part ty x ho i g off n t cs hi hx hn hagg hs HM (N := fun v' w => v' = .agg r ∧ w = W) ⟨by rw [hr], rfl⟩).ev hw fun _ _ ⟨e1, e2⟩ => by subst e1 e2; exact h
theorem store_row_m (HM : Mem w0 M L W) (hw : Region.wanted o (yielded ops a.tmps) = true) (ty : TypeId) (x y : Operand) (ho : o.op = .store ty x y) (i : Nat) (g : Nat) (t : TypeId) (old cs : Array Value) (hi : L[i]? = some (g, row old t)) (hx : a.eval x = .pointer (some ⟨g, 0, none⟩)) (hy : a.eval y = .agg cs)
    (hs : sizB P ty cs.size = true) (hold : old.size = cs.size) (h1 : cs.all (·.oneCell') = true)
    (h : ∀ w1, Mem w0 M (L.set i (g, row cs t)) w1 → wpList P ops Q rest (a.put o.dst undef) w1) : wpList P ops Q (o :: rest) a W :=
  (outs_store_row ty x y ho i g t old cs hi hx hy hs hold h1 W HM).ev hw fun _ w1 ⟨_, ⟨hv, hl⟩, hm⟩ => by subst hv hl; exact h w1 hm
theorem store_cell_m (HM : Mem w0 M L W) (hw : Region.wanted o (yielded ops a.tmps) = true) (ty : TypeId) (x y : Operand) (ho : o.op = .store ty x y) (i : Nat) (g off : Nat) (t : TypeId) (cs : Array Value) (v : Value) (hi : L[i]? = some (g, row cs t)) (hx : a.eval x = .pointer (some ⟨g, off, none⟩)) (hy : a.eval y = v)
    (hs : sizB P ty 1 = true) (h1 : v.oneCell' = true) (hlt : off < cs.size)
    (h : ∀ w1, Mem w0 M (L.set i (g, row (cs.setIfInBounds off v) t)) w1 → wpList P ops Q rest (a.put o.dst undef) w1) : wpList P ops Q (o :: rest) a W :=
  (outs_store_cell ty x y ho i g off t cs v hi hx hy hs h1 hlt W HM).ev hw fun _ w1 ⟨_, ⟨hv, hl⟩, hm⟩ => by subst hv hl; exact h w1 hm
end
end Go.Proofs.Ytndeaikmelpflaa.M
