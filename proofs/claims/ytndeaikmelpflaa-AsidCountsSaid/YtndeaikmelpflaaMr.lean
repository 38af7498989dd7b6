/- Regions that draw their order, with operations that make or turn blocks: the quiet ones are taken first, of the others each that may come next is walked. Over any program. -/
import Derived.Test.YtndeaikmelpflaaMq
namespace Go.Proofs.Ytndeaikmelpflaa.Mr
open Go.RowKit Go.Proofs.Ytndeaikmelpflaa.G Go.Proofs.Ytndeaikmelpflaa.M Go.Proofs.Ytndeaikmelpflaa.Mq
set_option linter.unusedVariables false
set_option linter.unusedSimpArgs false
section
variable {P : Program} {ops : Array Oper} {md : Region.Mode} {C : World → Prop} {Q : Exit → Act → World → Prop} {w0 : World} {M : List Nat}

/-- In every world of the class the operation yields v and leaves all blocks that were there. -/
def Gq (P : Program) (C : World → Prop) (o : Oper) (a : Act) (v : Value) : Prop := ∀ w, C w → Outs P o a w fun u w' => u = v ∧ Below w.heap.size w w'
def Yg (P : Program) (ops : Array Oper) (C : World → Prop) (o : Oper) (a : Act) (v : Value) : Prop :=
  (Region.wanted o (yielded ops a.tmps) = true ∧ Gq P C o a v) ∨ (Region.wanted o (yielded ops a.tmps) = false ∧ v = undef)
/-- Operation i comes up, the blocks L being known. -/
def stepM (P : Program) (ops : Array Oper) (w0 : World) (M : List Nat) (i : Nat) (K : Act → Hp → Prop) (a : Act) (L : Hp) : Prop :=
  match ops[i]? with
  | none => K a L
  | some o => if Region.wanted o (yielded ops a.tmps) then
      ∃ R : Value → Hp → Prop, (∀ u, Mem w0 M L u → Outs P o a u fun v u' => ∃ L', R v L' ∧ Mem w0 M L' u') ∧ ∀ v L', R v L' → K (a.put o.dst v) L'
    else K (a.put o.dst undef) L
/-- Whatever order is picked from here on, till the first n operations are through: then what T tells. -/
def HeadM (P : Program) (ops : Array Oper) (C : World → Prop) (w0 : World) (M : List Nat) (n : Nat) (T : Array Bool → Act → Hp → Prop) : Nat → Array Bool → Act → Hp → Prop
  | 0, listed, a, L => (∀ u, Mem w0 M L u → C u) ∧ T listed a L
  | f + 1, listed, a, L => (∀ u, Mem w0 M L u → C u) ∧ Region.ready .any ops listed ≠ [] ∧
      ∀ i ∈ Region.ready .any ops listed, i < n ∧ stepM P ops w0 M i (HeadM P ops C w0 M n T f (listed.setIfInBounds i true)) a L
theorem HeadM.cls {n f : Nat} {T : Array Bool → Act → Hp → Prop} {listed : Array Bool} {a : Act} {L : Hp} (h : HeadM P ops C w0 M n T f listed a L) : ∀ u, Mem w0 M L u → C u := by
  cases f <;> exact h.1
theorem stepM_mono {i : Nat} {K K' : Act → Hp → Prop} {a : Act} {L : Hp} (h : ∀ a L, K a L → K' a L) (hh : stepM P ops w0 M i K a L) : stepM P ops w0 M i K' a L := by
  unfold stepM at *
  split
  · rename_i e; simp only [e] at hh; exact h _ _ hh
  · rename_i o e
    simp only [e] at hh
    split
    · rename_i hw; simp only [hw, if_true] at hh
      obtain ⟨R, h1, h2⟩ := hh
      exact ⟨R, h1, fun v L' hr => h _ _ (h2 v L' hr)⟩
    · rename_i hw; simp only [hw] at hh; exact h _ _ hh
theorem HeadM.any {n g : Nat} {T : Array Bool → Act → Hp → Prop} (hT : ∀ listed a L u, Mem w0 M L u → T listed a L → wpAny P .any ops Q g listed a u) :
    ∀ (f : Nat) (listed : Array Bool) (a : Act) (L : Hp) (u : World), Mem w0 M L u → HeadM P ops C w0 M n T f listed a L → wpAny P .any ops Q (f + g) listed a u
  | 0, _, _, _, _, hu, h => by rw [Nat.zero_add]; exact hT _ _ _ _ hu h.2
  | f + 1, listed, a, L, u, hu, h => by
    rw [Nat.succ_add]
    refine ⟨fun h0 => absurd h0 h.2.1, fun i hi => ?_⟩
    have hs := (h.2.2 i hi).2
    unfold stepM at hs
    unfold wpOp
    split
    · rename_i e; simp only [e] at hs; exact HeadM.any hT f _ _ _ _ hu hs
    · rename_i o e
      simp only [e] at hs
      split
      · rename_i hw; simp only [hw, if_true] at hs
        obtain ⟨R, h1, h2⟩ := hs
        exact .inl ((h1 u hu).wp fun v w' ⟨L', hr, hm⟩ => HeadM.any hT f _ _ _ _ hm (h2 v L' hr))
      · rename_i hw; simp only [hw] at hs; exact HeadM.any hT f _ _ _ _ hu hs
/-- What stands behind the head: the other operations, one behind the other. -/
def Tail (P : Program) (l : List Oper) (Q : Exit → Act → World → Prop) (w0 : World) (M : List Nat) (n g : Nat) (listed : Array Bool) (a : Act) (L : Hp) : Prop :=
  Region.seqB .any l.toArray g n listed = true ∧ ∀ u, Mem w0 M L u → wpList P l.toArray Q (l.drop n) a u
theorem Tail.any {l : List Oper} {n g : Nat} {listed : Array Bool} {a : Act} {L : Hp} {u : World} (hg : (l.drop n).length = g) (hu : Mem w0 M L u) (h : Tail P l Q w0 M n g listed a L) : wpAny P .any l.toArray Q g listed a u := by
  have := wpAny_of_seq (md := .any) (Q' := Q) (l.drop n) n listed a u (fun j => by simp [List.getElem?_drop]) (by rw [hg]; exact h.1) (h.2 u hu)
  rwa [hg] at this
theorem Yg.step {i : Nat} {o : Oper} {v : Value} {a : Act} {L : Hp} {K : Act → Hp → Prop} (hi : ops[i]? = some o) (hC : ∀ u, Mem w0 M L u → C u) (hy : Yg P ops C o a v) (h : K (a.put o.dst v) L) : stepM P ops w0 M i K a L := by
  unfold stepM
  simp only [hi]
  rcases hy with ⟨hw, hg⟩ | ⟨hw, rfl⟩
  · simp only [hw, if_true]
    refine ⟨fun v' L' => v' = v ∧ L' = L, fun u hu => (hg u (hC u hu)).mono ?_, ?_⟩
    · rintro v' w' ⟨rfl, hb⟩; exact ⟨L, ⟨rfl, rfl⟩, hu.below hb⟩
    · rintro v' L' ⟨rfl, rfl⟩; exact h
  · simp only [hw, Bool.false_eq_true, if_false]; exact h
theorem Outs.put {o : Oper} (hs : ∀ cs b, o.op ≠ .select cs b) {a : Act} {d : Option Tmp} {v : Value} (hd : ∀ t, d = some t → t ∉ o.looksAt ops) {u : World} {N : Value → World → Prop} : Outs P o (a.put d v) u N = Outs P o a u N := by
  unfold Outs
  rw [execOp_put o hs a d v hd]
theorem Yg.put {oi oj : Oper} (hs : ∀ cs b, oi.op ≠ .select cs b) {a : Act} {v u : Value} (hd : ∀ t, oj.dst = some t → t ∉ oi.looksAt ops) (h : Yg P ops C oi a v) : Yg P ops C oi (a.put oj.dst u) v := by
  unfold Yg Gq at *
  rw [wanted_put oi a oj.dst u hd]
  simp only [Outs.put hs hd]
  exact h
theorem stepM_put {j : Nat} {oi oj : Oper} {v : Value} (hj : ops[j]? = some oj) (hap : oi.apart ops oj = true) (hsi : ∀ cs b, oi.op ≠ .select cs b) (hsj : ∀ cs b, oj.op ≠ .select cs b) {K : Act → Hp → Prop} {a : Act} {L : Hp}
    (hy : Yg P ops C oi a v) (h : stepM P ops w0 M j K (a.put oi.dst v) L) : stepM P ops w0 M j (fun a' L' => Yg P ops C oi a' v ∧ K (a'.put oi.dst v) L') a L := by
  obtain ⟨h1, h2, h3⟩ := Oper.apart_spec hap
  unfold stepM at *
  simp only [hj] at *
  rw [wanted_put oj a oi.dst v h1] at h
  split
  · rename_i hw
    simp only [hw, if_true] at h
    obtain ⟨R, hR, hK⟩ := h
    refine ⟨R, fun u hu => ?_, fun u L' hr => ⟨hy.put hsi h3, by rw [← Act.put_comm a v u h2]; exact hK u L' hr⟩⟩
    have := hR u hu
    rwa [Outs.put hsj h1] at this
  · rename_i hw
    simp only [hw] at h
    exact ⟨hy.put hsi h3, by rw [← Act.put_comm a v undef h2]; exact h⟩
/-- What is asked of a region and its cut: the operations from n on wait for all before them, and come one behind the other. -/
def okCut (ops : Array Oper) (n : Nat) : Bool := Region.noSelect ops && (decide (n = ops.size) || (decide (n < ops.size) && Region.sinkB .any ops n && Region.chainB .any ops n))
theorem okCut_waits {n : Nat} (h : okCut ops n = true) {listed : Array Bool} (inv : HeadInv .any ops n listed) {i : Nat} (hin : i < n) (hr : i ∈ Region.ready .any ops listed) : ∀ j ∈ Region.ready .any ops listed, j < n := by
  intro j hj
  simp only [okCut, Bool.and_eq_true, Bool.or_eq_true, decide_eq_true_eq] at h
  obtain ⟨oj, hoj, _⟩ := (mem_ready.1 hj).2
  have hjs : j < ops.size := (Array.getElem?_eq_some_iff.1 hoj).1
  rcases h.2 with h | ⟨⟨h1, h2⟩, h3⟩
  · omega
  · exact Nat.lt_of_not_le fun h => tail_waits h2 h3 h1 inv _ i rfl hin (mem_ready.1 hr).1 j h hj
/-- A quiet operation that may come up is taken first. -/
theorem head_first {n i : Nat} {oi : Oper} {v : Value} {T : Array Bool → Act → Hp → Prop} (hi : ops[i]? = some oi) (hcut : okCut ops n = true) (hin : i < n) (hT : ∀ listed a L, T listed a L → ∀ j ∈ Region.ready .any ops listed, n ≤ j) :
    ∀ (f : Nat) (listed : Array Bool) (a : Act) (L : Hp), HeadInv .any ops n listed →
      (∀ j oj, ops[j]? = some oj → j ≠ i → listed.getD j true = false → (∀ e ∈ oj.after, Region.binds .any e = true → e.on ≠ i) → oi.apart ops oj = true) →
      i ∈ Region.ready .any ops listed → Yg P ops C oi a v → HeadM P ops C w0 M n T f (listed.setIfInBounds i true) (a.put oi.dst v) L → HeadM P ops C w0 M n T (f + 1) listed a L := by
  have hsel : ∀ (j : Nat) (o : Oper) cs b, ops[j]? = some o → o.op ≠ .select cs b := Region.noSelect_spec (by simp only [okCut, Bool.and_eq_true] at hcut; exact hcut.1)
  intro f
  induction f with
  | zero =>
    intro listed a L inv _ hr hy H
    refine ⟨H.cls, fun h => (by rw [h] at hr; cases hr), fun j hj => ?_⟩
    have hjn := okCut_waits hcut inv hin hr j hj
    refine ⟨hjn, ?_⟩
    by_cases hji : j = i
    · subst hji; exact hy.step hi H.cls H
    · exact absurd (hT _ _ _ H.2 j (ready_mono hj hji)) (by omega)
  | succ f ih =>
    intro listed a L inv hfree hr hy H
    refine ⟨H.cls, fun h => (by rw [h] at hr; cases hr), fun j hj => ?_⟩
    have hjn := okCut_waits hcut inv hin hr j hj
    refine ⟨hjn, ?_⟩
    by_cases hji : j = i
    · subst hji; exact hy.step hi H.cls H
    · have h1 := (H.2.2 j (ready_mono hj hji)).2
      obtain ⟨hjun, oj, hoj, hall⟩ := mem_ready.1 hj
      have hnot : ∀ e ∈ oj.after, Region.binds .any e = true → e.on ≠ i := fun e he hb heq => by
        have h1 := hall e he hb
        rw [heq, getD_both (mem_ready.1 hr).1] at h1
        cases h1
      have h2 := stepM_put hoj (hfree j oj hoj hji hjun hnot) (fun cs b => hsel i oi cs b hi) (fun cs b => hsel j oj cs b hoj) hy h1
      refine stepM_mono (fun a' L' h3 => ih (listed.setIfInBounds j true) a' L' (inv.set hj hjn) (fun k ok hk hki hu hno => hfree k ok hk hki ?_ hno) (ready_mono hr (Ne.symm hji)) h3.1 ?_) h2
      · by_cases hjk : j = k
        · subst hjk; exact hjun
        · rwa [getD_set_ne true hjk] at hu
      · rw [Array.setIfInBounds_comm _ _ hji]; exact h3.2
/-- The marks: a state of the walk's own, in which all that is asked of it holds. -/
def okFirst (ops : Array Oper) (n : Nat) (listed : Array Bool) (i : Nat) : Bool := decide (i < n) && (Region.ready .any ops listed).contains i && Region.free .any ops listed i
structure St (ops : Array Oper) (n : Nat) (T : Array Bool → Act → Hp → Prop) (listed : Array Bool) : Prop where
  cut : okCut ops n = true
  inv : HeadInv .any ops n listed
  tail : ∀ listed a L, T listed a L → ∀ j ∈ Region.ready .any ops listed, n ≤ j
theorem St.set {n i : Nat} {T : Array Bool → Act → Hp → Prop} {listed : Array Bool} (s : St ops n T listed) (hB : okFirst ops n listed i = true) : St ops n T (listed.setIfInBounds i true) := by
  simp only [okFirst, Bool.and_eq_true, decide_eq_true_eq] at hB
  exact ⟨s.cut, s.inv.set (by simpa using hB.1.2) hB.1.1, s.tail⟩
theorem head_take {n f i : Nat} {o : Oper} {v : Value} {T : Array Bool → Act → Hp → Prop} {listed : Array Bool} {a : Act} {L : Hp} (s : St ops n T listed) (hi : ops[i]? = some o) (hB : okFirst ops n listed i = true) (hy : Yg P ops C o a v)
    (h : HeadM P ops C w0 M n T f (listed.setIfInBounds i true) (a.put o.dst v) L) : HeadM P ops C w0 M n T (f + 1) listed a L := by
  simp only [okFirst, Bool.and_eq_true, decide_eq_true_eq] at hB
  exact head_first hi s.cut hB.1.1 s.tail f listed a L s.inv (Region.free_spec hi hB.2) (by simpa using hB.1.2) hy h
/-- The kinds of operations that never enter a function. -/
def plainOp : Op → Bool
  | .move _ | .assign _ | .pick .. | .build .. | .load .. | .binOp .. | .unOp .. | .convert .. | .makeFunc .. | .slice .. | .fieldAddr .. | .field .. | .indexAddr .. | .index .. | .extract .. | .lookup .. | .makeInterface .. | .nilCheck .. => true
  | .call { callee := .builtin .len, .. } | .call { callee := .builtin .cap, .. } | .call { callee := .builtin .min, .. } | .call { callee := .builtin .max, .. } => true
  | _ => false
theorem not_enter {P : Program} {ρ : Operand → Value} {o : Oper} {w w' : World} {f : FuncId} {args : Array Value} (hp : plainOp o.op = true) : (execOp ρ o).run P w ≠ .ok (.enter f args) w' := by
  have key : ∀ (s : Sem Value), (s >>= fun v => (Pure.pure (Next.value v) : Sem Next)).run P w ≠ .ok (.enter f args) w' := by
    intro s hs
    rw [Sem.run_bind] at hs
    cases hr : s.run P w with
    | ok a w1 => rw [hr] at hs; simp at hs
    | halt x w1 => rw [hr] at hs; simp at hs
  intro h
  obtain ⟨dst, op, ty, pos, after, guard⟩ := o
  simp only at hp
  unfold plainOp at hp
  split at hp <;> first | (cases hp; done) | exact key _ h | skip
  · simp [execOp] at h
  · simp [execOp] at h
  · rename_i c _ _
    cases hq : ρ c <;> simp [execOp, hq, asBool, stuck, go_sem] at h
  · rename_i x
    unfold execOp at h
    dsimp only at h
    split at h
    · simp [runtimePanic, go_sem] at h
    · simp [runtimePanic, go_sem] at h
    · simp [runtimePanic, go_sem] at h
    · split at h
      · simp [runtimePanic, go_sem] at h
      · rw [Sem.run_bind] at h
        cases hr : (Sem.run P program w) with
        | halt x w1 => rw [hr] at h; simp at h
        | ok p w1 =>
          rw [hr] at h
          simp only [Result.andThen_ok, Sem.run_bind] at h
          simp [unsupported, go_sem] at h
          generalize Sem.run P (nilAhead _ _ _ _) w1 = r at h
          cases r with
          | halt x w2 => simp [Result.andThen] at h
          | ok b w2 =>
            simp only [Result.andThen_ok] at h
            split at h <;> cases h
      · simp at h
    · simp at h
/-- What the text's walk tells of an operation that is no call, told in the form of Gq. -/
theorem quiet_gq {o : Oper} {a : Act} {K : Act → Prop} (hp : plainOp o.op = true) (h : o.quiet P a C K) : ∃ v, Gq P C o a v ∧ K (a.put o.dst v) := by
  obtain ⟨v, h1, h2⟩ := h
  refine ⟨v, fun w hw => ?_, h2⟩
  have := h1 w hw
  unfold Oper.quietAt Oper.quietUpon at this
  unfold Outs
  split at this
  · rename_i u w' e; simp only [e]; exact ⟨this.2, this.1 ▸ Below.refl _ _⟩
  · rename_i w' e; simp only [e]; exact ⟨this.2.symm, this.1 ▸ Below.refl _ _⟩
  · rename_i g args w' e; exact absurd e (not_enter hp)
  · exact this.elim
/-- Some operations one behind the other, none of them a call: the marks behind them; none: not all of them may be taken first. -/
def runB (ops : Array Oper) (m : Nat) : Nat → Nat → Array Bool → Option (Array Bool)
  | 0, _, listed => some listed
  | n + 1, k, listed => if okFirst ops m listed k && (match ops[k]? with | some o => plainOp o.op | none => false) then runB ops m n (k + 1) (listed.setIfInBounds k true) else none
/-- A run of quiet operations from number k on. -/
theorem head_run {n f : Nat} {T : Array Bool → Act → Hp → Prop} : ∀ (l : List Oper) (k : Nat) {listed listed' : Array Bool} {a : Act} {L : Hp}, St ops n T listed → (∀ j, j < l.length → l[j]? = ops[k + j]?) → runB ops n l.length k listed = some listed' →
    wpQuiet P ops C (fun a' => St ops n T listed' → HeadM P ops C w0 M n T f listed' a' L) l a → HeadM P ops C w0 M n T (f + l.length) listed a L
  | [], k, listed, listed', a, L, s, _, hB, h => by
    simp only [List.length_nil, runB, Option.some.injEq] at hB
    subst hB
    exact h s
  | o :: l, k, listed, listed', a, L, s, hl, hB, h => by
    have h0 : ops[k]? = some o := by simpa using (hl 0 (by simp)).symm
    simp only [List.length_cons, runB, h0] at hB
    split at hB
    · rename_i hc
      simp only [Bool.and_eq_true] at hc
      have hrest : ∀ a', wpQuiet P ops C (fun a' => St ops n T listed' → HeadM P ops C w0 M n T f listed' a' L) l a' → HeadM P ops C w0 M n T (f + l.length) (listed.setIfInBounds k true) a' L := fun a' h' =>
        head_run l (k + 1) (s.set hc.1) (fun j hj => by have := hl (j + 1) (by simp; omega); simpa [Nat.add_assoc, Nat.add_comm 1 j] using this) hB h'
      unfold wpQuiet at h
      split at h
      · rename_i hw
        obtain ⟨v, hg, hK⟩ := quiet_gq hc.2 h
        exact head_take s h0 hc.1 (.inl ⟨hw, hg⟩) (hrest _ hK)
      · rename_i hw
        exact head_take s h0 hc.1 (.inr ⟨by simpa using hw, rfl⟩) (hrest _ h)
    · cases hB
theorem any_run {m f : Nat} {T : Array Bool → Act → Hp → Prop} (n k : Nat) {l : List Oper} {listed : Array Bool} (listed' : Array Bool) {a : Act} {L : Hp} (s : St l.toArray m T listed) (hn : k + n ≤ l.length) (hB : runB l.toArray m n k listed = some listed')
    (h : wpQuiet P l.toArray C (fun a' => St l.toArray m T listed' → HeadM P l.toArray C w0 M m T f listed' a' L) ((l.drop k).take n) a) : HeadM P l.toArray C w0 M m T (f + n) listed a L := by
  have hlen : ((l.drop k).take n).length = n := by simp; omega
  have := head_run (f := f) (P := P) (C := C) (w0 := w0) (M := M) (ops := l.toArray) ((l.drop k).take n) k (a := a) (L := L) s (fun j hj => by
    rw [hlen] at hj
    simp [hj]) (by rw [hlen]; exact hB) h
  rwa [hlen] at this
/-- A quiet call is taken first. -/
theorem any_call {m f : Nat} {T : Array Bool → Act → Hp → Prop} (i : Nat) (d : Option Tmp) {o : Oper} {v : Value} {listed : Array Bool} (listed' : Array Bool) {a : Act} {L : Hp} (s : St ops m T listed) (hi : ops[i]? = some o) (hd : o.dst = d) (hB : okFirst ops m listed i = true) (hl : listed.setIfInBounds i true = listed') (hw : Region.wanted o (yielded ops a.tmps) = true)
    (hg : Gq P C o a v) (h : St ops m T listed' → HeadM P ops C w0 M m T f listed' (a.put d v) L) : HeadM P ops C w0 M m T (f + 1) listed a L := by
  subst hl hd
  exact head_take s hi hB (.inl ⟨hw, hg⟩) (h (s.set hB))
/-- The one operation that may come next, in whatever it does. -/
def okOne (ops : Array Oper) (m : Nat) (listed : Array Bool) (i : Nat) : Bool := decide (Region.ready .any ops listed = [i]) && decide (i < m)
theorem any_one {m f : Nat} {T : Array Bool → Act → Hp → Prop} (i : Nat) (d : Option Tmp) {o : Oper} {listed : Array Bool} (listed' : Array Bool) {a : Act} {L : Hp} {R : Value → Hp → Prop} (s : St ops m T listed) (hi : ops[i]? = some o) (hd : o.dst = d) (hB : okOne ops m listed i = true) (hl : listed.setIfInBounds i true = listed') (hw : Region.wanted o (yielded ops a.tmps) = true)
    (hC : ∀ u, Mem w0 M L u → C u) (hR : OutsM P o a w0 M L R) (h : ∀ v L', R v L' → St ops m T listed' → HeadM P ops C w0 M m T f listed' (a.put d v) L') : HeadM P ops C w0 M m T (f + 1) listed a L := by
  subst hl hd
  simp only [okOne, Bool.and_eq_true, decide_eq_true_eq] at hB
  have hin : i ∈ Region.ready .any ops listed := by rw [hB.1]; simp
  refine ⟨hC, fun h0 => (by rw [hB.1] at h0; cases h0), fun j hj => ?_⟩
  rw [hB.1] at hj
  obtain rfl : j = i := by simpa using hj
  refine ⟨hB.2, ?_⟩
  unfold stepM
  simp only [hi, hw, if_true]
  exact ⟨R, hR, fun v L' hr => h v L' hr ⟨s.cut, s.inv.set hin hB.2, s.tail⟩⟩
/-- One of several operations that may come next. -/
theorem step_one {i : Nat} (d : Option Tmp) {o : Oper} {a : Act} {L : Hp} {K : Act → Hp → Prop} {R : Value → Hp → Prop} (hi : ops[i]? = some o) (hd : o.dst = d) (hw : Region.wanted o (yielded ops a.tmps) = true)
    (hR : OutsM P o a w0 M L R) (h : ∀ v L', R v L' → K (a.put d v) L') : stepM P ops w0 M i K a L := by
  subst hd
  unfold stepM
  simp only [hi, hw, if_true]
  exact ⟨R, hR, h⟩
def okTwo (ops : Array Oper) (m : Nat) (listed : Array Bool) (i j : Nat) : Bool := decide (Region.ready .any ops listed = [i, j]) && decide (i < m) && decide (j < m)
theorem any_two {m f : Nat} {T : Array Bool → Act → Hp → Prop} (i j : Nat) {listed : Array Bool} (l1 l2 : Array Bool) {a : Act} {L : Hp} (s : St ops m T listed) (hB : okTwo ops m listed i j = true) (e1 : listed.setIfInBounds i true = l1) (e2 : listed.setIfInBounds j true = l2) (hC : ∀ u, Mem w0 M L u → C u)
    (h1 : St ops m T l1 → stepM P ops w0 M i (HeadM P ops C w0 M m T f l1) a L) (h2 : St ops m T l2 → stepM P ops w0 M j (HeadM P ops C w0 M m T f l2) a L) : HeadM P ops C w0 M m T (f + 1) listed a L := by
  subst e1 e2
  simp only [okTwo, Bool.and_eq_true, decide_eq_true_eq] at hB
  obtain ⟨⟨hr, hi⟩, hj⟩ := hB
  refine ⟨hC, fun h0 => (by rw [hr] at h0; cases h0), fun k hk => ?_⟩
  have hk' := hk
  rw [hr] at hk
  rcases (by simpa using hk : k = i ∨ k = j) with rfl | rfl
  · exact ⟨hi, h1 ⟨s.cut, s.inv.set hk' hi, s.tail⟩⟩
  · exact ⟨hj, h2 ⟨s.cut, s.inv.set hk' hj, s.tail⟩⟩
/-- The region itself: n: where the tail begins. -/
theorem region_any {id : Nat} {a : Act} {w : World} {L : Hp} {l : List Oper} (n len g : Nat) (HM : Mem w0 M L w) (hm : P.follows .mixedOrders = true) (hlen : l.length = len) (hg : n + g = len) (hcut : okCut l.toArray n = true)
    (h : St l.toArray n (Tail P l Q w0 M n g) (Array.replicate len false) → HeadM P l.toArray (Cl w0 M L) w0 M n (Tail P l Q w0 M n g) n (Array.replicate len false) a L) : (Code.region id l.toArray true).wp P Q a w := by
  subst hlen
  have hsz : l.toArray.size = l.length := by simp
  have s : St l.toArray n (Tail P l Q w0 M n g) (Array.replicate l.length false) :=
    ⟨hcut, ⟨by simp, fun j oj _ hl => (by rw [getD_replicate_false] at hl; cases hl), fun t _ ht => getD_in (by simpa using ht) (getD_replicate_false _ _)⟩, fun listed a L ht => seqB_ready ht.1⟩
  refine wp_region_any hm ?_
  have hd : (l.drop n).length = g := by simp; omega
  have := HeadM.any (g := g) (fun listed a L u hu (hT : Tail P l Q w0 M n g listed a L) => hT.any hd hu) _ _ _ _ _ HM.drew (h s)
  rw [hg] at this
  simpa using this
theorem any_tail {n g : Nat} {l : List Oper} {listed : Array Bool} {a : Act} {L : Hp} (hB : Region.seqB .any l.toArray g n listed = true) (hC : ∀ u, Mem w0 M L u → C u) (h : ∀ u, Mem w0 M L u → wpList P l.toArray Q (l.drop n) a u) : HeadM P l.toArray C w0 M n (Tail P l Q w0 M n g) 0 listed a L := ⟨hC, hB, h⟩
/-- A call of a Go function. -/
theorem outs_call {o : Oper} {a : Act} {u : World} {N : Value → World → Prop} (f : FuncId) (xs : Array Operand) (ats : Array TypeId) (ho : o.op = .call { callee := .value (.func f), args := xs, argTypes := ats }) {fn : Func} (hf : P.funcs[f]? = some fn) (hn : (fn.name == "runtime.NumGoroutine") = false) (hb : fn.body.isNone = false)
    (args : Array Value) (ha : xs.map a.eval = args) (h : Calls P f args u fun e w'' => ∃ v, e = .returned v ∧ N v w'') : Outs P o a u N := by
  subst ha
  have hx : execOp a.eval o = callFunc f (xs.map a.eval) := by
    unfold execOp
    rw [ho]
    show callFunc f (#[] ++ xs.map a.eval ++ #[]) = _
    simp
  have : (execOp a.eval o).run P u = .ok (.enter f (xs.map a.eval)) u := by
    rw [hx]
    have hn' : ¬ fn.name = "runtime.NumGoroutine" := by simpa using hn
    have hb' : ¬ fn.body = none := by intro e; rw [e] at hb; cases hb
    simp [callFunc, hf, hn', hb']
  unfold Outs
  simp only [this]
  exact h
theorem gq_call {o : Oper} {a : Act} {v : Value} (f : FuncId) (xs : Array Operand) (ats : Array TypeId) (ho : o.op = .call { callee := .value (.func f), args := xs, argTypes := ats }) {fn : Func} (hf : P.funcs[f]? = some fn) (hn : (fn.name == "runtime.NumGoroutine") = false) (hb : fn.body.isNone = false)
    (args : Array Value) (ha : xs.map a.eval = args) (h : ∀ w, Calls P f args w fun e w' => e = .returned v ∧ Below w.heap.size w w') : Gq P C o a v := fun w _ =>
  outs_call f xs ats ho hf hn hb args ha ((h w).mono fun _ _ ⟨he, hb⟩ => ⟨v, he, rfl, hb⟩)
/-- The same, the contract ahead of the arguments. -/
theorem gq_pure {o : Oper} {a : Act} {v : Value} (f : FuncId) (xs : List Operand) (ats : Array TypeId) (ho : o.op = .call { callee := .value (.func f), args := xs.toArray, argTypes := ats }) {fn : Func} (hf : P.funcs[f]? = some fn) (hn : (fn.name == "runtime.NumGoroutine") = false) (hb : fn.body.isNone = false)
    {as : List Value} (h : ∀ w, Calls P f as.toArray w fun e w' => e = .returned v ∧ Below w.heap.size w w') (ha : xs.map a.eval = as) : Gq P C o a v := gq_call f xs.toArray ats ho hf hn hb as.toArray (by rw [← ha]; simp) h
/-- A call that is handed blocks. -/
theorem outs_does {o : Oper} {a : Act} {L A R : Hp} {Rel : Value → Hp → Prop} (f : FuncId) (xs : List Operand) (ats : Array TypeId) (ho : o.op = .call { callee := .value (.func f), args := xs.toArray, argTypes := ats }) {fn : Func} (hf : P.funcs[f]? = some fn) (hn : (fn.name == "runtime.NumGoroutine") = false) (hb : fn.body.isNone = false)
    {as : List Value} (h : Does P f as.toArray A Rel) (ha : xs.map a.eval = as) (hp : L.Perm (A ++ R)) : OutsM P o a w0 M L fun v L' => ∃ L1, Rel v L1 ∧ L' = L1 ++ R := fun u hu =>
  outs_call f xs.toArray ats ho hf hn hb as.toArray (by rw [← ha]; simp) ((h.call hu hp).mono fun _ w' ⟨v, L1, he, hr, hm⟩ => ⟨v, he, L1 ++ R, ⟨L1, hr, rfl⟩, hm⟩)
end
end Go.Proofs.Ytndeaikmelpflaa.Mr
