/- Regions that draw their order: in a class of worlds, with a last operation behind all others. Over any program. -/
import Derived.Test.YtndeaikmelpflaaM
namespace Go.Proofs.Ytndeaikmelpflaa.Mq
open Go.RowKit Go.Proofs.Ytndeaikmelpflaa.G Go.Proofs.Ytndeaikmelpflaa.M
set_option linter.unusedVariables false
set_option linter.unusedSimpArgs false
section
variable {P : Program} {ops : Array Oper} {md : Region.Mode} {C : World → Prop}
/-- The first n operations in whatever order, each quiet in the class; then what T tells of the marks and the frame. -/
def HeadQ (P : Program) (md : Region.Mode) (ops : Array Oper) (C : World → Prop) (n : Nat) (T : Array Bool → Act → Prop) : Nat → Array Bool → Act → Prop
  | 0, listed, a => T listed a
  | f + 1, listed, a => Region.ready md ops listed ≠ [] ∧ ∀ i ∈ Region.ready md ops listed, i < n ∧ qOp P ops C i (HeadQ P md ops C n T f (listed.setIfInBounds i true)) a
theorem HeadQ.any {n g : Nat} {T : Array Bool → Act → Prop} {Q : Exit → Act → World → Prop} (hT : ∀ listed a w, C w → T listed a → wpAny P md ops Q g listed a w) :
    ∀ (f : Nat) (listed : Array Bool) (a : Act) (w : World), C w → HeadQ P md ops C n T f listed a → wpAny P md ops Q (f + g) listed a w
  | 0, listed, a, w, hw, h => by rw [Nat.zero_add]; exact hT _ _ _ hw h
  | f + 1, listed, a, w, hw, h => by
    rw [Nat.succ_add]
    exact ⟨fun h0 => absurd h0 h.1, fun i hi => wpOp_of_qOp hw (fun a' w' hw' h' => HeadQ.any hT f _ a' w' hw' h') (h.2 i hi).2⟩
theorem HeadQ.first {n i : Nat} {oi : Oper} {v : Value} {T : Array Bool → Act → Prop} (hi : ops[i]? = some oi) (hsel : ∀ (j : Nat) (o : Oper) cs b, ops[j]? = some o → o.op ≠ .select cs b)
    (hs : Region.sinkB md ops n = true) (hc : Region.chainB md ops n = true) (hn : n < ops.size) (hin : i < n) (hT : ∀ listed a, T listed a → ∀ j ∈ Region.ready md ops listed, n ≤ j) :
    ∀ (f : Nat) (listed : Array Bool) (a : Act), HeadInv md ops n listed →
      (∀ j oj, ops[j]? = some oj → j ≠ i → listed.getD j true = false → (∀ e ∈ oj.after, Region.binds md e = true → e.on ≠ i) → oi.apart ops oj = true) →
      i ∈ Region.ready md ops listed → YieldsIn P ops C oi v a →
      HeadQ P md ops C n T f (listed.setIfInBounds i true) (a.put oi.dst v) → HeadQ P md ops C n T (f + 1) listed a := by
  intro f
  induction f with
  | zero =>
    intro listed a inv _ hr hy H
    refine ⟨fun h => (by rw [h] at hr; cases hr), fun j hj => ?_⟩
    have hjn : j < n := Nat.lt_of_not_le fun h => tail_waits hs hc hn inv _ i rfl hin (mem_ready.1 hr).1 j h hj
    by_cases hji : j = i
    · subst hji; exact ⟨hjn, hy.qOp hi H⟩
    · exact absurd (hT _ _ H j (ready_mono hj hji)) (by omega)
  | succ f ih =>
    intro listed a inv hfree hr hy H
    refine ⟨fun h => (by rw [h] at hr; cases hr), fun j hj => ?_⟩
    have hun := (mem_ready.1 hr).1
    have hjn : j < n := Nat.lt_of_not_le fun h => tail_waits hs hc hn inv _ i rfl hin hun j h hj
    refine ⟨hjn, ?_⟩
    by_cases hji : j = i
    · subst hji; exact hy.qOp hi H
    · obtain ⟨hjun, oj, hoj, hall⟩ := mem_ready.1 hj
      have hnot : ∀ e ∈ oj.after, Region.binds md e = true → e.on ≠ i := fun e he hb heq => by
        have h1 := hall e he hb
        rw [heq, getD_both hun] at h1
        cases h1
      have h2 := qOp_put hoj (hfree j oj hoj hji hjun hnot) (fun cs b => hsel i oi cs b hi) (fun cs b => hsel j oj cs b hoj) hy (H.2 j (ready_mono hj hji)).2
      refine qOp_mono (fun a' h3 => ih (listed.setIfInBounds j true) a' (inv.set hj hjn) (fun k ok hk hki hu hno => hfree k ok hk hki ?_ hno) (ready_mono hr (Ne.symm hji)) h3.1 ?_) h2
      · by_cases hjk : j = k
        · subst hjk; exact hjun
        · rwa [getD_set_ne true hjk] at hu
      · rw [Array.setIfInBounds_comm _ _ hji]; exact h3.2
theorem HeadQ.lex {n g : Nat} {T : Act → Prop} (hsel : Region.noSelect ops = true) (hs : Region.sinkB md ops n = true) (hc : Region.chainB md ops n = true) (hn : n < ops.size) :
    ∀ (l : List Oper) (k : Nat) (listed : Array Bool) (a : Act), (∀ j, j < l.length → l[j]? = ops[k + j]?) → k + l.length = n → HeadInv md ops n listed →
    Region.lexHead md ops g l.length k listed = true → wpQuiet P ops C T l a →
    HeadQ P md ops C n (fun listed' a' => Region.seqB md ops g n listed' = true ∧ T a') l.length listed a
  | [], k, listed, a, _, hk, _, hB, h => by
    have : k = n := by simpa using hk
    subst this
    exact ⟨by simpa [Region.lexHead] using hB, h⟩
  | o :: l, k, listed, a, hl, hk, inv, hB, h => by
    have h0 : ops[k]? = some o := by simpa using (hl 0 (by simp)).symm
    simp only [List.length_cons, Region.lexHead, Bool.and_eq_true] at hB
    obtain ⟨⟨hr, hf⟩, hB'⟩ := hB
    have hkn : k < n := by simp only [List.length_cons] at hk; omega
    have hr' : k ∈ Region.ready md ops listed := by simpa using hr
    have hst : qOp P ops C k (wpQuiet P ops C T l) a := by unfold qOp; simp only [h0]; exact h
    obtain ⟨v, hy, hK⟩ := yieldsIn_of_qOp h0 hst
    refine HeadQ.first h0 (Region.noSelect_spec hsel) hs hc hn hkn (fun _ _ h => seqB_ready h.1) l.length listed a inv (Region.free_spec h0 hf) hr' hy ?_
    refine HeadQ.lex hsel hs hc hn l (k + 1) _ _ (fun j hj => ?_) (by simp only [List.length_cons] at hk; omega) (inv.set hr' hkn) hB' hK
    have := hl (j + 1) (by simp; omega)
    simpa [Nat.add_assoc, Nat.add_comm 1 j] using this
theorem region_tail {id : Nat} {Q : Exit → Act → World → Prop} {a : Act} {w : World} {l : List Oper} (n : Nat) (hm : P.follows .mixedOrders = true) (hB : Region.lexTailB .any l.toArray n = true) (h0 : C { w with drawn := w.drawn + 1 })
    (h : wpQuiet P l.toArray C (fun a' => ∀ u, C u → wpList P l.toArray Q (l.drop n) a' u) (l.take n) a) : (Code.region id l.toArray true).wp P Q a w := by
  simp only [Region.lexTailB, Bool.and_eq_true, decide_eq_true_eq] at hB
  obtain ⟨⟨⟨⟨hsel, hn⟩, hs⟩, hc⟩, hlex⟩ := hB
  have hn' : n < l.length := by simpa using hn
  have htl : (l.take n).length = n := by simp; omega
  have hdl : (l.drop n).length = l.toArray.size - n := by simp
  have inv0 : HeadInv .any l.toArray n (Array.replicate l.toArray.size false) :=
    ⟨by simp, fun j oj _ hl => (by rw [getD_replicate_false] at hl; cases hl), fun t _ ht => getD_in (by simpa using ht) (getD_replicate_false _ _)⟩
  have H := HeadQ.lex (md := .any) (g := l.toArray.size - n) hsel hs hc hn (l.take n) 0 _ a (fun j hj => by
    rw [htl] at hj
    simp [hj]) (by simpa using htl) inv0 (by rw [htl]; exact hlex) h
  refine wp_region_any hm ?_
  have := HeadQ.any (Q := Q) (g := l.toArray.size - n) (fun listed a' u hu hT => by
    have := wpAny_of_seq (md := .any) (Q' := Q) (l.drop n) n listed a' u (fun j => by simp [List.getElem?_drop]) (by rw [hdl]; exact hT.1) (hT.2 u hu)
    rwa [hdl] at this) _ _ _ _ h0 H
  rwa [htl, show n + (l.toArray.size - n) = l.toArray.size by omega] at this
end

section
variable {P : Program} {w0 : World} {M : List Nat} {L : Hp}
/-- The class of a drawn region: the blocks that are known stay. -/
abbrev Cl (w0 : World) (M : List Nat) (L : Hp) : World → Prop := fun u => ∃ x : WIn (Mem w0 M L), u = x.val
theorem region_m {id : Nat} {Q : Exit → Act → World → Prop} {a : Act} {w : World} {l : List Oper} (HM : Mem w0 M L w) (hm : P.follows .mixedOrders = true) (hB : Region.lexB .any l.toArray = true)
    (h : wpQuiet P l.toArray (Cl w0 M L) (fun a' => ∀ u, Mem w0 M L u → Q .normal a' u) l a) : (Code.region id l.toArray true).wp P Q a w :=
  wp_region_S (Mem w0 M L) hm hB HM.drew h
theorem wpQuiet_mono {P : Program} {ops : Array Oper} {C : World → Prop} {T T' : Act → Prop} (hT : ∀ a, T a → T' a) : ∀ (l : List Oper) (a : Act), wpQuiet P ops C T l a → wpQuiet P ops C T' l a
  | [], a, h => hT a h
  | o :: l, a, h => by
    unfold wpQuiet at h ⊢
    split
    · rename_i hw
      simp only [hw, if_true] at h
      exact Oper.quiet_mono (fun a' h' => wpQuiet_mono hT l a' h') h
    · rename_i hw
      simp only [hw] at h
      exact wpQuiet_mono hT l _ h
theorem region_tail_m {id : Nat} {Q : Exit → Act → World → Prop} {a : Act} {w : World} {l : List Oper} (n : Nat) (HM : Mem w0 M L w) (hm : P.follows .mixedOrders = true) (hB : Region.lexTailB .any l.toArray n = true)
    (h : wpQuiet P l.toArray (Cl w0 M L) (fun a' => ∀ u, Mem w0 M L u → wpList P l.toArray Q (l.drop n) a' u) (l.take n) a) : (Code.region id l.toArray true).wp P Q a w :=
  region_tail (C := Cl w0 M L) n hm hB ⟨⟨_, HM.drew⟩, rfl⟩ (wpQuiet_mono (fun a' h u ⟨x, hx⟩ => h u (hx ▸ x.prop)) _ _ h)
theorem qat_load (ty : TypeId) {ops : Array Oper} {C : World → Prop} {T : Act → Prop} {o : Oper} {rest : List Oper} {a : Act} {x : Operand} (h : o.op = .load ty x) (k : wpQuiet P ops C T (o :: rest) a) : wpQuiet P ops C T (o :: rest) a := k
theorem qlit_t {ops : Array Oper} {C : World → Prop} {T : Act → Prop} {o : Oper} {rest : List Oper} {a : Act} (h : Region.wanted o (yielded ops a.tmps) = true) (k : wpQuiet P ops C T (o :: rest) a) : wpQuiet P ops C T (o :: rest) a := k
theorem qlit_f {ops : Array Oper} {C : World → Prop} {T : Act → Prop} {o : Oper} {rest : List Oper} {a : Act} (h : Region.wanted o (yielded ops a.tmps) = false) (k : wpQuiet P ops C T (o :: rest) a) : wpQuiet P ops C T (o :: rest) a := k
theorem qsplit {ops : Array Oper} {C : World → Prop} {T : Act → Prop} {o : Oper} {rest : List Oper} {a : Act} {j : Nat} {want b : Bool} (hg : o.guard = some (j, want)) (hb : yielded ops a.tmps j = some b) (ht : b = true → wpQuiet P ops C T (o :: rest) a) (hf : b = false → wpQuiet P ops C T (o :: rest) a) : wpQuiet P ops C T (o :: rest) a := by
  cases b
  · exact hf rfl
  · exact ht rfl
theorem quiet_load_cell {o : Oper} {a : Act} {K : Act → Prop} (ty : TypeId) (x : Operand) (ho : o.op = .load ty x) (i : Nat) (g off : Nat) (t : TypeId) (cs : Array Value) (v : Value) (hi : L[i]? = some (g, row cs t)) (hx : a.eval x = .pointer (some ⟨g, off, none⟩))
    (hc : cs[off]? = some v) (hagg : aggB P ty = false) (hu : (P.underlying ty).isSome = true) (h : K (a.put o.dst v)) : o.quiet P a (Cl w0 M L) K := by
  refine ⟨v, ?_, h⟩
  rintro w ⟨y, rfl⟩
  unfold Oper.quietAt execOp
  simp only [ho, hx]
  have := run_load_cell (P := P) (W := y.val) (g := g) (off := off) hagg hu (v := v) (by rw [blk_cell (y.prop.get i hi)]; exact hc)
  simp [this, Oper.quietUpon]
theorem quiet_load_row {o : Oper} {a : Act} {K : Act → Prop} (ty : TypeId) (x : Operand) (ho : o.op = .load ty x) (i : Nat) (g : Nat) (t : TypeId) (cs : Array Value) (hi : L[i]? = some (g, row cs t)) (hx : a.eval x = .pointer (some ⟨g, 0, none⟩))
    (hagg : aggB P ty = true) (hs : sizB P ty cs.size = true) (h : K (a.put o.dst (.agg cs))) : o.quiet P a (Cl w0 M L) K := by
  refine ⟨.agg cs, ?_, h⟩
  rintro w ⟨y, rfl⟩
  unfold Oper.quietAt execOp
  unfold aggB at hagg
  split at hagg
  · rename_i d hd
    have := run_loadVar_row y.val g t ty cs (0, 0) _ (y.prop.get i hi) hd rfl (sizB_spec hs)
    simp [ho, hx, Instr.loadAt, Instr.sureAddr, this, Oper.quietUpon]
  · rename_i d hd
    have := run_loadVar_row y.val g t ty cs (0, 0) _ (y.prop.get i hi) hd rfl (sizB_spec hs)
    simp [ho, hx, Instr.loadAt, Instr.sureAddr, this, Oper.quietUpon]
  · cases hagg
theorem quiet_call_m {f : FuncId} {args : Array Value} {x : WIn (Mem w0 M L)} {v : Value} (h : Calls P f args x.val fun e w' => e = .returned v ∧ Below x.val.heap.size x.val w') :
    Calls P f args x.val fun e w' => e = .returned v ∧ ∃ y : WIn (Mem w0 M L), w' = y.val := quiet_below Mem.keeps h
end
end Go.Proofs.Ytndeaikmelpflaa.Mq
