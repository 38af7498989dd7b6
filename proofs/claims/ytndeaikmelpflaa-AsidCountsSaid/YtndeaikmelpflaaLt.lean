/- Slices of records: slice expressions, the rest of a slice. Over any program. -/
import Derived.Test.YtndeaikmelpflaaLs
import Derived.Lib.SliceRun
namespace Go.Proofs.Ytndeaikmelpflaa.Lt
open Go.RowKit Go.Proofs.Ytndeaikmelpflaa.G Go.Proofs.Ytndeaikmelpflaa.M Go.Proofs.Ytndeaikmelpflaa.Mv Go.Proofs.Ytndeaikmelpflaa.Sl Go.Proofs.Ytndeaikmelpflaa.Sm Go.Proofs.Ytndeaikmelpflaa.Sn Go.Proofs.Ytndeaikmelpflaa.Ls
set_option linter.unusedVariables false
set_option linter.unusedSimpArgs false
set_option maxRecDepth 100000
section
variable {P : Program} {ops : Array Oper} {rest : List Oper} {o : Oper} {a : Act} {Q : Exit → Act → World → Prop} {W w0 : World} {M : List Nat} {L : Hp}
theorem run_sliceE {ty e : TypeId} {s : Nat} (hu : sliceB P ty e = true) (hs : sizB P e s = true) (p : Option Addr) (n cap : Nat) (low high max : Option Value) (l h m : Nat)
    (hm : (max = none ∧ m = cap) ∨ (∃ k, max = some (.int k (m : Int)) ∧ m ≤ cap)) (hh : (high = none ∧ max = none ∧ h = n) ∨ (∃ k, high = some (.int k (h : Int)) ∧ h ≤ m)) (hl : (low = none ∧ l = 0) ∨ (∃ k, low = some (.int k (l : Int)) ∧ l ≤ h)) :
    (Instr.slice ty (.slice p n cap) low high max).run P W = .ok (.slice (if m = l then p else p.map (·.add (l * s))) (h - l) (m - l)) W := by
  have hq : (underlying ty).run P W = .ok (.slice e) W := run_underlying (sliceB_spec hu) W
  have hsz : (sizeOf e).run P W = .ok s W := by
    have := sizB_spec hs
    cases hq : P.info? e with
    | none => simp [hq] at this
    | some i => simp [hq] at this; simp [sizeOf, typeInfo, hq, this]
  rcases hm with ⟨rfl, rfl⟩ | ⟨k1, rfl, hm⟩ <;> rcases hh with ⟨rfl, h0, rfl⟩ | ⟨k2, rfl, hh⟩ <;> rcases hl with ⟨rfl, rfl⟩ | ⟨k3, rfl, hl⟩ <;>
    first
    | (cases h0; done)
    | simp [Instr.slice, Instr.sliceBounds, Instr.sliceBound, asIntOf, hq, hsz, *]
theorem slice_m (hw : Region.wanted o (yielded ops a.tmps) = true) (d : Tmp) (hd : o.dst = some d) (ty e : TypeId) {x : Operand} {lo hi mx : Option Operand} (ho : o.op = .slice ty x lo hi mx) (hu : sliceB P ty e = true) (s : Nat) (hs : sizB P e s = true) (p : Option Addr) (n cap : Nat) (hx : a.eval x = .slice p n cap) (l h m : Nat)
    (hm : (mx.map a.eval = none ∧ m = cap) ∨ (∃ k, mx.map a.eval = some (.int k (m : Int)) ∧ m ≤ cap)) (hh : (hi.map a.eval = none ∧ mx.map a.eval = none ∧ h = n) ∨ (∃ k, hi.map a.eval = some (.int k (h : Int)) ∧ h ≤ m)) (hl : (lo.map a.eval = none ∧ l = 0) ∨ (∃ k, lo.map a.eval = some (.int k (l : Int)) ∧ l ≤ h))
    (r : Value) (hr : .slice (if m = l then p else p.map (·.add (l * s))) (h - l) (m - l) = r)
    (k : wpList P ops Q rest (a.put (some d) r) W) : wpList P ops Q (o :: rest) a W :=
  (outs_run (N := fun v w => v = r ∧ w = W) (w1 := W) (v := r) (by
    unfold execOp
    simp only [ho, hx]
    simp [Instr.sliceAt, run_underlying (P := P) (sliceB_spec hu) W, run_sliceE hu hs p n cap _ _ _ l h m hm hh hl, hr]) ⟨rfl, rfl⟩).ev hw fun _ _ ⟨e1, e2⟩ => by
    subst e1 e2; rw [hd]; exact k
theorem at_slice (ty : TypeId) {x : Operand} {lo hi mx : Option Operand} (h : o.op = .slice ty x lo hi mx) (k : wpList P ops Q (o :: rest) a W) : wpList P ops Q (o :: rest) a W := k
end
section
variable {P : Program} {ops : Array Oper} {o : Oper} {a : Act} {w0 : World} {M : List Nat} {L : Hp}
theorem quiet_slice {K : Act → Prop} (ty e : TypeId) {x : Operand} {lo hi mx : Option Operand} (ho : o.op = .slice ty x lo hi mx) (hu : sliceB P ty e = true) (s : Nat) (hs : sizB P e s = true) (p : Option Addr) (n cap : Nat) (hx : a.eval x = .slice p n cap) (l h m : Nat)
    (hm : (mx.map a.eval = none ∧ m = cap) ∨ (∃ k, mx.map a.eval = some (.int k (m : Int)) ∧ m ≤ cap)) (hh : (hi.map a.eval = none ∧ mx.map a.eval = none ∧ h = n) ∨ (∃ k, hi.map a.eval = some (.int k (h : Int)) ∧ h ≤ m)) (hl : (lo.map a.eval = none ∧ l = 0) ∨ (∃ k, lo.map a.eval = some (.int k (l : Int)) ∧ l ≤ h))
    (r : Value) (hr : .slice (if m = l then p else p.map (·.add (l * s))) (h - l) (m - l) = r) (k : K (a.put o.dst r)) : o.quiet P a (Mq.Cl w0 M L) K :=
  quiet_run _ (fun u hm' => by
    unfold execOp
    simp only [ho, hx]
    simp [Instr.sliceAt, run_underlying (P := P) (sliceB_spec hu) u, run_sliceE hu hs p n cap _ _ _ l h m hm hh hl, hr]) k
theorem qat_slice (ty : TypeId) {x : Operand} {lo hi mx : Option Operand} {C : World → Prop} {T : Act → Prop} {rest : List Oper} (h : o.op = .slice ty x lo hi mx) (k : wpQuiet P ops C T (o :: rest) a) : wpQuiet P ops C T (o :: rest) a := k
end
section
variable {T : Type} {k : Nat} [Rec T k]
/-- What is left of a list, from an element on. -/
theorem LR.rest {t : TypeId} {l : List T} {v : Value} {A : Hp} (h : LR t l v A) {i : Nat} (hi : i < l.length) :
    ∃ p c, v = .slice p l.length c ∧ i < c ∧ l.length ≤ c ∧ LR t (l.drop i) (.slice (if c = i then p else p.map (·.add (i * k))) (l.length - i) (c - i)) A := by
  rcases h with ⟨rfl, rfl, rfl⟩ | ⟨g, o, cap, cur, rfl, h1, h2, h3, h4, rfl⟩
  · simp at hi
  · refine ⟨_, cap, rfl, by omega, h1, .inr ⟨g, o + i, cap - i, cur, ?_, ?_, by omega, ?_, ?_, rfl⟩⟩
    · rw [if_neg (by omega)]
      simp only [Option.map_some, add_at, List.length_drop, Nat.add_mul]
    · rw [List.length_drop]; omega
    · rw [h3]; congr 1; omega
    · have := h4.drop (i := i) (by omega)
      rwa [← Nat.add_mul] at this
/-- What is ahead of an element. -/
theorem LV.row {t : TypeId} {l : List T} {p : Option Addr} {A : Hp} (h : LV t l p A) {u : World} (hu : Has A u) : ∀ a, p = some a → ∀ j v, (flat l)[j]? = some v → u.cell? (a.add j) = some v := by
  rcases h with ⟨rfl, rfl, rfl⟩ | ⟨g, off, cur, rfl, hr, rfl⟩
  · intro a h; cases h
  · rintro a ⟨⟩ j v hj
    rw [add_at, blk_cell (hu.get 0 rfl)]
    exact hr.cells hj
end
section
variable {T : Type} {k : Nat} [Rec T k]
variable {P : Program} {ops : Array Oper} {o : Oper} {a : Act} {w0 : World} {M : List Nat} {R A : Hp}
/-- append of one record: the slice is shown. -/
theorem outs_append_lr2 (s x : Operand) (t e : TypeId) (ho : o.op = .call { callee := .builtin .append, args := #[s, x], argTypes := #[t, t] }) (bytes : Nat) (hu : sliceB P t e = true) (hb : appB P e k bytes = true)
    (l : List T) (v : Value) (hl : LR e l v A) (hs : a.eval s = v) (y : T) (j gb : Nat) (hj : R[j]? = some (gb, row (Rec.cells y) e)) (hx : a.eval x = .slice (some ⟨gb, 0, none⟩) 1 1) (n : Nat) (hn : l.length + 1 = n)
    (hlen : n ≤ maxLen) (hby : n * bytes ≤ 140737488355328) :
    OutsM P o a w0 M (R ++ A) fun v' L' => ∃ p c A', v' = .slice p n c ∧ n ≤ c ∧ LR e (l ++ [y]) (.slice p n c) A' ∧ L' = R ++ A' := by
  subst hn
  exact fun u hm => (outs_append_lr s x t e ho bytes hu hb l v hl hs y j gb hj hx hlen hby u hm).mono fun v' w ⟨L', ⟨A', h1, h2⟩, h3⟩ => by
    obtain ⟨p, c, rfl, h4, -⟩ := h1.read
    simp only [List.length_append, List.length_singleton] at h1 h4 ⊢
    exact ⟨L', ⟨p, c, A', rfl, h4, h1, h2⟩, h3⟩
end
section
variable {P : Program} {ops : Array Oper} {rest : List Oper} {o : Oper} {a : Act} {Q : Exit → Act → World → Prop} {W w0 : World} {M : List Nat} {L : Hp}
/-- A struct's load, its cells known now. -/
theorem load_now_m (hw : Region.wanted o (yielded ops a.tmps) = true) (ty : TypeId) (x : Operand) (ho : o.op = .load ty x) (p : Addr) (hx : a.eval x = .pointer (some p)) (cs : Array Value) (hc : ∀ j v, cs.toList[j]? = some v → W.cell? (p.add j) = some v) (hagg : aggB P ty = true) (hs : sizB P ty cs.size = true)
    (h : wpList P ops Q rest (a.put o.dst (.agg cs)) W) : wpList P ops Q (o :: rest) a W :=
  (outs_run (N := fun v' w => v' = .agg cs ∧ w = W) (w1 := W) (v := .agg cs) (by unfold execOp; simp only [ho, hx]; simp [run_load_struct hagg hs hc]) ⟨rfl, rfl⟩).ev hw fun _ _ ⟨e1, e2⟩ => by subst e1 e2; exact h
end
end Go.Proofs.Ytndeaikmelpflaa.Lt
