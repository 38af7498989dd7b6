/- Slices of records: append of a whole slice, append of zeros that are made, an empty literal. Over any program. -/
import Derived.Test.YtndeaikmelpflaaLt
import Derived.Lib.AppendZeros
namespace Go.Proofs.Ytndeaikmelpflaa.Lu
open Go.RowKit Go.Proofs.Ytndeaikmelpflaa.G Go.Proofs.Ytndeaikmelpflaa.M Go.Proofs.Ytndeaikmelpflaa.Mv Go.Proofs.Ytndeaikmelpflaa.Sl Go.Proofs.Ytndeaikmelpflaa.Sm Go.Proofs.Ytndeaikmelpflaa.Sn Go.Proofs.Ytndeaikmelpflaa.Ls Go.Proofs.Ytndeaikmelpflaa.Lt
set_option linter.unusedVariables false
set_option linter.unusedSimpArgs false
set_option maxRecDepth 100000
section
variable {T : Type} {k : Nat} [Rec T k]
theorem Row.pushs {l : List T} {off : Nat} {cur : Array Value} (h : Row l off cur) (m : List T) (hfit : off + (l.length + m.length) * k ≤ cur.size) : Row (l ++ m) off (splice cur (off + l.length * k) (flat m)) := by
  have hf : off + l.length * k + (flat m).length ≤ cur.size := by rw [flat_length, Nat.add_assoc]; rw [Nat.add_mul] at hfit; exact hfit
  refine ⟨?_, ?_⟩
  · have e1 := splice_take cur (off + l.length * k) (flat m) hf
    have e2 := congrArg (List.drop off) e1
    rw [List.drop_take, List.drop_append_of_le_length (by simp; omega), List.drop_take] at e2
    rw [List.length_append, Nat.add_mul, flat_append, ← h.1]
    rw [flat_length] at e2
    rw [show off + l.length * k + m.length * k - off = l.length * k + m.length * k by omega, show off + l.length * k - off = l.length * k by omega] at e2
    exact e2
  · rw [splice_size _ _ _ hf, List.length_append]; exact hfit
/-- What is ahead of an element, as a slice of the same block. -/
theorem LV.fore {t : TypeId} {l : List T} {p : Option Addr} {A : Hp} (h : LV t l p A) {i : Nat} (hi : i ≤ l.length) : LV t (l.take i) p A := by
  rcases h with ⟨rfl, rfl, rfl⟩ | ⟨g, off, cur, rfl, hr, rfl⟩
  · exact .inl ⟨rfl, by simp, rfl⟩
  · exact .inr ⟨g, off, cur, rfl, hr.fore hi, rfl⟩
theorem LV.rest {t : TypeId} {l : List T} {p : Option Addr} {A : Hp} (h : LV t l p A) {i : Nat} (hi : i ≤ l.length) : LV t (l.drop i) (p.map (·.add (i * k))) A := by
  rcases h with ⟨rfl, rfl, rfl⟩ | ⟨g, off, cur, rfl, hr, rfl⟩
  · exact .inl ⟨rfl, by simp, rfl⟩
  · exact .inr ⟨g, off + i * k, cur, by simp only [Option.map_some, add_at], hr.drop hi, rfl⟩
variable {P : Program} {ops : Array Oper} {rest : List Oper} {o : Oper} {a : Act} {Q : Exit → Act → World → Prop} {W w0 : World} {M : List Nat} {R A : Hp}
/-- append of a slice of records onto a slice of one's own. -/
theorem outs_append_ls (s x : Operand) (t e : TypeId) (ho : o.op = .call { callee := .builtin .append, args := #[s, x], argTypes := #[t, t] }) (bytes : Nat) (hu : sliceB P t e = true) (hb : appB P e k bytes = true)
    (l : List T) (v : Value) (hl : LR e l v A) (hs : a.eval s = v) (p : Option Addr) (n c : Nat) (hx : a.eval x = .slice p n c) (m : List T) (hmn : m.length = n) (hp : p = none → m = [])
    (hcell : ∀ (u : World), Mem w0 M (R ++ A) u → ∀ ad, p = some ad → ∀ j v, (flat m)[j]? = some v → u.cell? (ad.add j) = some v)
    (hlen : l.length + n ≤ maxLen) (hby : (l.length + n) * bytes ≤ 140737488355328) :
    OutsM P o a w0 M (R ++ A) fun v' L' => ∃ A', LR e (l ++ m) v' A' ∧ L' = R ++ A' := by
  subst hmn
  intro u hm
  obtain ⟨ie, z, hie, hz, hsize, hbytes, hzs⟩ := appB_spec hb
  have hsl := sliceB_spec hu
  have hnl : (flat m).length = m.length * ie.size := by rw [flat_length, hsize]
  have h63 : (l.length + m.length : Nat) ≤ 9223372036854775807 := by simp only [maxLen] at hlen; omega
  subst hs
  have key : ∀ {v' : Value} {w1 : World}, (Builtin.append_ #[t, t] o.type #[a.eval s, .slice p m.length c]).run P u = .ok v' w1 → (∃ A', LR e (l ++ m) v' A' ∧ Mem w0 M (R ++ A') w1) → Outs P o a u fun v' u' => ∃ L', (∃ A', LR e (l ++ m) v' A' ∧ L' = R ++ A') ∧ Mem w0 M L' u' := by
    intro v' w1 hr ⟨A', h1, h2⟩
    refine outs_run (w1 := w1) (v := v') ?_ ⟨_, ⟨A', h1, rfl⟩, h2⟩
    unfold execOp
    simp only [ho, resolve, invoke, builtin, Sem.run_bind, Sem.run_pure, Result.andThen_ok, List.map_toArray, List.map_cons, List.map_nil, hx, hr]
  have hnew : ∀ (cur : Array Value) (w1 : World), w1 = u.drew.alloc (.cells cur e) → w1.heap[u.heap.size]? = some (row cur e) ∧ Below u.heap.size u w1 := fun cur w1 hw => by
    subst hw
    exact ⟨heap_alloc_new u.drew _, ((Below.refl u.heap.size u).drew).alloc (Nat.le_refl _) _⟩
  by_cases h0 : m = []
  · subst h0
    have hf : ∀ u : World, (Builtin.firstCells ie.size 0 (.slice p 0 c)).run P u = .ok #[] u := fun u => by
      cases p with
      | none => exact run_firstCells_none u _ _ _ _
      | some ad => exact run_firstCells_some u _ _ _ _ _ [] (by simp) (by simp)
    rw [List.append_nil] at key ⊢
    have hv : ∃ q n' c', a.eval s = .slice q n' c' ∧ n' ≤ c' := by
      obtain ⟨q, c', h1, h2⟩ := hl.val
      exact ⟨q, _, c', h1, h2⟩
    obtain ⟨q, n', c', hv, hle⟩ := hv
    have hr : (Builtin.append_ #[t, t] o.type #[a.eval s, .slice p ([] : List T).length c]).run P u = .ok (a.eval s) u := by
      rw [hv]
      cases q <;> simp [Builtin.append_, run_underlying hsl, sizeOf, typeInfo, hie, Builtin.lenOf, hle, hf, storeCells]
    exact key hr ⟨A, hl, hm⟩
  · have hpos : 0 < m.length := by
      cases m with
      | nil => exact absurd rfl h0
      | cons => simp
    obtain ⟨ad, rfl⟩ : ∃ ad, p = some ad := by
      cases p with
      | none => exact absurd (hp rfl) h0
      | some ad => exact ⟨ad, rfl⟩
    have hnews := hcell u hm ad rfl
    rcases hl with ⟨hv, rfl, rfl⟩ | ⟨g, off, cap, cur, hv, hn, hcm, hcs, hrow, rfl⟩
    · simp only [List.length_nil, Nat.zero_add] at h63 hby
      have hr := run_append_nil (P := P) u t o.type e ie z hsl hie hz ad m.length c (flat m) hnl hnews hpos (by omega) (by rw [hbytes]; omega)
      rw [← hv] at hr
      have hge := grownCap_ge u m.length 0 e
      have hcm := grownCap_le_maxLen u m.length 0 e (by simp only [maxLen]; omega)
      obtain ⟨h1, h2⟩ := hnew ((flat m).toArray ++ Builtin.zeroCells z.cells (grownCap u m.length 0 e - m.length)) _ rfl
      refine key hr ⟨_, .inr ⟨u.heap.size, 0, grownCap u m.length 0 e, ((flat m).toArray ++ Builtin.zeroCells z.cells (grownCap u m.length 0 e - m.length)), by simp, by simpa using hge, by simpa using hcm, ?_, Row.of_take0 ?_, rfl⟩, (hm.new (Nat.le_refl _) h1 h2).perm ?_⟩
      · simp only [Array.size_append, List.size_toArray, size_zeroCells, hzs, flat_length, Nat.zero_add]
        rw [← Nat.add_mul]
        congr 1; omega
      · simp only [List.nil_append, Array.toList_append]
        exact List.take_left' (flat_length m)
      · simpa using (List.perm_append_comm (l₁ := [(u.heap.size, _)]) (l₂ := R))
    · have hg : u.heap[g]? = some (row cur e) := hm.has.right.get 0 rfl
      by_cases hroom : l.length + m.length ≤ cap
      · have hfit : off * k + l.length * k + (flat m).length ≤ cur.size := by
          rw [flat_length, hcs, ← Nat.add_mul, ← Nat.add_mul]
          exact Nat.mul_le_mul_right k (by omega)
        have hr : (Builtin.append_ #[t, t] o.type #[a.eval s, .slice (some ad) m.length c]).run P u = .ok (.slice (some ⟨g, off * k, none⟩) (l.length + m.length) cap) (u.setRow g (splice cur (off * k + l.length * k) (flat m))) := by
          have hf := run_firstCells_some (P := P) u ie.size m.length ad m.length c (flat m) hnl hnews
          have hst := run_storeCells_at P g (off * k + l.length * k) e (flat m) 0 cur u hg (by simpa using hfit) (flat_one' m)
          simp only [Nat.add_zero] at hst
          rw [hsize] at hf
          simp [hv, Builtin.append_, run_underlying hsl, sizeOf, typeInfo, hie, Builtin.lenOf, hroom, hf, add_at, hst, hsize, splice]
        refine key hr ⟨_, .inr ⟨g, off, cap, _, by simp, by simpa using hroom, hcm, ?_, Row.pushs hrow m ?_, rfl⟩, ?_⟩
        · rw [splice_size _ _ _ hfit, hcs]
        · rw [hcs, ← Nat.add_mul]; exact Nat.mul_le_mul_right k (by omega)
        · have hp : (R ++ [(g, row cur e)]).Perm ((g, row cur e) :: R) := List.perm_append_comm
          have := (hm.perm hp).turn (g := g) (o' := row (splice cur (off * k + l.length * k) (flat m)) e) 0 rfl (setRow_heap u g cur _ e _ hg) (Mod1.row u g _)
          exact this.perm (by simpa using (List.perm_append_comm (l₁ := [(g, _)]) (l₂ := R)))
      · have holds : ∀ j v, (flat l)[j]? = some v → u.cell? ((⟨g, off * k, none⟩ : Addr).add j) = some v := fun j v hj => by
          rw [add_at, blk_cell hg]; exact hrow.cells hj
        have hfl : (flat l).length = l.length * ie.size := by rw [flat_length, hsize]
        have hr := run_append_grow (P := P) u t o.type e ie z hsl hie hz ⟨g, off * k, none⟩ l.length cap (flat l) hfl holds ad m.length c (flat m) hnl hnews (by omega) (by omega) (by rw [hbytes]; exact growslice_fits (by omega) hby)
        rw [← hv] at hr
        have hge := grownCap_ge u (l.length + m.length) cap e
        have hcm := grownCap_le_maxLen u (l.length + m.length) cap e (by omega)
        obtain ⟨h1, h2⟩ := hnew ((flat l).toArray ++ (flat m).toArray ++ Builtin.zeroCells z.cells (grownCap u (l.length + m.length) cap e - (l.length + m.length))) _ rfl
        refine key hr ⟨_, .inr ⟨u.heap.size, 0, grownCap u (l.length + m.length) cap e, ((flat l).toArray ++ (flat m).toArray ++ Builtin.zeroCells z.cells (grownCap u (l.length + m.length) cap e - (l.length + m.length))), by simp, by simpa using hge, by simpa using hcm, ?_, Row.of_take0 ?_, rfl⟩, ((hm.take.new (Nat.le_refl _) h1 h2).perm ?_)⟩
        · simp only [Array.size_append, List.size_toArray, size_zeroCells, hzs, flat_length, Nat.zero_add]
          rw [← Nat.add_mul, ← Nat.add_mul]
          congr 1; omega
        · rw [List.length_append, flat_append]
          simp only [Array.toList_append]
          exact List.take_left' (by rw [List.length_append, flat_length, flat_length, Nat.add_mul])
        · simpa using (List.perm_append_comm (l₁ := [(u.heap.size, _)]) (l₂ := R))
theorem append_ls_m (HM : Mem w0 M (R ++ A) W) (hw : Region.wanted o (yielded ops a.tmps) = true) {N : Tmp} (hd : o.dst = some N) (s x : Operand) (t e : TypeId) (ho : o.op = .call { callee := .builtin .append, args := #[s, x], argTypes := #[t, t] }) (bytes : Nat) (hu : sliceB P t e = true) (hb : appB P e k bytes = true)
    (l : List T) (v : Value) (hl : LR e l v A) (hs : a.eval s = v) (p : Option Addr) (n c : Nat) (hx : a.eval x = .slice p n c) (m : List T) (hmn : m.length = n) (hp : p = none → m = [])
    (hcell : ∀ (u : World), Mem w0 M (R ++ A) u → ∀ ad, p = some ad → ∀ j v, (flat m)[j]? = some v → u.cell? (ad.add j) = some v)
    (hlen : l.length + n ≤ maxLen) (hby : (l.length + n) * bytes ≤ 140737488355328)
    (h : ∀ v' A' w1, LR e (l ++ m) v' A' → Mem w0 M (R ++ A') w1 → wpList P ops Q rest (a.put (some N) v') w1) : wpList P ops Q (o :: rest) a W :=
  (outs_append_ls s x t e ho bytes hu hb l v hl hs p n c hx m hmn hp hcell hlen hby W HM).ev hw fun v' w1 ⟨_, ⟨A', h1, hl'⟩, hm⟩ => by
    subst hl'; rw [hd]; exact h v' A' w1 h1 hm
/-- The same, the slice is shown. -/
theorem append_ls2_m (HM : Mem w0 M (R ++ A) W) (hw : Region.wanted o (yielded ops a.tmps) = true) {N : Tmp} (hd : o.dst = some N) (s x : Operand) (t e : TypeId) (ho : o.op = .call { callee := .builtin .append, args := #[s, x], argTypes := #[t, t] }) (bytes : Nat) (hu : sliceB P t e = true) (hb : appB P e k bytes = true)
    (l : List T) (v : Value) (hl : LR e l v A) (hs : a.eval s = v) (p : Option Addr) (n c : Nat) (hx : a.eval x = .slice p n c) (m : List T) (hmn : m.length = n) (hp : p = none → m = [])
    (hcell : ∀ (u : World), Mem w0 M (R ++ A) u → ∀ ad, p = some ad → ∀ j v, (flat m)[j]? = some v → u.cell? (ad.add j) = some v)
    (z : Nat) (hz : l.length + n = z) (hlen : z ≤ maxLen) (hby : z * bytes ≤ 140737488355328)
    (h : ∀ p' c' A' w1, z ≤ c' → LR e (l ++ m) (.slice p' z c') A' → Mem w0 M (R ++ A') w1 → wpList P ops Q rest (a.put (some N) (.slice p' z c')) w1) : wpList P ops Q (o :: rest) a W := by
  subst hz
  refine append_ls_m HM hw hd s x t e ho bytes hu hb l v hl hs p n c hx m hmn hp hcell hlen hby fun v' A' w1 h1 h2 => ?_
  obtain ⟨p', c', rfl, h4, -⟩ := h1.read
  rw [List.length_append, hmn] at h1 h4 ⊢
  exact h p' c' A' w1 h4 h1 h2
theorem append_lr2_m (HM : Mem w0 M (R ++ A) W) (hw : Region.wanted o (yielded ops a.tmps) = true) {N : Tmp} (hd : o.dst = some N) (s x : Operand) (t e : TypeId) (ho : o.op = .call { callee := .builtin .append, args := #[s, x], argTypes := #[t, t] }) (bytes : Nat) (hu : sliceB P t e = true) (hb : appB P e k bytes = true)
    (l : List T) (v : Value) (hl : LR e l v A) (hs : a.eval s = v) (y : T) (j gb : Nat) (hj : R[j]? = some (gb, row (Rec.cells y) e)) (hx : a.eval x = .slice (some ⟨gb, 0, none⟩) 1 1)
    (z : Nat) (hz : l.length + 1 = z) (hlen : z ≤ maxLen) (hby : z * bytes ≤ 140737488355328)
    (h : ∀ p' c' A' w1, z ≤ c' → LR e (l ++ [y]) (.slice p' z c') A' → Mem w0 M (R ++ A') w1 → wpList P ops Q rest (a.put (some N) (.slice p' z c')) w1) : wpList P ops Q (o :: rest) a W := by
  subst hz
  refine append_lr_m HM hw hd s x t e ho bytes hu hb l v hl hs y j gb hj hx hlen hby fun v' A' w1 h1 h2 => ?_
  obtain ⟨p', c', rfl, h4, -⟩ := h1.read
  rw [List.length_append, List.length_singleton] at h1 h4 ⊢
  exact h p' c' A' w1 h4 h1 h2
/-- append onto nothing of zeros that are made: a block of so many. -/
theorem outs_append_zeros {L : Hp} (s x : Operand) (t tn e : TypeId) (ho : o.op = .call { callee := .builtin .append, args := #[s, x], argTypes := #[t, tn] }) (bytes : Nat) (hu : sliceB P t e = true) (hb : appB P e k bytes = true) (kn : IntKind) (htn : P.underlying tn = some (.int kn))
    (hk : 0 < k) (hs : a.eval s = .slice none 0 0) (n : Nat) (h0 : 0 < n) (hx : a.eval x = .int .i64 n) (hlen : n ≤ maxLen) (hby : n * bytes ≤ 140737488355328) :
    OutsM P o a w0 M L fun v' L' => ∃ g cap cur, v' = .slice (some ⟨g, 0, none⟩) n cap ∧ n ≤ cap ∧ cap ≤ maxLen ∧ cur.size = cap * k ∧ L' = (g, row cur e) :: L := by
  intro u hm
  obtain ⟨ie, z, hie, hz, hsize, hbytes, hzs⟩ := appB_spec hb
  have hr := Lib.run_append_nil_zeros (P := P) u t tn o.type e ie z .i64 kn (sliceB_spec hu) htn hie hz n h0 (by rw [hsize]; exact hk) (by simp only [maxLen] at hlen; omega) (by rw [hbytes]; omega)
  have hge := grownCap_ge u n 0 e
  have hcm := grownCap_le_maxLen u n 0 e (by simp only [maxLen] at hlen ⊢; omega)
  have h1 : (u.drew.alloc (.cells (Builtin.zeroCells z.cells n ++ Builtin.zeroCells z.cells (grownCap u n 0 e - n)) e)).heap[u.heap.size]? = some (row (Builtin.zeroCells z.cells n ++ Builtin.zeroCells z.cells (grownCap u n 0 e - n)) e) := heap_alloc_new u.drew _
  have h2 : Below u.heap.size u (u.drew.alloc (.cells (Builtin.zeroCells z.cells n ++ Builtin.zeroCells z.cells (grownCap u n 0 e - n)) e)) := ((Below.refl u.heap.size u).drew).alloc (Nat.le_refl _) _
  refine outs_run (w1 := _) (v := _) ?_ ⟨_, ⟨u.heap.size, grownCap u n 0 e, _, rfl, by simpa using hge, by simpa using hcm, ?_, rfl⟩, hm.new (Nat.le_refl _) h1 h2⟩
  · unfold execOp
    simp only [ho, resolve, invoke, builtin, Sem.run_bind, Sem.run_pure, Result.andThen_ok, List.map_toArray, List.map_cons, List.map_nil, hs, hx, hr]
  · simp only [Array.size_append, size_zeroCells, hzs]
    rw [← Nat.add_mul]
    congr 1; omega
theorem append_zeros_m {L : Hp} (HM : Mem w0 M L W) (hw : Region.wanted o (yielded ops a.tmps) = true) {N : Tmp} (hd : o.dst = some N) (s x : Operand) (t tn e : TypeId) (ho : o.op = .call { callee := .builtin .append, args := #[s, x], argTypes := #[t, tn] }) (bytes : Nat) (hu : sliceB P t e = true) (hb : appB P e k bytes = true) (kn : IntKind) (htn : P.underlying tn = some (.int kn))
    (hk : 0 < k) (hs : a.eval s = .slice none 0 0) (n : Nat) (h0 : 0 < n) (hx : a.eval x = .int .i64 n) (hlen : n ≤ maxLen) (hby : n * bytes ≤ 140737488355328)
    (h : ∀ g cap cur w1, n ≤ cap → cap ≤ maxLen → cur.size = cap * k → Mem w0 M ((g, row cur e) :: L) w1 → wpList P ops Q rest (a.put (some N) (.slice (some ⟨g, 0, none⟩) n cap)) w1) : wpList P ops Q (o :: rest) a W :=
  (outs_append_zeros s x t tn e ho bytes hu hb kn htn hk hs n h0 hx hlen hby W HM).ev hw fun v' w1 ⟨_, ⟨g, cap, cur, hv, e1, e2, e3, hl'⟩, hm⟩ => by
    subst hv hl'; rw [hd]; exact h g cap cur w1 e1 e2 e3 hm
/-- A block of records that has none yet. -/
theorem LR.room {e : TypeId} {g cap : Nat} {cur : Array Value} (h : cap ≤ maxLen) (hs : cur.size = cap * k) : LR (T := T) e [] (.slice (some ⟨g, 0, none⟩) 0 cap) [(g, row cur e)] :=
  .inr ⟨g, 0, cap, cur, by simp, by simp, by simpa using h, by simpa using hs, Row.nil _ _ (by simp), rfl⟩
/-- What is behind an element, wherever the slice's pointer stands. -/
theorem LV.cut {t : TypeId} {l : List T} {p : Option Addr} {A : Hp} (h : LV t l p A) {i c : Nat} (hi : i ≤ l.length) (hc : l.length ≤ c) : LV t (l.drop i) (if c = i then p else p.map (·.add (i * k))) A := by
  by_cases he : c = i
  · rw [if_pos he]
    have hz : l.drop i = l.take 0 := by rw [List.drop_of_length_le (by omega)]; simp
    rw [hz]
    exact LV.fore h (Nat.zero_le _)
  · rw [if_neg he]
    exact LV.rest h hi
theorem fore_ptr (c : Nat) (p : Option Addr) (s : Nat) : (if c = 0 then p else p.map (·.add (0 * s))) = p := by
  split
  · rfl
  · cases p with
    | none => rfl
    | some a => simp only [Nat.zero_mul, Option.map_some]; congr 1
end
end Go.Proofs.Ytndeaikmelpflaa.Lu
