/- A range over a function, over the memory fact. Over any program. -/
import Derived.Test.YtndeaikmelpflaaM
import Derived.RangeFuncFrom
import Derived.RangeFuncLeaves
import Derived.RangeFuncCalls
import Derived.RangeFuncBound
import Derived.Shelf.Abstract
import Derived.TacticsIn
namespace Go.Proofs.Ytndeaikmelpflaa.Ba
open Go.RowKit Go.Proofs.Ytndeaikmelpflaa.G Go.Proofs.Ytndeaikmelpflaa.M
set_option linter.unusedVariables false
set_option linter.unusedSimpArgs false
variable {P : Program}
theorem has_grown {L : Hp} {W W' : World} {rw_ : Option Nat} (h : Has L W) (hg : W.grownBy W' rw_) (hr : ∀ r, rw_ = some r → r ∉ L.map (·.1)) : Has L W' :=
  ⟨fun p hp => (hg.block p.1 (h.lt hp) (fun e => hr _ e.symm (List.mem_map_of_mem hp))).trans (h.blk p hp), h.one⟩
theorem mem_grown {w0 : World} {M : List Nat} {L : Hp} {W W' : World} {rw_ : Option Nat} (h : Mem w0 M L W) (hg : W.grownBy W' rw_) (hr : ∀ r, rw_ = some r → w0.heap.size ≤ r ∧ r ∉ L.map (·.1)) : Mem w0 M L W' :=
  ⟨hg.os.trans h.os, hg.tape.trans h.tape, hg.output.trans h.output, Nat.le_trans h.size hg.size,
    fun k hk hM => (hg.block k (Nat.lt_of_lt_of_le hk h.size) (fun e => by have := (hr _ e.symm).1; omega)).trans (h.old k hk hM),
    has_grown h.has hg (fun r e => (hr r e).2), h.own⟩
theorem below_grown {W W' : World} (h : Below W.heap.size W W') : W.grownBy W' none := ⟨h.os, h.tape, h.output, h.size, fun k hk _ => h.block k hk⟩
/-- What an iterator asks of a round: these blocks lie as they lay. -/
def KpR (R : Hp) (A B : World) : Prop := Has R A → Has R B
def still (o : Obj) : Prop := o.isCells = true ∨ o.isWalk = true
/-- How a round's body may be left. -/
def rpost (W : World) (B : Hp) (I Ix : Hp → Prop) : Exit → Act → World → Prop
  | .normal, _, W' => ∃ B', I B' ∧ Mem W (B.map (·.1)) B' W'
  | .ret, _, W' => ∃ B', Ix B' ∧ Mem W (B.map (·.1)) B' W'
  | _, _, _ => False
theorem keeps_of {W W' : World} {B B' : Hp} (hB : Has B W) (hc : ∀ p ∈ B, p.2.isCells = true) (h : Mem W (B.map (·.1)) B' W') : KeepsOthers W W' :=
  ⟨h.size, fun k o hk ho => (h.old k (Array.getElem?_eq_some_iff.1 hk).1 (fun hm => by
    obtain ⟨p, hp, rfl⟩ := List.mem_map.1 hm
    have := hB.blk p hp
    rw [hk] at this
    cases this
    rw [hc p hp] at ho
    cases ho)).trans hk⟩
theorem has_out {W W' : World} {B B' R0 R : Hp} (hsub : ∀ p ∈ R, p ∈ R0) (h0 : Has (B ++ R0) W) (h : Mem W (B.map (·.1)) B' W') (hR : Has R W) : Has R W' :=
  ⟨fun p hp => (h.old p.1 (h0.right.lt (hsub p hp)) (fun hm => h0.apart hm (List.mem_map_of_mem (hsub p hp)))).trans (hR.blk p hp), hR.one⟩
theorem with_mark {w0 : World} {M : List Nat} {B R0 : Hp} {W : World} {D : Nat} (h : Mem w0 M (B ++ R0) W) (hc : ∀ p ∈ B, p.2.isCells = true) (hlt : ∀ p ∈ R0, p.1 < D) (hD : w0.heap.size ≤ D) (hK : W.heap[D]? = some (.deferred (some []))) : Mem w0 M ((D, .deferred (some [])) :: (B ++ R0)) W :=
  have hn : D ∉ (B ++ R0).map (·.1) := fun hm => by
    obtain ⟨p, hp, e⟩ := List.mem_map.1 hm
    rcases List.mem_append.1 hp with hp' | hp'
    · have := h.has.blk p hp
      rw [e, hK] at this
      have h2 := hc p hp'
      rw [← Option.some.inj this] at h2
      cases h2
    · have := hlt p hp'
      omega
  have ho : ∀ p ∈ (D, Obj.deferred (some [])) :: (B ++ R0), p.1 ∈ M ∨ w0.heap.size ≤ p.1 := fun p hp => by
    rcases List.mem_cons.1 hp with e | hp
    · subst e; exact .inr hD
    · exact h.own p hp
  ⟨h.os, h.tape, h.output, h.size, h.old, h.has.cons hK hn, ho⟩
/-- The same, and no map and no walk over one has turned. -/
def KpW (R : Hp) (A B : World) : Prop := KeepsWalks A B ∧ KpR R A B
theorem walks_of {A B : World} (h : KeepsOthers A B) : KeepsWalks A B := ⟨h.size, fun k o hk hw => h.same k o hk (by cases o <;> first | rfl | cases hw)⟩
theorem stops_w {α : Type} {F : Fence} {n : Nat} {g : Nat} {lb : Array Value} {encs : α → Array Value} {R : Hp} {S Sp : List α → Prop} {N : Nat} {w : World} (h : SeqStopsK F n P g lb encs (KpR R) S Sp N w) : SeqStopsK F n P g lb encs (KpW R) S Sp N w :=
  fun l J Jx W hW hJ hJx hY h0 => h l J Jx W hW hJ hJx (fun pre x W1 hj hl => (hY pre x W1 hj hl).mono fun e w' hr => hr.imp (fun ⟨a, b, c⟩ => ⟨a, b, c.2⟩) id) h0
/-- **The statement.** -/
theorem wp_rangeW {α : Type} {g : Operand} {ps : Array Tmp} {assign body : Code} {Q : Exit → Act → World → Prop} {a : Act} {w0 w : World} {M : List Nat} {B0 R0 R : Hp}
    (HM : Mem w0 M (B0 ++ R0) w) (hsub : ∀ p ∈ R, p ∈ R0) {gf : Nat} {lb : Array Value} (hg : a.eval g = .func (.func gf) #[] lb) (eg : ∀ args w, (callFunc gf args).run P w = .ok (.enter gf args) w)
    {encs : α → Array Value} {Sd Sp : List α → Prop} {N : Nat} (hseq : SeqStopsK Fence.wide 4 P gf lb encs (KpW R) Sd Sp N w) (hps : ∀ x, (encs x).size = ps.size)
    (I Ix : List α → Hp → Prop) (hIc : ∀ pre B, I pre B → ∀ p ∈ B, p.2.isCells = true) (hIxc : ∀ pre B, Ix pre B → ∀ p ∈ B, p.2.isCells = true) (h0 : I [] B0) (a₁ : α → Act)
    (hassign : ∀ (l : Nat) (x : α) (W : World) (K : Act → World → Prop), K (a₁ x) W →
      assign.wpIn (Fence.wide.inRound l) 3 P (Exit.then K (fun _ _ _ => False)) { tmps := (ps.zip (encs x)).foldl (fun t (p, v) => t.setIfInBounds p v) a.tmps, defers := [] } W)
    (hbody : ∀ (l : Nat) (pre : List α) (x : α) (W : World) (B : Hp), I pre B → pre.length < N → Has B W → body.wpIn (Fence.wide.inRound l) 3 P (rpost W B (I (pre ++ [x])) (Ix (pre ++ [x]))) (a₁ x) W)
    (hdone : ∀ (D : Nat) (W : World) (B : Hp) (xs : List α), Sd xs → I xs B → Mem w0 M ((D, .deferred (some [])) :: (B ++ R0)) W → Q .normal { a with defers := { target := .collected D, args := #[] } :: a.defers } W)
    (hstop : ∀ (D : Nat) (W : World) (B : Hp) (pre : List α), Sp pre → Ix pre B → Mem w0 M ((D, .deferred (some [])) :: (B ++ R0)) W → Q .ret { a with defers := { target := .collected D, args := #[] } :: a.defers } W) :
    (Code.rangeFunc g ps assign body).wp P Q a w := by
  have hlt : ∀ p ∈ R0, p.1 < w.heap.size := fun p hp => HM.has.right.lt hp
  have hbig : ∀ (J : Hp → Prop), (∀ B, J B → ∀ p ∈ B, p.2.isCells = true) → ∀ (A A' : World) (rw_ : Option Nat), (∃ B, J B ∧ Mem w0 M (B ++ R0) A) → A.grownBy A' rw_ → (∀ r, rw_ = some r → w.heap.size ≤ r ∧ ∃ o : Obj, A.heap[r]? = some o ∧ o.isCells = false) → ∃ B, J B ∧ Mem w0 M (B ++ R0) A' := by
    rintro J hJ A A' rw_ ⟨B, hB, hm⟩ hgr hr
    refine ⟨B, hB, mem_grown hm hgr (fun r e => ?_)⟩
    obtain ⟨h1, o, ho, hc⟩ := hr r e
    refine ⟨Nat.le_trans HM.size h1, fun hmem => ?_⟩
    obtain ⟨p, hp, e2⟩ := List.mem_map.1 hmem
    rcases List.mem_append.1 hp with hp' | hp'
    · have := hm.has.blk p hp
      rw [e2, ho] at this
      cases this
      rw [hJ B hB p hp'] at hc
      cases hc
    · have := hlt p hp'
      omega
  refine wpIn_wide.1 (wpIn_rangeFunc_ownF (n := 5) (F := Fence.wide) rfl (by omega) hg trivial eg (Kp := KpW R) hseq (fun h k => ⟨h.1.trans k.1, fun hA => k.2 (h.2 hA)⟩) ?_ (Below.refl _ w) hps
    (fun pre W => ∃ B, I pre B ∧ Mem w0 M (B ++ R0) W) (fun c pre W => c = .ret ∧ ∃ B, Ix pre B ∧ Mem w0 M (B ++ R0) W) ?_ ?_ ⟨B0, h0, HM⟩ a₁ hassign ?_ ?_ ?_)
  · intro W l o o' hl ho hc hw
    refine ⟨KeepsWalks.putObj _ ho hw, fun hA => ?_⟩
    refine has_grown hA (grownBy_putObj' W l o') (fun r e => ?_)
    cases e
    intro hmem
    obtain ⟨p, hp, rfl⟩ := List.mem_map.1 hmem
    have := hA.blk p hp
    have := hlt p (hsub p hp)
    omega
  · intro s A A' rw_ hs hgr hr
    exact hbig (I s) (hIc s) A A' rw_ hs hgr hr
  · intro c s A A' rw_ hs hgr hr
    exact ⟨hs.1, hbig (Ix s) (hIxc s) A A' rw_ hs.2 hgr hr⟩
  · rintro l pre x W ⟨B, hB, hm⟩ hlen
    refine wpIn_mono (hbody l pre x W B hB hlen hm.has.left) ?_
    intro e a' W' hq
    cases e with
    | normal =>
      obtain ⟨B', hB', hm'⟩ := hq
      exact ⟨keeps_of hm.has.left (hIc _ _ hB) hm', ⟨walks_of (keeps_of hm.has.left (hIc _ _ hB) hm'), has_out hsub hm.has hm'⟩, B', hB', hm.trans (fun g hg => hg) hm'⟩
    | ret =>
      obtain ⟨B', hB', hm'⟩ := hq
      exact ⟨keeps_of hm.has.left (hIc _ _ hB) hm', rfl, B', hB', hm.trans (fun g hg => hg) hm'⟩
    | exit id => exact hq.elim
    | goto t => exact hq.elim
    | panic c => exact hq.elim
    | outgrown => exact hq.elim
  · rintro D ys W hD hS ⟨B, hB, hm⟩ hK
    exact hdone D W B ys hS hB (with_mark hm (hIc _ B hB) (fun p hp => Nat.lt_of_lt_of_le (hlt p hp) hD) (Nat.le_trans HM.size hD) hK)
  · rintro D c pre W hD hSp ⟨rfl, B, hB, hm⟩ hK
    exact wpIn_ret (hstop D W B pre hSp hB (with_mark hm (hIxc _ B hB) (fun p hp => Nat.lt_of_lt_of_le (hlt p hp) hD) (Nat.le_trans HM.size hD) hK))
/-- The same: what comes is known. -/
theorem wp_range {α : Type} {g : Operand} {ps : Array Tmp} {assign body : Code} {Q : Exit → Act → World → Prop} {a : Act} {w0 w : World} {M : List Nat} {B0 R0 R : Hp}
    (HM : Mem w0 M (B0 ++ R0) w) (hsub : ∀ p ∈ R, p ∈ R0) {gf : Nat} {lb : Array Value} (hg : a.eval g = .func (.func gf) #[] lb) (eg : ∀ args w, (callFunc gf args).run P w = .ok (.enter gf args) w)
    {encs : α → Array Value} {xs : List α} {N : Nat} (hseq : SeqStopsK Fence.wide 4 P gf lb encs (KpR R) (fun ys => ys = xs) (fun pre => pre <+: xs) N w) (hps : ∀ x, (encs x).size = ps.size)
    (I Ix : List α → Hp → Prop) (hIc : ∀ pre B, I pre B → ∀ p ∈ B, p.2.isCells = true) (hIxc : ∀ pre B, Ix pre B → ∀ p ∈ B, p.2.isCells = true) (h0 : I [] B0) (a₁ : α → Act)
    (hassign : ∀ (l : Nat) (x : α) (W : World) (K : Act → World → Prop), K (a₁ x) W →
      assign.wpIn (Fence.wide.inRound l) 3 P (Exit.then K (fun _ _ _ => False)) { tmps := (ps.zip (encs x)).foldl (fun t (p, v) => t.setIfInBounds p v) a.tmps, defers := [] } W)
    (hbody : ∀ (l : Nat) (pre : List α) (x : α) (W : World) (B : Hp), I pre B → pre.length < N → Has B W → body.wpIn (Fence.wide.inRound l) 3 P (rpost W B (I (pre ++ [x])) (Ix (pre ++ [x]))) (a₁ x) W)
    (hdone : ∀ (D : Nat) (W : World) (B : Hp), I xs B → Mem w0 M ((D, .deferred (some [])) :: (B ++ R0)) W → Q .normal { a with defers := { target := .collected D, args := #[] } :: a.defers } W)
    (hstop : ∀ (D : Nat) (W : World) (B : Hp) (pre : List α), pre <+: xs → Ix pre B → Mem w0 M ((D, .deferred (some [])) :: (B ++ R0)) W → Q .ret { a with defers := { target := .collected D, args := #[] } :: a.defers } W) :
    (Code.rangeFunc g ps assign body).wp P Q a w :=
  wp_rangeW HM hsub hg eg (stops_w hseq) hps I Ix hIc hIxc h0 a₁ hassign hbody (fun D W B ys h1 h2 h3 => by subst h1; exact hdone D W B h2 h3) hstop
/-- A function with such a statement. -/
theorem calls_marks {f : FuncId} {fn : Func} {c : Code} {args : Array Value} {w : World} {R : Ending → World → Prop} (hf : P.funcs[f]? = some fn) (hb : fn.body = some c)
    (h : c.wp P (bodyPostM Fence.wide 5 P fn R) { tmps := args ++ Array.replicate (fn.ntmps - args.size) undef, defers := [] } w) : Calls P f args w R :=
  callsIn_wide.1 (callsIn_of_wp_marks hf hb trivial (wpIn_wide.2 h))
theorem leave_mark {w0 W : World} {M : List Nat} {L : Hp} {fn : Func} {tmps : Array Value} {R : Ending → World → Prop} {ds : List Deferred} (HM : Mem w0 M L W) (i D : Nat) (hi : L[i]? = some (D, .deferred (some [])))
    (h : ∀ W', Mem w0 M (L.set i (D, .deferred none)) W' → LeavesInM Fence.wide 5 P fn tmps R ds .returning W') : LeavesInM Fence.wide 5 P fn tmps R ({ target := .collected D, args := #[] } :: ds) .returning W := by
  have hK := HM.get i hi
  refine ⟨by simp, .inl ⟨D, _, rfl, run_takeDeferred hK, h _ ?_⟩⟩
  exact HM.turn i hi (World.putObj_heap_same (Array.getElem?_eq_some_iff.1 hK).1) ⟨rfl, rfl, rfl, by simp [World.putObj], fun k hk => World.putObj_heap_other (fun e => hk e)⟩
theorem leave_end {W : World} {fn : Func} {tmps : Array Value} {R : Ending → World → Prop} {v : Value} (hr : (results fn tmps).run P W = .ok v W) (h : R (.returned v) W) : LeavesInM Fence.wide 5 P fn tmps R [] .returning W := ⟨v, hr, h⟩
/-- An operation within a round. -/
theorem op_in {l : Nat} {o : Oper} {a : Act} {w : World} {K K' : Act → World → Prop} {Q : Exit → Act → World → Prop} {n : Nat} (hd : ∀ c, o.op ≠ .defer c) (hK : ∀ a w, K a w → K' a w) (h : o.wp P a w K Q) :
    o.wpIn (Fence.wide.inRound l) n P a w K' Q := by
  refine ⟨fun _ _ => trivial, ?_⟩
  rw [show (Fence.wide.inRound l).round = some l from rfl, Oper.semAt_eq _ _ _ hd]
  unfold Oper.wp Oper.upon at h
  split at h
  · rename_i v w' e; rw [e]; exact hK _ _ h
  · rename_i w' e; rw [e]; exact hK _ _ h
  · rename_i d w' e; rw [e]; exact hK _ _ h
  · rename_i f args w' e
    rw [e]
    refine ⟨(fun hh => by cases hh), ?_⟩
    refine CallsIn.inRound l (callsIn_wide.2 (h.mono fun e w'' hh => ?_))
    cases e with
    | returned v => exact hK _ _ hh
    | panicked c => exact hh
    | outgrown => exact hh
  · rename_i row args w' e
    rw [e]
    refine ⟨(fun hh => by cases hh), fun c cs _ => ?_⟩
    obtain ⟨v, w2, hq, hs⟩ := h c cs
    exact ⟨v, w2, hK _ _ hq, stepsIn_wide.2 hs⟩
  · rename_i v w' e; rw [e]; exact h
  · exact h.elim
/-- Operations within a round. -/
theorem list_in {r : Nat} {ops : Array Oper} {Q : Exit → Act → World → Prop} {n : Nat} (hQ : ¬ LetsOut Q) : ∀ (l : List Oper), (∀ o ∈ l, ∀ c, o.op ≠ .defer c) → ∀ (a : Act) (w : World), wpList P ops Q l a w → wpListIn (Fence.wide.inRound r) n P ops Q l a w
  | [], _, a, w, h => h
  | o :: rest, hd, a, w, h => by
    have ih := list_in (r := r) (ops := ops) (n := n) hQ rest (fun o ho => hd o (List.mem_cons_of_mem _ ho))
    unfold wpList at h
    unfold wpListIn
    by_cases hw : Region.wanted o (yielded ops a.tmps) = true
    · rw [if_pos hw] at h ⊢
      rcases h with h | h
      · exact op_in (hd o (by simp)) ih h
      · exact absurd h.2 hQ
    · rw [if_neg hw] at h ⊢
      exact ⟨fun _ _ => trivial, ih _ _ h⟩
theorem region_in {r : Nat} {id : Nat} {ops : List Oper} {Q : Exit → Act → World → Prop} {n : Nat} {a : Act} {w : World} (hQ : ¬ LetsOut Q) (hd : ∀ o ∈ ops, ∀ c, o.op ≠ .defer c) (h : wpList P ops.toArray Q ops a w) : (Code.region id ops.toArray false).wpIn (Fence.wide.inRound r) n P Q a w :=
  wpIn_region_lit (list_in hQ _ hd _ _ h)
/-- A call that leaves all blocks as they are. -/
theorem does_still {f : FuncId} {args : Array Value} {A : Hp} {v : Value} (C : Does P f args A fun r L => r = v ∧ L = A) {W : World} (h : Has A W) : Calls P f args W fun e w' => e = .returned v ∧ Below W.heap.size W w' :=
  (C W h).mono fun e w' ⟨v', L', he, ⟨h1, h2⟩, hm⟩ => by
    subst h1 h2
    refine ⟨he, hm.os, hm.tape, hm.output, hm.size, fun k hk => ?_⟩
    by_cases hk2 : k ∈ L'.map (·.1)
    · obtain ⟨p, hp, rfl⟩ := List.mem_map.1 hk2
      rw [h.blk p hp, hm.has.blk p hp]
    · exact hm.old k hk hk2
theorem has_below {L : Hp} {W W' : World} (h : Has L W) (hb : Below W.heap.size W W') : Has L W' := has_grown h (below_grown hb) (fun _ e => by cases e)
theorem abide {α : Type} {J : List α → World → Prop} {B : Nat} (hJ : AbidesFrom B J) {s : List α} {W W' : World} (h : J s W) (hb : Below W.heap.size W W') : J s W' := hJ s W W' none h (below_grown hb) (fun _ e => by cases e)
theorem cell_of {W : World} {g i : Nat} {cs : Array Value} {t : TypeId} {v : Value} (h : W.heap[g]? = some (row cs t)) (hv : cs[i]? = some v) : W.cell? ⟨g, i, none⟩ = some v := by
  simp [World.cell?, h, hv]
/-- A call that only makes new blocks. -/
theorem call_new {f : FuncId} {args : Array Value} {Rel : Value → Hp → Prop} {w0 u : World} {M : List Nat} {L : Hp} (C : Does P f args [] Rel) (h : Mem w0 M L u) : Calls P f args u fun e w' => ∃ v L', e = .returned v ∧ Rel v L' ∧ Mem w0 M (L' ++ L) w' :=
  (C u Has.nil).mono fun e w' ⟨v, L', he, hr, hm⟩ => ⟨v, L', he, hr, Mem.trans (A := []) h (fun _ hg => by cases hg) hm⟩
def mk (D : Nat) : Nat × Obj := (D, .deferred (some []))
def mark (D : Nat) : Deferred := { target := .collected D, args := #[] }
theorem leave_marks {w0 : World} {M : List Nat} {L : Hp} {fn : Func} {tmps : Array Value} {R : Ending → World → Prop} (hend : ∀ W', Mem w0 M L W' → LeavesInM Fence.wide 5 P fn tmps R [] .returning W') :
    ∀ (ds : List Nat) (W : World), Mem w0 M (L ++ ds.map mk) W → LeavesInM Fence.wide 5 P fn tmps R (ds.map mark) .returning W
  | [], W, h => hend W (by simpa using h)
  | D :: ds, W, h => by
    have h2 : Mem w0 M (mk D :: (L ++ ds.map mk)) W := h.perm List.perm_middle
    refine leave_mark h2 0 D rfl (fun W' h3 => ?_)
    exact leave_marks hend ds W' (h3.drop (A := [_]))
theorem perm_front {α : Type} (A X R : List α) : (A ++ (X ++ R)).Perm (X ++ (A ++ R)) := by
  rw [← List.append_assoc, ← List.append_assoc]
  exact List.perm_append_comm.append_right R
end Go.Proofs.Ytndeaikmelpflaa.Ba
