/- The pages that a memory keeps, one by one. -/
import Derived.Test.YtndeaikmelpflaaBc
import Derived.Sort.MapsRangeIn
import Derived.OwnWalkIn
import Derived.TacticsInMore
import Derived.LoopNIn
import Derived.LoopIn
import Derived.WalkKit
import Derived.Maps.Range
namespace Go.Proofs.Ytndeaikmelpflaa.Be
open Go.RowKit Go.Shelf Go.Maps Go.Proofs.Ytndeaikmelpflaa.G Go.Proofs.Ytndeaikmelpflaa.B Go.Proofs.Ytndeaikmelpflaa.M Go.Proofs.Ytndeaikmelpflaa.Mv Go.Proofs.Ytndeaikmelpflaa.Ma Go.Proofs.Ytndeaikmelpflaa.Ya Go.Proofs.Ytndeaikmelpflaa.Yb Go.Proofs.Ytndeaikmelpflaa.Yc Go.Proofs.Ytndeaikmelpflaa.Ls Go.Proofs.Ytndeaikmelpflaa.Ba
open Go.WideElems (Fit rd rg rd_mk rg_of)

set_option linter.unusedVariables false
set_option linter.unusedSimpArgs false
set_option maxRecDepth 100000
attribute [local go_sem] Oper.semAt_some
/-- What lies at a key is not looked at. -/
def RT (_ : Value) : Option (DataW Unit × List MemPlace) := some (.lit (.bool true), [])
theorem wf_u64 {p : Int} (h0 : 0 ≤ p) (h1 : p < 1048576) : (Lit.int .u64 p).wf = true := by
  simp [Lit.wf, IntKind.min, IntKind.max, IntKind.bits, IntKind.signed]
  omega
theorem uU : Try.prog.underlying 25 = some (.int .u64) := by kernel_rfl
theorem uM : Try.prog.underlying 89 = some (.map 25 87) := by kernel_rfl
theorem kU : Keyed Try.prog 25 := int_keyed uU
theorem rd_page {x : MapEntry} {p : Int} (hx : x.key = .int .u64 p) (h0 : 0 ≤ p) (h1 : p < 1048576) : rd Try.prog 25 RT x = some (.int .u64 p, .lit (.bool true)) := by
  obtain ⟨k, v, b⟩ := x
  simp only at hx
  subst hx
  exact rd_mk (R := RT) (yv := (.lit (.bool true), [])) (keyOf_int_mk uU (wf_u64 h0 h1)) rfl
variable {sz : Int} {f : Int → Int} {clock : Nat} {es : Array MapEntry} {S : List Sh}
theorem entry_key (h : PmS sz f clock es S) {x : MapEntry} (hx : x ∈ es.toList) : ∃ s ∈ S, x.key = .int .u64 s.p := by
  have he := h.ents
  have hm : (x.key, x.val) ∈ es.toList.map (fun e => (e.key, e.val)) := List.mem_map_of_mem hx
  rw [he] at hm
  obtain ⟨p, hp, e⟩ := List.mem_map.1 hm
  obtain ⟨s, hs, rfl⟩ := List.mem_map.1 hp
  exact ⟨s, hs, by have := congrArg Prod.fst e; exact this.symm⟩
theorem key_entry (h : PmS sz f clock es S) {s : Sh} (hs : s ∈ S) : ∃ x ∈ es.toList, x.key = .int .u64 s.p := by
  have he := h.ents
  have hm : (Value.int .u64 s.p, Value.pointer (some ⟨s.g, 0, none⟩)) ∈ (keys S).map fun p => (Value.int .u64 p.1, p.2) := List.mem_map.2 ⟨(s.p, _), List.mem_map.2 ⟨s, hs, rfl⟩, rfl⟩
  rw [← he] at hm
  obtain ⟨x, hx, e⟩ := List.mem_map.1 hm
  exact ⟨x, hx, congrArg Prod.fst e⟩
theorem pages_few {l : List Int} (hn : l.Nodup) (h : ∀ x ∈ l, 0 ≤ x ∧ x < 1048576) : l.length ≤ 1048576 := by
  have h2 : (l.map Int.toNat).Nodup := List.pairwise_map.2 (List.Pairwise.imp_of_mem (fun {a b} ha hb hab e => hab (by have := h a ha; have := h b hb; omega)) hn)
  have h3 : (l.map Int.toNat) ⊆ List.range 1048576 := fun n hm => by
    obtain ⟨x, hx, rfl⟩ := List.mem_map.1 hm
    have := h x hx
    rw [List.mem_range]; omega
  have := List.Nodup.length_le_of_subset h2 h3
  simpa using this
theorem es_len (h : PmS sz f clock es S) : es.size = S.length := by
  have := congrArg List.length h.ents
  simpa [keys] using this
theorem s_len (h : PmS sz f clock es S) : S.length ≤ 1048576 := by
  have := pages_few h.one (fun x hx => by
    obtain ⟨s, hs, rfl⟩ := List.mem_map.1 hx
    exact h.low s hs)
  simpa using this
theorem fit_of (h : PmS sz f clock es S) : Fit Try.prog 25 RT es clock := by
  refine ⟨?_, ⟨h.stamp.1, h.stamp.2, ?_⟩, fun x hx => ?_⟩
  · rw [es_len h]
    have := s_len h
    exact Nat.le_trans this (by decide)
  · have e : es.toList.map (·.key) = (S.map (·.p)).map (Value.int .u64) := by
      have := congrArg (List.map Prod.fst) h.ents
      simpa [keys, Function.comp_def] using this
    rw [e]
    exact List.Pairwise.map _ (fun a b hab => by intro e; exact hab (by cases e; rfl)) h.one
  · obtain ⟨s, hs, e⟩ := entry_key h hx
    exact ⟨_, rd_page e (h.low s hs).1 (h.low s hs).2⟩
/-- The map's keys, as its reader tells them. -/
noncomputable def Dk (es : Array MapEntry) : DataW Unit := .map ((es.toList.map (rg Try.prog 25 RT)).foldr DataW.insert [])
theorem has_in (h : PmS sz f clock es S) {kl : Lit} (hh : has (Dk es) kl = true) : ∃ s ∈ S, kl = .int .u64 s.p := by
  obtain ⟨p, hp, hk⟩ := List.any_eq_true.1 hh
  obtain ⟨x, hx, rfl⟩ := List.mem_map.1 (mem_sorted.1 hp)
  obtain ⟨s, hs, e⟩ := entry_key h hx
  rw [rg_of (rd_page e (h.low s hs).1 (h.low s hs).2)] at hk
  exact ⟨s, hs, (WideAt.sameKey_eq hk).symm⟩
theorem in_has (h : PmS sz f clock es S) {s : Sh} (hs : s ∈ S) : has (Dk es) (.int .u64 s.p) = true := by
  obtain ⟨x, hx, e⟩ := key_entry h hs
  refine List.any_eq_true.2 ⟨rg Try.prog 25 RT x, mem_sorted.2 (List.mem_map.2 ⟨x, hx, rfl⟩), ?_⟩
  rw [rg_of (rd_page e (h.low s hs).1 (h.low s hs).2)]
  simp [Lit.sameKey]
theorem owns_of (h : PmS sz f clock es S) {w : World} {gm : Nat} (hb : w.heap[gm]? = some (.map es clock)) : w.ownsMap Try.prog 25 RT gm es.size (Dk es) := ⟨es, clock, hb, fit_of h, Nat.le_refl _, rfl⟩
/-- What has come of the pages. -/
def KS (S : List Sh) (ys : List Int) : Prop := (∀ s ∈ S, s.p ∈ ys) ∧ (∀ y ∈ ys, 0 ≤ y ∧ y < 1048576) ∧ ys.length ≤ 1048576
def encK (x : Int) : Array Value := #[.int .u64 x]
theorem d_size (es : Array MapEntry) : Maps.size (Dk es) = es.size := by simp [Maps.size, Dk, length_sorted]
set_option maxHeartbeats 4000000 in
theorem keys_in (h : PmS sz f clock es S) (gm Bm : Nat) (R : Hp) (l : Nat) (J Jx : List Int → World → Prop) (W : World) (hJ : AbidesFrom W.heap.size J) (hJx : AbidesFrom W.heap.size Jx)
    (hY : ∀ pre x W1, J pre W1 → pre.length < 1048576 → YieldAt Fence.wide 3 Try.prog l (encK x) W1 fun e W' => (e = .returned (.bool true) ∧ J (pre ++ [x]) W' ∧ KpW R W1 W') ∨ (e = .returned (.bool false) ∧ Jx (pre ++ [x]) W'))
    (hm : W.cell? ⟨Bm, 0, none⟩ = some (.map (some gm))) (hb : W.heap[gm]? = some (.map es clock)) (h0 : J [] W) :
    CallsIn Fence.wide 4 Try.prog 45 #[.func (.yield l) #[] #[], .pointer (some ⟨Bm, 0, none⟩)] W fun e W' => (∃ v, e = .returned v) ∧ ((∃ ys, KS S ys ∧ J ys W') ∨ (∃ pre, True ∧ Jx pre W')) := by
  have hown := owns_of h hb
  have hsz : Maps.size (Dk es) ≤ 1048576 := by rw [d_size, es_len h]; exact s_len h
  have t0 := uM
  refine callsIn_of_wp Try.func45 rfl trivial ?_ rfl
  simp only [Try.ntmps45, List.size_toArray, List.length_cons, List.length_nil, Nat.reduceAdd, Nat.reduceSub, Array.replicate_succ, Array.replicate_zero, List.push_toArray, List.append_toArray, List.nil_append, List.cons_append]
  gi_wp2_with (first
    | (gi_at_range; refine wpListIn_range_own _ rfl _ 89 rfl 25 87 kU uM RT gm es.size (Dk es) rfl hown ?_; intro w0 hrg0 hg0 hs0)
    | gi_in)
  go_frame
  gi_loopw [3] (fun _ wr => ∃ (left : Lit → Bool) (cnt : Nat) (ss : List Int), wr.ranges Try.prog 25 RT gm W.heap.size es.size (Dk es) left cnt ∧ ss.length + cnt ≤ Maps.size (Dk es) ∧ (∀ kl, left kl = true → ∃ s ∈ S, kl = .int .u64 s.p) ∧ (∀ s ∈ S, left (.int .u64 s.p) = true ∨ s.p ∈ ss) ∧ (∀ y ∈ ss, 0 ≤ y ∧ y < 1048576) ∧ J ss wr)
    (fun _ wr => wr.rangeLeft gm W.heap.size)
  case atStart =>
    exact ⟨_, _, [], hrg0, by simp, fun kl hk => has_in h hk, fun s hs => .inl (in_has h hs), (fun y hy => by cases hy), hJ [] W w0 none h0 hg0 (fun r e => by cases e)⟩
  case round =>
    obtain ⟨left, cnt, ss, hrg, hcs, hL1, hL2, hL3, hJs⟩ := hrel
    gi_wp2_with (first
      | (gi_at_next; refine wpListIn_next_ranges _ rfl _ rfl 25 kU RT (Value.int .u64) id (fun key kl hk => by obtain ⟨x, hx, _⟩ := Maps.keyOf_int_inv uU hk; exact ⟨x, hx⟩) (fun v _ _ => ⟨v, rfl⟩) gm W.heap.size es.size _ _ _ rfl hrg ?_ ?_)
      | gi_in)
    · intro hc0 hl0
      gi_wp2
      go_end0
      refine ⟨⟨_, rfl⟩, .inl ⟨ss, ⟨fun s hs => ?_, hL3, by omega⟩, hJs⟩⟩
      rcases hL2 s hs with e | e
      · rw [hl0] at e; cases e
      · exact e
    · intro x c kl yd yp w2 cnt2 hkey hlk hv hat hrg2 hlt hg2 hs2 hen
      obtain ⟨x', ex, rfl, _⟩ := Maps.keyOf_int_inv uU hkey
      obtain rfl : x = x' := by cases ex; rfl
      have hJ2 : J ss w2 := hJ ss wr w2 (some W.heap.size) hJs hg2 (fun r e => by cases e; exact ⟨Nat.le_refl _, hrg.iter_walk⟩)
      obtain ⟨fn, tmps, assign, body, hy, hR⟩ := hY ss x w2 hJ2 (by omega)
      have hx3 : 0 ≤ x ∧ x < 1048576 := by
        obtain ⟨s, hs, e⟩ := hL1 _ hlk
        cases e
        exact h.low s hs
      have hL3' : ∀ y ∈ ss ++ [x], 0 ≤ y ∧ y < 1048576 := fun y hy => by
        rcases List.mem_append.1 hy with hy | hy
        · exact hL3 y hy
        · rw [List.mem_singleton] at hy; subst hy; exact hx3
      have hL2' : ∀ s ∈ S, (left (.int .u64 s.p) && !(Lit.int .u64 s.p).sameKey (.int .u64 x)) = true ∨ s.p ∈ ss ++ [x] := fun s hs => by
        by_cases e : s.p = x
        · exact .inr (by simp [e])
        · rcases hL2 s hs with hl | hl
          · refine .inl ?_
            rw [hl]
            simp [Lit.sameKey, e]
          · exact .inr (by simp [hl])
      clear hs2
      dsimp only [encK] at hy
      gi_wp2
      refine hR.mono ?_
      rintro e W3 (⟨rfl, hJ3, hk3⟩ | ⟨rfl, hJ3⟩)
      · gi_wp2
        have hrg3 := hrg2.of_walks hk3.1
        go_roundw
        case rel => exact ⟨_, cnt2, ss ++ [x], hrg3, by simp; omega, fun kl hk => hL1 kl (by simp at hk; exact hk.1), hL2', hL3', hJ3⟩
        case measure => rw [hrg3.left_eq, hrg.left_eq]; exact hlt
      · gi_wp2
        refine bodyPost_ret (results_none rfl _ _ _) rfl ?_
        exact ⟨⟨_, rfl⟩, .inr ⟨_, trivial, hJ3⟩⟩
end Go.Proofs.Ytndeaikmelpflaa.Be
