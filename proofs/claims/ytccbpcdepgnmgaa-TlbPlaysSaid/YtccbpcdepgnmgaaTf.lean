/- DeleteFunc and the flushes of a buffer. -/
import Derived.Test.YtccbpcdepgnmgaaProg
import Derived.Test.YtccbpcdepgnmgaaTw
namespace Go.Proofs.Ytccbpcdepgnmgaa.Tf
open Go.RowKit Go.Proofs.Ytccbpcdepgnmgaa.G Go.Proofs.Ytccbpcdepgnmgaa.B Go.Proofs.Ytccbpcdepgnmgaa.M Go.Proofs.Ytccbpcdepgnmgaa.Mv Go.Proofs.Ytccbpcdepgnmgaa.Sl Go.Proofs.Ytccbpcdepgnmgaa.Sm Go.Proofs.Ytccbpcdepgnmgaa.Sn Go.Proofs.Ytccbpcdepgnmgaa.Te Go.Proofs.Ytccbpcdepgnmgaa.Tp Go.Proofs.Ytccbpcdepgnmgaa.Tq Go.Proofs.Ytccbpcdepgnmgaa.Ts Go.Proofs.Ytccbpcdepgnmgaa.Td Go.Proofs.Ytccbpcdepgnmgaa.Tt Go.Proofs.Ytccbpcdepgnmgaa.Tu Go.Proofs.Ytccbpcdepgnmgaa.Tw

set_option linter.unusedVariables false
set_option linter.unusedSimpArgs false
set_option maxRecDepth 100000
theorem flat_set (l : List E) (i : Nat) (x : E) (hi : i < l.length) : flat (l.set i x) = (flat l).take (i * 10) ++ x.cells.toList ++ (flat l).drop (i * 10 + 10) := by
  rw [List.set_eq_take_append_cons_drop, if_pos hi, flat_append, flat_cons, flat_take, show i * 10 + 10 = (i + 1) * 10 by omega, flat_drop, List.append_assoc]
theorem Row.set {l : List E} {cur : Array Value} (h : Row l 0 cur) {i : Nat} (x : E) (hi : i < l.length) : Row (l.set i x) 0 (splice cur (i * 10) x.cells.toList) := by
  have hfit : i * 10 + x.cells.toList.length ≤ cur.size := by have := h.2; rw [Array.length_toList, E.size]; omega
  refine Row.of_take ?_
  rw [List.length_set, flat_set l i x hi]
  have e1 : (splice cur (i * 10) x.cells.toList).toList.take (l.length * 10) = ((splice cur (i * 10) x.cells.toList).toList.take (i * 10 + 10)) ++ ((splice cur (i * 10) x.cells.toList).toList.drop (i * 10 + 10)).take (l.length * 10 - (i * 10 + 10)) := by
    conv => lhs; rw [show l.length * 10 = (i * 10 + 10) + (l.length * 10 - (i * 10 + 10)) by omega]
    rw [List.take_add]
  have e2 := splice_take cur (i * 10) x.cells.toList hfit
  have e3 := splice_behind cur (i * 10) x.cells.toList hfit
  rw [Array.length_toList, E.size] at e2 e3
  rw [e1, e2, e3]
  have ht := h.take
  have e4 : cur.toList.take (i * 10) = (flat l).take (i * 10) := by
    rw [← ht, List.take_take, show min (i * 10) (l.length * 10) = i * 10 by omega]
  have e5 : (cur.toList.drop (i * 10 + 10)).take (l.length * 10 - (i * 10 + 10)) = (flat l).drop (i * 10 + 10) := by
    rw [← ht, List.drop_take]
  rw [e4, e5]
/-- What is left of a list, behind a part that has been gone through. -/
structure Part (p : E → Bool) (l m : List E) (i j : Nat) : Prop where
  len : m.length = l.length
  lt : i < j
  le : j ≤ l.length
  fore : m.take i = (l.take j).filter (fun e => !p e)
  behind : m.drop j = l.drop j
theorem Part.start {p : E → Bool} {l : List E} {k : Nat} {x : E} (hx : l[k]? = some x) (hp : p x = true) (hno : ∀ j y, j < k → l[j]? = some y → p y = false) : Part p l l k (k + 1) := by
  have hlt := (List.getElem?_eq_some_iff.1 hx).1
  refine ⟨rfl, by omega, by omega, ?_, rfl⟩
  rw [take_succ hx, List.filter_append]
  have : (l.take k).filter (fun e => !p e) = l.take k := by
    rw [List.filter_eq_self]
    intro y hy
    obtain ⟨j, hj⟩ := List.mem_iff_getElem?.1 hy
    rw [List.getElem?_take] at hj
    split at hj
    · rename_i h; rw [hno j y h hj]; rfl
    · cases hj
  rw [this]
  simp [hp]
theorem Part.get {p : E → Bool} {l m : List E} {i j : Nat} (h : Part p l m i j) : m[j]? = l[j]? := by
  have := congrArg (fun z => z[0]?) h.behind
  simpa using this
theorem Part.skip {p : E → Bool} {l m : List E} {i j : Nat} {x : E} (h : Part p l m i j) (hx : l[j]? = some x) (hp : p x = true) : Part p l m i (j + 1) := by
  have hlt := (List.getElem?_eq_some_iff.1 hx).1
  have h1 := h.lt
  refine ⟨h.len, by omega, by omega, ?_, ?_⟩
  · rw [take_succ hx, List.filter_append, h.fore]
    simp [hp]
  · rw [← List.drop_drop, h.behind, List.drop_drop]
theorem Part.keep {p : E → Bool} {l m : List E} {i j : Nat} {x : E} (h : Part p l m i j) (hx : l[j]? = some x) (hp : p x = false) : Part p l (m.set i x) (i + 1) (j + 1) := by
  have hlt := (List.getElem?_eq_some_iff.1 hx).1
  have h1 := h.lt
  have h2 := h.len
  refine ⟨by rw [List.length_set, h2], by omega, by omega, ?_, ?_⟩
  · rw [take_succ hx, List.filter_append, ← h.fore, take_succ (x := x) (by rw [List.getElem?_set_self (by omega)]), List.take_set_of_le (Nat.le_refl _)]
    simp [hp]
  · rw [List.drop_set_of_lt (by omega), ← List.drop_drop, h.behind, List.drop_drop]
theorem first_split (p : E → Bool) (l : List E) : (∀ (j : Nat) y, l[j]? = some y → p y = false) ∨ ∃ k x, l[k]? = some x ∧ p x = true ∧ ∀ (j : Nat) y, j < k → l[j]? = some y → p y = false := by
  induction l with
  | nil => exact .inl (fun j y h => by simp at h)
  | cons a t ih =>
    cases ha : p a with
    | true => exact .inr ⟨0, a, rfl, ha, fun j y h => absurd h (Nat.not_lt_zero _)⟩
    | false =>
      rcases ih with h | ⟨k, x, hx, hp, hno⟩
      · refine .inl fun j y hj => ?_
        cases j with
        | zero => simp at hj; rw [← hj]; exact ha
        | succ j => exact h j y (by simpa using hj)
      · refine .inr ⟨k + 1, x, by simpa using hx, hp, fun j y hjk hj => ?_⟩
        cases j with
        | zero => simp at hj; rw [← hj]; exact ha
        | succ j => exact hno j y (by omega) (by simpa using hj)
theorem whole {P : Program} {f : FuncId} {args : Array Value} {A : Hp} {Rel : Value → Hp → Prop} {w0 u : World} {M : List Nat} (C : Does P f args A Rel) (h : Mem w0 M A u) :
    Calls P f args u fun e w' => ∃ v L', e = .returned v ∧ Rel v L' ∧ Mem w0 M L' w' :=
  (C.call (R := []) h (by rw [List.append_nil])).mono fun _ _ ⟨v, L', he, hr, hm⟩ => ⟨v, L', he, hr, by rwa [List.append_nil] at hm⟩
theorem Part.stop {p : E → Bool} {l m : List E} {i : Nat} (h : Part p l m i l.length) : m.take i = l.filter (fun e => !p e) := by
  have := h.fore
  rwa [List.take_of_length_le (Nat.le_refl _)] at this
set_option maxHeartbeats 2000000 in
theorem fun_va (b1 b2 : Nat) (asid va : Int) (v0 : 0 ≤ va) (v1 : va < 18446744073709551616) (e : E) : Does Try.prog 34 #[.agg e.cells, .pointer (some ⟨b1, 0, none⟩), .pointer (some ⟨b2, 0, none⟩)] [(b1, row #[.int .i64 asid] 3), (b2, row #[.int .u64 va] 22)] fun r L => r = .bool (matchE e asid va) ∧ L = [(b1, row #[.int .i64 asid] 3), (b2, row #[.int .u64 va] 22)] := by
  have CM := fun w => match_any e asid va v0 v1 w
  generalize matchE e asid va = b at CM ⊢
  intro w hH
  have HM := Mem.start hH
  go_enter Try.func34, Try.ntmps34
  go_wp2_with (first
    | (go_at_call 12; (with_reducible refine (Go.Proofs.Ytccbpcdepgnmgaa.M.call_pure (CM) HM).mono ?_); clear HM; rintro e w_ ⟨rfl, HM⟩; dsimp only)
    | (refine Go.Proofs.Ytccbpcdepgnmgaa.M.at_mem rfl ?_; first | (refine Go.Proofs.Ytccbpcdepgnmgaa.M.at_load 3 rfl ?_; first | (refine Go.Proofs.Ytccbpcdepgnmgaa.M.load_cell_m HM rfl 3 _ rfl 0 _ _ _ _ _ rfl rfl rfl (by kernel_rfl) (by kernel_rfl) ?_; go_simp) | (refine Go.Proofs.Ytccbpcdepgnmgaa.M.load_cell_m HM rfl 3 _ rfl 1 _ _ _ _ _ rfl rfl rfl (by kernel_rfl) (by kernel_rfl) ?_; go_simp) | (refine Go.Proofs.Ytccbpcdepgnmgaa.M.load_cell_m HM rfl 3 _ rfl 2 _ _ _ _ _ rfl rfl rfl (by kernel_rfl) (by kernel_rfl) ?_; go_simp)) | (refine Go.Proofs.Ytccbpcdepgnmgaa.M.at_load 22 rfl ?_; first | (refine Go.Proofs.Ytccbpcdepgnmgaa.M.load_cell_m HM rfl 22 _ rfl 0 _ _ _ _ _ rfl rfl rfl (by kernel_rfl) (by kernel_rfl) ?_; go_simp) | (refine Go.Proofs.Ytccbpcdepgnmgaa.M.load_cell_m HM rfl 22 _ rfl 1 _ _ _ _ _ rfl rfl rfl (by kernel_rfl) (by kernel_rfl) ?_; go_simp) | (refine Go.Proofs.Ytccbpcdepgnmgaa.M.load_cell_m HM rfl 22 _ rfl 2 _ _ _ _ _ rfl rfl rfl (by kernel_rfl) (by kernel_rfl) ?_; go_simp)) | (refine Go.Proofs.Ytccbpcdepgnmgaa.M.at_load 26 rfl ?_; first | (refine Go.Proofs.Ytccbpcdepgnmgaa.M.load_row_m HM rfl 26 _ rfl 0 _ _ _ rfl rfl (by kernel_rfl) (by kernel_rfl) ?_; go_simp) | (refine Go.Proofs.Ytccbpcdepgnmgaa.M.load_row_m HM rfl 26 _ rfl 1 _ _ _ rfl rfl (by kernel_rfl) (by kernel_rfl) ?_; go_simp) | (refine Go.Proofs.Ytccbpcdepgnmgaa.M.load_row_m HM rfl 26 _ rfl 2 _ _ _ rfl rfl (by kernel_rfl) (by kernel_rfl) ?_; go_simp)) | (refine Go.Proofs.Ytccbpcdepgnmgaa.M.at_box 26 rfl ?_; first | (refine Go.Proofs.Ytccbpcdepgnmgaa.M.box_m HM rfl rfl 26 _ rfl _ rfl ?_; clear HM; intro g_ w_ HM; go_simp)) | ((fail_if_success (refine Go.Proofs.Ytccbpcdepgnmgaa.M.lit_t rfl ?_)); (fail_if_success (refine Go.Proofs.Ytccbpcdepgnmgaa.M.lit_f rfl ?_)); refine Go.Proofs.Ytccbpcdepgnmgaa.M.split_guard rfl rfl ?_ ?_ <;> (intro hg_; simp only [hg_]; try simp only [Go.Proofs.Ytccbpcdepgnmgaa.M.hgs] at hg_)))
    | ((fail_if_success (refine Go.Proofs.Ytccbpcdepgnmgaa.M.lit_t rfl ?_)); (fail_if_success (refine Go.Proofs.Ytccbpcdepgnmgaa.M.lit_f rfl ?_)); refine Go.Proofs.Ytccbpcdepgnmgaa.M.split_guard rfl rfl ?_ ?_ <;> (intro hg_; simp only [hg_]; try simp only [Go.Proofs.Ytccbpcdepgnmgaa.M.hgs] at hg_)))
  all_goals
    go_ret
    exact ⟨_, _, rfl, ⟨rfl, rfl⟩, HM.drop (A := [_])⟩
set_option maxHeartbeats 2000000 in
theorem idx_va (b1 b2 : Nat) (asid va : Int) (v0 : 0 ≤ va) (v1 : va < 18446744073709551616) (p : E → Bool) (hp : ∀ e : E, (matchE e asid va) = p e) (l : List E) (g n cap : Nat) (cur : Array Value) (hR : Row l 0 cur) (hn : l.length = n) (h1 : n ≤ 1000) : Does Try.prog 54 #[.slice (some ⟨g, 0, none⟩) n cap, .func (.func 34) #[] #[.pointer (some ⟨b1, 0, none⟩), .pointer (some ⟨b2, 0, none⟩)]] [(g, row cur 26), (b1, row #[.int .i64 asid] 3), (b2, row #[.int .u64 va] 22)]
    fun r L => ∃ k, k ≤ n ∧ (∀ j y, j < k → l[j]? = some y → p y = false) ∧ ((k = n ∧ r = .int .i64 (-1)) ∨ ∃ x, r = .int .i64 k ∧ l[k]? = some x ∧ p x = true) ∧ L = [(g, row cur 26), (b1, row #[.int .i64 asid] 3), (b2, row #[.int .u64 va] 22)] := by
  intro w hH
  have HM := Mem.start hH
  have HR := Lib.hid hR; have HN := Lib.hid hn; have HPP := Lib.hid hp; clear hR hn hp
  go_enter Try.func54, Try.ntmps54
  go_wp2_with (first
    | (refine Go.Proofs.Ytccbpcdepgnmgaa.M.at_mem rfl ?_; first | (refine Go.Proofs.Ytccbpcdepgnmgaa.M.at_load 26 rfl ?_; first | (refine Go.Proofs.Ytccbpcdepgnmgaa.M.load_row_m HM rfl 26 _ rfl 0 _ _ _ rfl rfl (by kernel_rfl) (by kernel_rfl) ?_; go_simp)) | ((fail_if_success (refine Go.Proofs.Ytccbpcdepgnmgaa.M.lit_t rfl ?_)); (fail_if_success (refine Go.Proofs.Ytccbpcdepgnmgaa.M.lit_f rfl ?_)); refine Go.Proofs.Ytccbpcdepgnmgaa.M.split_guard rfl rfl ?_ ?_ <;> (intro hg_; simp only [hg_]; try simp only [Go.Proofs.Ytccbpcdepgnmgaa.M.hgs] at hg_)))
    | ((fail_if_success (refine Go.Proofs.Ytccbpcdepgnmgaa.M.lit_t rfl ?_)); (fail_if_success (refine Go.Proofs.Ytccbpcdepgnmgaa.M.lit_f rfl ?_)); refine Go.Proofs.Ytccbpcdepgnmgaa.M.split_guard rfl rfl ?_ ?_ <;> (intro hg_; simp only [hg_]; try simp only [Go.Proofs.Ytccbpcdepgnmgaa.M.hgs] at hg_)))
  go_loopw [8] (fun iv wr => ∃ k : Nat, k ≤ n ∧ iv = .int .i64 k ∧ (∀ j y, j < k → l[j]? = some y → p y = false) ∧ Mem w _ [(g, row cur 26), (b1, row #[.int .i64 asid] 3), (b2, row #[.int .u64 va] 22)] wr) (fun iv _ => n - (intOf iv).toNat)
  case atStart => exact ⟨0, by omega, rfl, fun j y hj => absurd hj (Nat.not_lt_zero _), HM⟩
  case round =>
    clear HM
    obtain ⟨k, k19, rfl, hno, HM⟩ := hrel
    have HNO := Lib.hid hno; clear hno
    by_cases hlt : k < n
    · obtain ⟨x, hx⟩ : ∃ x, l[k]? = some x := ⟨_, List.getElem?_eq_getElem (by have := HN.out; omega)⟩
      have hg := HR.out.get hx
      have hsz := HR.out.2
      have hnn := HN.out
      rw [Nat.zero_add] at hg
      have HG := Lib.hid hg; clear hg
      have hk1 : (k : Int) < n := by omega
      have hn1 : (n : Int) ≤ 1000 := by omega
      have hoff : k * 10 + 10 ≤ cur.size := by omega
      have HOFF := Lib.hid hoff; clear hoff hsz hnn
      have HX := Lib.hid hx
      have CF := fun_va b1 b2 asid va v0 v1 x
      rw [HPP.out x] at CF
      clear hx
      generalize hpx : p x = b at CF
      have HP := Lib.hid hpx; clear hpx
      cases b with
      | true =>
        go_wp2_with (first
          | (go_at_call 34; (with_reducible refine (Go.Proofs.Ytccbpcdepgnmgaa.M.Does.call (CF) HM (Go.Proofs.Ytccbpcdepgnmgaa.M.perm2 1 1 rfl rfl)).mono ?_); clear HM; rintro e w_ ⟨v_, L_, rfl, ⟨rfl, rfl⟩, HM⟩; (try simp only [List.eraseIdx_cons_zero, List.eraseIdx_cons_succ, List.cons_append, List.nil_append] at HM); dsimp only)
          | (refine Sl.at_indexAddr 36 rfl ?_; refine Sl.indexAddr_m rfl _ rfl 36 rfl 26 (by kernel_rfl) 10 (by kernel_rfl) _ 0 n cap rfl .i64 (k : Int) rfl (by omega) (by omega) (k * 10) (by omega) ?_; go_simp)
          | (refine Go.Proofs.Ytccbpcdepgnmgaa.M.at_mem rfl ?_; first | (refine Go.Proofs.Ytccbpcdepgnmgaa.M.at_load 26 rfl ?_; first | (refine Go.Proofs.Ytccbpcdepgnmgaa.M.load_part_m HM rfl 26 _ rfl 0 g (k * 10) 10 _ cur rfl rfl HOFF.out x.cells HG.out (by kernel_rfl) (by kernel_rfl) ?_; go_simp) | (refine Go.Proofs.Ytccbpcdepgnmgaa.M.load_row_m HM rfl 26 _ rfl 0 _ _ _ rfl rfl (by kernel_rfl) (by kernel_rfl) ?_; go_simp)) | ((fail_if_success (refine Go.Proofs.Ytccbpcdepgnmgaa.M.lit_t rfl ?_)); (fail_if_success (refine Go.Proofs.Ytccbpcdepgnmgaa.M.lit_f rfl ?_)); refine Go.Proofs.Ytccbpcdepgnmgaa.M.split_guard rfl rfl ?_ ?_ <;> (intro hg_; simp only [hg_]; try simp only [Go.Proofs.Ytccbpcdepgnmgaa.M.hgs] at hg_)))
          | (refine Mc.at_cmp _ rfl ?_; refine Mc.cmp_m rfl _ rfl _ _ _ rfl _ _ _ rfl rfl _ rfl ?_ ?_ <;> (intro hg_; try simp only [Go.Proofs.Ytccbpcdepgnmgaa.M.hgs] at hg_; first | (exfalso; first | omega | (simp at hg_; done)) | (go_simp)))
          | ((fail_if_success (refine Go.Proofs.Ytccbpcdepgnmgaa.M.lit_t rfl ?_)); (fail_if_success (refine Go.Proofs.Ytccbpcdepgnmgaa.M.lit_f rfl ?_)); refine Go.Proofs.Ytccbpcdepgnmgaa.M.split_guard rfl rfl ?_ ?_ <;> (intro hg_; simp only [hg_]; try simp only [Go.Proofs.Ytccbpcdepgnmgaa.M.hgs] at hg_)))
        all_goals
          (go_ret
           exact ⟨_, _, rfl, ⟨k, by omega, HNO.out, .inr ⟨x, rfl, HX.out, HP.out⟩, rfl⟩, (HM.perm (perm_at 2 rfl))⟩)
      | false =>
        go_wp2_with (first
          | (go_at_call 34; (with_reducible refine (Go.Proofs.Ytccbpcdepgnmgaa.M.Does.call (CF) HM (Go.Proofs.Ytccbpcdepgnmgaa.M.perm2 1 1 rfl rfl)).mono ?_); clear HM; rintro e w_ ⟨v_, L_, rfl, ⟨rfl, rfl⟩, HM⟩; (try simp only [List.eraseIdx_cons_zero, List.eraseIdx_cons_succ, List.cons_append, List.nil_append] at HM); dsimp only)
          | (refine Sl.at_indexAddr 36 rfl ?_; refine Sl.indexAddr_m rfl _ rfl 36 rfl 26 (by kernel_rfl) 10 (by kernel_rfl) _ 0 n cap rfl .i64 (k : Int) rfl (by omega) (by omega) (k * 10) (by omega) ?_; go_simp)
          | (refine Go.Proofs.Ytccbpcdepgnmgaa.M.at_mem rfl ?_; first | (refine Go.Proofs.Ytccbpcdepgnmgaa.M.at_load 26 rfl ?_; first | (refine Go.Proofs.Ytccbpcdepgnmgaa.M.load_part_m HM rfl 26 _ rfl 0 g (k * 10) 10 _ cur rfl rfl HOFF.out x.cells HG.out (by kernel_rfl) (by kernel_rfl) ?_; go_simp) | (refine Go.Proofs.Ytccbpcdepgnmgaa.M.load_row_m HM rfl 26 _ rfl 0 _ _ _ rfl rfl (by kernel_rfl) (by kernel_rfl) ?_; go_simp)) | ((fail_if_success (refine Go.Proofs.Ytccbpcdepgnmgaa.M.lit_t rfl ?_)); (fail_if_success (refine Go.Proofs.Ytccbpcdepgnmgaa.M.lit_f rfl ?_)); refine Go.Proofs.Ytccbpcdepgnmgaa.M.split_guard rfl rfl ?_ ?_ <;> (intro hg_; simp only [hg_]; try simp only [Go.Proofs.Ytccbpcdepgnmgaa.M.hgs] at hg_)))
          | (refine Mc.at_cmp _ rfl ?_; refine Mc.cmp_m rfl _ rfl _ _ _ rfl _ _ _ rfl rfl _ rfl ?_ ?_ <;> (intro hg_; try simp only [Go.Proofs.Ytccbpcdepgnmgaa.M.hgs] at hg_; first | (exfalso; first | omega | (simp at hg_; done)) | (go_simp)))
          | ((fail_if_success (refine Go.Proofs.Ytccbpcdepgnmgaa.M.lit_t rfl ?_)); (fail_if_success (refine Go.Proofs.Ytccbpcdepgnmgaa.M.lit_f rfl ?_)); refine Go.Proofs.Ytccbpcdepgnmgaa.M.split_guard rfl rfl ?_ ?_ <;> (intro hg_; simp only [hg_]; try simp only [Go.Proofs.Ytccbpcdepgnmgaa.M.hgs] at hg_)))
        all_goals
          (go_roundw
           case rel => exact ⟨k + 1, by omega, by first | rfl | (refine congrArg (fun z => Value.int .i64 z) ?_; omega), fun j y hj hy => by
             by_cases e : j = k
             · subst e; rw [HX.out] at hy; cases hy; exact HP.out
             · exact HNO.out j y (by omega) hy, (HM.perm (perm_at 2 rfl))⟩
           case measure => simp [intOf]; omega)
    · obtain rfl : k = n := by omega
      go_wp2_with (first
        | (refine Go.Proofs.Ytccbpcdepgnmgaa.M.at_mem rfl ?_; first | (refine Go.Proofs.Ytccbpcdepgnmgaa.M.at_load 26 rfl ?_; first | (refine Go.Proofs.Ytccbpcdepgnmgaa.M.load_row_m HM rfl 26 _ rfl 0 _ _ _ rfl rfl (by kernel_rfl) (by kernel_rfl) ?_; go_simp)) | ((fail_if_success (refine Go.Proofs.Ytccbpcdepgnmgaa.M.lit_t rfl ?_)); (fail_if_success (refine Go.Proofs.Ytccbpcdepgnmgaa.M.lit_f rfl ?_)); refine Go.Proofs.Ytccbpcdepgnmgaa.M.split_guard rfl rfl ?_ ?_ <;> (intro hg_; simp only [hg_]; try simp only [Go.Proofs.Ytccbpcdepgnmgaa.M.hgs] at hg_)))
        | (refine Mc.at_cmp _ rfl ?_; refine Mc.cmp_m rfl _ rfl _ _ _ rfl _ _ _ rfl rfl _ rfl ?_ ?_ <;> (intro hg_; try simp only [Go.Proofs.Ytccbpcdepgnmgaa.M.hgs] at hg_; first | (exfalso; first | omega | (simp at hg_; done)) | (go_simp)))
        | ((fail_if_success (refine Go.Proofs.Ytccbpcdepgnmgaa.M.lit_t rfl ?_)); (fail_if_success (refine Go.Proofs.Ytccbpcdepgnmgaa.M.lit_f rfl ?_)); refine Go.Proofs.Ytccbpcdepgnmgaa.M.split_guard rfl rfl ?_ ?_ <;> (intro hg_; simp only [hg_]; try simp only [Go.Proofs.Ytccbpcdepgnmgaa.M.hgs] at hg_)))
      all_goals
        go_ret
        exact ⟨_, _, rfl, ⟨k, Nat.le_refl _, HNO.out, .inl ⟨rfl, rfl⟩, rfl⟩, HM⟩
set_option maxHeartbeats 4000000 in
theorem del_va (b1 b2 : Nat) (asid va : Int) (v0 : 0 ≤ va) (v1 : va < 18446744073709551616) (p : E → Bool) (hp : ∀ e : E, (matchE e asid va) = p e) (l : List E) (g n cap : Nat) (cur0 : Array Value) (hR : Row l 0 cur0) (hn : l.length = n) (hc : n ≤ cap) (hcs : cur0.size = cap * 10) (h1 : n ≤ 1000) : Does Try.prog 49 #[.slice (some ⟨g, 0, none⟩) n cap, .func (.func 34) #[] #[.pointer (some ⟨b1, 0, none⟩), .pointer (some ⟨b2, 0, none⟩)]] [(g, row cur0 26), (b1, row #[.int .i64 asid] 3), (b2, row #[.int .u64 va] 22)]
    fun r L => ∃ (m : Nat) (cur : Array Value), (l.filter (fun e => !p e)).length = m ∧ m ≤ n ∧ r = .slice (some ⟨g, 0, none⟩) m cap ∧ cur.size = cap * 10 ∧ Row (l.filter (fun e => !p e)) 0 cur ∧ L = [(g, row cur 26), (b1, row #[.int .i64 asid] 3), (b2, row #[.int .u64 va] 22)] := by
  have CI0 := idx_va b1 b2 asid va v0 v1 p hp l g n cap cur0 hR hn h1
  have HR := Lib.hid hR; have HN := Lib.hid hn; have HCS := Lib.hid hcs; clear hR hn hcs
  have FS := first_split p l
  have HPP := Lib.hid hp; clear hp
  intro w hH
  have HM := Mem.start hH
  rcases FS with hno | ⟨k0, x0, hx0, hp0, hno⟩
  · have CI := Lib.hid (weaken (R2 := fun r L => r = .int .i64 (-1) ∧ L = [(g, row cur0 26), (b1, row #[.int .i64 asid] 3), (b2, row #[.int .u64 va] 22)]) CI0 (fun r L ⟨k, q1, q2, q3, q4⟩ => by
      rcases q3 with ⟨_, q3⟩ | ⟨x, _, q5, q6⟩
      · exact ⟨q3, q4⟩
      · rw [hno k x q5] at q6; cases q6))
    have hfl : l.filter (fun e => !p e) = l := List.filter_eq_self.2 (fun x hx => by
      obtain ⟨j, hj⟩ := List.mem_iff_getElem?.1 hx
      rw [hno j x hj]; rfl)
    have HFL := Lib.hid hfl; clear hfl hno CI0
    go_enter Try.func49, Try.ntmps49
    go_wp2_with (first
      | (go_at_call 54; (with_reducible refine (Tf.whole CI.out HM).mono ?_); clear HM; rintro e w_ ⟨v_, L_, rfl, ⟨rfl, rfl⟩, HM⟩; dsimp only)
      | (refine Go.Proofs.Ytccbpcdepgnmgaa.M.at_mem rfl ?_; first | (refine Go.Proofs.Ytccbpcdepgnmgaa.M.at_load 26 rfl ?_; first | (refine Go.Proofs.Ytccbpcdepgnmgaa.M.load_row_m HM rfl 26 _ rfl 0 _ _ _ rfl rfl (by kernel_rfl) (by kernel_rfl) ?_; go_simp)) | (refine Go.Proofs.Ytccbpcdepgnmgaa.M.at_store 26 rfl ?_; first | (refine Go.Proofs.Ytccbpcdepgnmgaa.M.store_row_m HM rfl 26 _ _ rfl 0 _ _ _ _ rfl rfl rfl (by kernel_rfl) rfl (by simp [Value.oneCell']) ?_; clear HM; intro w_ HM; (try simp only [Go.Proofs.Ytccbpcdepgnmgaa.M.nrm] at HM); go_simp)) | (refine Go.Proofs.Ytccbpcdepgnmgaa.M.at_alloc 26 rfl ?_; first | (refine Go.Proofs.Ytccbpcdepgnmgaa.M.alloc_m HM rfl rfl 26 rfl (.agg #[(.int .i64 0), (.int .u64 0), (.int .i64 0), (.int .i64 0), (.int .u64 0), (.bool false), (.bool false), (.bool false), (.bool false), (.int .i64 0)]) (by kernel_rfl) #[(.int .i64 0), (.int .u64 0), (.int .i64 0), (.int .i64 0), (.int .u64 0), (.bool false), (.bool false), (.bool false), (.bool false), (.int .i64 0)] rfl ?_; clear HM; intro g_ w_ HM; go_simp)) | ((fail_if_success (refine Go.Proofs.Ytccbpcdepgnmgaa.M.lit_t rfl ?_)); (fail_if_success (refine Go.Proofs.Ytccbpcdepgnmgaa.M.lit_f rfl ?_)); refine Go.Proofs.Ytccbpcdepgnmgaa.M.split_guard rfl rfl ?_ ?_ <;> (intro hg_; simp only [hg_]; try simp only [Go.Proofs.Ytccbpcdepgnmgaa.M.hgs] at hg_)))
      | (refine Mc.at_cmp _ rfl ?_; refine Mc.cmp_m rfl _ rfl _ _ _ rfl _ _ _ rfl rfl _ rfl ?_ ?_ <;> (intro hg_; try simp only [Go.Proofs.Ytccbpcdepgnmgaa.M.hgs] at hg_; first | (exfalso; first | omega | (simp at hg_; done)) | (go_simp)))
      | ((fail_if_success (refine Go.Proofs.Ytccbpcdepgnmgaa.M.lit_t rfl ?_)); (fail_if_success (refine Go.Proofs.Ytccbpcdepgnmgaa.M.lit_f rfl ?_)); refine Go.Proofs.Ytccbpcdepgnmgaa.M.split_guard rfl rfl ?_ ?_ <;> (intro hg_; simp only [hg_]; try simp only [Go.Proofs.Ytccbpcdepgnmgaa.M.hgs] at hg_)))
    all_goals
      go_ret
      exact ⟨_, _, rfl, ⟨n, cur0, by rw [HFL.out, HN.out], Nat.le_refl _, rfl, HCS.out, by rw [HFL.out]; exact HR.out, rfl⟩, HM⟩
  · have hkk : k0 < n := by have := (List.getElem?_eq_some_iff.1 hx0).1; have := HN.out; omega
    have CI := Lib.hid (weaken (R2 := fun r L => r = .int .i64 k0 ∧ L = [(g, row cur0 26), (b1, row #[.int .i64 asid] 3), (b2, row #[.int .u64 va] 22)]) CI0 (fun r L ⟨k, q1, q2, q3, q4⟩ => by
      rcases q3 with ⟨rfl, _⟩ | ⟨x, q3, q5, q6⟩
      · rw [q2 k0 x0 hkk hx0] at hp0; cases hp0
      · refine ⟨?_, q4⟩
        have e : k = k0 := by
          rcases Nat.lt_trichotomy k k0 with h | h | h
          · rw [hno k x h q5] at q6; cases q6
          · exact h
          · rw [q2 k0 x0 h hx0] at hp0; cases hp0
        rw [q3, e]))
    have hst := Part.start hx0 hp0 hno
    have HST := Lib.hid hst; clear hst hx0 hp0 hno CI0
    have hn1 : (n : Int) ≤ 1000 := by omega
    have hkk1 : (k0 : Int) < n := by omega
    go_enter Try.func49, Try.ntmps49
    go_wp2_with (first
      | (go_at_call 54; (with_reducible refine (Tf.whole CI.out HM).mono ?_); clear HM; rintro e w_ ⟨v_, L_, rfl, ⟨rfl, rfl⟩, HM⟩; dsimp only)
      | (refine Go.Proofs.Ytccbpcdepgnmgaa.M.at_mem rfl ?_; first | (refine Go.Proofs.Ytccbpcdepgnmgaa.M.at_load 26 rfl ?_; first | (refine Go.Proofs.Ytccbpcdepgnmgaa.M.load_row_m HM rfl 26 _ rfl 0 _ _ _ rfl rfl (by kernel_rfl) (by kernel_rfl) ?_; go_simp)) | (refine Go.Proofs.Ytccbpcdepgnmgaa.M.at_store 26 rfl ?_; first | (refine Go.Proofs.Ytccbpcdepgnmgaa.M.store_row_m HM rfl 26 _ _ rfl 0 _ _ _ _ rfl rfl rfl (by kernel_rfl) rfl (by simp [Value.oneCell']) ?_; clear HM; intro w_ HM; (try simp only [Go.Proofs.Ytccbpcdepgnmgaa.M.nrm] at HM); go_simp)) | (refine Go.Proofs.Ytccbpcdepgnmgaa.M.at_alloc 26 rfl ?_; first | (refine Go.Proofs.Ytccbpcdepgnmgaa.M.alloc_m HM rfl rfl 26 rfl (.agg #[(.int .i64 0), (.int .u64 0), (.int .i64 0), (.int .i64 0), (.int .u64 0), (.bool false), (.bool false), (.bool false), (.bool false), (.int .i64 0)]) (by kernel_rfl) #[(.int .i64 0), (.int .u64 0), (.int .i64 0), (.int .i64 0), (.int .u64 0), (.bool false), (.bool false), (.bool false), (.bool false), (.int .i64 0)] rfl ?_; clear HM; intro g_ w_ HM; go_simp)) | ((fail_if_success (refine Go.Proofs.Ytccbpcdepgnmgaa.M.lit_t rfl ?_)); (fail_if_success (refine Go.Proofs.Ytccbpcdepgnmgaa.M.lit_f rfl ?_)); refine Go.Proofs.Ytccbpcdepgnmgaa.M.split_guard rfl rfl ?_ ?_ <;> (intro hg_; simp only [hg_]; try simp only [Go.Proofs.Ytccbpcdepgnmgaa.M.hgs] at hg_)))
      | (refine Mc.at_cmp _ rfl ?_; refine Mc.cmp_m rfl _ rfl _ _ _ rfl _ _ _ rfl rfl _ rfl ?_ ?_ <;> (intro hg_; try simp only [Go.Proofs.Ytccbpcdepgnmgaa.M.hgs] at hg_; first | (exfalso; first | omega | (simp at hg_; done)) | (go_simp)))
      | ((fail_if_success (refine Go.Proofs.Ytccbpcdepgnmgaa.M.lit_t rfl ?_)); (fail_if_success (refine Go.Proofs.Ytccbpcdepgnmgaa.M.lit_f rfl ?_)); refine Go.Proofs.Ytccbpcdepgnmgaa.M.split_guard rfl rfl ?_ ?_ <;> (intro hg_; simp only [hg_]; try simp only [Go.Proofs.Ytccbpcdepgnmgaa.M.hgs] at hg_)))
    go_loopw [5, 6] (fun a b wr => ∃ (i j : Nat) (m : List E) (cur : Array Value), a = .int .i64 i ∧ b = .int .i64 j ∧ Part p l m i j ∧ Row m 0 cur ∧ cur.size = cap * 10 ∧ Mem w _ [(g, row cur 26), (b1, row #[.int .i64 asid] 3), (b2, row #[.int .u64 va] 22)] wr) (fun _ b _ => n - (intOf b).toNat)
    case atStart => exact ⟨k0, k0 + 1, l, cur0, rfl, by first | rfl | (refine congrArg (fun z => Value.int .i64 z) ?_; omega), HST.out, HR.out, HCS.out, HM⟩
    case round =>
      clear HM HST
      obtain ⟨i, j, m, cur, rfl, rfl, hP, hRm, hcm, HM⟩ := hrel
      have hle := hP.le
      have hlti := hP.lt
      have hml := hP.len
      have hnn := HN.out
      by_cases hlt : j < n
      · obtain ⟨x, hx⟩ : ∃ x, l[j]? = some x := ⟨_, List.getElem?_eq_getElem (by omega)⟩
        have hg := hRm.get (hP.get.trans hx)
        have hsz := hRm.2
        rw [Nat.zero_add] at hg
        have HG := Lib.hid hg; clear hg
        have hk1 : (j : Int) < n := by omega
        have hi1 : (i : Int) < n := by omega
        have hoff : j * 10 + 10 ≤ cur.size := by omega
        have HOFF := Lib.hid hoff
        have hof2 : i * 10 + x.cells.size ≤ cur.size := by rw [E.size]; omega
        have HOF2 := Lib.hid hof2; clear hoff hof2 hsz
        have CF := fun_va b1 b2 asid va v0 v1 x
        rw [HPP.out x] at CF
        have HSK := Lib.hid (fun h => hP.skip (x := x) hx h)
        have HKP := Lib.hid (fun h => hP.keep (x := x) hx h)
        have HRS := Lib.hid (Tf.Row.set hRm x (i := i) (by omega))
        have HRM := Lib.hid hRm; have HCM := Lib.hid hcm
        have HSS := Lib.hid (splice_size cur (i * 10) x.cells.toList (by rw [Array.length_toList, E.size]; omega))
        clear hP hRm hcm hx hle hml hnn
        generalize hpx : p x = b at CF
        have HB := Lib.hid hpx; clear hpx
        cases b with
        | true =>
          go_wp2_with (first
            | (go_at_call 34; (with_reducible refine (Go.Proofs.Ytccbpcdepgnmgaa.M.Does.call (CF) HM (Go.Proofs.Ytccbpcdepgnmgaa.M.perm2 2 2 rfl rfl)).mono ?_); clear HM; rintro e w_ ⟨v_, L_, rfl, ⟨rfl, rfl⟩, HM⟩; (try simp only [List.eraseIdx_cons_zero, List.eraseIdx_cons_succ, List.cons_append, List.nil_append] at HM); dsimp only)
            | (refine Sl.at_indexAddr 36 rfl ?_; refine Sl.indexAddr_m rfl _ rfl 36 rfl 26 (by kernel_rfl) 10 (by kernel_rfl) _ 0 n cap rfl .i64 (j : Int) rfl (by omega) (by omega) (j * 10) (by omega) ?_; go_simp)
            | (refine Go.Proofs.Ytccbpcdepgnmgaa.M.at_mem rfl ?_; first | (refine Go.Proofs.Ytccbpcdepgnmgaa.M.at_load 26 rfl ?_; first | (refine Go.Proofs.Ytccbpcdepgnmgaa.M.load_part_m HM rfl 26 _ rfl 0 g (j * 10) 10 _ cur rfl rfl HOFF.out x.cells HG.out (by kernel_rfl) (by kernel_rfl) ?_; go_simp) | (refine Go.Proofs.Ytccbpcdepgnmgaa.M.load_row_m HM rfl 26 _ rfl 0 _ _ _ rfl rfl (by kernel_rfl) (by kernel_rfl) ?_; go_simp) | (refine Go.Proofs.Ytccbpcdepgnmgaa.M.load_row_m HM rfl 26 _ rfl 1 _ _ _ rfl rfl (by kernel_rfl) (by kernel_rfl) ?_; go_simp) | (refine Go.Proofs.Ytccbpcdepgnmgaa.M.load_row_m HM rfl 26 _ rfl 2 _ _ _ rfl rfl (by kernel_rfl) (by kernel_rfl) ?_; go_simp) | (refine Go.Proofs.Ytccbpcdepgnmgaa.M.load_row_m HM rfl 26 _ rfl 3 _ _ _ rfl rfl (by kernel_rfl) (by kernel_rfl) ?_; go_simp)) | (refine Go.Proofs.Ytccbpcdepgnmgaa.M.at_store 26 rfl ?_; first | (refine Sn.store_part_m HM rfl 26 _ _ rfl 3 g (i * 10) _ cur x.cells rfl rfl rfl (by kernel_rfl) (E.one x) HOF2.out ?_; clear HM; intro w_ HM; (try simp only [List.set_cons_zero, List.set_cons_succ] at HM); go_simp) | (refine Go.Proofs.Ytccbpcdepgnmgaa.M.store_row_m HM rfl 26 _ _ rfl 0 _ _ _ x.cells rfl rfl rfl (by kernel_rfl) rfl (E.one x) ?_; clear HM; intro w_ HM; (try simp only [List.set_cons_zero, List.set_cons_succ] at HM); go_simp) | (refine Go.Proofs.Ytccbpcdepgnmgaa.M.store_row_m HM rfl 26 _ _ rfl 0 _ _ _ _ rfl rfl rfl (by kernel_rfl) rfl (by simp [Value.oneCell']) ?_; clear HM; intro w_ HM; (try simp only [Go.Proofs.Ytccbpcdepgnmgaa.M.nrm] at HM); go_simp) | (refine Go.Proofs.Ytccbpcdepgnmgaa.M.store_row_m HM rfl 26 _ _ rfl 1 _ _ _ _ rfl rfl rfl (by kernel_rfl) rfl (by simp [Value.oneCell']) ?_; clear HM; intro w_ HM; (try simp only [Go.Proofs.Ytccbpcdepgnmgaa.M.nrm] at HM); go_simp) | (refine Go.Proofs.Ytccbpcdepgnmgaa.M.store_row_m HM rfl 26 _ _ rfl 2 _ _ _ _ rfl rfl rfl (by kernel_rfl) rfl (by simp [Value.oneCell']) ?_; clear HM; intro w_ HM; (try simp only [Go.Proofs.Ytccbpcdepgnmgaa.M.nrm] at HM); go_simp) | (refine Go.Proofs.Ytccbpcdepgnmgaa.M.store_row_m HM rfl 26 _ _ rfl 3 _ _ _ _ rfl rfl rfl (by kernel_rfl) rfl (by simp [Value.oneCell']) ?_; clear HM; intro w_ HM; (try simp only [Go.Proofs.Ytccbpcdepgnmgaa.M.nrm] at HM); go_simp)) | (refine Go.Proofs.Ytccbpcdepgnmgaa.M.at_alloc 26 rfl ?_; first | (refine Go.Proofs.Ytccbpcdepgnmgaa.M.alloc_m HM rfl rfl 26 rfl (.agg E.zero.cells) (by kernel_rfl) E.zero.cells rfl ?_; clear HM; intro g_ w_ HM; go_simp) | (refine Go.Proofs.Ytccbpcdepgnmgaa.M.alloc_m HM rfl rfl 26 rfl (.agg #[(.int .i64 0), (.int .u64 0), (.int .i64 0), (.int .i64 0), (.int .u64 0), (.bool false), (.bool false), (.bool false), (.bool false), (.int .i64 0)]) (by kernel_rfl) #[(.int .i64 0), (.int .u64 0), (.int .i64 0), (.int .i64 0), (.int .u64 0), (.bool false), (.bool false), (.bool false), (.bool false), (.int .i64 0)] rfl ?_; clear HM; intro g_ w_ HM; go_simp)) | ((fail_if_success (refine Go.Proofs.Ytccbpcdepgnmgaa.M.lit_t rfl ?_)); (fail_if_success (refine Go.Proofs.Ytccbpcdepgnmgaa.M.lit_f rfl ?_)); refine Go.Proofs.Ytccbpcdepgnmgaa.M.split_guard rfl rfl ?_ ?_ <;> (intro hg_; simp only [hg_]; try simp only [Go.Proofs.Ytccbpcdepgnmgaa.M.hgs] at hg_)))
            | (refine Mc.at_cmp _ rfl ?_; refine Mc.cmp_m rfl _ rfl _ _ _ rfl _ _ _ rfl rfl _ rfl ?_ ?_ <;> (intro hg_; try simp only [Go.Proofs.Ytccbpcdepgnmgaa.M.hgs] at hg_; first | (exfalso; first | omega | (simp at hg_; done)) | (go_simp)))
            | ((fail_if_success (refine Go.Proofs.Ytccbpcdepgnmgaa.M.lit_t rfl ?_)); (fail_if_success (refine Go.Proofs.Ytccbpcdepgnmgaa.M.lit_f rfl ?_)); refine Go.Proofs.Ytccbpcdepgnmgaa.M.split_guard rfl rfl ?_ ?_ <;> (intro hg_; simp only [hg_]; try simp only [Go.Proofs.Ytccbpcdepgnmgaa.M.hgs] at hg_)))
          all_goals
            go_roundw
            case rel => exact ⟨i, j + 1, m, cur, rfl, by first | rfl | (refine congrArg (fun z => Value.int .i64 z) ?_; omega), HSK.out HB.out, HRM.out, HCM.out, ((HM.perm (perm_at 3 rfl)).take (A := [_, _, _]))⟩
            case measure => simp [intOf]; omega
        | false =>
          go_wp2_with (first
            | (go_at_call 34; (with_reducible refine (Go.Proofs.Ytccbpcdepgnmgaa.M.Does.call (CF) HM (Go.Proofs.Ytccbpcdepgnmgaa.M.perm2 2 2 rfl rfl)).mono ?_); clear HM; rintro e w_ ⟨v_, L_, rfl, ⟨rfl, rfl⟩, HM⟩; (try simp only [List.eraseIdx_cons_zero, List.eraseIdx_cons_succ, List.cons_append, List.nil_append] at HM); dsimp only)
            | (refine Sl.at_indexAddr 36 rfl ?_; refine Sl.indexAddr_m rfl _ rfl 36 rfl 26 (by kernel_rfl) 10 (by kernel_rfl) _ 0 n cap rfl .i64 (j : Int) rfl (by omega) (by omega) (j * 10) (by omega) ?_; go_simp)
            | (refine Sl.at_indexAddr 36 rfl ?_; refine Sl.indexAddr_m rfl _ rfl 36 rfl 26 (by kernel_rfl) 10 (by kernel_rfl) _ 0 n cap rfl .i64 (i : Int) rfl (by omega) (by omega) (i * 10) (by omega) ?_; go_simp)
            | (refine Go.Proofs.Ytccbpcdepgnmgaa.M.at_mem rfl ?_; first | (refine Go.Proofs.Ytccbpcdepgnmgaa.M.at_load 26 rfl ?_; first | (refine Go.Proofs.Ytccbpcdepgnmgaa.M.load_part_m HM rfl 26 _ rfl 0 g (j * 10) 10 _ cur rfl rfl HOFF.out x.cells HG.out (by kernel_rfl) (by kernel_rfl) ?_; go_simp) | (refine Go.Proofs.Ytccbpcdepgnmgaa.M.load_row_m HM rfl 26 _ rfl 0 _ _ _ rfl rfl (by kernel_rfl) (by kernel_rfl) ?_; go_simp) | (refine Go.Proofs.Ytccbpcdepgnmgaa.M.load_row_m HM rfl 26 _ rfl 1 _ _ _ rfl rfl (by kernel_rfl) (by kernel_rfl) ?_; go_simp) | (refine Go.Proofs.Ytccbpcdepgnmgaa.M.load_row_m HM rfl 26 _ rfl 2 _ _ _ rfl rfl (by kernel_rfl) (by kernel_rfl) ?_; go_simp) | (refine Go.Proofs.Ytccbpcdepgnmgaa.M.load_row_m HM rfl 26 _ rfl 3 _ _ _ rfl rfl (by kernel_rfl) (by kernel_rfl) ?_; go_simp)) | (refine Go.Proofs.Ytccbpcdepgnmgaa.M.at_store 26 rfl ?_; first | (refine Sn.store_part_m HM rfl 26 _ _ rfl 3 g (i * 10) _ cur x.cells rfl rfl rfl (by kernel_rfl) (E.one x) HOF2.out ?_; clear HM; intro w_ HM; (try simp only [List.set_cons_zero, List.set_cons_succ] at HM); go_simp) | (refine Go.Proofs.Ytccbpcdepgnmgaa.M.store_row_m HM rfl 26 _ _ rfl 0 _ _ _ x.cells rfl rfl rfl (by kernel_rfl) rfl (E.one x) ?_; clear HM; intro w_ HM; (try simp only [List.set_cons_zero, List.set_cons_succ] at HM); go_simp) | (refine Go.Proofs.Ytccbpcdepgnmgaa.M.store_row_m HM rfl 26 _ _ rfl 0 _ _ _ _ rfl rfl rfl (by kernel_rfl) rfl (by simp [Value.oneCell']) ?_; clear HM; intro w_ HM; (try simp only [Go.Proofs.Ytccbpcdepgnmgaa.M.nrm] at HM); go_simp) | (refine Go.Proofs.Ytccbpcdepgnmgaa.M.store_row_m HM rfl 26 _ _ rfl 1 _ _ _ _ rfl rfl rfl (by kernel_rfl) rfl (by simp [Value.oneCell']) ?_; clear HM; intro w_ HM; (try simp only [Go.Proofs.Ytccbpcdepgnmgaa.M.nrm] at HM); go_simp) | (refine Go.Proofs.Ytccbpcdepgnmgaa.M.store_row_m HM rfl 26 _ _ rfl 2 _ _ _ _ rfl rfl rfl (by kernel_rfl) rfl (by simp [Value.oneCell']) ?_; clear HM; intro w_ HM; (try simp only [Go.Proofs.Ytccbpcdepgnmgaa.M.nrm] at HM); go_simp) | (refine Go.Proofs.Ytccbpcdepgnmgaa.M.store_row_m HM rfl 26 _ _ rfl 3 _ _ _ _ rfl rfl rfl (by kernel_rfl) rfl (by simp [Value.oneCell']) ?_; clear HM; intro w_ HM; (try simp only [Go.Proofs.Ytccbpcdepgnmgaa.M.nrm] at HM); go_simp)) | (refine Go.Proofs.Ytccbpcdepgnmgaa.M.at_alloc 26 rfl ?_; first | (refine Go.Proofs.Ytccbpcdepgnmgaa.M.alloc_m HM rfl rfl 26 rfl (.agg E.zero.cells) (by kernel_rfl) E.zero.cells rfl ?_; clear HM; intro g_ w_ HM; go_simp) | (refine Go.Proofs.Ytccbpcdepgnmgaa.M.alloc_m HM rfl rfl 26 rfl (.agg #[(.int .i64 0), (.int .u64 0), (.int .i64 0), (.int .i64 0), (.int .u64 0), (.bool false), (.bool false), (.bool false), (.bool false), (.int .i64 0)]) (by kernel_rfl) #[(.int .i64 0), (.int .u64 0), (.int .i64 0), (.int .i64 0), (.int .u64 0), (.bool false), (.bool false), (.bool false), (.bool false), (.int .i64 0)] rfl ?_; clear HM; intro g_ w_ HM; go_simp)) | ((fail_if_success (refine Go.Proofs.Ytccbpcdepgnmgaa.M.lit_t rfl ?_)); (fail_if_success (refine Go.Proofs.Ytccbpcdepgnmgaa.M.lit_f rfl ?_)); refine Go.Proofs.Ytccbpcdepgnmgaa.M.split_guard rfl rfl ?_ ?_ <;> (intro hg_; simp only [hg_]; try simp only [Go.Proofs.Ytccbpcdepgnmgaa.M.hgs] at hg_)))
            | (refine Mc.at_cmp _ rfl ?_; refine Mc.cmp_m rfl _ rfl _ _ _ rfl _ _ _ rfl rfl _ rfl ?_ ?_ <;> (intro hg_; try simp only [Go.Proofs.Ytccbpcdepgnmgaa.M.hgs] at hg_; first | (exfalso; first | omega | (simp at hg_; done)) | (go_simp)))
            | ((fail_if_success (refine Go.Proofs.Ytccbpcdepgnmgaa.M.lit_t rfl ?_)); (fail_if_success (refine Go.Proofs.Ytccbpcdepgnmgaa.M.lit_f rfl ?_)); refine Go.Proofs.Ytccbpcdepgnmgaa.M.split_guard rfl rfl ?_ ?_ <;> (intro hg_; simp only [hg_]; try simp only [Go.Proofs.Ytccbpcdepgnmgaa.M.hgs] at hg_)))
          all_goals
            go_roundw
            case rel => exact ⟨i + 1, j + 1, m.set i x, splice cur (i * 10) x.cells.toList, by first | rfl | (refine congrArg (fun z => Value.int .i64 z) ?_; omega), by first | rfl | (refine congrArg (fun z => Value.int .i64 z) ?_; omega), HKP.out HB.out, HRS.out, by rw [HSS.out, HCM.out], ((HM.perm (perm_at 3 rfl)).take (A := [_, _, _]))⟩
            case measure => simp [intOf]; omega
      · obtain rfl : j = n := by omega
        have hcl : i * 10 + (j - i) * 10 ≤ cur.size := by omega
        have HCL := Lib.hid hcl
        have hst := (hnn ▸ hP : Part p l m i l.length).stop
        have hil : (l.filter (fun e => !p e)).length = i := by rw [← hst, List.length_take]; omega
        have HST := Lib.hid hst; have HIL := Lib.hid hil; have HRM := Lib.hid hRm; have HCM := Lib.hid hcm
        have hi1 : (i : Int) < j := by omega
        have hML := Lib.hid hml
        clear hst hil hRm hcm hP hcl hml hle hnn
        go_wp2_with (first
          | (refine Ts.at_slice 36 rfl ?_; first | (refine Ts.slice_m rfl _ rfl 36 26 rfl (by kernel_rfl) 10 (by kernel_rfl) (some ⟨g, 0, none⟩) j cap rfl i j cap (Or.inl ⟨rfl, rfl⟩) (Or.inl ⟨rfl, rfl, rfl⟩) (Or.inr ⟨_, rfl, by omega⟩) (.slice (some ⟨g, i * 10, none⟩) (j - i) (cap - i)) (by rw [if_neg (by omega)]; simp [add_at]) ?_; go_simp) | (refine Ts.slice_m rfl _ rfl 36 26 rfl (by kernel_rfl) 10 (by kernel_rfl) (some ⟨g, 0, none⟩) j cap rfl 0 i cap (Or.inl ⟨rfl, rfl⟩) (Or.inr ⟨_, rfl, by omega⟩) (Or.inl ⟨rfl, rfl⟩) _ (slice_low g j cap i) ?_; go_simp))
          | (refine Sn.at_clear rfl ?_; refine Sn.clear_m HM rfl _ 36 26 rfl 10 (by kernel_rfl) (by kernel_rfl) 0 g (i * 10) (j - i) (cap - i) _ rfl rfl HCL.out ?_; clear HM; intro cur2_ w_ s1_ s2_ HM; (try simp only [List.set_cons_zero] at HM); go_simp)
          | (refine Go.Proofs.Ytccbpcdepgnmgaa.M.at_mem rfl ?_; first | (refine Go.Proofs.Ytccbpcdepgnmgaa.M.at_load 26 rfl ?_; first | (refine Go.Proofs.Ytccbpcdepgnmgaa.M.load_row_m HM rfl 26 _ rfl 0 _ _ _ rfl rfl (by kernel_rfl) (by kernel_rfl) ?_; go_simp)) | (refine Go.Proofs.Ytccbpcdepgnmgaa.M.at_store 26 rfl ?_; first | (refine Go.Proofs.Ytccbpcdepgnmgaa.M.store_row_m HM rfl 26 _ _ rfl 0 _ _ _ _ rfl rfl rfl (by kernel_rfl) rfl (by simp [Value.oneCell']) ?_; clear HM; intro w_ HM; (try simp only [Go.Proofs.Ytccbpcdepgnmgaa.M.nrm] at HM); go_simp)) | (refine Go.Proofs.Ytccbpcdepgnmgaa.M.at_alloc 26 rfl ?_; first | (refine Go.Proofs.Ytccbpcdepgnmgaa.M.alloc_m HM rfl rfl 26 rfl (.agg #[(.int .i64 0), (.int .u64 0), (.int .i64 0), (.int .i64 0), (.int .u64 0), (.bool false), (.bool false), (.bool false), (.bool false), (.int .i64 0)]) (by kernel_rfl) #[(.int .i64 0), (.int .u64 0), (.int .i64 0), (.int .i64 0), (.int .u64 0), (.bool false), (.bool false), (.bool false), (.bool false), (.int .i64 0)] rfl ?_; clear HM; intro g_ w_ HM; go_simp)) | ((fail_if_success (refine Go.Proofs.Ytccbpcdepgnmgaa.M.lit_t rfl ?_)); (fail_if_success (refine Go.Proofs.Ytccbpcdepgnmgaa.M.lit_f rfl ?_)); refine Go.Proofs.Ytccbpcdepgnmgaa.M.split_guard rfl rfl ?_ ?_ <;> (intro hg_; simp only [hg_]; try simp only [Go.Proofs.Ytccbpcdepgnmgaa.M.hgs] at hg_)))
          | (refine Mc.at_cmp _ rfl ?_; refine Mc.cmp_m rfl _ rfl _ _ _ rfl _ _ _ rfl rfl _ rfl ?_ ?_ <;> (intro hg_; try simp only [Go.Proofs.Ytccbpcdepgnmgaa.M.hgs] at hg_; first | (exfalso; first | omega | (simp at hg_; done)) | (go_simp)))
          | ((fail_if_success (refine Go.Proofs.Ytccbpcdepgnmgaa.M.lit_t rfl ?_)); (fail_if_success (refine Go.Proofs.Ytccbpcdepgnmgaa.M.lit_f rfl ?_)); refine Go.Proofs.Ytccbpcdepgnmgaa.M.split_guard rfl rfl ?_ ?_ <;> (intro hg_; simp only [hg_]; try simp only [Go.Proofs.Ytccbpcdepgnmgaa.M.hgs] at hg_)))
        all_goals
          go_ret
          refine ⟨_, _, rfl, ⟨i, cur2_, HIL.out, by omega, rfl, by rw [s1_, HCM.out], ?_, rfl⟩, HM⟩
          refine Row.of_take ?_
          rw [HIL.out, s2_, ← HST.out]
          have h3 := congrArg (List.take (i * 10)) HRM.out.take
          rw [List.take_take, flat_take, show min (i * 10) (m.length * 10) = i * 10 by have := hML.out; have := HN.out; omega] at h3
          exact h3
set_option maxHeartbeats 2000000 in
theorem fun_as (b1 : Nat) (asid : Int) (e : E) : Does Try.prog 35 #[.agg e.cells, .pointer (some ⟨b1, 0, none⟩)] [(b1, row #[.int .i64 asid] 3)] fun r L => r = .bool (decide (e.asid = asid)) ∧ L = [(b1, row #[.int .i64 asid] 3)] := by
  obtain ⟨ea, va, level, kind, out, user, write, exec, used, attr⟩ := e
  simp only [E.cells]
  intro w hH
  have HM := Mem.start hH
  go_enter Try.func35, Try.ntmps35
  go_wp2_with (first
    | (refine Go.Proofs.Ytccbpcdepgnmgaa.M.at_mem rfl ?_; first | (refine Go.Proofs.Ytccbpcdepgnmgaa.M.at_load 3 rfl ?_; first | (refine Go.Proofs.Ytccbpcdepgnmgaa.M.load_cell_m HM rfl 3 _ rfl 0 _ _ _ _ _ rfl rfl rfl (by kernel_rfl) (by kernel_rfl) ?_; go_simp) | (refine Go.Proofs.Ytccbpcdepgnmgaa.M.load_cell_m HM rfl 3 _ rfl 1 _ _ _ _ _ rfl rfl rfl (by kernel_rfl) (by kernel_rfl) ?_; go_simp)) | (refine Go.Proofs.Ytccbpcdepgnmgaa.M.at_box 26 rfl ?_; first | (refine Go.Proofs.Ytccbpcdepgnmgaa.M.box_m HM rfl rfl 26 _ rfl _ rfl ?_; clear HM; intro g_ w_ HM; go_simp)) | ((fail_if_success (refine Go.Proofs.Ytccbpcdepgnmgaa.M.lit_t rfl ?_)); (fail_if_success (refine Go.Proofs.Ytccbpcdepgnmgaa.M.lit_f rfl ?_)); refine Go.Proofs.Ytccbpcdepgnmgaa.M.split_guard rfl rfl ?_ ?_ <;> (intro hg_; simp only [hg_]; try simp only [Go.Proofs.Ytccbpcdepgnmgaa.M.hgs] at hg_)))
    | ((fail_if_success (refine Go.Proofs.Ytccbpcdepgnmgaa.M.lit_t rfl ?_)); (fail_if_success (refine Go.Proofs.Ytccbpcdepgnmgaa.M.lit_f rfl ?_)); refine Go.Proofs.Ytccbpcdepgnmgaa.M.split_guard rfl rfl ?_ ?_ <;> (intro hg_; simp only [hg_]; try simp only [Go.Proofs.Ytccbpcdepgnmgaa.M.hgs] at hg_)))
  all_goals
    go_ret
    exact ⟨_, _, rfl, ⟨congrArg Value.bool (by rw [Bool.eq_iff_iff]; simp), rfl⟩, HM.drop (A := [_])⟩
set_option maxHeartbeats 2000000 in
theorem idx_as (b1 : Nat) (asid : Int) (p : E → Bool) (hp : ∀ e : E, (decide (e.asid = asid)) = p e) (l : List E) (g n cap : Nat) (cur : Array Value) (hR : Row l 0 cur) (hn : l.length = n) (h1 : n ≤ 1000) : Does Try.prog 54 #[.slice (some ⟨g, 0, none⟩) n cap, .func (.func 35) #[] #[.pointer (some ⟨b1, 0, none⟩)]] [(g, row cur 26), (b1, row #[.int .i64 asid] 3)]
    fun r L => ∃ k, k ≤ n ∧ (∀ j y, j < k → l[j]? = some y → p y = false) ∧ ((k = n ∧ r = .int .i64 (-1)) ∨ ∃ x, r = .int .i64 k ∧ l[k]? = some x ∧ p x = true) ∧ L = [(g, row cur 26), (b1, row #[.int .i64 asid] 3)] := by
  intro w hH
  have HM := Mem.start hH
  have HR := Lib.hid hR; have HN := Lib.hid hn; have HPP := Lib.hid hp; clear hR hn hp
  go_enter Try.func54, Try.ntmps54
  go_wp2_with (first
    | (refine Go.Proofs.Ytccbpcdepgnmgaa.M.at_mem rfl ?_; first | (refine Go.Proofs.Ytccbpcdepgnmgaa.M.at_load 26 rfl ?_; first | (refine Go.Proofs.Ytccbpcdepgnmgaa.M.load_row_m HM rfl 26 _ rfl 0 _ _ _ rfl rfl (by kernel_rfl) (by kernel_rfl) ?_; go_simp)) | ((fail_if_success (refine Go.Proofs.Ytccbpcdepgnmgaa.M.lit_t rfl ?_)); (fail_if_success (refine Go.Proofs.Ytccbpcdepgnmgaa.M.lit_f rfl ?_)); refine Go.Proofs.Ytccbpcdepgnmgaa.M.split_guard rfl rfl ?_ ?_ <;> (intro hg_; simp only [hg_]; try simp only [Go.Proofs.Ytccbpcdepgnmgaa.M.hgs] at hg_)))
    | ((fail_if_success (refine Go.Proofs.Ytccbpcdepgnmgaa.M.lit_t rfl ?_)); (fail_if_success (refine Go.Proofs.Ytccbpcdepgnmgaa.M.lit_f rfl ?_)); refine Go.Proofs.Ytccbpcdepgnmgaa.M.split_guard rfl rfl ?_ ?_ <;> (intro hg_; simp only [hg_]; try simp only [Go.Proofs.Ytccbpcdepgnmgaa.M.hgs] at hg_)))
  go_loopw [8] (fun iv wr => ∃ k : Nat, k ≤ n ∧ iv = .int .i64 k ∧ (∀ j y, j < k → l[j]? = some y → p y = false) ∧ Mem w _ [(g, row cur 26), (b1, row #[.int .i64 asid] 3)] wr) (fun iv _ => n - (intOf iv).toNat)
  case atStart => exact ⟨0, by omega, rfl, fun j y hj => absurd hj (Nat.not_lt_zero _), HM⟩
  case round =>
    clear HM
    obtain ⟨k, k19, rfl, hno, HM⟩ := hrel
    have HNO := Lib.hid hno; clear hno
    by_cases hlt : k < n
    · obtain ⟨x, hx⟩ : ∃ x, l[k]? = some x := ⟨_, List.getElem?_eq_getElem (by have := HN.out; omega)⟩
      have hg := HR.out.get hx
      have hsz := HR.out.2
      have hnn := HN.out
      rw [Nat.zero_add] at hg
      have HG := Lib.hid hg; clear hg
      have hk1 : (k : Int) < n := by omega
      have hn1 : (n : Int) ≤ 1000 := by omega
      have hoff : k * 10 + 10 ≤ cur.size := by omega
      have HOFF := Lib.hid hoff; clear hoff hsz hnn
      have HX := Lib.hid hx
      have CF := fun_as b1 asid x
      rw [HPP.out x] at CF
      clear hx
      generalize hpx : p x = b at CF
      have HP := Lib.hid hpx; clear hpx
      cases b with
      | true =>
        go_wp2_with (first
          | (go_at_call 35; (with_reducible refine (Go.Proofs.Ytccbpcdepgnmgaa.M.Does.call (CF) HM (perm_at 1 rfl)).mono ?_); clear HM; rintro e w_ ⟨v_, L_, rfl, ⟨rfl, rfl⟩, HM⟩; (try simp only [List.eraseIdx_cons_zero, List.eraseIdx_cons_succ, List.cons_append, List.nil_append] at HM); dsimp only)
          | (refine Sl.at_indexAddr 36 rfl ?_; refine Sl.indexAddr_m rfl _ rfl 36 rfl 26 (by kernel_rfl) 10 (by kernel_rfl) _ 0 n cap rfl .i64 (k : Int) rfl (by omega) (by omega) (k * 10) (by omega) ?_; go_simp)
          | (refine Go.Proofs.Ytccbpcdepgnmgaa.M.at_mem rfl ?_; first | (refine Go.Proofs.Ytccbpcdepgnmgaa.M.at_load 26 rfl ?_; first | (refine Go.Proofs.Ytccbpcdepgnmgaa.M.load_part_m HM rfl 26 _ rfl 0 g (k * 10) 10 _ cur rfl rfl HOFF.out x.cells HG.out (by kernel_rfl) (by kernel_rfl) ?_; go_simp) | (refine Go.Proofs.Ytccbpcdepgnmgaa.M.load_row_m HM rfl 26 _ rfl 0 _ _ _ rfl rfl (by kernel_rfl) (by kernel_rfl) ?_; go_simp)) | ((fail_if_success (refine Go.Proofs.Ytccbpcdepgnmgaa.M.lit_t rfl ?_)); (fail_if_success (refine Go.Proofs.Ytccbpcdepgnmgaa.M.lit_f rfl ?_)); refine Go.Proofs.Ytccbpcdepgnmgaa.M.split_guard rfl rfl ?_ ?_ <;> (intro hg_; simp only [hg_]; try simp only [Go.Proofs.Ytccbpcdepgnmgaa.M.hgs] at hg_)))
          | (refine Mc.at_cmp _ rfl ?_; refine Mc.cmp_m rfl _ rfl _ _ _ rfl _ _ _ rfl rfl _ rfl ?_ ?_ <;> (intro hg_; try simp only [Go.Proofs.Ytccbpcdepgnmgaa.M.hgs] at hg_; first | (exfalso; first | omega | (simp at hg_; done)) | (go_simp)))
          | ((fail_if_success (refine Go.Proofs.Ytccbpcdepgnmgaa.M.lit_t rfl ?_)); (fail_if_success (refine Go.Proofs.Ytccbpcdepgnmgaa.M.lit_f rfl ?_)); refine Go.Proofs.Ytccbpcdepgnmgaa.M.split_guard rfl rfl ?_ ?_ <;> (intro hg_; simp only [hg_]; try simp only [Go.Proofs.Ytccbpcdepgnmgaa.M.hgs] at hg_)))
        all_goals
          (go_ret
           exact ⟨_, _, rfl, ⟨k, by omega, HNO.out, .inr ⟨x, rfl, HX.out, HP.out⟩, rfl⟩, (HM.perm (perm_at 1 rfl))⟩)
      | false =>
        go_wp2_with (first
          | (go_at_call 35; (with_reducible refine (Go.Proofs.Ytccbpcdepgnmgaa.M.Does.call (CF) HM (perm_at 1 rfl)).mono ?_); clear HM; rintro e w_ ⟨v_, L_, rfl, ⟨rfl, rfl⟩, HM⟩; (try simp only [List.eraseIdx_cons_zero, List.eraseIdx_cons_succ, List.cons_append, List.nil_append] at HM); dsimp only)
          | (refine Sl.at_indexAddr 36 rfl ?_; refine Sl.indexAddr_m rfl _ rfl 36 rfl 26 (by kernel_rfl) 10 (by kernel_rfl) _ 0 n cap rfl .i64 (k : Int) rfl (by omega) (by omega) (k * 10) (by omega) ?_; go_simp)
          | (refine Go.Proofs.Ytccbpcdepgnmgaa.M.at_mem rfl ?_; first | (refine Go.Proofs.Ytccbpcdepgnmgaa.M.at_load 26 rfl ?_; first | (refine Go.Proofs.Ytccbpcdepgnmgaa.M.load_part_m HM rfl 26 _ rfl 0 g (k * 10) 10 _ cur rfl rfl HOFF.out x.cells HG.out (by kernel_rfl) (by kernel_rfl) ?_; go_simp) | (refine Go.Proofs.Ytccbpcdepgnmgaa.M.load_row_m HM rfl 26 _ rfl 0 _ _ _ rfl rfl (by kernel_rfl) (by kernel_rfl) ?_; go_simp)) | ((fail_if_success (refine Go.Proofs.Ytccbpcdepgnmgaa.M.lit_t rfl ?_)); (fail_if_success (refine Go.Proofs.Ytccbpcdepgnmgaa.M.lit_f rfl ?_)); refine Go.Proofs.Ytccbpcdepgnmgaa.M.split_guard rfl rfl ?_ ?_ <;> (intro hg_; simp only [hg_]; try simp only [Go.Proofs.Ytccbpcdepgnmgaa.M.hgs] at hg_)))
          | (refine Mc.at_cmp _ rfl ?_; refine Mc.cmp_m rfl _ rfl _ _ _ rfl _ _ _ rfl rfl _ rfl ?_ ?_ <;> (intro hg_; try simp only [Go.Proofs.Ytccbpcdepgnmgaa.M.hgs] at hg_; first | (exfalso; first | omega | (simp at hg_; done)) | (go_simp)))
          | ((fail_if_success (refine Go.Proofs.Ytccbpcdepgnmgaa.M.lit_t rfl ?_)); (fail_if_success (refine Go.Proofs.Ytccbpcdepgnmgaa.M.lit_f rfl ?_)); refine Go.Proofs.Ytccbpcdepgnmgaa.M.split_guard rfl rfl ?_ ?_ <;> (intro hg_; simp only [hg_]; try simp only [Go.Proofs.Ytccbpcdepgnmgaa.M.hgs] at hg_)))
        all_goals
          (go_roundw
           case rel => exact ⟨k + 1, by omega, by first | rfl | (refine congrArg (fun z => Value.int .i64 z) ?_; omega), fun j y hj hy => by
             by_cases e : j = k
             · subst e; rw [HX.out] at hy; cases hy; exact HP.out
             · exact HNO.out j y (by omega) hy, (HM.perm (perm_at 1 rfl))⟩
           case measure => simp [intOf]; omega)
    · obtain rfl : k = n := by omega
      go_wp2_with (first
        | (refine Go.Proofs.Ytccbpcdepgnmgaa.M.at_mem rfl ?_; first | (refine Go.Proofs.Ytccbpcdepgnmgaa.M.at_load 26 rfl ?_; first | (refine Go.Proofs.Ytccbpcdepgnmgaa.M.load_row_m HM rfl 26 _ rfl 0 _ _ _ rfl rfl (by kernel_rfl) (by kernel_rfl) ?_; go_simp)) | ((fail_if_success (refine Go.Proofs.Ytccbpcdepgnmgaa.M.lit_t rfl ?_)); (fail_if_success (refine Go.Proofs.Ytccbpcdepgnmgaa.M.lit_f rfl ?_)); refine Go.Proofs.Ytccbpcdepgnmgaa.M.split_guard rfl rfl ?_ ?_ <;> (intro hg_; simp only [hg_]; try simp only [Go.Proofs.Ytccbpcdepgnmgaa.M.hgs] at hg_)))
        | (refine Mc.at_cmp _ rfl ?_; refine Mc.cmp_m rfl _ rfl _ _ _ rfl _ _ _ rfl rfl _ rfl ?_ ?_ <;> (intro hg_; try simp only [Go.Proofs.Ytccbpcdepgnmgaa.M.hgs] at hg_; first | (exfalso; first | omega | (simp at hg_; done)) | (go_simp)))
        | ((fail_if_success (refine Go.Proofs.Ytccbpcdepgnmgaa.M.lit_t rfl ?_)); (fail_if_success (refine Go.Proofs.Ytccbpcdepgnmgaa.M.lit_f rfl ?_)); refine Go.Proofs.Ytccbpcdepgnmgaa.M.split_guard rfl rfl ?_ ?_ <;> (intro hg_; simp only [hg_]; try simp only [Go.Proofs.Ytccbpcdepgnmgaa.M.hgs] at hg_)))
      all_goals
        go_ret
        exact ⟨_, _, rfl, ⟨k, Nat.le_refl _, HNO.out, .inl ⟨rfl, rfl⟩, rfl⟩, HM⟩
set_option maxHeartbeats 4000000 in
theorem del_as (b1 : Nat) (asid : Int) (p : E → Bool) (hp : ∀ e : E, (decide (e.asid = asid)) = p e) (l : List E) (g n cap : Nat) (cur0 : Array Value) (hR : Row l 0 cur0) (hn : l.length = n) (hc : n ≤ cap) (hcs : cur0.size = cap * 10) (h1 : n ≤ 1000) : Does Try.prog 49 #[.slice (some ⟨g, 0, none⟩) n cap, .func (.func 35) #[] #[.pointer (some ⟨b1, 0, none⟩)]] [(g, row cur0 26), (b1, row #[.int .i64 asid] 3)]
    fun r L => ∃ (m : Nat) (cur : Array Value), (l.filter (fun e => !p e)).length = m ∧ m ≤ n ∧ r = .slice (some ⟨g, 0, none⟩) m cap ∧ cur.size = cap * 10 ∧ Row (l.filter (fun e => !p e)) 0 cur ∧ L = [(g, row cur 26), (b1, row #[.int .i64 asid] 3)] := by
  have CI0 := idx_as b1 asid p hp l g n cap cur0 hR hn h1
  have HR := Lib.hid hR; have HN := Lib.hid hn; have HCS := Lib.hid hcs; clear hR hn hcs
  have FS := first_split p l
  have HPP := Lib.hid hp; clear hp
  intro w hH
  have HM := Mem.start hH
  rcases FS with hno | ⟨k0, x0, hx0, hp0, hno⟩
  · have CI := Lib.hid (weaken (R2 := fun r L => r = .int .i64 (-1) ∧ L = [(g, row cur0 26), (b1, row #[.int .i64 asid] 3)]) CI0 (fun r L ⟨k, q1, q2, q3, q4⟩ => by
      rcases q3 with ⟨_, q3⟩ | ⟨x, _, q5, q6⟩
      · exact ⟨q3, q4⟩
      · rw [hno k x q5] at q6; cases q6))
    have hfl : l.filter (fun e => !p e) = l := List.filter_eq_self.2 (fun x hx => by
      obtain ⟨j, hj⟩ := List.mem_iff_getElem?.1 hx
      rw [hno j x hj]; rfl)
    have HFL := Lib.hid hfl; clear hfl hno CI0
    go_enter Try.func49, Try.ntmps49
    go_wp2_with (first
      | (go_at_call 54; (with_reducible refine (Tf.whole CI.out HM).mono ?_); clear HM; rintro e w_ ⟨v_, L_, rfl, ⟨rfl, rfl⟩, HM⟩; dsimp only)
      | (refine Go.Proofs.Ytccbpcdepgnmgaa.M.at_mem rfl ?_; first | (refine Go.Proofs.Ytccbpcdepgnmgaa.M.at_load 26 rfl ?_; first | (refine Go.Proofs.Ytccbpcdepgnmgaa.M.load_row_m HM rfl 26 _ rfl 0 _ _ _ rfl rfl (by kernel_rfl) (by kernel_rfl) ?_; go_simp)) | (refine Go.Proofs.Ytccbpcdepgnmgaa.M.at_store 26 rfl ?_; first | (refine Go.Proofs.Ytccbpcdepgnmgaa.M.store_row_m HM rfl 26 _ _ rfl 0 _ _ _ _ rfl rfl rfl (by kernel_rfl) rfl (by simp [Value.oneCell']) ?_; clear HM; intro w_ HM; (try simp only [Go.Proofs.Ytccbpcdepgnmgaa.M.nrm] at HM); go_simp)) | (refine Go.Proofs.Ytccbpcdepgnmgaa.M.at_alloc 26 rfl ?_; first | (refine Go.Proofs.Ytccbpcdepgnmgaa.M.alloc_m HM rfl rfl 26 rfl (.agg #[(.int .i64 0), (.int .u64 0), (.int .i64 0), (.int .i64 0), (.int .u64 0), (.bool false), (.bool false), (.bool false), (.bool false), (.int .i64 0)]) (by kernel_rfl) #[(.int .i64 0), (.int .u64 0), (.int .i64 0), (.int .i64 0), (.int .u64 0), (.bool false), (.bool false), (.bool false), (.bool false), (.int .i64 0)] rfl ?_; clear HM; intro g_ w_ HM; go_simp)) | ((fail_if_success (refine Go.Proofs.Ytccbpcdepgnmgaa.M.lit_t rfl ?_)); (fail_if_success (refine Go.Proofs.Ytccbpcdepgnmgaa.M.lit_f rfl ?_)); refine Go.Proofs.Ytccbpcdepgnmgaa.M.split_guard rfl rfl ?_ ?_ <;> (intro hg_; simp only [hg_]; try simp only [Go.Proofs.Ytccbpcdepgnmgaa.M.hgs] at hg_)))
      | (refine Mc.at_cmp _ rfl ?_; refine Mc.cmp_m rfl _ rfl _ _ _ rfl _ _ _ rfl rfl _ rfl ?_ ?_ <;> (intro hg_; try simp only [Go.Proofs.Ytccbpcdepgnmgaa.M.hgs] at hg_; first | (exfalso; first | omega | (simp at hg_; done)) | (go_simp)))
      | ((fail_if_success (refine Go.Proofs.Ytccbpcdepgnmgaa.M.lit_t rfl ?_)); (fail_if_success (refine Go.Proofs.Ytccbpcdepgnmgaa.M.lit_f rfl ?_)); refine Go.Proofs.Ytccbpcdepgnmgaa.M.split_guard rfl rfl ?_ ?_ <;> (intro hg_; simp only [hg_]; try simp only [Go.Proofs.Ytccbpcdepgnmgaa.M.hgs] at hg_)))
    all_goals
      go_ret
      exact ⟨_, _, rfl, ⟨n, cur0, by rw [HFL.out, HN.out], Nat.le_refl _, rfl, HCS.out, by rw [HFL.out]; exact HR.out, rfl⟩, HM⟩
  · have hkk : k0 < n := by have := (List.getElem?_eq_some_iff.1 hx0).1; have := HN.out; omega
    have CI := Lib.hid (weaken (R2 := fun r L => r = .int .i64 k0 ∧ L = [(g, row cur0 26), (b1, row #[.int .i64 asid] 3)]) CI0 (fun r L ⟨k, q1, q2, q3, q4⟩ => by
      rcases q3 with ⟨rfl, _⟩ | ⟨x, q3, q5, q6⟩
      · rw [q2 k0 x0 hkk hx0] at hp0; cases hp0
      · refine ⟨?_, q4⟩
        have e : k = k0 := by
          rcases Nat.lt_trichotomy k k0 with h | h | h
          · rw [hno k x h q5] at q6; cases q6
          · exact h
          · rw [q2 k0 x0 h hx0] at hp0; cases hp0
        rw [q3, e]))
    have hst := Part.start hx0 hp0 hno
    have HST := Lib.hid hst; clear hst hx0 hp0 hno CI0
    have hn1 : (n : Int) ≤ 1000 := by omega
    have hkk1 : (k0 : Int) < n := by omega
    go_enter Try.func49, Try.ntmps49
    go_wp2_with (first
      | (go_at_call 54; (with_reducible refine (Tf.whole CI.out HM).mono ?_); clear HM; rintro e w_ ⟨v_, L_, rfl, ⟨rfl, rfl⟩, HM⟩; dsimp only)
      | (refine Go.Proofs.Ytccbpcdepgnmgaa.M.at_mem rfl ?_; first | (refine Go.Proofs.Ytccbpcdepgnmgaa.M.at_load 26 rfl ?_; first | (refine Go.Proofs.Ytccbpcdepgnmgaa.M.load_row_m HM rfl 26 _ rfl 0 _ _ _ rfl rfl (by kernel_rfl) (by kernel_rfl) ?_; go_simp)) | (refine Go.Proofs.Ytccbpcdepgnmgaa.M.at_store 26 rfl ?_; first | (refine Go.Proofs.Ytccbpcdepgnmgaa.M.store_row_m HM rfl 26 _ _ rfl 0 _ _ _ _ rfl rfl rfl (by kernel_rfl) rfl (by simp [Value.oneCell']) ?_; clear HM; intro w_ HM; (try simp only [Go.Proofs.Ytccbpcdepgnmgaa.M.nrm] at HM); go_simp)) | (refine Go.Proofs.Ytccbpcdepgnmgaa.M.at_alloc 26 rfl ?_; first | (refine Go.Proofs.Ytccbpcdepgnmgaa.M.alloc_m HM rfl rfl 26 rfl (.agg #[(.int .i64 0), (.int .u64 0), (.int .i64 0), (.int .i64 0), (.int .u64 0), (.bool false), (.bool false), (.bool false), (.bool false), (.int .i64 0)]) (by kernel_rfl) #[(.int .i64 0), (.int .u64 0), (.int .i64 0), (.int .i64 0), (.int .u64 0), (.bool false), (.bool false), (.bool false), (.bool false), (.int .i64 0)] rfl ?_; clear HM; intro g_ w_ HM; go_simp)) | ((fail_if_success (refine Go.Proofs.Ytccbpcdepgnmgaa.M.lit_t rfl ?_)); (fail_if_success (refine Go.Proofs.Ytccbpcdepgnmgaa.M.lit_f rfl ?_)); refine Go.Proofs.Ytccbpcdepgnmgaa.M.split_guard rfl rfl ?_ ?_ <;> (intro hg_; simp only [hg_]; try simp only [Go.Proofs.Ytccbpcdepgnmgaa.M.hgs] at hg_)))
      | (refine Mc.at_cmp _ rfl ?_; refine Mc.cmp_m rfl _ rfl _ _ _ rfl _ _ _ rfl rfl _ rfl ?_ ?_ <;> (intro hg_; try simp only [Go.Proofs.Ytccbpcdepgnmgaa.M.hgs] at hg_; first | (exfalso; first | omega | (simp at hg_; done)) | (go_simp)))
      | ((fail_if_success (refine Go.Proofs.Ytccbpcdepgnmgaa.M.lit_t rfl ?_)); (fail_if_success (refine Go.Proofs.Ytccbpcdepgnmgaa.M.lit_f rfl ?_)); refine Go.Proofs.Ytccbpcdepgnmgaa.M.split_guard rfl rfl ?_ ?_ <;> (intro hg_; simp only [hg_]; try simp only [Go.Proofs.Ytccbpcdepgnmgaa.M.hgs] at hg_)))
    go_loopw [5, 6] (fun a b wr => ∃ (i j : Nat) (m : List E) (cur : Array Value), a = .int .i64 i ∧ b = .int .i64 j ∧ Part p l m i j ∧ Row m 0 cur ∧ cur.size = cap * 10 ∧ Mem w _ [(g, row cur 26), (b1, row #[.int .i64 asid] 3)] wr) (fun _ b _ => n - (intOf b).toNat)
    case atStart => exact ⟨k0, k0 + 1, l, cur0, rfl, by first | rfl | (refine congrArg (fun z => Value.int .i64 z) ?_; omega), HST.out, HR.out, HCS.out, HM⟩
    case round =>
      clear HM HST
      obtain ⟨i, j, m, cur, rfl, rfl, hP, hRm, hcm, HM⟩ := hrel
      have hle := hP.le
      have hlti := hP.lt
      have hml := hP.len
      have hnn := HN.out
      by_cases hlt : j < n
      · obtain ⟨x, hx⟩ : ∃ x, l[j]? = some x := ⟨_, List.getElem?_eq_getElem (by omega)⟩
        have hg := hRm.get (hP.get.trans hx)
        have hsz := hRm.2
        rw [Nat.zero_add] at hg
        have HG := Lib.hid hg; clear hg
        have hk1 : (j : Int) < n := by omega
        have hi1 : (i : Int) < n := by omega
        have hoff : j * 10 + 10 ≤ cur.size := by omega
        have HOFF := Lib.hid hoff
        have hof2 : i * 10 + x.cells.size ≤ cur.size := by rw [E.size]; omega
        have HOF2 := Lib.hid hof2; clear hoff hof2 hsz
        have CF := fun_as b1 asid x
        rw [HPP.out x] at CF
        have HSK := Lib.hid (fun h => hP.skip (x := x) hx h)
        have HKP := Lib.hid (fun h => hP.keep (x := x) hx h)
        have HRS := Lib.hid (Tf.Row.set hRm x (i := i) (by omega))
        have HRM := Lib.hid hRm; have HCM := Lib.hid hcm
        have HSS := Lib.hid (splice_size cur (i * 10) x.cells.toList (by rw [Array.length_toList, E.size]; omega))
        clear hP hRm hcm hx hle hml hnn
        generalize hpx : p x = b at CF
        have HB := Lib.hid hpx; clear hpx
        cases b with
        | true =>
          go_wp2_with (first
            | (go_at_call 35; (with_reducible refine (Go.Proofs.Ytccbpcdepgnmgaa.M.Does.call (CF) HM (perm_at 2 rfl)).mono ?_); clear HM; rintro e w_ ⟨v_, L_, rfl, ⟨rfl, rfl⟩, HM⟩; (try simp only [List.eraseIdx_cons_zero, List.eraseIdx_cons_succ, List.cons_append, List.nil_append] at HM); dsimp only)
            | (refine Sl.at_indexAddr 36 rfl ?_; refine Sl.indexAddr_m rfl _ rfl 36 rfl 26 (by kernel_rfl) 10 (by kernel_rfl) _ 0 n cap rfl .i64 (j : Int) rfl (by omega) (by omega) (j * 10) (by omega) ?_; go_simp)
            | (refine Go.Proofs.Ytccbpcdepgnmgaa.M.at_mem rfl ?_; first | (refine Go.Proofs.Ytccbpcdepgnmgaa.M.at_load 26 rfl ?_; first | (refine Go.Proofs.Ytccbpcdepgnmgaa.M.load_part_m HM rfl 26 _ rfl 0 g (j * 10) 10 _ cur rfl rfl HOFF.out x.cells HG.out (by kernel_rfl) (by kernel_rfl) ?_; go_simp) | (refine Go.Proofs.Ytccbpcdepgnmgaa.M.load_row_m HM rfl 26 _ rfl 0 _ _ _ rfl rfl (by kernel_rfl) (by kernel_rfl) ?_; go_simp) | (refine Go.Proofs.Ytccbpcdepgnmgaa.M.load_row_m HM rfl 26 _ rfl 1 _ _ _ rfl rfl (by kernel_rfl) (by kernel_rfl) ?_; go_simp) | (refine Go.Proofs.Ytccbpcdepgnmgaa.M.load_row_m HM rfl 26 _ rfl 2 _ _ _ rfl rfl (by kernel_rfl) (by kernel_rfl) ?_; go_simp) | (refine Go.Proofs.Ytccbpcdepgnmgaa.M.load_row_m HM rfl 26 _ rfl 3 _ _ _ rfl rfl (by kernel_rfl) (by kernel_rfl) ?_; go_simp)) | (refine Go.Proofs.Ytccbpcdepgnmgaa.M.at_store 26 rfl ?_; first | (refine Sn.store_part_m HM rfl 26 _ _ rfl 2 g (i * 10) _ cur x.cells rfl rfl rfl (by kernel_rfl) (E.one x) HOF2.out ?_; clear HM; intro w_ HM; (try simp only [List.set_cons_zero, List.set_cons_succ] at HM); go_simp) | (refine Go.Proofs.Ytccbpcdepgnmgaa.M.store_row_m HM rfl 26 _ _ rfl 0 _ _ _ x.cells rfl rfl rfl (by kernel_rfl) rfl (E.one x) ?_; clear HM; intro w_ HM; (try simp only [List.set_cons_zero, List.set_cons_succ] at HM); go_simp) | (refine Go.Proofs.Ytccbpcdepgnmgaa.M.store_row_m HM rfl 26 _ _ rfl 0 _ _ _ _ rfl rfl rfl (by kernel_rfl) rfl (by simp [Value.oneCell']) ?_; clear HM; intro w_ HM; (try simp only [Go.Proofs.Ytccbpcdepgnmgaa.M.nrm] at HM); go_simp) | (refine Go.Proofs.Ytccbpcdepgnmgaa.M.store_row_m HM rfl 26 _ _ rfl 1 _ _ _ _ rfl rfl rfl (by kernel_rfl) rfl (by simp [Value.oneCell']) ?_; clear HM; intro w_ HM; (try simp only [Go.Proofs.Ytccbpcdepgnmgaa.M.nrm] at HM); go_simp) | (refine Go.Proofs.Ytccbpcdepgnmgaa.M.store_row_m HM rfl 26 _ _ rfl 2 _ _ _ _ rfl rfl rfl (by kernel_rfl) rfl (by simp [Value.oneCell']) ?_; clear HM; intro w_ HM; (try simp only [Go.Proofs.Ytccbpcdepgnmgaa.M.nrm] at HM); go_simp) | (refine Go.Proofs.Ytccbpcdepgnmgaa.M.store_row_m HM rfl 26 _ _ rfl 3 _ _ _ _ rfl rfl rfl (by kernel_rfl) rfl (by simp [Value.oneCell']) ?_; clear HM; intro w_ HM; (try simp only [Go.Proofs.Ytccbpcdepgnmgaa.M.nrm] at HM); go_simp)) | (refine Go.Proofs.Ytccbpcdepgnmgaa.M.at_alloc 26 rfl ?_; first | (refine Go.Proofs.Ytccbpcdepgnmgaa.M.alloc_m HM rfl rfl 26 rfl (.agg E.zero.cells) (by kernel_rfl) E.zero.cells rfl ?_; clear HM; intro g_ w_ HM; go_simp) | (refine Go.Proofs.Ytccbpcdepgnmgaa.M.alloc_m HM rfl rfl 26 rfl (.agg #[(.int .i64 0), (.int .u64 0), (.int .i64 0), (.int .i64 0), (.int .u64 0), (.bool false), (.bool false), (.bool false), (.bool false), (.int .i64 0)]) (by kernel_rfl) #[(.int .i64 0), (.int .u64 0), (.int .i64 0), (.int .i64 0), (.int .u64 0), (.bool false), (.bool false), (.bool false), (.bool false), (.int .i64 0)] rfl ?_; clear HM; intro g_ w_ HM; go_simp)) | ((fail_if_success (refine Go.Proofs.Ytccbpcdepgnmgaa.M.lit_t rfl ?_)); (fail_if_success (refine Go.Proofs.Ytccbpcdepgnmgaa.M.lit_f rfl ?_)); refine Go.Proofs.Ytccbpcdepgnmgaa.M.split_guard rfl rfl ?_ ?_ <;> (intro hg_; simp only [hg_]; try simp only [Go.Proofs.Ytccbpcdepgnmgaa.M.hgs] at hg_)))
            | (refine Mc.at_cmp _ rfl ?_; refine Mc.cmp_m rfl _ rfl _ _ _ rfl _ _ _ rfl rfl _ rfl ?_ ?_ <;> (intro hg_; try simp only [Go.Proofs.Ytccbpcdepgnmgaa.M.hgs] at hg_; first | (exfalso; first | omega | (simp at hg_; done)) | (go_simp)))
            | ((fail_if_success (refine Go.Proofs.Ytccbpcdepgnmgaa.M.lit_t rfl ?_)); (fail_if_success (refine Go.Proofs.Ytccbpcdepgnmgaa.M.lit_f rfl ?_)); refine Go.Proofs.Ytccbpcdepgnmgaa.M.split_guard rfl rfl ?_ ?_ <;> (intro hg_; simp only [hg_]; try simp only [Go.Proofs.Ytccbpcdepgnmgaa.M.hgs] at hg_)))
          all_goals
            go_roundw
            case rel => exact ⟨i, j + 1, m, cur, rfl, by first | rfl | (refine congrArg (fun z => Value.int .i64 z) ?_; omega), HSK.out HB.out, HRM.out, HCM.out, ((HM.perm (perm_at 2 rfl)).take (A := [_, _]))⟩
            case measure => simp [intOf]; omega
        | false =>
          go_wp2_with (first
            | (go_at_call 35; (with_reducible refine (Go.Proofs.Ytccbpcdepgnmgaa.M.Does.call (CF) HM (perm_at 2 rfl)).mono ?_); clear HM; rintro e w_ ⟨v_, L_, rfl, ⟨rfl, rfl⟩, HM⟩; (try simp only [List.eraseIdx_cons_zero, List.eraseIdx_cons_succ, List.cons_append, List.nil_append] at HM); dsimp only)
            | (refine Sl.at_indexAddr 36 rfl ?_; refine Sl.indexAddr_m rfl _ rfl 36 rfl 26 (by kernel_rfl) 10 (by kernel_rfl) _ 0 n cap rfl .i64 (j : Int) rfl (by omega) (by omega) (j * 10) (by omega) ?_; go_simp)
            | (refine Sl.at_indexAddr 36 rfl ?_; refine Sl.indexAddr_m rfl _ rfl 36 rfl 26 (by kernel_rfl) 10 (by kernel_rfl) _ 0 n cap rfl .i64 (i : Int) rfl (by omega) (by omega) (i * 10) (by omega) ?_; go_simp)
            | (refine Go.Proofs.Ytccbpcdepgnmgaa.M.at_mem rfl ?_; first | (refine Go.Proofs.Ytccbpcdepgnmgaa.M.at_load 26 rfl ?_; first | (refine Go.Proofs.Ytccbpcdepgnmgaa.M.load_part_m HM rfl 26 _ rfl 0 g (j * 10) 10 _ cur rfl rfl HOFF.out x.cells HG.out (by kernel_rfl) (by kernel_rfl) ?_; go_simp) | (refine Go.Proofs.Ytccbpcdepgnmgaa.M.load_row_m HM rfl 26 _ rfl 0 _ _ _ rfl rfl (by kernel_rfl) (by kernel_rfl) ?_; go_simp) | (refine Go.Proofs.Ytccbpcdepgnmgaa.M.load_row_m HM rfl 26 _ rfl 1 _ _ _ rfl rfl (by kernel_rfl) (by kernel_rfl) ?_; go_simp) | (refine Go.Proofs.Ytccbpcdepgnmgaa.M.load_row_m HM rfl 26 _ rfl 2 _ _ _ rfl rfl (by kernel_rfl) (by kernel_rfl) ?_; go_simp) | (refine Go.Proofs.Ytccbpcdepgnmgaa.M.load_row_m HM rfl 26 _ rfl 3 _ _ _ rfl rfl (by kernel_rfl) (by kernel_rfl) ?_; go_simp)) | (refine Go.Proofs.Ytccbpcdepgnmgaa.M.at_store 26 rfl ?_; first | (refine Sn.store_part_m HM rfl 26 _ _ rfl 2 g (i * 10) _ cur x.cells rfl rfl rfl (by kernel_rfl) (E.one x) HOF2.out ?_; clear HM; intro w_ HM; (try simp only [List.set_cons_zero, List.set_cons_succ] at HM); go_simp) | (refine Go.Proofs.Ytccbpcdepgnmgaa.M.store_row_m HM rfl 26 _ _ rfl 0 _ _ _ x.cells rfl rfl rfl (by kernel_rfl) rfl (E.one x) ?_; clear HM; intro w_ HM; (try simp only [List.set_cons_zero, List.set_cons_succ] at HM); go_simp) | (refine Go.Proofs.Ytccbpcdepgnmgaa.M.store_row_m HM rfl 26 _ _ rfl 0 _ _ _ _ rfl rfl rfl (by kernel_rfl) rfl (by simp [Value.oneCell']) ?_; clear HM; intro w_ HM; (try simp only [Go.Proofs.Ytccbpcdepgnmgaa.M.nrm] at HM); go_simp) | (refine Go.Proofs.Ytccbpcdepgnmgaa.M.store_row_m HM rfl 26 _ _ rfl 1 _ _ _ _ rfl rfl rfl (by kernel_rfl) rfl (by simp [Value.oneCell']) ?_; clear HM; intro w_ HM; (try simp only [Go.Proofs.Ytccbpcdepgnmgaa.M.nrm] at HM); go_simp) | (refine Go.Proofs.Ytccbpcdepgnmgaa.M.store_row_m HM rfl 26 _ _ rfl 2 _ _ _ _ rfl rfl rfl (by kernel_rfl) rfl (by simp [Value.oneCell']) ?_; clear HM; intro w_ HM; (try simp only [Go.Proofs.Ytccbpcdepgnmgaa.M.nrm] at HM); go_simp) | (refine Go.Proofs.Ytccbpcdepgnmgaa.M.store_row_m HM rfl 26 _ _ rfl 3 _ _ _ _ rfl rfl rfl (by kernel_rfl) rfl (by simp [Value.oneCell']) ?_; clear HM; intro w_ HM; (try simp only [Go.Proofs.Ytccbpcdepgnmgaa.M.nrm] at HM); go_simp)) | (refine Go.Proofs.Ytccbpcdepgnmgaa.M.at_alloc 26 rfl ?_; first | (refine Go.Proofs.Ytccbpcdepgnmgaa.M.alloc_m HM rfl rfl 26 rfl (.agg E.zero.cells) (by kernel_rfl) E.zero.cells rfl ?_; clear HM; intro g_ w_ HM; go_simp) | (refine Go.Proofs.Ytccbpcdepgnmgaa.M.alloc_m HM rfl rfl 26 rfl (.agg #[(.int .i64 0), (.int .u64 0), (.int .i64 0), (.int .i64 0), (.int .u64 0), (.bool false), (.bool false), (.bool false), (.bool false), (.int .i64 0)]) (by kernel_rfl) #[(.int .i64 0), (.int .u64 0), (.int .i64 0), (.int .i64 0), (.int .u64 0), (.bool false), (.bool false), (.bool false), (.bool false), (.int .i64 0)] rfl ?_; clear HM; intro g_ w_ HM; go_simp)) | ((fail_if_success (refine Go.Proofs.Ytccbpcdepgnmgaa.M.lit_t rfl ?_)); (fail_if_success (refine Go.Proofs.Ytccbpcdepgnmgaa.M.lit_f rfl ?_)); refine Go.Proofs.Ytccbpcdepgnmgaa.M.split_guard rfl rfl ?_ ?_ <;> (intro hg_; simp only [hg_]; try simp only [Go.Proofs.Ytccbpcdepgnmgaa.M.hgs] at hg_)))
            | (refine Mc.at_cmp _ rfl ?_; refine Mc.cmp_m rfl _ rfl _ _ _ rfl _ _ _ rfl rfl _ rfl ?_ ?_ <;> (intro hg_; try simp only [Go.Proofs.Ytccbpcdepgnmgaa.M.hgs] at hg_; first | (exfalso; first | omega | (simp at hg_; done)) | (go_simp)))
            | ((fail_if_success (refine Go.Proofs.Ytccbpcdepgnmgaa.M.lit_t rfl ?_)); (fail_if_success (refine Go.Proofs.Ytccbpcdepgnmgaa.M.lit_f rfl ?_)); refine Go.Proofs.Ytccbpcdepgnmgaa.M.split_guard rfl rfl ?_ ?_ <;> (intro hg_; simp only [hg_]; try simp only [Go.Proofs.Ytccbpcdepgnmgaa.M.hgs] at hg_)))
          all_goals
            go_roundw
            case rel => exact ⟨i + 1, j + 1, m.set i x, splice cur (i * 10) x.cells.toList, by first | rfl | (refine congrArg (fun z => Value.int .i64 z) ?_; omega), by first | rfl | (refine congrArg (fun z => Value.int .i64 z) ?_; omega), HKP.out HB.out, HRS.out, by rw [HSS.out, HCM.out], ((HM.perm (perm_at 2 rfl)).take (A := [_, _]))⟩
            case measure => simp [intOf]; omega
      · obtain rfl : j = n := by omega
        have hcl : i * 10 + (j - i) * 10 ≤ cur.size := by omega
        have HCL := Lib.hid hcl
        have hst := (hnn ▸ hP : Part p l m i l.length).stop
        have hil : (l.filter (fun e => !p e)).length = i := by rw [← hst, List.length_take]; omega
        have HST := Lib.hid hst; have HIL := Lib.hid hil; have HRM := Lib.hid hRm; have HCM := Lib.hid hcm
        have hi1 : (i : Int) < j := by omega
        have hML := Lib.hid hml
        clear hst hil hRm hcm hP hcl hml hle hnn
        go_wp2_with (first
          | (refine Ts.at_slice 36 rfl ?_; first | (refine Ts.slice_m rfl _ rfl 36 26 rfl (by kernel_rfl) 10 (by kernel_rfl) (some ⟨g, 0, none⟩) j cap rfl i j cap (Or.inl ⟨rfl, rfl⟩) (Or.inl ⟨rfl, rfl, rfl⟩) (Or.inr ⟨_, rfl, by omega⟩) (.slice (some ⟨g, i * 10, none⟩) (j - i) (cap - i)) (by rw [if_neg (by omega)]; simp [add_at]) ?_; go_simp) | (refine Ts.slice_m rfl _ rfl 36 26 rfl (by kernel_rfl) 10 (by kernel_rfl) (some ⟨g, 0, none⟩) j cap rfl 0 i cap (Or.inl ⟨rfl, rfl⟩) (Or.inr ⟨_, rfl, by omega⟩) (Or.inl ⟨rfl, rfl⟩) _ (slice_low g j cap i) ?_; go_simp))
          | (refine Sn.at_clear rfl ?_; refine Sn.clear_m HM rfl _ 36 26 rfl 10 (by kernel_rfl) (by kernel_rfl) 0 g (i * 10) (j - i) (cap - i) _ rfl rfl HCL.out ?_; clear HM; intro cur2_ w_ s1_ s2_ HM; (try simp only [List.set_cons_zero] at HM); go_simp)
          | (refine Go.Proofs.Ytccbpcdepgnmgaa.M.at_mem rfl ?_; first | (refine Go.Proofs.Ytccbpcdepgnmgaa.M.at_load 26 rfl ?_; first | (refine Go.Proofs.Ytccbpcdepgnmgaa.M.load_row_m HM rfl 26 _ rfl 0 _ _ _ rfl rfl (by kernel_rfl) (by kernel_rfl) ?_; go_simp)) | (refine Go.Proofs.Ytccbpcdepgnmgaa.M.at_store 26 rfl ?_; first | (refine Go.Proofs.Ytccbpcdepgnmgaa.M.store_row_m HM rfl 26 _ _ rfl 0 _ _ _ _ rfl rfl rfl (by kernel_rfl) rfl (by simp [Value.oneCell']) ?_; clear HM; intro w_ HM; (try simp only [Go.Proofs.Ytccbpcdepgnmgaa.M.nrm] at HM); go_simp)) | (refine Go.Proofs.Ytccbpcdepgnmgaa.M.at_alloc 26 rfl ?_; first | (refine Go.Proofs.Ytccbpcdepgnmgaa.M.alloc_m HM rfl rfl 26 rfl (.agg #[(.int .i64 0), (.int .u64 0), (.int .i64 0), (.int .i64 0), (.int .u64 0), (.bool false), (.bool false), (.bool false), (.bool false), (.int .i64 0)]) (by kernel_rfl) #[(.int .i64 0), (.int .u64 0), (.int .i64 0), (.int .i64 0), (.int .u64 0), (.bool false), (.bool false), (.bool false), (.bool false), (.int .i64 0)] rfl ?_; clear HM; intro g_ w_ HM; go_simp)) | ((fail_if_success (refine Go.Proofs.Ytccbpcdepgnmgaa.M.lit_t rfl ?_)); (fail_if_success (refine Go.Proofs.Ytccbpcdepgnmgaa.M.lit_f rfl ?_)); refine Go.Proofs.Ytccbpcdepgnmgaa.M.split_guard rfl rfl ?_ ?_ <;> (intro hg_; simp only [hg_]; try simp only [Go.Proofs.Ytccbpcdepgnmgaa.M.hgs] at hg_)))
          | (refine Mc.at_cmp _ rfl ?_; refine Mc.cmp_m rfl _ rfl _ _ _ rfl _ _ _ rfl rfl _ rfl ?_ ?_ <;> (intro hg_; try simp only [Go.Proofs.Ytccbpcdepgnmgaa.M.hgs] at hg_; first | (exfalso; first | omega | (simp at hg_; done)) | (go_simp)))
          | ((fail_if_success (refine Go.Proofs.Ytccbpcdepgnmgaa.M.lit_t rfl ?_)); (fail_if_success (refine Go.Proofs.Ytccbpcdepgnmgaa.M.lit_f rfl ?_)); refine Go.Proofs.Ytccbpcdepgnmgaa.M.split_guard rfl rfl ?_ ?_ <;> (intro hg_; simp only [hg_]; try simp only [Go.Proofs.Ytccbpcdepgnmgaa.M.hgs] at hg_)))
        all_goals
          go_ret
          refine ⟨_, _, rfl, ⟨i, cur2_, HIL.out, by omega, rfl, by rw [s1_, HCM.out], ?_, rfl⟩, HM⟩
          refine Row.of_take ?_
          rw [HIL.out, s2_, ← HST.out]
          have h3 := congrArg (List.take (i * 10)) HRM.out.take
          rw [List.take_take, flat_take, show min (i * 10) (m.length * 10) = i * 10 by have := hML.out; have := HN.out; omega] at h3
          exact h3
set_option maxHeartbeats 2000000 in
theorem fun_all  (e : E) : Does Try.prog 51 #[.agg e.cells] [] fun r L => r = .bool (true) ∧ L = [] := by
  intro w hH
  have HM := Mem.start hH
  go_enter Try.func51, Try.ntmps51
  go_wp2_with (first
    | (refine Go.Proofs.Ytccbpcdepgnmgaa.M.at_mem rfl ?_; first | (refine Go.Proofs.Ytccbpcdepgnmgaa.M.at_box 26 rfl ?_; first | (refine Go.Proofs.Ytccbpcdepgnmgaa.M.box_m HM rfl rfl 26 _ rfl _ rfl ?_; clear HM; intro g_ w_ HM; go_simp)) | ((fail_if_success (refine Go.Proofs.Ytccbpcdepgnmgaa.M.lit_t rfl ?_)); (fail_if_success (refine Go.Proofs.Ytccbpcdepgnmgaa.M.lit_f rfl ?_)); refine Go.Proofs.Ytccbpcdepgnmgaa.M.split_guard rfl rfl ?_ ?_ <;> (intro hg_; simp only [hg_]; try simp only [Go.Proofs.Ytccbpcdepgnmgaa.M.hgs] at hg_)))
    | ((fail_if_success (refine Go.Proofs.Ytccbpcdepgnmgaa.M.lit_t rfl ?_)); (fail_if_success (refine Go.Proofs.Ytccbpcdepgnmgaa.M.lit_f rfl ?_)); refine Go.Proofs.Ytccbpcdepgnmgaa.M.split_guard rfl rfl ?_ ?_ <;> (intro hg_; simp only [hg_]; try simp only [Go.Proofs.Ytccbpcdepgnmgaa.M.hgs] at hg_)))
  all_goals
    go_ret
    exact ⟨_, _, rfl, ⟨rfl, rfl⟩, HM.drop (A := [_])⟩
set_option maxHeartbeats 2000000 in
theorem idx_all  (p : E → Bool) (hp : ∀ e : E, (true) = p e) (l : List E) (g n cap : Nat) (cur : Array Value) (hR : Row l 0 cur) (hn : l.length = n) (h1 : n ≤ 1000) : Does Try.prog 54 #[.slice (some ⟨g, 0, none⟩) n cap, .func (.func 51) #[] #[]] [(g, row cur 26)]
    fun r L => ∃ k, k ≤ n ∧ (∀ j y, j < k → l[j]? = some y → p y = false) ∧ ((k = n ∧ r = .int .i64 (-1)) ∨ ∃ x, r = .int .i64 k ∧ l[k]? = some x ∧ p x = true) ∧ L = [(g, row cur 26)] := by
  intro w hH
  have HM := Mem.start hH
  have HR := Lib.hid hR; have HN := Lib.hid hn; have HPP := Lib.hid hp; clear hR hn hp
  go_enter Try.func54, Try.ntmps54
  go_wp2_with (first
    | (refine Go.Proofs.Ytccbpcdepgnmgaa.M.at_mem rfl ?_; first | (refine Go.Proofs.Ytccbpcdepgnmgaa.M.at_load 26 rfl ?_; first | (refine Go.Proofs.Ytccbpcdepgnmgaa.M.load_row_m HM rfl 26 _ rfl 0 _ _ _ rfl rfl (by kernel_rfl) (by kernel_rfl) ?_; go_simp)) | ((fail_if_success (refine Go.Proofs.Ytccbpcdepgnmgaa.M.lit_t rfl ?_)); (fail_if_success (refine Go.Proofs.Ytccbpcdepgnmgaa.M.lit_f rfl ?_)); refine Go.Proofs.Ytccbpcdepgnmgaa.M.split_guard rfl rfl ?_ ?_ <;> (intro hg_; simp only [hg_]; try simp only [Go.Proofs.Ytccbpcdepgnmgaa.M.hgs] at hg_)))
    | ((fail_if_success (refine Go.Proofs.Ytccbpcdepgnmgaa.M.lit_t rfl ?_)); (fail_if_success (refine Go.Proofs.Ytccbpcdepgnmgaa.M.lit_f rfl ?_)); refine Go.Proofs.Ytccbpcdepgnmgaa.M.split_guard rfl rfl ?_ ?_ <;> (intro hg_; simp only [hg_]; try simp only [Go.Proofs.Ytccbpcdepgnmgaa.M.hgs] at hg_)))
  go_loopw [8] (fun iv wr => ∃ k : Nat, k ≤ n ∧ iv = .int .i64 k ∧ (∀ j y, j < k → l[j]? = some y → p y = false) ∧ Mem w _ [(g, row cur 26)] wr) (fun iv _ => n - (intOf iv).toNat)
  case atStart => exact ⟨0, by omega, rfl, fun j y hj => absurd hj (Nat.not_lt_zero _), HM⟩
  case round =>
    clear HM
    obtain ⟨k, k19, rfl, hno, HM⟩ := hrel
    have HNO := Lib.hid hno; clear hno
    by_cases hlt : k < n
    · obtain ⟨x, hx⟩ : ∃ x, l[k]? = some x := ⟨_, List.getElem?_eq_getElem (by have := HN.out; omega)⟩
      have hg := HR.out.get hx
      have hsz := HR.out.2
      have hnn := HN.out
      rw [Nat.zero_add] at hg
      have HG := Lib.hid hg; clear hg
      have hk1 : (k : Int) < n := by omega
      have hn1 : (n : Int) ≤ 1000 := by omega
      have hoff : k * 10 + 10 ≤ cur.size := by omega
      have HOFF := Lib.hid hoff; clear hoff hsz hnn
      have HX := Lib.hid hx
      have CF := fun_all  x
      rw [HPP.out x] at CF
      clear hx
      generalize hpx : p x = b at CF
      have HP := Lib.hid hpx; clear hpx
      cases b with
      | true =>
        go_wp2_with (first
          | (go_at_call 51; (with_reducible refine (Go.Proofs.Ytccbpcdepgnmgaa.M.Does.call (CF) HM (List.Perm.refl _)).mono ?_); clear HM; rintro e w_ ⟨v_, L_, rfl, ⟨rfl, rfl⟩, HM⟩; (try simp only [List.eraseIdx_cons_zero, List.eraseIdx_cons_succ, List.cons_append, List.nil_append] at HM); dsimp only)
          | (refine Sl.at_indexAddr 36 rfl ?_; refine Sl.indexAddr_m rfl _ rfl 36 rfl 26 (by kernel_rfl) 10 (by kernel_rfl) _ 0 n cap rfl .i64 (k : Int) rfl (by omega) (by omega) (k * 10) (by omega) ?_; go_simp)
          | (refine Go.Proofs.Ytccbpcdepgnmgaa.M.at_mem rfl ?_; first | (refine Go.Proofs.Ytccbpcdepgnmgaa.M.at_load 26 rfl ?_; first | (refine Go.Proofs.Ytccbpcdepgnmgaa.M.load_part_m HM rfl 26 _ rfl 0 g (k * 10) 10 _ cur rfl rfl HOFF.out x.cells HG.out (by kernel_rfl) (by kernel_rfl) ?_; go_simp) | (refine Go.Proofs.Ytccbpcdepgnmgaa.M.load_row_m HM rfl 26 _ rfl 0 _ _ _ rfl rfl (by kernel_rfl) (by kernel_rfl) ?_; go_simp)) | ((fail_if_success (refine Go.Proofs.Ytccbpcdepgnmgaa.M.lit_t rfl ?_)); (fail_if_success (refine Go.Proofs.Ytccbpcdepgnmgaa.M.lit_f rfl ?_)); refine Go.Proofs.Ytccbpcdepgnmgaa.M.split_guard rfl rfl ?_ ?_ <;> (intro hg_; simp only [hg_]; try simp only [Go.Proofs.Ytccbpcdepgnmgaa.M.hgs] at hg_)))
          | (refine Mc.at_cmp _ rfl ?_; refine Mc.cmp_m rfl _ rfl _ _ _ rfl _ _ _ rfl rfl _ rfl ?_ ?_ <;> (intro hg_; try simp only [Go.Proofs.Ytccbpcdepgnmgaa.M.hgs] at hg_; first | (exfalso; first | omega | (simp at hg_; done)) | (go_simp)))
          | ((fail_if_success (refine Go.Proofs.Ytccbpcdepgnmgaa.M.lit_t rfl ?_)); (fail_if_success (refine Go.Proofs.Ytccbpcdepgnmgaa.M.lit_f rfl ?_)); refine Go.Proofs.Ytccbpcdepgnmgaa.M.split_guard rfl rfl ?_ ?_ <;> (intro hg_; simp only [hg_]; try simp only [Go.Proofs.Ytccbpcdepgnmgaa.M.hgs] at hg_)))
        all_goals
          (go_ret
           exact ⟨_, _, rfl, ⟨k, by omega, HNO.out, .inr ⟨x, rfl, HX.out, HP.out⟩, rfl⟩, HM⟩)
      | false =>
        go_wp2_with (first
          | (go_at_call 51; (with_reducible refine (Go.Proofs.Ytccbpcdepgnmgaa.M.Does.call (CF) HM (List.Perm.refl _)).mono ?_); clear HM; rintro e w_ ⟨v_, L_, rfl, ⟨rfl, rfl⟩, HM⟩; (try simp only [List.eraseIdx_cons_zero, List.eraseIdx_cons_succ, List.cons_append, List.nil_append] at HM); dsimp only)
          | (refine Sl.at_indexAddr 36 rfl ?_; refine Sl.indexAddr_m rfl _ rfl 36 rfl 26 (by kernel_rfl) 10 (by kernel_rfl) _ 0 n cap rfl .i64 (k : Int) rfl (by omega) (by omega) (k * 10) (by omega) ?_; go_simp)
          | (refine Go.Proofs.Ytccbpcdepgnmgaa.M.at_mem rfl ?_; first | (refine Go.Proofs.Ytccbpcdepgnmgaa.M.at_load 26 rfl ?_; first | (refine Go.Proofs.Ytccbpcdepgnmgaa.M.load_part_m HM rfl 26 _ rfl 0 g (k * 10) 10 _ cur rfl rfl HOFF.out x.cells HG.out (by kernel_rfl) (by kernel_rfl) ?_; go_simp) | (refine Go.Proofs.Ytccbpcdepgnmgaa.M.load_row_m HM rfl 26 _ rfl 0 _ _ _ rfl rfl (by kernel_rfl) (by kernel_rfl) ?_; go_simp)) | ((fail_if_success (refine Go.Proofs.Ytccbpcdepgnmgaa.M.lit_t rfl ?_)); (fail_if_success (refine Go.Proofs.Ytccbpcdepgnmgaa.M.lit_f rfl ?_)); refine Go.Proofs.Ytccbpcdepgnmgaa.M.split_guard rfl rfl ?_ ?_ <;> (intro hg_; simp only [hg_]; try simp only [Go.Proofs.Ytccbpcdepgnmgaa.M.hgs] at hg_)))
          | (refine Mc.at_cmp _ rfl ?_; refine Mc.cmp_m rfl _ rfl _ _ _ rfl _ _ _ rfl rfl _ rfl ?_ ?_ <;> (intro hg_; try simp only [Go.Proofs.Ytccbpcdepgnmgaa.M.hgs] at hg_; first | (exfalso; first | omega | (simp at hg_; done)) | (go_simp)))
          | ((fail_if_success (refine Go.Proofs.Ytccbpcdepgnmgaa.M.lit_t rfl ?_)); (fail_if_success (refine Go.Proofs.Ytccbpcdepgnmgaa.M.lit_f rfl ?_)); refine Go.Proofs.Ytccbpcdepgnmgaa.M.split_guard rfl rfl ?_ ?_ <;> (intro hg_; simp only [hg_]; try simp only [Go.Proofs.Ytccbpcdepgnmgaa.M.hgs] at hg_)))
        all_goals
          (go_roundw
           case rel => exact ⟨k + 1, by omega, by first | rfl | (refine congrArg (fun z => Value.int .i64 z) ?_; omega), fun j y hj hy => by
             by_cases e : j = k
             · subst e; rw [HX.out] at hy; cases hy; exact HP.out
             · exact HNO.out j y (by omega) hy, HM⟩
           case measure => simp [intOf]; omega)
    · obtain rfl : k = n := by omega
      go_wp2_with (first
        | (refine Go.Proofs.Ytccbpcdepgnmgaa.M.at_mem rfl ?_; first | (refine Go.Proofs.Ytccbpcdepgnmgaa.M.at_load 26 rfl ?_; first | (refine Go.Proofs.Ytccbpcdepgnmgaa.M.load_row_m HM rfl 26 _ rfl 0 _ _ _ rfl rfl (by kernel_rfl) (by kernel_rfl) ?_; go_simp)) | ((fail_if_success (refine Go.Proofs.Ytccbpcdepgnmgaa.M.lit_t rfl ?_)); (fail_if_success (refine Go.Proofs.Ytccbpcdepgnmgaa.M.lit_f rfl ?_)); refine Go.Proofs.Ytccbpcdepgnmgaa.M.split_guard rfl rfl ?_ ?_ <;> (intro hg_; simp only [hg_]; try simp only [Go.Proofs.Ytccbpcdepgnmgaa.M.hgs] at hg_)))
        | (refine Mc.at_cmp _ rfl ?_; refine Mc.cmp_m rfl _ rfl _ _ _ rfl _ _ _ rfl rfl _ rfl ?_ ?_ <;> (intro hg_; try simp only [Go.Proofs.Ytccbpcdepgnmgaa.M.hgs] at hg_; first | (exfalso; first | omega | (simp at hg_; done)) | (go_simp)))
        | ((fail_if_success (refine Go.Proofs.Ytccbpcdepgnmgaa.M.lit_t rfl ?_)); (fail_if_success (refine Go.Proofs.Ytccbpcdepgnmgaa.M.lit_f rfl ?_)); refine Go.Proofs.Ytccbpcdepgnmgaa.M.split_guard rfl rfl ?_ ?_ <;> (intro hg_; simp only [hg_]; try simp only [Go.Proofs.Ytccbpcdepgnmgaa.M.hgs] at hg_)))
      all_goals
        go_ret
        exact ⟨_, _, rfl, ⟨k, Nat.le_refl _, HNO.out, .inl ⟨rfl, rfl⟩, rfl⟩, HM⟩
set_option maxHeartbeats 4000000 in
theorem del_all  (p : E → Bool) (hp : ∀ e : E, (true) = p e) (l : List E) (g n cap : Nat) (cur0 : Array Value) (hR : Row l 0 cur0) (hn : l.length = n) (hc : n ≤ cap) (hcs : cur0.size = cap * 10) (h1 : n ≤ 1000) : Does Try.prog 49 #[.slice (some ⟨g, 0, none⟩) n cap, .func (.func 51) #[] #[]] [(g, row cur0 26)]
    fun r L => ∃ (m : Nat) (cur : Array Value), (l.filter (fun e => !p e)).length = m ∧ m ≤ n ∧ r = .slice (some ⟨g, 0, none⟩) m cap ∧ cur.size = cap * 10 ∧ Row (l.filter (fun e => !p e)) 0 cur ∧ L = [(g, row cur 26)] := by
  have CI0 := idx_all  p hp l g n cap cur0 hR hn h1
  have HR := Lib.hid hR; have HN := Lib.hid hn; have HCS := Lib.hid hcs; clear hR hn hcs
  have FS := first_split p l
  have HPP := Lib.hid hp; clear hp
  intro w hH
  have HM := Mem.start hH
  rcases FS with hno | ⟨k0, x0, hx0, hp0, hno⟩
  · have CI := Lib.hid (weaken (R2 := fun r L => r = .int .i64 (-1) ∧ L = [(g, row cur0 26)]) CI0 (fun r L ⟨k, q1, q2, q3, q4⟩ => by
      rcases q3 with ⟨_, q3⟩ | ⟨x, _, q5, q6⟩
      · exact ⟨q3, q4⟩
      · rw [hno k x q5] at q6; cases q6))
    have hfl : l.filter (fun e => !p e) = l := List.filter_eq_self.2 (fun x hx => by
      obtain ⟨j, hj⟩ := List.mem_iff_getElem?.1 hx
      rw [hno j x hj]; rfl)
    have HFL := Lib.hid hfl; clear hfl hno CI0
    go_enter Try.func49, Try.ntmps49
    go_wp2_with (first
      | (go_at_call 54; (with_reducible refine (Tf.whole CI.out HM).mono ?_); clear HM; rintro e w_ ⟨v_, L_, rfl, ⟨rfl, rfl⟩, HM⟩; dsimp only)
      | (refine Go.Proofs.Ytccbpcdepgnmgaa.M.at_mem rfl ?_; first | (refine Go.Proofs.Ytccbpcdepgnmgaa.M.at_load 26 rfl ?_; first | (refine Go.Proofs.Ytccbpcdepgnmgaa.M.load_row_m HM rfl 26 _ rfl 0 _ _ _ rfl rfl (by kernel_rfl) (by kernel_rfl) ?_; go_simp)) | (refine Go.Proofs.Ytccbpcdepgnmgaa.M.at_store 26 rfl ?_; first | (refine Go.Proofs.Ytccbpcdepgnmgaa.M.store_row_m HM rfl 26 _ _ rfl 0 _ _ _ _ rfl rfl rfl (by kernel_rfl) rfl (by simp [Value.oneCell']) ?_; clear HM; intro w_ HM; (try simp only [Go.Proofs.Ytccbpcdepgnmgaa.M.nrm] at HM); go_simp)) | (refine Go.Proofs.Ytccbpcdepgnmgaa.M.at_alloc 26 rfl ?_; first | (refine Go.Proofs.Ytccbpcdepgnmgaa.M.alloc_m HM rfl rfl 26 rfl (.agg #[(.int .i64 0), (.int .u64 0), (.int .i64 0), (.int .i64 0), (.int .u64 0), (.bool false), (.bool false), (.bool false), (.bool false), (.int .i64 0)]) (by kernel_rfl) #[(.int .i64 0), (.int .u64 0), (.int .i64 0), (.int .i64 0), (.int .u64 0), (.bool false), (.bool false), (.bool false), (.bool false), (.int .i64 0)] rfl ?_; clear HM; intro g_ w_ HM; go_simp)) | ((fail_if_success (refine Go.Proofs.Ytccbpcdepgnmgaa.M.lit_t rfl ?_)); (fail_if_success (refine Go.Proofs.Ytccbpcdepgnmgaa.M.lit_f rfl ?_)); refine Go.Proofs.Ytccbpcdepgnmgaa.M.split_guard rfl rfl ?_ ?_ <;> (intro hg_; simp only [hg_]; try simp only [Go.Proofs.Ytccbpcdepgnmgaa.M.hgs] at hg_)))
      | (refine Mc.at_cmp _ rfl ?_; refine Mc.cmp_m rfl _ rfl _ _ _ rfl _ _ _ rfl rfl _ rfl ?_ ?_ <;> (intro hg_; try simp only [Go.Proofs.Ytccbpcdepgnmgaa.M.hgs] at hg_; first | (exfalso; first | omega | (simp at hg_; done)) | (go_simp)))
      | ((fail_if_success (refine Go.Proofs.Ytccbpcdepgnmgaa.M.lit_t rfl ?_)); (fail_if_success (refine Go.Proofs.Ytccbpcdepgnmgaa.M.lit_f rfl ?_)); refine Go.Proofs.Ytccbpcdepgnmgaa.M.split_guard rfl rfl ?_ ?_ <;> (intro hg_; simp only [hg_]; try simp only [Go.Proofs.Ytccbpcdepgnmgaa.M.hgs] at hg_)))
    all_goals
      go_ret
      exact ⟨_, _, rfl, ⟨n, cur0, by rw [HFL.out, HN.out], Nat.le_refl _, rfl, HCS.out, by rw [HFL.out]; exact HR.out, rfl⟩, HM⟩
  · have hkk : k0 < n := by have := (List.getElem?_eq_some_iff.1 hx0).1; have := HN.out; omega
    have CI := Lib.hid (weaken (R2 := fun r L => r = .int .i64 k0 ∧ L = [(g, row cur0 26)]) CI0 (fun r L ⟨k, q1, q2, q3, q4⟩ => by
      rcases q3 with ⟨rfl, _⟩ | ⟨x, q3, q5, q6⟩
      · rw [q2 k0 x0 hkk hx0] at hp0; cases hp0
      · refine ⟨?_, q4⟩
        have e : k = k0 := by
          rcases Nat.lt_trichotomy k k0 with h | h | h
          · rw [hno k x h q5] at q6; cases q6
          · exact h
          · rw [q2 k0 x0 h hx0] at hp0; cases hp0
        rw [q3, e]))
    have hst := Part.start hx0 hp0 hno
    have HST := Lib.hid hst; clear hst hx0 hp0 hno CI0
    have hn1 : (n : Int) ≤ 1000 := by omega
    have hkk1 : (k0 : Int) < n := by omega
    go_enter Try.func49, Try.ntmps49
    go_wp2_with (first
      | (go_at_call 54; (with_reducible refine (Tf.whole CI.out HM).mono ?_); clear HM; rintro e w_ ⟨v_, L_, rfl, ⟨rfl, rfl⟩, HM⟩; dsimp only)
      | (refine Go.Proofs.Ytccbpcdepgnmgaa.M.at_mem rfl ?_; first | (refine Go.Proofs.Ytccbpcdepgnmgaa.M.at_load 26 rfl ?_; first | (refine Go.Proofs.Ytccbpcdepgnmgaa.M.load_row_m HM rfl 26 _ rfl 0 _ _ _ rfl rfl (by kernel_rfl) (by kernel_rfl) ?_; go_simp)) | (refine Go.Proofs.Ytccbpcdepgnmgaa.M.at_store 26 rfl ?_; first | (refine Go.Proofs.Ytccbpcdepgnmgaa.M.store_row_m HM rfl 26 _ _ rfl 0 _ _ _ _ rfl rfl rfl (by kernel_rfl) rfl (by simp [Value.oneCell']) ?_; clear HM; intro w_ HM; (try simp only [Go.Proofs.Ytccbpcdepgnmgaa.M.nrm] at HM); go_simp)) | (refine Go.Proofs.Ytccbpcdepgnmgaa.M.at_alloc 26 rfl ?_; first | (refine Go.Proofs.Ytccbpcdepgnmgaa.M.alloc_m HM rfl rfl 26 rfl (.agg #[(.int .i64 0), (.int .u64 0), (.int .i64 0), (.int .i64 0), (.int .u64 0), (.bool false), (.bool false), (.bool false), (.bool false), (.int .i64 0)]) (by kernel_rfl) #[(.int .i64 0), (.int .u64 0), (.int .i64 0), (.int .i64 0), (.int .u64 0), (.bool false), (.bool false), (.bool false), (.bool false), (.int .i64 0)] rfl ?_; clear HM; intro g_ w_ HM; go_simp)) | ((fail_if_success (refine Go.Proofs.Ytccbpcdepgnmgaa.M.lit_t rfl ?_)); (fail_if_success (refine Go.Proofs.Ytccbpcdepgnmgaa.M.lit_f rfl ?_)); refine Go.Proofs.Ytccbpcdepgnmgaa.M.split_guard rfl rfl ?_ ?_ <;> (intro hg_; simp only [hg_]; try simp only [Go.Proofs.Ytccbpcdepgnmgaa.M.hgs] at hg_)))
      | (refine Mc.at_cmp _ rfl ?_; refine Mc.cmp_m rfl _ rfl _ _ _ rfl _ _ _ rfl rfl _ rfl ?_ ?_ <;> (intro hg_; try simp only [Go.Proofs.Ytccbpcdepgnmgaa.M.hgs] at hg_; first | (exfalso; first | omega | (simp at hg_; done)) | (go_simp)))
      | ((fail_if_success (refine Go.Proofs.Ytccbpcdepgnmgaa.M.lit_t rfl ?_)); (fail_if_success (refine Go.Proofs.Ytccbpcdepgnmgaa.M.lit_f rfl ?_)); refine Go.Proofs.Ytccbpcdepgnmgaa.M.split_guard rfl rfl ?_ ?_ <;> (intro hg_; simp only [hg_]; try simp only [Go.Proofs.Ytccbpcdepgnmgaa.M.hgs] at hg_)))
    go_loopw [5, 6] (fun a b wr => ∃ (i j : Nat) (m : List E) (cur : Array Value), a = .int .i64 i ∧ b = .int .i64 j ∧ Part p l m i j ∧ Row m 0 cur ∧ cur.size = cap * 10 ∧ Mem w _ [(g, row cur 26)] wr) (fun _ b _ => n - (intOf b).toNat)
    case atStart => exact ⟨k0, k0 + 1, l, cur0, rfl, by first | rfl | (refine congrArg (fun z => Value.int .i64 z) ?_; omega), HST.out, HR.out, HCS.out, HM⟩
    case round =>
      clear HM HST
      obtain ⟨i, j, m, cur, rfl, rfl, hP, hRm, hcm, HM⟩ := hrel
      have hle := hP.le
      have hlti := hP.lt
      have hml := hP.len
      have hnn := HN.out
      by_cases hlt : j < n
      · obtain ⟨x, hx⟩ : ∃ x, l[j]? = some x := ⟨_, List.getElem?_eq_getElem (by omega)⟩
        have hg := hRm.get (hP.get.trans hx)
        have hsz := hRm.2
        rw [Nat.zero_add] at hg
        have HG := Lib.hid hg; clear hg
        have hk1 : (j : Int) < n := by omega
        have hi1 : (i : Int) < n := by omega
        have hoff : j * 10 + 10 ≤ cur.size := by omega
        have HOFF := Lib.hid hoff
        have hof2 : i * 10 + x.cells.size ≤ cur.size := by rw [E.size]; omega
        have HOF2 := Lib.hid hof2; clear hoff hof2 hsz
        have CF := fun_all  x
        rw [HPP.out x] at CF
        have HSK := Lib.hid (fun h => hP.skip (x := x) hx h)
        have HKP := Lib.hid (fun h => hP.keep (x := x) hx h)
        have HRS := Lib.hid (Tf.Row.set hRm x (i := i) (by omega))
        have HRM := Lib.hid hRm; have HCM := Lib.hid hcm
        have HSS := Lib.hid (splice_size cur (i * 10) x.cells.toList (by rw [Array.length_toList, E.size]; omega))
        clear hP hRm hcm hx hle hml hnn
        generalize hpx : p x = b at CF
        have HB := Lib.hid hpx; clear hpx
        cases b with
        | true =>
          go_wp2_with (first
            | (go_at_call 51; (with_reducible refine (Go.Proofs.Ytccbpcdepgnmgaa.M.Does.call (CF) HM (List.Perm.refl _)).mono ?_); clear HM; rintro e w_ ⟨v_, L_, rfl, ⟨rfl, rfl⟩, HM⟩; (try simp only [List.eraseIdx_cons_zero, List.eraseIdx_cons_succ, List.cons_append, List.nil_append] at HM); dsimp only)
            | (refine Sl.at_indexAddr 36 rfl ?_; refine Sl.indexAddr_m rfl _ rfl 36 rfl 26 (by kernel_rfl) 10 (by kernel_rfl) _ 0 n cap rfl .i64 (j : Int) rfl (by omega) (by omega) (j * 10) (by omega) ?_; go_simp)
            | (refine Go.Proofs.Ytccbpcdepgnmgaa.M.at_mem rfl ?_; first | (refine Go.Proofs.Ytccbpcdepgnmgaa.M.at_load 26 rfl ?_; first | (refine Go.Proofs.Ytccbpcdepgnmgaa.M.load_part_m HM rfl 26 _ rfl 0 g (j * 10) 10 _ cur rfl rfl HOFF.out x.cells HG.out (by kernel_rfl) (by kernel_rfl) ?_; go_simp) | (refine Go.Proofs.Ytccbpcdepgnmgaa.M.load_row_m HM rfl 26 _ rfl 0 _ _ _ rfl rfl (by kernel_rfl) (by kernel_rfl) ?_; go_simp) | (refine Go.Proofs.Ytccbpcdepgnmgaa.M.load_row_m HM rfl 26 _ rfl 1 _ _ _ rfl rfl (by kernel_rfl) (by kernel_rfl) ?_; go_simp) | (refine Go.Proofs.Ytccbpcdepgnmgaa.M.load_row_m HM rfl 26 _ rfl 2 _ _ _ rfl rfl (by kernel_rfl) (by kernel_rfl) ?_; go_simp) | (refine Go.Proofs.Ytccbpcdepgnmgaa.M.load_row_m HM rfl 26 _ rfl 3 _ _ _ rfl rfl (by kernel_rfl) (by kernel_rfl) ?_; go_simp)) | (refine Go.Proofs.Ytccbpcdepgnmgaa.M.at_store 26 rfl ?_; first | (refine Sn.store_part_m HM rfl 26 _ _ rfl 1 g (i * 10) _ cur x.cells rfl rfl rfl (by kernel_rfl) (E.one x) HOF2.out ?_; clear HM; intro w_ HM; (try simp only [List.set_cons_zero, List.set_cons_succ] at HM); go_simp) | (refine Go.Proofs.Ytccbpcdepgnmgaa.M.store_row_m HM rfl 26 _ _ rfl 0 _ _ _ x.cells rfl rfl rfl (by kernel_rfl) rfl (E.one x) ?_; clear HM; intro w_ HM; (try simp only [List.set_cons_zero, List.set_cons_succ] at HM); go_simp) | (refine Go.Proofs.Ytccbpcdepgnmgaa.M.store_row_m HM rfl 26 _ _ rfl 0 _ _ _ _ rfl rfl rfl (by kernel_rfl) rfl (by simp [Value.oneCell']) ?_; clear HM; intro w_ HM; (try simp only [Go.Proofs.Ytccbpcdepgnmgaa.M.nrm] at HM); go_simp) | (refine Go.Proofs.Ytccbpcdepgnmgaa.M.store_row_m HM rfl 26 _ _ rfl 1 _ _ _ _ rfl rfl rfl (by kernel_rfl) rfl (by simp [Value.oneCell']) ?_; clear HM; intro w_ HM; (try simp only [Go.Proofs.Ytccbpcdepgnmgaa.M.nrm] at HM); go_simp) | (refine Go.Proofs.Ytccbpcdepgnmgaa.M.store_row_m HM rfl 26 _ _ rfl 2 _ _ _ _ rfl rfl rfl (by kernel_rfl) rfl (by simp [Value.oneCell']) ?_; clear HM; intro w_ HM; (try simp only [Go.Proofs.Ytccbpcdepgnmgaa.M.nrm] at HM); go_simp) | (refine Go.Proofs.Ytccbpcdepgnmgaa.M.store_row_m HM rfl 26 _ _ rfl 3 _ _ _ _ rfl rfl rfl (by kernel_rfl) rfl (by simp [Value.oneCell']) ?_; clear HM; intro w_ HM; (try simp only [Go.Proofs.Ytccbpcdepgnmgaa.M.nrm] at HM); go_simp)) | (refine Go.Proofs.Ytccbpcdepgnmgaa.M.at_alloc 26 rfl ?_; first | (refine Go.Proofs.Ytccbpcdepgnmgaa.M.alloc_m HM rfl rfl 26 rfl (.agg E.zero.cells) (by kernel_rfl) E.zero.cells rfl ?_; clear HM; intro g_ w_ HM; go_simp) | (refine Go.Proofs.Ytccbpcdepgnmgaa.M.alloc_m HM rfl rfl 26 rfl (.agg #[(.int .i64 0), (.int .u64 0), (.int .i64 0), (.int .i64 0), (.int .u64 0), (.bool false), (.bool false), (.bool false), (.bool false), (.int .i64 0)]) (by kernel_rfl) #[(.int .i64 0), (.int .u64 0), (.int .i64 0), (.int .i64 0), (.int .u64 0), (.bool false), (.bool false), (.bool false), (.bool false), (.int .i64 0)] rfl ?_; clear HM; intro g_ w_ HM; go_simp)) | ((fail_if_success (refine Go.Proofs.Ytccbpcdepgnmgaa.M.lit_t rfl ?_)); (fail_if_success (refine Go.Proofs.Ytccbpcdepgnmgaa.M.lit_f rfl ?_)); refine Go.Proofs.Ytccbpcdepgnmgaa.M.split_guard rfl rfl ?_ ?_ <;> (intro hg_; simp only [hg_]; try simp only [Go.Proofs.Ytccbpcdepgnmgaa.M.hgs] at hg_)))
            | (refine Mc.at_cmp _ rfl ?_; refine Mc.cmp_m rfl _ rfl _ _ _ rfl _ _ _ rfl rfl _ rfl ?_ ?_ <;> (intro hg_; try simp only [Go.Proofs.Ytccbpcdepgnmgaa.M.hgs] at hg_; first | (exfalso; first | omega | (simp at hg_; done)) | (go_simp)))
            | ((fail_if_success (refine Go.Proofs.Ytccbpcdepgnmgaa.M.lit_t rfl ?_)); (fail_if_success (refine Go.Proofs.Ytccbpcdepgnmgaa.M.lit_f rfl ?_)); refine Go.Proofs.Ytccbpcdepgnmgaa.M.split_guard rfl rfl ?_ ?_ <;> (intro hg_; simp only [hg_]; try simp only [Go.Proofs.Ytccbpcdepgnmgaa.M.hgs] at hg_)))
          all_goals
            go_roundw
            case rel => exact ⟨i, j + 1, m, cur, rfl, by first | rfl | (refine congrArg (fun z => Value.int .i64 z) ?_; omega), HSK.out HB.out, HRM.out, HCM.out, ((HM.perm (perm_at 1 rfl)).take (A := [_]))⟩
            case measure => simp [intOf]; omega
        | false =>
          go_wp2_with (first
            | (go_at_call 51; (with_reducible refine (Go.Proofs.Ytccbpcdepgnmgaa.M.Does.call (CF) HM (List.Perm.refl _)).mono ?_); clear HM; rintro e w_ ⟨v_, L_, rfl, ⟨rfl, rfl⟩, HM⟩; (try simp only [List.eraseIdx_cons_zero, List.eraseIdx_cons_succ, List.cons_append, List.nil_append] at HM); dsimp only)
            | (refine Sl.at_indexAddr 36 rfl ?_; refine Sl.indexAddr_m rfl _ rfl 36 rfl 26 (by kernel_rfl) 10 (by kernel_rfl) _ 0 n cap rfl .i64 (j : Int) rfl (by omega) (by omega) (j * 10) (by omega) ?_; go_simp)
            | (refine Sl.at_indexAddr 36 rfl ?_; refine Sl.indexAddr_m rfl _ rfl 36 rfl 26 (by kernel_rfl) 10 (by kernel_rfl) _ 0 n cap rfl .i64 (i : Int) rfl (by omega) (by omega) (i * 10) (by omega) ?_; go_simp)
            | (refine Go.Proofs.Ytccbpcdepgnmgaa.M.at_mem rfl ?_; first | (refine Go.Proofs.Ytccbpcdepgnmgaa.M.at_load 26 rfl ?_; first | (refine Go.Proofs.Ytccbpcdepgnmgaa.M.load_part_m HM rfl 26 _ rfl 0 g (j * 10) 10 _ cur rfl rfl HOFF.out x.cells HG.out (by kernel_rfl) (by kernel_rfl) ?_; go_simp) | (refine Go.Proofs.Ytccbpcdepgnmgaa.M.load_row_m HM rfl 26 _ rfl 0 _ _ _ rfl rfl (by kernel_rfl) (by kernel_rfl) ?_; go_simp) | (refine Go.Proofs.Ytccbpcdepgnmgaa.M.load_row_m HM rfl 26 _ rfl 1 _ _ _ rfl rfl (by kernel_rfl) (by kernel_rfl) ?_; go_simp) | (refine Go.Proofs.Ytccbpcdepgnmgaa.M.load_row_m HM rfl 26 _ rfl 2 _ _ _ rfl rfl (by kernel_rfl) (by kernel_rfl) ?_; go_simp) | (refine Go.Proofs.Ytccbpcdepgnmgaa.M.load_row_m HM rfl 26 _ rfl 3 _ _ _ rfl rfl (by kernel_rfl) (by kernel_rfl) ?_; go_simp)) | (refine Go.Proofs.Ytccbpcdepgnmgaa.M.at_store 26 rfl ?_; first | (refine Sn.store_part_m HM rfl 26 _ _ rfl 1 g (i * 10) _ cur x.cells rfl rfl rfl (by kernel_rfl) (E.one x) HOF2.out ?_; clear HM; intro w_ HM; (try simp only [List.set_cons_zero, List.set_cons_succ] at HM); go_simp) | (refine Go.Proofs.Ytccbpcdepgnmgaa.M.store_row_m HM rfl 26 _ _ rfl 0 _ _ _ x.cells rfl rfl rfl (by kernel_rfl) rfl (E.one x) ?_; clear HM; intro w_ HM; (try simp only [List.set_cons_zero, List.set_cons_succ] at HM); go_simp) | (refine Go.Proofs.Ytccbpcdepgnmgaa.M.store_row_m HM rfl 26 _ _ rfl 0 _ _ _ _ rfl rfl rfl (by kernel_rfl) rfl (by simp [Value.oneCell']) ?_; clear HM; intro w_ HM; (try simp only [Go.Proofs.Ytccbpcdepgnmgaa.M.nrm] at HM); go_simp) | (refine Go.Proofs.Ytccbpcdepgnmgaa.M.store_row_m HM rfl 26 _ _ rfl 1 _ _ _ _ rfl rfl rfl (by kernel_rfl) rfl (by simp [Value.oneCell']) ?_; clear HM; intro w_ HM; (try simp only [Go.Proofs.Ytccbpcdepgnmgaa.M.nrm] at HM); go_simp) | (refine Go.Proofs.Ytccbpcdepgnmgaa.M.store_row_m HM rfl 26 _ _ rfl 2 _ _ _ _ rfl rfl rfl (by kernel_rfl) rfl (by simp [Value.oneCell']) ?_; clear HM; intro w_ HM; (try simp only [Go.Proofs.Ytccbpcdepgnmgaa.M.nrm] at HM); go_simp) | (refine Go.Proofs.Ytccbpcdepgnmgaa.M.store_row_m HM rfl 26 _ _ rfl 3 _ _ _ _ rfl rfl rfl (by kernel_rfl) rfl (by simp [Value.oneCell']) ?_; clear HM; intro w_ HM; (try simp only [Go.Proofs.Ytccbpcdepgnmgaa.M.nrm] at HM); go_simp)) | (refine Go.Proofs.Ytccbpcdepgnmgaa.M.at_alloc 26 rfl ?_; first | (refine Go.Proofs.Ytccbpcdepgnmgaa.M.alloc_m HM rfl rfl 26 rfl (.agg E.zero.cells) (by kernel_rfl) E.zero.cells rfl ?_; clear HM; intro g_ w_ HM; go_simp) | (refine Go.Proofs.Ytccbpcdepgnmgaa.M.alloc_m HM rfl rfl 26 rfl (.agg #[(.int .i64 0), (.int .u64 0), (.int .i64 0), (.int .i64 0), (.int .u64 0), (.bool false), (.bool false), (.bool false), (.bool false), (.int .i64 0)]) (by kernel_rfl) #[(.int .i64 0), (.int .u64 0), (.int .i64 0), (.int .i64 0), (.int .u64 0), (.bool false), (.bool false), (.bool false), (.bool false), (.int .i64 0)] rfl ?_; clear HM; intro g_ w_ HM; go_simp)) | ((fail_if_success (refine Go.Proofs.Ytccbpcdepgnmgaa.M.lit_t rfl ?_)); (fail_if_success (refine Go.Proofs.Ytccbpcdepgnmgaa.M.lit_f rfl ?_)); refine Go.Proofs.Ytccbpcdepgnmgaa.M.split_guard rfl rfl ?_ ?_ <;> (intro hg_; simp only [hg_]; try simp only [Go.Proofs.Ytccbpcdepgnmgaa.M.hgs] at hg_)))
            | (refine Mc.at_cmp _ rfl ?_; refine Mc.cmp_m rfl _ rfl _ _ _ rfl _ _ _ rfl rfl _ rfl ?_ ?_ <;> (intro hg_; try simp only [Go.Proofs.Ytccbpcdepgnmgaa.M.hgs] at hg_; first | (exfalso; first | omega | (simp at hg_; done)) | (go_simp)))
            | ((fail_if_success (refine Go.Proofs.Ytccbpcdepgnmgaa.M.lit_t rfl ?_)); (fail_if_success (refine Go.Proofs.Ytccbpcdepgnmgaa.M.lit_f rfl ?_)); refine Go.Proofs.Ytccbpcdepgnmgaa.M.split_guard rfl rfl ?_ ?_ <;> (intro hg_; simp only [hg_]; try simp only [Go.Proofs.Ytccbpcdepgnmgaa.M.hgs] at hg_)))
          all_goals
            go_roundw
            case rel => exact ⟨i + 1, j + 1, m.set i x, splice cur (i * 10) x.cells.toList, by first | rfl | (refine congrArg (fun z => Value.int .i64 z) ?_; omega), by first | rfl | (refine congrArg (fun z => Value.int .i64 z) ?_; omega), HKP.out HB.out, HRS.out, by rw [HSS.out, HCM.out], ((HM.perm (perm_at 1 rfl)).take (A := [_]))⟩
            case measure => simp [intOf]; omega
      · obtain rfl : j = n := by omega
        have hcl : i * 10 + (j - i) * 10 ≤ cur.size := by omega
        have HCL := Lib.hid hcl
        have hst := (hnn ▸ hP : Part p l m i l.length).stop
        have hil : (l.filter (fun e => !p e)).length = i := by rw [← hst, List.length_take]; omega
        have HST := Lib.hid hst; have HIL := Lib.hid hil; have HRM := Lib.hid hRm; have HCM := Lib.hid hcm
        have hi1 : (i : Int) < j := by omega
        have hML := Lib.hid hml
        clear hst hil hRm hcm hP hcl hml hle hnn
        go_wp2_with (first
          | (refine Ts.at_slice 36 rfl ?_; first | (refine Ts.slice_m rfl _ rfl 36 26 rfl (by kernel_rfl) 10 (by kernel_rfl) (some ⟨g, 0, none⟩) j cap rfl i j cap (Or.inl ⟨rfl, rfl⟩) (Or.inl ⟨rfl, rfl, rfl⟩) (Or.inr ⟨_, rfl, by omega⟩) (.slice (some ⟨g, i * 10, none⟩) (j - i) (cap - i)) (by rw [if_neg (by omega)]; simp [add_at]) ?_; go_simp) | (refine Ts.slice_m rfl _ rfl 36 26 rfl (by kernel_rfl) 10 (by kernel_rfl) (some ⟨g, 0, none⟩) j cap rfl 0 i cap (Or.inl ⟨rfl, rfl⟩) (Or.inr ⟨_, rfl, by omega⟩) (Or.inl ⟨rfl, rfl⟩) _ (slice_low g j cap i) ?_; go_simp))
          | (refine Sn.at_clear rfl ?_; refine Sn.clear_m HM rfl _ 36 26 rfl 10 (by kernel_rfl) (by kernel_rfl) 0 g (i * 10) (j - i) (cap - i) _ rfl rfl HCL.out ?_; clear HM; intro cur2_ w_ s1_ s2_ HM; (try simp only [List.set_cons_zero] at HM); go_simp)
          | (refine Go.Proofs.Ytccbpcdepgnmgaa.M.at_mem rfl ?_; first | (refine Go.Proofs.Ytccbpcdepgnmgaa.M.at_load 26 rfl ?_; first | (refine Go.Proofs.Ytccbpcdepgnmgaa.M.load_row_m HM rfl 26 _ rfl 0 _ _ _ rfl rfl (by kernel_rfl) (by kernel_rfl) ?_; go_simp)) | (refine Go.Proofs.Ytccbpcdepgnmgaa.M.at_store 26 rfl ?_; first | (refine Go.Proofs.Ytccbpcdepgnmgaa.M.store_row_m HM rfl 26 _ _ rfl 0 _ _ _ _ rfl rfl rfl (by kernel_rfl) rfl (by simp [Value.oneCell']) ?_; clear HM; intro w_ HM; (try simp only [Go.Proofs.Ytccbpcdepgnmgaa.M.nrm] at HM); go_simp)) | (refine Go.Proofs.Ytccbpcdepgnmgaa.M.at_alloc 26 rfl ?_; first | (refine Go.Proofs.Ytccbpcdepgnmgaa.M.alloc_m HM rfl rfl 26 rfl (.agg #[(.int .i64 0), (.int .u64 0), (.int .i64 0), (.int .i64 0), (.int .u64 0), (.bool false), (.bool false), (.bool false), (.bool false), (.int .i64 0)]) (by kernel_rfl) #[(.int .i64 0), (.int .u64 0), (.int .i64 0), (.int .i64 0), (.int .u64 0), (.bool false), (.bool false), (.bool false), (.bool false), (.int .i64 0)] rfl ?_; clear HM; intro g_ w_ HM; go_simp)) | ((fail_if_success (refine Go.Proofs.Ytccbpcdepgnmgaa.M.lit_t rfl ?_)); (fail_if_success (refine Go.Proofs.Ytccbpcdepgnmgaa.M.lit_f rfl ?_)); refine Go.Proofs.Ytccbpcdepgnmgaa.M.split_guard rfl rfl ?_ ?_ <;> (intro hg_; simp only [hg_]; try simp only [Go.Proofs.Ytccbpcdepgnmgaa.M.hgs] at hg_)))
          | (refine Mc.at_cmp _ rfl ?_; refine Mc.cmp_m rfl _ rfl _ _ _ rfl _ _ _ rfl rfl _ rfl ?_ ?_ <;> (intro hg_; try simp only [Go.Proofs.Ytccbpcdepgnmgaa.M.hgs] at hg_; first | (exfalso; first | omega | (simp at hg_; done)) | (go_simp)))
          | ((fail_if_success (refine Go.Proofs.Ytccbpcdepgnmgaa.M.lit_t rfl ?_)); (fail_if_success (refine Go.Proofs.Ytccbpcdepgnmgaa.M.lit_f rfl ?_)); refine Go.Proofs.Ytccbpcdepgnmgaa.M.split_guard rfl rfl ?_ ?_ <;> (intro hg_; simp only [hg_]; try simp only [Go.Proofs.Ytccbpcdepgnmgaa.M.hgs] at hg_)))
        all_goals
          go_ret
          refine ⟨_, _, rfl, ⟨i, cur2_, HIL.out, by omega, rfl, by rw [s1_, HCM.out], ?_, rfl⟩, HM⟩
          refine Row.of_take ?_
          rw [HIL.out, s2_, ← HST.out]
          have h3 := congrArg (List.take (i * 10)) HRM.out.take
          rw [List.take_take, flat_take, show min (i * 10) (m.length * 10) = i * 10 by have := hML.out; have := HN.out; omega] at h3
          exact h3
end Go.Proofs.Ytccbpcdepgnmgaa.Tf
