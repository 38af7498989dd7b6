/- A buffer: Find, List. -/
import Derived.Test.YtccbpcdepgnmgaaProg
import Derived.Test.YtccbpcdepgnmgaaTt
namespace Go.Proofs.Ytccbpcdepgnmgaa.Tu
open Go.RowKit Go.Proofs.Ytccbpcdepgnmgaa.G Go.Proofs.Ytccbpcdepgnmgaa.B Go.Proofs.Ytccbpcdepgnmgaa.M Go.Proofs.Ytccbpcdepgnmgaa.Mv Go.Proofs.Ytccbpcdepgnmgaa.Sl Go.Proofs.Ytccbpcdepgnmgaa.Sm Go.Proofs.Ytccbpcdepgnmgaa.Sn Go.Proofs.Ytccbpcdepgnmgaa.Te Go.Proofs.Ytccbpcdepgnmgaa.Tp Go.Proofs.Ytccbpcdepgnmgaa.Tq Go.Proofs.Ytccbpcdepgnmgaa.Ts Go.Proofs.Ytccbpcdepgnmgaa.Td Go.Proofs.Ytccbpcdepgnmgaa.Tt

set_option linter.unusedVariables false
set_option linter.unusedSimpArgs false
set_option maxRecDepth 100000
/-- The first of some that something is so of, and how many there are. -/
def firstE (p : E → Bool) (l : List E) : E := (l.find? p).getD E.zero
def cntE (p : E → Bool) (l : List E) : Nat := (l.filter p).length
theorem take_succ {l : List E} {k : Nat} {x : E} (hx : l[k]? = some x) : l.take (k + 1) = l.take k ++ [x] := by
  rw [List.take_add_one, hx]; rfl
theorem cnt_step {p : E → Bool} {l : List E} {k : Nat} {x : E} (hx : l[k]? = some x) : cntE p (l.take (k + 1)) = cntE p (l.take k) + (if p x then 1 else 0) := by
  unfold cntE
  rw [take_succ hx, List.filter_append, List.length_append]
  cases h : p x <;> simp [h]
theorem first_none {p : E → Bool} {l : List E} : cntE p l = 0 ↔ l.find? p = none := by
  unfold cntE
  rw [List.length_eq_zero_iff, List.filter_eq_nil_iff, List.find?_eq_none]
theorem first_step {p : E → Bool} {l : List E} {k : Nat} {x : E} (hx : l[k]? = some x) : firstE p (l.take (k + 1)) = if p x = true ∧ cntE p (l.take k) = 0 then x else firstE p (l.take k) := by
  unfold firstE
  rw [take_succ hx, List.find?_append]
  by_cases h0 : cntE p (l.take k) = 0
  · rw [first_none.1 h0]
    cases h : p x <;> simp [h, h0]
  · rw [if_neg (by simp [h0])]
    cases hf : (l.take k).find? p with
    | none => exact absurd (first_none.2 hf) h0
    | some y => rfl
set_option maxHeartbeats 4000000 in
theorem find_own (gT : Nat) (most : Int) (l : List E) (g n cap : Nat) (cur : Array Value) (asid va : Int) (hR : Row l 0 cur) (hn : l.length = n) (h1 : n ≤ 1000) (v0 : 0 ≤ va) (v1 : va < 18446744073709551616) :
    Does Try.prog 17 #[.pointer (some ⟨gT, 0, none⟩), .int .i64 asid, .int .u64 va] [(gT, row #[.int .i64 most, .slice (some ⟨g, 0, none⟩) n cap] 64), (g, row cur 26)]
      fun r L => r = .tuple #[.agg (firstE (matchE · asid va) l).cells, .int .i64 (cntE (matchE · asid va) l)] ∧ L = [(gT, row #[.int .i64 most, .slice (some ⟨g, 0, none⟩) n cap] 64), (g, row cur 26)] := by
  have HR := Lib.hid hR; have HN := Lib.hid hn; clear hR hn
  have CM := fun (e : E) w => match_any e asid va v0 v1 w
  generalize hp : (fun e => matchE e asid va) = p
  have CM : ∀ e w, Calls Try.prog 12 #[.agg e.cells, .int .i64 asid, .int .u64 va] w fun x w' => x = .returned (.bool (p e)) ∧ Below w.heap.size w w' := by rw [← hp]; exact CM
  clear hp v0 v1
  have CMH := Lib.hid CM; clear CM
  intro w hH
  have HM := Mem.start hH
  go_enter Try.func17, Try.ntmps17
  go_wp2_with (first
    | (refine M.at_mem rfl ?_; first | (refine M.at_load 26 rfl ?_; first | (refine M.load_row_m HM rfl 26 _ rfl 0 _ _ _ rfl rfl (by kernel_rfl) (by kernel_rfl) ?_; go_simp) | (refine M.load_row_m HM rfl 26 _ rfl 1 _ _ _ rfl rfl (by kernel_rfl) (by kernel_rfl) ?_; go_simp) | (refine M.load_row_m HM rfl 26 _ rfl 2 _ _ _ rfl rfl (by kernel_rfl) (by kernel_rfl) ?_; go_simp) | (refine M.load_row_m HM rfl 26 _ rfl 3 _ _ _ rfl rfl (by kernel_rfl) (by kernel_rfl) ?_; go_simp)) | (refine M.at_load 36 rfl ?_; first | (refine M.load_cell_m HM rfl 36 _ rfl 0 _ _ _ _ _ rfl rfl rfl (by kernel_rfl) (by kernel_rfl) ?_; go_simp) | (refine M.load_cell_m HM rfl 36 _ rfl 1 _ _ _ _ _ rfl rfl rfl (by kernel_rfl) (by kernel_rfl) ?_; go_simp) | (refine M.load_cell_m HM rfl 36 _ rfl 2 _ _ _ _ _ rfl rfl rfl (by kernel_rfl) (by kernel_rfl) ?_; go_simp) | (refine M.load_cell_m HM rfl 36 _ rfl 3 _ _ _ _ _ rfl rfl rfl (by kernel_rfl) (by kernel_rfl) ?_; go_simp)) | (refine M.at_store 26 rfl ?_; first | (refine M.store_row_m HM rfl 26 _ _ rfl 0 _ _ _ _ rfl rfl rfl (by kernel_rfl) rfl (by simp [Value.oneCell']) ?_; clear HM; intro w_ HM; (try simp only [M.nrm] at HM); go_simp) | (refine M.store_row_m HM rfl 26 _ _ rfl 1 _ _ _ _ rfl rfl rfl (by kernel_rfl) rfl (by simp [Value.oneCell']) ?_; clear HM; intro w_ HM; (try simp only [M.nrm] at HM); go_simp) | (refine M.store_row_m HM rfl 26 _ _ rfl 2 _ _ _ _ rfl rfl rfl (by kernel_rfl) rfl (by simp [Value.oneCell']) ?_; clear HM; intro w_ HM; (try simp only [M.nrm] at HM); go_simp) | (refine M.store_row_m HM rfl 26 _ _ rfl 3 _ _ _ _ rfl rfl rfl (by kernel_rfl) rfl (by simp [Value.oneCell']) ?_; clear HM; intro w_ HM; (try simp only [M.nrm] at HM); go_simp)) | (refine M.at_alloc 26 rfl ?_; first | ((fail_if_success (have x_ := gR_)); refine M.alloc_m HM rfl rfl 26 rfl (.agg E.zero.cells) (by kernel_rfl) E.zero.cells rfl ?_; clear HM; intro gR_ w_ HM; go_simp) | ((fail_if_success (have x_ := gF_)); refine M.alloc_m HM rfl rfl 26 rfl (.agg E.zero.cells) (by kernel_rfl) E.zero.cells rfl ?_; clear HM; intro gF_ w_ HM; go_simp) | (refine M.alloc_m HM rfl rfl 26 rfl (.agg E.zero.cells) (by kernel_rfl) E.zero.cells rfl ?_; clear HM; intro g_ w_ HM; go_simp) | (refine M.alloc_m HM rfl rfl 26 rfl (.agg #[(.int .i64 0), (.int .u64 0), (.int .i64 0), (.int .i64 0), (.int .u64 0), (.bool false), (.bool false), (.bool false), (.bool false), (.int .i64 0)]) (by kernel_rfl) #[(.int .i64 0), (.int .u64 0), (.int .i64 0), (.int .i64 0), (.int .u64 0), (.bool false), (.bool false), (.bool false), (.bool false), (.int .i64 0)] rfl ?_; clear HM; intro g_ w_ HM; go_simp)) | ((fail_if_success (refine M.lit_t rfl ?_)); (fail_if_success (refine M.lit_f rfl ?_)); refine M.split_guard rfl rfl ?_ ?_ <;> (intro hg_; simp only [hg_]; try simp only [M.hgs] at hg_)))
    | ((fail_if_success (refine M.lit_t rfl ?_)); (fail_if_success (refine M.lit_f rfl ?_)); refine M.split_guard rfl rfl ?_ ?_ <;> (intro hg_; simp only [hg_]; try simp only [M.hgs] at hg_)))
  go_loopw [9, 17] (fun c iv wr => ∃ k : Nat, k ≤ n ∧ iv = .int .i64 k ∧ c = .int .i64 (cntE p (l.take k)) ∧ Mem w [gT, g] [(gF_, row (firstE p (l.take k)).cells 26), (gR_, row E.zero.cells 26), (gT, row #[.int .i64 most, .slice (some ⟨g, 0, none⟩) n cap] 64), (g, row cur 26)] wr) (fun _ iv _ => n - (intOf iv).toNat)
  case atStart => exact ⟨0, by omega, rfl, rfl, HM⟩
  case round =>
    clear HM
    obtain ⟨k, k19, rfl, rfl, HM⟩ := hrel
    by_cases hlt : k < n
    · obtain ⟨x, hx⟩ : ∃ x, l[k]? = some x := ⟨_, List.getElem?_eq_getElem (by have := HN.out; omega)⟩
      have hg := HR.out.get hx
      have hsz := HR.out.2
      have hnn := HN.out
      rw [Nat.zero_add] at hg
      have HG := Lib.hid hg; clear hg
      have hk1 : (k : Int) < n := by omega
      have hn1 : (n : Int) ≤ 1000 := by omega
      have hoff : k * 10 + 10 ≤ cur.size := by omega
      have HOFF := Lib.hid hoff; clear hoff hsz hnn
      have hc := cnt_step (p := p) hx
      have hf := first_step (p := p) hx
      have hck : cntE p (l.take k) ≤ k := by
        unfold cntE
        exact Nat.le_trans (List.length_filter_le _ _) (by rw [List.length_take]; exact Nat.min_le_left _ _)
      have CM := fun w => CMH.out x w
      have HCs := Lib.hid hc; have HFs := Lib.hid hf; clear hc hf hx
      have hck1 : (cntE p (l.take k) : Int) ≤ 1000 := by omega
      generalize hcc : cntE p (l.take k) = ck at HM HCs HFs hck hck1
      generalize firstE p (l.take k) = fk at HM HFs
      clear hcc hck
      cases hpx : p x with
      | false =>
        rw [hpx] at CM
        have HP := Lib.hid hpx; clear hpx
        go_wp2_with (first
          | (go_big_skip)
          | (refine Sl.at_indexAddr 36 rfl ?_; refine Sl.indexAddr_m rfl _ rfl 36 rfl 26 (by kernel_rfl) 10 (by kernel_rfl) _ 0 n cap rfl .i64 (k : Int) rfl (by omega) (by omega) (k * 10) (by omega) ?_; go_simp)
          | (go_at_call 12; (with_reducible refine (M.call_pure (CM) HM).mono ?_); clear HM; rintro e w_ ⟨rfl, HM⟩; dsimp only)
          | (refine M.at_mem rfl ?_; first | (refine M.at_load 26 rfl ?_; first | (refine M.load_part_m HM rfl 26 _ rfl 3 g (k * 10) 10 _ cur rfl rfl HOFF.out x.cells HG.out (by kernel_rfl) (by kernel_rfl) ?_; go_simp) | (refine M.load_row_m HM rfl 26 _ rfl 0 _ _ _ rfl rfl (by kernel_rfl) (by kernel_rfl) ?_; go_simp) | (refine M.load_row_m HM rfl 26 _ rfl 1 _ _ _ rfl rfl (by kernel_rfl) (by kernel_rfl) ?_; go_simp) | (refine M.load_row_m HM rfl 26 _ rfl 2 _ _ _ rfl rfl (by kernel_rfl) (by kernel_rfl) ?_; go_simp) | (refine M.load_row_m HM rfl 26 _ rfl 3 _ _ _ rfl rfl (by kernel_rfl) (by kernel_rfl) ?_; go_simp)) | (refine M.at_load 36 rfl ?_; first | (refine M.load_part_m HM rfl 26 _ rfl 3 g (k * 10) 10 _ cur rfl rfl HOFF.out x.cells HG.out (by kernel_rfl) (by kernel_rfl) ?_; go_simp) | (refine M.load_cell_m HM rfl 36 _ rfl 0 _ _ _ _ _ rfl rfl rfl (by kernel_rfl) (by kernel_rfl) ?_; go_simp) | (refine M.load_cell_m HM rfl 36 _ rfl 1 _ _ _ _ _ rfl rfl rfl (by kernel_rfl) (by kernel_rfl) ?_; go_simp) | (refine M.load_cell_m HM rfl 36 _ rfl 2 _ _ _ _ _ rfl rfl rfl (by kernel_rfl) (by kernel_rfl) ?_; go_simp) | (refine M.load_cell_m HM rfl 36 _ rfl 3 _ _ _ _ _ rfl rfl rfl (by kernel_rfl) (by kernel_rfl) ?_; go_simp)) | (refine M.at_store 26 rfl ?_; first | (refine M.store_row_m HM rfl 26 _ _ rfl 0 _ _ _ x.cells rfl rfl rfl (by kernel_rfl) rfl (E.one x) ?_; clear HM; intro w_ HM; (try simp only [List.set_cons_zero, List.set_cons_succ] at HM); go_simp) | (refine M.store_row_m HM rfl 26 _ _ rfl 0 _ _ _ _ rfl rfl rfl (by kernel_rfl) rfl (by simp [Value.oneCell']) ?_; clear HM; intro w_ HM; (try simp only [M.nrm] at HM); go_simp) | (refine M.store_row_m HM rfl 26 _ _ rfl 1 _ _ _ _ rfl rfl rfl (by kernel_rfl) rfl (by simp [Value.oneCell']) ?_; clear HM; intro w_ HM; (try simp only [M.nrm] at HM); go_simp) | (refine M.store_row_m HM rfl 26 _ _ rfl 2 _ _ _ _ rfl rfl rfl (by kernel_rfl) rfl (by simp [Value.oneCell']) ?_; clear HM; intro w_ HM; (try simp only [M.nrm] at HM); go_simp) | (refine M.store_row_m HM rfl 26 _ _ rfl 3 _ _ _ _ rfl rfl rfl (by kernel_rfl) rfl (by simp [Value.oneCell']) ?_; clear HM; intro w_ HM; (try simp only [M.nrm] at HM); go_simp)) | (refine M.at_alloc 26 rfl ?_; first | ((fail_if_success (have x_ := gR_)); refine M.alloc_m HM rfl rfl 26 rfl (.agg E.zero.cells) (by kernel_rfl) E.zero.cells rfl ?_; clear HM; intro gR_ w_ HM; go_simp) | ((fail_if_success (have x_ := gF_)); refine M.alloc_m HM rfl rfl 26 rfl (.agg E.zero.cells) (by kernel_rfl) E.zero.cells rfl ?_; clear HM; intro gF_ w_ HM; go_simp) | (refine M.alloc_m HM rfl rfl 26 rfl (.agg E.zero.cells) (by kernel_rfl) E.zero.cells rfl ?_; clear HM; intro g_ w_ HM; go_simp) | (refine M.alloc_m HM rfl rfl 26 rfl (.agg #[(.int .i64 0), (.int .u64 0), (.int .i64 0), (.int .i64 0), (.int .u64 0), (.bool false), (.bool false), (.bool false), (.bool false), (.int .i64 0)]) (by kernel_rfl) #[(.int .i64 0), (.int .u64 0), (.int .i64 0), (.int .i64 0), (.int .u64 0), (.bool false), (.bool false), (.bool false), (.bool false), (.int .i64 0)] rfl ?_; clear HM; intro g_ w_ HM; go_simp)) | ((fail_if_success (refine M.lit_t rfl ?_)); (fail_if_success (refine M.lit_f rfl ?_)); refine M.split_guard rfl rfl ?_ ?_ <;> (intro hg_; simp only [hg_]; try simp only [M.hgs] at hg_)))
          | (refine Mc.at_cmp _ rfl ?_; refine Mc.cmp_m rfl _ rfl _ _ _ rfl _ _ _ rfl rfl _ rfl ?_ ?_ <;> (intro hg_; try simp only [M.hgs] at hg_; first | (exfalso; first | omega | (simp at hg_; done)) | (go_simp)))
          | ((fail_if_success (refine M.lit_t rfl ?_)); (fail_if_success (refine M.lit_f rfl ?_)); refine M.split_guard rfl rfl ?_ ?_ <;> (intro hg_; simp only [hg_]; try simp only [M.hgs] at hg_)))
        all_goals
          go_roundw
          case rel => exact ⟨k + 1, by omega, by first | rfl | (refine congrArg (fun z => Value.int .i64 z) ?_; omega), by rw [HCs.out, HP.out]; rfl, by rw [HFs.out, HP.out]; exact HM.drop (A := [_])⟩
          case measure => simp [intOf]; omega
      | true =>
        rw [hpx] at CM
        have HP := Lib.hid hpx; clear hpx
        by_cases h0 : ck = 0
        · subst h0
          go_wp2_with (first
            | (go_big_skip)
            | (refine Sl.at_indexAddr 36 rfl ?_; refine Sl.indexAddr_m rfl _ rfl 36 rfl 26 (by kernel_rfl) 10 (by kernel_rfl) _ 0 n cap rfl .i64 (k : Int) rfl (by omega) (by omega) (k * 10) (by omega) ?_; go_simp)
            | (go_at_call 12; (with_reducible refine (M.call_pure (CM) HM).mono ?_); clear HM; rintro e w_ ⟨rfl, HM⟩; dsimp only)
            | (refine M.at_mem rfl ?_; first | (refine M.at_load 26 rfl ?_; first | (refine M.load_part_m HM rfl 26 _ rfl 3 g (k * 10) 10 _ cur rfl rfl HOFF.out x.cells HG.out (by kernel_rfl) (by kernel_rfl) ?_; go_simp) | (refine M.load_row_m HM rfl 26 _ rfl 0 _ _ _ rfl rfl (by kernel_rfl) (by kernel_rfl) ?_; go_simp) | (refine M.load_row_m HM rfl 26 _ rfl 1 _ _ _ rfl rfl (by kernel_rfl) (by kernel_rfl) ?_; go_simp) | (refine M.load_row_m HM rfl 26 _ rfl 2 _ _ _ rfl rfl (by kernel_rfl) (by kernel_rfl) ?_; go_simp) | (refine M.load_row_m HM rfl 26 _ rfl 3 _ _ _ rfl rfl (by kernel_rfl) (by kernel_rfl) ?_; go_simp)) | (refine M.at_load 36 rfl ?_; first | (refine M.load_part_m HM rfl 26 _ rfl 3 g (k * 10) 10 _ cur rfl rfl HOFF.out x.cells HG.out (by kernel_rfl) (by kernel_rfl) ?_; go_simp) | (refine M.load_cell_m HM rfl 36 _ rfl 0 _ _ _ _ _ rfl rfl rfl (by kernel_rfl) (by kernel_rfl) ?_; go_simp) | (refine M.load_cell_m HM rfl 36 _ rfl 1 _ _ _ _ _ rfl rfl rfl (by kernel_rfl) (by kernel_rfl) ?_; go_simp) | (refine M.load_cell_m HM rfl 36 _ rfl 2 _ _ _ _ _ rfl rfl rfl (by kernel_rfl) (by kernel_rfl) ?_; go_simp) | (refine M.load_cell_m HM rfl 36 _ rfl 3 _ _ _ _ _ rfl rfl rfl (by kernel_rfl) (by kernel_rfl) ?_; go_simp)) | (refine M.at_store 26 rfl ?_; first | (refine M.store_row_m HM rfl 26 _ _ rfl 0 _ _ _ x.cells rfl rfl rfl (by kernel_rfl) rfl (E.one x) ?_; clear HM; intro w_ HM; (try simp only [List.set_cons_zero, List.set_cons_succ] at HM); go_simp) | (refine M.store_row_m HM rfl 26 _ _ rfl 1 _ _ _ x.cells rfl rfl rfl (by kernel_rfl) rfl (E.one x) ?_; clear HM; intro w_ HM; (try simp only [List.set_cons_zero, List.set_cons_succ] at HM); go_simp) | (refine M.store_row_m HM rfl 26 _ _ rfl 0 _ _ _ _ rfl rfl rfl (by kernel_rfl) rfl (by simp [Value.oneCell']) ?_; clear HM; intro w_ HM; (try simp only [M.nrm] at HM); go_simp) | (refine M.store_row_m HM rfl 26 _ _ rfl 1 _ _ _ _ rfl rfl rfl (by kernel_rfl) rfl (by simp [Value.oneCell']) ?_; clear HM; intro w_ HM; (try simp only [M.nrm] at HM); go_simp) | (refine M.store_row_m HM rfl 26 _ _ rfl 2 _ _ _ _ rfl rfl rfl (by kernel_rfl) rfl (by simp [Value.oneCell']) ?_; clear HM; intro w_ HM; (try simp only [M.nrm] at HM); go_simp) | (refine M.store_row_m HM rfl 26 _ _ rfl 3 _ _ _ _ rfl rfl rfl (by kernel_rfl) rfl (by simp [Value.oneCell']) ?_; clear HM; intro w_ HM; (try simp only [M.nrm] at HM); go_simp)) | (refine M.at_alloc 26 rfl ?_; first | ((fail_if_success (have x_ := gR_)); refine M.alloc_m HM rfl rfl 26 rfl (.agg E.zero.cells) (by kernel_rfl) E.zero.cells rfl ?_; clear HM; intro gR_ w_ HM; go_simp) | ((fail_if_success (have x_ := gF_)); refine M.alloc_m HM rfl rfl 26 rfl (.agg E.zero.cells) (by kernel_rfl) E.zero.cells rfl ?_; clear HM; intro gF_ w_ HM; go_simp) | (refine M.alloc_m HM rfl rfl 26 rfl (.agg E.zero.cells) (by kernel_rfl) E.zero.cells rfl ?_; clear HM; intro g_ w_ HM; go_simp) | (refine M.alloc_m HM rfl rfl 26 rfl (.agg #[(.int .i64 0), (.int .u64 0), (.int .i64 0), (.int .i64 0), (.int .u64 0), (.bool false), (.bool false), (.bool false), (.bool false), (.int .i64 0)]) (by kernel_rfl) #[(.int .i64 0), (.int .u64 0), (.int .i64 0), (.int .i64 0), (.int .u64 0), (.bool false), (.bool false), (.bool false), (.bool false), (.int .i64 0)] rfl ?_; clear HM; intro g_ w_ HM; go_simp)) | ((fail_if_success (refine M.lit_t rfl ?_)); (fail_if_success (refine M.lit_f rfl ?_)); refine M.split_guard rfl rfl ?_ ?_ <;> (intro hg_; simp only [hg_]; try simp only [M.hgs] at hg_)))
            | (refine Mc.at_cmp _ rfl ?_; refine Mc.cmp_m rfl _ rfl _ _ _ rfl _ _ _ rfl rfl _ rfl ?_ ?_ <;> (intro hg_; try simp only [M.hgs] at hg_; first | (exfalso; first | omega | (simp at hg_; done)) | (go_simp)))
            | ((fail_if_success (refine M.lit_t rfl ?_)); (fail_if_success (refine M.lit_f rfl ?_)); refine M.split_guard rfl rfl ?_ ?_ <;> (intro hg_; simp only [hg_]; try simp only [M.hgs] at hg_)))
          all_goals
            go_roundw
            case rel => exact ⟨k + 1, by omega, by first | rfl | (refine congrArg (fun z => Value.int .i64 z) ?_; omega), by rw [HCs.out, HP.out]; rfl, by rw [HFs.out, HP.out]; exact HM.drop (A := [_])⟩
            case measure => simp [intOf]; omega
        · have h0' : ¬ (ck : Int) = 0 := by omega
          have HF2 := HFs.out
          rw [if_neg (fun h => h0 h.2)] at HF2
          have HF3 := Lib.hid HF2; clear HF2 h0
          go_wp2_with (first
            | (go_big_skip)
            | (refine Sl.at_indexAddr 36 rfl ?_; refine Sl.indexAddr_m rfl _ rfl 36 rfl 26 (by kernel_rfl) 10 (by kernel_rfl) _ 0 n cap rfl .i64 (k : Int) rfl (by omega) (by omega) (k * 10) (by omega) ?_; go_simp)
            | (go_at_call 12; (with_reducible refine (M.call_pure (CM) HM).mono ?_); clear HM; rintro e w_ ⟨rfl, HM⟩; dsimp only)
            | (refine M.at_mem rfl ?_; first | (refine M.at_load 26 rfl ?_; first | (refine M.load_part_m HM rfl 26 _ rfl 3 g (k * 10) 10 _ cur rfl rfl HOFF.out x.cells HG.out (by kernel_rfl) (by kernel_rfl) ?_; go_simp) | (refine M.load_row_m HM rfl 26 _ rfl 0 _ _ _ rfl rfl (by kernel_rfl) (by kernel_rfl) ?_; go_simp) | (refine M.load_row_m HM rfl 26 _ rfl 1 _ _ _ rfl rfl (by kernel_rfl) (by kernel_rfl) ?_; go_simp) | (refine M.load_row_m HM rfl 26 _ rfl 2 _ _ _ rfl rfl (by kernel_rfl) (by kernel_rfl) ?_; go_simp) | (refine M.load_row_m HM rfl 26 _ rfl 3 _ _ _ rfl rfl (by kernel_rfl) (by kernel_rfl) ?_; go_simp)) | (refine M.at_load 36 rfl ?_; first | (refine M.load_part_m HM rfl 26 _ rfl 3 g (k * 10) 10 _ cur rfl rfl HOFF.out x.cells HG.out (by kernel_rfl) (by kernel_rfl) ?_; go_simp) | (refine M.load_cell_m HM rfl 36 _ rfl 0 _ _ _ _ _ rfl rfl rfl (by kernel_rfl) (by kernel_rfl) ?_; go_simp) | (refine M.load_cell_m HM rfl 36 _ rfl 1 _ _ _ _ _ rfl rfl rfl (by kernel_rfl) (by kernel_rfl) ?_; go_simp) | (refine M.load_cell_m HM rfl 36 _ rfl 2 _ _ _ _ _ rfl rfl rfl (by kernel_rfl) (by kernel_rfl) ?_; go_simp) | (refine M.load_cell_m HM rfl 36 _ rfl 3 _ _ _ _ _ rfl rfl rfl (by kernel_rfl) (by kernel_rfl) ?_; go_simp)) | (refine M.at_store 26 rfl ?_; first | (refine M.store_row_m HM rfl 26 _ _ rfl 0 _ _ _ x.cells rfl rfl rfl (by kernel_rfl) rfl (E.one x) ?_; clear HM; intro w_ HM; (try simp only [List.set_cons_zero, List.set_cons_succ] at HM); go_simp) | (refine M.store_row_m HM rfl 26 _ _ rfl 0 _ _ _ _ rfl rfl rfl (by kernel_rfl) rfl (by simp [Value.oneCell']) ?_; clear HM; intro w_ HM; (try simp only [M.nrm] at HM); go_simp) | (refine M.store_row_m HM rfl 26 _ _ rfl 1 _ _ _ _ rfl rfl rfl (by kernel_rfl) rfl (by simp [Value.oneCell']) ?_; clear HM; intro w_ HM; (try simp only [M.nrm] at HM); go_simp) | (refine M.store_row_m HM rfl 26 _ _ rfl 2 _ _ _ _ rfl rfl rfl (by kernel_rfl) rfl (by simp [Value.oneCell']) ?_; clear HM; intro w_ HM; (try simp only [M.nrm] at HM); go_simp) | (refine M.store_row_m HM rfl 26 _ _ rfl 3 _ _ _ _ rfl rfl rfl (by kernel_rfl) rfl (by simp [Value.oneCell']) ?_; clear HM; intro w_ HM; (try simp only [M.nrm] at HM); go_simp)) | (refine M.at_alloc 26 rfl ?_; first | ((fail_if_success (have x_ := gR_)); refine M.alloc_m HM rfl rfl 26 rfl (.agg E.zero.cells) (by kernel_rfl) E.zero.cells rfl ?_; clear HM; intro gR_ w_ HM; go_simp) | ((fail_if_success (have x_ := gF_)); refine M.alloc_m HM rfl rfl 26 rfl (.agg E.zero.cells) (by kernel_rfl) E.zero.cells rfl ?_; clear HM; intro gF_ w_ HM; go_simp) | (refine M.alloc_m HM rfl rfl 26 rfl (.agg E.zero.cells) (by kernel_rfl) E.zero.cells rfl ?_; clear HM; intro g_ w_ HM; go_simp) | (refine M.alloc_m HM rfl rfl 26 rfl (.agg #[(.int .i64 0), (.int .u64 0), (.int .i64 0), (.int .i64 0), (.int .u64 0), (.bool false), (.bool false), (.bool false), (.bool false), (.int .i64 0)]) (by kernel_rfl) #[(.int .i64 0), (.int .u64 0), (.int .i64 0), (.int .i64 0), (.int .u64 0), (.bool false), (.bool false), (.bool false), (.bool false), (.int .i64 0)] rfl ?_; clear HM; intro g_ w_ HM; go_simp)) | ((fail_if_success (refine M.lit_t rfl ?_)); (fail_if_success (refine M.lit_f rfl ?_)); refine M.split_guard rfl rfl ?_ ?_ <;> (intro hg_; simp only [hg_]; try simp only [M.hgs] at hg_)))
            | (refine Mc.at_cmp _ rfl ?_; refine Mc.cmp_m rfl _ rfl _ _ _ rfl _ _ _ rfl rfl _ rfl ?_ ?_ <;> (intro hg_; try simp only [M.hgs] at hg_; first | (exfalso; first | omega | (simp at hg_; done)) | (go_simp)))
            | ((fail_if_success (refine M.lit_t rfl ?_)); (fail_if_success (refine M.lit_f rfl ?_)); refine M.split_guard rfl rfl ?_ ?_ <;> (intro hg_; simp only [hg_]; try simp only [M.hgs] at hg_)))
          all_goals
            go_roundw
            case rel => exact ⟨k + 1, by omega, by first | rfl | (refine congrArg (fun z => Value.int .i64 z) ?_; omega), by rw [HCs.out, HP.out]; first | rfl | (refine congrArg (fun z => Value.int .i64 z) ?_; simp), by rw [HF3.out]; exact HM.drop (A := [_])⟩
            case measure => simp [intOf]; omega
    · obtain rfl : k = n := by omega
      have hll : l.take k = l := List.take_of_length_le (by rw [HN.out]; exact Nat.le_refl _)
      rw [hll] at HM ⊢
      generalize hck : cntE p l = ck
      generalize hfk : firstE p l = fk at HM
      have HCK := Lib.hid hck; have HFK := Lib.hid hfk; clear hck hfk hll
      go_wp2_with (first
        | (refine M.at_mem rfl ?_; first | (refine M.at_load 26 rfl ?_; first | (refine M.load_row_m HM rfl 26 _ rfl 0 _ _ _ rfl rfl (by kernel_rfl) (by kernel_rfl) ?_; go_simp) | (refine M.load_row_m HM rfl 26 _ rfl 1 _ _ _ rfl rfl (by kernel_rfl) (by kernel_rfl) ?_; go_simp) | (refine M.load_row_m HM rfl 26 _ rfl 2 _ _ _ rfl rfl (by kernel_rfl) (by kernel_rfl) ?_; go_simp) | (refine M.load_row_m HM rfl 26 _ rfl 3 _ _ _ rfl rfl (by kernel_rfl) (by kernel_rfl) ?_; go_simp)) | (refine M.at_load 36 rfl ?_; first | (refine M.load_cell_m HM rfl 36 _ rfl 0 _ _ _ _ _ rfl rfl rfl (by kernel_rfl) (by kernel_rfl) ?_; go_simp) | (refine M.load_cell_m HM rfl 36 _ rfl 1 _ _ _ _ _ rfl rfl rfl (by kernel_rfl) (by kernel_rfl) ?_; go_simp) | (refine M.load_cell_m HM rfl 36 _ rfl 2 _ _ _ _ _ rfl rfl rfl (by kernel_rfl) (by kernel_rfl) ?_; go_simp) | (refine M.load_cell_m HM rfl 36 _ rfl 3 _ _ _ _ _ rfl rfl rfl (by kernel_rfl) (by kernel_rfl) ?_; go_simp)) | (refine M.at_store 26 rfl ?_; first | (refine M.store_row_m HM rfl 26 _ _ rfl 1 _ _ _ fk.cells rfl rfl rfl (by kernel_rfl) rfl (E.one fk) ?_; clear HM; intro w_ HM; (try simp only [List.set_cons_zero, List.set_cons_succ] at HM); go_simp) | (refine M.store_row_m HM rfl 26 _ _ rfl 0 _ _ _ _ rfl rfl rfl (by kernel_rfl) rfl (by simp [Value.oneCell']) ?_; clear HM; intro w_ HM; (try simp only [M.nrm] at HM); go_simp) | (refine M.store_row_m HM rfl 26 _ _ rfl 1 _ _ _ _ rfl rfl rfl (by kernel_rfl) rfl (by simp [Value.oneCell']) ?_; clear HM; intro w_ HM; (try simp only [M.nrm] at HM); go_simp) | (refine M.store_row_m HM rfl 26 _ _ rfl 2 _ _ _ _ rfl rfl rfl (by kernel_rfl) rfl (by simp [Value.oneCell']) ?_; clear HM; intro w_ HM; (try simp only [M.nrm] at HM); go_simp) | (refine M.store_row_m HM rfl 26 _ _ rfl 3 _ _ _ _ rfl rfl rfl (by kernel_rfl) rfl (by simp [Value.oneCell']) ?_; clear HM; intro w_ HM; (try simp only [M.nrm] at HM); go_simp)) | (refine M.at_alloc 26 rfl ?_; first | (refine M.alloc_m HM rfl rfl 26 rfl (.agg #[(.int .i64 0), (.int .u64 0), (.int .i64 0), (.int .i64 0), (.int .u64 0), (.bool false), (.bool false), (.bool false), (.bool false), (.int .i64 0)]) (by kernel_rfl) #[(.int .i64 0), (.int .u64 0), (.int .i64 0), (.int .i64 0), (.int .u64 0), (.bool false), (.bool false), (.bool false), (.bool false), (.int .i64 0)] rfl ?_; clear HM; intro g_ w_ HM; go_simp)) | ((fail_if_success (refine M.lit_t rfl ?_)); (fail_if_success (refine M.lit_f rfl ?_)); refine M.split_guard rfl rfl ?_ ?_ <;> (intro hg_; simp only [hg_]; try simp only [M.hgs] at hg_)))
        | (refine Mc.at_cmp _ rfl ?_; refine Mc.cmp_m rfl _ rfl _ _ _ rfl _ _ _ rfl rfl _ rfl ?_ ?_ <;> (intro hg_; try simp only [M.hgs] at hg_; first | (exfalso; first | omega | (simp at hg_; done)) | (go_simp)))
        | ((fail_if_success (refine M.lit_t rfl ?_)); (fail_if_success (refine M.lit_f rfl ?_)); refine M.split_guard rfl rfl ?_ ?_ <;> (intro hg_; simp only [hg_]; try simp only [M.hgs] at hg_)))
      refine bodyPost_ret (res_ct HM rfl _ 1 _ _ _ rfl rfl (by kernel_rfl) (by kernel_rfl)) rfl ?_
      exact ⟨_, _, rfl, ⟨by (try rw [HCK.out, HFK.out]); rfl, rfl⟩, HM.drop (A := [_, _])⟩
set_option maxHeartbeats 2000000 in
theorem find_nil (gT : Nat) (most : Int) (asid va : Int) :
    Does Try.prog 17 #[.pointer (some ⟨gT, 0, none⟩), .int .i64 asid, .int .u64 va] [(gT, row #[.int .i64 most, .slice none 0 0] 64)]
      fun r L => r = .tuple #[.agg E.zero.cells, .int .i64 0] ∧ L = [(gT, row #[.int .i64 most, .slice none 0 0] 64)] := by
  intro w hH
  have HM := Mem.start hH
  go_enter Try.func17, Try.ntmps17
  go_wp2_with (first
    | (refine M.at_mem rfl ?_; first | (refine M.at_load 26 rfl ?_; first | (refine M.load_row_m HM rfl 26 _ rfl 0 _ _ _ rfl rfl (by kernel_rfl) (by kernel_rfl) ?_; go_simp) | (refine M.load_row_m HM rfl 26 _ rfl 1 _ _ _ rfl rfl (by kernel_rfl) (by kernel_rfl) ?_; go_simp) | (refine M.load_row_m HM rfl 26 _ rfl 2 _ _ _ rfl rfl (by kernel_rfl) (by kernel_rfl) ?_; go_simp)) | (refine M.at_load 36 rfl ?_; first | (refine M.load_cell_m HM rfl 36 _ rfl 0 _ _ _ _ _ rfl rfl rfl (by kernel_rfl) (by kernel_rfl) ?_; go_simp) | (refine M.load_cell_m HM rfl 36 _ rfl 1 _ _ _ _ _ rfl rfl rfl (by kernel_rfl) (by kernel_rfl) ?_; go_simp) | (refine M.load_cell_m HM rfl 36 _ rfl 2 _ _ _ _ _ rfl rfl rfl (by kernel_rfl) (by kernel_rfl) ?_; go_simp)) | (refine M.at_store 26 rfl ?_; first | (refine M.store_row_m HM rfl 26 _ _ rfl 0 _ _ _ _ rfl rfl rfl (by kernel_rfl) rfl (by simp [Value.oneCell']) ?_; clear HM; intro w_ HM; (try simp only [M.nrm] at HM); go_simp) | (refine M.store_row_m HM rfl 26 _ _ rfl 1 _ _ _ _ rfl rfl rfl (by kernel_rfl) rfl (by simp [Value.oneCell']) ?_; clear HM; intro w_ HM; (try simp only [M.nrm] at HM); go_simp) | (refine M.store_row_m HM rfl 26 _ _ rfl 2 _ _ _ _ rfl rfl rfl (by kernel_rfl) rfl (by simp [Value.oneCell']) ?_; clear HM; intro w_ HM; (try simp only [M.nrm] at HM); go_simp)) | (refine M.at_alloc 26 rfl ?_; first | ((fail_if_success (have x_ := gR_)); refine M.alloc_m HM rfl rfl 26 rfl (.agg E.zero.cells) (by kernel_rfl) E.zero.cells rfl ?_; clear HM; intro gR_ w_ HM; go_simp) | ((fail_if_success (have x_ := gF_)); refine M.alloc_m HM rfl rfl 26 rfl (.agg E.zero.cells) (by kernel_rfl) E.zero.cells rfl ?_; clear HM; intro gF_ w_ HM; go_simp) | (refine M.alloc_m HM rfl rfl 26 rfl (.agg E.zero.cells) (by kernel_rfl) E.zero.cells rfl ?_; clear HM; intro g_ w_ HM; go_simp) | (refine M.alloc_m HM rfl rfl 26 rfl (.agg #[(.int .i64 0), (.int .u64 0), (.int .i64 0), (.int .i64 0), (.int .u64 0), (.bool false), (.bool false), (.bool false), (.bool false), (.int .i64 0)]) (by kernel_rfl) #[(.int .i64 0), (.int .u64 0), (.int .i64 0), (.int .i64 0), (.int .u64 0), (.bool false), (.bool false), (.bool false), (.bool false), (.int .i64 0)] rfl ?_; clear HM; intro g_ w_ HM; go_simp)) | ((fail_if_success (refine M.lit_t rfl ?_)); (fail_if_success (refine M.lit_f rfl ?_)); refine M.split_guard rfl rfl ?_ ?_ <;> (intro hg_; simp only [hg_]; try simp only [M.hgs] at hg_)))
    | ((fail_if_success (refine M.lit_t rfl ?_)); (fail_if_success (refine M.lit_f rfl ?_)); refine M.split_guard rfl rfl ?_ ?_ <;> (intro hg_; simp only [hg_]; try simp only [M.hgs] at hg_)))
  go_loopw [9, 17] (fun c iv wr => iv = .int .i64 0 ∧ c = .int .i64 0 ∧ Mem w [gT] _ wr) (fun _ iv _ => 0)
  case atStart => exact ⟨rfl, rfl, HM⟩
  case round =>
    clear HM
    obtain ⟨rfl, rfl, HM⟩ := hrel
    go_wp2_with (first
      | (refine M.at_mem rfl ?_; first | (refine M.at_load 26 rfl ?_; first | (refine M.load_row_m HM rfl 26 _ rfl 0 _ _ _ rfl rfl (by kernel_rfl) (by kernel_rfl) ?_; go_simp) | (refine M.load_row_m HM rfl 26 _ rfl 1 _ _ _ rfl rfl (by kernel_rfl) (by kernel_rfl) ?_; go_simp) | (refine M.load_row_m HM rfl 26 _ rfl 2 _ _ _ rfl rfl (by kernel_rfl) (by kernel_rfl) ?_; go_simp)) | (refine M.at_load 36 rfl ?_; first | (refine M.load_cell_m HM rfl 36 _ rfl 0 _ _ _ _ _ rfl rfl rfl (by kernel_rfl) (by kernel_rfl) ?_; go_simp) | (refine M.load_cell_m HM rfl 36 _ rfl 1 _ _ _ _ _ rfl rfl rfl (by kernel_rfl) (by kernel_rfl) ?_; go_simp) | (refine M.load_cell_m HM rfl 36 _ rfl 2 _ _ _ _ _ rfl rfl rfl (by kernel_rfl) (by kernel_rfl) ?_; go_simp)) | (refine M.at_store 26 rfl ?_; first | (refine M.store_row_m HM rfl 26 _ _ rfl 1 _ _ _ E.zero.cells rfl rfl rfl (by kernel_rfl) rfl (E.one E.zero) ?_; clear HM; intro w_ HM; (try simp only [List.set_cons_zero, List.set_cons_succ] at HM); go_simp) | (refine M.store_row_m HM rfl 26 _ _ rfl 0 _ _ _ _ rfl rfl rfl (by kernel_rfl) rfl (by simp [Value.oneCell']) ?_; clear HM; intro w_ HM; (try simp only [M.nrm] at HM); go_simp) | (refine M.store_row_m HM rfl 26 _ _ rfl 1 _ _ _ _ rfl rfl rfl (by kernel_rfl) rfl (by simp [Value.oneCell']) ?_; clear HM; intro w_ HM; (try simp only [M.nrm] at HM); go_simp) | (refine M.store_row_m HM rfl 26 _ _ rfl 2 _ _ _ _ rfl rfl rfl (by kernel_rfl) rfl (by simp [Value.oneCell']) ?_; clear HM; intro w_ HM; (try simp only [M.nrm] at HM); go_simp)) | (refine M.at_alloc 26 rfl ?_; first | (refine M.alloc_m HM rfl rfl 26 rfl (.agg #[(.int .i64 0), (.int .u64 0), (.int .i64 0), (.int .i64 0), (.int .u64 0), (.bool false), (.bool false), (.bool false), (.bool false), (.int .i64 0)]) (by kernel_rfl) #[(.int .i64 0), (.int .u64 0), (.int .i64 0), (.int .i64 0), (.int .u64 0), (.bool false), (.bool false), (.bool false), (.bool false), (.int .i64 0)] rfl ?_; clear HM; intro g_ w_ HM; go_simp)) | ((fail_if_success (refine M.lit_t rfl ?_)); (fail_if_success (refine M.lit_f rfl ?_)); refine M.split_guard rfl rfl ?_ ?_ <;> (intro hg_; simp only [hg_]; try simp only [M.hgs] at hg_)))
      | (refine Mc.at_cmp _ rfl ?_; refine Mc.cmp_m rfl _ rfl _ _ _ rfl _ _ _ rfl rfl _ rfl ?_ ?_ <;> (intro hg_; try simp only [M.hgs] at hg_; first | (exfalso; first | omega | (simp at hg_; done)) | (go_simp)))
      | ((fail_if_success (refine M.lit_t rfl ?_)); (fail_if_success (refine M.lit_f rfl ?_)); refine M.split_guard rfl rfl ?_ ?_ <;> (intro hg_; simp only [hg_]; try simp only [M.hgs] at hg_)))
    refine bodyPost_ret (res_ct HM rfl _ 1 _ _ _ rfl rfl (by kernel_rfl) (by kernel_rfl)) rfl ?_
    exact ⟨_, _, rfl, ⟨rfl, rfl⟩, HM.drop (A := [_, _])⟩
set_option maxHeartbeats 2000000 in
theorem list_own (gT : Nat) (most : Int) (l : List E) (g cap : Nat) (cur : Array Value) (hR : Row l 0 cur) (h1 : l.length ≤ 1000) :
    Does Try.prog 16 #[.pointer (some ⟨gT, 0, none⟩)] [(gT, row #[.int .i64 most, .slice (some ⟨g, 0, none⟩) l.length cap] 64), (g, row cur 26)]
      fun r L => ∃ A, NewE l r A ∧ L = A ++ [(gT, row #[.int .i64 most, .slice (some ⟨g, 0, none⟩) l.length cap] 64), (g, row cur 26)] := by
  intro w hH
  have CC : ∀ M u, Mem w M [(gT, row #[.int .i64 most, .slice (some ⟨g, 0, none⟩) l.length cap] 64), (g, row cur 26)] u → Calls Try.prog 32 #[.slice (some ⟨g, 0, none⟩) l.length cap] u (Ans u [] (NewE l)) := fun M u hu =>
    clone_any ⟨g, 0, none⟩ l cap h1 u (fun j v hj => by
      rw [add_at, blk_cell (hu.get 1 rfl)]
      have := hR.cells hj
      simpa using this)
  have CCH := Lib.hid CC; clear CC
  have HM := Mem.start hH
  go_enter Try.func16, Try.ntmps16
  go_wp2_with (first
    | (go_at_call 32; (with_reducible refine (Sm.new_call HM (CCH.out _ _ HM)).mono ?_); clear HM; rintro e w_ ⟨v_, L_, rfl, hn_, HM⟩; dsimp only)
    | (refine M.at_mem rfl ?_; first | (refine M.at_load 36 rfl ?_; first | (refine M.load_cell_m HM rfl 36 _ rfl 0 _ _ _ _ _ rfl rfl rfl (by kernel_rfl) (by kernel_rfl) ?_; go_simp) | (refine M.load_cell_m HM rfl 36 _ rfl 1 _ _ _ _ _ rfl rfl rfl (by kernel_rfl) (by kernel_rfl) ?_; go_simp)) | ((fail_if_success (refine M.lit_t rfl ?_)); (fail_if_success (refine M.lit_f rfl ?_)); refine M.split_guard rfl rfl ?_ ?_ <;> (intro hg_; simp only [hg_]; try simp only [M.hgs] at hg_)))
    | ((fail_if_success (refine M.lit_t rfl ?_)); (fail_if_success (refine M.lit_f rfl ?_)); refine M.split_guard rfl rfl ?_ ?_ <;> (intro hg_; simp only [hg_]; try simp only [M.hgs] at hg_)))
  all_goals
    go_ret
    exact ⟨_, _, rfl, ⟨L_, hn_, rfl⟩, HM⟩
set_option maxHeartbeats 2000000 in
theorem list_nil (gT : Nat) (most : Int) :
    Does Try.prog 16 #[.pointer (some ⟨gT, 0, none⟩)] [(gT, row #[.int .i64 most, .slice none 0 0] 64)]
      fun r L => r = .slice none 0 0 ∧ L = [(gT, row #[.int .i64 most, .slice none 0 0] 64)] := by
  have CC : ∀ w, Calls Try.prog 32 #[.slice none 0 0] w fun x w' => x = .returned (.slice none 0 0) ∧ Below w.heap.size w w' := fun w => by
    have q42 : ∀ (w : World) (a : Option Addr) (n c n' c' : Nat), (binOp .eql 36 (.slice a n c) (.slice none n' c')).run Try.prog w = .ok (.bool a.isNone) w := fun w a n c n' c' => Lib.run_eql_slice_nil w _ _ a n c n' c' Try.underlying36
    have HM := Mem.nil w
    go_enter Try.func32, Try.ntmps32
    go_wp2_with (first
      | ((fail_if_success (refine M.lit_t rfl ?_)); (fail_if_success (refine M.lit_f rfl ?_)); refine M.split_guard rfl rfl ?_ ?_ <;> (intro hg_; simp only [hg_]; try simp only [M.hgs] at hg_)))
    all_goals
      go_ret
      exact ⟨rfl, HM.none.to_below⟩
  intro w hH
  have HM := Mem.start hH
  go_enter Try.func16, Try.ntmps16
  go_wp2_with (first
    | (go_at_call 32; (with_reducible refine (M.call_pure (CC) HM).mono ?_); clear HM; rintro e w_ ⟨rfl, HM⟩; dsimp only)
    | (refine M.at_mem rfl ?_; first | (refine M.at_load 36 rfl ?_; first | (refine M.load_cell_m HM rfl 36 _ rfl 0 _ _ _ _ _ rfl rfl rfl (by kernel_rfl) (by kernel_rfl) ?_; go_simp) | (refine M.load_cell_m HM rfl 36 _ rfl 1 _ _ _ _ _ rfl rfl rfl (by kernel_rfl) (by kernel_rfl) ?_; go_simp)) | ((fail_if_success (refine M.lit_t rfl ?_)); (fail_if_success (refine M.lit_f rfl ?_)); refine M.split_guard rfl rfl ?_ ?_ <;> (intro hg_; simp only [hg_]; try simp only [M.hgs] at hg_)))
    | ((fail_if_success (refine M.lit_t rfl ?_)); (fail_if_success (refine M.lit_f rfl ?_)); refine M.split_guard rfl rfl ?_ ?_ <;> (intro hg_; simp only [hg_]; try simp only [M.hgs] at hg_)))
  all_goals
    go_ret
    exact ⟨_, _, rfl, ⟨rfl, rfl⟩, HM⟩
end Go.Proofs.Ytccbpcdepgnmgaa.Tu
