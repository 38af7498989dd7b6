/- A buffer: the flushes. -/
import Derived.Test.YtccbpcdepgnmgaaProg
import Derived.Test.YtccbpcdepgnmgaaTf
namespace Go.Proofs.Ytccbpcdepgnmgaa.Tg
open Go.RowKit Go.Proofs.Ytccbpcdepgnmgaa.G Go.Proofs.Ytccbpcdepgnmgaa.B Go.Proofs.Ytccbpcdepgnmgaa.M Go.Proofs.Ytccbpcdepgnmgaa.Mv Go.Proofs.Ytccbpcdepgnmgaa.Sl Go.Proofs.Ytccbpcdepgnmgaa.Sm Go.Proofs.Ytccbpcdepgnmgaa.Sn Go.Proofs.Ytccbpcdepgnmgaa.Te Go.Proofs.Ytccbpcdepgnmgaa.Tp Go.Proofs.Ytccbpcdepgnmgaa.Tq Go.Proofs.Ytccbpcdepgnmgaa.Ts Go.Proofs.Ytccbpcdepgnmgaa.Td Go.Proofs.Ytccbpcdepgnmgaa.Tt Go.Proofs.Ytccbpcdepgnmgaa.Tu Go.Proofs.Ytccbpcdepgnmgaa.Tw Go.Proofs.Ytccbpcdepgnmgaa.Tf

set_option linter.unusedVariables false
set_option linter.unusedSimpArgs false
set_option maxRecDepth 100000
theorem perm4 {L : Hp} {p q r s : Nat × Obj} (i j k l : Nat) (hi : L[i]? = some p) (hj : (L.eraseIdx i)[j]? = some q) (hk : ((L.eraseIdx i).eraseIdx j)[k]? = some r) (hl : (((L.eraseIdx i).eraseIdx j).eraseIdx k)[l]? = some s) : L.Perm ([p, q, r, s] ++ (((L.eraseIdx i).eraseIdx j).eraseIdx k).eraseIdx l) :=
  (perm_at i hi).trans ((perm3 j k l hj hk hl).cons p)
/-- What is left of a list. -/
def left (p : E → Bool) (l : List E) : List E := l.filter (fun e => !p e)
set_option maxHeartbeats 2000000 in
theorem flush_va (b1 b2 : Nat) (asid va : Int) (v0 : 0 ≤ va) (v1 : va < 18446744073709551616) (p : E → Bool) (hp : ∀ e : E, (matchE e asid va) = p e) (most : Int) (gT : Nat) (l : List E) (g n cap : Nat) (cur0 : Array Value) (hR : Row l 0 cur0) (hn : l.length = n) (hc : n ≤ cap) (hcm : cap ≤ maxLen) (hcs : cur0.size = cap * 10) (h1 : n ≤ 1000) : Does Try.prog 33 #[.pointer (some ⟨gT, 0, none⟩), .func (.func 34) #[] #[.pointer (some ⟨b1, 0, none⟩), .pointer (some ⟨b2, 0, none⟩)]] [(gT, row #[.int .i64 most, .slice (some ⟨g, 0, none⟩) n cap] 64), (g, row cur0 26), (b1, row #[.int .i64 asid] 3), (b2, row #[.int .u64 va] 22)]
    fun r L => ∃ m cur, (left p l).length = m ∧ m ≤ n ∧ r = .int .i64 ((n : Int) - m) ∧ cur.size = cap * 10 ∧ Row (left p l) 0 cur ∧ L = [(gT, row #[.int .i64 most, .slice (some ⟨g, 0, none⟩) m cap] 64), (g, row cur 26), (b1, row #[.int .i64 asid] 3), (b2, row #[.int .u64 va] 22)] := by
  have CD := del_va b1 b2 asid va v0 v1 p hp l g n cap cur0 hR hn hc hcs h1
  intro w hH
  have HM := Mem.start hH
  have hn1 : (n : Int) ≤ 1000 := by omega
  clear hR hn hcs
  go_enter Try.func33, Try.ntmps33
  go_wp2_with (first
    | (go_at_call 49; (with_reducible refine (M.Does.tail [_] CD HM).mono ?_); clear HM; rintro e w_ ⟨v_, L_, rfl, ⟨m_, cur_, hm1_, hm2_, rfl, hs_, hr_, rfl⟩, HM⟩; (try simp only [List.cons_append, List.nil_append] at HM); dsimp only)
    | (refine M.at_mem rfl ?_; first | (refine M.at_load 36 rfl ?_; first | (refine M.load_cell_m HM rfl 36 _ rfl 0 _ _ _ _ _ rfl rfl rfl (by kernel_rfl) (by kernel_rfl) ?_; go_simp) | (refine M.load_cell_m HM rfl 36 _ rfl 1 _ _ _ _ _ rfl rfl rfl (by kernel_rfl) (by kernel_rfl) ?_; go_simp)) | (refine M.at_store 36 rfl ?_; first | (refine M.store_cell_m HM rfl 36 _ _ rfl 0 gT 1 _ _ (.slice (some ⟨g, 0, none⟩) m_ cap) rfl rfl rfl (by kernel_rfl) rfl (by simp) ?_; clear HM; intro w_ HM; (try simp only [List.set_cons_zero, List.set_cons_succ, List.setIfInBounds_toArray] at HM); go_simp) | (refine M.store_cell_m HM rfl 36 _ _ rfl 0 _ _ _ _ _ rfl rfl rfl (by kernel_rfl) rfl (by simp) ?_; clear HM; intro w_ HM; (try simp only [M.nrm] at HM); go_simp) | (refine M.store_cell_m HM rfl 36 _ _ rfl 1 _ _ _ _ _ rfl rfl rfl (by kernel_rfl) rfl (by simp) ?_; clear HM; intro w_ HM; (try simp only [M.nrm] at HM); go_simp)) | ((fail_if_success (refine M.lit_t rfl ?_)); (fail_if_success (refine M.lit_f rfl ?_)); refine M.split_guard rfl rfl ?_ ?_ <;> (intro hg_; simp only [hg_]; try simp only [M.hgs] at hg_)))
    | (refine Mc.at_cmp _ rfl ?_; refine Mc.cmp_m rfl _ rfl _ _ _ rfl _ _ _ rfl rfl _ rfl ?_ ?_ <;> (intro hg_; try simp only [M.hgs] at hg_; first | (exfalso; first | omega | (simp at hg_; done)) | (go_simp)))
    | ((fail_if_success (refine M.lit_t rfl ?_)); (fail_if_success (refine M.lit_f rfl ?_)); refine M.split_guard rfl rfl ?_ ?_ <;> (intro hg_; simp only [hg_]; try simp only [M.hgs] at hg_)))
  all_goals
    have hm9 : (m_ : Int) ≤ n := by omega
    go_ret
    exact ⟨_, _, rfl, ⟨m_, cur_, hm1_, hm2_, by first | rfl | (refine congrArg (fun z => Value.int .i64 z) ?_; simp) | (refine congrArg (fun z => Value.int .i64 z) ?_; omega), hs_, hr_, rfl⟩, HM⟩
set_option maxHeartbeats 2000000 in
theorem flushnil_va (b1 b2 : Nat) (fv : Value) (hfv : fv = .func (.func 34) #[] #[.pointer (some ⟨b1, 0, none⟩), .pointer (some ⟨b2, 0, none⟩)]) (most : Int) (gT : Nat) : Does Try.prog 33 #[.pointer (some ⟨gT, 0, none⟩), fv] [(gT, row #[.int .i64 most, .slice none 0 0] 64)]
    fun r L => r = .int .i64 0 ∧ L = [(gT, row #[.int .i64 most, .slice none 0 0] 64)] := by
  have CI : ∀ w, Calls Try.prog 54 #[.slice none 0 0, fv] w fun r w' => r = .returned (.int .i64 (-1)) ∧ Below w.heap.size w w' := fun w => by
    have HM := Mem.nil w
    subst hfv
    go_enter Try.func54, Try.ntmps54
    go_wp2_with (first
      | (refine M.at_mem rfl ?_; first | (refine M.at_load 26 rfl ?_; first | (refine M.load_row_m HM rfl 26 _ rfl 0 _ _ _ rfl rfl (by kernel_rfl) (by kernel_rfl) ?_; go_simp)) | ((fail_if_success (refine M.lit_t rfl ?_)); (fail_if_success (refine M.lit_f rfl ?_)); refine M.split_guard rfl rfl ?_ ?_ <;> (intro hg_; simp only [hg_]; try simp only [M.hgs] at hg_)))
      | ((fail_if_success (refine M.lit_t rfl ?_)); (fail_if_success (refine M.lit_f rfl ?_)); refine M.split_guard rfl rfl ?_ ?_ <;> (intro hg_; simp only [hg_]; try simp only [M.hgs] at hg_)))
    go_loopw [8] (fun iv wr => iv = .int .i64 0 ∧ Mem w [] _ wr) (fun iv _ => 0)
    case atStart => exact ⟨rfl, HM⟩
    case round =>
      clear HM
      obtain ⟨rfl, HM⟩ := hrel
      go_wp2_with (first
        | (refine M.at_mem rfl ?_; first | (refine M.at_load 26 rfl ?_; first | (refine M.load_row_m HM rfl 26 _ rfl 0 _ _ _ rfl rfl (by kernel_rfl) (by kernel_rfl) ?_; go_simp)) | ((fail_if_success (refine M.lit_t rfl ?_)); (fail_if_success (refine M.lit_f rfl ?_)); refine M.split_guard rfl rfl ?_ ?_ <;> (intro hg_; simp only [hg_]; try simp only [M.hgs] at hg_)))
        | (refine Mc.at_cmp _ rfl ?_; refine Mc.cmp_m rfl _ rfl _ _ _ rfl _ _ _ rfl rfl _ rfl ?_ ?_ <;> (intro hg_; try simp only [M.hgs] at hg_; first | (exfalso; first | omega | (simp at hg_; done)) | (go_simp)))
        | ((fail_if_success (refine M.lit_t rfl ?_)); (fail_if_success (refine M.lit_f rfl ?_)); refine M.split_guard rfl rfl ?_ ?_ <;> (intro hg_; simp only [hg_]; try simp only [M.hgs] at hg_)))
      all_goals
        go_ret
        exact ⟨rfl, HM.none.to_below⟩
  have CD : ∀ w, Calls Try.prog 49 #[.slice none 0 0, fv] w fun r w' => r = .returned (.slice none 0 0) ∧ Below w.heap.size w w' := fun w => by
    have HM := Mem.nil w
    subst hfv
    go_enter Try.func49, Try.ntmps49
    go_wp2_with (first
      | (go_at_call 54; (with_reducible refine (M.call_pure (CI) HM).mono ?_); clear HM; rintro e w_ ⟨rfl, HM⟩; dsimp only)
      | (refine M.at_mem rfl ?_; first | (refine M.at_load 26 rfl ?_; first | (refine M.load_row_m HM rfl 26 _ rfl 0 _ _ _ rfl rfl (by kernel_rfl) (by kernel_rfl) ?_; go_simp)) | (refine M.at_store 26 rfl ?_; first | (refine M.store_row_m HM rfl 26 _ _ rfl 0 _ _ _ _ rfl rfl rfl (by kernel_rfl) rfl (by simp [Value.oneCell']) ?_; clear HM; intro w_ HM; (try simp only [M.nrm] at HM); go_simp)) | (refine M.at_alloc 26 rfl ?_; first | (refine M.alloc_m HM rfl rfl 26 rfl (.agg #[(.int .i64 0), (.int .u64 0), (.int .i64 0), (.int .i64 0), (.int .u64 0), (.bool false), (.bool false), (.bool false), (.bool false), (.int .i64 0)]) (by kernel_rfl) #[(.int .i64 0), (.int .u64 0), (.int .i64 0), (.int .i64 0), (.int .u64 0), (.bool false), (.bool false), (.bool false), (.bool false), (.int .i64 0)] rfl ?_; clear HM; intro g_ w_ HM; go_simp)) | ((fail_if_success (refine M.lit_t rfl ?_)); (fail_if_success (refine M.lit_f rfl ?_)); refine M.split_guard rfl rfl ?_ ?_ <;> (intro hg_; simp only [hg_]; try simp only [M.hgs] at hg_)))
      | (refine Mc.at_cmp _ rfl ?_; refine Mc.cmp_m rfl _ rfl _ _ _ rfl _ _ _ rfl rfl _ rfl ?_ ?_ <;> (intro hg_; try simp only [M.hgs] at hg_; first | (exfalso; first | omega | (simp at hg_; done)) | (go_simp)))
      | ((fail_if_success (refine M.lit_t rfl ?_)); (fail_if_success (refine M.lit_f rfl ?_)); refine M.split_guard rfl rfl ?_ ?_ <;> (intro hg_; simp only [hg_]; try simp only [M.hgs] at hg_)))
    all_goals
      go_ret
      exact ⟨by first | rfl | simp, HM.none.to_below⟩
  intro w hH
  have HM := Mem.start hH
  subst hfv
  go_enter Try.func33, Try.ntmps33
  go_wp2_with (first
    | (go_at_call 49; (with_reducible refine (M.call_pure (CD) HM).mono ?_); clear HM; rintro e w_ ⟨rfl, HM⟩; dsimp only)
    | (refine M.at_mem rfl ?_; first | (refine M.at_load 36 rfl ?_; first | (refine M.load_cell_m HM rfl 36 _ rfl 0 _ _ _ _ _ rfl rfl rfl (by kernel_rfl) (by kernel_rfl) ?_; go_simp) | (refine M.load_cell_m HM rfl 36 _ rfl 1 _ _ _ _ _ rfl rfl rfl (by kernel_rfl) (by kernel_rfl) ?_; go_simp)) | (refine M.at_store 36 rfl ?_; first | (refine M.store_cell_m HM rfl 36 _ _ rfl 0 gT 1 _ _ (.slice none 0 0) rfl rfl rfl (by kernel_rfl) rfl (by simp) ?_; clear HM; intro w_ HM; (try simp only [List.set_cons_zero, List.set_cons_succ, List.setIfInBounds_toArray] at HM); go_simp) | (refine M.store_cell_m HM rfl 36 _ _ rfl 0 _ _ _ _ _ rfl rfl rfl (by kernel_rfl) rfl (by simp) ?_; clear HM; intro w_ HM; (try simp only [M.nrm] at HM); go_simp) | (refine M.store_cell_m HM rfl 36 _ _ rfl 1 _ _ _ _ _ rfl rfl rfl (by kernel_rfl) rfl (by simp) ?_; clear HM; intro w_ HM; (try simp only [M.nrm] at HM); go_simp)) | ((fail_if_success (refine M.lit_t rfl ?_)); (fail_if_success (refine M.lit_f rfl ?_)); refine M.split_guard rfl rfl ?_ ?_ <;> (intro hg_; simp only [hg_]; try simp only [M.hgs] at hg_)))
    | (refine Mc.at_cmp _ rfl ?_; refine Mc.cmp_m rfl _ rfl _ _ _ rfl _ _ _ rfl rfl _ rfl ?_ ?_ <;> (intro hg_; try simp only [M.hgs] at hg_; first | (exfalso; first | omega | (simp at hg_; done)) | (go_simp)))
    | ((fail_if_success (refine M.lit_t rfl ?_)); (fail_if_success (refine M.lit_f rfl ?_)); refine M.split_guard rfl rfl ?_ ?_ <;> (intro hg_; simp only [hg_]; try simp only [M.hgs] at hg_)))
  all_goals
    go_ret
    exact ⟨_, _, rfl, ⟨by first | rfl | simp, rfl⟩, HM⟩
set_option maxHeartbeats 2000000 in
theorem Flush_va {most : Int} {l : List E} {gT : Nat} {T : Hp} (HT : TS most l gT T) (asid va : Int) (v0 : 0 ≤ va) (v1 : va < 18446744073709551616) (h1 : l.length ≤ 1000) : Does Try.prog 19 #[.pointer (some ⟨gT, 0, none⟩), .int .i64 asid, .int .u64 va] T
    fun r L => r = .int .i64 ((l.length : Int) - (left (matchE · asid va) l).length) ∧ TS most (left (matchE · asid va) l) gT L := by
  obtain ⟨v, A, hA, rfl⟩ := HT
  rcases hA with ⟨rfl, rfl, rfl⟩ | ⟨g, cap, cur, rfl, h2, h3, h4, h5, rfl⟩
  · have CF := fun gb1_ gb2_ => flushnil_va gb1_ gb2_ _ rfl most gT
    intro w hH
    have HM := Mem.start hH
    go_enter Try.func19, Try.ntmps19
    go_wp2_with (first
      | (go_at_call 33; (with_reducible refine (M.Does.call (CF gb1_ gb2_) HM (perm_at 2 rfl)).mono ?_); clear HM; rintro e w_ ⟨v_, L_, rfl, ⟨rfl, rfl⟩, HM⟩; (try simp only [List.eraseIdx_cons_zero, List.eraseIdx_cons_succ, List.cons_append, List.nil_append] at HM); dsimp only)
      | (refine M.at_mem rfl ?_; first | (refine M.at_box 3 rfl ?_; first | ((fail_if_success (have x_ := gb1_)); refine M.box1_m HM rfl rfl 3 _ rfl (.int .i64 asid) rfl rfl ?_; clear HM; intro gb1_ w_ HM; go_simp) | (refine M.box1_m HM rfl rfl 22 _ rfl (.int .u64 va) rfl rfl ?_; clear HM; intro gb2_ w_ HM; go_simp) | (refine M.box1_m HM rfl rfl 3 _ rfl _ rfl rfl ?_; clear HM; intro g_ w_ HM; go_simp)) | (refine M.at_box 22 rfl ?_; first | ((fail_if_success (have x_ := gb1_)); refine M.box1_m HM rfl rfl 3 _ rfl (.int .i64 asid) rfl rfl ?_; clear HM; intro gb1_ w_ HM; go_simp) | (refine M.box1_m HM rfl rfl 22 _ rfl (.int .u64 va) rfl rfl ?_; clear HM; intro gb2_ w_ HM; go_simp) | (refine M.box1_m HM rfl rfl 22 _ rfl _ rfl rfl ?_; clear HM; intro g_ w_ HM; go_simp)) | ((fail_if_success (refine M.lit_t rfl ?_)); (fail_if_success (refine M.lit_f rfl ?_)); refine M.split_guard rfl rfl ?_ ?_ <;> (intro hg_; simp only [hg_]; try simp only [M.hgs] at hg_)))
      | ((fail_if_success (refine M.lit_t rfl ?_)); (fail_if_success (refine M.lit_f rfl ?_)); refine M.split_guard rfl rfl ?_ ?_ <;> (intro hg_; simp only [hg_]; try simp only [M.hgs] at hg_)))
    all_goals
      go_ret
      exact ⟨_, _, rfl, ⟨by first | rfl | simp [left], TS.nil most gT⟩, HM.take (A := [_])⟩
  · have CF := fun gb1_ gb2_ => flush_va gb1_ gb2_ asid va v0 v1 (matchE · asid va) (fun _ => rfl) most gT l g l.length cap cur h5 rfl h2 h3 h4 h1
    intro w hH
    have H3 := Lib.hid h3; have H2 := Lib.hid h2; clear h3 h2 h4 h5
    have HM := Mem.start hH
    generalize hn : l.length = n at CF HM H2
    have HN := Lib.hid hn; clear hn
    go_enter Try.func19, Try.ntmps19
    go_wp2_with (first
      | (go_at_call 33; (with_reducible refine (M.Does.call (CF gb1_ gb2_) HM (perm4 2 2 1 0 rfl rfl rfl rfl)).mono ?_); clear HM; rintro e w_ ⟨v_, L_, rfl, ⟨m_, cur_, hm1_, hm2_, rfl, hs_, hr_, rfl⟩, HM⟩; (try simp only [List.eraseIdx_cons_zero, List.eraseIdx_cons_succ, List.cons_append, List.nil_append] at HM); dsimp only)
      | (refine M.at_mem rfl ?_; first | (refine M.at_box 3 rfl ?_; first | ((fail_if_success (have x_ := gb1_)); refine M.box1_m HM rfl rfl 3 _ rfl (.int .i64 asid) rfl rfl ?_; clear HM; intro gb1_ w_ HM; go_simp) | (refine M.box1_m HM rfl rfl 22 _ rfl (.int .u64 va) rfl rfl ?_; clear HM; intro gb2_ w_ HM; go_simp) | (refine M.box1_m HM rfl rfl 3 _ rfl _ rfl rfl ?_; clear HM; intro g_ w_ HM; go_simp)) | (refine M.at_box 22 rfl ?_; first | ((fail_if_success (have x_ := gb1_)); refine M.box1_m HM rfl rfl 3 _ rfl (.int .i64 asid) rfl rfl ?_; clear HM; intro gb1_ w_ HM; go_simp) | (refine M.box1_m HM rfl rfl 22 _ rfl (.int .u64 va) rfl rfl ?_; clear HM; intro gb2_ w_ HM; go_simp) | (refine M.box1_m HM rfl rfl 22 _ rfl _ rfl rfl ?_; clear HM; intro g_ w_ HM; go_simp)) | ((fail_if_success (refine M.lit_t rfl ?_)); (fail_if_success (refine M.lit_f rfl ?_)); refine M.split_guard rfl rfl ?_ ?_ <;> (intro hg_; simp only [hg_]; try simp only [M.hgs] at hg_)))
      | ((fail_if_success (refine M.lit_t rfl ?_)); (fail_if_success (refine M.lit_f rfl ?_)); refine M.split_guard rfl rfl ?_ ?_ <;> (intro hg_; simp only [hg_]; try simp only [M.hgs] at hg_)))
    all_goals
      go_ret
      exact ⟨_, _, rfl, ⟨by first | rfl | (rw [hm1_]; rfl), TS.own hm1_ (Nat.le_trans hm2_ H2.out) H3.out hs_ hr_⟩, HM.take (A := [_, _])⟩
set_option maxHeartbeats 2000000 in
theorem flush_as (b1 : Nat) (asid : Int) (p : E → Bool) (hp : ∀ e : E, (decide (e.asid = asid)) = p e) (most : Int) (gT : Nat) (l : List E) (g n cap : Nat) (cur0 : Array Value) (hR : Row l 0 cur0) (hn : l.length = n) (hc : n ≤ cap) (hcm : cap ≤ maxLen) (hcs : cur0.size = cap * 10) (h1 : n ≤ 1000) : Does Try.prog 33 #[.pointer (some ⟨gT, 0, none⟩), .func (.func 35) #[] #[.pointer (some ⟨b1, 0, none⟩)]] [(gT, row #[.int .i64 most, .slice (some ⟨g, 0, none⟩) n cap] 64), (g, row cur0 26), (b1, row #[.int .i64 asid] 3)]
    fun r L => ∃ m cur, (left p l).length = m ∧ m ≤ n ∧ r = .int .i64 ((n : Int) - m) ∧ cur.size = cap * 10 ∧ Row (left p l) 0 cur ∧ L = [(gT, row #[.int .i64 most, .slice (some ⟨g, 0, none⟩) m cap] 64), (g, row cur 26), (b1, row #[.int .i64 asid] 3)] := by
  have CD := del_as b1 asid p hp l g n cap cur0 hR hn hc hcs h1
  intro w hH
  have HM := Mem.start hH
  have hn1 : (n : Int) ≤ 1000 := by omega
  clear hR hn hcs
  go_enter Try.func33, Try.ntmps33
  go_wp2_with (first
    | (go_at_call 49; (with_reducible refine (M.Does.tail [_] CD HM).mono ?_); clear HM; rintro e w_ ⟨v_, L_, rfl, ⟨m_, cur_, hm1_, hm2_, rfl, hs_, hr_, rfl⟩, HM⟩; (try simp only [List.cons_append, List.nil_append] at HM); dsimp only)
    | (refine M.at_mem rfl ?_; first | (refine M.at_load 36 rfl ?_; first | (refine M.load_cell_m HM rfl 36 _ rfl 0 _ _ _ _ _ rfl rfl rfl (by kernel_rfl) (by kernel_rfl) ?_; go_simp) | (refine M.load_cell_m HM rfl 36 _ rfl 1 _ _ _ _ _ rfl rfl rfl (by kernel_rfl) (by kernel_rfl) ?_; go_simp)) | (refine M.at_store 36 rfl ?_; first | (refine M.store_cell_m HM rfl 36 _ _ rfl 0 gT 1 _ _ (.slice (some ⟨g, 0, none⟩) m_ cap) rfl rfl rfl (by kernel_rfl) rfl (by simp) ?_; clear HM; intro w_ HM; (try simp only [List.set_cons_zero, List.set_cons_succ, List.setIfInBounds_toArray] at HM); go_simp) | (refine M.store_cell_m HM rfl 36 _ _ rfl 0 _ _ _ _ _ rfl rfl rfl (by kernel_rfl) rfl (by simp) ?_; clear HM; intro w_ HM; (try simp only [M.nrm] at HM); go_simp) | (refine M.store_cell_m HM rfl 36 _ _ rfl 1 _ _ _ _ _ rfl rfl rfl (by kernel_rfl) rfl (by simp) ?_; clear HM; intro w_ HM; (try simp only [M.nrm] at HM); go_simp)) | ((fail_if_success (refine M.lit_t rfl ?_)); (fail_if_success (refine M.lit_f rfl ?_)); refine M.split_guard rfl rfl ?_ ?_ <;> (intro hg_; simp only [hg_]; try simp only [M.hgs] at hg_)))
    | (refine Mc.at_cmp _ rfl ?_; refine Mc.cmp_m rfl _ rfl _ _ _ rfl _ _ _ rfl rfl _ rfl ?_ ?_ <;> (intro hg_; try simp only [M.hgs] at hg_; first | (exfalso; first | omega | (simp at hg_; done)) | (go_simp)))
    | ((fail_if_success (refine M.lit_t rfl ?_)); (fail_if_success (refine M.lit_f rfl ?_)); refine M.split_guard rfl rfl ?_ ?_ <;> (intro hg_; simp only [hg_]; try simp only [M.hgs] at hg_)))
  all_goals
    have hm9 : (m_ : Int) ≤ n := by omega
    go_ret
    exact ⟨_, _, rfl, ⟨m_, cur_, hm1_, hm2_, by first | rfl | (refine congrArg (fun z => Value.int .i64 z) ?_; simp) | (refine congrArg (fun z => Value.int .i64 z) ?_; omega), hs_, hr_, rfl⟩, HM⟩
set_option maxHeartbeats 2000000 in
theorem flushnil_as (b1 : Nat) (fv : Value) (hfv : fv = .func (.func 35) #[] #[.pointer (some ⟨b1, 0, none⟩)]) (most : Int) (gT : Nat) : Does Try.prog 33 #[.pointer (some ⟨gT, 0, none⟩), fv] [(gT, row #[.int .i64 most, .slice none 0 0] 64)]
    fun r L => r = .int .i64 0 ∧ L = [(gT, row #[.int .i64 most, .slice none 0 0] 64)] := by
  have CI : ∀ w, Calls Try.prog 54 #[.slice none 0 0, fv] w fun r w' => r = .returned (.int .i64 (-1)) ∧ Below w.heap.size w w' := fun w => by
    have HM := Mem.nil w
    subst hfv
    go_enter Try.func54, Try.ntmps54
    go_wp2_with (first
      | (refine M.at_mem rfl ?_; first | (refine M.at_load 26 rfl ?_; first | (refine M.load_row_m HM rfl 26 _ rfl 0 _ _ _ rfl rfl (by kernel_rfl) (by kernel_rfl) ?_; go_simp)) | ((fail_if_success (refine M.lit_t rfl ?_)); (fail_if_success (refine M.lit_f rfl ?_)); refine M.split_guard rfl rfl ?_ ?_ <;> (intro hg_; simp only [hg_]; try simp only [M.hgs] at hg_)))
      | ((fail_if_success (refine M.lit_t rfl ?_)); (fail_if_success (refine M.lit_f rfl ?_)); refine M.split_guard rfl rfl ?_ ?_ <;> (intro hg_; simp only [hg_]; try simp only [M.hgs] at hg_)))
    go_loopw [8] (fun iv wr => iv = .int .i64 0 ∧ Mem w [] _ wr) (fun iv _ => 0)
    case atStart => exact ⟨rfl, HM⟩
    case round =>
      clear HM
      obtain ⟨rfl, HM⟩ := hrel
      go_wp2_with (first
        | (refine M.at_mem rfl ?_; first | (refine M.at_load 26 rfl ?_; first | (refine M.load_row_m HM rfl 26 _ rfl 0 _ _ _ rfl rfl (by kernel_rfl) (by kernel_rfl) ?_; go_simp)) | ((fail_if_success (refine M.lit_t rfl ?_)); (fail_if_success (refine M.lit_f rfl ?_)); refine M.split_guard rfl rfl ?_ ?_ <;> (intro hg_; simp only [hg_]; try simp only [M.hgs] at hg_)))
        | (refine Mc.at_cmp _ rfl ?_; refine Mc.cmp_m rfl _ rfl _ _ _ rfl _ _ _ rfl rfl _ rfl ?_ ?_ <;> (intro hg_; try simp only [M.hgs] at hg_; first | (exfalso; first | omega | (simp at hg_; done)) | (go_simp)))
        | ((fail_if_success (refine M.lit_t rfl ?_)); (fail_if_success (refine M.lit_f rfl ?_)); refine M.split_guard rfl rfl ?_ ?_ <;> (intro hg_; simp only [hg_]; try simp only [M.hgs] at hg_)))
      all_goals
        go_ret
        exact ⟨rfl, HM.none.to_below⟩
  have CD : ∀ w, Calls Try.prog 49 #[.slice none 0 0, fv] w fun r w' => r = .returned (.slice none 0 0) ∧ Below w.heap.size w w' := fun w => by
    have HM := Mem.nil w
    subst hfv
    go_enter Try.func49, Try.ntmps49
    go_wp2_with (first
      | (go_at_call 54; (with_reducible refine (M.call_pure (CI) HM).mono ?_); clear HM; rintro e w_ ⟨rfl, HM⟩; dsimp only)
      | (refine M.at_mem rfl ?_; first | (refine M.at_load 26 rfl ?_; first | (refine M.load_row_m HM rfl 26 _ rfl 0 _ _ _ rfl rfl (by kernel_rfl) (by kernel_rfl) ?_; go_simp)) | (refine M.at_store 26 rfl ?_; first | (refine M.store_row_m HM rfl 26 _ _ rfl 0 _ _ _ _ rfl rfl rfl (by kernel_rfl) rfl (by simp [Value.oneCell']) ?_; clear HM; intro w_ HM; (try simp only [M.nrm] at HM); go_simp)) | (refine M.at_alloc 26 rfl ?_; first | (refine M.alloc_m HM rfl rfl 26 rfl (.agg #[(.int .i64 0), (.int .u64 0), (.int .i64 0), (.int .i64 0), (.int .u64 0), (.bool false), (.bool false), (.bool false), (.bool false), (.int .i64 0)]) (by kernel_rfl) #[(.int .i64 0), (.int .u64 0), (.int .i64 0), (.int .i64 0), (.int .u64 0), (.bool false), (.bool false), (.bool false), (.bool false), (.int .i64 0)] rfl ?_; clear HM; intro g_ w_ HM; go_simp)) | ((fail_if_success (refine M.lit_t rfl ?_)); (fail_if_success (refine M.lit_f rfl ?_)); refine M.split_guard rfl rfl ?_ ?_ <;> (intro hg_; simp only [hg_]; try simp only [M.hgs] at hg_)))
      | (refine Mc.at_cmp _ rfl ?_; refine Mc.cmp_m rfl _ rfl _ _ _ rfl _ _ _ rfl rfl _ rfl ?_ ?_ <;> (intro hg_; try simp only [M.hgs] at hg_; first | (exfalso; first | omega | (simp at hg_; done)) | (go_simp)))
      | ((fail_if_success (refine M.lit_t rfl ?_)); (fail_if_success (refine M.lit_f rfl ?_)); refine M.split_guard rfl rfl ?_ ?_ <;> (intro hg_; simp only [hg_]; try simp only [M.hgs] at hg_)))
    all_goals
      go_ret
      exact ⟨by first | rfl | simp, HM.none.to_below⟩
  intro w hH
  have HM := Mem.start hH
  subst hfv
  go_enter Try.func33, Try.ntmps33
  go_wp2_with (first
    | (go_at_call 49; (with_reducible refine (M.call_pure (CD) HM).mono ?_); clear HM; rintro e w_ ⟨rfl, HM⟩; dsimp only)
    | (refine M.at_mem rfl ?_; first | (refine M.at_load 36 rfl ?_; first | (refine M.load_cell_m HM rfl 36 _ rfl 0 _ _ _ _ _ rfl rfl rfl (by kernel_rfl) (by kernel_rfl) ?_; go_simp) | (refine M.load_cell_m HM rfl 36 _ rfl 1 _ _ _ _ _ rfl rfl rfl (by kernel_rfl) (by kernel_rfl) ?_; go_simp)) | (refine M.at_store 36 rfl ?_; first | (refine M.store_cell_m HM rfl 36 _ _ rfl 0 gT 1 _ _ (.slice none 0 0) rfl rfl rfl (by kernel_rfl) rfl (by simp) ?_; clear HM; intro w_ HM; (try simp only [List.set_cons_zero, List.set_cons_succ, List.setIfInBounds_toArray] at HM); go_simp) | (refine M.store_cell_m HM rfl 36 _ _ rfl 0 _ _ _ _ _ rfl rfl rfl (by kernel_rfl) rfl (by simp) ?_; clear HM; intro w_ HM; (try simp only [M.nrm] at HM); go_simp) | (refine M.store_cell_m HM rfl 36 _ _ rfl 1 _ _ _ _ _ rfl rfl rfl (by kernel_rfl) rfl (by simp) ?_; clear HM; intro w_ HM; (try simp only [M.nrm] at HM); go_simp)) | ((fail_if_success (refine M.lit_t rfl ?_)); (fail_if_success (refine M.lit_f rfl ?_)); refine M.split_guard rfl rfl ?_ ?_ <;> (intro hg_; simp only [hg_]; try simp only [M.hgs] at hg_)))
    | (refine Mc.at_cmp _ rfl ?_; refine Mc.cmp_m rfl _ rfl _ _ _ rfl _ _ _ rfl rfl _ rfl ?_ ?_ <;> (intro hg_; try simp only [M.hgs] at hg_; first | (exfalso; first | omega | (simp at hg_; done)) | (go_simp)))
    | ((fail_if_success (refine M.lit_t rfl ?_)); (fail_if_success (refine M.lit_f rfl ?_)); refine M.split_guard rfl rfl ?_ ?_ <;> (intro hg_; simp only [hg_]; try simp only [M.hgs] at hg_)))
  all_goals
    go_ret
    exact ⟨_, _, rfl, ⟨by first | rfl | simp, rfl⟩, HM⟩
set_option maxHeartbeats 2000000 in
theorem Flush_as {most : Int} {l : List E} {gT : Nat} {T : Hp} (HT : TS most l gT T) (asid : Int) (h1 : l.length ≤ 1000) : Does Try.prog 20 #[.pointer (some ⟨gT, 0, none⟩), .int .i64 asid] T
    fun r L => r = .int .i64 ((l.length : Int) - (left (fun e => decide (e.asid = asid)) l).length) ∧ TS most (left (fun e => decide (e.asid = asid)) l) gT L := by
  obtain ⟨v, A, hA, rfl⟩ := HT
  rcases hA with ⟨rfl, rfl, rfl⟩ | ⟨g, cap, cur, rfl, h2, h3, h4, h5, rfl⟩
  · have CF := fun gb1_ => flushnil_as gb1_ _ rfl most gT
    intro w hH
    have HM := Mem.start hH
    go_enter Try.func20, Try.ntmps20
    go_wp2_with (first
      | (go_at_call 33; (with_reducible refine (M.Does.call (CF gb1_) HM (perm_at 1 rfl)).mono ?_); clear HM; rintro e w_ ⟨v_, L_, rfl, ⟨rfl, rfl⟩, HM⟩; (try simp only [List.eraseIdx_cons_zero, List.eraseIdx_cons_succ, List.cons_append, List.nil_append] at HM); dsimp only)
      | (refine M.at_mem rfl ?_; first | (refine M.at_box 3 rfl ?_; first | (refine M.box1_m HM rfl rfl 3 _ rfl (.int .i64 asid) rfl rfl ?_; clear HM; intro gb1_ w_ HM; go_simp) | (refine M.box1_m HM rfl rfl 3 _ rfl _ rfl rfl ?_; clear HM; intro g_ w_ HM; go_simp)) | ((fail_if_success (refine M.lit_t rfl ?_)); (fail_if_success (refine M.lit_f rfl ?_)); refine M.split_guard rfl rfl ?_ ?_ <;> (intro hg_; simp only [hg_]; try simp only [M.hgs] at hg_)))
      | ((fail_if_success (refine M.lit_t rfl ?_)); (fail_if_success (refine M.lit_f rfl ?_)); refine M.split_guard rfl rfl ?_ ?_ <;> (intro hg_; simp only [hg_]; try simp only [M.hgs] at hg_)))
    all_goals
      go_ret
      exact ⟨_, _, rfl, ⟨by first | rfl | simp [left], TS.nil most gT⟩, HM.take (A := [_])⟩
  · have CF := fun gb1_ => flush_as gb1_ asid (fun e => decide (e.asid = asid)) (fun _ => rfl) most gT l g l.length cap cur h5 rfl h2 h3 h4 h1
    intro w hH
    have H3 := Lib.hid h3; have H2 := Lib.hid h2; clear h3 h2 h4 h5
    have HM := Mem.start hH
    generalize hn : l.length = n at CF HM H2
    have HN := Lib.hid hn; clear hn
    go_enter Try.func20, Try.ntmps20
    go_wp2_with (first
      | (go_at_call 33; (with_reducible refine (M.Does.call (CF gb1_) HM (M.perm3 1 1 0 rfl rfl rfl)).mono ?_); clear HM; rintro e w_ ⟨v_, L_, rfl, ⟨m_, cur_, hm1_, hm2_, rfl, hs_, hr_, rfl⟩, HM⟩; (try simp only [List.eraseIdx_cons_zero, List.eraseIdx_cons_succ, List.cons_append, List.nil_append] at HM); dsimp only)
      | (refine M.at_mem rfl ?_; first | (refine M.at_box 3 rfl ?_; first | (refine M.box1_m HM rfl rfl 3 _ rfl (.int .i64 asid) rfl rfl ?_; clear HM; intro gb1_ w_ HM; go_simp) | (refine M.box1_m HM rfl rfl 3 _ rfl _ rfl rfl ?_; clear HM; intro g_ w_ HM; go_simp)) | ((fail_if_success (refine M.lit_t rfl ?_)); (fail_if_success (refine M.lit_f rfl ?_)); refine M.split_guard rfl rfl ?_ ?_ <;> (intro hg_; simp only [hg_]; try simp only [M.hgs] at hg_)))
      | ((fail_if_success (refine M.lit_t rfl ?_)); (fail_if_success (refine M.lit_f rfl ?_)); refine M.split_guard rfl rfl ?_ ?_ <;> (intro hg_; simp only [hg_]; try simp only [M.hgs] at hg_)))
    all_goals
      go_ret
      exact ⟨_, _, rfl, ⟨by first | rfl | (rw [hm1_]; rfl), TS.own hm1_ (Nat.le_trans hm2_ H2.out) H3.out hs_ hr_⟩, HM.take (A := [_, _])⟩
set_option maxHeartbeats 2000000 in
theorem flush_all  (p : E → Bool) (hp : ∀ e : E, (true) = p e) (most : Int) (gT : Nat) (l : List E) (g n cap : Nat) (cur0 : Array Value) (hR : Row l 0 cur0) (hn : l.length = n) (hc : n ≤ cap) (hcm : cap ≤ maxLen) (hcs : cur0.size = cap * 10) (h1 : n ≤ 1000) : Does Try.prog 33 #[.pointer (some ⟨gT, 0, none⟩), .func (.func 51) #[] #[]] [(gT, row #[.int .i64 most, .slice (some ⟨g, 0, none⟩) n cap] 64), (g, row cur0 26)]
    fun r L => ∃ m cur, (left p l).length = m ∧ m ≤ n ∧ r = .int .i64 ((n : Int) - m) ∧ cur.size = cap * 10 ∧ Row (left p l) 0 cur ∧ L = [(gT, row #[.int .i64 most, .slice (some ⟨g, 0, none⟩) m cap] 64), (g, row cur 26)] := by
  have CD := del_all  p hp l g n cap cur0 hR hn hc hcs h1
  intro w hH
  have HM := Mem.start hH
  have hn1 : (n : Int) ≤ 1000 := by omega
  clear hR hn hcs
  go_enter Try.func33, Try.ntmps33
  go_wp2_with (first
    | (go_at_call 49; (with_reducible refine (M.Does.tail [_] CD HM).mono ?_); clear HM; rintro e w_ ⟨v_, L_, rfl, ⟨m_, cur_, hm1_, hm2_, rfl, hs_, hr_, rfl⟩, HM⟩; (try simp only [List.cons_append, List.nil_append] at HM); dsimp only)
    | (refine M.at_mem rfl ?_; first | (refine M.at_load 36 rfl ?_; first | (refine M.load_cell_m HM rfl 36 _ rfl 0 _ _ _ _ _ rfl rfl rfl (by kernel_rfl) (by kernel_rfl) ?_; go_simp) | (refine M.load_cell_m HM rfl 36 _ rfl 1 _ _ _ _ _ rfl rfl rfl (by kernel_rfl) (by kernel_rfl) ?_; go_simp)) | (refine M.at_store 36 rfl ?_; first | (refine M.store_cell_m HM rfl 36 _ _ rfl 0 gT 1 _ _ (.slice (some ⟨g, 0, none⟩) m_ cap) rfl rfl rfl (by kernel_rfl) rfl (by simp) ?_; clear HM; intro w_ HM; (try simp only [List.set_cons_zero, List.set_cons_succ, List.setIfInBounds_toArray] at HM); go_simp) | (refine M.store_cell_m HM rfl 36 _ _ rfl 0 _ _ _ _ _ rfl rfl rfl (by kernel_rfl) rfl (by simp) ?_; clear HM; intro w_ HM; (try simp only [M.nrm] at HM); go_simp) | (refine M.store_cell_m HM rfl 36 _ _ rfl 1 _ _ _ _ _ rfl rfl rfl (by kernel_rfl) rfl (by simp) ?_; clear HM; intro w_ HM; (try simp only [M.nrm] at HM); go_simp)) | ((fail_if_success (refine M.lit_t rfl ?_)); (fail_if_success (refine M.lit_f rfl ?_)); refine M.split_guard rfl rfl ?_ ?_ <;> (intro hg_; simp only [hg_]; try simp only [M.hgs] at hg_)))
    | (refine Mc.at_cmp _ rfl ?_; refine Mc.cmp_m rfl _ rfl _ _ _ rfl _ _ _ rfl rfl _ rfl ?_ ?_ <;> (intro hg_; try simp only [M.hgs] at hg_; first | (exfalso; first | omega | (simp at hg_; done)) | (go_simp)))
    | ((fail_if_success (refine M.lit_t rfl ?_)); (fail_if_success (refine M.lit_f rfl ?_)); refine M.split_guard rfl rfl ?_ ?_ <;> (intro hg_; simp only [hg_]; try simp only [M.hgs] at hg_)))
  all_goals
    have hm9 : (m_ : Int) ≤ n := by omega
    go_ret
    exact ⟨_, _, rfl, ⟨m_, cur_, hm1_, hm2_, by first | rfl | (refine congrArg (fun z => Value.int .i64 z) ?_; simp) | (refine congrArg (fun z => Value.int .i64 z) ?_; omega), hs_, hr_, rfl⟩, HM⟩
set_option maxHeartbeats 2000000 in
theorem flushnil_all  (fv : Value) (hfv : fv = .func (.func 51) #[] #[]) (most : Int) (gT : Nat) : Does Try.prog 33 #[.pointer (some ⟨gT, 0, none⟩), fv] [(gT, row #[.int .i64 most, .slice none 0 0] 64)]
    fun r L => r = .int .i64 0 ∧ L = [(gT, row #[.int .i64 most, .slice none 0 0] 64)] := by
  have CI : ∀ w, Calls Try.prog 54 #[.slice none 0 0, fv] w fun r w' => r = .returned (.int .i64 (-1)) ∧ Below w.heap.size w w' := fun w => by
    have HM := Mem.nil w
    subst hfv
    go_enter Try.func54, Try.ntmps54
    go_wp2_with (first
      | (refine M.at_mem rfl ?_; first | (refine M.at_load 26 rfl ?_; first | (refine M.load_row_m HM rfl 26 _ rfl 0 _ _ _ rfl rfl (by kernel_rfl) (by kernel_rfl) ?_; go_simp)) | ((fail_if_success (refine M.lit_t rfl ?_)); (fail_if_success (refine M.lit_f rfl ?_)); refine M.split_guard rfl rfl ?_ ?_ <;> (intro hg_; simp only [hg_]; try simp only [M.hgs] at hg_)))
      | ((fail_if_success (refine M.lit_t rfl ?_)); (fail_if_success (refine M.lit_f rfl ?_)); refine M.split_guard rfl rfl ?_ ?_ <;> (intro hg_; simp only [hg_]; try simp only [M.hgs] at hg_)))
    go_loopw [8] (fun iv wr => iv = .int .i64 0 ∧ Mem w [] _ wr) (fun iv _ => 0)
    case atStart => exact ⟨rfl, HM⟩
    case round =>
      clear HM
      obtain ⟨rfl, HM⟩ := hrel
      go_wp2_with (first
        | (refine M.at_mem rfl ?_; first | (refine M.at_load 26 rfl ?_; first | (refine M.load_row_m HM rfl 26 _ rfl 0 _ _ _ rfl rfl (by kernel_rfl) (by kernel_rfl) ?_; go_simp)) | ((fail_if_success (refine M.lit_t rfl ?_)); (fail_if_success (refine M.lit_f rfl ?_)); refine M.split_guard rfl rfl ?_ ?_ <;> (intro hg_; simp only [hg_]; try simp only [M.hgs] at hg_)))
        | (refine Mc.at_cmp _ rfl ?_; refine Mc.cmp_m rfl _ rfl _ _ _ rfl _ _ _ rfl rfl _ rfl ?_ ?_ <;> (intro hg_; try simp only [M.hgs] at hg_; first | (exfalso; first | omega | (simp at hg_; done)) | (go_simp)))
        | ((fail_if_success (refine M.lit_t rfl ?_)); (fail_if_success (refine M.lit_f rfl ?_)); refine M.split_guard rfl rfl ?_ ?_ <;> (intro hg_; simp only [hg_]; try simp only [M.hgs] at hg_)))
      all_goals
        go_ret
        exact ⟨rfl, HM.none.to_below⟩
  have CD : ∀ w, Calls Try.prog 49 #[.slice none 0 0, fv] w fun r w' => r = .returned (.slice none 0 0) ∧ Below w.heap.size w w' := fun w => by
    have HM := Mem.nil w
    subst hfv
    go_enter Try.func49, Try.ntmps49
    go_wp2_with (first
      | (go_at_call 54; (with_reducible refine (M.call_pure (CI) HM).mono ?_); clear HM; rintro e w_ ⟨rfl, HM⟩; dsimp only)
      | (refine M.at_mem rfl ?_; first | (refine M.at_load 26 rfl ?_; first | (refine M.load_row_m HM rfl 26 _ rfl 0 _ _ _ rfl rfl (by kernel_rfl) (by kernel_rfl) ?_; go_simp)) | (refine M.at_store 26 rfl ?_; first | (refine M.store_row_m HM rfl 26 _ _ rfl 0 _ _ _ _ rfl rfl rfl (by kernel_rfl) rfl (by simp [Value.oneCell']) ?_; clear HM; intro w_ HM; (try simp only [M.nrm] at HM); go_simp)) | (refine M.at_alloc 26 rfl ?_; first | (refine M.alloc_m HM rfl rfl 26 rfl (.agg #[(.int .i64 0), (.int .u64 0), (.int .i64 0), (.int .i64 0), (.int .u64 0), (.bool false), (.bool false), (.bool false), (.bool false), (.int .i64 0)]) (by kernel_rfl) #[(.int .i64 0), (.int .u64 0), (.int .i64 0), (.int .i64 0), (.int .u64 0), (.bool false), (.bool false), (.bool false), (.bool false), (.int .i64 0)] rfl ?_; clear HM; intro g_ w_ HM; go_simp)) | ((fail_if_success (refine M.lit_t rfl ?_)); (fail_if_success (refine M.lit_f rfl ?_)); refine M.split_guard rfl rfl ?_ ?_ <;> (intro hg_; simp only [hg_]; try simp only [M.hgs] at hg_)))
      | (refine Mc.at_cmp _ rfl ?_; refine Mc.cmp_m rfl _ rfl _ _ _ rfl _ _ _ rfl rfl _ rfl ?_ ?_ <;> (intro hg_; try simp only [M.hgs] at hg_; first | (exfalso; first | omega | (simp at hg_; done)) | (go_simp)))
      | ((fail_if_success (refine M.lit_t rfl ?_)); (fail_if_success (refine M.lit_f rfl ?_)); refine M.split_guard rfl rfl ?_ ?_ <;> (intro hg_; simp only [hg_]; try simp only [M.hgs] at hg_)))
    all_goals
      go_ret
      exact ⟨by first | rfl | simp, HM.none.to_below⟩
  intro w hH
  have HM := Mem.start hH
  subst hfv
  go_enter Try.func33, Try.ntmps33
  go_wp2_with (first
    | (go_at_call 49; (with_reducible refine (M.call_pure (CD) HM).mono ?_); clear HM; rintro e w_ ⟨rfl, HM⟩; dsimp only)
    | (refine M.at_mem rfl ?_; first | (refine M.at_load 36 rfl ?_; first | (refine M.load_cell_m HM rfl 36 _ rfl 0 _ _ _ _ _ rfl rfl rfl (by kernel_rfl) (by kernel_rfl) ?_; go_simp) | (refine M.load_cell_m HM rfl 36 _ rfl 1 _ _ _ _ _ rfl rfl rfl (by kernel_rfl) (by kernel_rfl) ?_; go_simp)) | (refine M.at_store 36 rfl ?_; first | (refine M.store_cell_m HM rfl 36 _ _ rfl 0 gT 1 _ _ (.slice none 0 0) rfl rfl rfl (by kernel_rfl) rfl (by simp) ?_; clear HM; intro w_ HM; (try simp only [List.set_cons_zero, List.set_cons_succ, List.setIfInBounds_toArray] at HM); go_simp) | (refine M.store_cell_m HM rfl 36 _ _ rfl 0 _ _ _ _ _ rfl rfl rfl (by kernel_rfl) rfl (by simp) ?_; clear HM; intro w_ HM; (try simp only [M.nrm] at HM); go_simp) | (refine M.store_cell_m HM rfl 36 _ _ rfl 1 _ _ _ _ _ rfl rfl rfl (by kernel_rfl) rfl (by simp) ?_; clear HM; intro w_ HM; (try simp only [M.nrm] at HM); go_simp)) | ((fail_if_success (refine M.lit_t rfl ?_)); (fail_if_success (refine M.lit_f rfl ?_)); refine M.split_guard rfl rfl ?_ ?_ <;> (intro hg_; simp only [hg_]; try simp only [M.hgs] at hg_)))
    | (refine Mc.at_cmp _ rfl ?_; refine Mc.cmp_m rfl _ rfl _ _ _ rfl _ _ _ rfl rfl _ rfl ?_ ?_ <;> (intro hg_; try simp only [M.hgs] at hg_; first | (exfalso; first | omega | (simp at hg_; done)) | (go_simp)))
    | ((fail_if_success (refine M.lit_t rfl ?_)); (fail_if_success (refine M.lit_f rfl ?_)); refine M.split_guard rfl rfl ?_ ?_ <;> (intro hg_; simp only [hg_]; try simp only [M.hgs] at hg_)))
  all_goals
    go_ret
    exact ⟨_, _, rfl, ⟨by first | rfl | simp, rfl⟩, HM⟩
set_option maxHeartbeats 2000000 in
theorem Flush_all {most : Int} {l : List E} {gT : Nat} {T : Hp} (HT : TS most l gT T)  (h1 : l.length ≤ 1000) : Does Try.prog 40 #[.pointer (some ⟨gT, 0, none⟩)] T
    fun r L => r = .int .i64 ((l.length : Int) - (left (fun _ => true) l).length) ∧ TS most (left (fun _ => true) l) gT L := by
  obtain ⟨v, A, hA, rfl⟩ := HT
  rcases hA with ⟨rfl, rfl, rfl⟩ | ⟨g, cap, cur, rfl, h2, h3, h4, h5, rfl⟩
  · have CF := flushnil_all  _ rfl most gT
    intro w hH
    have HM := Mem.start hH
    go_enter Try.func40, Try.ntmps40
    go_wp2_with (first
      | (go_at_call 33; (with_reducible refine (M.Does.call (CF ) HM (perm_at 0 rfl)).mono ?_); clear HM; rintro e w_ ⟨v_, L_, rfl, ⟨rfl, rfl⟩, HM⟩; (try simp only [List.eraseIdx_cons_zero, List.eraseIdx_cons_succ, List.cons_append, List.nil_append] at HM); dsimp only)
      | ((fail_if_success (refine M.lit_t rfl ?_)); (fail_if_success (refine M.lit_f rfl ?_)); refine M.split_guard rfl rfl ?_ ?_ <;> (intro hg_; simp only [hg_]; try simp only [M.hgs] at hg_)))
    all_goals
      go_ret
      exact ⟨_, _, rfl, ⟨by first | rfl | simp [left], TS.nil most gT⟩, HM.take (A := [_])⟩
  · have CF := flush_all  (fun _ => true) (fun _ => rfl) most gT l g l.length cap cur h5 rfl h2 h3 h4 h1
    intro w hH
    have H3 := Lib.hid h3; have H2 := Lib.hid h2; clear h3 h2 h4 h5
    have HM := Mem.start hH
    generalize hn : l.length = n at CF HM H2
    have HN := Lib.hid hn; clear hn
    go_enter Try.func40, Try.ntmps40
    go_wp2_with (first
      | (go_at_call 33; (with_reducible refine (M.Does.call (CF ) HM (M.perm2 0 0 rfl rfl)).mono ?_); clear HM; rintro e w_ ⟨v_, L_, rfl, ⟨m_, cur_, hm1_, hm2_, rfl, hs_, hr_, rfl⟩, HM⟩; (try simp only [List.eraseIdx_cons_zero, List.eraseIdx_cons_succ, List.cons_append, List.nil_append] at HM); dsimp only)
      | ((fail_if_success (refine M.lit_t rfl ?_)); (fail_if_success (refine M.lit_f rfl ?_)); refine M.split_guard rfl rfl ?_ ?_ <;> (intro hg_; simp only [hg_]; try simp only [M.hgs] at hg_)))
    all_goals
      go_ret
      exact ⟨_, _, rfl, ⟨by first | rfl | (rw [hm1_]; rfl), TS.own hm1_ (Nat.le_trans hm2_ H2.out) H3.out hs_ hr_⟩, HM.take (A := [_, _])⟩
end Go.Proofs.Ytccbpcdepgnmgaa.Tg
