/- The law TlbPlays walked. -/
import Derived.Test.YtccbpcdepgnmgaaProg
import Derived.Test.YtccbpcdepgnmgaaUb
import Derived.Test.YtccbpcdepgnmgaaUd
namespace Go.Proofs.Ytccbpcdepgnmgaa.Uc
open Go.Proofs.Ytccbpcdepgnmgaa.Te (E)
open Go.RowKit Go.Proofs.Ytccbpcdepgnmgaa.G Go.Proofs.Ytccbpcdepgnmgaa.B Go.Proofs.Ytccbpcdepgnmgaa.M Go.Proofs.Ytccbpcdepgnmgaa.Mv Go.Proofs.Ytccbpcdepgnmgaa.Sl Go.Proofs.Ytccbpcdepgnmgaa.Sm Go.Proofs.Ytccbpcdepgnmgaa.Sn Go.Proofs.Ytccbpcdepgnmgaa.Ls Go.Proofs.Ytccbpcdepgnmgaa.Lt Go.Proofs.Ytccbpcdepgnmgaa.Lu Go.Proofs.Ytccbpcdepgnmgaa.Dr Go.Proofs.Ytccbpcdepgnmgaa.Ds Go.Proofs.Ytccbpcdepgnmgaa.Tp Go.Proofs.Ytccbpcdepgnmgaa.Tq Go.Proofs.Ytccbpcdepgnmgaa.Tt Go.Proofs.Ytccbpcdepgnmgaa.Tu Go.Proofs.Ytccbpcdepgnmgaa.Tw Go.Proofs.Ytccbpcdepgnmgaa.Tg Go.Proofs.Ytccbpcdepgnmgaa.Ua Go.Proofs.Ytccbpcdepgnmgaa.Ub Go.Proofs.Ytccbpcdepgnmgaa.Ud

set_option linter.unusedVariables false
set_option linter.unusedSimpArgs false
set_option maxRecDepth 100000
theorem lr_of_ls {l : List E} {v : Value} {A : Hp} (h : LS l v A) : LR 26 l v A := by
  rcases h with ⟨rfl, rfl, rfl⟩ | ⟨g, cap, cur, rfl, h1, h2, h3, h4, rfl⟩
  · exact .inl ⟨rfl, rfl, rfl⟩
  · refine .inr ⟨g, 0, cap, cur, by simp, h1, by simpa using h2, by simpa using h3, ?_, rfl⟩
    rw [Nat.zero_mul]
    exact h4
def ListRel (l : List E) (n : Nat) (T : Hp) (r : Value) (L : Hp) : Prop := ∃ p c A, r = .slice p n c ∧ n ≤ c ∧ LV 26 l p A ∧ L = A ++ T
theorem listv_any {most : Int} {l : List E} {gT n : Nat} {T : Hp} (HT : TS most l gT T) (hn : l.length = n) (h1 : n ≤ 1000) : Does Try.prog 16 #[.pointer (some ⟨gT, 0, none⟩)] T (ListRel l n T) :=
  weaken (list_any HT (by omega)) fun r L ⟨A, h1, h2⟩ => by
    obtain ⟨p, c, rfl, h3, h4⟩ := (lr_of_ls h1).read
    subst hn
    exact ⟨p, c, A, rfl, h3, h4, h2⟩
theorem perm_l (B T A : Hp) : (([] : Hp) ++ ((B ++ T) ++ A)).Perm (B ++ (A ++ T)) := by
  rw [List.nil_append, List.append_assoc]
  exact List.Perm.append_left B List.perm_append_comm
set_option maxHeartbeats 8000000 in
theorem same_any {most : Int} {l : List E} {gT : Nat} {T A : Hp} (HT : TS most l gT T) {p : Option Addr} {n c : Nat} (hV : LV 30 l p A) (hn : l.length = n) (hc : n ≤ c) (h1 : n ≤ 1000) :
    Does Try.prog 22 #[.pointer (some ⟨gT, 0, none⟩), .slice p n c] (T ++ A) (RIs (.bool true) (T ++ A)) := by
  have CL := listv_any HT hn h1
  unfold ListRel at CL
  have HV2 := Lib.hid hV; have HN := Lib.hid hn
  clear hV hn HT
  have hn1 : (n : Int) ≤ 1000 := by omega
  intro w hH
  have HM := Mem.start hH
  go_enter Try.func22, Try.ntmps22
  go_wp2_with (first
    | (go_big_skip)
    | (go_at_call 16; have HM_ : M.Mem _ _ ([] ++ (T ++ A)) _ := HM; (with_reducible refine (Go.Proofs.Ytccbpcdepgnmgaa.Ua.Does.mid [] _ CL HM_).mono ?_); clear HM HM_; rintro e w_ ⟨v_, L_, rfl, ⟨p1, c1, A1, rfl, hc1, hV1, rfl⟩, HM⟩; replace HM := HM.perm (Go.Proofs.Ytccbpcdepgnmgaa.Uc.perm_l _ _ _); dsimp only)
    | (refine M.at_mem rfl ?_; first | (refine M.at_load 26 rfl ?_; first | (refine M.load_row_m HM rfl 26 _ rfl 0 _ _ _ rfl rfl (by kernel_rfl) (by kernel_rfl) ?_; go_simp)) | (refine M.at_load 30 rfl ?_; first | (refine M.load_row_m HM rfl 30 _ rfl 0 _ _ _ rfl rfl (by kernel_rfl) (by kernel_rfl) ?_; go_simp)) | (refine M.at_store 26 rfl ?_; first | (refine M.store_row_m HM rfl 26 _ _ rfl 0 _ _ _ _ rfl rfl rfl (by kernel_rfl) rfl (by simp [Value.oneCell']) ?_; clear HM; intro w_ HM; (try simp only [M.nrm] at HM); go_simp)) | (refine M.at_alloc 26 rfl ?_; first | (refine M.alloc_m HM rfl rfl 26 rfl (.agg #[(.int .i64 0), (.int .u64 0), (.int .i64 0), (.int .i64 0), (.int .u64 0), (.bool false), (.bool false), (.bool false), (.bool false), (.int .i64 0)]) (by kernel_rfl) #[(.int .i64 0), (.int .u64 0), (.int .i64 0), (.int .i64 0), (.int .u64 0), (.bool false), (.bool false), (.bool false), (.bool false), (.int .i64 0)] rfl ?_; clear HM; intro g_ w_ HM; go_simp)) | ((fail_if_success (refine M.lit_t rfl ?_)); (fail_if_success (refine M.lit_f rfl ?_)); refine M.split_guard rfl rfl ?_ ?_ <;> (intro hg_; simp only [hg_]; try simp only [M.hgs] at hg_)))
    | (refine Mc.at_cmp _ rfl ?_; refine Mc.cmp_m rfl _ rfl _ _ _ rfl _ _ _ rfl rfl _ rfl ?_ ?_ <;> (intro hg_; try simp only [M.hgs] at hg_; first | (exfalso; first | omega | (simp at hg_; done)) | (go_simp)))
    | ((fail_if_success (refine M.lit_t rfl ?_)); (fail_if_success (refine M.lit_f rfl ?_)); refine M.split_guard rfl rfl ?_ ?_ <;> (intro hg_; simp only [hg_]; try simp only [M.hgs] at hg_)))
  have HV1 := Lib.hid hV1
  clear hV1 CL
  go_loopw [17] (fun v wr => ∃ j : Nat, j ≤ n ∧ v = .int .i64 j ∧ Mem w _ (A1 ++ (A ++ T)) wr) (fun v _ => n - (intOf v).toNat)
  case atStart => exact ⟨0, by omega, rfl, HM⟩
  case round =>
    clear HM
    obtain ⟨j, jR, rfl, HM⟩ := hrel
    by_cases hj : j < n
    · obtain ⟨x, hx⟩ : ∃ x, l[j]? = some x := ⟨_, List.getElem?_eq_getElem (by have := HN.out; omega)⟩
      have CLI := fun w => listed_any x w
      have hj1 : (j : Int) < n := by omega
      rcases HV1.out with ⟨-, he, -⟩ | ⟨g1, o1, cur1, rfl, hR1, rfl⟩
      · rw [he] at hx; simp at hx
      rcases HV2.out with ⟨-, he, -⟩ | ⟨g2, o2, cur2, rfl, hR2, rfl⟩
      · rw [he] at hx; simp at hx
      have hg1 := hR1.get hx
      have hf1 := hR1.fit (List.getElem?_eq_some_iff.1 hx).1
      have hg2 := hR2.get hx
      have hf2 := hR2.fit (List.getElem?_eq_some_iff.1 hx).1
      have hb : eqB .neq (decide (x = x)) = some false := by simp [eqB]
      have HB := Lib.hid hb; have HG1 := Lib.hid (show _ = x.cells from hg1); have HG2 := Lib.hid (show _ = x.cells from hg2); have HF1 := Lib.hid hf1; have HF2 := Lib.hid hf2
      clear hb hg1 hg2 hf1 hf2 hR1 hR2 hx
      simp only [List.cons_append, List.nil_append] at HM
      go_wp2_with (first
        | (go_big_skip)
        | (refine Sl.at_indexAddr 36 rfl ?_; refine Sl.indexAddr_m rfl _ rfl 36 rfl 26 (by kernel_rfl) 10 (by kernel_rfl) g1 (o1) (n) (c1) rfl .i64 (j : Int) rfl (by omega) (by omega) (o1 + j * 10) (by omega) ?_; go_simp)
        | (go_at_call 8; (with_reducible refine (M.call_pure (CLI) HM).mono ?_); clear HM; rintro e w_ ⟨rfl, HM⟩; dsimp only)
        | (refine M.at_reg 7 ?_; refine Mq.region_m (id := 7) HM (by kernel_rfl) (by kernel_rfl) ?_; (repeat (any_goals (first | go_big_quiet_skip | (refine Sm.qat_indexAddr 51 rfl ?_; go_big_quiet_want; refine Sm.quiet_indexAddr_own 51 rfl 30 (by kernel_rfl) 10 (by kernel_rfl) g2 (o2) (n) (c) rfl .i64 (j : Int) rfl (by omega) (by omega) (o2 + j * 10) (by omega) ?_; simp only [Act.put, List.setIfInBounds_toArray, List.set_cons_zero, List.set_cons_succ]; go_big_quiet_on) | (refine Ls.qat_bin .neq rfl ?_; go_big_quiet_want; refine Ls.quiet_eqR (T := E) rfl Go.Proofs.Ytccbpcdepgnmgaa.Ua.eqE2 (e := x) (f := x) rfl rfl (b := false) (HB.out) ?_; simp only [Act.put, List.setIfInBounds_toArray, List.set_cons_zero, List.set_cons_succ]; go_big_quiet_on) | (refine Mq.qat_load 26 rfl ?_; go_big_quiet_want; first | (refine Sn.quiet_load_part 30 _ rfl 2 g2 (o2 + j * 10) 10 _ cur2 rfl rfl HF2.out x.cells HG2.out (by kernel_rfl) (by kernel_rfl) ?_; simp only [Act.put, List.setIfInBounds_toArray, List.set_cons_zero, List.set_cons_succ]; go_big_quiet_on) | (refine Mq.quiet_load_row 26 _ rfl 0 _ _ _ rfl rfl (by kernel_rfl) (by kernel_rfl) ?_; simp only [Act.put, List.setIfInBounds_toArray, List.set_cons_zero, List.set_cons_succ]; go_big_quiet_on) | (refine Mq.quiet_load_row 26 _ rfl 1 _ _ _ rfl rfl (by kernel_rfl) (by kernel_rfl) ?_; simp only [Act.put, List.setIfInBounds_toArray, List.set_cons_zero, List.set_cons_succ]; go_big_quiet_on) | (refine Mq.quiet_load_row 26 _ rfl 2 _ _ _ rfl rfl (by kernel_rfl) (by kernel_rfl) ?_; simp only [Act.put, List.setIfInBounds_toArray, List.set_cons_zero, List.set_cons_succ]; go_big_quiet_on) | (refine Mq.quiet_load_row 26 _ rfl 3 _ _ _ rfl rfl (by kernel_rfl) (by kernel_rfl) ?_; simp only [Act.put, List.setIfInBounds_toArray, List.set_cons_zero, List.set_cons_succ]; go_big_quiet_on)) | (refine Mq.qat_load 30 rfl ?_; go_big_quiet_want; first | (refine Sn.quiet_load_part 30 _ rfl 2 g2 (o2 + j * 10) 10 _ cur2 rfl rfl HF2.out x.cells HG2.out (by kernel_rfl) (by kernel_rfl) ?_; simp only [Act.put, List.setIfInBounds_toArray, List.set_cons_zero, List.set_cons_succ]; go_big_quiet_on) | (refine Mq.quiet_load_row 30 _ rfl 0 _ _ _ rfl rfl (by kernel_rfl) (by kernel_rfl) ?_; simp only [Act.put, List.setIfInBounds_toArray, List.set_cons_zero, List.set_cons_succ]; go_big_quiet_on) | (refine Mq.quiet_load_row 30 _ rfl 1 _ _ _ rfl rfl (by kernel_rfl) (by kernel_rfl) ?_; simp only [Act.put, List.setIfInBounds_toArray, List.set_cons_zero, List.set_cons_succ]; go_big_quiet_on) | (refine Mq.quiet_load_row 30 _ rfl 2 _ _ _ rfl rfl (by kernel_rfl) (by kernel_rfl) ?_; simp only [Act.put, List.setIfInBounds_toArray, List.set_cons_zero, List.set_cons_succ]; go_big_quiet_on) | (refine Mq.quiet_load_row 30 _ rfl 3 _ _ _ rfl rfl (by kernel_rfl) (by kernel_rfl) ?_; simp only [Act.put, List.setIfInBounds_toArray, List.set_cons_zero, List.set_cons_succ]; go_big_quiet_on)) | ((fail_if_success (refine Mq.qlit_t rfl ?_)); (fail_if_success (refine Mq.qlit_f rfl ?_)); refine Mq.qsplit rfl rfl ?_ ?_ <;> (intro hg_; simp only [hg_]; try simp only [M.hgs] at hg_)) | go_big_quiet_step (first | (go_at_call 8; with_reducible exact Mq.quiet_call_m (CLI _)) | exact rfl)))); all_goals (refine Go.Proofs.Ytccbpcdepgnmgaa.G.wpQuiet_end ?_; clear HM; intro w_ HM))
        | (refine M.at_mem rfl ?_; first | (refine M.at_load 26 rfl ?_; first | (refine M.load_part_m HM rfl 26 _ rfl 0 g1 (o1 + j * 10) 10 _ cur1 rfl rfl HF1.out x.cells HG1.out (by kernel_rfl) (by kernel_rfl) ?_; go_simp) | (refine M.load_row_m HM rfl 26 _ rfl 0 _ _ _ rfl rfl (by kernel_rfl) (by kernel_rfl) ?_; go_simp) | (refine M.load_row_m HM rfl 26 _ rfl 1 _ _ _ rfl rfl (by kernel_rfl) (by kernel_rfl) ?_; go_simp) | (refine M.load_row_m HM rfl 26 _ rfl 2 _ _ _ rfl rfl (by kernel_rfl) (by kernel_rfl) ?_; go_simp) | (refine M.load_row_m HM rfl 26 _ rfl 3 _ _ _ rfl rfl (by kernel_rfl) (by kernel_rfl) ?_; go_simp)) | (refine M.at_load 30 rfl ?_; first | (refine M.load_part_m HM rfl 26 _ rfl 0 g1 (o1 + j * 10) 10 _ cur1 rfl rfl HF1.out x.cells HG1.out (by kernel_rfl) (by kernel_rfl) ?_; go_simp) | (refine M.load_row_m HM rfl 30 _ rfl 0 _ _ _ rfl rfl (by kernel_rfl) (by kernel_rfl) ?_; go_simp) | (refine M.load_row_m HM rfl 30 _ rfl 1 _ _ _ rfl rfl (by kernel_rfl) (by kernel_rfl) ?_; go_simp) | (refine M.load_row_m HM rfl 30 _ rfl 2 _ _ _ rfl rfl (by kernel_rfl) (by kernel_rfl) ?_; go_simp) | (refine M.load_row_m HM rfl 30 _ rfl 3 _ _ _ rfl rfl (by kernel_rfl) (by kernel_rfl) ?_; go_simp)) | (refine M.at_store 26 rfl ?_; first | (refine M.store_row_m HM rfl 26 _ _ rfl 0 _ _ _ x.cells rfl rfl rfl (by kernel_rfl) rfl (Rec.one (T := E) x) ?_; clear HM; intro w_ HM; (try simp only [List.set_cons_zero, List.set_cons_succ] at HM); go_simp) | (refine M.store_row_m HM rfl 26 _ _ rfl 0 _ _ _ _ rfl rfl rfl (by kernel_rfl) rfl (by simp [Value.oneCell']) ?_; clear HM; intro w_ HM; (try simp only [M.nrm] at HM); go_simp) | (refine M.store_row_m HM rfl 26 _ _ rfl 1 _ _ _ _ rfl rfl rfl (by kernel_rfl) rfl (by simp [Value.oneCell']) ?_; clear HM; intro w_ HM; (try simp only [M.nrm] at HM); go_simp) | (refine M.store_row_m HM rfl 26 _ _ rfl 2 _ _ _ _ rfl rfl rfl (by kernel_rfl) rfl (by simp [Value.oneCell']) ?_; clear HM; intro w_ HM; (try simp only [M.nrm] at HM); go_simp) | (refine M.store_row_m HM rfl 26 _ _ rfl 3 _ _ _ _ rfl rfl rfl (by kernel_rfl) rfl (by simp [Value.oneCell']) ?_; clear HM; intro w_ HM; (try simp only [M.nrm] at HM); go_simp)) | (refine M.at_alloc 26 rfl ?_; first | (refine M.alloc_m HM rfl rfl 26 rfl (.agg Te.E.zero.cells) (by kernel_rfl) Te.E.zero.cells rfl ?_; clear HM; intro gM_ w_ HM; go_simp) | (refine M.alloc_m HM rfl rfl 26 rfl (.agg #[(.int .i64 0), (.int .u64 0), (.int .i64 0), (.int .i64 0), (.int .u64 0), (.bool false), (.bool false), (.bool false), (.bool false), (.int .i64 0)]) (by kernel_rfl) #[(.int .i64 0), (.int .u64 0), (.int .i64 0), (.int .i64 0), (.int .u64 0), (.bool false), (.bool false), (.bool false), (.bool false), (.int .i64 0)] rfl ?_; clear HM; intro g_ w_ HM; go_simp)) | ((fail_if_success (refine M.lit_t rfl ?_)); (fail_if_success (refine M.lit_f rfl ?_)); refine M.split_guard rfl rfl ?_ ?_ <;> (intro hg_; simp only [hg_]; try simp only [M.hgs] at hg_)))
        | (refine Mc.at_cmp _ rfl ?_; refine Mc.cmp_m rfl _ rfl _ _ _ rfl _ _ _ rfl rfl _ rfl ?_ ?_ <;> (intro hg_; try simp only [M.hgs] at hg_; first | (exfalso; first | omega | (simp at hg_; done)) | (go_simp)))
        | ((fail_if_success (refine M.lit_t rfl ?_)); (fail_if_success (refine M.lit_f rfl ?_)); refine M.split_guard rfl rfl ?_ ?_ <;> (intro hg_; simp only [hg_]; try simp only [M.hgs] at hg_)))
      all_goals
        go_roundw
        case rel => exact ⟨j + 1, by omega, by first | rfl | (refine congrArg (fun z => Value.int .i64 z) ?_; omega), HM.drop (A := [_])⟩
        case measure => first | (simp [intOf]; done) | (simp [intOf]; omega)
    · obtain rfl : j = n := by omega
      go_wp2_with (first
        | (go_big_skip)
        | (refine M.at_mem rfl ?_; first | (refine M.at_load 26 rfl ?_; first | (refine M.load_row_m HM rfl 26 _ rfl 0 _ _ _ rfl rfl (by kernel_rfl) (by kernel_rfl) ?_; go_simp)) | (refine M.at_load 30 rfl ?_; first | (refine M.load_row_m HM rfl 30 _ rfl 0 _ _ _ rfl rfl (by kernel_rfl) (by kernel_rfl) ?_; go_simp)) | (refine M.at_store 26 rfl ?_; first | (refine M.store_row_m HM rfl 26 _ _ rfl 0 _ _ _ _ rfl rfl rfl (by kernel_rfl) rfl (by simp [Value.oneCell']) ?_; clear HM; intro w_ HM; (try simp only [M.nrm] at HM); go_simp)) | (refine M.at_alloc 26 rfl ?_; first | (refine M.alloc_m HM rfl rfl 26 rfl (.agg #[(.int .i64 0), (.int .u64 0), (.int .i64 0), (.int .i64 0), (.int .u64 0), (.bool false), (.bool false), (.bool false), (.bool false), (.int .i64 0)]) (by kernel_rfl) #[(.int .i64 0), (.int .u64 0), (.int .i64 0), (.int .i64 0), (.int .u64 0), (.bool false), (.bool false), (.bool false), (.bool false), (.int .i64 0)] rfl ?_; clear HM; intro g_ w_ HM; go_simp)) | ((fail_if_success (refine M.lit_t rfl ?_)); (fail_if_success (refine M.lit_f rfl ?_)); refine M.split_guard rfl rfl ?_ ?_ <;> (intro hg_; simp only [hg_]; try simp only [M.hgs] at hg_)))
        | (refine Mc.at_cmp _ rfl ?_; refine Mc.cmp_m rfl _ rfl _ _ _ rfl _ _ _ rfl rfl _ rfl ?_ ?_ <;> (intro hg_; try simp only [M.hgs] at hg_; first | (exfalso; first | omega | (simp at hg_; done)) | (go_simp)))
        | ((fail_if_success (refine M.lit_t rfl ?_)); (fail_if_success (refine M.lit_f rfl ?_)); refine M.split_guard rfl rfl ?_ ?_ <;> (intro hg_; simp only [hg_]; try simp only [M.hgs] at hg_)))
      all_goals
        go_ret
        exact ⟨_, _, rfl, ⟨rfl, rfl⟩, HM.drop.perm List.perm_append_comm⟩
theorem addL_len {most : Int} {l : List E} {e : E} (hl : (l.length : Int) ≤ most) : ((addL most l e).length : Int) ≤ most := by
  unfold addL
  split
  · exact hl
  · split
    · rename_i h; rw [List.length_append, List.length_singleton]; omega
    · rw [List.length_eraseIdx, List.length_append, List.length_singleton]; simp; exact hl
theorem addL_all {most : Int} {l : List E} {e : E} {Q : E → Prop} (hl : ∀ x ∈ l, Q x) (he : Q e) : ∀ x ∈ addL most l e, Q x := by
  have h2 : ∀ x ∈ l ++ [e], Q x := by
    intro x hx
    rcases List.mem_append.1 hx with h | h
    · exact hl x h
    · rw [List.mem_singleton] at h; subst h; exact he
  unfold addL
  split
  · exact hl
  · split
    · exact h2
    · exact fun x hx => h2 x (List.mem_of_mem_eraseIdx hx)
/-- A step: the buffer and the document's list are the same behind it. -/
theorem step_any {most : Int} (h0 : 1 ≤ most) (h9 : most ≤ 64) {l : List E} {gT : Nat} {T A : Hp} (HT : TS most l gT T) {p : Option Addr} {n c : Nat} (hA : LR 30 l (.slice p n c) A) (hn : l.length = n) (hl : (l.length : Int) ≤ most) (hok : ∀ k ∈ l, rightE k = true)
    (kd nn : Int) (e : E) {w0 : World} (hs : e.ok) {u : World} (HM : Mem w0 [] (T ++ A) u) :
    Calls Try.prog 21 #[.pointer (some ⟨gT, 0, none⟩), .int .i64 most, .slice p n c, .agg (O12.cells ⟨kd, nn, e⟩)] u fun e u' => ∃ (l' : List E), ((l'.length : Int) ≤ most ∧ ∀ k ∈ l', rightE k = true) ∧ StepOut w0 most gT l' e u' := by
  obtain ⟨ea, ev, el, ek, eo, eu, ew, ee, ed, et⟩ := e
  obtain ⟨v0, v1, t0, t1⟩ := hs
  dsimp only at v0 v1 t0 t1
  simp only [O12.cells]
  have flen : ∀ q : E → Bool, ((l.filter q).length : Int) ≤ most := fun q => by have := List.length_filter_le q l; omega
  have fok : ∀ q : E → Bool, ∀ k ∈ l.filter q, rightE k = true := fun q k hk => hok k (List.mem_filter.1 hk).1
  by_cases k1 : kd = 1
  · subst k1
    by_cases hr : rightE (⟨ea, ev, el, ek, eo, eu, ew, ee, ed, et⟩ : E) = true
    · exact (step_1 h0 h9 HT hA hn hl hok ea ev el ek eo et nn eu ew ee ed v0 v1 t0 t1 hr HM).mono fun e u' h => ⟨_, ⟨addL_len hl, addL_all hok hr⟩, h⟩
    · exact (step_1n h0 h9 HT hA hn hl hok ea ev el ek eo et nn eu ew ee ed v0 v1 t0 t1 (by simpa using hr) HM).mono fun e u' h => ⟨_, ⟨hl, hok⟩, h⟩
  by_cases k2 : kd = 2
  · subst k2
    exact (step_2 h0 h9 HT hA hn hl hok ea ev el ek eo et nn eu ew ee ed v0 v1 t0 t1 HM).mono fun e u' h => ⟨_, ⟨hl, hok⟩, h⟩
  by_cases k3 : kd = 3
  · subst k3
    by_cases h4 : nn < 0 ∨ (n : Int) ≤ nn
    · exact (step_3n h0 h9 HT hA hn hl hok ea ev el ek eo et nn eu ew ee ed v0 v1 t0 t1 h4 HM).mono fun e u' h => ⟨_, ⟨hl, hok⟩, h⟩
    · obtain ⟨i, rfl⟩ : ∃ i : Nat, nn = i := ⟨nn.toNat, by omega⟩
      refine (step_3 h0 h9 HT hA hn hl hok ea ev el ek eo et eu ew ee ed v0 v1 t0 t1 i (by omega) HM).mono fun e u' h => ⟨_, ⟨?_, ?_⟩, h⟩
      · have := List.length_eraseIdx_le l i; omega
      · exact fun k hk => hok k (List.mem_of_mem_eraseIdx hk)
  by_cases k4 : kd = 4
  · subst k4
    exact (step_4 h0 h9 HT hA hn hl hok ea ev el ek eo et nn eu ew ee ed v0 v1 t0 t1 HM).mono fun e u' h => ⟨_, ⟨flen _, fok _⟩, h⟩
  by_cases k5 : kd = 5
  · subst k5
    by_cases a0 : ea < 0
    · exact (step_5n h0 h9 HT hA hn hl hok ea ev el ek eo et nn eu ew ee ed v0 v1 t0 t1 a0 HM).mono fun e u' h => ⟨_, ⟨hl, hok⟩, h⟩
    · exact (step_5 h0 h9 HT hA hn hl hok ea ev el ek eo et nn eu ew ee ed v0 v1 t0 t1 (by omega) HM).mono fun e u' h => ⟨_, ⟨flen _, fok _⟩, h⟩
  by_cases k6 : kd = 6
  · subst k6
    exact (step_6 h0 h9 HT hA hn hl hok ea ev el ek eo et nn eu ew ee ed v0 v1 t0 t1 HM).mono fun e u' h => ⟨_, ⟨by simp; omega, fun k hk => by cases hk⟩, h⟩
  exact (step_0 h0 h9 HT hA hn hl hok ea ev el ek eo et nn kd eu ew ee ed v0 v1 t0 t1 k1 k2 k3 k4 k5 k6 HM).mono fun e u' h => ⟨_, ⟨hl, hok⟩, h⟩
set_option maxHeartbeats 2000000 in
theorem law_long (most : Int) (ao : Option Addr) (N c : Nat) (h : 80 < N) (w : World) : Calls Try.prog 6 #[.int .i64 most, .slice ao N c] w fun e w' => e = .returned (.bool true) ∧ Below w.heap.size w w' := by
  have CA := anchor_any
  have h' : (80 : Int) < N := by omega
  have HM := Mem.nil w
  go_enter Try.func6, Try.ntmps6
  go_wp2_with (first
    | (go_big_skip)
    | (go_at_call 7; (with_reducible refine (M.call_pure (CA) HM).mono ?_); clear HM; rintro e w_ ⟨rfl, HM⟩; dsimp only)
    | (refine M.at_mem rfl ?_; first | (refine M.at_load 53 rfl ?_; first | (refine M.load_row_m HM rfl 53 _ rfl 0 _ _ _ rfl rfl (by kernel_rfl) (by kernel_rfl) ?_; go_simp)) | (refine M.at_store 53 rfl ?_; first | (refine M.store_row_m HM rfl 53 _ _ rfl 0 _ _ _ _ rfl rfl rfl (by kernel_rfl) rfl (by simp [Value.oneCell']) ?_; clear HM; intro w_ HM; (try simp only [M.nrm] at HM); go_simp)) | (refine M.at_alloc 53 rfl ?_; first | (refine M.alloc_m HM rfl rfl 53 rfl (.agg #[(.int .i64 0), (.int .i64 0), (.int .i64 0), (.int .u64 0), (.int .i64 0), (.int .i64 0), (.int .u64 0), (.bool false), (.bool false), (.bool false), (.bool false), (.int .i64 0)]) (by kernel_rfl) #[(.int .i64 0), (.int .i64 0), (.int .i64 0), (.int .u64 0), (.int .i64 0), (.int .i64 0), (.int .u64 0), (.bool false), (.bool false), (.bool false), (.bool false), (.int .i64 0)] rfl ?_; clear HM; intro g_ w_ HM; go_simp)) | ((fail_if_success (refine M.lit_t rfl ?_)); (fail_if_success (refine M.lit_f rfl ?_)); refine M.split_guard rfl rfl ?_ ?_ <;> (intro hg_; simp only [hg_]; try simp only [M.hgs] at hg_)))
    | (refine Mc.at_cmp _ rfl ?_; refine Mc.cmp_m rfl _ rfl _ _ _ rfl _ _ _ rfl rfl _ rfl ?_ ?_ <;> (intro hg_; try simp only [M.hgs] at hg_; first | (exfalso; first | omega | (simp at hg_; done)) | (go_simp)))
    | ((fail_if_success (refine M.lit_t rfl ?_)); (fail_if_success (refine M.lit_f rfl ?_)); refine M.split_guard rfl rfl ?_ ?_ <;> (intro hg_; simp only [hg_]; try simp only [M.hgs] at hg_)))
  all_goals
    go_ret
    exact ⟨by first | rfl | simp, HM.none.to_below⟩
set_option maxHeartbeats 2000000 in
theorem law_most (most : Int) (ao : Option Addr) (N c : Nat) (h : N ≤ 80) (hm : most < 1 ∨ 64 < most) (w : World) : Calls Try.prog 6 #[.int .i64 most, .slice ao N c] w fun e w' => e = .returned (.bool true) ∧ Below w.heap.size w w' := by
  have CA := anchor_any
  have CN := fun w => new_no most hm w
  have h' : (N : Int) ≤ 80 := by omega
  rcases hm with hm | hm
  all_goals
    have HM := Mem.nil w
    go_enter Try.func6, Try.ntmps6
    go_wp2_with (first
      | (go_big_skip)
      | (go_at_call 7; (with_reducible refine (M.call_pure (CA) HM).mono ?_); clear HM; rintro e w_ ⟨rfl, HM⟩; dsimp only)
      | (go_at_call 13; (with_reducible refine (M.call_pure (CN) HM).mono ?_); clear HM; rintro e w_ ⟨rfl, HM⟩; dsimp only)
      | (refine M.at_mem rfl ?_; first | (refine M.at_load 53 rfl ?_; first | (refine M.load_row_m HM rfl 53 _ rfl 0 _ _ _ rfl rfl (by kernel_rfl) (by kernel_rfl) ?_; go_simp)) | (refine M.at_store 53 rfl ?_; first | (refine M.store_row_m HM rfl 53 _ _ rfl 0 _ _ _ _ rfl rfl rfl (by kernel_rfl) rfl (by simp [Value.oneCell']) ?_; clear HM; intro w_ HM; (try simp only [M.nrm] at HM); go_simp)) | (refine M.at_alloc 53 rfl ?_; first | (refine M.alloc_m HM rfl rfl 53 rfl (.agg #[(.int .i64 0), (.int .i64 0), (.int .i64 0), (.int .u64 0), (.int .i64 0), (.int .i64 0), (.int .u64 0), (.bool false), (.bool false), (.bool false), (.bool false), (.int .i64 0)]) (by kernel_rfl) #[(.int .i64 0), (.int .i64 0), (.int .i64 0), (.int .u64 0), (.int .i64 0), (.int .i64 0), (.int .u64 0), (.bool false), (.bool false), (.bool false), (.bool false), (.int .i64 0)] rfl ?_; clear HM; intro g_ w_ HM; go_simp)) | ((fail_if_success (refine M.lit_t rfl ?_)); (fail_if_success (refine M.lit_f rfl ?_)); refine M.split_guard rfl rfl ?_ ?_ <;> (intro hg_; simp only [hg_]; try simp only [M.hgs] at hg_)))
      | (refine Mc.at_cmp _ rfl ?_; refine Mc.cmp_m rfl _ rfl _ _ _ rfl _ _ _ rfl rfl _ rfl ?_ ?_ <;> (intro hg_; try simp only [M.hgs] at hg_; first | (exfalso; first | omega | (simp at hg_; done)) | (go_simp)))
      | ((fail_if_success (refine M.lit_t rfl ?_)); (fail_if_success (refine M.lit_f rfl ?_)); refine M.split_guard rfl rfl ?_ ?_ <;> (intro hg_; simp only [hg_]; try simp only [M.hgs] at hg_)))
    all_goals
      go_ret
      exact ⟨by first | rfl | simp, HM.none.to_below⟩
set_option maxHeartbeats 16000000 in
theorem law_in (most : Int) (m0 : 1 ≤ most) (m9 : most ≤ 64) (ao : Option Addr) (N c : Nat) (hN : N ≤ 80) (es : Nat → O12) (w : World)
    (hA : ∀ i, i < N → (es i).e.ok ∧ ∃ a, ao = some a ∧ ∀ j v, (es i).cells.toList[j]? = some v → w.cell? (a.add (i * 12 + j)) = some v) : Calls Try.prog 6 #[.int .i64 most, .slice ao N c] w fun e w' => e = .returned (.bool true) ∧ Below w.heap.size w w' := by
  have CA := anchor_any
  have CN := fun w => new_ok most m0 m9 w
  have HA := Lib.hid hA; clear hA
  have i3 : (N : Int) ≤ 80 := by omega
  have HM := Mem.nil w
  go_enter Try.func6, Try.ntmps6
  go_wp2_with (first
    | (go_big_skip)
    | (go_at_call 13; (with_reducible refine (Sm.new_call HM (CN _)).mono ?_); clear HM; rintro e w_ ⟨v_, L_, rfl, ⟨gT_, rfl, rfl⟩, HM⟩; (try simp only [List.append_nil] at HM); dsimp only)
    | (go_at_call 7; (with_reducible refine (M.call_pure (CA) HM).mono ?_); clear HM; rintro e w_ ⟨rfl, HM⟩; dsimp only)
    | (refine M.at_mem rfl ?_; first | (refine M.at_load 53 rfl ?_; first | (refine M.load_row_m HM rfl 53 _ rfl 0 _ _ _ rfl rfl (by kernel_rfl) (by kernel_rfl) ?_; go_simp)) | (refine M.at_store 53 rfl ?_; first | (refine M.store_row_m HM rfl 53 _ _ rfl 0 _ _ _ _ rfl rfl rfl (by kernel_rfl) rfl (by simp [Value.oneCell']) ?_; clear HM; intro w_ HM; (try simp only [M.nrm] at HM); go_simp)) | (refine M.at_alloc 53 rfl ?_; first | (refine M.alloc_m HM rfl rfl 53 rfl (.agg #[(.int .i64 0), (.int .i64 0), (.int .i64 0), (.int .u64 0), (.int .i64 0), (.int .i64 0), (.int .u64 0), (.bool false), (.bool false), (.bool false), (.bool false), (.int .i64 0)]) (by kernel_rfl) #[(.int .i64 0), (.int .i64 0), (.int .i64 0), (.int .u64 0), (.int .i64 0), (.int .i64 0), (.int .u64 0), (.bool false), (.bool false), (.bool false), (.bool false), (.int .i64 0)] rfl ?_; clear HM; intro g_ w_ HM; go_simp)) | ((fail_if_success (refine M.lit_t rfl ?_)); (fail_if_success (refine M.lit_f rfl ?_)); refine M.split_guard rfl rfl ?_ ?_ <;> (intro hg_; simp only [hg_]; try simp only [M.hgs] at hg_)))
    | (refine Mc.at_cmp _ rfl ?_; refine Mc.cmp_m rfl _ rfl _ _ _ rfl _ _ _ rfl rfl _ rfl ?_ ?_ <;> (intro hg_; try simp only [M.hgs] at hg_; first | (exfalso; first | omega | (simp at hg_; done)) | (go_simp)))
    | ((fail_if_success (refine M.lit_t rfl ?_)); (fail_if_success (refine M.lit_f rfl ?_)); refine M.split_guard rfl rfl ?_ ?_ <;> (intro hg_; simp only [hg_]; try simp only [M.hgs] at hg_)))
  clear CN CA
  have HT := TS.nil most gT_
  go_loopw [7, 41] (fun lw iv wr => ∃ (i : Nat) (l : List E) (vl : Value) (T A : Hp), i ≤ N ∧ iv = .int .i64 i ∧ lw = vl ∧ TS most l gT_ T ∧ LR 30 l vl A ∧ (l.length : Int) ≤ most ∧ (∀ k ∈ l, rightE k = true) ∧ Mem w [] (T ++ A) wr) (fun _ v _ => N - (intOf v).toNat)
  case atStart => exact ⟨0, [], _, _, [], by omega, rfl, rfl, HT, LR.nil _, by simp; omega, (fun k hk => by cases hk), by simpa using HM⟩
  case round =>
    clear HM HT
    obtain ⟨i, l, vl, T, A, iR, rfl, rfl, HT, hL, hl, hok, HM⟩ := hrel
    by_cases hlt : i < N
    · obtain ⟨ho, a, rfl, hc⟩ := HA.out i hlt
      have hi1 : (i : Int) < N := by omega
      obtain ⟨p, c0, rfl, hc0, hV⟩ := LR.shown hL rfl
      generalize hx : es i = x at ho hc
      obtain ⟨kd, nn, e⟩ := x
      have CS := fun (u : World) (hm : Mem w [] (T ++ A) u) => step_any m0 m9 HT hL rfl hl hok kd nn e ho hm
      obtain ⟨ea, ev, el, ek, eo, eu, ew, ee, ed, et⟩ := e
      simp only [O12.cells] at hc CS
      have HC := Lib.hid hc
      clear hc hV hx
      generalize l.length = n at CS hc0
      have CSH := Lib.hid CS
      clear CS HT hL hl hok ho
      go_wp2_with (first
        | (go_big_skip)
        | (refine Sl.at_indexAddr 50 rfl ?_; refine Sm.indexAddr_arg_m rfl _ rfl 50 rfl 53 (by kernel_rfl) 12 (by kernel_rfl) a (N) (c) rfl .i64 (i : Int) rfl (by omega) (by omega) (i * 12) (by omega) ?_; go_simp)
        | (go_at_call 21; (with_reducible refine (CSH.out _ (HM.drop (A := [_]))).mono ?_); clear HM; rintro e w_ ⟨l2, ⟨hlen2, hok2⟩, v2, T2, A2, rfl, HT2, HL2, HM⟩; obtain ⟨n2, hn2⟩ : ∃ n, l2.length = n := ⟨_, rfl⟩; have hlen3 : (n2 : Int) ≤ most := (by rw [← hn2]; exact hlen2); have hle2 : n2 ≤ 1000 := (by omega); obtain ⟨p2, c2, rfl, hc2, hV2⟩ := Go.Proofs.Ytccbpcdepgnmgaa.Ub.LR.shown HL2 hn2; dsimp only)
        | (go_at_call 22; have HM_ : M.Mem _ _ ([] ++ (T2 ++ A2)) _ := HM; (with_reducible refine (M.Does.tail _ (Go.Proofs.Ytccbpcdepgnmgaa.Uc.same_any HT2 hV2 hn2 hc2 hle2) HM_).mono ?_); clear HM HM_; rintro e w_ ⟨v_, L_, rfl, ⟨rfl, rfl⟩, HM⟩; (try simp only [List.nil_append] at HM); dsimp only)
        | (refine M.at_mem rfl ?_; first | (refine M.at_load 53 rfl ?_; first | (refine Sm.load_struct_arg_m HM rfl 53 _ rfl (a.add (i * 12)) rfl (#[.int .i64 kd, .int .i64 nn, .int .i64 ea, .int .u64 ev, .int .i64 el, .int .i64 ek, .int .u64 eo, .bool eu, .bool ew, .bool ee, .bool ed, .int .i64 et]) (fun j v hj => by rw [add_add]; exact HC.out j v hj) (by simp) (by kernel_rfl) (by kernel_rfl) ?_; go_simp) | (refine M.load_row_m HM rfl 53 _ rfl 0 _ _ _ rfl rfl (by kernel_rfl) (by kernel_rfl) ?_; go_simp) | (refine M.load_row_m HM rfl 53 _ rfl 1 _ _ _ rfl rfl (by kernel_rfl) (by kernel_rfl) ?_; go_simp)) | (refine M.at_store 53 rfl ?_; first | (refine M.store_row_m HM rfl 53 _ _ rfl 0 _ _ _ (#[.int .i64 kd, .int .i64 nn, .int .i64 ea, .int .u64 ev, .int .i64 el, .int .i64 ek, .int .u64 eo, .bool eu, .bool ew, .bool ee, .bool ed, .int .i64 et]) rfl rfl rfl (by kernel_rfl) rfl (by simp [Value.oneCell']) ?_; clear HM; intro w_ HM; (try simp only [List.set_cons_zero, List.set_cons_succ] at HM); go_simp) | (refine M.store_row_m HM rfl 53 _ _ rfl 0 _ _ _ _ rfl rfl rfl (by kernel_rfl) rfl (by simp [Value.oneCell']) ?_; clear HM; intro w_ HM; (try simp only [M.nrm] at HM); go_simp) | (refine M.store_row_m HM rfl 53 _ _ rfl 1 _ _ _ _ rfl rfl rfl (by kernel_rfl) rfl (by simp [Value.oneCell']) ?_; clear HM; intro w_ HM; (try simp only [M.nrm] at HM); go_simp)) | (refine M.at_alloc 53 rfl ?_; first | (refine M.alloc_m HM rfl rfl 53 rfl (.agg (O12.cells ⟨0, 0, Te.E.zero⟩)) (by kernel_rfl) (O12.cells ⟨0, 0, Te.E.zero⟩) rfl ?_; clear HM; intro gO_ w_ HM; go_simp) | (refine M.alloc_m HM rfl rfl 53 rfl (.agg #[(.int .i64 0), (.int .i64 0), (.int .i64 0), (.int .u64 0), (.int .i64 0), (.int .i64 0), (.int .u64 0), (.bool false), (.bool false), (.bool false), (.bool false), (.int .i64 0)]) (by kernel_rfl) #[(.int .i64 0), (.int .i64 0), (.int .i64 0), (.int .u64 0), (.int .i64 0), (.int .i64 0), (.int .u64 0), (.bool false), (.bool false), (.bool false), (.bool false), (.int .i64 0)] rfl ?_; clear HM; intro g_ w_ HM; go_simp)) | ((fail_if_success (refine M.lit_t rfl ?_)); (fail_if_success (refine M.lit_f rfl ?_)); refine M.split_guard rfl rfl ?_ ?_ <;> (intro hg_; simp only [hg_]; try simp only [M.hgs] at hg_)))
        | (refine Mc.at_cmp _ rfl ?_; refine Mc.cmp_m rfl _ rfl _ _ _ rfl _ _ _ rfl rfl _ rfl ?_ ?_ <;> (intro hg_; try simp only [M.hgs] at hg_; first | (exfalso; first | omega | (simp at hg_; done)) | (go_simp)))
        | ((fail_if_success (refine M.lit_t rfl ?_)); (fail_if_success (refine M.lit_f rfl ?_)); refine M.split_guard rfl rfl ?_ ?_ <;> (intro hg_; simp only [hg_]; try simp only [M.hgs] at hg_)))
      all_goals
        go_roundw
        case rel => exact ⟨i + 1, l2, _, T2, A2, by omega, by first | rfl | (refine congrArg (fun z => Value.int .i64 z) ?_; omega), rfl, HT2, HL2, hlen2, hok2, HM⟩
        case measure => first | (simp [intOf]; done) | (simp [intOf]; omega)
    · obtain rfl : i = N := by omega
      go_wp2_with (first
        | (go_big_skip)
        | (refine M.at_mem rfl ?_; first | (refine M.at_load 53 rfl ?_; first | (refine M.load_row_m HM rfl 53 _ rfl 0 _ _ _ rfl rfl (by kernel_rfl) (by kernel_rfl) ?_; go_simp)) | (refine M.at_store 53 rfl ?_; first | (refine M.store_row_m HM rfl 53 _ _ rfl 0 _ _ _ _ rfl rfl rfl (by kernel_rfl) rfl (by simp [Value.oneCell']) ?_; clear HM; intro w_ HM; (try simp only [M.nrm] at HM); go_simp)) | (refine M.at_alloc 53 rfl ?_; first | (refine M.alloc_m HM rfl rfl 53 rfl (.agg #[(.int .i64 0), (.int .i64 0), (.int .i64 0), (.int .u64 0), (.int .i64 0), (.int .i64 0), (.int .u64 0), (.bool false), (.bool false), (.bool false), (.bool false), (.int .i64 0)]) (by kernel_rfl) #[(.int .i64 0), (.int .i64 0), (.int .i64 0), (.int .u64 0), (.int .i64 0), (.int .i64 0), (.int .u64 0), (.bool false), (.bool false), (.bool false), (.bool false), (.int .i64 0)] rfl ?_; clear HM; intro g_ w_ HM; go_simp)) | ((fail_if_success (refine M.lit_t rfl ?_)); (fail_if_success (refine M.lit_f rfl ?_)); refine M.split_guard rfl rfl ?_ ?_ <;> (intro hg_; simp only [hg_]; try simp only [M.hgs] at hg_)))
        | (refine Mc.at_cmp _ rfl ?_; refine Mc.cmp_m rfl _ rfl _ _ _ rfl _ _ _ rfl rfl _ rfl ?_ ?_ <;> (intro hg_; try simp only [M.hgs] at hg_; first | (exfalso; first | omega | (simp at hg_; done)) | (go_simp)))
        | ((fail_if_success (refine M.lit_t rfl ?_)); (fail_if_success (refine M.lit_f rfl ?_)); refine M.split_guard rfl rfl ?_ ?_ <;> (intro hg_; simp only [hg_]; try simp only [M.hgs] at hg_)))
      all_goals
        go_ret
        exact ⟨by first | rfl | simp, HM.none.to_below⟩
theorem law_any (most : Int) (ao : Option Addr) (N c : Nat) (es : Nat → O12) (w : World)
    (hA : ∀ i, i < N → (es i).e.ok ∧ ∃ a, ao = some a ∧ ∀ j v, (es i).cells.toList[j]? = some v → w.cell? (a.add (i * 12 + j)) = some v) : Calls Try.prog 6 #[.int .i64 most, .slice ao N c] w fun e w' => e = .returned (.bool true) ∧ Below w.heap.size w w' := by
  by_cases hN : N ≤ 80
  · by_cases hm : most < 1 ∨ 64 < most
    · exact law_most most ao N c hN hm w
    · exact law_in most (by omega) (by omega) ao N c hN es w hA
  · exact law_long most ao N c (by omega) w
end Go.Proofs.Ytccbpcdepgnmgaa.Uc
