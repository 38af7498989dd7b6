/- Walks: From, Walk, Trace, Out: what each call answers. -/
/- Layer 6's anchor, and what a walk's end is. -/
import Derived.Test.YtfnmdelkdombbaaProg
import Derived.Test.YtfnmdelkdombbaaYk
namespace Go.Proofs.Ytfnmdelkdombbaa.Ym
open Go.RowKit Go.Proofs.Ytfnmdelkdombbaa.G Go.Proofs.Ytfnmdelkdombbaa.B Go.Proofs.Ytfnmdelkdombbaa.M Go.Proofs.Ytfnmdelkdombbaa.Mv Go.Proofs.Ytfnmdelkdombbaa.Sl Go.Proofs.Ytfnmdelkdombbaa.Sm Go.Proofs.Ytfnmdelkdombbaa.Sn Go.Proofs.Ytfnmdelkdombbaa.Ma Go.Proofs.Ytfnmdelkdombbaa.Dr Go.Proofs.Ytfnmdelkdombbaa.Ds Go.Proofs.Ytfnmdelkdombbaa.Tp Go.Proofs.Ytfnmdelkdombbaa.Ya Go.Proofs.Ytfnmdelkdombbaa.Yb Go.Proofs.Ytfnmdelkdombbaa.Yc Go.Proofs.Ytfnmdelkdombbaa.Ls Go.Proofs.Ytfnmdelkdombbaa.Yd Go.Proofs.Ytfnmdelkdombbaa.Yf Go.Proofs.Ytfnmdelkdombbaa.Yg Go.Proofs.Ytfnmdelkdombbaa.Yh Go.Proofs.Ytfnmdelkdombbaa.Yi Go.Proofs.Ytfnmdelkdombbaa.Yj Go.Proofs.Ytfnmdelkdombbaa.Yl Go.Proofs.Ytfnmdelkdombbaa.Yk Go.Proofs.Ytfnmdelkdombbaa.Eq

set_option linter.unusedVariables false
set_option linter.unusedSimpArgs false
set_option maxRecDepth 100000
theorem from_any {size : Int} {f : Int → Int} {gM gW : Nat} {st : List W2} {L : Hp} (hW : WK size f gM gW st L) (s0 : 0 ≤ size) (s1 : size < 18446744073709551616) (hst : st.length ≤ 9000) (table level va : Int) (t0 : 0 ≤ table) (t1 : table < 18446744073709551616) (v0 : 0 ≤ va) (v1 : va < 18446744073709551616) :
    Does Try.prog 24 #[.pointer (some ⟨gW, 0, none⟩), .int .i64 level, .int .u64 table, .int .u64 va] L fun r L' => r = resV (fromV size f level table va) ∧ WK size f gM gW (st ++ (fromV size f level table va).st) L' := by
  by_cases h : 0 ≤ level ∧ level ≤ 3 ∧ table % 4096 = 0 ∧ va < 281474976710656
  · rw [from_yes h]
    exact from_ok hW s0 s1 hst table level va t0 t1 v0 h.1 h.2.1 h.2.2.1 h.2.2.2
  · rw [from_no h, List.append_nil]
    exact from_bad hW table level va t0 t1 v0 v1 h
theorem head_call {P : Program} {fn : FuncId} {args : Array Value} {p : Nat × Obj} (R AM : Hp) {Rel : Value → Hp → Prop} {w0 u : World} {M : List Nat} (C : Does P fn args (p :: (AM ++ [])) Rel) (h : Mem w0 M (p :: (R ++ AM)) u) :
    Calls P fn args u fun e w' => ∃ v L', e = .returned v ∧ Rel v L' ∧ Mem w0 M (R ++ L') w' := by
  have hp : (p :: (R ++ AM)).Perm ((p :: (AM ++ [])) ++ R) := by
    rw [List.append_nil, List.cons_append]
    exact List.Perm.cons _ List.perm_append_comm
  exact (C.call h hp).mono fun _ _ ⟨v, L', he, hr, hm⟩ => ⟨v, L', he, hr, hm.perm List.perm_append_comm⟩
/-- Results are leaves and faults. -/
theorem resV_cells (r : Res) : resV r = .tuple #[.agg (l8 r.lev r.d).cells, .agg (F2.mk r.fk r.fl).cells] := rfl
set_option maxHeartbeats 2000000 in
theorem wfrom_any {size : Int} {f : Int → Int} {gM : Nat} {AM : Hp} (hP : Pm size f gM AM) (s0 : 0 ≤ size) (s1 : size < 18446744073709551616) (table level va : Int) (t0 : 0 ≤ table) (t1 : table < 18446744073709551616) (v0 : 0 ≤ va) (v1 : va < 18446744073709551616) :
    Does Try.prog 10 #[.pointer (some ⟨gM, 0, none⟩), .int .i64 level, .int .u64 table, .int .u64 va] AM fun r L => r = resV (fromV size f level table va) ∧ Pm size f gM L := by
  have CF := fun (gW : Nat) => from_any (gW := gW) (st := []) ⟨.slice none 0 0, [], AM, LR.nil _, hP, rfl⟩ s0 s1 (by simp) table level va t0 t1 v0 v1
  rw [resV_cells] at CF
  rw [resV_cells]
  generalize (fromV size f level table va).st = st at CF
  generalize l8 (fromV size f level table va).lev (fromV size f level table va).d = l at CF ⊢
  generalize F2.mk (fromV size f level table va).fk (fromV size f level table va).fl = ft at CF ⊢
  have CFH := Lib.hid CF; clear CF
  intro w hH
  have HM := Mem.start hH
  go_enter Try.func10, Try.ntmps10
  go_wp2_with (first
    | (go_big_skip)
    | (go_at_call 24; have HM_ : Go.Proofs.Ytfnmdelkdombbaa.M.Mem _ _ (_ :: ([_, _] ++ AM)) _ := HM; (with_reducible refine (Ym.head_call _ _ (CFH.out _) HM_).mono ?_); clear HM HM_; rintro e w_ ⟨v_, L_, rfl, ⟨rfl, ⟨vs_, AS_, AM_, hS_, hP_, rfl⟩⟩, HM⟩; (try simp only [List.cons_append, List.nil_append] at HM); dsimp only)
    | (refine Go.Proofs.Ytfnmdelkdombbaa.M.at_mem rfl ?_; first | (refine Go.Proofs.Ytfnmdelkdombbaa.M.at_store 35 rfl ?_; first | (refine Go.Proofs.Ytfnmdelkdombbaa.M.store_row_m HM rfl 35 _ _ rfl 1 _ _ _ l.cells rfl rfl rfl (by kernel_rfl) rfl (Rec.one l) ?_; clear HM; intro w_ HM; (try simp only [List.set_cons_zero, List.set_cons_succ] at HM); go_simp) | (refine Go.Proofs.Ytfnmdelkdombbaa.M.store_row_m HM rfl 37 _ _ rfl 0 _ _ _ ft.cells rfl rfl rfl (by kernel_rfl) rfl (Rec.one ft) ?_; clear HM; intro w_ HM; (try simp only [List.set_cons_zero, List.set_cons_succ] at HM); go_simp) | (refine Go.Proofs.Ytfnmdelkdombbaa.M.store_row_m HM rfl 35 _ _ rfl 0 _ _ _ _ rfl rfl rfl (by kernel_rfl) rfl (by simp [Value.oneCell']) ?_; clear HM; intro w_ HM; (try simp only [Go.Proofs.Ytfnmdelkdombbaa.M.nrm] at HM); go_simp) | (refine Go.Proofs.Ytfnmdelkdombbaa.M.store_row_m HM rfl 35 _ _ rfl 1 _ _ _ _ rfl rfl rfl (by kernel_rfl) rfl (by simp [Value.oneCell']) ?_; clear HM; intro w_ HM; (try simp only [Go.Proofs.Ytfnmdelkdombbaa.M.nrm] at HM); go_simp) | (refine Go.Proofs.Ytfnmdelkdombbaa.M.store_row_m HM rfl 35 _ _ rfl 2 _ _ _ _ rfl rfl rfl (by kernel_rfl) rfl (by simp [Value.oneCell']) ?_; clear HM; intro w_ HM; (try simp only [Go.Proofs.Ytfnmdelkdombbaa.M.nrm] at HM); go_simp) | (refine Go.Proofs.Ytfnmdelkdombbaa.M.store_row_m HM rfl 35 _ _ rfl 3 _ _ _ _ rfl rfl rfl (by kernel_rfl) rfl (by simp [Value.oneCell']) ?_; clear HM; intro w_ HM; (try simp only [Go.Proofs.Ytfnmdelkdombbaa.M.nrm] at HM); go_simp)) | (refine Go.Proofs.Ytfnmdelkdombbaa.M.at_store 37 rfl ?_; first | (refine Go.Proofs.Ytfnmdelkdombbaa.M.store_row_m HM rfl 35 _ _ rfl 1 _ _ _ l.cells rfl rfl rfl (by kernel_rfl) rfl (Rec.one l) ?_; clear HM; intro w_ HM; (try simp only [List.set_cons_zero, List.set_cons_succ] at HM); go_simp) | (refine Go.Proofs.Ytfnmdelkdombbaa.M.store_row_m HM rfl 37 _ _ rfl 0 _ _ _ ft.cells rfl rfl rfl (by kernel_rfl) rfl (Rec.one ft) ?_; clear HM; intro w_ HM; (try simp only [List.set_cons_zero, List.set_cons_succ] at HM); go_simp) | (refine Go.Proofs.Ytfnmdelkdombbaa.M.store_row_m HM rfl 37 _ _ rfl 0 _ _ _ _ rfl rfl rfl (by kernel_rfl) rfl (by simp [Value.oneCell']) ?_; clear HM; intro w_ HM; (try simp only [Go.Proofs.Ytfnmdelkdombbaa.M.nrm] at HM); go_simp) | (refine Go.Proofs.Ytfnmdelkdombbaa.M.store_row_m HM rfl 37 _ _ rfl 1 _ _ _ _ rfl rfl rfl (by kernel_rfl) rfl (by simp [Value.oneCell']) ?_; clear HM; intro w_ HM; (try simp only [Go.Proofs.Ytfnmdelkdombbaa.M.nrm] at HM); go_simp) | (refine Go.Proofs.Ytfnmdelkdombbaa.M.store_row_m HM rfl 37 _ _ rfl 2 _ _ _ _ rfl rfl rfl (by kernel_rfl) rfl (by simp [Value.oneCell']) ?_; clear HM; intro w_ HM; (try simp only [Go.Proofs.Ytfnmdelkdombbaa.M.nrm] at HM); go_simp) | (refine Go.Proofs.Ytfnmdelkdombbaa.M.store_row_m HM rfl 37 _ _ rfl 3 _ _ _ _ rfl rfl rfl (by kernel_rfl) rfl (by simp [Value.oneCell']) ?_; clear HM; intro w_ HM; (try simp only [Go.Proofs.Ytfnmdelkdombbaa.M.nrm] at HM); go_simp)) | (refine Go.Proofs.Ytfnmdelkdombbaa.M.at_alloc 35 rfl ?_; first | (refine Go.Proofs.Ytfnmdelkdombbaa.M.alloc_m HM rfl rfl 35 rfl (.agg #[(.int .i64 0), (.int .i64 0), (.int .u64 0), (.bool false), (.bool false), (.bool false), (.bool false), (.int .i64 0)]) (by kernel_rfl) #[(.int .i64 0), (.int .i64 0), (.int .u64 0), (.bool false), (.bool false), (.bool false), (.bool false), (.int .i64 0)] rfl ?_; clear HM; intro g_ w_ HM; go_simp)) | (refine Go.Proofs.Ytfnmdelkdombbaa.M.at_alloc 37 rfl ?_; first | (refine Go.Proofs.Ytfnmdelkdombbaa.M.alloc_m HM rfl rfl 37 rfl (.agg #[(.int .i64 0), (.int .i64 0)]) (by kernel_rfl) #[(.int .i64 0), (.int .i64 0)] rfl ?_; clear HM; intro g_ w_ HM; go_simp)) | (refine Go.Proofs.Ytfnmdelkdombbaa.M.at_box 72 rfl ?_; first | (refine Go.Proofs.Ytfnmdelkdombbaa.M.box_m HM rfl rfl 72 _ rfl _ rfl ?_; clear HM; intro g_ w_ HM; go_simp)) | ((fail_if_success (refine Go.Proofs.Ytfnmdelkdombbaa.M.lit_t rfl ?_)); (fail_if_success (refine Go.Proofs.Ytfnmdelkdombbaa.M.lit_f rfl ?_)); refine Go.Proofs.Ytfnmdelkdombbaa.M.split_guard rfl rfl ?_ ?_ <;> (intro hg_; simp only [hg_]; try simp only [Go.Proofs.Ytfnmdelkdombbaa.M.hgs] at hg_)))
    | ((fail_if_success (refine Go.Proofs.Ytfnmdelkdombbaa.M.lit_t rfl ?_)); (fail_if_success (refine Go.Proofs.Ytfnmdelkdombbaa.M.lit_f rfl ?_)); refine Go.Proofs.Ytfnmdelkdombbaa.M.split_guard rfl rfl ?_ ?_ <;> (intro hg_; simp only [hg_]; try simp only [Go.Proofs.Ytfnmdelkdombbaa.M.hgs] at hg_)))
  refine bodyPost_ret (res_cc HM rfl _ 1 _ _ _ rfl 0 _ _ _ rfl rfl rfl (by kernel_rfl) (by kernel_rfl) (by kernel_rfl) (by kernel_rfl)) rfl ?_
  first | exact ⟨_, _, rfl, ⟨rfl, hP_⟩, (HM.drop (A := [_, _, _])).take⟩ | exact ⟨_, rfl, _, hP_, (HM.drop (A := [_, _, _])).take⟩
set_option maxHeartbeats 2000000 in
theorem walk_any {size : Int} {f : Int → Int} {gM : Nat} {AM : Hp} (hP : Pm size f gM AM) (s0 : 0 ≤ size) (s1 : size < 18446744073709551616) (table va : Int) (t0 : 0 ≤ table) (t1 : table < 18446744073709551616) (v0 : 0 ≤ va) (v1 : va < 18446744073709551616) :
    Does Try.prog 15 #[.pointer (some ⟨gM, 0, none⟩), .int .u64 table, .int .u64 va] AM fun r L => r = resV (fromV size f 0 table va) ∧ Pm size f gM L := by
  have CF := wfrom_any hP s0 s1 table 0 va t0 t1 v0 v1
  rw [resV_cells] at CF ⊢
  generalize l8 (fromV size f 0 table va).lev (fromV size f 0 table va).d = l at CF ⊢
  generalize F2.mk (fromV size f 0 table va).fk (fromV size f 0 table va).fl = ft at CF ⊢
  intro w hH
  have HM := Mem.start hH
  go_enter Try.func15, Try.ntmps15
  go_wp2_with (first
    | (go_big_skip)
    | (go_at_call 10; have HM_ : Go.Proofs.Ytfnmdelkdombbaa.M.Mem _ _ (([_, _]) ++ (AM)) _ := HM; (with_reducible refine (Go.Proofs.Ytfnmdelkdombbaa.M.Does.tail _ (CF) HM_).mono ?_); clear HM HM_; rintro e w_ ⟨v_, L_, rfl, ⟨rfl, hP_⟩, HM⟩; (try simp only [List.cons_append, List.nil_append, List.append_nil] at HM); dsimp only)
    | (refine Go.Proofs.Ytfnmdelkdombbaa.M.at_mem rfl ?_; first | (refine Go.Proofs.Ytfnmdelkdombbaa.M.at_store 35 rfl ?_; first | (refine Go.Proofs.Ytfnmdelkdombbaa.M.store_row_m HM rfl 35 _ _ rfl 1 _ _ _ l.cells rfl rfl rfl (by kernel_rfl) rfl (Rec.one l) ?_; clear HM; intro w_ HM; (try simp only [List.set_cons_zero, List.set_cons_succ] at HM); go_simp) | (refine Go.Proofs.Ytfnmdelkdombbaa.M.store_row_m HM rfl 37 _ _ rfl 0 _ _ _ ft.cells rfl rfl rfl (by kernel_rfl) rfl (Rec.one ft) ?_; clear HM; intro w_ HM; (try simp only [List.set_cons_zero, List.set_cons_succ] at HM); go_simp) | (refine Go.Proofs.Ytfnmdelkdombbaa.M.store_row_m HM rfl 35 _ _ rfl 0 _ _ _ _ rfl rfl rfl (by kernel_rfl) rfl (by simp [Value.oneCell']) ?_; clear HM; intro w_ HM; (try simp only [Go.Proofs.Ytfnmdelkdombbaa.M.nrm] at HM); go_simp) | (refine Go.Proofs.Ytfnmdelkdombbaa.M.store_row_m HM rfl 35 _ _ rfl 1 _ _ _ _ rfl rfl rfl (by kernel_rfl) rfl (by simp [Value.oneCell']) ?_; clear HM; intro w_ HM; (try simp only [Go.Proofs.Ytfnmdelkdombbaa.M.nrm] at HM); go_simp)) | (refine Go.Proofs.Ytfnmdelkdombbaa.M.at_store 37 rfl ?_; first | (refine Go.Proofs.Ytfnmdelkdombbaa.M.store_row_m HM rfl 35 _ _ rfl 1 _ _ _ l.cells rfl rfl rfl (by kernel_rfl) rfl (Rec.one l) ?_; clear HM; intro w_ HM; (try simp only [List.set_cons_zero, List.set_cons_succ] at HM); go_simp) | (refine Go.Proofs.Ytfnmdelkdombbaa.M.store_row_m HM rfl 37 _ _ rfl 0 _ _ _ ft.cells rfl rfl rfl (by kernel_rfl) rfl (Rec.one ft) ?_; clear HM; intro w_ HM; (try simp only [List.set_cons_zero, List.set_cons_succ] at HM); go_simp) | (refine Go.Proofs.Ytfnmdelkdombbaa.M.store_row_m HM rfl 37 _ _ rfl 0 _ _ _ _ rfl rfl rfl (by kernel_rfl) rfl (by simp [Value.oneCell']) ?_; clear HM; intro w_ HM; (try simp only [Go.Proofs.Ytfnmdelkdombbaa.M.nrm] at HM); go_simp) | (refine Go.Proofs.Ytfnmdelkdombbaa.M.store_row_m HM rfl 37 _ _ rfl 1 _ _ _ _ rfl rfl rfl (by kernel_rfl) rfl (by simp [Value.oneCell']) ?_; clear HM; intro w_ HM; (try simp only [Go.Proofs.Ytfnmdelkdombbaa.M.nrm] at HM); go_simp)) | (refine Go.Proofs.Ytfnmdelkdombbaa.M.at_alloc 35 rfl ?_; first | (refine Go.Proofs.Ytfnmdelkdombbaa.M.alloc_m HM rfl rfl 35 rfl (.agg #[(.int .i64 0), (.int .i64 0), (.int .u64 0), (.bool false), (.bool false), (.bool false), (.bool false), (.int .i64 0)]) (by kernel_rfl) #[(.int .i64 0), (.int .i64 0), (.int .u64 0), (.bool false), (.bool false), (.bool false), (.bool false), (.int .i64 0)] rfl ?_; clear HM; intro g_ w_ HM; go_simp)) | (refine Go.Proofs.Ytfnmdelkdombbaa.M.at_alloc 37 rfl ?_; first | (refine Go.Proofs.Ytfnmdelkdombbaa.M.alloc_m HM rfl rfl 37 rfl (.agg #[(.int .i64 0), (.int .i64 0)]) (by kernel_rfl) #[(.int .i64 0), (.int .i64 0)] rfl ?_; clear HM; intro g_ w_ HM; go_simp)) | ((fail_if_success (refine Go.Proofs.Ytfnmdelkdombbaa.M.lit_t rfl ?_)); (fail_if_success (refine Go.Proofs.Ytfnmdelkdombbaa.M.lit_f rfl ?_)); refine Go.Proofs.Ytfnmdelkdombbaa.M.split_guard rfl rfl ?_ ?_ <;> (intro hg_; simp only [hg_]; try simp only [Go.Proofs.Ytfnmdelkdombbaa.M.hgs] at hg_)))
    | ((fail_if_success (refine Go.Proofs.Ytfnmdelkdombbaa.M.lit_t rfl ?_)); (fail_if_success (refine Go.Proofs.Ytfnmdelkdombbaa.M.lit_f rfl ?_)); refine Go.Proofs.Ytfnmdelkdombbaa.M.split_guard rfl rfl ?_ ?_ <;> (intro hg_; simp only [hg_]; try simp only [Go.Proofs.Ytfnmdelkdombbaa.M.hgs] at hg_)))
  refine bodyPost_ret (res_cc HM rfl _ 1 _ _ _ rfl 0 _ _ _ rfl rfl rfl (by kernel_rfl) (by kernel_rfl) (by kernel_rfl) (by kernel_rfl)) rfl ?_
  first | exact ⟨_, _, rfl, ⟨rfl, hP_⟩, HM.drop (A := [_, _])⟩ | exact ⟨_, rfl, _, hP_, HM.drop (A := [_, _])⟩
set_option maxHeartbeats 2000000 in
theorem trace_any {size : Int} {f : Int → Int} {gM : Nat} {AM : Hp} (hP : Pm size f gM AM) (s0 : 0 ≤ size) (s1 : size < 18446744073709551616) (table level va : Int) (t0 : 0 ≤ table) (t1 : table < 18446744073709551616) (v0 : 0 ≤ va) (v1 : va < 18446744073709551616) :
    Does Try.prog 12 #[.pointer (some ⟨gM, 0, none⟩), .int .i64 level, .int .u64 table, .int .u64 va] AM fun r L => ∃ AS AM', LR 48 (fromV size f level table va).st r AS ∧ Pm size f gM AM' ∧ L = AM' ++ AS := by
  have CF := fun (gW : Nat) => from_any (gW := gW) (st := []) ⟨.slice none 0 0, [], AM, LR.nil _, hP, rfl⟩ s0 s1 (by simp) table level va t0 t1 v0 v1
  rw [resV_cells] at CF
  simp only [List.nil_append] at CF
  generalize (fromV size f level table va).st = st at CF ⊢
  generalize l8 (fromV size f level table va).lev (fromV size f level table va).d = l at CF
  generalize F2.mk (fromV size f level table va).fk (fromV size f level table va).fl = ft at CF
  have CFH := Lib.hid CF; clear CF
  intro w hH
  have HM := Mem.start hH
  go_enter Try.func12, Try.ntmps12
  go_wp2_with (first
    | (go_big_skip)
    | (go_at_call 24; have HM_ : Go.Proofs.Ytfnmdelkdombbaa.M.Mem _ _ (_ :: ([] ++ AM)) _ := HM; (with_reducible refine (Ym.head_call _ _ (CFH.out _) HM_).mono ?_); clear HM HM_; rintro e w_ ⟨v_, L_, rfl, ⟨rfl, ⟨vs_, AS_, AM_, hS_, hP_, rfl⟩⟩, HM⟩; (try simp only [List.cons_append, List.nil_append] at HM); dsimp only)
    | (refine Go.Proofs.Ytfnmdelkdombbaa.M.at_mem rfl ?_; first | (refine Go.Proofs.Ytfnmdelkdombbaa.M.at_load 23 rfl ?_; first | (refine Go.Proofs.Ytfnmdelkdombbaa.M.load_cell_m HM rfl 23 _ rfl 0 _ _ _ _ _ rfl rfl rfl (by kernel_rfl) (by kernel_rfl) ?_; go_simp)) | (refine Go.Proofs.Ytfnmdelkdombbaa.M.at_box 72 rfl ?_; first | (refine Go.Proofs.Ytfnmdelkdombbaa.M.box_m HM rfl rfl 72 _ rfl _ rfl ?_; clear HM; intro g_ w_ HM; go_simp)) | ((fail_if_success (refine Go.Proofs.Ytfnmdelkdombbaa.M.lit_t rfl ?_)); (fail_if_success (refine Go.Proofs.Ytfnmdelkdombbaa.M.lit_f rfl ?_)); refine Go.Proofs.Ytfnmdelkdombbaa.M.split_guard rfl rfl ?_ ?_ <;> (intro hg_; simp only [hg_]; try simp only [Go.Proofs.Ytfnmdelkdombbaa.M.hgs] at hg_)))
    | ((fail_if_success (refine Go.Proofs.Ytfnmdelkdombbaa.M.lit_t rfl ?_)); (fail_if_success (refine Go.Proofs.Ytfnmdelkdombbaa.M.lit_f rfl ?_)); refine Go.Proofs.Ytfnmdelkdombbaa.M.split_guard rfl rfl ?_ ?_ <;> (intro hg_; simp only [hg_]; try simp only [Go.Proofs.Ytfnmdelkdombbaa.M.hgs] at hg_)))
  go_ret
  first | exact ⟨_, _, rfl, ⟨AS_, AM_, hS_, hP_, rfl⟩, HM.drop (A := [_])⟩ | exact ⟨_, rfl, _, ⟨AS_, AM_, hS_, hP_, rfl⟩, HM.drop (A := [_])⟩
set_option maxHeartbeats 2000000 in
theorem out_any (level va : Int) (d : D7) (l0 : 0 ≤ level) (l3 : level ≤ 3) (v0 : 0 ≤ va) (v1 : va < 18446744073709551616) (d0 : 0 ≤ d.out) (d1 : d.out < 281474976710656) (w : World) :
    Calls Try.prog 13 #[leafV level d, .int .u64 va] w fun e w' => e = .returned (.int .u64 (d.out + offV va level)) ∧ Below w.heap.size w w' := by
  have CO := fun w => Yg.voffset_any va level v0 v1 l0 l3 w
  have hr : 0 ≤ offV va level ∧ offV va level < 549755813888 := by
    have h := lsize_ones l0 l3
    have h2 := offV_yes (va := va) (kn_of l0 l3)
    rw [h2]
    have h3 := Int.emod_nonneg va (show lsize level ≠ 0 by omega)
    have h4 := Int.emod_lt_of_pos va h.2.1
    omega
  generalize offV va level = o at CO hr ⊢
  obtain ⟨kind, out, user, write, exec, used, attr⟩ := d
  dsimp only at d0 d1 ⊢
  simp only [leafV]
  have HM := Mem.nil w
  go_enter Try.func13, Try.ntmps13
  go_wp2_with (first
    | (go_big_skip)
    | (go_at_call 18; (with_reducible refine (Go.Proofs.Ytfnmdelkdombbaa.M.call_pure (CO) HM).mono ?_); clear HM; rintro e w_ ⟨rfl, HM⟩; dsimp only)
    | (refine Go.Proofs.Ytfnmdelkdombbaa.M.at_reg 1 ?_; refine Mq.region_m (id := 1) HM (by kernel_rfl) (by kernel_rfl) ?_; (repeat (any_goals (first | go_big_quiet_skip | (refine Mq.qat_load 3 rfl ?_; go_big_quiet_want; first | (refine Mq.quiet_load_cell 3 _ rfl 0 _ _ _ _ _ rfl rfl rfl (by kernel_rfl) (by kernel_rfl) ?_; simp only [Act.put, List.setIfInBounds_toArray, List.set_cons_zero, List.set_cons_succ]; go_big_quiet_on)) | (refine Mq.qat_load 22 rfl ?_; go_big_quiet_want; first | (refine Mq.quiet_load_cell 22 _ rfl 0 _ _ _ _ _ rfl rfl rfl (by kernel_rfl) (by kernel_rfl) ?_; simp only [Act.put, List.setIfInBounds_toArray, List.set_cons_zero, List.set_cons_succ]; go_big_quiet_on)) | ((fail_if_success (refine Mq.qlit_t rfl ?_)); (fail_if_success (refine Mq.qlit_f rfl ?_)); refine Mq.qsplit rfl rfl ?_ ?_ <;> (intro hg_; simp only [hg_]; try simp only [Go.Proofs.Ytfnmdelkdombbaa.M.hgs] at hg_)) | go_big_quiet_step (first | (go_at_call 18; with_reducible exact Mq.quiet_call_m (CO _)) | exact rfl)))); all_goals (refine Go.Proofs.Ytfnmdelkdombbaa.G.wpQuiet_end ?_; clear HM; intro w_ HM))
    | (refine Go.Proofs.Ytfnmdelkdombbaa.M.at_mem rfl ?_; first | (refine Go.Proofs.Ytfnmdelkdombbaa.M.at_load 3 rfl ?_; first | (refine Go.Proofs.Ytfnmdelkdombbaa.M.load_cell_m HM rfl 3 _ rfl 0 _ _ _ _ _ rfl rfl rfl (by kernel_rfl) (by kernel_rfl) ?_; go_simp)) | (refine Go.Proofs.Ytfnmdelkdombbaa.M.at_load 22 rfl ?_; first | (refine Go.Proofs.Ytfnmdelkdombbaa.M.load_cell_m HM rfl 22 _ rfl 0 _ _ _ _ _ rfl rfl rfl (by kernel_rfl) (by kernel_rfl) ?_; go_simp)) | (refine Go.Proofs.Ytfnmdelkdombbaa.M.at_box 35 rfl ?_; first | (refine Go.Proofs.Ytfnmdelkdombbaa.M.box_m HM rfl rfl 35 _ rfl _ rfl ?_; clear HM; intro g_ w_ HM; go_simp)) | ((fail_if_success (refine Go.Proofs.Ytfnmdelkdombbaa.M.lit_t rfl ?_)); (fail_if_success (refine Go.Proofs.Ytfnmdelkdombbaa.M.lit_f rfl ?_)); refine Go.Proofs.Ytfnmdelkdombbaa.M.split_guard rfl rfl ?_ ?_ <;> (intro hg_; simp only [hg_]; try simp only [Go.Proofs.Ytfnmdelkdombbaa.M.hgs] at hg_)))
    | ((fail_if_success (refine Go.Proofs.Ytfnmdelkdombbaa.M.lit_t rfl ?_)); (fail_if_success (refine Go.Proofs.Ytfnmdelkdombbaa.M.lit_f rfl ?_)); refine Go.Proofs.Ytfnmdelkdombbaa.M.split_guard rfl rfl ?_ ?_ <;> (intro hg_; simp only [hg_]; try simp only [Go.Proofs.Ytfnmdelkdombbaa.M.hgs] at hg_)))
  go_ret
  exact ⟨by first | rfl | simp, HM.none.to_below⟩
end Go.Proofs.Ytfnmdelkdombbaa.Ym

namespace Go.Proofs.Ytfnmdelkdombbaa.Yo
open Go.RowKit Go.Proofs.Ytfnmdelkdombbaa.G Go.Proofs.Ytfnmdelkdombbaa.B Go.Proofs.Ytfnmdelkdombbaa.M Go.Proofs.Ytfnmdelkdombbaa.Mv Go.Proofs.Ytfnmdelkdombbaa.Sl Go.Proofs.Ytfnmdelkdombbaa.Sm Go.Proofs.Ytfnmdelkdombbaa.Sn Go.Proofs.Ytfnmdelkdombbaa.Ma Go.Proofs.Ytfnmdelkdombbaa.Dr Go.Proofs.Ytfnmdelkdombbaa.Ds Go.Proofs.Ytfnmdelkdombbaa.Tp Go.Proofs.Ytfnmdelkdombbaa.Ya Go.Proofs.Ytfnmdelkdombbaa.Yb Go.Proofs.Ytfnmdelkdombbaa.Yc Go.Proofs.Ytfnmdelkdombbaa.Ls Go.Proofs.Ytfnmdelkdombbaa.Yd Go.Proofs.Ytfnmdelkdombbaa.Yf Go.Proofs.Ytfnmdelkdombbaa.Yg Go.Proofs.Ytfnmdelkdombbaa.Yh Go.Proofs.Ytfnmdelkdombbaa.Yi Go.Proofs.Ytfnmdelkdombbaa.Yj Go.Proofs.Ytfnmdelkdombbaa.Yl Go.Proofs.Ytfnmdelkdombbaa.Yk Go.Proofs.Ytfnmdelkdombbaa.Ym Go.Proofs.Ytfnmdelkdombbaa.Eq Go.Proofs.Ytfnmdelkdombbaa.Ep

set_option linter.unusedVariables false
set_option linter.unusedSimpArgs false
set_option maxRecDepth 100000
/-- Where a walk ends: a leaf, or a fault. -/
theorem go_end (size : Int) (f : Int → Int) (hf : ∀ n, 0 ≤ f n ∧ f n < 18446744073709551616) (va : Int) : ∀ (n : Nat) (level table : Int), 0 ≤ level → level + n = 4 → 0 < n →
    ((goV size f va n level table).fk = 0 ∧ (goV size f va n level table).fl = 0 ∧ 0 ≤ (goV size f va n level table).lev ∧ (goV size f va n level table).lev ≤ 3 ∧ ((goV size f va n level table).d.kind = 2 ∨ (goV size f va n level table).d.kind = 3) ∧ 0 ≤ (goV size f va n level table).d.out ∧ (goV size f va n level table).d.out < 281474976710656) ∨
    ((goV size f va n level table).fk ≠ 0 ∧ (goV size f va n level table).lev = 0 ∧ (goV size f va n level table).d = zero)
  | 0, _, _, _, _, h => by omega
  | n + 1, level, table, l0, hl, _ => by
    rcases ent_cases size f hf level table (idxV va level) l0 (by omega) with ⟨fk, hk, h1, h2, h3⟩ | ⟨h1, h2, h3, h4, h5, h6, h7⟩ | ⟨h1, h2, h3, h4, h5⟩
    · rw [go_fault (by rw [h1]; omega)]
      exact .inr ⟨by dsimp only; rw [h1]; omega, rfl, rfl⟩
    · rw [go_table h1 h3]
      exact go_end size f hf va n (level + 1) _ (by omega) (by omega) (by omega)
    · rw [go_leaf h1 (by omega)]
      exact .inl ⟨rfl, rfl, l0, by dsimp only; omega, h3, h4, h5⟩
theorem from_end (size : Int) (f : Int → Int) (hf : ∀ n, 0 ≤ f n ∧ f n < 18446744073709551616) (level table va : Int) :
    ((fromV size f level table va).fk = 0 ∧ (fromV size f level table va).fl = 0 ∧ 0 ≤ (fromV size f level table va).lev ∧ (fromV size f level table va).lev ≤ 3 ∧ ((fromV size f level table va).d.kind = 2 ∨ (fromV size f level table va).d.kind = 3) ∧ 0 ≤ (fromV size f level table va).d.out ∧ (fromV size f level table va).d.out < 281474976710656) ∨
    ((fromV size f level table va).fk ≠ 0 ∧ (fromV size f level table va).lev = 0 ∧ (fromV size f level table va).d = zero) := by
  by_cases h : 0 ≤ level ∧ level ≤ 3 ∧ table % 4096 = 0 ∧ va < 281474976710656
  · rw [from_yes h]
    exact go_end size f hf va _ level table h.1 (by omega) (by omega)
  · rw [from_no h]
    exact .inr ⟨by decide, rfl, rfl⟩
theorem from_len (size : Int) (f : Int → Int) (level table va : Int) : (fromV size f level table va).st.length ≤ 4 := by
  by_cases h : 0 ≤ level ∧ level ≤ 3 ∧ table % 4096 = 0 ∧ va < 281474976710656
  · rw [from_yes h]
    have := go_st_len size f va (4 - level).toNat level table
    omega
  · rw [from_no h]; simp
theorem dec_table {level x : Int} (hl : level < 3) (b0 : bitB x 0 = true) (b1 : bitB x 1 = true) (h0 : 0 ≤ x) (h1 : x < 18446744073709551616) (h : x / 4 % 1024 = 0 ∧ x / 281474976710656 = 0) : decV level x = some (saidT x) := by
  unfold decV
  rw [if_neg (by rw [b0]; decide), if_pos ⟨b1, hl⟩, if_pos ((tOk_iff x h0 h1).2 h)]
def es4 : Nat → W2 := fun i => if i = 0 then ⟨4096, 8195⟩ else if i = 1 then ⟨8192, 12291⟩ else if i = 2 then ⟨12288, 16387⟩ else ⟨16392, 27021597764247363⟩
noncomputable def leaf4 : D7 := saidL 3 27021597764247363
theorem leaf4_out : leaf4.out = 20480 ∧ leaf4.kind = 3 := ⟨by decide, rfl⟩
theorem dec_leaf4 : decV 3 27021597764247363 = some leaf4 := by
  unfold decV
  rw [if_neg (by decide), if_neg (by omega), show kindL 27021597764247363 = 3 from by decide, if_pos]
  · rfl
  · refine ⟨?_, ?_⟩
    · unfold leafBad
      decide
    · exact (okL_iff 27021597764247363 (39 - 9 * 3) 12 (by decide) (by decide) (by decide) (by decide) (by decide)).2 (by decide)
theorem ent_mk {size : Int} {f : Int → Int} {level table ix a x : Int} {d : D7} (ha : table + ix * 8 = a) (he : errV size a = 0) (hx : f (a / 8) = x) (hd : decV level x = some d) (hk : d.kind ≠ 0) (hi : d.kind = 1 ∨ (d.out ≤ size ∧ lsize level ≤ size - d.out)) : entV size f level table ix = ⟨d, 0, 0, [⟨a, x⟩]⟩ := by
  subst ha hx
  unfold entV
  rw [if_pos he, hd]
  unfold entD
  dsimp only
  rw [if_neg hk, if_pos hi]
theorem walk4 : (fromV 65536 (wrs 65536 es4 4) 0 4096 4112).lev = 3 ∧ (fromV 65536 (wrs 65536 es4 4) 0 4096 4112).d = leaf4 ∧ (fromV 65536 (wrs 65536 es4 4) 0 4096 4112).fk = 0 ∧ (fromV 65536 (wrs 65536 es4 4) 0 4096 4112).fl = 0 := by
  have e0 : entV 65536 (wrs 65536 es4 4) 0 4096 (idxV 4112 0) = ⟨saidT 8195, 0, 0, [⟨4096, 8195⟩]⟩ := ent_mk (by decide) (by decide) (by decide) (dec_table (by decide) (by decide) (by decide) (by decide) (by decide) (by decide)) (by decide) (.inl rfl)
  have e1 : entV 65536 (wrs 65536 es4 4) (0 + 1) 8192 (idxV 4112 (0 + 1)) = ⟨saidT 12291, 0, 0, [⟨8192, 12291⟩]⟩ := ent_mk (by decide) (by decide) (by decide) (dec_table (by decide) (by decide) (by decide) (by decide) (by decide) (by decide)) (by decide) (.inl rfl)
  have e2 : entV 65536 (wrs 65536 es4 4) (0 + 1 + 1) 12288 (idxV 4112 (0 + 1 + 1)) = ⟨saidT 16387, 0, 0, [⟨12288, 16387⟩]⟩ := ent_mk (by decide) (by decide) (by decide) (dec_table (by decide) (by decide) (by decide) (by decide) (by decide) (by decide)) (by decide) (.inl rfl)
  have e3 : entV 65536 (wrs 65536 es4 4) (0 + 1 + 1 + 1) 16384 (idxV 4112 (0 + 1 + 1 + 1)) = ⟨leaf4, 0, 0, [⟨16392, 27021597764247363⟩]⟩ := ent_mk (by decide) (by decide) (by decide) dec_leaf4 (by rw [leaf4_out.2]; decide) (.inr (by rw [leaf4_out.1]; decide))
  have o0 : (entV 65536 (wrs 65536 es4 4) 0 4096 (idxV 4112 0)).d.out = 8192 := by rw [e0]; decide
  have o1 : (entV 65536 (wrs 65536 es4 4) (0 + 1) 8192 (idxV 4112 (0 + 1))).d.out = 12288 := by rw [e1]; decide
  have o2 : (entV 65536 (wrs 65536 es4 4) (0 + 1 + 1) 12288 (idxV 4112 (0 + 1 + 1))).d.out = 16384 := by rw [e2]; decide
  rw [from_yes (by decide), show (4 - (0 : Int)).toNat = 3 + 1 from rfl, go_table (by rw [e0]) (by rw [e0]; rfl), o0, go_table (n := 2) (by rw [e1]) (by rw [e1]; rfl), o1, go_table (n := 1) (by rw [e2]) (by rw [e2]; rfl), o2, go_leaf (n := 0) (by rw [e3]) (by rw [e3]; dsimp only; rw [leaf4_out.2]; decide)]
  dsimp only
  rw [e3]
  exact ⟨by decide, rfl, rfl, rfl⟩
theorem walk0 : (fromV 65536 (wrs 65536 es4 4) 0 24576 0).fk = 1 ∧ (fromV 65536 (wrs 65536 es4 4) 0 24576 0).fl = 0 := by
  have e0 : entV 65536 (wrs 65536 es4 4) 0 24576 (idxV 0 0) = ⟨zero, 1, 0, [⟨24576, 0⟩]⟩ := by
    rw [show idxV 0 0 = 0 from by decide]
    unfold entV
    rw [if_pos (by decide), show wrs 65536 es4 4 ((24576 + 0 * 8) / 8) = 0 from by decide, Yj.decV_zero]
    unfold entD
    dsimp only
    rw [if_pos (show zero.kind = 0 from rfl)]
    rfl
  rw [from_yes (by decide), show (4 - (0 : Int)).toNat = 3 + 1 from rfl, go_fault (by rw [e0]; decide), e0]
  exact ⟨rfl, rfl⟩
end Go.Proofs.Ytfnmdelkdombbaa.Yo
