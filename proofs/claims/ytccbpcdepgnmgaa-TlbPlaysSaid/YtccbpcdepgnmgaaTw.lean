/- A buffer: what its methods do, whatever it holds; the example of layer 07. -/
import Derived.Test.YtccbpcdepgnmgaaProg
import Derived.Test.YtccbpcdepgnmgaaTu
namespace Go.Proofs.Ytccbpcdepgnmgaa.Tw
open Go.RowKit Go.Proofs.Ytccbpcdepgnmgaa.G Go.Proofs.Ytccbpcdepgnmgaa.B Go.Proofs.Ytccbpcdepgnmgaa.M Go.Proofs.Ytccbpcdepgnmgaa.Mv Go.Proofs.Ytccbpcdepgnmgaa.Sl Go.Proofs.Ytccbpcdepgnmgaa.Sm Go.Proofs.Ytccbpcdepgnmgaa.Sn Go.Proofs.Ytccbpcdepgnmgaa.Te Go.Proofs.Ytccbpcdepgnmgaa.Tp Go.Proofs.Ytccbpcdepgnmgaa.Tq Go.Proofs.Ytccbpcdepgnmgaa.Ts Go.Proofs.Ytccbpcdepgnmgaa.Td Go.Proofs.Ytccbpcdepgnmgaa.Tt Go.Proofs.Ytccbpcdepgnmgaa.Tu

set_option linter.unusedVariables false
set_option linter.unusedSimpArgs false
set_option maxRecDepth 100000
theorem frame {P : Program} {f : FuncId} {args : Array Value} {A R : Hp} {Rel : Value → Hp → Prop} (C : Does P f args A Rel) : Does P f args (A ++ R) fun v L => ∃ L1, Rel v L1 ∧ L = L1 ++ R :=
  fun w h => (C.call (Mem.start h) (List.Perm.refl _)).mono fun _ _ ⟨v, L', he, hr, hm⟩ => ⟨v, L' ++ R, he, ⟨L', hr, rfl⟩, hm⟩
theorem weaken {P : Program} {f : FuncId} {args : Array Value} {A : Hp} {R1 R2 : Value → Hp → Prop} (C : Does P f args A R1) (h : ∀ v L, R1 v L → R2 v L) : Does P f args A R2 :=
  fun w hw => (C w hw).mono fun _ _ ⟨v, L', he, hr, hm⟩ => ⟨v, L', he, h _ _ hr, hm⟩
def addL (most : Int) (l : List E) (e : E) : List E := if e ∈ l then l else if (l.length : Int) + 1 ≤ most then l ++ [e] else (l ++ [e]).eraseIdx 0
theorem fill_ok {most : Int} {l : List E} {gT : Nat} {T : Hp} (HT : TS most l gT T) (e : E) (ho : e.ok) (hr : rightE e = true) (hm : 1 ≤ most) (hl : l.length ≤ 900) :
    Does Try.prog 14 #[.pointer (some ⟨gT, 0, none⟩), .agg e.cells] T fun r L => r = .int .i64 0 ∧ TS most (addL most l e) gT L := by
  obtain ⟨v, A, hA, rfl⟩ := HT
  rcases hA with ⟨rfl, rfl, rfl⟩ | ⟨g, cap, cur, rfl, h1, h2, h3, h4, rfl⟩
  · refine weaken (fill_one gT most e ho hr hm) fun r L ⟨h1, h2⟩ => ⟨h1, ?_⟩
    have : addL most [] e = [e] := by
      unfold addL
      rw [if_neg (by simp), if_pos (by simpa using hm)]
      rfl
    rw [this]; exact h2
  · by_cases hi : e ∈ l
    · refine weaken (fill_has gT most l e g _ cap cur h4 rfl h1 h2 h3 (by omega) ho hr hi) fun r L ⟨h5, h6⟩ => ⟨h5, ?_⟩
      rw [h6, addL, if_pos hi]
      exact TS.own rfl h1 h2 h3 h4
    · by_cases hmm : (l.length : Int) + 1 ≤ most
      · refine weaken (fill_new gT most l e g _ cap cur h4 rfl h1 h2 h3 (by omega) ho hr hi hmm) fun r L ⟨h5, h6⟩ => ⟨h5, ?_⟩
        rw [addL, if_neg hi, if_pos hmm]; exact h6
      · refine weaken (fill_full gT most l e g _ cap cur h4 rfl h1 h2 h3 (by omega) ho hr hi (by omega)) fun r L ⟨h5, h6⟩ => ⟨h5, ?_⟩
        rw [addL, if_neg hi, if_neg hmm]; exact h6
theorem fill_no {most : Int} {l : List E} {gT : Nat} {T : Hp} (HT : TS most l gT T) (e : E) (ho : e.ok) (hr : rightE e = false) :
    Does Try.prog 14 #[.pointer (some ⟨gT, 0, none⟩), .agg e.cells] T fun r L => r = .int .i64 10 ∧ L = T := by
  obtain ⟨v, A, hA, rfl⟩ := HT
  exact weaken (frame (R := A) (fill_bad gT most v e ho hr)) fun r L ⟨L1, ⟨h1, h2⟩, h3⟩ => ⟨h1, by rw [h3, h2]; rfl⟩
theorem find_any {most : Int} {l : List E} {gT : Nat} {T : Hp} (HT : TS most l gT T) (asid va : Int) (v0 : 0 ≤ va) (v1 : va < 18446744073709551616) (hl : l.length ≤ 1000) :
    Does Try.prog 17 #[.pointer (some ⟨gT, 0, none⟩), .int .i64 asid, .int .u64 va] T fun r L => r = .tuple #[.agg (firstE (matchE · asid va) l).cells, .int .i64 (cntE (matchE · asid va) l)] ∧ L = T := by
  obtain ⟨v, A, hA, rfl⟩ := HT
  rcases hA with ⟨rfl, rfl, rfl⟩ | ⟨g, cap, cur, rfl, h1, h2, h3, h4, rfl⟩
  · exact find_nil gT most asid va
  · exact find_own gT most l g _ cap cur asid va h4 rfl hl v0 v1
theorem list_any {most : Int} {l : List E} {gT : Nat} {T : Hp} (HT : TS most l gT T) (hl : l.length ≤ 1000) :
    Does Try.prog 16 #[.pointer (some ⟨gT, 0, none⟩)] T fun r L => ∃ A, LS l r A ∧ L = A ++ T := by
  obtain ⟨v, A, hA, rfl⟩ := HT
  rcases hA with ⟨rfl, rfl, rfl⟩ | ⟨g, cap, cur, rfl, h1, h2, h3, h4, rfl⟩
  · exact weaken (list_nil gT most) fun r L ⟨h1, h2⟩ => ⟨[], .inl ⟨h1, rfl, rfl⟩, by rw [h2]; rfl⟩
  · exact weaken (list_own gT most l g cap cur h4 hl) fun r L ⟨A, h5, h6⟩ => ⟨A, .inr h5, h6⟩
def p1 : E := pageE 1 20480
def p2 : E := pageE 1 24576
theorem own_of {most : Int} {l : List E} {gT n : Nat} {T : Hp} (HT : TS most l gT T) (hn : l.length = n) (h0 : 0 < n) (hl : n ≤ 1000) :
    Does Try.prog 16 #[.pointer (some ⟨gT, 0, none⟩)] T fun r L => ∃ g cap A, r = .slice (some ⟨g, 0, none⟩) n cap ∧ L = A ++ T := by
  subst hn
  refine weaken (list_any HT hl) fun r L ⟨A, h1, h2⟩ => ?_
  rcases h1 with ⟨-, rfl, -⟩ | ⟨g, cap, cur, rfl, -⟩
  · simp at h0
  · exact ⟨g, cap, A, rfl, h2⟩
set_option maxHeartbeats 4000000 in
theorem anchor_any (w : World) : Calls Try.prog 7 #[] w fun e w' => e = .returned (.bool true) ∧ Below w.heap.size w w' := by
  have o1 : p1.ok := by unfold E.ok p1 pageE; decide
  have o2 : p2.ok := by unfold E.ok p2 pageE; decide
  have r1 : rightE p1 = true := by decide
  have r2 : rightE p2 = true := by decide
  have F1 : ∀ {gT T}, TS 3 [] gT T → Does Try.prog 14 #[.pointer (some ⟨gT, 0, none⟩), .agg p1.cells] T fun r L => r = .int .i64 0 ∧ TS 3 [p1] gT L := fun h => fill_ok h p1 o1 r1 (by decide) (by decide)
  have F2 : ∀ {gT T}, TS 3 [p1] gT T → Does Try.prog 14 #[.pointer (some ⟨gT, 0, none⟩), .agg p2.cells] T fun r L => r = .int .i64 0 ∧ TS 3 [p1, p2] gT L := fun h => fill_ok h p2 o2 r2 (by decide) (by decide)
  have F3 : ∀ {gT T}, TS 3 [p1, p2] gT T → Does Try.prog 14 #[.pointer (some ⟨gT, 0, none⟩), .agg p1.cells] T fun r L => r = .int .i64 0 ∧ TS 3 [p1, p2] gT L := fun h => fill_ok h p1 o1 r1 (by decide) (by decide)
  have G1 : ∀ {gT T}, TS 3 [p1, p2] gT T → Does Try.prog 17 #[.pointer (some ⟨gT, 0, none⟩), .int .i64 1, .int .u64 12296] T fun r L => r = .tuple #[.agg p1.cells, .int .i64 2] ∧ L = T := fun h => by
    have := find_any h 1 12296 (by decide) (by decide) (by decide)
    rw [show firstE (matchE · 1 12296) [p1, p2] = p1 by decide, show cntE (matchE · 1 12296) [p1, p2] = 2 by decide] at this
    exact this
  have G2 : ∀ {gT T}, TS 3 [p1, p2] gT T → Does Try.prog 17 #[.pointer (some ⟨gT, 0, none⟩), .int .i64 2, .int .u64 12296] T fun r L => r = .tuple #[.agg E.zero.cells, .int .i64 0] ∧ L = T := fun h => by
    have := find_any h 2 12296 (by decide) (by decide) (by decide)
    rw [show firstE (matchE · 2 12296) [p1, p2] = E.zero by decide, show cntE (matchE · 2 12296) [p1, p2] = 0 by decide] at this
    exact this
  have CN := fun w => new_ok 3 (by decide) (by decide) w
  have CP1 := fun w => page_any 1 20480 w
  have CP2 := fun w => page_any 1 24576 w
  have CO : ∀ {gT T}, TS 3 [p1, p2] gT T → _ := fun {gT T} (h : TS 3 [p1, p2] gT T) => own_of (n := 2) h rfl (by decide) (by decide)
  change ∀ w, Calls Try.prog 23 #[.int .i64 1, .int .u64 20480] w fun x w' => x = .returned (.agg p1.cells) ∧ Below w.heap.size w w' at CP1
  change ∀ w, Calls Try.prog 23 #[.int .i64 1, .int .u64 24576] w fun x w' => x = .returned (.agg p2.cells) ∧ Below w.heap.size w w' at CP2
  clear o1 o2 r1 r2
  generalize hq1 : p1 = q1 at *
  generalize hq2 : p2 = q2 at *
  clear hq1 hq2
  have hb : eqV .eql (decide (q1 = q1)) = some true := by simp [eqV]
  have HB := Lib.hid hb; clear hb
  have HM := Mem.nil w
  go_enter Try.func7, Try.ntmps7
  go_wp2_with (first
    | (go_big_skip)
    | (go_at_call 13; (with_reducible refine (Sm.new_call HM (CN _)).mono ?_); clear HM; rintro e w_ ⟨v_, L_, rfl, ⟨gT_, rfl, rfl⟩, HM⟩; (try simp only [List.append_nil] at HM); have HT := Tt.TS.nil 3 gT_; dsimp only)
    | (go_at_call 14; (first | (with_reducible refine (M.Does.tail [] (F1 HT) HM).mono ?_) | (with_reducible refine (M.Does.tail [] (F2 HT) HM).mono ?_) | (with_reducible refine (M.Does.tail [] (F3 HT) HM).mono ?_)); clear HM HT; rintro e w_ ⟨v_, L_, rfl, ⟨rfl, HT⟩, HM⟩; dsimp only)
    | (go_at_call 17; (with_reducible refine (M.Does.tail [] (G1 HT) HM).mono ?_); clear HM; rintro e w_ ⟨v_, L_, rfl, ⟨rfl, rfl⟩, HM⟩; dsimp only)
    | (go_at_call 17; (with_reducible refine (M.Does.tail [_] (G2 HT) HM).mono ?_); clear HM; rintro e w_ ⟨v_, L_, rfl, ⟨rfl, rfl⟩, HM⟩; dsimp only)
    | (refine Mc.at_cmp .eql rfl ?_; refine Te.eqE_m rfl _ rfl .eql _ _ rfl Te.eqT1 q1 q1 rfl rfl true HB.out ?_ (fun h_ => nomatch h_); intro _; go_simp)
    | (go_at_call 16; (with_reducible refine (M.Does.tail [_, _] (CO HT) HM).mono ?_); clear HM; rintro e w_ ⟨v_, L_, rfl, ⟨gl_, capl_, Al_, rfl, rfl⟩, HM⟩; dsimp only)
    | (go_at_call 23; (with_reducible refine (M.call_pure (CP1) HM).mono ?_); clear HM; rintro e w_ ⟨rfl, HM⟩; dsimp only)
    | (go_at_call 23; (with_reducible refine (M.call_pure (CP2) HM).mono ?_); clear HM; rintro e w_ ⟨rfl, HM⟩; dsimp only)
    | (refine M.at_reg 6 ?_; refine Mq.region_tail_m (id := 6) 2 HM (by kernel_rfl) (by kernel_rfl) ?_; simp only [List.take_succ_cons, List.take_zero, List.drop_succ_cons, List.drop_zero]; (repeat (any_goals (first | go_big_quiet_skip | (refine Mq.qat_load 26 rfl ?_; go_big_quiet_want; first | (refine Mq.quiet_load_row 26 _ rfl 0 _ _ _ rfl rfl (by kernel_rfl) (by kernel_rfl) ?_; simp only [Act.put, List.setIfInBounds_toArray, List.set_cons_zero, List.set_cons_succ]; go_big_quiet_on) | (refine Mq.quiet_load_row 26 _ rfl 1 _ _ _ rfl rfl (by kernel_rfl) (by kernel_rfl) ?_; simp only [Act.put, List.setIfInBounds_toArray, List.set_cons_zero, List.set_cons_succ]; go_big_quiet_on)) | ((fail_if_success (refine Mq.qlit_t rfl ?_)); (fail_if_success (refine Mq.qlit_f rfl ?_)); refine Mq.qsplit rfl rfl ?_ ?_ <;> (intro hg_; simp only [hg_]; try simp only [M.hgs] at hg_)) | go_big_quiet_step (first | (go_at_call 23; with_reducible exact Mq.quiet_call_m (CP1 _)) | (go_at_call 23; with_reducible exact Mq.quiet_call_m (CP2 _)) | exact rfl)))); all_goals (refine Go.Proofs.Ytccbpcdepgnmgaa.G.wpQuiet_end ?_; clear HM; intro w_ HM))
    | (refine M.at_mem rfl ?_; first | (refine M.at_load 26 rfl ?_; first | (refine M.load_row_m HM rfl 26 _ rfl 0 _ _ _ rfl rfl (by kernel_rfl) (by kernel_rfl) ?_; go_simp) | (refine M.load_row_m HM rfl 26 _ rfl 1 _ _ _ rfl rfl (by kernel_rfl) (by kernel_rfl) ?_; go_simp)) | (refine M.at_store 26 rfl ?_; first | (refine M.store_row_m HM rfl 26 _ _ rfl 0 _ _ _ q1.cells rfl rfl rfl (by kernel_rfl) rfl (E.one q1) ?_; clear HM; intro w_ HM; (try simp only [List.set_cons_zero, List.set_cons_succ] at HM); go_simp) | (refine M.store_row_m HM rfl 26 _ _ rfl 0 _ _ _ E.zero.cells rfl rfl rfl (by kernel_rfl) rfl (E.one E.zero) ?_; clear HM; intro w_ HM; (try simp only [List.set_cons_zero, List.set_cons_succ] at HM); go_simp) | (refine M.store_row_m HM rfl 26 _ _ rfl 0 _ _ _ _ rfl rfl rfl (by kernel_rfl) rfl (by simp [Value.oneCell']) ?_; clear HM; intro w_ HM; (try simp only [M.nrm] at HM); go_simp) | (refine M.store_row_m HM rfl 26 _ _ rfl 1 _ _ _ _ rfl rfl rfl (by kernel_rfl) rfl (by simp [Value.oneCell']) ?_; clear HM; intro w_ HM; (try simp only [M.nrm] at HM); go_simp)) | (refine M.at_alloc 26 rfl ?_; first | (refine M.alloc_m HM rfl rfl 26 rfl (.agg E.zero.cells) (by kernel_rfl) E.zero.cells rfl ?_; clear HM; intro g_ w_ HM; go_simp) | (refine M.alloc_m HM rfl rfl 26 rfl (.agg #[(.int .i64 0), (.int .u64 0), (.int .i64 0), (.int .i64 0), (.int .u64 0), (.bool false), (.bool false), (.bool false), (.bool false), (.int .i64 0)]) (by kernel_rfl) #[(.int .i64 0), (.int .u64 0), (.int .i64 0), (.int .i64 0), (.int .u64 0), (.bool false), (.bool false), (.bool false), (.bool false), (.int .i64 0)] rfl ?_; clear HM; intro g_ w_ HM; go_simp)) | ((fail_if_success (refine M.lit_t rfl ?_)); (fail_if_success (refine M.lit_f rfl ?_)); refine M.split_guard rfl rfl ?_ ?_ <;> (intro hg_; simp only [hg_]; try simp only [M.hgs] at hg_)))
    | ((fail_if_success (refine M.lit_t rfl ?_)); (fail_if_success (refine M.lit_f rfl ?_)); refine M.split_guard rfl rfl ?_ ?_ <;> (intro hg_; simp only [hg_]; try simp only [M.hgs] at hg_)))
  all_goals
    go_ret
    exact ⟨by first | rfl | simp, HM.none.to_below⟩
end Go.Proofs.Ytccbpcdepgnmgaa.Tw
