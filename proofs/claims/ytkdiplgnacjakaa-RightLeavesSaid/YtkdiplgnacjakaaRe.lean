/- right.Within and right.Leaf: what each call answers. -/
import Derived.Test.YtkdiplgnacjakaaProg
import Derived.Test.YtkdiplgnacjakaaRt
import Derived.Test.YtkdiplgnacjakaaDr
import Derived.Test.YtkdiplgnacjakaaWWords
namespace Go.Proofs.Ytkdiplgnacjakaa.Re
open Go.RowKit Go.Proofs.Ytkdiplgnacjakaa.G Go.Proofs.Ytkdiplgnacjakaa.B Go.Proofs.Ytkdiplgnacjakaa.M Go.Proofs.Ytkdiplgnacjakaa.Dr Go.Proofs.Ytkdiplgnacjakaa.Rt
set_option linter.unusedVariables false
set_option linter.unusedSimpArgs false
section
variable {P : Program} {w0 W : World} {M : List Nat} {L : Hp}
/-- Results: a struct in memory and a value. -/
theorem res_ct (HM : Mem w0 M L W) {fn : Func} {p u : Tmp} {ty : TypeId} (h : fn.results = #[.cell p ty, .tmp u]) (tmps : Array Value) (i g : Nat) (t : TypeId) (cs : Array Value) (hi : L[i]? = some (g, row cs t))
    (hp : tmps.getD p undef = .pointer (some ⟨g, 0, none⟩)) (hagg : aggB P ty = true) (hs : sizB P ty cs.size = true) : (results fn tmps).run P W = .ok (.tuple #[.agg cs, tmps.getD u undef]) W := by
  unfold aggB at hagg
  cases hd : P.underlying ty with
  | none => simp [hd] at hagg
  | some d =>
    rw [hd] at hagg
    refine Go.Proofs.YtkdiplgnacjakaaW.PrintWords.results_ct h _ _ g t cs _ d hp (HM.get i hi) hd ?_ (sizB_spec hs)
    cases d <;> simp_all
end
/-- Are they rights? -/
def kr (r : Int) : Bool := decide (0 ≤ r) && decide (r ≤ 7)
def withinV (a b : Int) : Bool := kr a && kr b && (Go.bits .andNot .i64 a b == 0)
set_option maxRecDepth 100000 in
set_option maxHeartbeats 1000000 in
theorem within_any (a b : Int) (w : World) : Calls Try.prog 20 #[.int .i64 a, .int .i64 b] w fun e w' => e = .returned (.bool (withinV a b)) ∧ Below w.heap.size w w' := by
  have C1 := fun w => right_any a w
  have C2 := fun w => right_any b w
  generalize hr : withinV a b = r
  have HR := Lib.hid hr; clear hr
  generalize hka : (decide (0 ≤ a) && decide (a ≤ 7)) = ka at C1
  generalize hkb : (decide (0 ≤ b) && decide (b ≤ 7)) = kb at C2
  have HA := Lib.hid hka; have HB := Lib.hid hkb; clear hka hkb
  have HM := Mem.nil w
  go_enter Try.func20, Try.ntmps20
  go_wp2_with (first
    | (go_at_call 18; (with_reducible refine (Go.Proofs.Ytkdiplgnacjakaa.M.call_pure (C1) HM).mono ?_); clear HM; rintro e w_ ⟨rfl, HM⟩; dsimp only)
    | (go_at_call 18; (with_reducible refine (Go.Proofs.Ytkdiplgnacjakaa.M.call_pure (C2) HM).mono ?_); clear HM; rintro e w_ ⟨rfl, HM⟩; dsimp only)
    | (refine Go.Proofs.Ytkdiplgnacjakaa.Mc.at_cmp _ rfl ?_; refine Go.Proofs.Ytkdiplgnacjakaa.Mc.cmp_m rfl _ rfl _ _ _ rfl _ _ _ rfl rfl _ rfl ?_ ?_ <;> (intro hg_; try simp only [decide_eq_true_eq, decide_eq_false_iff_not, Bool.and_eq_true, Bool.or_eq_true, Bool.and_eq_false_iff, Bool.or_eq_false_iff, Bool.not_eq_true', Bool.not_eq_false', beq_iff_eq, bne_iff_ne, beq_eq_false_iff_ne, bne_eq_false_iff_eq, Int.not_lt, Int.not_le, ne_eq] at hg_; first | (exfalso; first | omega | (simp at hg_; done)) | go_simp))
    | ((fail_if_success (refine Go.Proofs.Ytkdiplgnacjakaa.M.lit_t rfl ?_)); (fail_if_success (refine Go.Proofs.Ytkdiplgnacjakaa.M.lit_f rfl ?_)); refine Go.Proofs.Ytkdiplgnacjakaa.M.split_guard rfl rfl ?_ ?_ <;> (intro hg_; simp only [hg_]; try simp only [decide_eq_true_eq, decide_eq_false_iff_not, Bool.and_eq_true, Bool.or_eq_true, Bool.and_eq_false_iff, Bool.or_eq_false_iff, Bool.not_eq_true', Bool.not_eq_false', beq_iff_eq, bne_iff_ne, beq_eq_false_iff_ne, bne_eq_false_iff_eq, Int.not_lt, Int.not_le, ne_eq] at hg_)))
  all_goals
    go_ret
    refine ⟨congrArg (fun z => Ending.returned (Value.bool z)) ?_, HM.none.to_below⟩
    rw [← HR.out]
    unfold withinV kr
    rw [HA.out, HB.out]
    simp only [*, Bool.true_and, Bool.false_and, Bool.and_true, Bool.and_false]
    try (first | rfl | simp [*])
set_option maxRecDepth 100000 in
set_option maxHeartbeats 1000000 in
theorem rleaf_bad (level out r : Int) (h : level < 1 ∨ 3 < level ∨ kr r = false) (w : World) : Calls Try.prog 22 #[.int .i64 level, .int .u64 out, .int .i64 r] w fun e w' => e = .returned (.tuple #[.agg #[.int .i64 0, .int .u64 0, .bool false, .bool false, .bool false, .bool false, .int .i64 0], .int .i64 12]) ∧ Below w.heap.size w w' := by
  have C1 := fun w => right_any r w
  change ∀ w, Calls _ _ _ _ (fun e w' => e = Ending.returned (.bool (kr r)) ∧ _) at C1
  generalize kr r = k at C1 h
  have HH := Lib.hid h; clear h
  have HM := Mem.nil w
  go_enter Try.func22, Try.ntmps22
  go_wp2_with (first
    | (go_at_call 18; (with_reducible refine (Go.Proofs.Ytkdiplgnacjakaa.M.call_pure (C1) HM).mono ?_); clear HM; rintro e w_ ⟨rfl, HM⟩; dsimp only)
    | (refine Go.Proofs.Ytkdiplgnacjakaa.M.at_mem rfl ?_; first | (refine Go.Proofs.Ytkdiplgnacjakaa.M.at_load 31 rfl ?_; first | (refine Go.Proofs.Ytkdiplgnacjakaa.M.load_row_m HM rfl 31 _ rfl 0 _ _ _ rfl rfl (by kernel_rfl) (by kernel_rfl) ?_; go_simp)) | (refine Go.Proofs.Ytkdiplgnacjakaa.M.at_store 3 rfl ?_; first | (refine Go.Proofs.Ytkdiplgnacjakaa.M.store_cell_m HM rfl 3 _ _ rfl 0 _ _ _ _ _ rfl rfl rfl (by kernel_rfl) rfl (by simp) ?_; clear HM; intro w_ HM; (try simp only [List.set_cons_zero, List.set_cons_succ, List.setIfInBounds_toArray, List.eraseIdx_cons_zero, List.eraseIdx_cons_succ, List.cons_append, List.nil_append] at HM); go_simp)) | (refine Go.Proofs.Ytkdiplgnacjakaa.M.at_store 4 rfl ?_; first | (refine Go.Proofs.Ytkdiplgnacjakaa.M.store_cell_m HM rfl 4 _ _ rfl 0 _ _ _ _ _ rfl rfl rfl (by kernel_rfl) rfl (by simp) ?_; clear HM; intro w_ HM; (try simp only [List.set_cons_zero, List.set_cons_succ, List.setIfInBounds_toArray, List.eraseIdx_cons_zero, List.eraseIdx_cons_succ, List.cons_append, List.nil_append] at HM); go_simp)) | (refine Go.Proofs.Ytkdiplgnacjakaa.M.at_store 31 rfl ?_; first | (refine Go.Proofs.Ytkdiplgnacjakaa.M.store_row_m HM rfl 31 _ _ rfl 0 _ _ _ _ rfl rfl rfl (by kernel_rfl) rfl (by simp [Value.oneCell']) ?_; clear HM; intro w_ HM; (try simp only [List.set_cons_zero, List.set_cons_succ, List.setIfInBounds_toArray, List.eraseIdx_cons_zero, List.eraseIdx_cons_succ, List.cons_append, List.nil_append] at HM); go_simp)) | (refine Go.Proofs.Ytkdiplgnacjakaa.M.at_alloc 31 rfl ?_; first | (refine Go.Proofs.Ytkdiplgnacjakaa.M.alloc_m HM rfl rfl 31 rfl (.agg #[(.int .i64 0), (.int .u64 0), (.bool false), (.bool false), (.bool false), (.bool false), (.int .i64 0)]) (by kernel_rfl) #[(.int .i64 0), (.int .u64 0), (.bool false), (.bool false), (.bool false), (.bool false), (.int .i64 0)] rfl ?_; clear HM; intro g_ w_ HM; go_simp)) | ((fail_if_success (refine Go.Proofs.Ytkdiplgnacjakaa.M.lit_t rfl ?_)); (fail_if_success (refine Go.Proofs.Ytkdiplgnacjakaa.M.lit_f rfl ?_)); refine Go.Proofs.Ytkdiplgnacjakaa.M.split_guard rfl rfl ?_ ?_ <;> (intro hg_; simp only [hg_]; try simp only [decide_eq_true_eq, decide_eq_false_iff_not, Bool.and_eq_true, Bool.or_eq_true, Bool.and_eq_false_iff, Bool.or_eq_false_iff, Bool.not_eq_true', Bool.not_eq_false', beq_iff_eq, bne_iff_ne, beq_eq_false_iff_ne, bne_eq_false_iff_eq, Int.not_lt, Int.not_le, ne_eq] at hg_)))
    | (refine Go.Proofs.Ytkdiplgnacjakaa.Mc.at_cmp _ rfl ?_; refine Go.Proofs.Ytkdiplgnacjakaa.Mc.cmp_m rfl _ rfl _ _ _ rfl _ _ _ rfl rfl _ rfl ?_ ?_ <;> (intro hg_; try simp only [decide_eq_true_eq, decide_eq_false_iff_not, Bool.and_eq_true, Bool.or_eq_true, Bool.and_eq_false_iff, Bool.or_eq_false_iff, Bool.not_eq_true', Bool.not_eq_false', beq_iff_eq, bne_iff_ne, beq_eq_false_iff_ne, bne_eq_false_iff_eq, Int.not_lt, Int.not_le, ne_eq] at hg_; first | (exfalso; first | omega | (simp at hg_; done)) | go_simp))
    | ((fail_if_success (refine Go.Proofs.Ytkdiplgnacjakaa.M.lit_t rfl ?_)); (fail_if_success (refine Go.Proofs.Ytkdiplgnacjakaa.M.lit_f rfl ?_)); refine Go.Proofs.Ytkdiplgnacjakaa.M.split_guard rfl rfl ?_ ?_ <;> (intro hg_; simp only [hg_]; try simp only [decide_eq_true_eq, decide_eq_false_iff_not, Bool.and_eq_true, Bool.or_eq_true, Bool.and_eq_false_iff, Bool.or_eq_false_iff, Bool.not_eq_true', Bool.not_eq_false', beq_iff_eq, bne_iff_ne, beq_eq_false_iff_ne, bne_eq_false_iff_eq, Int.not_lt, Int.not_le, ne_eq] at hg_)))
  all_goals
    first
    | (refine bodyPost_ret (res_ct HM rfl _ 0 _ _ _ rfl rfl (by kernel_rfl) (by kernel_rfl)) rfl ?_; exact ⟨rfl, HM.none.to_below⟩)
    | (exfalso; have H := HH.out; first | (rcases H with H | H | H <;> (first | (simp only [*] at H; omega) | omega | simp_all)) | (rcases H with H | H <;> (first | omega | simp_all)))
set_option maxRecDepth 100000 in
set_option maxHeartbeats 1000000 in
theorem rleaf_align (level out r : Int) (h0 : 0 ≤ out) (h1 : out < 18446744073709551616) (l1 : 1 ≤ level) (l3 : level ≤ 3) (hk : kr r = true) (h : 281474976710656 ≤ out ∨ al out (lbits level) = false) (w : World) : Calls Try.prog 22 #[.int .i64 level, .int .u64 out, .int .i64 r] w fun e w' => e = .returned (.tuple #[.agg #[.int .i64 0, .int .u64 0, .bool false, .bool false, .bool false, .bool false, .int .i64 0], .int .i64 13]) ∧ Below w.heap.size w w' := by
  have C1 := fun w => right_any r w
  change ∀ w, Calls _ _ _ _ (fun e w' => e = Ending.returned (.bool (kr r)) ∧ _) at C1
  rw [hk] at C1
  have CB := fun w => bits_any level w
  have CA := fun w => aligned_any out (lbits level) h0 h1 w
  generalize al out (lbits level) = ab at CA h
  generalize lbits level = lb at CB CA
  have HH := Lib.hid h; clear h hk
  have HM := Mem.nil w
  go_enter Try.func22, Try.ntmps22
  go_wp2_with (first
    | (go_at_call 18; (with_reducible refine (Go.Proofs.Ytkdiplgnacjakaa.M.call_pure (C1) HM).mono ?_); clear HM; rintro e w_ ⟨rfl, HM⟩; dsimp only)
    | (go_at_call 31; (with_reducible refine (Go.Proofs.Ytkdiplgnacjakaa.M.call_pure (CB) HM).mono ?_); clear HM; rintro e w_ ⟨rfl, HM⟩; dsimp only)
    | (go_at_call 38; (with_reducible refine (Go.Proofs.Ytkdiplgnacjakaa.M.call_pure (CA) HM).mono ?_); clear HM; rintro e w_ ⟨rfl, HM⟩; dsimp only)
    | (refine Go.Proofs.Ytkdiplgnacjakaa.M.at_mem rfl ?_; first | (refine Go.Proofs.Ytkdiplgnacjakaa.M.at_load 31 rfl ?_; first | (refine Go.Proofs.Ytkdiplgnacjakaa.M.load_row_m HM rfl 31 _ rfl 0 _ _ _ rfl rfl (by kernel_rfl) (by kernel_rfl) ?_; go_simp)) | (refine Go.Proofs.Ytkdiplgnacjakaa.M.at_store 3 rfl ?_; first | (refine Go.Proofs.Ytkdiplgnacjakaa.M.store_cell_m HM rfl 3 _ _ rfl 0 _ _ _ _ _ rfl rfl rfl (by kernel_rfl) rfl (by simp) ?_; clear HM; intro w_ HM; (try simp only [List.set_cons_zero, List.set_cons_succ, List.setIfInBounds_toArray, List.eraseIdx_cons_zero, List.eraseIdx_cons_succ, List.cons_append, List.nil_append] at HM); go_simp)) | (refine Go.Proofs.Ytkdiplgnacjakaa.M.at_store 4 rfl ?_; first | (refine Go.Proofs.Ytkdiplgnacjakaa.M.store_cell_m HM rfl 4 _ _ rfl 0 _ _ _ _ _ rfl rfl rfl (by kernel_rfl) rfl (by simp) ?_; clear HM; intro w_ HM; (try simp only [List.set_cons_zero, List.set_cons_succ, List.setIfInBounds_toArray, List.eraseIdx_cons_zero, List.eraseIdx_cons_succ, List.cons_append, List.nil_append] at HM); go_simp)) | (refine Go.Proofs.Ytkdiplgnacjakaa.M.at_store 31 rfl ?_; first | (refine Go.Proofs.Ytkdiplgnacjakaa.M.store_row_m HM rfl 31 _ _ rfl 0 _ _ _ _ rfl rfl rfl (by kernel_rfl) rfl (by simp [Value.oneCell']) ?_; clear HM; intro w_ HM; (try simp only [List.set_cons_zero, List.set_cons_succ, List.setIfInBounds_toArray, List.eraseIdx_cons_zero, List.eraseIdx_cons_succ, List.cons_append, List.nil_append] at HM); go_simp)) | (refine Go.Proofs.Ytkdiplgnacjakaa.M.at_alloc 31 rfl ?_; first | (refine Go.Proofs.Ytkdiplgnacjakaa.M.alloc_m HM rfl rfl 31 rfl (.agg #[(.int .i64 0), (.int .u64 0), (.bool false), (.bool false), (.bool false), (.bool false), (.int .i64 0)]) (by kernel_rfl) #[(.int .i64 0), (.int .u64 0), (.bool false), (.bool false), (.bool false), (.bool false), (.int .i64 0)] rfl ?_; clear HM; intro g_ w_ HM; go_simp)) | ((fail_if_success (refine Go.Proofs.Ytkdiplgnacjakaa.M.lit_t rfl ?_)); (fail_if_success (refine Go.Proofs.Ytkdiplgnacjakaa.M.lit_f rfl ?_)); refine Go.Proofs.Ytkdiplgnacjakaa.M.split_guard rfl rfl ?_ ?_ <;> (intro hg_; simp only [hg_]; try simp only [decide_eq_true_eq, decide_eq_false_iff_not, Bool.and_eq_true, Bool.or_eq_true, Bool.and_eq_false_iff, Bool.or_eq_false_iff, Bool.not_eq_true', Bool.not_eq_false', beq_iff_eq, bne_iff_ne, beq_eq_false_iff_ne, bne_eq_false_iff_eq, Int.not_lt, Int.not_le, ne_eq] at hg_)))
    | (refine Go.Proofs.Ytkdiplgnacjakaa.Mc.at_cmp _ rfl ?_; refine Go.Proofs.Ytkdiplgnacjakaa.Mc.cmp_m rfl _ rfl _ _ _ rfl _ _ _ rfl rfl _ rfl ?_ ?_ <;> (intro hg_; try simp only [decide_eq_true_eq, decide_eq_false_iff_not, Bool.and_eq_true, Bool.or_eq_true, Bool.and_eq_false_iff, Bool.or_eq_false_iff, Bool.not_eq_true', Bool.not_eq_false', beq_iff_eq, bne_iff_ne, beq_eq_false_iff_ne, bne_eq_false_iff_eq, Int.not_lt, Int.not_le, ne_eq] at hg_; first | (exfalso; first | omega | (simp at hg_; done)) | go_simp))
    | ((fail_if_success (refine Go.Proofs.Ytkdiplgnacjakaa.M.lit_t rfl ?_)); (fail_if_success (refine Go.Proofs.Ytkdiplgnacjakaa.M.lit_f rfl ?_)); refine Go.Proofs.Ytkdiplgnacjakaa.M.split_guard rfl rfl ?_ ?_ <;> (intro hg_; simp only [hg_]; try simp only [decide_eq_true_eq, decide_eq_false_iff_not, Bool.and_eq_true, Bool.or_eq_true, Bool.and_eq_false_iff, Bool.or_eq_false_iff, Bool.not_eq_true', Bool.not_eq_false', beq_iff_eq, bne_iff_ne, beq_eq_false_iff_ne, bne_eq_false_iff_eq, Int.not_lt, Int.not_le, ne_eq] at hg_)))
  all_goals
    first
    | (refine bodyPost_ret (res_ct HM rfl _ 0 _ _ _ rfl rfl (by kernel_rfl) (by kernel_rfl)) rfl ?_; exact ⟨rfl, HM.none.to_below⟩)
    | (exfalso; have H := HH.out; first | (rcases H with H | H | H <;> (first | (simp only [*] at H; omega) | omega | simp_all)) | (rcases H with H | H <;> (first | omega | simp_all)))
set_option maxRecDepth 100000 in
set_option maxHeartbeats 1000000 in
theorem rleaf_ok (level out r : Int) (h0 : 0 ≤ out) (h1 : out < 281474976710656) (l1 : 1 ≤ level) (l3 : level ≤ 3) (hk : kr r = true) (h : al out (lbits level) = true) (w : World) : Calls Try.prog 22 #[.int .i64 level, .int .u64 out, .int .i64 r] w fun e w' => e = .returned (.tuple #[.agg #[.int .i64 (if level = 3 then 3 else 2), .int .u64 out, .bool (withinV 1 r), .bool (withinV 3 r), .bool (withinV 5 r), .bool true, .int .i64 0], .int .i64 0]) ∧ Below w.heap.size w w' := by
  have C1 := fun w => right_any r w
  change ∀ w, Calls _ _ _ _ (fun e w' => e = Ending.returned (.bool (kr r)) ∧ _) at C1
  rw [hk] at C1
  have CB := fun w => bits_any level w
  have CA := fun w => aligned_any out (lbits level) h0 (by omega) w
  rw [h] at CA
  have W1 := fun w => within_any 1 r w
  have W3 := fun w => within_any 3 r w
  have W5 := fun w => within_any 5 r w
  generalize lbits level = lb at CB CA
  generalize withinV 1 r = x1 at W1
  generalize withinV 3 r = x3 at W3
  generalize withinV 5 r = x5 at W5
  clear h hk
  have HM := Mem.nil w
  by_cases e3 : level = 3
  · subst e3
    go_enter Try.func22, Try.ntmps22
    go_wp2_with (first
      | (go_at_call 18; (with_reducible refine (Go.Proofs.Ytkdiplgnacjakaa.M.call_pure (C1) HM).mono ?_); clear HM; rintro e w_ ⟨rfl, HM⟩; dsimp only)
      | (go_at_call 31; (with_reducible refine (Go.Proofs.Ytkdiplgnacjakaa.M.call_pure (CB) HM).mono ?_); clear HM; rintro e w_ ⟨rfl, HM⟩; dsimp only)
      | (go_at_call 38; (with_reducible refine (Go.Proofs.Ytkdiplgnacjakaa.M.call_pure (CA) HM).mono ?_); clear HM; rintro e w_ ⟨rfl, HM⟩; dsimp only)
      | (go_at_call 20; (with_reducible refine (Go.Proofs.Ytkdiplgnacjakaa.M.call_pure (W1) HM).mono ?_); clear HM; rintro e w_ ⟨rfl, HM⟩; dsimp only)
      | (go_at_call 20; (with_reducible refine (Go.Proofs.Ytkdiplgnacjakaa.M.call_pure (W3) HM).mono ?_); clear HM; rintro e w_ ⟨rfl, HM⟩; dsimp only)
      | (go_at_call 20; (with_reducible refine (Go.Proofs.Ytkdiplgnacjakaa.M.call_pure (W5) HM).mono ?_); clear HM; rintro e w_ ⟨rfl, HM⟩; dsimp only)
      | (refine Go.Proofs.Ytkdiplgnacjakaa.M.at_mem rfl ?_; first | (refine Go.Proofs.Ytkdiplgnacjakaa.M.at_load 31 rfl ?_; first | (refine Go.Proofs.Ytkdiplgnacjakaa.M.load_row_m HM rfl 31 _ rfl 0 _ _ _ rfl rfl (by kernel_rfl) (by kernel_rfl) ?_; go_simp) | (refine Go.Proofs.Ytkdiplgnacjakaa.M.load_row_m HM rfl 31 _ rfl 1 _ _ _ rfl rfl (by kernel_rfl) (by kernel_rfl) ?_; go_simp)) | (refine Go.Proofs.Ytkdiplgnacjakaa.M.at_store 3 rfl ?_; first | (refine Go.Proofs.Ytkdiplgnacjakaa.M.store_cell_m HM rfl 3 _ _ rfl 0 _ _ _ _ _ rfl rfl rfl (by kernel_rfl) rfl (by simp) ?_; clear HM; intro w_ HM; (try simp only [List.set_cons_zero, List.set_cons_succ, List.setIfInBounds_toArray, List.eraseIdx_cons_zero, List.eraseIdx_cons_succ, List.cons_append, List.nil_append] at HM); go_simp) | (refine Go.Proofs.Ytkdiplgnacjakaa.M.store_cell_m HM rfl 3 _ _ rfl 1 _ _ _ _ _ rfl rfl rfl (by kernel_rfl) rfl (by simp) ?_; clear HM; intro w_ HM; (try simp only [List.set_cons_zero, List.set_cons_succ, List.setIfInBounds_toArray, List.eraseIdx_cons_zero, List.eraseIdx_cons_succ, List.cons_append, List.nil_append] at HM); go_simp)) | (refine Go.Proofs.Ytkdiplgnacjakaa.M.at_store 4 rfl ?_; first | (refine Go.Proofs.Ytkdiplgnacjakaa.M.store_cell_m HM rfl 4 _ _ rfl 0 _ _ _ _ _ rfl rfl rfl (by kernel_rfl) rfl (by simp) ?_; clear HM; intro w_ HM; (try simp only [List.set_cons_zero, List.set_cons_succ, List.setIfInBounds_toArray, List.eraseIdx_cons_zero, List.eraseIdx_cons_succ, List.cons_append, List.nil_append] at HM); go_simp) | (refine Go.Proofs.Ytkdiplgnacjakaa.M.store_cell_m HM rfl 4 _ _ rfl 1 _ _ _ _ _ rfl rfl rfl (by kernel_rfl) rfl (by simp) ?_; clear HM; intro w_ HM; (try simp only [List.set_cons_zero, List.set_cons_succ, List.setIfInBounds_toArray, List.eraseIdx_cons_zero, List.eraseIdx_cons_succ, List.cons_append, List.nil_append] at HM); go_simp)) | (refine Go.Proofs.Ytkdiplgnacjakaa.M.at_store 31 rfl ?_; first | (refine Go.Proofs.Ytkdiplgnacjakaa.M.store_row_m HM rfl 31 _ _ rfl 0 _ _ _ _ rfl rfl rfl (by kernel_rfl) rfl (by simp [Value.oneCell']) ?_; clear HM; intro w_ HM; (try simp only [List.set_cons_zero, List.set_cons_succ, List.setIfInBounds_toArray, List.eraseIdx_cons_zero, List.eraseIdx_cons_succ, List.cons_append, List.nil_append] at HM); go_simp) | (refine Go.Proofs.Ytkdiplgnacjakaa.M.store_row_m HM rfl 31 _ _ rfl 1 _ _ _ _ rfl rfl rfl (by kernel_rfl) rfl (by simp [Value.oneCell']) ?_; clear HM; intro w_ HM; (try simp only [List.set_cons_zero, List.set_cons_succ, List.setIfInBounds_toArray, List.eraseIdx_cons_zero, List.eraseIdx_cons_succ, List.cons_append, List.nil_append] at HM); go_simp)) | (refine Go.Proofs.Ytkdiplgnacjakaa.M.at_alloc 31 rfl ?_; first | (refine Go.Proofs.Ytkdiplgnacjakaa.M.alloc_m HM rfl rfl 31 rfl (.agg #[(.int .i64 0), (.int .u64 0), (.bool false), (.bool false), (.bool false), (.bool false), (.int .i64 0)]) (by kernel_rfl) #[(.int .i64 0), (.int .u64 0), (.bool false), (.bool false), (.bool false), (.bool false), (.int .i64 0)] rfl ?_; clear HM; intro g_ w_ HM; go_simp)) | ((fail_if_success (refine Go.Proofs.Ytkdiplgnacjakaa.M.lit_t rfl ?_)); (fail_if_success (refine Go.Proofs.Ytkdiplgnacjakaa.M.lit_f rfl ?_)); refine Go.Proofs.Ytkdiplgnacjakaa.M.split_guard rfl rfl ?_ ?_ <;> (intro hg_; simp only [hg_]; try simp only [decide_eq_true_eq, decide_eq_false_iff_not, Bool.and_eq_true, Bool.or_eq_true, Bool.and_eq_false_iff, Bool.or_eq_false_iff, Bool.not_eq_true', Bool.not_eq_false', beq_iff_eq, bne_iff_ne, beq_eq_false_iff_ne, bne_eq_false_iff_eq, Int.not_lt, Int.not_le, ne_eq] at hg_)))
      | (refine Go.Proofs.Ytkdiplgnacjakaa.Mc.at_cmp _ rfl ?_; refine Go.Proofs.Ytkdiplgnacjakaa.Mc.cmp_m rfl _ rfl _ _ _ rfl _ _ _ rfl rfl _ rfl ?_ ?_ <;> (intro hg_; try simp only [decide_eq_true_eq, decide_eq_false_iff_not, Bool.and_eq_true, Bool.or_eq_true, Bool.and_eq_false_iff, Bool.or_eq_false_iff, Bool.not_eq_true', Bool.not_eq_false', beq_iff_eq, bne_iff_ne, beq_eq_false_iff_ne, bne_eq_false_iff_eq, Int.not_lt, Int.not_le, ne_eq] at hg_; first | (exfalso; first | omega | (simp at hg_; done)) | go_simp))
      | ((fail_if_success (refine Go.Proofs.Ytkdiplgnacjakaa.M.lit_t rfl ?_)); (fail_if_success (refine Go.Proofs.Ytkdiplgnacjakaa.M.lit_f rfl ?_)); refine Go.Proofs.Ytkdiplgnacjakaa.M.split_guard rfl rfl ?_ ?_ <;> (intro hg_; simp only [hg_]; try simp only [decide_eq_true_eq, decide_eq_false_iff_not, Bool.and_eq_true, Bool.or_eq_true, Bool.and_eq_false_iff, Bool.or_eq_false_iff, Bool.not_eq_true', Bool.not_eq_false', beq_iff_eq, bne_iff_ne, beq_eq_false_iff_ne, bne_eq_false_iff_eq, Int.not_lt, Int.not_le, ne_eq] at hg_)))
    all_goals
      first | (refine bodyPost_ret (res_ct HM rfl _ 1 _ _ _ rfl rfl (by kernel_rfl) (by kernel_rfl)) rfl ?_; exact ⟨rfl, HM.none.to_below⟩) | (refine bodyPost_ret (res_ct HM rfl _ 0 _ _ _ rfl rfl (by kernel_rfl) (by kernel_rfl)) rfl ?_; exact ⟨rfl, HM.none.to_below⟩)
  · replace l3 : level < 3 := by omega
    rw [if_neg e3]
    clear e3
    go_enter Try.func22, Try.ntmps22
    go_wp2_with (first
      | (go_at_call 18; (with_reducible refine (Go.Proofs.Ytkdiplgnacjakaa.M.call_pure (C1) HM).mono ?_); clear HM; rintro e w_ ⟨rfl, HM⟩; dsimp only)
      | (go_at_call 31; (with_reducible refine (Go.Proofs.Ytkdiplgnacjakaa.M.call_pure (CB) HM).mono ?_); clear HM; rintro e w_ ⟨rfl, HM⟩; dsimp only)
      | (go_at_call 38; (with_reducible refine (Go.Proofs.Ytkdiplgnacjakaa.M.call_pure (CA) HM).mono ?_); clear HM; rintro e w_ ⟨rfl, HM⟩; dsimp only)
      | (go_at_call 20; (with_reducible refine (Go.Proofs.Ytkdiplgnacjakaa.M.call_pure (W1) HM).mono ?_); clear HM; rintro e w_ ⟨rfl, HM⟩; dsimp only)
      | (go_at_call 20; (with_reducible refine (Go.Proofs.Ytkdiplgnacjakaa.M.call_pure (W3) HM).mono ?_); clear HM; rintro e w_ ⟨rfl, HM⟩; dsimp only)
      | (go_at_call 20; (with_reducible refine (Go.Proofs.Ytkdiplgnacjakaa.M.call_pure (W5) HM).mono ?_); clear HM; rintro e w_ ⟨rfl, HM⟩; dsimp only)
      | (refine Go.Proofs.Ytkdiplgnacjakaa.M.at_mem rfl ?_; first | (refine Go.Proofs.Ytkdiplgnacjakaa.M.at_load 31 rfl ?_; first | (refine Go.Proofs.Ytkdiplgnacjakaa.M.load_row_m HM rfl 31 _ rfl 0 _ _ _ rfl rfl (by kernel_rfl) (by kernel_rfl) ?_; go_simp) | (refine Go.Proofs.Ytkdiplgnacjakaa.M.load_row_m HM rfl 31 _ rfl 1 _ _ _ rfl rfl (by kernel_rfl) (by kernel_rfl) ?_; go_simp)) | (refine Go.Proofs.Ytkdiplgnacjakaa.M.at_store 3 rfl ?_; first | (refine Go.Proofs.Ytkdiplgnacjakaa.M.store_cell_m HM rfl 3 _ _ rfl 0 _ _ _ _ _ rfl rfl rfl (by kernel_rfl) rfl (by simp) ?_; clear HM; intro w_ HM; (try simp only [List.set_cons_zero, List.set_cons_succ, List.setIfInBounds_toArray, List.eraseIdx_cons_zero, List.eraseIdx_cons_succ, List.cons_append, List.nil_append] at HM); go_simp) | (refine Go.Proofs.Ytkdiplgnacjakaa.M.store_cell_m HM rfl 3 _ _ rfl 1 _ _ _ _ _ rfl rfl rfl (by kernel_rfl) rfl (by simp) ?_; clear HM; intro w_ HM; (try simp only [List.set_cons_zero, List.set_cons_succ, List.setIfInBounds_toArray, List.eraseIdx_cons_zero, List.eraseIdx_cons_succ, List.cons_append, List.nil_append] at HM); go_simp)) | (refine Go.Proofs.Ytkdiplgnacjakaa.M.at_store 4 rfl ?_; first | (refine Go.Proofs.Ytkdiplgnacjakaa.M.store_cell_m HM rfl 4 _ _ rfl 0 _ _ _ _ _ rfl rfl rfl (by kernel_rfl) rfl (by simp) ?_; clear HM; intro w_ HM; (try simp only [List.set_cons_zero, List.set_cons_succ, List.setIfInBounds_toArray, List.eraseIdx_cons_zero, List.eraseIdx_cons_succ, List.cons_append, List.nil_append] at HM); go_simp) | (refine Go.Proofs.Ytkdiplgnacjakaa.M.store_cell_m HM rfl 4 _ _ rfl 1 _ _ _ _ _ rfl rfl rfl (by kernel_rfl) rfl (by simp) ?_; clear HM; intro w_ HM; (try simp only [List.set_cons_zero, List.set_cons_succ, List.setIfInBounds_toArray, List.eraseIdx_cons_zero, List.eraseIdx_cons_succ, List.cons_append, List.nil_append] at HM); go_simp)) | (refine Go.Proofs.Ytkdiplgnacjakaa.M.at_store 31 rfl ?_; first | (refine Go.Proofs.Ytkdiplgnacjakaa.M.store_row_m HM rfl 31 _ _ rfl 0 _ _ _ _ rfl rfl rfl (by kernel_rfl) rfl (by simp [Value.oneCell']) ?_; clear HM; intro w_ HM; (try simp only [List.set_cons_zero, List.set_cons_succ, List.setIfInBounds_toArray, List.eraseIdx_cons_zero, List.eraseIdx_cons_succ, List.cons_append, List.nil_append] at HM); go_simp) | (refine Go.Proofs.Ytkdiplgnacjakaa.M.store_row_m HM rfl 31 _ _ rfl 1 _ _ _ _ rfl rfl rfl (by kernel_rfl) rfl (by simp [Value.oneCell']) ?_; clear HM; intro w_ HM; (try simp only [List.set_cons_zero, List.set_cons_succ, List.setIfInBounds_toArray, List.eraseIdx_cons_zero, List.eraseIdx_cons_succ, List.cons_append, List.nil_append] at HM); go_simp)) | (refine Go.Proofs.Ytkdiplgnacjakaa.M.at_alloc 31 rfl ?_; first | (refine Go.Proofs.Ytkdiplgnacjakaa.M.alloc_m HM rfl rfl 31 rfl (.agg #[(.int .i64 0), (.int .u64 0), (.bool false), (.bool false), (.bool false), (.bool false), (.int .i64 0)]) (by kernel_rfl) #[(.int .i64 0), (.int .u64 0), (.bool false), (.bool false), (.bool false), (.bool false), (.int .i64 0)] rfl ?_; clear HM; intro g_ w_ HM; go_simp)) | ((fail_if_success (refine Go.Proofs.Ytkdiplgnacjakaa.M.lit_t rfl ?_)); (fail_if_success (refine Go.Proofs.Ytkdiplgnacjakaa.M.lit_f rfl ?_)); refine Go.Proofs.Ytkdiplgnacjakaa.M.split_guard rfl rfl ?_ ?_ <;> (intro hg_; simp only [hg_]; try simp only [decide_eq_true_eq, decide_eq_false_iff_not, Bool.and_eq_true, Bool.or_eq_true, Bool.and_eq_false_iff, Bool.or_eq_false_iff, Bool.not_eq_true', Bool.not_eq_false', beq_iff_eq, bne_iff_ne, beq_eq_false_iff_ne, bne_eq_false_iff_eq, Int.not_lt, Int.not_le, ne_eq] at hg_)))
      | (refine Go.Proofs.Ytkdiplgnacjakaa.Mc.at_cmp _ rfl ?_; refine Go.Proofs.Ytkdiplgnacjakaa.Mc.cmp_m rfl _ rfl _ _ _ rfl _ _ _ rfl rfl _ rfl ?_ ?_ <;> (intro hg_; try simp only [decide_eq_true_eq, decide_eq_false_iff_not, Bool.and_eq_true, Bool.or_eq_true, Bool.and_eq_false_iff, Bool.or_eq_false_iff, Bool.not_eq_true', Bool.not_eq_false', beq_iff_eq, bne_iff_ne, beq_eq_false_iff_ne, bne_eq_false_iff_eq, Int.not_lt, Int.not_le, ne_eq] at hg_; first | (exfalso; first | omega | (simp at hg_; done)) | go_simp))
      | ((fail_if_success (refine Go.Proofs.Ytkdiplgnacjakaa.M.lit_t rfl ?_)); (fail_if_success (refine Go.Proofs.Ytkdiplgnacjakaa.M.lit_f rfl ?_)); refine Go.Proofs.Ytkdiplgnacjakaa.M.split_guard rfl rfl ?_ ?_ <;> (intro hg_; simp only [hg_]; try simp only [decide_eq_true_eq, decide_eq_false_iff_not, Bool.and_eq_true, Bool.or_eq_true, Bool.and_eq_false_iff, Bool.or_eq_false_iff, Bool.not_eq_true', Bool.not_eq_false', beq_iff_eq, bne_iff_ne, beq_eq_false_iff_ne, bne_eq_false_iff_eq, Int.not_lt, Int.not_le, ne_eq] at hg_)))
    all_goals
      first | (refine bodyPost_ret (res_ct HM rfl _ 1 _ _ _ rfl rfl (by kernel_rfl) (by kernel_rfl)) rfl ?_; exact ⟨rfl, HM.none.to_below⟩) | (refine bodyPost_ret (res_ct HM rfl _ 0 _ _ _ rfl rfl (by kernel_rfl) (by kernel_rfl)) rfl ?_; exact ⟨rfl, HM.none.to_below⟩)
end Go.Proofs.Ytkdiplgnacjakaa.Re
