/- right.Right, right.Show, right.Parse, portreeveref10.Has: what each call answers. -/
import Derived.Test.YtkdiplgnacjakaaProg
import Derived.Test.YtkdiplgnacjakaaG
import Derived.Test.YtkdiplgnacjakaaB
import Derived.Test.YtkdiplgnacjakaaHa
import Derived.Test.YtkdiplgnacjakaaMs
namespace Go.Proofs.Ytkdiplgnacjakaa.Rt
open Go.RowKit Go.Proofs.Ytkdiplgnacjakaa.G Go.Proofs.Ytkdiplgnacjakaa.B Go.Proofs.Ytkdiplgnacjakaa.Ha Go.Proofs.Ytkdiplgnacjakaa.M

set_option linter.unusedVariables false
set_option linter.unusedSimpArgs false
theorem bits_cell (x : Int) (i : Nat) (hi : i < 64) : (bcells (bitsL x))[i]? = some (.bool (decide (x / 2 ^ i % 2 = 1))) := by
  rw [bcells_get _ _ (by rw [bitsL_length]; exact hi), bitsL_getD x i hi]
set_option maxRecDepth 100000 in
set_option maxHeartbeats 1000000 in
theorem right_any (r : Int) (w : World) : Calls Try.prog 18 #[.int .i64 r] w fun e w' => e = .returned (.bool (decide (0 ≤ r) && decide (r ≤ 7))) ∧ Below w.heap.size w w' := by
  have hB : Below w.heap.size w w := Below.refl _ _
  by_cases h0 : 0 ≤ r
  · rw [decide_eq_true h0]
    go_enter Try.func18, Try.ntmps18
    go_wp2
    go_ret
    exact ⟨by simp, hB⟩
  · rw [decide_eq_false h0]
    replace h0 : r < 0 := by omega
    go_enter Try.func18, Try.ntmps18
    go_wp2
    go_ret
    exact ⟨by simp, hB⟩
set_option maxRecDepth 100000 in
set_option maxHeartbeats 1000000 in
theorem has_any (r : Int) (n : Nat) (r0 : 0 ≤ r) (r1 : r ≤ 7) (hn : n < 64) (w : World) : Calls Try.prog 15 #[.int .i64 r, .int .i64 n] w fun e w' => e = .returned (.bool (decide (r / 2 ^ n % 2 = 1))) ∧ Below w.heap.size w w' := by
  have CB := fun w => bits_any r r0 (by omega) w
  have hz : (Try.prog.info? 59).map (·.zero) = some (some (.agg (bcells (List.replicate 64 false)))) := by kernel_rfl
  have hs : sizB Try.prog 59 64 = true := by kernel_rfl
  have hS : (bcells (bitsL r)).size = 64 := by simp [bcells_size, bitsL_length]
  have hold : (bcells (List.replicate 64 false)).size = (bcells (bitsL r)).size := by rw [hS]; simp [bcells_size]
  have HZ := Lib.hid hz; clear hz
  have HS := Lib.hid (show sizB Try.prog 59 (bcells (bitsL r)).size = true by rw [hS]; exact hs); clear hs
  have HO := Lib.hid hold; clear hold hS
  have HM := Mem.nil w
  go_enter Try.func15, Try.ntmps15
  go_wp2_with (first
    | (go_at_call 37; (with_reducible refine (Go.Proofs.Ytkdiplgnacjakaa.M.call_pure (CB) HM).mono ?_); clear HM; rintro e w_ ⟨rfl, HM⟩; dsimp only)
    | (refine Go.Proofs.Ytkdiplgnacjakaa.M.at_mem rfl ?_; first | (refine Go.Proofs.Ytkdiplgnacjakaa.M.at_load 4 rfl ?_; first | (refine load_cell_m HM rfl 4 _ rfl 0 _ n _ (bcells (bitsL r)) _ rfl rfl (bits_cell r n hn) (by kernel_rfl) (by kernel_rfl) ?_; go_simp) | (refine Go.Proofs.Ytkdiplgnacjakaa.M.load_cell_m HM rfl 4 _ rfl 0 _ _ _ _ _ rfl rfl rfl (by kernel_rfl) (by kernel_rfl) ?_; go_simp) | (refine Go.Proofs.Ytkdiplgnacjakaa.M.load_cell_m HM rfl 4 _ rfl 1 _ _ _ _ _ rfl rfl rfl (by kernel_rfl) (by kernel_rfl) ?_; go_simp)) | (refine Go.Proofs.Ytkdiplgnacjakaa.M.at_store 59 rfl ?_; first | (refine store_row_m HM rfl 59 _ _ rfl 0 _ _ _ (bcells (bitsL r)) rfl rfl rfl HS.out HO.out (bcells_one _) ?_; clear HM; intro w_ HM; try simp only [List.set_cons_zero] at HM; go_simp) | (refine Go.Proofs.Ytkdiplgnacjakaa.M.store_row_m HM rfl 59 _ _ rfl 0 _ _ _ _ rfl rfl rfl (by kernel_rfl) rfl (by simp [Value.oneCell']) ?_; clear HM; intro w_ HM; (try simp only [List.set_cons_zero, List.set_cons_succ, List.setIfInBounds_toArray, List.eraseIdx_cons_zero, List.eraseIdx_cons_succ, List.cons_append, List.nil_append] at HM); go_simp) | (refine Go.Proofs.Ytkdiplgnacjakaa.M.store_row_m HM rfl 59 _ _ rfl 1 _ _ _ _ rfl rfl rfl (by kernel_rfl) rfl (by simp [Value.oneCell']) ?_; clear HM; intro w_ HM; (try simp only [List.set_cons_zero, List.set_cons_succ, List.setIfInBounds_toArray, List.eraseIdx_cons_zero, List.eraseIdx_cons_succ, List.cons_append, List.nil_append] at HM); go_simp)) | (refine Go.Proofs.Ytkdiplgnacjakaa.M.at_alloc 59 rfl ?_; first | (refine alloc_m HM rfl rfl 59 rfl (.agg (bcells (List.replicate 64 false))) HZ.out (bcells (List.replicate 64 false)) rfl ?_; clear HM; intro gb w_ HM; go_simp)) | ((fail_if_success (refine Go.Proofs.Ytkdiplgnacjakaa.M.lit_t rfl ?_)); (fail_if_success (refine Go.Proofs.Ytkdiplgnacjakaa.M.lit_f rfl ?_)); refine Go.Proofs.Ytkdiplgnacjakaa.M.split_guard rfl rfl ?_ ?_ <;> (intro hg_; simp only [hg_]; try simp only [decide_eq_true_eq, decide_eq_false_iff_not, Bool.and_eq_true, Bool.or_eq_true, Bool.and_eq_false_iff, Bool.or_eq_false_iff, Bool.not_eq_true', Bool.not_eq_false', beq_iff_eq, bne_iff_ne, beq_eq_false_iff_ne, bne_eq_false_iff_eq, Int.not_lt, Int.not_le, ne_eq] at hg_)))
    | ((fail_if_success (refine Go.Proofs.Ytkdiplgnacjakaa.M.lit_t rfl ?_)); (fail_if_success (refine Go.Proofs.Ytkdiplgnacjakaa.M.lit_f rfl ?_)); refine Go.Proofs.Ytkdiplgnacjakaa.M.split_guard rfl rfl ?_ ?_ <;> (intro hg_; simp only [hg_]; try simp only [decide_eq_true_eq, decide_eq_false_iff_not, Bool.and_eq_true, Bool.or_eq_true, Bool.and_eq_false_iff, Bool.or_eq_false_iff, Bool.not_eq_true', Bool.not_eq_false', beq_iff_eq, bne_iff_ne, beq_eq_false_iff_ne, bne_eq_false_iff_eq, Int.not_lt, Int.not_le, ne_eq] at hg_)))
  go_ret
  exact ⟨rfl, HM.none.to_below⟩
def showS (r : Int) : ByteArray := ⟨#[if r % 2 = 1 then 114 else 45, if r / 2 % 2 = 1 then 119 else 45, if r / 4 % 2 = 1 then 120 else 45]⟩
set_option maxRecDepth 100000 in
set_option maxHeartbeats 8000000 in
theorem show_any (r : Int) (r0 : 0 ≤ r) (r7 : r ≤ 7) (w : World) : Calls Try.prog 12 #[.int .i64 r] w fun e w' => e = .returned (.string (showS r)) ∧ Below w.heap.size w w' := by
  obtain rfl | rfl | rfl | rfl | rfl | rfl | rfl | rfl : r = 0 ∨ r = 1 ∨ r = 2 ∨ r = 3 ∨ r = 4 ∨ r = 5 ∨ r = 6 ∨ r = 7 := by omega
  all_goals
    have CR : ∀ z : Int, 0 ≤ z → z ≤ 7 → ∀ w, Calls Try.prog 18 #[.int .i64 z] w fun e w' => e = .returned (.bool true) ∧ Below w.heap.size w w' := fun z h0 h7 w => by
      have := right_any z w
      rwa [decide_eq_true h0, decide_eq_true h7] at this
    clear r0 r7
    have HM := Mem.nil w
    go_enter Try.func12, Try.ntmps12
    go_wp2_with (first
      | (refine Go.Proofs.Ytkdiplgnacjakaa.Ms.range_m HM rfl _ rfl _ _ rfl _ rfl (by kernel_rfl) ?_; clear HM; intro g_ w_ HM; go_simp)
      | (refine Go.Proofs.Ytkdiplgnacjakaa.Ms.next_m HM rfl _ rfl _ rfl 0 _ _ _ rfl rfl 114 1 (by decide) (by decide +kernel) ?_; clear HM; intro w_ HM; simp only [List.set_cons_zero] at HM; go_simp)
      | (refine Go.Proofs.Ytkdiplgnacjakaa.Ms.next_m HM rfl _ rfl _ rfl 0 _ _ _ rfl rfl 119 1 (by decide) (by decide +kernel) ?_; clear HM; intro w_ HM; simp only [List.set_cons_zero] at HM; go_simp)
      | (refine Go.Proofs.Ytkdiplgnacjakaa.Ms.next_m HM rfl _ rfl _ rfl 0 _ _ _ rfl rfl 120 1 (by decide) (by decide +kernel) ?_; clear HM; intro w_ HM; simp only [List.set_cons_zero] at HM; go_simp)
      | (refine Go.Proofs.Ytkdiplgnacjakaa.Ms.next_end_m HM rfl _ rfl _ rfl 0 _ _ _ rfl rfl (by decide) ?_; clear HM; intro w_ HM; go_simp)
      | (refine wp_loop_rounds 5 ?_; refine Go.Proofs.Ytkdiplgnacjakaa.Ms.rounds_mk ?_)
      | (refine Go.Proofs.Ytkdiplgnacjakaa.Ms.rounds_mk ?_)
      | (go_at_call 18; (with_reducible refine (Go.Proofs.Ytkdiplgnacjakaa.M.call_pure (CR _ (by decide) (by decide)) HM).mono ?_); clear HM; rintro e w_ ⟨rfl, HM⟩; dsimp only)
      | ((fail_if_success (refine Go.Proofs.Ytkdiplgnacjakaa.M.lit_t rfl ?_)); (fail_if_success (refine Go.Proofs.Ytkdiplgnacjakaa.M.lit_f rfl ?_)); refine Go.Proofs.Ytkdiplgnacjakaa.M.split_guard rfl rfl ?_ ?_ <;> (intro hg_; simp only [hg_]; try simp only [decide_eq_true_eq, decide_eq_false_iff_not, Bool.and_eq_true, Bool.or_eq_true, Bool.and_eq_false_iff, Bool.or_eq_false_iff, Bool.not_eq_true', Bool.not_eq_false', beq_iff_eq, bne_iff_ne, beq_eq_false_iff_ne, bne_eq_false_iff_eq, Int.not_lt, Int.not_le, ne_eq] at hg_)))
  all_goals
    go_ret
    exact ⟨congrArg (fun z => Ending.returned (Value.string z)) (by decide +kernel), HM.none.to_below⟩
theorem decode_small {s : ByteArray} {p : Nat} (h : (Utf8.decode s p).1 < 128) : Utf8.decode s p = ((s.get! p).toNat, 1) ∧ (Utf8.decode s p).1 = (s.get! p).toNat := by
  have key : (s.get! p).toNat < 128 := by
    rcases Nat.lt_or_ge (s.get! p).toNat 128 with h1 | h1
    · exact h1
    · exfalso
      have h2 : ¬ (s.get! p).toNat < 128 := by omega
      unfold Utf8.decode at h
      simp only [Nat.add_zero, h2, if_false] at h
      split at h
      · split at h
        · omega
        · simp [Utf8.runeError] at h
      · split at h
        · split at h
          · rename_i hc
            simp only [Bool.and_eq_true, decide_eq_true_eq] at hc
            omega
          · simp [Utf8.runeError] at h
        · split at h
          · split at h
            · rename_i hc
              simp only [Bool.and_eq_true, decide_eq_true_eq] at hc
              omega
            · simp [Utf8.runeError] at h
          · simp [Utf8.runeError] at h
  have e : Utf8.decode s p = ((s.get! p).toNat, 1) := by
    unfold Utf8.decode
    simp only [Nat.add_zero, key, if_true]
  exact ⟨e, by rw [e]⟩
theorem pair_of {s : ByteArray} {p : Nat} : ∃ c n, Utf8.decode s p = (c, n) := ⟨_, _, rfl⟩
/-- The signs' bytes. -/
theorem sg0 : ∀ h, ((⟨#[114, 119, 120]⟩ : ByteArray)[0]'h) = 114 := fun _ => rfl
theorem sg1 : ∀ h, ((⟨#[114, 119, 120]⟩ : ByteArray)[1]'h) = 119 := fun _ => rfl
theorem sg2 : ∀ h, ((⟨#[114, 119, 120]⟩ : ByteArray)[2]'h) = 120 := fun _ => rfl
def val (a b c : Nat) : Int := (if a = 114 then 1 else 0) + (if b = 119 then 2 else 0) + (if c = 120 then 4 else 0)
set_option maxRecDepth 100000 in
set_option maxHeartbeats 8000000 in
theorem parse_key (a b c : Nat) (s : ByteArray) (hs : s.size = 3) (d0 : Utf8.decode s 0 = (a, 1)) (d1 : Utf8.decode s 1 = (b, 1)) (d2 : Utf8.decode s 2 = (c, 1)) (ha : a = 114 ∨ a = 45) (hb : b = 119 ∨ b = 45) (hc : c = 120 ∨ c = 45) (w : World) :
    Calls Try.prog 14 #[.string s] w fun e w' => e = .returned (.tuple #[.int .i64 (val a b c), .bool true]) ∧ Below w.heap.size w w' := by
  have D0 := Lib.hid d0; have D1 := Lib.hid d1; have D2 := Lib.hid d2; have HS := Lib.hid hs
  have k0 := sg0; have k1 := sg1; have k2 := sg2
  clear d0 d1 d2
  rcases ha with rfl | rfl <;> rcases hb with rfl | rfl <;> rcases hc with rfl | rfl
  all_goals
    have HM := Mem.nil w
    go_enter Try.func14, Try.ntmps14
    go_wp2_with (first
      | (refine Go.Proofs.Ytkdiplgnacjakaa.Ms.range_m HM rfl _ rfl _ _ rfl _ rfl (by kernel_rfl) ?_; clear HM; intro g_ w_ HM; go_simp)
      | (refine Go.Proofs.Ytkdiplgnacjakaa.Ms.next_m HM rfl _ rfl _ rfl 0 _ s 0 rfl rfl _ _ (by rw [HS.out]; decide) D0.out ?_; clear HM; intro w_ HM; simp only [List.set_cons_zero, Nat.zero_add] at HM; go_simp)
      | (refine Go.Proofs.Ytkdiplgnacjakaa.Ms.next_m HM rfl _ rfl _ rfl 0 _ s 1 rfl rfl _ _ (by rw [HS.out]; decide) D1.out ?_; clear HM; intro w_ HM; simp only [List.set_cons_zero, Nat.reduceAdd] at HM; go_simp)
      | (refine Go.Proofs.Ytkdiplgnacjakaa.Ms.next_m HM rfl _ rfl _ rfl 0 _ s 2 rfl rfl _ _ (by rw [HS.out]; decide) D2.out ?_; clear HM; intro w_ HM; simp only [List.set_cons_zero, Nat.reduceAdd] at HM; go_simp)
      | (refine Go.Proofs.Ytkdiplgnacjakaa.Ms.next_end_m HM rfl _ rfl _ rfl 0 _ s 3 rfl rfl (by rw [HS.out]; decide) ?_; clear HM; intro w_ HM; go_simp)
      | (refine wp_loop_rounds 5 ?_; refine Go.Proofs.Ytkdiplgnacjakaa.Ms.rounds_mk ?_)
      | (refine Go.Proofs.Ytkdiplgnacjakaa.Ms.rounds_mk ?_)
      | ((fail_if_success (refine Go.Proofs.Ytkdiplgnacjakaa.M.lit_t rfl ?_)); (fail_if_success (refine Go.Proofs.Ytkdiplgnacjakaa.M.lit_f rfl ?_)); refine Go.Proofs.Ytkdiplgnacjakaa.M.split_guard rfl rfl ?_ ?_ <;> (intro hg_; simp only [hg_]; try simp only [decide_eq_true_eq, decide_eq_false_iff_not, Bool.and_eq_true, Bool.or_eq_true, Bool.and_eq_false_iff, Bool.or_eq_false_iff, Bool.not_eq_true', Bool.not_eq_false', beq_iff_eq, bne_iff_ne, beq_eq_false_iff_ne, bne_eq_false_iff_eq, Int.not_lt, Int.not_le, ne_eq] at hg_)))
    go_ret2
    exact ⟨congrArg (fun z => Ending.returned (Value.tuple #[.int .i64 z, .bool true])) (by decide +kernel), HM.none.to_below⟩
set_option maxRecDepth 100000 in
set_option maxHeartbeats 8000000 in
theorem parse_bad0 (a n : Nat) (s : ByteArray) (hs : s.size = 3) (d0 : Utf8.decode s 0 = (a, n)) (ha : ¬ (a = 114 ∨ a = 45)) (w : World) :
    Calls Try.prog 14 #[.string s] w fun e w' => e = .returned (.tuple #[.int .i64 0, .bool false]) ∧ Below w.heap.size w w' := by
  have D0 := Lib.hid d0; have HS := Lib.hid hs
  have D1 := D0; have D2 := D0
  have k0 := sg0
  clear d0
  have e1 : ((a : Int) == 114) = false := by simp; omega
  have e2 : ((a : Int) == 45) = false := by simp; omega
  clear ha
  have HM := Mem.nil w
  go_enter Try.func14, Try.ntmps14
  go_wp2_with (first
    | (refine Go.Proofs.Ytkdiplgnacjakaa.Ms.range_m HM rfl _ rfl _ _ rfl _ rfl (by kernel_rfl) ?_; clear HM; intro g_ w_ HM; go_simp)
    | (refine Go.Proofs.Ytkdiplgnacjakaa.Ms.next_m HM rfl _ rfl _ rfl 0 _ s 0 rfl rfl _ _ (by rw [HS.out]; decide) D0.out ?_; clear HM; intro w_ HM; simp only [List.set_cons_zero, Nat.zero_add] at HM; go_simp)
    | (refine Go.Proofs.Ytkdiplgnacjakaa.Ms.next_m HM rfl _ rfl _ rfl 0 _ s 1 rfl rfl _ _ (by rw [HS.out]; decide) D1.out ?_; clear HM; intro w_ HM; simp only [List.set_cons_zero, Nat.reduceAdd] at HM; go_simp)
    | (refine Go.Proofs.Ytkdiplgnacjakaa.Ms.next_m HM rfl _ rfl _ rfl 0 _ s 2 rfl rfl _ _ (by rw [HS.out]; decide) D2.out ?_; clear HM; intro w_ HM; simp only [List.set_cons_zero, Nat.reduceAdd] at HM; go_simp)
    | (refine Go.Proofs.Ytkdiplgnacjakaa.Ms.next_end_m HM rfl _ rfl _ rfl 0 _ s 3 rfl rfl (by rw [HS.out]; decide) ?_; clear HM; intro w_ HM; go_simp)
    | (refine wp_loop_rounds 5 ?_; refine Go.Proofs.Ytkdiplgnacjakaa.Ms.rounds_mk ?_)
    | (refine Go.Proofs.Ytkdiplgnacjakaa.Ms.rounds_mk ?_)
    | ((fail_if_success (refine Go.Proofs.Ytkdiplgnacjakaa.M.lit_t rfl ?_)); (fail_if_success (refine Go.Proofs.Ytkdiplgnacjakaa.M.lit_f rfl ?_)); refine Go.Proofs.Ytkdiplgnacjakaa.M.split_guard rfl rfl ?_ ?_ <;> (intro hg_; simp only [hg_]; try simp only [decide_eq_true_eq, decide_eq_false_iff_not, Bool.and_eq_true, Bool.or_eq_true, Bool.and_eq_false_iff, Bool.or_eq_false_iff, Bool.not_eq_true', Bool.not_eq_false', beq_iff_eq, bne_iff_ne, beq_eq_false_iff_ne, bne_eq_false_iff_eq, Int.not_lt, Int.not_le, ne_eq] at hg_)))
  go_ret2
  exact ⟨rfl, HM.none.to_below⟩
set_option maxRecDepth 100000 in
set_option maxHeartbeats 8000000 in
theorem parse_bad1 (a b n : Nat) (s : ByteArray) (hs : s.size = 3) (d0 : Utf8.decode s 0 = (a, 1)) (d1 : Utf8.decode s 1 = (b, n)) (ha : a = 114 ∨ a = 45) (hb : ¬ (b = 119 ∨ b = 45)) (w : World) :
    Calls Try.prog 14 #[.string s] w fun e w' => e = .returned (.tuple #[.int .i64 0, .bool false]) ∧ Below w.heap.size w w' := by
  have D0 := Lib.hid d0; have HS := Lib.hid hs
  have D1 := Lib.hid d1; have D2 := D0
  have k0 := sg0
  have k1 := sg1
  clear d0 d1
  have e1 : ((b : Int) == 119) = false := by simp; omega
  have e2 : ((b : Int) == 45) = false := by simp; omega
  clear hb
  rcases ha with rfl | rfl
  all_goals
    have HM := Mem.nil w
    go_enter Try.func14, Try.ntmps14
    go_wp2_with (first
      | (refine Go.Proofs.Ytkdiplgnacjakaa.Ms.range_m HM rfl _ rfl _ _ rfl _ rfl (by kernel_rfl) ?_; clear HM; intro g_ w_ HM; go_simp)
      | (refine Go.Proofs.Ytkdiplgnacjakaa.Ms.next_m HM rfl _ rfl _ rfl 0 _ s 0 rfl rfl _ _ (by rw [HS.out]; decide) D0.out ?_; clear HM; intro w_ HM; simp only [List.set_cons_zero, Nat.zero_add] at HM; go_simp)
      | (refine Go.Proofs.Ytkdiplgnacjakaa.Ms.next_m HM rfl _ rfl _ rfl 0 _ s 1 rfl rfl _ _ (by rw [HS.out]; decide) D1.out ?_; clear HM; intro w_ HM; simp only [List.set_cons_zero, Nat.reduceAdd] at HM; go_simp)
      | (refine Go.Proofs.Ytkdiplgnacjakaa.Ms.next_m HM rfl _ rfl _ rfl 0 _ s 2 rfl rfl _ _ (by rw [HS.out]; decide) D2.out ?_; clear HM; intro w_ HM; simp only [List.set_cons_zero, Nat.reduceAdd] at HM; go_simp)
      | (refine Go.Proofs.Ytkdiplgnacjakaa.Ms.next_end_m HM rfl _ rfl _ rfl 0 _ s 3 rfl rfl (by rw [HS.out]; decide) ?_; clear HM; intro w_ HM; go_simp)
      | (refine wp_loop_rounds 5 ?_; refine Go.Proofs.Ytkdiplgnacjakaa.Ms.rounds_mk ?_)
      | (refine Go.Proofs.Ytkdiplgnacjakaa.Ms.rounds_mk ?_)
      | ((fail_if_success (refine Go.Proofs.Ytkdiplgnacjakaa.M.lit_t rfl ?_)); (fail_if_success (refine Go.Proofs.Ytkdiplgnacjakaa.M.lit_f rfl ?_)); refine Go.Proofs.Ytkdiplgnacjakaa.M.split_guard rfl rfl ?_ ?_ <;> (intro hg_; simp only [hg_]; try simp only [decide_eq_true_eq, decide_eq_false_iff_not, Bool.and_eq_true, Bool.or_eq_true, Bool.and_eq_false_iff, Bool.or_eq_false_iff, Bool.not_eq_true', Bool.not_eq_false', beq_iff_eq, bne_iff_ne, beq_eq_false_iff_ne, bne_eq_false_iff_eq, Int.not_lt, Int.not_le, ne_eq] at hg_)))
    go_ret2
    exact ⟨rfl, HM.none.to_below⟩
set_option maxRecDepth 100000 in
set_option maxHeartbeats 8000000 in
theorem parse_bad2 (a b c n : Nat) (s : ByteArray) (hs : s.size = 3) (d0 : Utf8.decode s 0 = (a, 1)) (d1 : Utf8.decode s 1 = (b, 1)) (d2 : Utf8.decode s 2 = (c, n)) (ha : a = 114 ∨ a = 45) (hb : b = 119 ∨ b = 45) (hc : ¬ (c = 120 ∨ c = 45)) (w : World) :
    Calls Try.prog 14 #[.string s] w fun e w' => e = .returned (.tuple #[.int .i64 0, .bool false]) ∧ Below w.heap.size w w' := by
  have D0 := Lib.hid d0; have HS := Lib.hid hs
  have D1 := Lib.hid d1; have D2 := Lib.hid d2
  have k0 := sg0
  have k1 := sg1
  have k2 := sg2
  clear d0 d1 d2
  have e1 : ((c : Int) == 120) = false := by simp; omega
  have e2 : ((c : Int) == 45) = false := by simp; omega
  clear hc
  rcases ha with rfl | rfl <;> rcases hb with rfl | rfl
  all_goals
    have HM := Mem.nil w
    go_enter Try.func14, Try.ntmps14
    go_wp2_with (first
      | (refine Go.Proofs.Ytkdiplgnacjakaa.Ms.range_m HM rfl _ rfl _ _ rfl _ rfl (by kernel_rfl) ?_; clear HM; intro g_ w_ HM; go_simp)
      | (refine Go.Proofs.Ytkdiplgnacjakaa.Ms.next_m HM rfl _ rfl _ rfl 0 _ s 0 rfl rfl _ _ (by rw [HS.out]; decide) D0.out ?_; clear HM; intro w_ HM; simp only [List.set_cons_zero, Nat.zero_add] at HM; go_simp)
      | (refine Go.Proofs.Ytkdiplgnacjakaa.Ms.next_m HM rfl _ rfl _ rfl 0 _ s 1 rfl rfl _ _ (by rw [HS.out]; decide) D1.out ?_; clear HM; intro w_ HM; simp only [List.set_cons_zero, Nat.reduceAdd] at HM; go_simp)
      | (refine Go.Proofs.Ytkdiplgnacjakaa.Ms.next_m HM rfl _ rfl _ rfl 0 _ s 2 rfl rfl _ _ (by rw [HS.out]; decide) D2.out ?_; clear HM; intro w_ HM; simp only [List.set_cons_zero, Nat.reduceAdd] at HM; go_simp)
      | (refine Go.Proofs.Ytkdiplgnacjakaa.Ms.next_end_m HM rfl _ rfl _ rfl 0 _ s 3 rfl rfl (by rw [HS.out]; decide) ?_; clear HM; intro w_ HM; go_simp)
      | (refine wp_loop_rounds 5 ?_; refine Go.Proofs.Ytkdiplgnacjakaa.Ms.rounds_mk ?_)
      | (refine Go.Proofs.Ytkdiplgnacjakaa.Ms.rounds_mk ?_)
      | ((fail_if_success (refine Go.Proofs.Ytkdiplgnacjakaa.M.lit_t rfl ?_)); (fail_if_success (refine Go.Proofs.Ytkdiplgnacjakaa.M.lit_f rfl ?_)); refine Go.Proofs.Ytkdiplgnacjakaa.M.split_guard rfl rfl ?_ ?_ <;> (intro hg_; simp only [hg_]; try simp only [decide_eq_true_eq, decide_eq_false_iff_not, Bool.and_eq_true, Bool.or_eq_true, Bool.and_eq_false_iff, Bool.or_eq_false_iff, Bool.not_eq_true', Bool.not_eq_false', beq_iff_eq, bne_iff_ne, beq_eq_false_iff_ne, bne_eq_false_iff_eq, Int.not_lt, Int.not_le, ne_eq] at hg_)))
    go_ret2
    exact ⟨rfl, HM.none.to_below⟩
set_option maxRecDepth 100000 in
set_option maxHeartbeats 1000000 in
theorem parse_size (s : ByteArray) (hs : s.size ≠ 3) (w : World) :
    Calls Try.prog 14 #[.string s] w fun e w' => e = .returned (.tuple #[.int .i64 0, .bool false]) ∧ Below w.heap.size w w' := by
  have e1 : ((s.size : Int) == 3) = false := by simp; omega
  have e2 : ((s.size : Int) != 3) = true := by simp; omega
  clear hs
  have HM := Mem.nil w
  go_enter Try.func14, Try.ntmps14
  go_wp2
  go_ret2
  exact ⟨rfl, HM.none.to_below⟩
theorem three (s : ByteArray) (hs : s.size = 3) (t : ByteArray) (ht : t.size = 3) (h0 : s.get! 0 = t.get! 0) (h1 : s.get! 1 = t.get! 1) (h2 : s.get! 2 = t.get! 2) : s = t := by
  obtain ⟨⟨s⟩⟩ := s
  obtain ⟨⟨t⟩⟩ := t
  match s, t, hs, ht with
  | [a, b, c], [a', b', c'], _, _ =>
    simp [ByteArray.get!] at h0 h1 h2
    rw [h0, h1, h2]
theorem show_size (r : Int) : (showS r).size = 3 := rfl
theorem val_show (a b c : Nat) (s : ByteArray) (hs : s.size = 3) (h0 : (s.get! 0).toNat = a) (h1 : (s.get! 1).toNat = b) (h2 : (s.get! 2).toNat = c) (ha : a = 114 ∨ a = 45) (hb : b = 119 ∨ b = 45) (hc : c = 120 ∨ c = 45) : 0 ≤ val a b c ∧ val a b c ≤ 7 ∧ s = showS (val a b c) := by
  have key : ∀ (x : UInt8) (n : Nat) (h : x.toNat = n) (y : UInt8), y.toNat = n → x = y := fun x n h y hy => UInt8.toNat_inj.1 (h.trans hy.symm)
  rcases ha with rfl | rfl <;> rcases hb with rfl | rfl <;> rcases hc with rfl | rfl <;>
    exact ⟨by decide, by decide, three s hs _ (show_size _) (key _ _ h0 _ (by decide)) (key _ _ h1 _ (by decide)) (key _ _ h2 _ (by decide))⟩
end Go.Proofs.Ytkdiplgnacjakaa.Rt
