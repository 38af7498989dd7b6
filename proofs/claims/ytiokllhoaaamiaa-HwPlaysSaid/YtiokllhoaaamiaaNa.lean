/- hw.Book: slices.Index, known, Find, free: what each call answers. -/
import Derived.Test.YtiokllhoaaamiaaProg
import Derived.Test.YtiokllhoaaamiaaB
import Derived.Test.YtiokllhoaaamiaaMc
import Derived.Test.YtiokllhoaaamiaaMv
import Derived.Test.YtiokllhoaaamiaaSm
import Derived.Laws.MakeOwn
namespace Go.Proofs.Ytiokllhoaaamiaa.Na
open Go.RowKit Go.Proofs.Ytiokllhoaaamiaa.G Go.Proofs.Ytiokllhoaaamiaa.B Go.Proofs.Ytiokllhoaaamiaa.M Go.Proofs.Ytiokllhoaaamiaa.Mv Go.Proofs.Ytiokllhoaaamiaa.Sm
set_option linter.unusedVariables false
set_option linter.unusedSimpArgs false
set_option maxRecDepth 100000
/-- Whole numbers as cells. -/
def ints (os : List Int) : Array Value := (os.map (Value.int .i64)).toArray
theorem ints_size (os : List Int) : (ints os).size = os.length := by simp [ints]
theorem ints_get (os : List Int) (k : Nat) (h : k < os.length) : (ints os)[k]? = some (.int .i64 (os.getD k 0)) := by
  simp [ints, List.getD, h]
theorem ints_set (os : List Int) (k : Nat) (v : Int) : (ints os).setIfInBounds k (.int .i64 v) = ints (os.set k v) := by
  apply Array.ext'
  simp [ints, List.map_set]
/-- The first place of a number, or -1. -/
def idxI (os : List Int) (v : Int) : Int := match (List.range os.length).find? (fun i => os.getD i 0 == v) with | some i => i | none => -1
theorem idxI_at {os : List Int} {v : Int} {k : Nat} (hk : k < os.length) (h : os.getD k 0 = v) (hn : ∀ j, j < k → ¬ os.getD j 0 = v) : idxI os v = k := by
  unfold idxI
  have : (List.range os.length).find? (fun i => os.getD i 0 == v) = some k := by
    rw [List.find?_range_eq_some]
    exact ⟨by simpa using h, by simpa using hk, fun j hj => by simpa using hn j hj⟩
  rw [this]
theorem idxI_none {os : List Int} {v : Int} (hn : ∀ j, j < os.length → ¬ os.getD j 0 = v) : idxI os v = -1 := by
  unfold idxI
  have : (List.range os.length).find? (fun i => os.getD i 0 == v) = none := by
    rw [List.find?_eq_none]
    intro j hj
    simpa using hn j (by simpa using hj)
  rw [this]
theorem idxI_range (os : List Int) (v : Int) : -1 ≤ idxI os v ∧ idxI os v < os.length := by
  unfold idxI
  split
  · rename_i i hi
    have := List.mem_of_find?_eq_some hi
    simp at this; omega
  · omega
theorem idxI_get {os : List Int} {v : Int} (h : 0 ≤ idxI os v) : os.getD (idxI os v).toNat 0 = v := by
  unfold idxI at h ⊢
  split at h
  · rename_i i hi
    have := List.find?_some hi
    simpa using this
  · omega
theorem idxI_first {os : List Int} {v : Int} {j : Nat} (hj : j < os.length) (h : os.getD j 0 = v) : 0 ≤ idxI os v ∧ idxI os v ≤ j := by
  unfold idxI
  cases hf : (List.range os.length).find? (fun i => os.getD i 0 == v) with
  | none =>
    rw [List.find?_eq_none] at hf
    have := hf j (by simpa using hj)
    simp at this; exact absurd h this
  | some i =>
    rw [List.find?_range_eq_some] at hf
    refine ⟨by simp, ?_⟩
    by_cases hlt : j < i
    · have := hf.2.2 j hlt
      simp at this; exact absurd h this
    · simp; omega
set_option maxHeartbeats 1000000 in
theorem known_any (v : Int) (w : World) : Calls Try.prog 36 #[.int .i64 v] w fun e w' => e = .returned (.bool (decide (1 ≤ v ∧ v < 4096))) ∧ Below w.heap.size w w' := by
  have HM := Mem.nil w
  go_enter Try.func36, Try.ntmps36
  go_wp2_with (first
    | (go_big_skip)
    | (refine Go.Proofs.Ytiokllhoaaamiaa.Mc.at_cmp _ rfl ?_; refine Go.Proofs.Ytiokllhoaaamiaa.Mc.cmp_m rfl _ rfl _ _ _ rfl _ _ _ rfl rfl _ rfl ?_ ?_ <;> (intro hg_; try simp only [decide_eq_true_eq, decide_eq_false_iff_not, Bool.and_eq_true, Bool.or_eq_true, Bool.and_eq_false_iff, Bool.or_eq_false_iff, Bool.not_eq_true', Bool.not_eq_false', beq_iff_eq, bne_iff_ne, beq_eq_false_iff_ne, bne_eq_false_iff_eq, Int.not_lt, Int.not_le, ne_eq] at hg_; first | (exfalso; first | omega | (simp at hg_; done)) | go_simp))
    | ((fail_if_success (refine Go.Proofs.Ytiokllhoaaamiaa.M.lit_t rfl ?_)); (fail_if_success (refine Go.Proofs.Ytiokllhoaaamiaa.M.lit_f rfl ?_)); refine Go.Proofs.Ytiokllhoaaamiaa.M.split_guard rfl rfl ?_ ?_ <;> (intro hg_; simp only [hg_]; try simp only [decide_eq_true_eq, decide_eq_false_iff_not, Bool.and_eq_true, Bool.or_eq_true, Bool.and_eq_false_iff, Bool.or_eq_false_iff, Bool.not_eq_true', Bool.not_eq_false', beq_iff_eq, bne_iff_ne, beq_eq_false_iff_ne, bne_eq_false_iff_eq, Int.not_lt, Int.not_le, ne_eq] at hg_)))
  all_goals
    go_ret
    exact ⟨by first | rfl | (simp [*]; done) | (simp [*]; omega), HM.none.to_below⟩
set_option maxHeartbeats 1000000 in
theorem index_any (os : List Int) (v : Int) (g : Nat) (n : Nat) (hn : os.length = n) (h1 : n ≤ 1000) : Does Try.prog 41 #[.slice (some ⟨g, 0, none⟩) n n, .int .i64 v] [(g, row (ints os) 3)]
    fun r L => r = .int .i64 (idxI os v) ∧ L = [(g, row (ints os) 3)] := by
  intro w hH
  have HM := Mem.start hH
  go_enter Try.func41, Try.ntmps41
  go_wp2_with (first
    | (refine Go.Proofs.Ytiokllhoaaamiaa.M.at_mem rfl ?_; first | (refine Go.Proofs.Ytiokllhoaaamiaa.M.at_load 3 rfl ?_; first | (refine Go.Proofs.Ytiokllhoaaamiaa.M.load_cell_m HM rfl 3 _ rfl 0 _ _ _ _ _ rfl rfl rfl (by kernel_rfl) (by kernel_rfl) ?_; go_simp) | (refine Go.Proofs.Ytiokllhoaaamiaa.M.load_cell_m HM rfl 3 _ rfl 1 _ _ _ _ _ rfl rfl rfl (by kernel_rfl) (by kernel_rfl) ?_; go_simp)) | ((fail_if_success (refine Go.Proofs.Ytiokllhoaaamiaa.M.lit_t rfl ?_)); (fail_if_success (refine Go.Proofs.Ytiokllhoaaamiaa.M.lit_f rfl ?_)); refine Go.Proofs.Ytiokllhoaaamiaa.M.split_guard rfl rfl ?_ ?_ <;> (intro hg_; simp only [hg_]; try simp only [decide_eq_true_eq, decide_eq_false_iff_not, Bool.and_eq_true, Bool.or_eq_true, Bool.and_eq_false_iff, Bool.or_eq_false_iff, Bool.not_eq_true', Bool.not_eq_false', beq_iff_eq, bne_iff_ne, beq_eq_false_iff_ne, bne_eq_false_iff_eq, Int.not_lt, Int.not_le, ne_eq] at hg_)))
    | ((fail_if_success (refine Go.Proofs.Ytiokllhoaaamiaa.M.lit_t rfl ?_)); (fail_if_success (refine Go.Proofs.Ytiokllhoaaamiaa.M.lit_f rfl ?_)); refine Go.Proofs.Ytiokllhoaaamiaa.M.split_guard rfl rfl ?_ ?_ <;> (intro hg_; simp only [hg_]; try simp only [decide_eq_true_eq, decide_eq_false_iff_not, Bool.and_eq_true, Bool.or_eq_true, Bool.and_eq_false_iff, Bool.or_eq_false_iff, Bool.not_eq_true', Bool.not_eq_false', beq_iff_eq, bne_iff_ne, beq_eq_false_iff_ne, bne_eq_false_iff_eq, Int.not_lt, Int.not_le, ne_eq] at hg_)))
  go_loopw [8] (fun iv wr => ∃ k : Nat, k ≤ n ∧ iv = .int .i64 k ∧ (∀ j, j < k → ¬ os.getD j 0 = v) ∧ Mem w [g] [(g, row (ints os) 3)] wr) (fun iv _ => n - (intOf iv).toNat)
  case atStart => exact ⟨0, by omega, rfl, fun j hj => absurd hj (Nat.not_lt_zero _), HM⟩
  case round =>
    clear HM
    obtain ⟨k, k19, rfl, hno, HM⟩ := hrel
    by_cases hlt : k < n
    · have HX : os.getD k 0 = v → idxI os v = k := fun e => idxI_at (by omega) e hno
      have HF : ¬ os.getD k 0 = v → ∀ j, j < k + 1 → ¬ os.getD j 0 = v := fun e j hj => by
        by_cases ej : j = k
        · subst ej; exact e
        · exact hno j (by omega)
      have hv := ints_get os k (by omega)
      generalize os.getD k 0 = x at HX HF hv
      have HX := Lib.hid HX; have HF := Lib.hid HF
      have HV := Lib.hid hv
      have hk1 : (k : Int) < n := by omega
      have hn1 : (n : Int) ≤ 1000 := by omega
      clear hno hv
      go_wp2_with (first
        | (refine Go.Proofs.Ytiokllhoaaamiaa.Sl.at_indexAddr 42 rfl ?_; refine Go.Proofs.Ytiokllhoaaamiaa.Sl.indexAddr_m rfl _ rfl 42 rfl 3 (by kernel_rfl) 1 (by kernel_rfl) _ 0 n n rfl .i64 (k : Int) rfl (by omega) (by omega) k (by omega) ?_; go_simp)
        | (refine Go.Proofs.Ytiokllhoaaamiaa.M.at_mem rfl ?_; first | (refine Go.Proofs.Ytiokllhoaaamiaa.M.at_load 3 rfl ?_; first | (refine Go.Proofs.Ytiokllhoaaamiaa.M.load_cell_m HM rfl 3 _ rfl 0 _ _ _ (ints os) _ rfl rfl HV.out (by kernel_rfl) (by kernel_rfl) ?_; go_simp) | (refine Go.Proofs.Ytiokllhoaaamiaa.M.load_cell_m HM rfl 3 _ rfl 0 _ _ _ _ _ rfl rfl rfl (by kernel_rfl) (by kernel_rfl) ?_; go_simp)) | ((fail_if_success (refine Go.Proofs.Ytiokllhoaaamiaa.M.lit_t rfl ?_)); (fail_if_success (refine Go.Proofs.Ytiokllhoaaamiaa.M.lit_f rfl ?_)); refine Go.Proofs.Ytiokllhoaaamiaa.M.split_guard rfl rfl ?_ ?_ <;> (intro hg_; simp only [hg_]; try simp only [decide_eq_true_eq, decide_eq_false_iff_not, Bool.and_eq_true, Bool.or_eq_true, Bool.and_eq_false_iff, Bool.or_eq_false_iff, Bool.not_eq_true', Bool.not_eq_false', beq_iff_eq, bne_iff_ne, beq_eq_false_iff_ne, bne_eq_false_iff_eq, Int.not_lt, Int.not_le, ne_eq] at hg_)))
        | (refine Go.Proofs.Ytiokllhoaaamiaa.Mc.at_cmp _ rfl ?_; refine Go.Proofs.Ytiokllhoaaamiaa.Mc.cmp_m rfl _ rfl _ _ _ rfl _ _ _ rfl rfl _ rfl ?_ ?_ <;> (intro hg_; try simp only [decide_eq_true_eq, decide_eq_false_iff_not, Bool.and_eq_true, Bool.or_eq_true, Bool.and_eq_false_iff, Bool.or_eq_false_iff, Bool.not_eq_true', Bool.not_eq_false', beq_iff_eq, bne_iff_ne, beq_eq_false_iff_ne, bne_eq_false_iff_eq, Int.not_lt, Int.not_le, ne_eq] at hg_; first | (exfalso; first | omega | (simp at hg_; done)) | go_simp))
        | ((fail_if_success (refine Go.Proofs.Ytiokllhoaaamiaa.M.lit_t rfl ?_)); (fail_if_success (refine Go.Proofs.Ytiokllhoaaamiaa.M.lit_f rfl ?_)); refine Go.Proofs.Ytiokllhoaaamiaa.M.split_guard rfl rfl ?_ ?_ <;> (intro hg_; simp only [hg_]; try simp only [decide_eq_true_eq, decide_eq_false_iff_not, Bool.and_eq_true, Bool.or_eq_true, Bool.and_eq_false_iff, Bool.or_eq_false_iff, Bool.not_eq_true', Bool.not_eq_false', beq_iff_eq, bne_iff_ne, beq_eq_false_iff_ne, bne_eq_false_iff_eq, Int.not_lt, Int.not_le, ne_eq] at hg_)))
      all_goals
        first
        | (go_ret
           refine ⟨_, _, rfl, ⟨?_, rfl⟩, HM⟩
           rw [HX.out (by omega)]; rfl)
        | (go_roundw
           case rel => exact ⟨k + 1, by omega, by first | rfl | (refine congrArg (fun z => Value.int .i64 z) ?_; omega), HF.out (by omega), HM⟩
           case measure => simp [intOf]; omega)
    · obtain rfl : k = n := by omega
      have HV := Lib.hid (idxI_none (by rw [hn]; exact hno)); clear hno
      go_wp2_with (first
        | (refine Go.Proofs.Ytiokllhoaaamiaa.M.at_mem rfl ?_; first | (refine Go.Proofs.Ytiokllhoaaamiaa.M.at_load 3 rfl ?_; first | (refine Go.Proofs.Ytiokllhoaaamiaa.M.load_cell_m HM rfl 3 _ rfl 0 _ _ _ _ _ rfl rfl rfl (by kernel_rfl) (by kernel_rfl) ?_; go_simp) | (refine Go.Proofs.Ytiokllhoaaamiaa.M.load_cell_m HM rfl 3 _ rfl 1 _ _ _ _ _ rfl rfl rfl (by kernel_rfl) (by kernel_rfl) ?_; go_simp)) | ((fail_if_success (refine Go.Proofs.Ytiokllhoaaamiaa.M.lit_t rfl ?_)); (fail_if_success (refine Go.Proofs.Ytiokllhoaaamiaa.M.lit_f rfl ?_)); refine Go.Proofs.Ytiokllhoaaamiaa.M.split_guard rfl rfl ?_ ?_ <;> (intro hg_; simp only [hg_]; try simp only [decide_eq_true_eq, decide_eq_false_iff_not, Bool.and_eq_true, Bool.or_eq_true, Bool.and_eq_false_iff, Bool.or_eq_false_iff, Bool.not_eq_true', Bool.not_eq_false', beq_iff_eq, bne_iff_ne, beq_eq_false_iff_ne, bne_eq_false_iff_eq, Int.not_lt, Int.not_le, ne_eq] at hg_)))
        | (refine Go.Proofs.Ytiokllhoaaamiaa.Mc.at_cmp _ rfl ?_; refine Go.Proofs.Ytiokllhoaaamiaa.Mc.cmp_m rfl _ rfl _ _ _ rfl _ _ _ rfl rfl _ rfl ?_ ?_ <;> (intro hg_; try simp only [decide_eq_true_eq, decide_eq_false_iff_not, Bool.and_eq_true, Bool.or_eq_true, Bool.and_eq_false_iff, Bool.or_eq_false_iff, Bool.not_eq_true', Bool.not_eq_false', beq_iff_eq, bne_iff_ne, beq_eq_false_iff_ne, bne_eq_false_iff_eq, Int.not_lt, Int.not_le, ne_eq] at hg_; first | (exfalso; first | omega | (simp at hg_; done)) | go_simp))
        | ((fail_if_success (refine Go.Proofs.Ytiokllhoaaamiaa.M.lit_t rfl ?_)); (fail_if_success (refine Go.Proofs.Ytiokllhoaaamiaa.M.lit_f rfl ?_)); refine Go.Proofs.Ytiokllhoaaamiaa.M.split_guard rfl rfl ?_ ?_ <;> (intro hg_; simp only [hg_]; try simp only [decide_eq_true_eq, decide_eq_false_iff_not, Bool.and_eq_true, Bool.or_eq_true, Bool.and_eq_false_iff, Bool.or_eq_false_iff, Bool.not_eq_true', Bool.not_eq_false', beq_iff_eq, bne_iff_ne, beq_eq_false_iff_ne, bne_eq_false_iff_eq, Int.not_lt, Int.not_le, ne_eq] at hg_)))
      all_goals
        go_ret
        refine ⟨_, _, rfl, ⟨?_, rfl⟩, HM⟩
        rw [HV.out]; rfl
/-- A book in memory. -/
def bk (gB g n : Nat) (os : List Int) (vic : Int) : Hp := [(gB, row #[.slice (some ⟨g, 0, none⟩) n n, .int .i64 vic] 73), (g, row (ints os) 3)]
set_option maxHeartbeats 1000000 in
theorem find_yes (gB g n : Nat) (os : List Int) (vic v i : Int) (hn : os.length = n) (h1 : n ≤ 1000) (hi : idxI os v = i) (h0 : 0 ≤ i) (hv : 1 ≤ v ∧ v < 4096) :
    Does Try.prog 24 #[.pointer (some ⟨gB, 0, none⟩), .int .i64 v] (bk gB g n os vic) fun r L => r = .tuple #[.int .i64 i, .bool true] ∧ L = bk gB g n os vic := by
  have CI := index_any os v g n hn h1
  rw [hi] at CI
  have CK := known_any v
  rw [decide_eq_true hv] at CK
  unfold bk
  intro w hH
  have HM := Mem.start hH
  go_enter Try.func24, Try.ntmps24
  go_wp2_with (first
    | (go_big_skip)
    | (go_at_call 41; (with_reducible refine (Go.Proofs.Ytiokllhoaaamiaa.M.Does.call (CI) HM (Go.Proofs.Ytiokllhoaaamiaa.M.perm_at 1 rfl)).mono ?_); clear HM; rintro e w_ ⟨v_, L_, rfl, ⟨rfl, rfl⟩, HM⟩; (try simp only [List.set_cons_zero, List.set_cons_succ, List.setIfInBounds_toArray, List.eraseIdx_cons_zero, List.eraseIdx_cons_succ, List.cons_append, List.nil_append] at HM); dsimp only)
    | (go_at_call 36; (with_reducible refine (Go.Proofs.Ytiokllhoaaamiaa.M.call_pure (CK) HM).mono ?_); clear HM; rintro e w_ ⟨rfl, HM⟩; dsimp only)
    | (refine Go.Proofs.Ytiokllhoaaamiaa.M.at_mem rfl ?_; first | (refine Go.Proofs.Ytiokllhoaaamiaa.M.at_load 42 rfl ?_; first | (refine Go.Proofs.Ytiokllhoaaamiaa.M.load_cell_m HM rfl 42 _ rfl 0 _ _ _ _ _ rfl rfl rfl (by kernel_rfl) (by kernel_rfl) ?_; go_simp) | (refine Go.Proofs.Ytiokllhoaaamiaa.M.load_cell_m HM rfl 42 _ rfl 1 _ _ _ _ _ rfl rfl rfl (by kernel_rfl) (by kernel_rfl) ?_; go_simp)) | ((fail_if_success (refine Go.Proofs.Ytiokllhoaaamiaa.M.lit_t rfl ?_)); (fail_if_success (refine Go.Proofs.Ytiokllhoaaamiaa.M.lit_f rfl ?_)); refine Go.Proofs.Ytiokllhoaaamiaa.M.split_guard rfl rfl ?_ ?_ <;> (intro hg_; simp only [hg_]; try simp only [decide_eq_true_eq, decide_eq_false_iff_not, Bool.and_eq_true, Bool.or_eq_true, Bool.and_eq_false_iff, Bool.or_eq_false_iff, Bool.not_eq_true', Bool.not_eq_false', beq_iff_eq, bne_iff_ne, beq_eq_false_iff_ne, bne_eq_false_iff_eq, Int.not_lt, Int.not_le, ne_eq] at hg_)))
    | (refine Go.Proofs.Ytiokllhoaaamiaa.Mc.at_cmp _ rfl ?_; refine Go.Proofs.Ytiokllhoaaamiaa.Mc.cmp_m rfl _ rfl _ _ _ rfl _ _ _ rfl rfl _ rfl ?_ ?_ <;> (intro hg_; try simp only [decide_eq_true_eq, decide_eq_false_iff_not, Bool.and_eq_true, Bool.or_eq_true, Bool.and_eq_false_iff, Bool.or_eq_false_iff, Bool.not_eq_true', Bool.not_eq_false', beq_iff_eq, bne_iff_ne, beq_eq_false_iff_ne, bne_eq_false_iff_eq, Int.not_lt, Int.not_le, ne_eq] at hg_; first | (exfalso; first | omega | (simp at hg_; done)) | go_simp))
    | ((fail_if_success (refine Go.Proofs.Ytiokllhoaaamiaa.M.lit_t rfl ?_)); (fail_if_success (refine Go.Proofs.Ytiokllhoaaamiaa.M.lit_f rfl ?_)); refine Go.Proofs.Ytiokllhoaaamiaa.M.split_guard rfl rfl ?_ ?_ <;> (intro hg_; simp only [hg_]; try simp only [decide_eq_true_eq, decide_eq_false_iff_not, Bool.and_eq_true, Bool.or_eq_true, Bool.and_eq_false_iff, Bool.or_eq_false_iff, Bool.not_eq_true', Bool.not_eq_false', beq_iff_eq, bne_iff_ne, beq_eq_false_iff_ne, bne_eq_false_iff_eq, Int.not_lt, Int.not_le, ne_eq] at hg_)))
  all_goals
    go_ret2
    exact ⟨_, _, rfl, ⟨rfl, rfl⟩, HM.perm (.swap _ _ _)⟩
end Go.Proofs.Ytiokllhoaaamiaa.Na
