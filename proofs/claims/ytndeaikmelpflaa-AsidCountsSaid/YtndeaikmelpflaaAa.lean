/- Virtual ASIDs: a control and its memory; Pool, place, Space, Clear, Assign. -/
import Derived.Test.YtndeaikmelpflaaProg
import Derived.Test.YtndeaikmelpflaaLu
import Derived.Test.YtndeaikmelpflaaYc
namespace Go.Proofs.Ytndeaikmelpflaa.Aa
open Go.RowKit Go.Proofs.Ytndeaikmelpflaa.G Go.Proofs.Ytndeaikmelpflaa.B Go.Proofs.Ytndeaikmelpflaa.M Go.Proofs.Ytndeaikmelpflaa.Mv Go.Proofs.Ytndeaikmelpflaa.Sl Go.Proofs.Ytndeaikmelpflaa.Sm Go.Proofs.Ytndeaikmelpflaa.Sn Go.Proofs.Ytndeaikmelpflaa.Ma Go.Proofs.Ytndeaikmelpflaa.Dr Go.Proofs.Ytndeaikmelpflaa.Ya Go.Proofs.Ytndeaikmelpflaa.Yb Go.Proofs.Ytndeaikmelpflaa.Yc Go.Proofs.Ytndeaikmelpflaa.Ls Go.Proofs.Ytndeaikmelpflaa.Lt Go.Proofs.Ytndeaikmelpflaa.Lu

set_option linter.unusedVariables false
set_option linter.unusedSimpArgs false
set_option maxRecDepth 100000
def RIs (x : Value) (A : Hp) (r : Value) (L : Hp) : Prop := r = x ∧ L = A
/-- A control's cells: its memory, its pools. -/
def ccells (gM : Nat) (ps : Nat → Int) : Array Value := #[.pointer (some ⟨gM, 0, none⟩), .int .u64 (ps 0), .int .u64 (ps 1), .int .u64 (ps 2), .int .u64 (ps 3), .int .u64 (ps 4), .int .u64 (ps 5), .int .u64 (ps 6), .int .u64 (ps 7)]
theorem ccells_0 (gM : Nat) (ps : Nat → Int) : (ccells gM ps)[0]? = some (.pointer (some ⟨gM, 0, none⟩)) := rfl
theorem ccells_p (gM : Nat) (ps : Nat → Int) {i : Nat} (hi : i < 8) : (ccells gM ps)[1 + i]? = some (.int .u64 (ps i)) := by
  obtain rfl | rfl | rfl | rfl | rfl | rfl | rfl | rfl : i = 0 ∨ i = 1 ∨ i = 2 ∨ i = 3 ∨ i = 4 ∨ i = 5 ∨ i = 6 ∨ i = 7 := by omega
  all_goals rfl
/-- Pools as they may be. -/
structure Psok (ps : Nat → Int) : Prop where
  each : ∀ i, i < 8 → ps i = 0 ∨ (0 < ps i ∧ ps i < 131072 ∧ ps i % 4096 = 0)
  inj : ∀ i j, i < 8 → j < 8 → ps i ≠ 0 → ps i = ps j → i = j
/-- A control and its blocks. -/
def AC (f : Int → Int) (gM gC : Nat) (ps : Nat → Int) (L : Hp) : Prop := ∃ AM, Pm 131072 f gM AM ∧ L = (gC, row (ccells gM ps) 68) :: AM
def okP (ps : Nat → Int) (i : Int) : Bool := decide (0 ≤ i ∧ i < 8) && decide (ps i.toNat ≠ 0)
def poolP (ps : Nat → Int) (i : Int) : Int := if okP ps i = true then ps i.toNat else 0
theorem poolP_rng {ps : Nat → Int} (h : Psok ps) (i : Int) : 0 ≤ poolP ps i ∧ poolP ps i < 131072 ∧ poolP ps i % 4096 = 0 := by
  unfold poolP
  split
  · rename_i ho
    unfold okP at ho
    simp only [Bool.and_eq_true, decide_eq_true_eq] at ho
    rcases h.each i.toNat (by omega) with e | e
    · exact absurd e ho.2
    · omega
  · omega
set_option maxHeartbeats 4000000 in
theorem pool_any (gM gC : Nat) (ps : Nat → Int) (i : Int) : Does Try.prog 15 #[.pointer (some ⟨gC, 0, none⟩), .int .i64 i] [(gC, row (ccells gM ps) 68)] (RIs (.tuple #[.int .u64 (poolP ps i), .bool (okP ps i)]) [(gC, row (ccells gM ps) 68)]) := by
  by_cases hr : 0 ≤ i ∧ i < 8
  rotate_left
  · have e1 : okP ps i = false := by unfold okP; rw [decide_eq_false hr]; rfl
    have e2 : poolP ps i = 0 := by unfold poolP; rw [e1]; rfl
    rw [e1, e2]
    clear e1 e2
    rcases (show i < 0 ∨ 8 ≤ i by omega) with hi | hi
    all_goals
      intro w hH
      have HM := Mem.start hH
      go_enter Try.func15, Try.ntmps15
      go_wp2_with (first
        | (go_big_skip)
        | (refine M.at_mem rfl ?_; first | (refine M.at_load 25 rfl ?_; first | (refine M.load_cell_m HM rfl 25 _ rfl 0 _ _ _ _ _ rfl rfl rfl (by kernel_rfl) (by kernel_rfl) ?_; go_simp)) | ((fail_if_success (refine M.lit_t rfl ?_)); (fail_if_success (refine M.lit_f rfl ?_)); refine M.split_guard rfl rfl ?_ ?_ <;> (intro hg_; simp only [hg_]; try simp only [M.hgs] at hg_)))
        | (refine Mc.at_cmp _ rfl ?_; refine Mc.cmp_m rfl _ rfl _ _ _ rfl _ _ _ rfl rfl _ rfl ?_ ?_ <;> (intro hg_; try simp only [M.hgs] at hg_; first | (exfalso; first | omega | (simp at hg_; done)) | (go_simp)))
        | ((fail_if_success (refine M.lit_t rfl ?_)); (fail_if_success (refine M.lit_f rfl ?_)); refine M.split_guard rfl rfl ?_ ?_ <;> (intro hg_; simp only [hg_]; try simp only [M.hgs] at hg_)))
      all_goals
        go_ret2
        exact ⟨_, _, rfl, ⟨rfl, rfl⟩, HM⟩
  · obtain ⟨j, rfl⟩ : ∃ j : Nat, i = j := ⟨i.toNat, by omega⟩
    have hc := ccells_p gM ps (show j < 8 by omega)
    have e1 : okP ps j = decide (ps j ≠ 0) := by unfold okP; rw [decide_eq_true hr, Bool.true_and, Int.toNat_natCast]
    have e2 : poolP ps j = if ps j ≠ 0 then ps j else 0 := by
      unfold poolP; rw [e1, Int.toNat_natCast]
      by_cases h : ps j = 0 <;> simp [h]
    rw [e1, e2]
    generalize ccells gM ps = cs at hc
    generalize ps j = p at hc
    clear e1 e2
    obtain ⟨hr0, hr1⟩ := hr
    have HC := Lib.hid hc; clear hc
    by_cases hp : p = 0
    · rw [if_neg (by simpa using hp), decide_eq_false (by simpa using hp)]
      intro w hH
      have HM := Mem.start hH
      go_enter Try.func15, Try.ntmps15
      go_wp2_with (first
        | (go_big_skip)
        | (refine Sl.at_indexAddr 26 rfl ?_; refine Ma.indexArr_m rfl _ rfl 26 rfl 8 25 (by kernel_rfl) 1 (by kernel_rfl) gC 1 rfl .i64 (j : Int) rfl (by omega) (by omega) (1 + j) (by omega) ?_; go_simp)
        | (refine M.at_mem rfl ?_; first | (refine M.at_load 25 rfl ?_; first | (refine M.load_cell_m HM rfl 25 _ rfl 0 gC (1 + j) _ cs (.int .u64 p) rfl rfl HC.out (by kernel_rfl) (by kernel_rfl) ?_; go_simp) | (refine M.load_cell_m HM rfl 25 _ rfl 0 _ _ _ _ _ rfl rfl rfl (by kernel_rfl) (by kernel_rfl) ?_; go_simp)) | ((fail_if_success (refine M.lit_t rfl ?_)); (fail_if_success (refine M.lit_f rfl ?_)); refine M.split_guard rfl rfl ?_ ?_ <;> (intro hg_; simp only [hg_]; try simp only [M.hgs] at hg_)))
        | (refine Mc.at_cmp _ rfl ?_; refine Mc.cmp_m rfl _ rfl _ _ _ rfl _ _ _ rfl rfl _ rfl ?_ ?_ <;> (intro hg_; try simp only [M.hgs] at hg_; first | (exfalso; first | omega | (simp at hg_; done)) | (go_simp)))
        | ((fail_if_success (refine M.lit_t rfl ?_)); (fail_if_success (refine M.lit_f rfl ?_)); refine M.split_guard rfl rfl ?_ ?_ <;> (intro hg_; simp only [hg_]; try simp only [M.hgs] at hg_)))
      all_goals
        go_ret2
        exact ⟨_, _, rfl, ⟨rfl, rfl⟩, HM⟩
    · rw [if_pos hp, decide_eq_true hp]
      intro w hH
      have HM := Mem.start hH
      go_enter Try.func15, Try.ntmps15
      go_wp2_with (first
        | (go_big_skip)
        | (refine Sl.at_indexAddr 26 rfl ?_; refine Ma.indexArr_m rfl _ rfl 26 rfl 8 25 (by kernel_rfl) 1 (by kernel_rfl) gC 1 rfl .i64 (j : Int) rfl (by omega) (by omega) (1 + j) (by omega) ?_; go_simp)
        | (refine M.at_mem rfl ?_; first | (refine M.at_load 25 rfl ?_; first | (refine M.load_cell_m HM rfl 25 _ rfl 0 gC (1 + j) _ cs (.int .u64 p) rfl rfl HC.out (by kernel_rfl) (by kernel_rfl) ?_; go_simp) | (refine M.load_cell_m HM rfl 25 _ rfl 0 _ _ _ _ _ rfl rfl rfl (by kernel_rfl) (by kernel_rfl) ?_; go_simp)) | ((fail_if_success (refine M.lit_t rfl ?_)); (fail_if_success (refine M.lit_f rfl ?_)); refine M.split_guard rfl rfl ?_ ?_ <;> (intro hg_; simp only [hg_]; try simp only [M.hgs] at hg_)))
        | (refine Mc.at_cmp _ rfl ?_; refine Mc.cmp_m rfl _ rfl _ _ _ rfl _ _ _ rfl rfl _ rfl ?_ ?_ <;> (intro hg_; try simp only [M.hgs] at hg_; first | (exfalso; first | omega | (simp at hg_; done)) | (go_simp)))
        | ((fail_if_success (refine M.lit_t rfl ?_)); (fail_if_success (refine M.lit_f rfl ?_)); refine M.split_guard rfl rfl ?_ ?_ <;> (intro hg_; simp only [hg_]; try simp only [M.hgs] at hg_)))
      all_goals
        go_ret2
        exact ⟨_, _, rfl, ⟨rfl, rfl⟩, HM⟩
def okA (ps : Nat → Int) (v : Int) : Bool := decide (1 ≤ v) && okP ps (v / 512)
def atA (ps : Nat → Int) (v : Int) : Int := if 1 ≤ v then poolP ps (v / 512) + v % 512 * 8 else 0
set_option maxHeartbeats 4000000 in
theorem place_any (gM gC : Nat) (ps : Nat → Int) (h : Psok ps) (v : Int) (vm : v < 9223372036854775808) : Does Try.prog 28 #[.pointer (some ⟨gC, 0, none⟩), .int .i64 v] [(gC, row (ccells gM ps) 68)] (RIs (.tuple #[.int .u64 (atA ps v), .bool (okA ps v)]) [(gC, row (ccells gM ps) 68)]) := by
  have CP := pool_any gM gC ps (v / 512)
  have hpr := poolP_rng h (v / 512)
  unfold RIs at CP
  by_cases hv : 1 ≤ v
  · have e1 : okA ps v = okP ps (v / 512) := by unfold okA; rw [decide_eq_true hv, Bool.true_and]
    have e2 : atA ps v = poolP ps (v / 512) + v % 512 * 8 := by unfold atA; rw [if_pos hv]
    rw [e1, e2]
    clear e1 e2
    have hq : wrap64 (v.tdiv 512) = v / 512 := by rw [Int.tdiv_eq_ediv_of_nonneg (by omega)]; unfold wrap64; omega
    have hm : v.tmod 512 = v % 512 := Int.tmod_eq_emod_of_nonneg (by omega)
    have hm2 : wrap64 (v % 512) = v % 512 := by unfold wrap64; omega
    generalize poolP ps (v / 512) = p at CP hpr
    generalize okP ps (v / 512) = ok at CP
    generalize ccells gM ps = cs at CP
    intro w hH
    have HM := Mem.start hH
    go_enter Try.func28, Try.ntmps28
    go_wp2_with (first
      | (go_big_skip)
      | (go_at_call 15; (with_reducible refine (M.Does.call (CP) HM (M.perm_at 0 rfl)).mono ?_); clear HM; rintro e w_ ⟨v_, L_, rfl, ⟨rfl, rfl⟩, HM⟩; (try simp only [M.nrm] at HM); dsimp only)
      | (refine Mc.at_cmp _ rfl ?_; refine Mc.cmp_m rfl _ rfl _ _ _ rfl _ _ _ rfl rfl _ rfl ?_ ?_ <;> (intro hg_; try simp only [M.hgs] at hg_; first | (exfalso; first | omega | (simp at hg_; done)) | (go_simp)))
      | ((fail_if_success (refine M.lit_t rfl ?_)); (fail_if_success (refine M.lit_f rfl ?_)); refine M.split_guard rfl rfl ?_ ?_ <;> (intro hg_; simp only [hg_]; try simp only [M.hgs] at hg_)))
    all_goals
      go_ret2
      first
      | exact ⟨_, _, rfl, ⟨rfl, rfl⟩, HM⟩
      | exact ⟨_, rfl, _, rfl, HM⟩
  · have e1 : okA ps v = false := by unfold okA; rw [decide_eq_false hv]; rfl
    have e2 : atA ps v = 0 := by unfold atA; rw [if_neg hv]
    rw [e1, e2]
    clear e1 e2
    intro w hH
    have HM := Mem.start hH
    go_enter Try.func28, Try.ntmps28
    go_wp2_with (first
      | (go_big_skip)
      | (refine Mc.at_cmp _ rfl ?_; refine Mc.cmp_m rfl _ rfl _ _ _ rfl _ _ _ rfl rfl _ rfl ?_ ?_ <;> (intro hg_; try simp only [M.hgs] at hg_; first | (exfalso; first | omega | (simp at hg_; done)) | (go_simp)))
      | ((fail_if_success (refine M.lit_t rfl ?_)); (fail_if_success (refine M.lit_f rfl ?_)); refine M.split_guard rfl rfl ?_ ?_ <;> (intro hg_; simp only [hg_]; try simp only [M.hgs] at hg_)))
    all_goals
      go_ret2
      first
      | exact ⟨_, _, rfl, ⟨rfl, rfl⟩, HM⟩
      | exact ⟨_, ⟨rfl, rfl⟩, HM⟩
      | exact ⟨_, rfl, _, ⟨rfl, rfl⟩, HM⟩
/-- A virtual ASID's space; 0: none. -/
def spc (f : Int → Int) (ps : Nat → Int) (v : Int) : Int := if okA ps v = true then f (atA ps v / 8) else 0
def spcV (x : Int) : Value := if x = 0 then .tuple #[.int .u64 0, .int .i64 33] else .tuple #[.int .u64 x, .int .i64 0]
theorem atA_rng {ps : Nat → Int} (h : Psok ps) (v : Int) (hv : okA ps v = true) : 0 ≤ atA ps v ∧ atA ps v < 131072 ∧ atA ps v % 8 = 0 := by
  have := poolP_rng h (v / 512)
  unfold okA at hv
  simp only [Bool.and_eq_true, decide_eq_true_eq] at hv
  unfold atA
  rw [if_pos hv.1]
  omega
theorem err_at {ps : Nat → Int} (h : Psok ps) (v : Int) (hv : okA ps v = true) : errV 131072 (atA ps v) = 0 := by
  obtain ⟨a0, a1, a2⟩ := atA_rng h v hv
  exact errV_ok a2 a1
set_option maxHeartbeats 4000000 in
theorem space_any {f : Int → Int} {gM gC : Nat} {ps : Nat → Int} {AM : Hp} (hP : Pm 131072 f gM AM) (h : Psok ps) (v : Int) (vm : v < 9223372036854775808) : Does Try.prog 21 #[.pointer (some ⟨gC, 0, none⟩), .int .i64 v] ((gC, row (ccells gM ps) 68) :: AM) (RIs (spcV (spc f ps v)) ((gC, row (ccells gM ps) 68) :: AM)) := by
  have CP := place_any gM gC ps h v vm
  have hrg := fun hv => atA_rng h v hv
  have herr := fun hv => err_at h v hv
  have hc0 := ccells_0 gM ps
  have hfr := hP.rng (atA ps v / 8)
  have hsp : spc f ps v = if okA ps v = true then f (atA ps v / 8) else 0 := rfl
  rw [hsp]
  unfold RIs at CP
  have CR := fun a0 a1 => read_any hP (atA ps v) a0 a1
  generalize atA ps v = a at CP hrg herr hfr CR
  generalize okA ps v = ok at CP hrg herr
  generalize ccells gM ps = cs at CP hc0
  have HC0 := Lib.hid hc0
  clear hc0 hsp
  cases ok
  · simp only [Bool.false_eq_true, if_false]
    clear hrg herr CR hfr
    rw [show spcV 0 = .tuple #[.int .u64 0, .int .i64 33] from rfl]
    intro w hH
    have HM := Mem.start hH
    go_enter Try.func21, Try.ntmps21
    go_wp2_with (first
      | (go_big_skip)
      | (go_at_call 28; (with_reducible refine (M.Does.call (CP) HM (M.perm_at 0 rfl)).mono ?_); clear HM; rintro e w_ ⟨v_, L_, rfl, ⟨rfl, rfl⟩, HM⟩; (try simp only [M.nrm] at HM); dsimp only)
      | (refine M.at_mem rfl ?_; first | (refine M.at_load 24 rfl ?_; first | (refine M.load_cell_m HM rfl 24 _ rfl 0 _ _ _ _ _ rfl rfl rfl (by kernel_rfl) (by kernel_rfl) ?_; go_simp)) | ((fail_if_success (refine M.lit_t rfl ?_)); (fail_if_success (refine M.lit_f rfl ?_)); refine M.split_guard rfl rfl ?_ ?_ <;> (intro hg_; simp only [hg_]; try simp only [M.hgs] at hg_)))
      | (refine Mc.at_cmp _ rfl ?_; refine Mc.cmp_m rfl _ rfl _ _ _ rfl _ _ _ rfl rfl _ rfl ?_ ?_ <;> (intro hg_; try simp only [M.hgs] at hg_; first | (exfalso; first | omega | (simp at hg_; done)) | (go_simp)))
      | ((fail_if_success (refine M.lit_t rfl ?_)); (fail_if_success (refine M.lit_f rfl ?_)); refine M.split_guard rfl rfl ?_ ?_ <;> (intro hg_; simp only [hg_]; try simp only [M.hgs] at hg_)))
    all_goals
      go_ret2
      first
      | exact ⟨_, _, rfl, ⟨rfl, rfl⟩, HM⟩
      | exact ⟨_, ⟨rfl, rfl⟩, HM⟩
      | exact ⟨_, rfl, _, ⟨rfl, rfl⟩, HM⟩
  · simp only [if_true]
    obtain ⟨a0, a1, a2⟩ := hrg rfl
    have CR := CR a0 (by omega)
    rw [show readV 131072 f a = .tuple #[.int .u64 (f (a / 8)), .int .i64 0] by unfold readV; rw [if_pos (herr rfl)]] at CR
    generalize f (a / 8) = x at CR hfr
    clear hrg herr
    by_cases hx : x = 0
    · rw [show spcV x = .tuple #[.int .u64 0, .int .i64 33] by unfold spcV; rw [if_pos hx]]
      intro w hH
      have HM := Mem.start hH
      go_enter Try.func21, Try.ntmps21
      go_wp2_with (first
        | (go_big_skip)
        | (go_at_call 28; (with_reducible refine (M.Does.call (CP) HM (M.perm_at 0 rfl)).mono ?_); clear HM; rintro e w_ ⟨v_, L_, rfl, ⟨rfl, rfl⟩, HM⟩; (try simp only [M.nrm] at HM); dsimp only)
        | (go_at_call 17; have HM_ : M.Mem _ _ (([_]) ++ (AM)) _ := HM; (with_reducible refine (M.Does.tail _ (CR) HM_).mono ?_); clear HM HM_; rintro e w_ ⟨v_, L_, rfl, ⟨rfl, rfl⟩, HM⟩; (try simp only [List.cons_append, List.nil_append, List.append_nil] at HM); dsimp only)
        | (refine M.at_mem rfl ?_; first | (refine M.at_load 24 rfl ?_; first | (refine M.load_cell_m HM rfl 24 _ rfl 0 gC 0 _ cs (.pointer (some ⟨gM, 0, none⟩)) rfl rfl HC0.out (by kernel_rfl) (by kernel_rfl) ?_; go_simp) | (refine M.load_cell_m HM rfl 24 _ rfl 0 _ _ _ _ _ rfl rfl rfl (by kernel_rfl) (by kernel_rfl) ?_; go_simp)) | ((fail_if_success (refine M.lit_t rfl ?_)); (fail_if_success (refine M.lit_f rfl ?_)); refine M.split_guard rfl rfl ?_ ?_ <;> (intro hg_; simp only [hg_]; try simp only [M.hgs] at hg_)))
        | (refine Mc.at_cmp _ rfl ?_; refine Mc.cmp_m rfl _ rfl _ _ _ rfl _ _ _ rfl rfl _ rfl ?_ ?_ <;> (intro hg_; try simp only [M.hgs] at hg_; first | (exfalso; first | omega | (simp at hg_; done)) | (go_simp)))
        | ((fail_if_success (refine M.lit_t rfl ?_)); (fail_if_success (refine M.lit_f rfl ?_)); refine M.split_guard rfl rfl ?_ ?_ <;> (intro hg_; simp only [hg_]; try simp only [M.hgs] at hg_)))
      all_goals
        go_ret2
        first
        | exact ⟨_, _, rfl, ⟨rfl, rfl⟩, HM⟩
        | exact ⟨_, ⟨rfl, rfl⟩, HM⟩
        | exact ⟨_, rfl, _, ⟨rfl, rfl⟩, HM⟩
    · rw [show spcV x = .tuple #[.int .u64 x, .int .i64 0] by unfold spcV; rw [if_neg hx]]
      intro w hH
      have HM := Mem.start hH
      go_enter Try.func21, Try.ntmps21
      go_wp2_with (first
        | (go_big_skip)
        | (go_at_call 28; (with_reducible refine (M.Does.call (CP) HM (M.perm_at 0 rfl)).mono ?_); clear HM; rintro e w_ ⟨v_, L_, rfl, ⟨rfl, rfl⟩, HM⟩; (try simp only [M.nrm] at HM); dsimp only)
        | (go_at_call 17; have HM_ : M.Mem _ _ (([_]) ++ (AM)) _ := HM; (with_reducible refine (M.Does.tail _ (CR) HM_).mono ?_); clear HM HM_; rintro e w_ ⟨v_, L_, rfl, ⟨rfl, rfl⟩, HM⟩; (try simp only [List.cons_append, List.nil_append, List.append_nil] at HM); dsimp only)
        | (refine M.at_mem rfl ?_; first | (refine M.at_load 24 rfl ?_; first | (refine M.load_cell_m HM rfl 24 _ rfl 0 gC 0 _ cs (.pointer (some ⟨gM, 0, none⟩)) rfl rfl HC0.out (by kernel_rfl) (by kernel_rfl) ?_; go_simp) | (refine M.load_cell_m HM rfl 24 _ rfl 0 _ _ _ _ _ rfl rfl rfl (by kernel_rfl) (by kernel_rfl) ?_; go_simp)) | ((fail_if_success (refine M.lit_t rfl ?_)); (fail_if_success (refine M.lit_f rfl ?_)); refine M.split_guard rfl rfl ?_ ?_ <;> (intro hg_; simp only [hg_]; try simp only [M.hgs] at hg_)))
        | (refine Mc.at_cmp _ rfl ?_; refine Mc.cmp_m rfl _ rfl _ _ _ rfl _ _ _ rfl rfl _ rfl ?_ ?_ <;> (intro hg_; try simp only [M.hgs] at hg_; first | (exfalso; first | omega | (simp at hg_; done)) | (go_simp)))
        | ((fail_if_success (refine M.lit_t rfl ?_)); (fail_if_success (refine M.lit_f rfl ?_)); refine M.split_guard rfl rfl ?_ ?_ <;> (intro hg_; simp only [hg_]; try simp only [M.hgs] at hg_)))
      all_goals
        go_ret2
        first
        | exact ⟨_, _, rfl, ⟨rfl, rfl⟩, HM⟩
        | exact ⟨_, ⟨rfl, rfl⟩, HM⟩
        | exact ⟨_, rfl, _, ⟨rfl, rfl⟩, HM⟩
/-- Clear's answer, and the memory behind it. -/
def ClrRel (f : Int → Int) (gM gC : Nat) (ps : Nat → Int) (v : Int) (r : Value) (L : Hp) : Prop := (spc f ps v = 0 ∧ r = .int .i64 33 ∧ AC f gM gC ps L) ∨ (spc f ps v ≠ 0 ∧ r = .int .i64 0 ∧ AC (upd f (atA ps v / 8) 0) gM gC ps L)
set_option maxHeartbeats 4000000 in
theorem clear_any {f : Int → Int} {gM gC : Nat} {ps : Nat → Int} {AM : Hp} (hP : Pm 131072 f gM AM) (h : Psok ps) (v : Int) (vm : v < 9223372036854775808) : Does Try.prog 12 #[.pointer (some ⟨gC, 0, none⟩), .int .i64 v] ((gC, row (ccells gM ps) 68) :: AM) (ClrRel f gM gC ps v) := by
  have CS := space_any (gC := gC) hP h v vm
  have CP := place_any gM gC ps h v vm
  unfold RIs at CP CS
  by_cases hs : spc f ps v = 0
  · have hAC : AC f gM gC ps ((gC, row (ccells gM ps) 68) :: AM) := ⟨AM, hP, rfl⟩
    have HR := Lib.hid hs; have HAC := Lib.hid hAC
    rw [show spcV (spc f ps v) = .tuple #[.int .u64 0, .int .i64 33] by unfold spcV; rw [if_pos hs]] at CS
    clear hs hAC CP
    intro w hH
    have HM := Mem.start hH
    go_enter Try.func12, Try.ntmps12
    go_wp2_with (first
      | (go_big_skip)
      | (go_at_call 21; have HM_ : M.Mem _ _ ([] ++ (_ :: _)) _ := HM; (with_reducible refine (M.Does.tail _ CS HM_).mono ?_); clear HM HM_; rintro e w_ ⟨v_, L_, rfl, ⟨rfl, rfl⟩, HM⟩; (try simp only [List.cons_append, List.nil_append] at HM); dsimp only)
      | (refine M.at_mem rfl ?_; first | (refine M.at_load 24 rfl ?_; first | (refine M.load_cell_m HM rfl 24 _ rfl 0 _ _ _ _ _ rfl rfl rfl (by kernel_rfl) (by kernel_rfl) ?_; go_simp)) | ((fail_if_success (refine M.lit_t rfl ?_)); (fail_if_success (refine M.lit_f rfl ?_)); refine M.split_guard rfl rfl ?_ ?_ <;> (intro hg_; simp only [hg_]; try simp only [M.hgs] at hg_)))
      | (refine Mc.at_cmp _ rfl ?_; refine Mc.cmp_m rfl _ rfl _ _ _ rfl _ _ _ rfl rfl _ rfl ?_ ?_ <;> (intro hg_; try simp only [M.hgs] at hg_; first | (exfalso; first | omega | (simp at hg_; done)) | (go_simp)))
      | ((fail_if_success (refine M.lit_t rfl ?_)); (fail_if_success (refine M.lit_f rfl ?_)); refine M.split_guard rfl rfl ?_ ?_ <;> (intro hg_; simp only [hg_]; try simp only [M.hgs] at hg_)))
    all_goals
      go_ret
      first
      | exact ⟨_, _, rfl, .inl ⟨HR.out, rfl, HAC.out⟩, HM⟩
      | exact ⟨_, .inl ⟨HR.out, rfl, HAC.out⟩, HM⟩
      | exact ⟨_, rfl, _, .inl ⟨HR.out, rfl, HAC.out⟩, HM⟩
  · rw [show spcV (spc f ps v) = .tuple #[.int .u64 (spc f ps v), .int .i64 0] by unfold spcV; rw [if_neg hs]] at CS
    have hok : okA ps v = true := by
      cases ho : okA ps v with
      | true => rfl
      | false => exact absurd (by unfold spc; rw [ho]; rfl) hs
    obtain ⟨a0, a1, a2⟩ := atA_rng h v hok
    have CW := write_any hP (atA ps v) 0 a0 (by omega) (by decide) (by decide)
    rw [show wrF 131072 f (atA ps v) 0 = upd f (atA ps v / 8) 0 by unfold wrF; rw [if_pos (err_at h v hok)]] at CW
    rw [hok] at CP
    have HR := Lib.hid hs
    have hc0 := ccells_0 gM ps
    generalize spc f ps v = x at CS
    generalize hf2 : upd f (atA ps v / 8) 0 = f2 at CW
    generalize atA ps v = a at CP CW
    generalize hcs : ccells gM ps = cs at CP CS hc0
    have HC0 := Lib.hid hc0; have HF2 := Lib.hid hf2; have HCS := Lib.hid hcs
    clear hf2 hcs
    clear hs hok a0 a1 a2 hc0
    intro w hH
    have HM := Mem.start hH
    go_enter Try.func12, Try.ntmps12
    go_wp2_with (first
      | (go_big_skip)
      | (go_at_call 21; have HM_ : M.Mem _ _ ([] ++ (_ :: _)) _ := HM; (with_reducible refine (M.Does.tail _ CS HM_).mono ?_); clear HM HM_; rintro e w_ ⟨v_, L_, rfl, ⟨rfl, rfl⟩, HM⟩; (try simp only [List.cons_append, List.nil_append] at HM); dsimp only)
      | (go_at_call 16; have HM_ : M.Mem _ _ ([_] ++ _) _ := HM; (with_reducible refine (M.Does.tail _ CW HM_).mono ?_); clear HM HM_; rintro e w_ ⟨v_, L_, rfl, ⟨rfl, hw_⟩, HM⟩; (try simp only [List.cons_append, List.nil_append] at HM); dsimp only)
      | (go_at_call 28; (with_reducible refine (M.Does.call (CP) HM (M.perm_at 0 rfl)).mono ?_); clear HM; rintro e w_ ⟨v_, L_, rfl, ⟨rfl, rfl⟩, HM⟩; (try simp only [M.nrm] at HM); dsimp only)
      | (refine M.at_mem rfl ?_; first | (refine M.at_load 24 rfl ?_; first | (refine M.load_cell_m HM rfl 24 _ rfl 0 gC 0 _ cs (.pointer (some ⟨gM, 0, none⟩)) rfl rfl HC0.out (by kernel_rfl) (by kernel_rfl) ?_; go_simp) | (refine M.load_cell_m HM rfl 24 _ rfl 0 _ _ _ _ _ rfl rfl rfl (by kernel_rfl) (by kernel_rfl) ?_; go_simp)) | ((fail_if_success (refine M.lit_t rfl ?_)); (fail_if_success (refine M.lit_f rfl ?_)); refine M.split_guard rfl rfl ?_ ?_ <;> (intro hg_; simp only [hg_]; try simp only [M.hgs] at hg_)))
      | (refine Mc.at_cmp _ rfl ?_; refine Mc.cmp_m rfl _ rfl _ _ _ rfl _ _ _ rfl rfl _ rfl ?_ ?_ <;> (intro hg_; try simp only [M.hgs] at hg_; first | (exfalso; first | omega | (simp at hg_; done)) | (go_simp)))
      | ((fail_if_success (refine M.lit_t rfl ?_)); (fail_if_success (refine M.lit_f rfl ?_)); refine M.split_guard rfl rfl ?_ ?_ <;> (intro hg_; simp only [hg_]; try simp only [M.hgs] at hg_)))
    all_goals
      go_ret
      first
      | exact ⟨_, _, rfl, .inr ⟨HR.out, rfl, ⟨L_, by rw [HF2.out]; exact hw_, by rw [HCS.out]⟩⟩, HM⟩
      | exact ⟨_, .inr ⟨HR.out, rfl, ⟨L_, by rw [HF2.out]; exact hw_, by rw [HCS.out]⟩⟩, HM⟩
      | exact ⟨_, rfl, _, .inr ⟨HR.out, rfl, ⟨L_, by rw [HF2.out]; exact hw_, by rw [HCS.out]⟩⟩, HM⟩
end Go.Proofs.Ytndeaikmelpflaa.Aa
