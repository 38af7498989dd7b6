/- The document's control of virtual ASIDs: Add. -/
import Derived.Test.YtndeaikmelpflaaProg
import Derived.Test.YtndeaikmelpflaaAd
import Derived.Test.YtndeaikmelpflaaBi
namespace Go.Proofs.Ytndeaikmelpflaa.Ae
open Go.RowKit Go.Proofs.Ytndeaikmelpflaa.G Go.Proofs.Ytndeaikmelpflaa.B Go.Proofs.Ytndeaikmelpflaa.M Go.Proofs.Ytndeaikmelpflaa.Mv Go.Proofs.Ytndeaikmelpflaa.Sl Go.Proofs.Ytndeaikmelpflaa.Sm Go.Proofs.Ytndeaikmelpflaa.Sn Go.Proofs.Ytndeaikmelpflaa.Ma Go.Proofs.Ytndeaikmelpflaa.Dr Go.Proofs.Ytndeaikmelpflaa.Ya Go.Proofs.Ytndeaikmelpflaa.Yb Go.Proofs.Ytndeaikmelpflaa.Yc Go.Proofs.Ytndeaikmelpflaa.Ls Go.Proofs.Ytndeaikmelpflaa.Lt Go.Proofs.Ytndeaikmelpflaa.Lu Go.Proofs.Ytndeaikmelpflaa.Aa Go.Proofs.Ytndeaikmelpflaa.Ac Go.Proofs.Ytndeaikmelpflaa.Ad

set_option linter.unusedVariables false
set_option linter.unusedSimpArgs false
set_option maxRecDepth 100000
def rT (ps : Nat → Int) (vl : Value) (n e : Int) : Value := .tuple #[.agg (docC ps vl), .int .i64 n, .int .i64 e]
def RAdd (ps : Nat → Int) (vl : Value) (p : Int) (v : Value) : Prop :=
  (p % 4096 ≠ 0 ∧ v = rT ps vl 0 13) ∨
  (p % 4096 = 0 ∧ (p = 0 ∨ 131072 ≤ p) ∧ v = rT ps vl 0 12) ∨
  (p % 4096 = 0 ∧ ¬ (p = 0 ∨ 131072 ≤ p) ∧ (∃ j : Nat, j < 8 ∧ ps j = p) ∧ v = rT ps vl 0 16) ∨
  (p % 4096 = 0 ∧ ¬ (p = 0 ∨ 131072 ≤ p) ∧ (∀ j : Nat, j < 8 → ps j ≠ p) ∧ (∀ j : Nat, j < 8 → ps j ≠ 0) ∧ v = rT ps vl 0 15) ∨
  (p % 4096 = 0 ∧ ¬ (p = 0 ∨ 131072 ≤ p) ∧ (∀ j : Nat, j < 8 → ps j ≠ p) ∧ ∃ m : Nat, m < 8 ∧ ps m = 0 ∧ (∀ j : Nat, j < m → ps j ≠ 0) ∧ v = rT (Bc.upp ps m p) vl m 0)
def FrR (ps : Nat → Int) (k : Int) (v : Int) : Prop := (v = 8 ∧ ∀ j : Nat, k ≤ j → j < 8 → ps j ≠ 0) ∨ ∃ m : Nat, v = m ∧ k ≤ m ∧ m < 8 ∧ ps m = 0 ∧ ∀ j : Nat, k ≤ j → j < m → ps j ≠ 0
theorem radd_busy {ps : Nat → Int} {vl : Value} {p : Int} {v : Value} (h : RAdd ps vl p v) (ha : p % 4096 = 0) (hb : ¬ (p = 0 ∨ 131072 ≤ p)) {j : Nat} (hj : j < 8) (e : ps j = p) : v = rT ps vl 0 16 := by
  rcases h with ⟨h, -⟩ | ⟨-, h, -⟩ | ⟨-, -, -, h⟩ | ⟨-, -, h, -⟩ | ⟨-, -, h, -⟩
  · exact absurd ha h
  · exact absurd h hb
  · exact h
  · exact absurd e (h j hj)
  · exact absurd e (h j hj)
theorem radd_full {ps : Nat → Int} {vl : Value} {p : Int} {v : Value} (h : RAdd ps vl p v) (ha : p % 4096 = 0) (hb : ¬ (p = 0 ∨ 131072 ≤ p)) (h1 : ∀ j : Nat, j < 8 → ps j ≠ p) (h2 : ∀ j : Nat, j < 8 → ps j ≠ 0) : v = rT ps vl 0 15 := by
  rcases h with ⟨h, -⟩ | ⟨-, h, -⟩ | ⟨-, -, ⟨j, hj, e⟩, -⟩ | ⟨-, -, -, -, h⟩ | ⟨-, -, -, m, hm, e, -⟩
  · exact absurd ha h
  · exact absurd h hb
  · exact absurd e (h1 j hj)
  · exact h
  · exact absurd e (h2 m hm)
theorem radd_ok {ps : Nat → Int} {vl : Value} {p : Int} {v : Value} (h : RAdd ps vl p v) (ha : p % 4096 = 0) (hb : ¬ (p = 0 ∨ 131072 ≤ p)) (h1 : ∀ j : Nat, j < 8 → ps j ≠ p) {m : Nat} (hm : m < 8) (e : ps m = 0) (hl : ∀ j : Nat, j < m → ps j ≠ 0) : v = rT (Bc.upp ps m p) vl m 0 := by
  rcases h with ⟨h, -⟩ | ⟨-, h, -⟩ | ⟨-, -, ⟨j, hj, e⟩, -⟩ | ⟨-, -, -, h, -⟩ | ⟨-, -, -, m2, hm2, e2, hl2, h⟩
  · exact absurd ha h
  · exact absurd h hb
  · exact absurd e (h1 j hj)
  · exact absurd e (h m hm)
  · have : m = m2 := by
      rcases Nat.lt_trichotomy m m2 with a | a | a
      · exact absurd e (hl2 m a)
      · exact a
      · exact absurd e2 (hl m2 a)
    subst this
    exact h
set_option maxHeartbeats 8000000 in
theorem radd_any {ps : Nat → Int} {vl : Value} (hvl : vl.oneCell' = true) {p : Int} (p0 : 0 ≤ p) (p1 : p < 18446744073709551616) {r : Value} (h : RAdd ps vl p r) (w : World) : Calls Try.prog 30 #[.agg (docC ps vl), .int .u64 p] w fun e w' => e = .returned r ∧ Below w.heap.size w w' := by
  have HVL := Lib.hid hvl
  have HH := Lib.hid h
  have hmod : p.tmod 4096 = p % 4096 := Int.tmod_eq_emod_of_nonneg (by omega)
  clear hvl h
  by_cases ha : p % 4096 = 0
  rotate_left
  · obtain rfl : r = rT ps vl 0 13 := by
      rcases HH.out with ⟨-, h⟩ | ⟨h, -⟩ | ⟨h, -⟩ | ⟨h, -⟩ | ⟨h, -⟩
      · exact h
      all_goals exact absurd h ha
    have HM := Mem.nil w
    go_enter Try.func30, Try.ntmps30
    simp only [docC]
    go_wp2_with (first
      | (go_big_skip)
      | (refine M.at_mem rfl ?_; first | (refine M.at_load 25 rfl ?_; first | (refine M.load_cell_m HM rfl 25 _ rfl 0 _ _ _ _ _ rfl rfl rfl (by kernel_rfl) (by kernel_rfl) ?_; go_simp) | (refine M.load_cell_m HM rfl 25 _ rfl 1 _ _ _ _ _ rfl rfl rfl (by kernel_rfl) (by kernel_rfl) ?_; go_simp)) | (refine M.at_load 29 rfl ?_; first | (refine M.load_row_m HM rfl 29 _ rfl 0 _ _ _ rfl rfl (by kernel_rfl) (by kernel_rfl) ?_; go_simp) | (refine M.load_row_m HM rfl 29 _ rfl 1 _ _ _ rfl rfl (by kernel_rfl) (by kernel_rfl) ?_; go_simp)) | (refine M.at_store 25 rfl ?_; first | (refine M.store_row_m HM rfl 29 _ _ rfl 0 _ _ _ _ rfl rfl rfl (by kernel_rfl) rfl (docC_one _ HVL.out) ?_; clear HM; intro w_ HM; (try simp only [M.nrm] at HM); go_simp) | (refine M.store_cell_m HM rfl 25 _ _ rfl 0 _ _ _ _ _ rfl rfl rfl (by kernel_rfl) rfl (by simp) ?_; clear HM; intro w_ HM; (try simp only [M.nrm] at HM); go_simp) | (refine M.store_cell_m HM rfl 25 _ _ rfl 1 _ _ _ _ _ rfl rfl rfl (by kernel_rfl) rfl (by simp) ?_; clear HM; intro w_ HM; (try simp only [M.nrm] at HM); go_simp)) | (refine M.at_store 29 rfl ?_; first | (refine M.store_row_m HM rfl 29 _ _ rfl 0 _ _ _ _ rfl rfl rfl (by kernel_rfl) rfl (docC_one _ HVL.out) ?_; clear HM; intro w_ HM; (try simp only [M.nrm] at HM); go_simp) | (refine M.store_row_m HM rfl 29 _ _ rfl 0 _ _ _ _ rfl rfl rfl (by kernel_rfl) rfl (by simp [Value.oneCell']) ?_; clear HM; intro w_ HM; (try simp only [M.nrm] at HM); go_simp) | (refine M.store_row_m HM rfl 29 _ _ rfl 1 _ _ _ _ rfl rfl rfl (by kernel_rfl) rfl (by simp [Value.oneCell']) ?_; clear HM; intro w_ HM; (try simp only [M.nrm] at HM); go_simp)) | (refine M.at_alloc 29 rfl ?_; first | (refine M.box_m HM rfl rfl 29 _ rfl _ rfl ?_; clear HM; intro g2_ w_ HM; go_simp) | (refine M.alloc_m HM rfl rfl 29 rfl (.agg #[.int .u64 0, .int .u64 0, .int .u64 0, .int .u64 0, .int .u64 0, .int .u64 0, .int .u64 0, .int .u64 0, .int .u64 0, .slice none 0 0]) (by kernel_rfl) #[.int .u64 0, .int .u64 0, .int .u64 0, .int .u64 0, .int .u64 0, .int .u64 0, .int .u64 0, .int .u64 0, .int .u64 0, .slice none 0 0] rfl ?_; clear HM; intro g4_ w_ HM; go_simp) | (refine M.alloc_m HM rfl rfl 29 rfl (.agg #[(.int .u64 0), (.int .u64 0), (.int .u64 0), (.int .u64 0), (.int .u64 0), (.int .u64 0), (.int .u64 0), (.int .u64 0), (.int .u64 0), (.slice none 0 0)]) (by kernel_rfl) #[(.int .u64 0), (.int .u64 0), (.int .u64 0), (.int .u64 0), (.int .u64 0), (.int .u64 0), (.int .u64 0), (.int .u64 0), (.int .u64 0), (.slice none 0 0)] rfl ?_; clear HM; intro g_ w_ HM; go_simp)) | (refine M.at_box 29 rfl ?_; first | (refine M.box_m HM rfl rfl 29 _ rfl _ rfl ?_; clear HM; intro g2_ w_ HM; go_simp) | (refine M.alloc_m HM rfl rfl 29 rfl (.agg #[.int .u64 0, .int .u64 0, .int .u64 0, .int .u64 0, .int .u64 0, .int .u64 0, .int .u64 0, .int .u64 0, .int .u64 0, .slice none 0 0]) (by kernel_rfl) #[.int .u64 0, .int .u64 0, .int .u64 0, .int .u64 0, .int .u64 0, .int .u64 0, .int .u64 0, .int .u64 0, .int .u64 0, .slice none 0 0] rfl ?_; clear HM; intro g4_ w_ HM; go_simp) | (refine M.box_m HM rfl rfl 29 _ rfl _ rfl ?_; clear HM; intro g_ w_ HM; go_simp)) | ((fail_if_success (refine M.lit_t rfl ?_)); (fail_if_success (refine M.lit_f rfl ?_)); refine M.split_guard rfl rfl ?_ ?_ <;> (intro hg_; simp only [hg_]; try simp only [M.hgs] at hg_)))
      | (refine Mc.at_cmp _ rfl ?_; refine Mc.cmp_m rfl _ rfl _ _ _ rfl _ _ _ rfl rfl _ rfl ?_ ?_ <;> (intro hg_; try simp only [M.hgs] at hg_; first | (exfalso; first | omega | (simp at hg_; done)) | (go_simp)))
      | ((fail_if_success (refine M.lit_t rfl ?_)); (fail_if_success (refine M.lit_f rfl ?_)); refine M.split_guard rfl rfl ?_ ?_ <;> (intro hg_; simp only [hg_]; try simp only [M.hgs] at hg_)))
    all_goals
      refine bodyPost_ret (res_ctt HM rfl _ 0 _ _ _ rfl rfl (by kernel_rfl) (by kernel_rfl)) rfl ?_
      exact ⟨rfl, HM.none.to_below⟩
  by_cases hb : p = 0 ∨ 131072 ≤ p
  · obtain rfl : r = rT ps vl 0 12 := by
      rcases HH.out with ⟨h, -⟩ | ⟨-, -, h⟩ | ⟨-, h, -⟩ | ⟨-, h, -⟩ | ⟨-, h, -⟩
      · exact absurd ha h
      · exact h
      all_goals exact absurd hb h
    rcases (show p = 0 ∨ (p ≠ 0 ∧ 131072 ≤ p) by omega) with rfl | ⟨hz, hg⟩
    all_goals
      clear hb
      have HM := Mem.nil w
      go_enter Try.func30, Try.ntmps30
      simp only [docC]
      go_wp2_with (first
        | (go_big_skip)
        | (refine M.at_mem rfl ?_; first | (refine M.at_load 25 rfl ?_; first | (refine M.load_cell_m HM rfl 25 _ rfl 0 _ _ _ _ _ rfl rfl rfl (by kernel_rfl) (by kernel_rfl) ?_; go_simp) | (refine M.load_cell_m HM rfl 25 _ rfl 1 _ _ _ _ _ rfl rfl rfl (by kernel_rfl) (by kernel_rfl) ?_; go_simp)) | (refine M.at_load 29 rfl ?_; first | (refine M.load_row_m HM rfl 29 _ rfl 0 _ _ _ rfl rfl (by kernel_rfl) (by kernel_rfl) ?_; go_simp) | (refine M.load_row_m HM rfl 29 _ rfl 1 _ _ _ rfl rfl (by kernel_rfl) (by kernel_rfl) ?_; go_simp)) | (refine M.at_store 25 rfl ?_; first | (refine M.store_row_m HM rfl 29 _ _ rfl 0 _ _ _ _ rfl rfl rfl (by kernel_rfl) rfl (docC_one _ HVL.out) ?_; clear HM; intro w_ HM; (try simp only [M.nrm] at HM); go_simp) | (refine M.store_cell_m HM rfl 25 _ _ rfl 0 _ _ _ _ _ rfl rfl rfl (by kernel_rfl) rfl (by simp) ?_; clear HM; intro w_ HM; (try simp only [M.nrm] at HM); go_simp) | (refine M.store_cell_m HM rfl 25 _ _ rfl 1 _ _ _ _ _ rfl rfl rfl (by kernel_rfl) rfl (by simp) ?_; clear HM; intro w_ HM; (try simp only [M.nrm] at HM); go_simp)) | (refine M.at_store 29 rfl ?_; first | (refine M.store_row_m HM rfl 29 _ _ rfl 0 _ _ _ _ rfl rfl rfl (by kernel_rfl) rfl (docC_one _ HVL.out) ?_; clear HM; intro w_ HM; (try simp only [M.nrm] at HM); go_simp) | (refine M.store_row_m HM rfl 29 _ _ rfl 0 _ _ _ _ rfl rfl rfl (by kernel_rfl) rfl (by simp [Value.oneCell']) ?_; clear HM; intro w_ HM; (try simp only [M.nrm] at HM); go_simp) | (refine M.store_row_m HM rfl 29 _ _ rfl 1 _ _ _ _ rfl rfl rfl (by kernel_rfl) rfl (by simp [Value.oneCell']) ?_; clear HM; intro w_ HM; (try simp only [M.nrm] at HM); go_simp)) | (refine M.at_alloc 29 rfl ?_; first | (refine M.box_m HM rfl rfl 29 _ rfl _ rfl ?_; clear HM; intro g2_ w_ HM; go_simp) | (refine M.alloc_m HM rfl rfl 29 rfl (.agg #[.int .u64 0, .int .u64 0, .int .u64 0, .int .u64 0, .int .u64 0, .int .u64 0, .int .u64 0, .int .u64 0, .int .u64 0, .slice none 0 0]) (by kernel_rfl) #[.int .u64 0, .int .u64 0, .int .u64 0, .int .u64 0, .int .u64 0, .int .u64 0, .int .u64 0, .int .u64 0, .int .u64 0, .slice none 0 0] rfl ?_; clear HM; intro g4_ w_ HM; go_simp) | (refine M.alloc_m HM rfl rfl 29 rfl (.agg #[(.int .u64 0), (.int .u64 0), (.int .u64 0), (.int .u64 0), (.int .u64 0), (.int .u64 0), (.int .u64 0), (.int .u64 0), (.int .u64 0), (.slice none 0 0)]) (by kernel_rfl) #[(.int .u64 0), (.int .u64 0), (.int .u64 0), (.int .u64 0), (.int .u64 0), (.int .u64 0), (.int .u64 0), (.int .u64 0), (.int .u64 0), (.slice none 0 0)] rfl ?_; clear HM; intro g_ w_ HM; go_simp)) | (refine M.at_box 29 rfl ?_; first | (refine M.box_m HM rfl rfl 29 _ rfl _ rfl ?_; clear HM; intro g2_ w_ HM; go_simp) | (refine M.alloc_m HM rfl rfl 29 rfl (.agg #[.int .u64 0, .int .u64 0, .int .u64 0, .int .u64 0, .int .u64 0, .int .u64 0, .int .u64 0, .int .u64 0, .int .u64 0, .slice none 0 0]) (by kernel_rfl) #[.int .u64 0, .int .u64 0, .int .u64 0, .int .u64 0, .int .u64 0, .int .u64 0, .int .u64 0, .int .u64 0, .int .u64 0, .slice none 0 0] rfl ?_; clear HM; intro g4_ w_ HM; go_simp) | (refine M.box_m HM rfl rfl 29 _ rfl _ rfl ?_; clear HM; intro g_ w_ HM; go_simp)) | ((fail_if_success (refine M.lit_t rfl ?_)); (fail_if_success (refine M.lit_f rfl ?_)); refine M.split_guard rfl rfl ?_ ?_ <;> (intro hg_; simp only [hg_]; try simp only [M.hgs] at hg_)))
        | (refine Mc.at_cmp _ rfl ?_; refine Mc.cmp_m rfl _ rfl _ _ _ rfl _ _ _ rfl rfl _ rfl ?_ ?_ <;> (intro hg_; try simp only [M.hgs] at hg_; first | (exfalso; first | omega | (simp at hg_; done)) | (go_simp)))
        | ((fail_if_success (refine M.lit_t rfl ?_)); (fail_if_success (refine M.lit_f rfl ?_)); refine M.split_guard rfl rfl ?_ ?_ <;> (intro hg_; simp only [hg_]; try simp only [M.hgs] at hg_)))
      all_goals
        refine bodyPost_ret (res_ctt HM rfl _ 0 _ _ _ rfl rfl (by kernel_rfl) (by kernel_rfl)) rfl ?_
        exact ⟨rfl, HM.none.to_below⟩
  have HA := Lib.hid ha; have HB := Lib.hid hb
  obtain ⟨hz, hg⟩ : ¬ p = 0 ∧ p < 131072 := by omega
  have HCP := Lib.hid (fun (j : Nat) (hj : j < 8) => docC_p ps vl hj)
  have HCS := Lib.hid (fun (m : Nat) (hm : (m : Int) < 8) => docC_set ps vl hm p)
  simp only [docC] at HCP HCS
  clear hb
  have HM := Mem.nil w
  go_enter Try.func30, Try.ntmps30
  simp only [docC]
  go_wp2_with (first
    | (go_big_skip)
    | (refine M.at_mem rfl ?_; first | (refine M.at_load 25 rfl ?_; first | (refine M.load_cell_m HM rfl 25 _ rfl 0 _ _ _ _ _ rfl rfl rfl (by kernel_rfl) (by kernel_rfl) ?_; go_simp) | (refine M.load_cell_m HM rfl 25 _ rfl 1 _ _ _ _ _ rfl rfl rfl (by kernel_rfl) (by kernel_rfl) ?_; go_simp)) | (refine M.at_load 29 rfl ?_; first | (refine M.load_row_m HM rfl 29 _ rfl 0 _ _ _ rfl rfl (by kernel_rfl) (by kernel_rfl) ?_; go_simp) | (refine M.load_row_m HM rfl 29 _ rfl 1 _ _ _ rfl rfl (by kernel_rfl) (by kernel_rfl) ?_; go_simp)) | (refine M.at_store 25 rfl ?_; first | (refine M.store_cell_m HM rfl 25 _ _ rfl 0 _ _ _ _ _ rfl rfl rfl (by kernel_rfl) rfl (by simp) ?_; clear HM; intro w_ HM; (try simp only [M.nrm] at HM); go_simp) | (refine M.store_cell_m HM rfl 25 _ _ rfl 1 _ _ _ _ _ rfl rfl rfl (by kernel_rfl) rfl (by simp) ?_; clear HM; intro w_ HM; (try simp only [M.nrm] at HM); go_simp)) | (refine M.at_store 29 rfl ?_; first | (refine M.store_row_m HM rfl 29 _ _ rfl 0 _ _ _ _ rfl rfl rfl (by kernel_rfl) rfl (by simp [Value.oneCell']) ?_; clear HM; intro w_ HM; (try simp only [M.nrm] at HM); go_simp) | (refine M.store_row_m HM rfl 29 _ _ rfl 1 _ _ _ _ rfl rfl rfl (by kernel_rfl) rfl (by simp [Value.oneCell']) ?_; clear HM; intro w_ HM; (try simp only [M.nrm] at HM); go_simp)) | (refine M.at_alloc 29 rfl ?_; first | (refine M.box_m HM rfl rfl 29 _ rfl _ rfl ?_; clear HM; intro g2_ w_ HM; go_simp) | (refine M.alloc_m HM rfl rfl 29 rfl (.agg #[.int .u64 0, .int .u64 0, .int .u64 0, .int .u64 0, .int .u64 0, .int .u64 0, .int .u64 0, .int .u64 0, .int .u64 0, .slice none 0 0]) (by kernel_rfl) #[.int .u64 0, .int .u64 0, .int .u64 0, .int .u64 0, .int .u64 0, .int .u64 0, .int .u64 0, .int .u64 0, .int .u64 0, .slice none 0 0] rfl ?_; clear HM; intro g4_ w_ HM; go_simp) | (refine M.alloc_m HM rfl rfl 29 rfl (.agg #[(.int .u64 0), (.int .u64 0), (.int .u64 0), (.int .u64 0), (.int .u64 0), (.int .u64 0), (.int .u64 0), (.int .u64 0), (.int .u64 0), (.slice none 0 0)]) (by kernel_rfl) #[(.int .u64 0), (.int .u64 0), (.int .u64 0), (.int .u64 0), (.int .u64 0), (.int .u64 0), (.int .u64 0), (.int .u64 0), (.int .u64 0), (.slice none 0 0)] rfl ?_; clear HM; intro g_ w_ HM; go_simp)) | (refine M.at_box 29 rfl ?_; first | (refine M.box_m HM rfl rfl 29 _ rfl _ rfl ?_; clear HM; intro g2_ w_ HM; go_simp) | (refine M.alloc_m HM rfl rfl 29 rfl (.agg #[.int .u64 0, .int .u64 0, .int .u64 0, .int .u64 0, .int .u64 0, .int .u64 0, .int .u64 0, .int .u64 0, .int .u64 0, .slice none 0 0]) (by kernel_rfl) #[.int .u64 0, .int .u64 0, .int .u64 0, .int .u64 0, .int .u64 0, .int .u64 0, .int .u64 0, .int .u64 0, .int .u64 0, .slice none 0 0] rfl ?_; clear HM; intro g4_ w_ HM; go_simp) | (refine M.box_m HM rfl rfl 29 _ rfl _ rfl ?_; clear HM; intro g_ w_ HM; go_simp)) | ((fail_if_success (refine M.lit_t rfl ?_)); (fail_if_success (refine M.lit_f rfl ?_)); refine M.split_guard rfl rfl ?_ ?_ <;> (intro hg_; simp only [hg_]; try simp only [M.hgs] at hg_)))
    | (refine Mc.at_cmp _ rfl ?_; refine Mc.cmp_m rfl _ rfl _ _ _ rfl _ _ _ rfl rfl _ rfl ?_ ?_ <;> (intro hg_; try simp only [M.hgs] at hg_; first | (exfalso; first | omega | (simp at hg_; done)) | (go_simp)))
    | ((fail_if_success (refine M.lit_t rfl ?_)); (fail_if_success (refine M.lit_f rfl ?_)); refine M.split_guard rfl rfl ?_ ?_ <;> (intro hg_; simp only [hg_]; try simp only [M.hgs] at hg_)))
  clear ha hmod
  go_loopw [7, 8] (fun fv iv wr => ∃ i k : Int, -1 ≤ i ∧ i ≤ 7 ∧ iv = .int .i64 i ∧ fv = .int .i64 k ∧ FrR ps (i + 1) k ∧ (∀ j : Nat, i < j → j < 8 → ps j ≠ p) ∧ Mem w [] [(g4_, row #[.int .u64 0, .int .u64 0, .int .u64 0, .int .u64 0, .int .u64 0, .int .u64 0, .int .u64 0, .int .u64 0, .int .u64 0, .slice none 0 0] 29), (g2_, row #[.int .u64 131072, .int .u64 (ps 0), .int .u64 (ps 1), .int .u64 (ps 2), .int .u64 (ps 3), .int .u64 (ps 4), .int .u64 (ps 5), .int .u64 (ps 6), .int .u64 (ps 7), vl] 29)] wr) (fun _ iv _ => (intOf iv + 1).toNat)
  case atStart => exact ⟨7, 8, by omega, by omega, rfl, rfl, .inl ⟨rfl, fun j h1 h2 => by omega⟩, fun j h1 h2 => by omega, HM⟩
  case round =>
    clear HM
    obtain ⟨i, k, i0, i7, rfl, rfl, hfr, hne, HM⟩ := hrel
    have HFR := Lib.hid hfr; have HNE := Lib.hid hne; clear hfr hne
    by_cases hi : 0 ≤ i
    · obtain ⟨j, rfl⟩ : ∃ j : Nat, i = j := ⟨i.toNat, by omega⟩
      have hcp := HCP.out j (by omega)
      have HV := Lib.hid hcp
      generalize hpj : ps j = v at HV
      have HPJ := Lib.hid hpj
      clear hcp hpj
      by_cases hv : v = p
      · have HVE := Lib.hid hv
        go_wp2_with (first
          | (go_big_skip)
          | (refine Sl.at_indexAddr 26 rfl ?_; refine Ma.indexArr_m rfl _ rfl 26 rfl 8 25 (by kernel_rfl) 1 (by kernel_rfl) g2_ 1 rfl .i64 (j : Int) rfl (by omega) (by omega) (1 + j) (by omega) ?_; go_simp)
          | (refine M.at_mem rfl ?_; first | (refine M.at_load 25 rfl ?_; first | (refine M.load_cell_m HM rfl 25 _ rfl 1 g2_ (1 + j) _ _ (.int .u64 v) rfl rfl HV.out (by kernel_rfl) (by kernel_rfl) ?_; go_simp) | (refine M.load_cell_m HM rfl 25 _ rfl 0 _ _ _ _ _ rfl rfl rfl (by kernel_rfl) (by kernel_rfl) ?_; go_simp) | (refine M.load_cell_m HM rfl 25 _ rfl 1 _ _ _ _ _ rfl rfl rfl (by kernel_rfl) (by kernel_rfl) ?_; go_simp)) | (refine M.at_load 29 rfl ?_; first | (refine M.load_cell_m HM rfl 25 _ rfl 1 g2_ (1 + j) _ _ (.int .u64 v) rfl rfl HV.out (by kernel_rfl) (by kernel_rfl) ?_; go_simp) | (refine M.load_row_m HM rfl 29 _ rfl 0 _ _ _ rfl rfl (by kernel_rfl) (by kernel_rfl) ?_; go_simp) | (refine M.load_row_m HM rfl 29 _ rfl 1 _ _ _ rfl rfl (by kernel_rfl) (by kernel_rfl) ?_; go_simp)) | (refine M.at_store 25 rfl ?_; first | (refine M.store_row_m HM rfl 29 _ _ rfl 0 _ _ _ _ rfl rfl rfl (by kernel_rfl) rfl (docC_one _ HVL.out) ?_; clear HM; intro w_ HM; (try simp only [M.nrm] at HM); go_simp) | (refine M.store_cell_m HM rfl 25 _ _ rfl 0 _ _ _ _ _ rfl rfl rfl (by kernel_rfl) rfl (by simp) ?_; clear HM; intro w_ HM; (try simp only [M.nrm] at HM); go_simp) | (refine M.store_cell_m HM rfl 25 _ _ rfl 1 _ _ _ _ _ rfl rfl rfl (by kernel_rfl) rfl (by simp) ?_; clear HM; intro w_ HM; (try simp only [M.nrm] at HM); go_simp)) | (refine M.at_store 29 rfl ?_; first | (refine M.store_row_m HM rfl 29 _ _ rfl 0 _ _ _ _ rfl rfl rfl (by kernel_rfl) rfl (docC_one _ HVL.out) ?_; clear HM; intro w_ HM; (try simp only [M.nrm] at HM); go_simp) | (refine M.store_row_m HM rfl 29 _ _ rfl 0 _ _ _ _ rfl rfl rfl (by kernel_rfl) rfl (by simp [Value.oneCell']) ?_; clear HM; intro w_ HM; (try simp only [M.nrm] at HM); go_simp) | (refine M.store_row_m HM rfl 29 _ _ rfl 1 _ _ _ _ rfl rfl rfl (by kernel_rfl) rfl (by simp [Value.oneCell']) ?_; clear HM; intro w_ HM; (try simp only [M.nrm] at HM); go_simp)) | (refine M.at_alloc 29 rfl ?_; first | (refine M.alloc_m HM rfl rfl 29 rfl (.agg #[(.int .u64 0), (.int .u64 0), (.int .u64 0), (.int .u64 0), (.int .u64 0), (.int .u64 0), (.int .u64 0), (.int .u64 0), (.int .u64 0), (.slice none 0 0)]) (by kernel_rfl) #[(.int .u64 0), (.int .u64 0), (.int .u64 0), (.int .u64 0), (.int .u64 0), (.int .u64 0), (.int .u64 0), (.int .u64 0), (.int .u64 0), (.slice none 0 0)] rfl ?_; clear HM; intro g_ w_ HM; go_simp)) | (refine M.at_box 29 rfl ?_; first | (refine M.box_m HM rfl rfl 29 _ rfl _ rfl ?_; clear HM; intro g_ w_ HM; go_simp)) | ((fail_if_success (refine M.lit_t rfl ?_)); (fail_if_success (refine M.lit_f rfl ?_)); refine M.split_guard rfl rfl ?_ ?_ <;> (intro hg_; simp only [hg_]; try simp only [M.hgs] at hg_)))
          | (refine Mc.at_cmp _ rfl ?_; refine Mc.cmp_m rfl _ rfl _ _ _ rfl _ _ _ rfl rfl _ rfl ?_ ?_ <;> (intro hg_; try simp only [M.hgs] at hg_; first | (exfalso; first | omega | (simp at hg_; done)) | (go_simp)))
          | ((fail_if_success (refine M.lit_t rfl ?_)); (fail_if_success (refine M.lit_f rfl ?_)); refine M.split_guard rfl rfl ?_ ?_ <;> (intro hg_; simp only [hg_]; try simp only [M.hgs] at hg_)))
        all_goals
          refine bodyPost_ret (res_ctt HM rfl _ 0 _ _ _ rfl rfl (by kernel_rfl) (by kernel_rfl)) rfl ?_
          exact ⟨by rw [radd_busy HH.out HA.out HB.out (show j < 8 by omega) (HPJ.out.trans HVE.out)]; rfl, HM.none.to_below⟩
      · have HNV := Lib.hid hv
        by_cases hv0 : v = 0
        · have HV0 := Lib.hid hv0
          go_wp2_with (first
            | (go_big_skip)
            | (refine Sl.at_indexAddr 26 rfl ?_; refine Ma.indexArr_m rfl _ rfl 26 rfl 8 25 (by kernel_rfl) 1 (by kernel_rfl) g2_ 1 rfl .i64 (j : Int) rfl (by omega) (by omega) (1 + j) (by omega) ?_; go_simp)
            | (refine M.at_mem rfl ?_; first | (refine M.at_load 25 rfl ?_; first | (refine M.load_cell_m HM rfl 25 _ rfl 1 g2_ (1 + j) _ _ (.int .u64 v) rfl rfl HV.out (by kernel_rfl) (by kernel_rfl) ?_; go_simp) | (refine M.load_cell_m HM rfl 25 _ rfl 0 _ _ _ _ _ rfl rfl rfl (by kernel_rfl) (by kernel_rfl) ?_; go_simp) | (refine M.load_cell_m HM rfl 25 _ rfl 1 _ _ _ _ _ rfl rfl rfl (by kernel_rfl) (by kernel_rfl) ?_; go_simp)) | (refine M.at_load 29 rfl ?_; first | (refine M.load_cell_m HM rfl 25 _ rfl 1 g2_ (1 + j) _ _ (.int .u64 v) rfl rfl HV.out (by kernel_rfl) (by kernel_rfl) ?_; go_simp) | (refine M.load_row_m HM rfl 29 _ rfl 0 _ _ _ rfl rfl (by kernel_rfl) (by kernel_rfl) ?_; go_simp) | (refine M.load_row_m HM rfl 29 _ rfl 1 _ _ _ rfl rfl (by kernel_rfl) (by kernel_rfl) ?_; go_simp)) | (refine M.at_store 25 rfl ?_; first | (refine M.store_cell_m HM rfl 25 _ _ rfl 0 _ _ _ _ _ rfl rfl rfl (by kernel_rfl) rfl (by simp) ?_; clear HM; intro w_ HM; (try simp only [M.nrm] at HM); go_simp) | (refine M.store_cell_m HM rfl 25 _ _ rfl 1 _ _ _ _ _ rfl rfl rfl (by kernel_rfl) rfl (by simp) ?_; clear HM; intro w_ HM; (try simp only [M.nrm] at HM); go_simp)) | (refine M.at_store 29 rfl ?_; first | (refine M.store_row_m HM rfl 29 _ _ rfl 0 _ _ _ _ rfl rfl rfl (by kernel_rfl) rfl (by simp [Value.oneCell']) ?_; clear HM; intro w_ HM; (try simp only [M.nrm] at HM); go_simp) | (refine M.store_row_m HM rfl 29 _ _ rfl 1 _ _ _ _ rfl rfl rfl (by kernel_rfl) rfl (by simp [Value.oneCell']) ?_; clear HM; intro w_ HM; (try simp only [M.nrm] at HM); go_simp)) | (refine M.at_alloc 29 rfl ?_; first | (refine M.alloc_m HM rfl rfl 29 rfl (.agg #[(.int .u64 0), (.int .u64 0), (.int .u64 0), (.int .u64 0), (.int .u64 0), (.int .u64 0), (.int .u64 0), (.int .u64 0), (.int .u64 0), (.slice none 0 0)]) (by kernel_rfl) #[(.int .u64 0), (.int .u64 0), (.int .u64 0), (.int .u64 0), (.int .u64 0), (.int .u64 0), (.int .u64 0), (.int .u64 0), (.int .u64 0), (.slice none 0 0)] rfl ?_; clear HM; intro g_ w_ HM; go_simp)) | (refine M.at_box 29 rfl ?_; first | (refine M.box_m HM rfl rfl 29 _ rfl _ rfl ?_; clear HM; intro g_ w_ HM; go_simp)) | ((fail_if_success (refine M.lit_t rfl ?_)); (fail_if_success (refine M.lit_f rfl ?_)); refine M.split_guard rfl rfl ?_ ?_ <;> (intro hg_; simp only [hg_]; try simp only [M.hgs] at hg_)))
            | (refine Mc.at_cmp _ rfl ?_; refine Mc.cmp_m rfl _ rfl _ _ _ rfl _ _ _ rfl rfl _ rfl ?_ ?_ <;> (intro hg_; try simp only [M.hgs] at hg_; first | (exfalso; first | omega | (simp at hg_; done)) | (go_simp)))
            | ((fail_if_success (refine M.lit_t rfl ?_)); (fail_if_success (refine M.lit_f rfl ?_)); refine M.split_guard rfl rfl ?_ ?_ <;> (intro hg_; simp only [hg_]; try simp only [M.hgs] at hg_)))
          all_goals
            go_roundw
            case rel => exact ⟨(j : Int) - 1, j, by omega, by omega, rfl, rfl, .inr ⟨j, rfl, by omega, by omega, HPJ.out.trans HV0.out, fun x h1 h2 => by omega⟩, fun x h1 h2 => by
              by_cases he : x = j
              · subst he; rw [HPJ.out]; exact HNV.out
              · exact HNE.out x (by omega) h2, HM⟩
            case measure => first | (simp [intOf]; done) | (simp [intOf]; omega)
        · have HNZ := Lib.hid hv0
          go_wp2_with (first
            | (go_big_skip)
            | (refine Sl.at_indexAddr 26 rfl ?_; refine Ma.indexArr_m rfl _ rfl 26 rfl 8 25 (by kernel_rfl) 1 (by kernel_rfl) g2_ 1 rfl .i64 (j : Int) rfl (by omega) (by omega) (1 + j) (by omega) ?_; go_simp)
            | (refine M.at_mem rfl ?_; first | (refine M.at_load 25 rfl ?_; first | (refine M.load_cell_m HM rfl 25 _ rfl 1 g2_ (1 + j) _ _ (.int .u64 v) rfl rfl HV.out (by kernel_rfl) (by kernel_rfl) ?_; go_simp) | (refine M.load_cell_m HM rfl 25 _ rfl 0 _ _ _ _ _ rfl rfl rfl (by kernel_rfl) (by kernel_rfl) ?_; go_simp) | (refine M.load_cell_m HM rfl 25 _ rfl 1 _ _ _ _ _ rfl rfl rfl (by kernel_rfl) (by kernel_rfl) ?_; go_simp)) | (refine M.at_load 29 rfl ?_; first | (refine M.load_cell_m HM rfl 25 _ rfl 1 g2_ (1 + j) _ _ (.int .u64 v) rfl rfl HV.out (by kernel_rfl) (by kernel_rfl) ?_; go_simp) | (refine M.load_row_m HM rfl 29 _ rfl 0 _ _ _ rfl rfl (by kernel_rfl) (by kernel_rfl) ?_; go_simp) | (refine M.load_row_m HM rfl 29 _ rfl 1 _ _ _ rfl rfl (by kernel_rfl) (by kernel_rfl) ?_; go_simp)) | (refine M.at_store 25 rfl ?_; first | (refine M.store_cell_m HM rfl 25 _ _ rfl 0 _ _ _ _ _ rfl rfl rfl (by kernel_rfl) rfl (by simp) ?_; clear HM; intro w_ HM; (try simp only [M.nrm] at HM); go_simp) | (refine M.store_cell_m HM rfl 25 _ _ rfl 1 _ _ _ _ _ rfl rfl rfl (by kernel_rfl) rfl (by simp) ?_; clear HM; intro w_ HM; (try simp only [M.nrm] at HM); go_simp)) | (refine M.at_store 29 rfl ?_; first | (refine M.store_row_m HM rfl 29 _ _ rfl 0 _ _ _ _ rfl rfl rfl (by kernel_rfl) rfl (by simp [Value.oneCell']) ?_; clear HM; intro w_ HM; (try simp only [M.nrm] at HM); go_simp) | (refine M.store_row_m HM rfl 29 _ _ rfl 1 _ _ _ _ rfl rfl rfl (by kernel_rfl) rfl (by simp [Value.oneCell']) ?_; clear HM; intro w_ HM; (try simp only [M.nrm] at HM); go_simp)) | (refine M.at_alloc 29 rfl ?_; first | (refine M.alloc_m HM rfl rfl 29 rfl (.agg #[(.int .u64 0), (.int .u64 0), (.int .u64 0), (.int .u64 0), (.int .u64 0), (.int .u64 0), (.int .u64 0), (.int .u64 0), (.int .u64 0), (.slice none 0 0)]) (by kernel_rfl) #[(.int .u64 0), (.int .u64 0), (.int .u64 0), (.int .u64 0), (.int .u64 0), (.int .u64 0), (.int .u64 0), (.int .u64 0), (.int .u64 0), (.slice none 0 0)] rfl ?_; clear HM; intro g_ w_ HM; go_simp)) | (refine M.at_box 29 rfl ?_; first | (refine M.box_m HM rfl rfl 29 _ rfl _ rfl ?_; clear HM; intro g_ w_ HM; go_simp)) | ((fail_if_success (refine M.lit_t rfl ?_)); (fail_if_success (refine M.lit_f rfl ?_)); refine M.split_guard rfl rfl ?_ ?_ <;> (intro hg_; simp only [hg_]; try simp only [M.hgs] at hg_)))
            | (refine Mc.at_cmp _ rfl ?_; refine Mc.cmp_m rfl _ rfl _ _ _ rfl _ _ _ rfl rfl _ rfl ?_ ?_ <;> (intro hg_; try simp only [M.hgs] at hg_; first | (exfalso; first | omega | (simp at hg_; done)) | (go_simp)))
            | ((fail_if_success (refine M.lit_t rfl ?_)); (fail_if_success (refine M.lit_f rfl ?_)); refine M.split_guard rfl rfl ?_ ?_ <;> (intro hg_; simp only [hg_]; try simp only [M.hgs] at hg_)))
          all_goals
            go_roundw
            case rel => exact ⟨(j : Int) - 1, k, by omega, by omega, rfl, rfl, (by
              have hx : ∀ x : Nat, (j : Int) - 1 + 1 ≤ x → x = j ∨ (j : Int) + 1 ≤ x := fun x h => by omega
              have hj0 : ps j ≠ 0 := by rw [HPJ.out]; exact HNZ.out
              rcases HFR.out with ⟨h1, h2⟩ | ⟨m, h1, h2, h3, h4, h5⟩
              · exact .inl ⟨h1, fun x a b => by exact (hx x a).elim (fun e => by rw [e]; exact hj0) (fun a => h2 x a b)⟩
              · exact .inr ⟨m, h1, by omega, h3, h4, fun x a b => by exact (hx x a).elim (fun e => by rw [e]; exact hj0) (fun a => h5 x a b)⟩), fun x h1 h2 => by
              by_cases he : x = j
              · subst he; rw [HPJ.out]; exact HNV.out
              · exact HNE.out x (by omega) h2, HM⟩
            case measure => first | (simp [intOf]; done) | (simp [intOf]; omega)
    · obtain rfl : i = -1 := by omega
      have hne2 : ∀ j : Nat, j < 8 → ps j ≠ p := fun j hj => HNE.out j (by omega) hj
      rcases HFR.out with ⟨rfl, hfull⟩ | ⟨m, rfl, m0, m8, hz0, hlow⟩
      · obtain rfl := radd_full HH.out HA.out HB.out hne2 (fun j hj => hfull j (by omega) hj)
        clear hfull hne2
        go_wp2_with (first
          | (go_big_skip)
          | (refine M.at_mem rfl ?_; first | (refine M.at_load 25 rfl ?_; first | (refine M.load_cell_m HM rfl 25 _ rfl 0 _ _ _ _ _ rfl rfl rfl (by kernel_rfl) (by kernel_rfl) ?_; go_simp) | (refine M.load_cell_m HM rfl 25 _ rfl 1 _ _ _ _ _ rfl rfl rfl (by kernel_rfl) (by kernel_rfl) ?_; go_simp)) | (refine M.at_load 29 rfl ?_; first | (refine M.load_row_m HM rfl 29 _ rfl 0 _ _ _ rfl rfl (by kernel_rfl) (by kernel_rfl) ?_; go_simp) | (refine M.load_row_m HM rfl 29 _ rfl 1 _ _ _ rfl rfl (by kernel_rfl) (by kernel_rfl) ?_; go_simp)) | (refine M.at_store 25 rfl ?_; first | (refine M.store_row_m HM rfl 29 _ _ rfl 0 _ _ _ _ rfl rfl rfl (by kernel_rfl) rfl (docC_one _ HVL.out) ?_; clear HM; intro w_ HM; (try simp only [M.nrm] at HM); go_simp) | (refine M.store_cell_m HM rfl 25 _ _ rfl 0 _ _ _ _ _ rfl rfl rfl (by kernel_rfl) rfl (by simp) ?_; clear HM; intro w_ HM; (try simp only [M.nrm] at HM); go_simp) | (refine M.store_cell_m HM rfl 25 _ _ rfl 1 _ _ _ _ _ rfl rfl rfl (by kernel_rfl) rfl (by simp) ?_; clear HM; intro w_ HM; (try simp only [M.nrm] at HM); go_simp)) | (refine M.at_store 29 rfl ?_; first | (refine M.store_row_m HM rfl 29 _ _ rfl 0 _ _ _ _ rfl rfl rfl (by kernel_rfl) rfl (docC_one _ HVL.out) ?_; clear HM; intro w_ HM; (try simp only [M.nrm] at HM); go_simp) | (refine M.store_row_m HM rfl 29 _ _ rfl 0 _ _ _ _ rfl rfl rfl (by kernel_rfl) rfl (by simp [Value.oneCell']) ?_; clear HM; intro w_ HM; (try simp only [M.nrm] at HM); go_simp) | (refine M.store_row_m HM rfl 29 _ _ rfl 1 _ _ _ _ rfl rfl rfl (by kernel_rfl) rfl (by simp [Value.oneCell']) ?_; clear HM; intro w_ HM; (try simp only [M.nrm] at HM); go_simp)) | (refine M.at_alloc 29 rfl ?_; first | (refine M.alloc_m HM rfl rfl 29 rfl (.agg #[(.int .u64 0), (.int .u64 0), (.int .u64 0), (.int .u64 0), (.int .u64 0), (.int .u64 0), (.int .u64 0), (.int .u64 0), (.int .u64 0), (.slice none 0 0)]) (by kernel_rfl) #[(.int .u64 0), (.int .u64 0), (.int .u64 0), (.int .u64 0), (.int .u64 0), (.int .u64 0), (.int .u64 0), (.int .u64 0), (.int .u64 0), (.slice none 0 0)] rfl ?_; clear HM; intro g_ w_ HM; go_simp)) | (refine M.at_box 29 rfl ?_; first | (refine M.box_m HM rfl rfl 29 _ rfl _ rfl ?_; clear HM; intro g_ w_ HM; go_simp)) | ((fail_if_success (refine M.lit_t rfl ?_)); (fail_if_success (refine M.lit_f rfl ?_)); refine M.split_guard rfl rfl ?_ ?_ <;> (intro hg_; simp only [hg_]; try simp only [M.hgs] at hg_)))
          | (refine Mc.at_cmp _ rfl ?_; refine Mc.cmp_m rfl _ rfl _ _ _ rfl _ _ _ rfl rfl _ rfl ?_ ?_ <;> (intro hg_; try simp only [M.hgs] at hg_; first | (exfalso; first | omega | (simp at hg_; done)) | (go_simp)))
          | ((fail_if_success (refine M.lit_t rfl ?_)); (fail_if_success (refine M.lit_f rfl ?_)); refine M.split_guard rfl rfl ?_ ?_ <;> (intro hg_; simp only [hg_]; try simp only [M.hgs] at hg_)))
        all_goals
          refine bodyPost_ret (res_ctt HM rfl _ 0 _ _ _ rfl rfl (by kernel_rfl) (by kernel_rfl)) rfl ?_
          exact ⟨rfl, HM.none.to_below⟩
      · obtain rfl := radd_ok HH.out HA.out HB.out hne2 m8 hz0 (fun j hj => hlow j (by omega) hj)
        have hm8 : (m : Int) < 8 := by omega
        have hm9 : ¬ (m : Int) = 8 := by omega
        clear hz0 hlow hne2
        go_wp2_with (first
          | (go_big_skip)
          | (refine Sl.at_indexAddr 26 rfl ?_; refine Ma.indexArr_m rfl _ rfl 26 rfl 8 25 (by kernel_rfl) 1 (by kernel_rfl) g2_ 1 rfl .i64 (m : Int) rfl (by omega) (by omega) (1 + m) (by omega) ?_; go_simp)
          | (refine M.at_mem rfl ?_; first | (refine M.at_load 25 rfl ?_; first | (refine M.load_cell_m HM rfl 25 _ rfl 0 _ _ _ _ _ rfl rfl rfl (by kernel_rfl) (by kernel_rfl) ?_; go_simp) | (refine M.load_cell_m HM rfl 25 _ rfl 1 _ _ _ _ _ rfl rfl rfl (by kernel_rfl) (by kernel_rfl) ?_; go_simp)) | (refine M.at_load 29 rfl ?_; first | (refine M.load_row_m HM rfl 29 _ rfl 0 _ _ _ rfl rfl (by kernel_rfl) (by kernel_rfl) ?_; go_simp) | (refine M.load_row_m HM rfl 29 _ rfl 1 _ _ _ rfl rfl (by kernel_rfl) (by kernel_rfl) ?_; go_simp)) | (refine M.at_store 25 rfl ?_; first | (refine M.store_cell_m HM rfl 25 _ _ rfl 1 _ (1 + m) _ _ (.int .u64 p) rfl rfl rfl (by kernel_rfl) rfl (by simp; omega) ?_; clear HM; intro w_ HM; rw [HCS.out m hm8] at HM; (try simp only [List.set_cons_zero, List.set_cons_succ] at HM); go_simp) | (refine M.store_row_m HM rfl 29 _ _ rfl 0 _ _ _ _ rfl rfl rfl (by kernel_rfl) rfl (docC_one _ HVL.out) ?_; clear HM; intro w_ HM; (try simp only [M.nrm] at HM); go_simp) | (refine M.store_cell_m HM rfl 25 _ _ rfl 0 _ _ _ _ _ rfl rfl rfl (by kernel_rfl) rfl (by simp) ?_; clear HM; intro w_ HM; (try simp only [M.nrm] at HM); go_simp) | (refine M.store_cell_m HM rfl 25 _ _ rfl 1 _ _ _ _ _ rfl rfl rfl (by kernel_rfl) rfl (by simp) ?_; clear HM; intro w_ HM; (try simp only [M.nrm] at HM); go_simp)) | (refine M.at_store 29 rfl ?_; first | (refine M.store_cell_m HM rfl 25 _ _ rfl 1 _ (1 + m) _ _ (.int .u64 p) rfl rfl rfl (by kernel_rfl) rfl (by simp; omega) ?_; clear HM; intro w_ HM; rw [HCS.out m hm8] at HM; (try simp only [List.set_cons_zero, List.set_cons_succ] at HM); go_simp) | (refine M.store_row_m HM rfl 29 _ _ rfl 0 _ _ _ _ rfl rfl rfl (by kernel_rfl) rfl (docC_one _ HVL.out) ?_; clear HM; intro w_ HM; (try simp only [M.nrm] at HM); go_simp) | (refine M.store_row_m HM rfl 29 _ _ rfl 0 _ _ _ _ rfl rfl rfl (by kernel_rfl) rfl (by simp [Value.oneCell']) ?_; clear HM; intro w_ HM; (try simp only [M.nrm] at HM); go_simp) | (refine M.store_row_m HM rfl 29 _ _ rfl 1 _ _ _ _ rfl rfl rfl (by kernel_rfl) rfl (by simp [Value.oneCell']) ?_; clear HM; intro w_ HM; (try simp only [M.nrm] at HM); go_simp)) | (refine M.at_alloc 29 rfl ?_; first | (refine M.alloc_m HM rfl rfl 29 rfl (.agg #[(.int .u64 0), (.int .u64 0), (.int .u64 0), (.int .u64 0), (.int .u64 0), (.int .u64 0), (.int .u64 0), (.int .u64 0), (.int .u64 0), (.slice none 0 0)]) (by kernel_rfl) #[(.int .u64 0), (.int .u64 0), (.int .u64 0), (.int .u64 0), (.int .u64 0), (.int .u64 0), (.int .u64 0), (.int .u64 0), (.int .u64 0), (.slice none 0 0)] rfl ?_; clear HM; intro g_ w_ HM; go_simp)) | (refine M.at_box 29 rfl ?_; first | (refine M.box_m HM rfl rfl 29 _ rfl _ rfl ?_; clear HM; intro g_ w_ HM; go_simp)) | ((fail_if_success (refine M.lit_t rfl ?_)); (fail_if_success (refine M.lit_f rfl ?_)); refine M.split_guard rfl rfl ?_ ?_ <;> (intro hg_; simp only [hg_]; try simp only [M.hgs] at hg_)))
          | (refine Mc.at_cmp _ rfl ?_; refine Mc.cmp_m rfl _ rfl _ _ _ rfl _ _ _ rfl rfl _ rfl ?_ ?_ <;> (intro hg_; try simp only [M.hgs] at hg_; first | (exfalso; first | omega | (simp at hg_; done)) | (go_simp)))
          | ((fail_if_success (refine M.lit_t rfl ?_)); (fail_if_success (refine M.lit_f rfl ?_)); refine M.split_guard rfl rfl ?_ ?_ <;> (intro hg_; simp only [hg_]; try simp only [M.hgs] at hg_)))
        all_goals
          refine bodyPost_ret (res_ctt HM rfl _ 0 _ _ _ rfl rfl (by kernel_rfl) (by kernel_rfl)) rfl ?_
          exact ⟨rfl, HM.none.to_below⟩
end Go.Proofs.Ytndeaikmelpflaa.Ae
