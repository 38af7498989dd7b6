/- A pool is made: Add. -/
import Derived.Test.YtndeaikmelpflaaBh
namespace Go.Proofs.Ytndeaikmelpflaa.Bi
open Go.RowKit Go.Shelf Go.Proofs.Ytndeaikmelpflaa.G Go.Proofs.Ytndeaikmelpflaa.B Go.Proofs.Ytndeaikmelpflaa.M Go.Proofs.Ytndeaikmelpflaa.Mv Go.Proofs.Ytndeaikmelpflaa.Sl Go.Proofs.Ytndeaikmelpflaa.Sm Go.Proofs.Ytndeaikmelpflaa.Sn Go.Proofs.Ytndeaikmelpflaa.Ma Go.Proofs.Ytndeaikmelpflaa.Dr Go.Proofs.Ytndeaikmelpflaa.Ya Go.Proofs.Ytndeaikmelpflaa.Yb Go.Proofs.Ytndeaikmelpflaa.Yc Go.Proofs.Ytndeaikmelpflaa.Ls Go.Proofs.Ytndeaikmelpflaa.Lt Go.Proofs.Ytndeaikmelpflaa.Lu Go.Proofs.Ytndeaikmelpflaa.Aa Go.Proofs.Ytndeaikmelpflaa.Ab Go.Proofs.Ytndeaikmelpflaa.Ba Go.Proofs.Ytndeaikmelpflaa.Bc Go.Proofs.Ytndeaikmelpflaa.Bg Go.Proofs.Ytndeaikmelpflaa.Bh

set_option linter.unusedVariables false
set_option linter.unusedSimpArgs false
set_option maxRecDepth 100000
/-- The least pool from k on that is free. -/
def FrOk (ps : Nat → Int) (k : Int) (v : Int) : Prop := (v = -1 ∧ ∀ j : Nat, k ≤ j → j < 8 → ps j ≠ 0) ∨ ∃ m : Nat, v = m ∧ k ≤ m ∧ m < 8 ∧ ps m = 0 ∧ ∀ j : Nat, k ≤ j → j < m → ps j ≠ 0
def AddRel (f : Int → Int) (gM gC : Nat) (ps : Nat → Int) (p : Int) (r : Value) (L : Hp) : Prop :=
  (p % 4096 ≠ 0 ∧ r = .tuple #[.int .i64 0, .int .i64 13] ∧ AC f gM gC ps L) ∨
  (p % 4096 = 0 ∧ (p = 0 ∨ 131072 ≤ p) ∧ r = .tuple #[.int .i64 0, .int .i64 12] ∧ AC f gM gC ps L) ∨
  (p % 4096 = 0 ∧ ¬ (p = 0 ∨ 131072 ≤ p) ∧ (∃ j : Nat, j < 8 ∧ ps j = p) ∧ r = .tuple #[.int .i64 0, .int .i64 16] ∧ AC f gM gC ps L) ∨
  (p % 4096 = 0 ∧ ¬ (p = 0 ∨ 131072 ≤ p) ∧ (∀ j : Nat, j < 8 → ps j ≠ p) ∧ (∀ j : Nat, j < 8 → ps j ≠ 0) ∧ r = .tuple #[.int .i64 0, .int .i64 15] ∧ AC f gM gC ps L) ∨
  (p % 4096 = 0 ∧ ¬ (p = 0 ∨ 131072 ≤ p) ∧ (∀ j : Nat, j < 8 → ps j ≠ p) ∧ ∃ m : Nat, m < 8 ∧ ps m = 0 ∧ (∀ j : Nat, j < m → ps j ≠ 0) ∧ r = .tuple #[.int .i64 m, .int .i64 0] ∧ AC (clr f (p / 4096)) gM gC (upp ps m p) L)
set_option maxHeartbeats 8000000 in
theorem add_any {f : Int → Int} {gM gC : Nat} {ps : Nat → Int} {AM : Hp} (hP : Pm 131072 f gM AM) (p : Int) (p0 : 0 ≤ p) (p1 : p < 18446744073709551616) : Does Try.prog 9 #[.pointer (some ⟨gC, 0, none⟩), .int .u64 p] ((gC, row (ccells gM ps) 68) :: AM) (AddRel f gM gC ps p) := by
  have CA := fun w => aligned_any p 12 p0 p1 w
  have CS := size_any hP
  rw [al12] at CA
  have hAC : AC f gM gC ps ((gC, row (ccells gM ps) 68) :: AM) := ⟨AM, hP, rfl⟩
  have HAC := Lib.hid hAC
  have hc0 := ccells_0 gM ps
  by_cases ha : p % 4096 = 0
  rotate_left
  · have HA := Lib.hid ha
    rw [decide_eq_false ha] at CA
    generalize ccells gM ps = cs at HAC hc0
    clear hAC ha hc0
    intro w hH
    have HM := Mem.start hH
    go_enter Try.func9, Try.ntmps9
    go_wp2_with (first
      | (go_big_skip)
      | (go_at_call 24; (with_reducible refine (M.call_pure (CA) HM).mono ?_); clear HM; rintro e w_ ⟨rfl, HM⟩; dsimp only)
      | (refine M.at_mem rfl ?_; first | (refine M.at_load 24 rfl ?_; first | (refine M.load_cell_m HM rfl 24 _ rfl 0 _ _ _ _ _ rfl rfl rfl (by kernel_rfl) (by kernel_rfl) ?_; go_simp)) | (refine M.at_load 25 rfl ?_; first | (refine M.load_cell_m HM rfl 25 _ rfl 0 _ _ _ _ _ rfl rfl rfl (by kernel_rfl) (by kernel_rfl) ?_; go_simp)) | (refine M.at_store 25 rfl ?_; first | (refine M.store_cell_m HM rfl 25 _ _ rfl 0 _ _ _ _ _ rfl rfl rfl (by kernel_rfl) rfl (by simp) ?_; clear HM; intro w_ HM; (try simp only [M.nrm] at HM); go_simp)) | ((fail_if_success (refine M.lit_t rfl ?_)); (fail_if_success (refine M.lit_f rfl ?_)); refine M.split_guard rfl rfl ?_ ?_ <;> (intro hg_; simp only [hg_]; try simp only [M.hgs] at hg_)))
      | (refine Mc.at_cmp _ rfl ?_; refine Mc.cmp_m rfl _ rfl _ _ _ rfl _ _ _ rfl rfl _ rfl ?_ ?_ <;> (intro hg_; try simp only [M.hgs] at hg_; first | (exfalso; first | omega | (simp at hg_; done)) | (go_simp)))
      | ((fail_if_success (refine M.lit_t rfl ?_)); (fail_if_success (refine M.lit_f rfl ?_)); refine M.split_guard rfl rfl ?_ ?_ <;> (intro hg_; simp only [hg_]; try simp only [M.hgs] at hg_)))
    all_goals
      go_ret2
      first
      | exact ⟨_, _, rfl, .inl ⟨HA.out, rfl, HAC.out⟩, HM⟩
      | exact ⟨_, .inl ⟨HA.out, rfl, HAC.out⟩, HM⟩
      | exact ⟨_, rfl, _, .inl ⟨HA.out, rfl, HAC.out⟩, HM⟩
  have HA := Lib.hid ha
  rw [decide_eq_true ha] at CA
  by_cases hb : p = 0 ∨ 131072 ≤ p
  · have HB := Lib.hid hb
    have HC0 := Lib.hid hc0
    generalize ccells gM ps = cs at HAC HC0
    clear hAC hc0 ha hb
    rcases (show p = 0 ∨ (p ≠ 0 ∧ 131072 ≤ p) by have := HB.out; omega) with rfl | ⟨hz, hg⟩
    all_goals
      intro w hH
      have HM := Mem.start hH
      go_enter Try.func9, Try.ntmps9
      go_wp2_with (first
        | (go_big_skip)
        | (go_at_call 24; (with_reducible refine (M.call_pure (CA) HM).mono ?_); clear HM; rintro e w_ ⟨rfl, HM⟩; dsimp only)
        | (go_at_call 25; have HM_ : M.Mem _ _ (([_]) ++ (AM)) _ := HM; (with_reducible refine (M.Does.tail _ (CS) HM_).mono ?_); clear HM HM_; rintro e w_ ⟨v_, L_, rfl, ⟨rfl, rfl⟩, HM⟩; (try simp only [List.cons_append, List.nil_append, List.append_nil] at HM); dsimp only)
        | (refine M.at_mem rfl ?_; first | (refine M.at_load 24 rfl ?_; first | (refine M.load_cell_m HM rfl 24 _ rfl 0 gC 0 _ cs (.pointer (some ⟨gM, 0, none⟩)) rfl rfl HC0.out (by kernel_rfl) (by kernel_rfl) ?_; go_simp) | (refine M.load_cell_m HM rfl 24 _ rfl 0 _ _ _ _ _ rfl rfl rfl (by kernel_rfl) (by kernel_rfl) ?_; go_simp)) | (refine M.at_load 25 rfl ?_; first | (refine M.load_cell_m HM rfl 24 _ rfl 0 gC 0 _ cs (.pointer (some ⟨gM, 0, none⟩)) rfl rfl HC0.out (by kernel_rfl) (by kernel_rfl) ?_; go_simp) | (refine M.load_cell_m HM rfl 25 _ rfl 0 _ _ _ _ _ rfl rfl rfl (by kernel_rfl) (by kernel_rfl) ?_; go_simp)) | (refine M.at_store 25 rfl ?_; first | (refine M.store_cell_m HM rfl 25 _ _ rfl 0 _ _ _ _ _ rfl rfl rfl (by kernel_rfl) rfl (by simp) ?_; clear HM; intro w_ HM; (try simp only [M.nrm] at HM); go_simp)) | ((fail_if_success (refine M.lit_t rfl ?_)); (fail_if_success (refine M.lit_f rfl ?_)); refine M.split_guard rfl rfl ?_ ?_ <;> (intro hg_; simp only [hg_]; try simp only [M.hgs] at hg_)))
        | (refine Mc.at_cmp _ rfl ?_; refine Mc.cmp_m rfl _ rfl _ _ _ rfl _ _ _ rfl rfl _ rfl ?_ ?_ <;> (intro hg_; try simp only [M.hgs] at hg_; first | (exfalso; first | omega | (simp at hg_; done)) | (go_simp)))
        | ((fail_if_success (refine M.lit_t rfl ?_)); (fail_if_success (refine M.lit_f rfl ?_)); refine M.split_guard rfl rfl ?_ ?_ <;> (intro hg_; simp only [hg_]; try simp only [M.hgs] at hg_)))
      all_goals
        go_ret2
        first
        | exact ⟨_, _, rfl, .inr (.inl ⟨HA.out, by first | exact HB.out | omega, rfl, HAC.out⟩), HM⟩
        | exact ⟨_, .inr (.inl ⟨HA.out, by first | exact HB.out | omega, rfl, HAC.out⟩), HM⟩
        | exact ⟨_, rfl, _, .inr (.inl ⟨HA.out, by first | exact HB.out | omega, rfl, HAC.out⟩), HM⟩
  have HB := Lib.hid hb
  obtain ⟨hz, hg⟩ : ¬ p = 0 ∧ p < 131072 := by omega
  have CW := mclear_any hP (p / 4096) (by omega) (by omega)
  rw [show p / 4096 * 4096 = p by omega] at CW
  have HPM := Lib.hid hP
  generalize hf2 : clr f (p / 4096) = f2 at CW
  have HF2 := Lib.hid hf2
  have HCP := Lib.hid (fun (j : Nat) (hj : j < 8) => ccells_p gM ps hj)
  have HCS := Lib.hid (fun (m : Nat) (hm : (m : Int) < 8) => ccells_set gM ps hm p)
  have HSZ := Lib.hid (show (ccells gM ps).size = 9 from rfl)
  have HC0 := Lib.hid hc0
  generalize hcs : ccells gM ps = cs at HAC HC0 HCP HCS HSZ
  clear hAC hc0 ha hb hf2 hP hcs
  intro w hH
  have HM := Mem.start hH
  go_enter Try.func9, Try.ntmps9
  go_wp2_with (first
    | (go_big_skip)
    | (go_at_call 24; (with_reducible refine (M.call_pure (CA) HM).mono ?_); clear HM; rintro e w_ ⟨rfl, HM⟩; dsimp only)
    | (go_at_call 25; have HM_ : M.Mem _ _ (([_]) ++ (AM)) _ := HM; (with_reducible refine (M.Does.tail _ (CS) HM_).mono ?_); clear HM HM_; rintro e w_ ⟨v_, L_, rfl, ⟨rfl, rfl⟩, HM⟩; (try simp only [List.cons_append, List.nil_append, List.append_nil] at HM); dsimp only)
    | (refine M.at_mem rfl ?_; first | (refine M.at_load 24 rfl ?_; first | (refine M.load_cell_m HM rfl 24 _ rfl 0 gC 0 _ cs (.pointer (some ⟨gM, 0, none⟩)) rfl rfl HC0.out (by kernel_rfl) (by kernel_rfl) ?_; go_simp) | (refine M.load_cell_m HM rfl 24 _ rfl 0 _ _ _ _ _ rfl rfl rfl (by kernel_rfl) (by kernel_rfl) ?_; go_simp)) | (refine M.at_load 25 rfl ?_; first | (refine M.load_cell_m HM rfl 24 _ rfl 0 gC 0 _ cs (.pointer (some ⟨gM, 0, none⟩)) rfl rfl HC0.out (by kernel_rfl) (by kernel_rfl) ?_; go_simp) | (refine M.load_cell_m HM rfl 25 _ rfl 0 _ _ _ _ _ rfl rfl rfl (by kernel_rfl) (by kernel_rfl) ?_; go_simp)) | (refine M.at_store 25 rfl ?_; first | (refine M.store_cell_m HM rfl 25 _ _ rfl 0 _ _ _ _ _ rfl rfl rfl (by kernel_rfl) rfl (by simp) ?_; clear HM; intro w_ HM; (try simp only [M.nrm] at HM); go_simp)) | ((fail_if_success (refine M.lit_t rfl ?_)); (fail_if_success (refine M.lit_f rfl ?_)); refine M.split_guard rfl rfl ?_ ?_ <;> (intro hg_; simp only [hg_]; try simp only [M.hgs] at hg_)))
    | (refine Mc.at_cmp _ rfl ?_; refine Mc.cmp_m rfl _ rfl _ _ _ rfl _ _ _ rfl rfl _ rfl ?_ ?_ <;> (intro hg_; try simp only [M.hgs] at hg_; first | (exfalso; first | omega | (simp at hg_; done)) | (go_simp)))
    | ((fail_if_success (refine M.lit_t rfl ?_)); (fail_if_success (refine M.lit_f rfl ?_)); refine M.split_guard rfl rfl ?_ ?_ <;> (intro hg_; simp only [hg_]; try simp only [M.hgs] at hg_)))
  clear CA CS
  go_loopw [6, 7] (fun fv iv wr => ∃ i k : Int, -1 ≤ i ∧ i ≤ 7 ∧ iv = .int .i64 i ∧ fv = .int .i64 k ∧ FrOk ps (i + 1) k ∧ (∀ j : Nat, i < j → j < 8 → ps j ≠ p) ∧ Mem w _ ((gC, row cs 68) :: L_) wr) (fun _ iv _ => (intOf iv + 1).toNat)
  case atStart => exact ⟨7, -1, by omega, by omega, rfl, rfl, .inl ⟨rfl, fun j h1 h2 => by omega⟩, fun j h1 h2 => by omega, HM⟩
  case round =>
    clear HM
    obtain ⟨i, k, i0, i7, rfl, rfl, hfr, hne, HM⟩ := hrel
    have HFR := Lib.hid hfr; have HNE := Lib.hid hne; clear hfr hne
    by_cases hi : 0 ≤ i
    · obtain ⟨j, rfl⟩ : ∃ j : Nat, i = j := ⟨i.toNat, by omega⟩
      have hcp := HCP.out j (by omega)
      have HV := Lib.hid hcp
      generalize hpj : ps j = v at HV
      have HPJ := Lib.hid hpj
      clear hcp hpj
      by_cases hv : v = p
      · subst hv
        go_wp2_with (first
          | (go_big_skip)
          | (refine Sl.at_indexAddr 26 rfl ?_; refine Ma.indexArr_m rfl _ rfl 26 rfl 8 25 (by kernel_rfl) 1 (by kernel_rfl) gC 1 rfl .i64 (j : Int) rfl (by omega) (by omega) (1 + j) (by omega) ?_; go_simp)
          | (refine M.at_mem rfl ?_; first | (refine M.at_load 24 rfl ?_; first | (refine M.load_cell_m HM rfl 25 _ rfl 0 gC (1 + j) _ cs (.int .u64 v) rfl rfl HV.out (by kernel_rfl) (by kernel_rfl) ?_; go_simp) | (refine M.load_cell_m HM rfl 24 _ rfl 0 _ _ _ _ _ rfl rfl rfl (by kernel_rfl) (by kernel_rfl) ?_; go_simp)) | (refine M.at_load 25 rfl ?_; first | (refine M.load_cell_m HM rfl 25 _ rfl 0 gC (1 + j) _ cs (.int .u64 v) rfl rfl HV.out (by kernel_rfl) (by kernel_rfl) ?_; go_simp) | (refine M.load_cell_m HM rfl 25 _ rfl 0 _ _ _ _ _ rfl rfl rfl (by kernel_rfl) (by kernel_rfl) ?_; go_simp)) | (refine M.at_store 25 rfl ?_; first | (refine M.store_cell_m HM rfl 25 _ _ rfl 0 _ _ _ _ _ rfl rfl rfl (by kernel_rfl) rfl (by simp) ?_; clear HM; intro w_ HM; (try simp only [M.nrm] at HM); go_simp)) | ((fail_if_success (refine M.lit_t rfl ?_)); (fail_if_success (refine M.lit_f rfl ?_)); refine M.split_guard rfl rfl ?_ ?_ <;> (intro hg_; simp only [hg_]; try simp only [M.hgs] at hg_)))
          | (refine Mc.at_cmp _ rfl ?_; refine Mc.cmp_m rfl _ rfl _ _ _ rfl _ _ _ rfl rfl _ rfl ?_ ?_ <;> (intro hg_; try simp only [M.hgs] at hg_; first | (exfalso; first | omega | (simp at hg_; done)) | (go_simp)))
          | ((fail_if_success (refine M.lit_t rfl ?_)); (fail_if_success (refine M.lit_f rfl ?_)); refine M.split_guard rfl rfl ?_ ?_ <;> (intro hg_; simp only [hg_]; try simp only [M.hgs] at hg_)))
        all_goals
          go_ret2
          first
          | exact ⟨_, _, rfl, .inr (.inr (.inl ⟨HA.out, HB.out, ⟨j, by omega, HPJ.out⟩, rfl, HAC.out⟩)), HM⟩
          | exact ⟨_, .inr (.inr (.inl ⟨HA.out, HB.out, ⟨j, by omega, HPJ.out⟩, rfl, HAC.out⟩)), HM⟩
          | exact ⟨_, rfl, _, .inr (.inr (.inl ⟨HA.out, HB.out, ⟨j, by omega, HPJ.out⟩, rfl, HAC.out⟩)), HM⟩
      · have HNV := Lib.hid hv
        by_cases hv0 : v = 0
        · go_wp2_with (first
            | (go_big_skip)
            | (refine Sl.at_indexAddr 26 rfl ?_; refine Ma.indexArr_m rfl _ rfl 26 rfl 8 25 (by kernel_rfl) 1 (by kernel_rfl) gC 1 rfl .i64 (j : Int) rfl (by omega) (by omega) (1 + j) (by omega) ?_; go_simp)
            | (refine M.at_mem rfl ?_; first | (refine M.at_load 24 rfl ?_; first | (refine M.load_cell_m HM rfl 25 _ rfl 0 gC (1 + j) _ cs (.int .u64 v) rfl rfl HV.out (by kernel_rfl) (by kernel_rfl) ?_; go_simp) | (refine M.load_cell_m HM rfl 24 _ rfl 0 _ _ _ _ _ rfl rfl rfl (by kernel_rfl) (by kernel_rfl) ?_; go_simp)) | (refine M.at_load 25 rfl ?_; first | (refine M.load_cell_m HM rfl 25 _ rfl 0 gC (1 + j) _ cs (.int .u64 v) rfl rfl HV.out (by kernel_rfl) (by kernel_rfl) ?_; go_simp) | (refine M.load_cell_m HM rfl 25 _ rfl 0 _ _ _ _ _ rfl rfl rfl (by kernel_rfl) (by kernel_rfl) ?_; go_simp)) | (refine M.at_store 25 rfl ?_; first | (refine M.store_cell_m HM rfl 25 _ _ rfl 0 _ _ _ _ _ rfl rfl rfl (by kernel_rfl) rfl (by simp) ?_; clear HM; intro w_ HM; (try simp only [M.nrm] at HM); go_simp)) | ((fail_if_success (refine M.lit_t rfl ?_)); (fail_if_success (refine M.lit_f rfl ?_)); refine M.split_guard rfl rfl ?_ ?_ <;> (intro hg_; simp only [hg_]; try simp only [M.hgs] at hg_)))
            | (refine Mc.at_cmp _ rfl ?_; refine Mc.cmp_m rfl _ rfl _ _ _ rfl _ _ _ rfl rfl _ rfl ?_ ?_ <;> (intro hg_; try simp only [M.hgs] at hg_; first | (exfalso; first | omega | (simp at hg_; done)) | (go_simp)))
            | ((fail_if_success (refine M.lit_t rfl ?_)); (fail_if_success (refine M.lit_f rfl ?_)); refine M.split_guard rfl rfl ?_ ?_ <;> (intro hg_; simp only [hg_]; try simp only [M.hgs] at hg_)))
          all_goals
            go_roundw
            case rel => exact ⟨(j : Int) - 1, j, by omega, by omega, rfl, rfl, .inr ⟨j, rfl, by omega, by omega, HPJ.out.trans hv0, fun x h1 h2 => by omega⟩, fun x h1 h2 => by
              by_cases he : x = j
              · subst he; rw [HPJ.out]; exact HNV.out
              · exact HNE.out x (by omega) h2, HM⟩
            case measure => first | (simp [intOf]; done) | (simp [intOf]; omega)
        · have HNZ := Lib.hid hv0
          go_wp2_with (first
            | (go_big_skip)
            | (refine Sl.at_indexAddr 26 rfl ?_; refine Ma.indexArr_m rfl _ rfl 26 rfl 8 25 (by kernel_rfl) 1 (by kernel_rfl) gC 1 rfl .i64 (j : Int) rfl (by omega) (by omega) (1 + j) (by omega) ?_; go_simp)
            | (refine M.at_mem rfl ?_; first | (refine M.at_load 24 rfl ?_; first | (refine M.load_cell_m HM rfl 25 _ rfl 0 gC (1 + j) _ cs (.int .u64 v) rfl rfl HV.out (by kernel_rfl) (by kernel_rfl) ?_; go_simp) | (refine M.load_cell_m HM rfl 24 _ rfl 0 _ _ _ _ _ rfl rfl rfl (by kernel_rfl) (by kernel_rfl) ?_; go_simp)) | (refine M.at_load 25 rfl ?_; first | (refine M.load_cell_m HM rfl 25 _ rfl 0 gC (1 + j) _ cs (.int .u64 v) rfl rfl HV.out (by kernel_rfl) (by kernel_rfl) ?_; go_simp) | (refine M.load_cell_m HM rfl 25 _ rfl 0 _ _ _ _ _ rfl rfl rfl (by kernel_rfl) (by kernel_rfl) ?_; go_simp)) | (refine M.at_store 25 rfl ?_; first | (refine M.store_cell_m HM rfl 25 _ _ rfl 0 _ _ _ _ _ rfl rfl rfl (by kernel_rfl) rfl (by simp) ?_; clear HM; intro w_ HM; (try simp only [M.nrm] at HM); go_simp)) | ((fail_if_success (refine M.lit_t rfl ?_)); (fail_if_success (refine M.lit_f rfl ?_)); refine M.split_guard rfl rfl ?_ ?_ <;> (intro hg_; simp only [hg_]; try simp only [M.hgs] at hg_)))
            | (refine Mc.at_cmp _ rfl ?_; refine Mc.cmp_m rfl _ rfl _ _ _ rfl _ _ _ rfl rfl _ rfl ?_ ?_ <;> (intro hg_; try simp only [M.hgs] at hg_; first | (exfalso; first | omega | (simp at hg_; done)) | (go_simp)))
            | ((fail_if_success (refine M.lit_t rfl ?_)); (fail_if_success (refine M.lit_f rfl ?_)); refine M.split_guard rfl rfl ?_ ?_ <;> (intro hg_; simp only [hg_]; try simp only [M.hgs] at hg_)))
          all_goals
            go_roundw
            case rel => exact ⟨(j : Int) - 1, k, by omega, by omega, rfl, rfl, (by
              have hx : ∀ x : Nat, (j : Int) - 1 + 1 ≤ x → x = j ∨ (j : Int) + 1 ≤ x := fun x h => by omega
              have hj0 : ps j ≠ 0 := by rw [HPJ.out]; exact HNZ.out
              rcases HFR.out with ⟨h1, h2⟩ | ⟨m, h1, h2, h3, h4, h5⟩
              · exact .inl ⟨h1, fun x a b => by exact (hx x a).elim (fun e => by rw [e]; exact hj0) (fun a => h2 x a b)⟩
              · exact .inr ⟨m, h1, by omega, h3, h4, fun x a b => by exact (hx x a).elim (fun e => by rw [e]; exact hj0) (fun a => h5 x a b)⟩), fun x h1 h2 => by
              by_cases he : x = j
              · subst he; rw [HPJ.out]; exact HNV.out
              · exact HNE.out x (by omega) h2, HM⟩
            case measure => first | (simp [intOf]; done) | (simp [intOf]; omega)
    · obtain rfl : i = -1 := by omega
      rcases HFR.out with ⟨rfl, hfull⟩ | ⟨m, rfl, m0, m8, hz0, hlow⟩
      · have HFU := Lib.hid hfull
        clear hfull
        go_wp2_with (first
          | (go_big_skip)
          | (refine M.at_mem rfl ?_; first | (refine M.at_load 24 rfl ?_; first | (refine M.load_cell_m HM rfl 24 _ rfl 0 _ _ _ _ _ rfl rfl rfl (by kernel_rfl) (by kernel_rfl) ?_; go_simp)) | (refine M.at_load 25 rfl ?_; first | (refine M.load_cell_m HM rfl 25 _ rfl 0 _ _ _ _ _ rfl rfl rfl (by kernel_rfl) (by kernel_rfl) ?_; go_simp)) | (refine M.at_store 25 rfl ?_; first | (refine M.store_cell_m HM rfl 25 _ _ rfl 0 _ _ _ _ _ rfl rfl rfl (by kernel_rfl) rfl (by simp) ?_; clear HM; intro w_ HM; (try simp only [M.nrm] at HM); go_simp)) | ((fail_if_success (refine M.lit_t rfl ?_)); (fail_if_success (refine M.lit_f rfl ?_)); refine M.split_guard rfl rfl ?_ ?_ <;> (intro hg_; simp only [hg_]; try simp only [M.hgs] at hg_)))
          | (refine Mc.at_cmp _ rfl ?_; refine Mc.cmp_m rfl _ rfl _ _ _ rfl _ _ _ rfl rfl _ rfl ?_ ?_ <;> (intro hg_; try simp only [M.hgs] at hg_; first | (exfalso; first | omega | (simp at hg_; done)) | (go_simp)))
          | ((fail_if_success (refine M.lit_t rfl ?_)); (fail_if_success (refine M.lit_f rfl ?_)); refine M.split_guard rfl rfl ?_ ?_ <;> (intro hg_; simp only [hg_]; try simp only [M.hgs] at hg_)))
        all_goals
          go_ret2
          refine ⟨_, rfl, _, .inr (.inr (.inr (.inl ⟨HA.out, HB.out, fun j hj => HNE.out j (by omega) hj, fun j hj => HFU.out j (by omega) hj, rfl, HAC.out⟩))), ?_⟩
          exact HM
      · have HZ0 := Lib.hid hz0; have HLO := Lib.hid hlow
        have hm8 : (m : Int) < 8 := by omega
        clear hz0 hlow
        go_wp2_with (first
          | (go_big_skip)
          | (refine Sl.at_indexAddr 26 rfl ?_; refine Ma.indexArr_m rfl _ rfl 26 rfl 8 25 (by kernel_rfl) 1 (by kernel_rfl) gC 1 rfl .i64 (m : Int) rfl (by omega) (by omega) (1 + m) (by omega) ?_; go_simp)
          | (go_at_call 26; have HM_ : M.Mem _ _ (([_]) ++ (L_)) _ := HM; (with_reducible refine (M.Does.tail _ (CW) HM_).mono ?_); clear HM HM_; rintro e w_ ⟨v_, L_, rfl, ⟨rfl, HPN⟩, HM⟩; (try simp only [List.cons_append, List.nil_append, List.append_nil] at HM); dsimp only)
          | (refine M.at_mem rfl ?_; first | (refine M.at_load 24 rfl ?_; first | (refine M.load_cell_m HM rfl 24 _ rfl 0 gC 0 _ (ccells gM (upp ps m p)) (.pointer (some ⟨gM, 0, none⟩)) rfl rfl (ccells_0 _ _) (by kernel_rfl) (by kernel_rfl) ?_; go_simp) | (refine M.load_cell_m HM rfl 24 _ rfl 0 _ _ _ _ _ rfl rfl rfl (by kernel_rfl) (by kernel_rfl) ?_; go_simp)) | (refine M.at_load 25 rfl ?_; first | (refine M.load_cell_m HM rfl 24 _ rfl 0 gC 0 _ (ccells gM (upp ps m p)) (.pointer (some ⟨gM, 0, none⟩)) rfl rfl (ccells_0 _ _) (by kernel_rfl) (by kernel_rfl) ?_; go_simp) | (refine M.load_cell_m HM rfl 25 _ rfl 0 _ _ _ _ _ rfl rfl rfl (by kernel_rfl) (by kernel_rfl) ?_; go_simp)) | (refine M.at_store 25 rfl ?_; first | (refine M.store_cell_m HM rfl 25 _ _ rfl 0 _ (1 + m) _ _ (.int .u64 p) rfl rfl rfl (by kernel_rfl) rfl (by have := HSZ.out; omega) ?_; clear HM; intro w_ HM; (try simp only [M.nrm] at HM); rw [HCS.out m hm8] at HM; go_simp) | (refine M.store_cell_m HM rfl 25 _ _ rfl 0 _ _ _ _ _ rfl rfl rfl (by kernel_rfl) rfl (by simp) ?_; clear HM; intro w_ HM; (try simp only [M.nrm] at HM); go_simp)) | ((fail_if_success (refine M.lit_t rfl ?_)); (fail_if_success (refine M.lit_f rfl ?_)); refine M.split_guard rfl rfl ?_ ?_ <;> (intro hg_; simp only [hg_]; try simp only [M.hgs] at hg_)))
          | (refine Mc.at_cmp _ rfl ?_; refine Mc.cmp_m rfl _ rfl _ _ _ rfl _ _ _ rfl rfl _ rfl ?_ ?_ <;> (intro hg_; try simp only [M.hgs] at hg_; first | (exfalso; first | omega | (simp at hg_; done)) | (go_simp)))
          | ((fail_if_success (refine M.lit_t rfl ?_)); (fail_if_success (refine M.lit_f rfl ?_)); refine M.split_guard rfl rfl ?_ ?_ <;> (intro hg_; simp only [hg_]; try simp only [M.hgs] at hg_)))
        all_goals
          go_ret2
          refine ⟨_, rfl, _, .inr (.inr (.inr (.inr ⟨HA.out, HB.out, fun j hj => HNE.out j (by omega) hj, m, m8, HZ0.out, fun j hj => HLO.out j (by omega) hj, rfl, ?_⟩))), HM⟩
          exact ⟨_, by rw [HF2.out]; exact HPN, rfl⟩
end Go.Proofs.Ytndeaikmelpflaa.Bi
