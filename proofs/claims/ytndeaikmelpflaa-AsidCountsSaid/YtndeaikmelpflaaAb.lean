/- Virtual ASIDs: Assign. -/
import Derived.Test.YtndeaikmelpflaaProg
import Derived.Test.YtndeaikmelpflaaAa
namespace Go.Proofs.Ytndeaikmelpflaa.Ab
open Go.RowKit Go.Proofs.Ytndeaikmelpflaa.G Go.Proofs.Ytndeaikmelpflaa.B Go.Proofs.Ytndeaikmelpflaa.M Go.Proofs.Ytndeaikmelpflaa.Mv Go.Proofs.Ytndeaikmelpflaa.Sl Go.Proofs.Ytndeaikmelpflaa.Sm Go.Proofs.Ytndeaikmelpflaa.Sn Go.Proofs.Ytndeaikmelpflaa.Ma Go.Proofs.Ytndeaikmelpflaa.Dr Go.Proofs.Ytndeaikmelpflaa.Ya Go.Proofs.Ytndeaikmelpflaa.Yb Go.Proofs.Ytndeaikmelpflaa.Yc Go.Proofs.Ytndeaikmelpflaa.Ls Go.Proofs.Ytndeaikmelpflaa.Lt Go.Proofs.Ytndeaikmelpflaa.Lu Go.Proofs.Ytndeaikmelpflaa.Aa

set_option linter.unusedVariables false
set_option linter.unusedSimpArgs false
set_option maxRecDepth 100000
/-- A space that may not be. -/
def badS (space : Int) : Prop := space = 0 ∨ space % 4096 ≠ 0 ∨ 281474976710656 ≤ space
/-- A virtual ASID that is free. -/
def free (f : Int → Int) (ps : Nat → Int) (v : Int) : Prop := 1 ≤ v ∧ spc f ps v = 0
def AsgRel (f : Int → Int) (gM gC : Nat) (ps : Nat → Int) (pool space : Int) (r : Value) (L : Hp) : Prop :=
  (okP ps pool = false ∧ r = .tuple #[.int .i64 0, .int .i64 14] ∧ AC f gM gC ps L) ∨
  (okP ps pool = true ∧ badS space ∧ r = .tuple #[.int .i64 0, .int .i64 10] ∧ AC f gM gC ps L) ∨
  (okP ps pool = true ∧ ¬ badS space ∧ (∀ j : Nat, j < 512 → ¬ free f ps (pool * 512 + j)) ∧ r = .tuple #[.int .i64 0, .int .i64 15] ∧ AC f gM gC ps L) ∨
  (okP ps pool = true ∧ ¬ badS space ∧ ∃ i : Nat, i < 512 ∧ free f ps (pool * 512 + i) ∧ (∀ j : Nat, j < i → ¬ free f ps (pool * 512 + j)) ∧ r = .tuple #[.int .i64 (pool * 512 + i), .int .i64 0] ∧ AC (upd f (atA ps (pool * 512 + i) / 8) space) gM gC ps L)
theorem okA_in {ps : Nat → Int} {pool : Int} {j : Nat} (hj : j < 512) (ho : okP ps pool = true) : okA ps (pool * 512 + j) = decide (1 ≤ pool * 512 + (j : Int)) := by
  unfold okA
  rw [show (pool * 512 + (j : Int)) / 512 = pool by omega, ho, Bool.and_true]
set_option maxHeartbeats 8000000 in
theorem assign_any {f : Int → Int} {gM gC : Nat} {ps : Nat → Int} {AM : Hp} (hP : Pm 131072 f gM AM) (h : Psok ps) (pool space : Int) (c0 : 0 ≤ space) (c1 : space < 18446744073709551616) : Does Try.prog 10 #[.pointer (some ⟨gC, 0, none⟩), .int .i64 pool, .int .u64 space] ((gC, row (ccells gM ps) 68) :: AM) (AsgRel f gM gC ps pool space) := by
  have CQ := pool_any gM gC ps pool
  have CA := fun w => aligned_any space 12 c0 c1 w
  have CO := fun w => ones_any 48 w
  rw [al12] at CA
  rw [show ones 48 = 281474976710655 by decide] at CO
  have hAC : AC f gM gC ps ((gC, row (ccells gM ps) 68) :: AM) := ⟨AM, hP, rfl⟩
  have HAC := Lib.hid hAC
  unfold RIs at CQ
  by_cases ho : okP ps pool = true
  rotate_left
  · have ho : okP ps pool = false := by simpa using ho
    have HOK := Lib.hid ho
    rw [ho] at CQ
    generalize poolP ps pool = pv at CQ
    clear ho hAC
    intro w hH
    have HM := Mem.start hH
    go_enter Try.func10, Try.ntmps10
    go_wp2_with (first
      | (go_big_skip)
      | (go_at_call 15; (with_reducible refine (M.Does.call (CQ) HM (M.perm_at 0 rfl)).mono ?_); clear HM; rintro e w_ ⟨v_, L_, rfl, ⟨rfl, rfl⟩, HM⟩; (try simp only [M.nrm] at HM); dsimp only)
      | (refine M.at_mem rfl ?_; first | (refine M.at_load 24 rfl ?_; first | (refine M.load_cell_m HM rfl 24 _ rfl 0 _ _ _ _ _ rfl rfl rfl (by kernel_rfl) (by kernel_rfl) ?_; go_simp)) | ((fail_if_success (refine M.lit_t rfl ?_)); (fail_if_success (refine M.lit_f rfl ?_)); refine M.split_guard rfl rfl ?_ ?_ <;> (intro hg_; simp only [hg_]; try simp only [M.hgs] at hg_)))
      | (refine Mc.at_cmp _ rfl ?_; refine Mc.cmp_m rfl _ rfl _ _ _ rfl _ _ _ rfl rfl _ rfl ?_ ?_ <;> (intro hg_; try simp only [M.hgs] at hg_; first | (exfalso; first | omega | (simp at hg_; done)) | (go_simp)))
      | ((fail_if_success (refine M.lit_t rfl ?_)); (fail_if_success (refine M.lit_f rfl ?_)); refine M.split_guard rfl rfl ?_ ?_ <;> (intro hg_; simp only [hg_]; try simp only [M.hgs] at hg_)))
    all_goals
      go_ret2
      first
      | exact ⟨_, _, rfl, .inl ⟨HOK.out, rfl, HAC.out⟩, HM⟩
      | exact ⟨_, .inl ⟨HOK.out, rfl, HAC.out⟩, HM⟩
      | exact ⟨_, rfl, _, .inl ⟨HOK.out, rfl, HAC.out⟩, HM⟩
  have hpr : 0 ≤ pool ∧ pool < 8 := by
    unfold okP at ho
    simp only [Bool.and_eq_true, decide_eq_true_eq] at ho
    exact ho.1
  obtain ⟨hp0, hp8⟩ := hpr
  have HOK := Lib.hid ho
  rw [ho] at CQ
  generalize poolP ps pool = pv at CQ
  by_cases hb : badS space
  · have HB := Lib.hid hb
    clear ho hAC
    rcases (show space = 0 ∨ (space ≠ 0 ∧ space % 4096 ≠ 0) ∨ (space ≠ 0 ∧ space % 4096 = 0 ∧ 281474976710656 ≤ space) by rcases hb with h | h | h <;> omega) with hs | ⟨hs, ha⟩ | ⟨hs, ha, hg⟩
    · clear hb
      intro w hH
      have HM := Mem.start hH
      go_enter Try.func10, Try.ntmps10
      go_wp2_with (first
        | (go_big_skip)
        | (go_at_call 15; (with_reducible refine (M.Does.call (CQ) HM (M.perm_at 0 rfl)).mono ?_); clear HM; rintro e w_ ⟨v_, L_, rfl, ⟨rfl, rfl⟩, HM⟩; (try simp only [M.nrm] at HM); dsimp only)
        | (go_at_call 24; (with_reducible refine (M.call_pure (CA) HM).mono ?_); clear HM; rintro e w_ ⟨rfl, HM⟩; dsimp only)
        | (go_at_call 27; (with_reducible refine (M.call_pure (CO) HM).mono ?_); clear HM; rintro e w_ ⟨rfl, HM⟩; dsimp only)
        | (refine M.at_mem rfl ?_; first | (refine M.at_load 24 rfl ?_; first | (refine M.load_cell_m HM rfl 24 _ rfl 0 _ _ _ _ _ rfl rfl rfl (by kernel_rfl) (by kernel_rfl) ?_; go_simp)) | ((fail_if_success (refine M.lit_t rfl ?_)); (fail_if_success (refine M.lit_f rfl ?_)); refine M.split_guard rfl rfl ?_ ?_ <;> (intro hg_; simp only [hg_]; try simp only [M.hgs] at hg_)))
        | (refine Mc.at_cmp _ rfl ?_; refine Mc.cmp_m rfl _ rfl _ _ _ rfl _ _ _ rfl rfl _ rfl ?_ ?_ <;> (intro hg_; try simp only [M.hgs] at hg_; first | (exfalso; first | omega | (simp at hg_; done)) | (go_simp)))
        | ((fail_if_success (refine M.lit_t rfl ?_)); (fail_if_success (refine M.lit_f rfl ?_)); refine M.split_guard rfl rfl ?_ ?_ <;> (intro hg_; simp only [hg_]; try simp only [M.hgs] at hg_)))
      all_goals
        go_ret2
        first
        | exact ⟨_, _, rfl, .inr (.inl ⟨HOK.out, HB.out, rfl, HAC.out⟩), HM⟩
        | exact ⟨_, .inr (.inl ⟨HOK.out, HB.out, rfl, HAC.out⟩), HM⟩
        | exact ⟨_, rfl, _, .inr (.inl ⟨HOK.out, HB.out, rfl, HAC.out⟩), HM⟩
    · rw [decide_eq_false ha] at CA
      clear hb
      intro w hH
      have HM := Mem.start hH
      go_enter Try.func10, Try.ntmps10
      go_wp2_with (first
        | (go_big_skip)
        | (go_at_call 15; (with_reducible refine (M.Does.call (CQ) HM (M.perm_at 0 rfl)).mono ?_); clear HM; rintro e w_ ⟨v_, L_, rfl, ⟨rfl, rfl⟩, HM⟩; (try simp only [M.nrm] at HM); dsimp only)
        | (go_at_call 24; (with_reducible refine (M.call_pure (CA) HM).mono ?_); clear HM; rintro e w_ ⟨rfl, HM⟩; dsimp only)
        | (go_at_call 27; (with_reducible refine (M.call_pure (CO) HM).mono ?_); clear HM; rintro e w_ ⟨rfl, HM⟩; dsimp only)
        | (refine M.at_mem rfl ?_; first | (refine M.at_load 24 rfl ?_; first | (refine M.load_cell_m HM rfl 24 _ rfl 0 _ _ _ _ _ rfl rfl rfl (by kernel_rfl) (by kernel_rfl) ?_; go_simp)) | ((fail_if_success (refine M.lit_t rfl ?_)); (fail_if_success (refine M.lit_f rfl ?_)); refine M.split_guard rfl rfl ?_ ?_ <;> (intro hg_; simp only [hg_]; try simp only [M.hgs] at hg_)))
        | (refine Mc.at_cmp _ rfl ?_; refine Mc.cmp_m rfl _ rfl _ _ _ rfl _ _ _ rfl rfl _ rfl ?_ ?_ <;> (intro hg_; try simp only [M.hgs] at hg_; first | (exfalso; first | omega | (simp at hg_; done)) | (go_simp)))
        | ((fail_if_success (refine M.lit_t rfl ?_)); (fail_if_success (refine M.lit_f rfl ?_)); refine M.split_guard rfl rfl ?_ ?_ <;> (intro hg_; simp only [hg_]; try simp only [M.hgs] at hg_)))
      all_goals
        go_ret2
        first
        | exact ⟨_, _, rfl, .inr (.inl ⟨HOK.out, HB.out, rfl, HAC.out⟩), HM⟩
        | exact ⟨_, .inr (.inl ⟨HOK.out, HB.out, rfl, HAC.out⟩), HM⟩
        | exact ⟨_, rfl, _, .inr (.inl ⟨HOK.out, HB.out, rfl, HAC.out⟩), HM⟩
    · rw [decide_eq_true ha] at CA
      clear hb
      intro w hH
      have HM := Mem.start hH
      go_enter Try.func10, Try.ntmps10
      go_wp2_with (first
        | (go_big_skip)
        | (go_at_call 15; (with_reducible refine (M.Does.call (CQ) HM (M.perm_at 0 rfl)).mono ?_); clear HM; rintro e w_ ⟨v_, L_, rfl, ⟨rfl, rfl⟩, HM⟩; (try simp only [M.nrm] at HM); dsimp only)
        | (go_at_call 24; (with_reducible refine (M.call_pure (CA) HM).mono ?_); clear HM; rintro e w_ ⟨rfl, HM⟩; dsimp only)
        | (go_at_call 27; (with_reducible refine (M.call_pure (CO) HM).mono ?_); clear HM; rintro e w_ ⟨rfl, HM⟩; dsimp only)
        | (refine M.at_mem rfl ?_; first | (refine M.at_load 24 rfl ?_; first | (refine M.load_cell_m HM rfl 24 _ rfl 0 _ _ _ _ _ rfl rfl rfl (by kernel_rfl) (by kernel_rfl) ?_; go_simp)) | ((fail_if_success (refine M.lit_t rfl ?_)); (fail_if_success (refine M.lit_f rfl ?_)); refine M.split_guard rfl rfl ?_ ?_ <;> (intro hg_; simp only [hg_]; try simp only [M.hgs] at hg_)))
        | (refine Mc.at_cmp _ rfl ?_; refine Mc.cmp_m rfl _ rfl _ _ _ rfl _ _ _ rfl rfl _ rfl ?_ ?_ <;> (intro hg_; try simp only [M.hgs] at hg_; first | (exfalso; first | omega | (simp at hg_; done)) | (go_simp)))
        | ((fail_if_success (refine M.lit_t rfl ?_)); (fail_if_success (refine M.lit_f rfl ?_)); refine M.split_guard rfl rfl ?_ ?_ <;> (intro hg_; simp only [hg_]; try simp only [M.hgs] at hg_)))
      all_goals
        go_ret2
        first
        | exact ⟨_, _, rfl, .inr (.inl ⟨HOK.out, HB.out, rfl, HAC.out⟩), HM⟩
        | exact ⟨_, .inr (.inl ⟨HOK.out, HB.out, rfl, HAC.out⟩), HM⟩
        | exact ⟨_, rfl, _, .inr (.inl ⟨HOK.out, HB.out, rfl, HAC.out⟩), HM⟩
  have HB := Lib.hid hb
  have hs0 : ¬ space = 0 := fun e => hb (.inl e)
  have hsa : space % 4096 = 0 := by
    by_cases e : space % 4096 = 0
    · exact e
    · exact absurd (.inr (.inl e)) hb
  have hsg : space < 281474976710656 := by
    by_cases e : space < 281474976710656
    · exact e
    · exact absurd (.inr (.inr (by omega))) hb
  rw [decide_eq_true hsa] at CA
  clear hb hAC
  have CPH := Lib.hid (fun (v : Int) (vm : v < 9223372036854775808) => place_any gM gC ps h v vm)
  have CSH := Lib.hid (fun (v : Int) (vm : v < 9223372036854775808) => space_any (gC := gC) hP h v vm)
  have CWH := Lib.hid (fun (a : Int) a0 a1 => write_any hP a space a0 a1 c0 c1)
  have HH := Lib.hid h
  have hc0 := ccells_0 gM ps
  generalize hcs : ccells gM ps = cs at CQ CPH CSH hc0
  have HC0 := Lib.hid hc0; have HCS := Lib.hid hcs
  rw [hcs] at HAC
  clear hcs hc0 h hP
  intro w hH
  have HM := Mem.start hH
  go_enter Try.func10, Try.ntmps10
  go_wp2_with (first
    | (go_big_skip)
    | (go_at_call 15; (with_reducible refine (M.Does.call (CQ) HM (M.perm_at 0 rfl)).mono ?_); clear HM; rintro e w_ ⟨v_, L_, rfl, ⟨rfl, rfl⟩, HM⟩; (try simp only [M.nrm] at HM); dsimp only)
    | (go_at_call 24; (with_reducible refine (M.call_pure (CA) HM).mono ?_); clear HM; rintro e w_ ⟨rfl, HM⟩; dsimp only)
    | (go_at_call 27; (with_reducible refine (M.call_pure (CO) HM).mono ?_); clear HM; rintro e w_ ⟨rfl, HM⟩; dsimp only)
    | (refine M.at_mem rfl ?_; first | (refine M.at_load 24 rfl ?_; first | (refine M.load_cell_m HM rfl 24 _ rfl 0 _ _ _ _ _ rfl rfl rfl (by kernel_rfl) (by kernel_rfl) ?_; go_simp)) | ((fail_if_success (refine M.lit_t rfl ?_)); (fail_if_success (refine M.lit_f rfl ?_)); refine M.split_guard rfl rfl ?_ ?_ <;> (intro hg_; simp only [hg_]; try simp only [M.hgs] at hg_)))
    | (refine Mc.at_cmp _ rfl ?_; refine Mc.cmp_m rfl _ rfl _ _ _ rfl _ _ _ rfl rfl _ rfl ?_ ?_ <;> (intro hg_; try simp only [M.hgs] at hg_; first | (exfalso; first | omega | (simp at hg_; done)) | (go_simp)))
    | ((fail_if_success (refine M.lit_t rfl ?_)); (fail_if_success (refine M.lit_f rfl ?_)); refine M.split_guard rfl rfl ?_ ?_ <;> (intro hg_; simp only [hg_]; try simp only [M.hgs] at hg_)))
  clear CQ CA CO
  go_loopw [36] (fun v wr => ∃ j : Nat, j ≤ 512 ∧ v = .int .i64 j ∧ (∀ i : Nat, i < j → ¬ free f ps (pool * 512 + i)) ∧ Mem w _ ((gC, row cs 68) :: AM) wr) (fun v _ => 512 - (intOf v).toNat)
  case atStart => exact ⟨0, by omega, rfl, fun i hi => by omega, HM⟩
  case round =>
    clear HM
    obtain ⟨j, jR, rfl, hno, HM⟩ := hrel
    have HNO := Lib.hid hno; clear hno
    by_cases hlt : j < 512
    · have hj1 : (j : Int) < 512 := by omega
      have CP := CPH.out (pool * 512 + j) (by omega)
      have CS := CSH.out (pool * 512 + j) (by omega)
      rw [okA_in hlt HOK.out] at CP
      unfold RIs at CP CS
      by_cases hv : 1 ≤ pool * 512 + (j : Int)
      · rw [decide_eq_true hv] at CP
        have hok : okA ps (pool * 512 + j) = true := by rw [okA_in hlt HOK.out]; exact decide_eq_true hv
        by_cases hsp : spc f ps (pool * 512 + j) = 0
        · rw [show spcV (spc f ps (pool * 512 + j)) = .tuple #[.int .u64 0, .int .i64 33] by unfold spcV; rw [if_pos hsp]] at CS
          have HFR := Lib.hid (⟨hv, hsp⟩ : free f ps (pool * 512 + j))
          obtain ⟨a0, a1, a2⟩ := atA_rng HH.out _ hok
          have CW := CWH.out (atA ps (pool * 512 + j)) a0 (by omega)
          rw [show wrF 131072 f (atA ps (pool * 512 + j)) space = upd f (atA ps (pool * 512 + j) / 8) space by unfold wrF; rw [if_pos (err_at HH.out _ hok)]] at CW
          generalize hf2 : upd f (atA ps (pool * 512 + j) / 8) space = f2 at CW
          generalize atA ps (pool * 512 + j) = a at CP CW
          have HF2 := Lib.hid hf2
          clear hf2 hok hsp a0 a1 a2
          go_wp2_with (first
            | (go_big_skip)
            | (go_at_call 21; have HM_ : M.Mem _ _ ([] ++ (_ :: _)) _ := HM; (with_reducible refine (M.Does.tail _ CS HM_).mono ?_); clear HM HM_; rintro e w_ ⟨v_, L_, rfl, ⟨rfl, rfl⟩, HM⟩; (try simp only [List.cons_append, List.nil_append] at HM); dsimp only)
            | (go_at_call 16; have HM_ : M.Mem _ _ ([_] ++ _) _ := HM; (with_reducible refine (M.Does.tail _ CW HM_).mono ?_); clear HM HM_; rintro e w_ ⟨v_, L_, rfl, ⟨rfl, hw_⟩, HM⟩; (try simp only [List.cons_append, List.nil_append] at HM); dsimp only)
            | (go_at_call 28; (with_reducible refine (M.Does.call (CP) HM (M.perm_at 0 rfl)).mono ?_); clear HM; rintro e w_ ⟨v_, L_, rfl, ⟨rfl, rfl⟩, HM⟩; (try simp only [M.nrm] at HM); dsimp only)
            | (refine M.at_mem rfl ?_; first | (refine M.at_load 24 rfl ?_; first | (refine M.load_cell_m HM rfl 24 _ rfl 0 gC 0 _ cs (.pointer (some ⟨gM, 0, none⟩)) rfl rfl HC0.out (by kernel_rfl) (by kernel_rfl) ?_; go_simp) | (refine M.load_cell_m HM rfl 24 _ rfl 0 _ _ _ _ _ rfl rfl rfl (by kernel_rfl) (by kernel_rfl) ?_; go_simp)) | ((fail_if_success (refine M.lit_t rfl ?_)); (fail_if_success (refine M.lit_f rfl ?_)); refine M.split_guard rfl rfl ?_ ?_ <;> (intro hg_; simp only [hg_]; try simp only [M.hgs] at hg_)))
            | (refine Mc.at_cmp _ rfl ?_; refine Mc.cmp_m rfl _ rfl _ _ _ rfl _ _ _ rfl rfl _ rfl ?_ ?_ <;> (intro hg_; try simp only [M.hgs] at hg_; first | (exfalso; first | omega | (simp at hg_; done)) | (go_simp)))
            | ((fail_if_success (refine M.lit_t rfl ?_)); (fail_if_success (refine M.lit_f rfl ?_)); refine M.split_guard rfl rfl ?_ ?_ <;> (intro hg_; simp only [hg_]; try simp only [M.hgs] at hg_)))
          all_goals
            go_ret2
            first
            | exact ⟨_, _, rfl, .inr (.inr (.inr ⟨HOK.out, HB.out, j, hlt, HFR.out, HNO.out, rfl, ⟨L_, by rw [HF2.out]; exact hw_, by rw [HCS.out]⟩⟩)), HM⟩
            | exact ⟨_, .inr (.inr (.inr ⟨HOK.out, HB.out, j, hlt, HFR.out, HNO.out, rfl, ⟨L_, by rw [HF2.out]; exact hw_, by rw [HCS.out]⟩⟩)), HM⟩
            | exact ⟨_, rfl, _, .inr (.inr (.inr ⟨HOK.out, HB.out, j, hlt, HFR.out, HNO.out, rfl, ⟨L_, by rw [HF2.out]; exact hw_, by rw [HCS.out]⟩⟩)), HM⟩
        · have HNF := Lib.hid (fun e => hsp e.2 : ¬ free f ps (pool * 512 + j))
          rw [show spcV (spc f ps (pool * 512 + j)) = .tuple #[.int .u64 (spc f ps (pool * 512 + j)), .int .i64 0] by unfold spcV; rw [if_neg hsp]] at CS
          generalize spc f ps (pool * 512 + j) = x at CS
          generalize atA ps (pool * 512 + j) = a at CP
          clear hok hsp
          go_wp2_with (first
            | (go_big_skip)
            | (go_at_call 21; have HM_ : M.Mem _ _ ([] ++ (_ :: _)) _ := HM; (with_reducible refine (M.Does.tail _ CS HM_).mono ?_); clear HM HM_; rintro e w_ ⟨v_, L_, rfl, ⟨rfl, rfl⟩, HM⟩; (try simp only [List.cons_append, List.nil_append] at HM); dsimp only)
            | (go_at_call 28; (with_reducible refine (M.Does.call (CP) HM (M.perm_at 0 rfl)).mono ?_); clear HM; rintro e w_ ⟨v_, L_, rfl, ⟨rfl, rfl⟩, HM⟩; (try simp only [M.nrm] at HM); dsimp only)
            | (refine M.at_mem rfl ?_; first | (refine M.at_load 24 rfl ?_; first | (refine M.load_cell_m HM rfl 24 _ rfl 0 _ _ _ _ _ rfl rfl rfl (by kernel_rfl) (by kernel_rfl) ?_; go_simp)) | ((fail_if_success (refine M.lit_t rfl ?_)); (fail_if_success (refine M.lit_f rfl ?_)); refine M.split_guard rfl rfl ?_ ?_ <;> (intro hg_; simp only [hg_]; try simp only [M.hgs] at hg_)))
            | (refine Mc.at_cmp _ rfl ?_; refine Mc.cmp_m rfl _ rfl _ _ _ rfl _ _ _ rfl rfl _ rfl ?_ ?_ <;> (intro hg_; try simp only [M.hgs] at hg_; first | (exfalso; first | omega | (simp at hg_; done)) | (go_simp)))
            | ((fail_if_success (refine M.lit_t rfl ?_)); (fail_if_success (refine M.lit_f rfl ?_)); refine M.split_guard rfl rfl ?_ ?_ <;> (intro hg_; simp only [hg_]; try simp only [M.hgs] at hg_)))
          all_goals
            go_roundw
            case rel => exact ⟨j + 1, by omega, by first | rfl | (refine congrArg (fun z => Value.int .i64 z) ?_; omega), fun i hi => by
              by_cases he : i = j
              · subst he; exact HNF.out
              · exact HNO.out i (by omega), HM⟩
            case measure => first | (simp [intOf]; done) | (simp [intOf]; omega)
      · rw [decide_eq_false hv] at CP
        have HNF := Lib.hid (fun e => hv e.1 : ¬ free f ps (pool * 512 + j))
        have hsp : spc f ps (pool * 512 + j) = 0 := by unfold spc; rw [okA_in hlt HOK.out, decide_eq_false hv]; rfl
        rw [show spcV (spc f ps (pool * 512 + j)) = .tuple #[.int .u64 0, .int .i64 33] by unfold spcV; rw [if_pos hsp]] at CS
        generalize atA ps (pool * 512 + j) = a at CP
        clear hsp
        go_wp2_with (first
          | (go_big_skip)
          | (go_at_call 21; have HM_ : M.Mem _ _ ([] ++ (_ :: _)) _ := HM; (with_reducible refine (M.Does.tail _ CS HM_).mono ?_); clear HM HM_; rintro e w_ ⟨v_, L_, rfl, ⟨rfl, rfl⟩, HM⟩; (try simp only [List.cons_append, List.nil_append] at HM); dsimp only)
          | (go_at_call 28; (with_reducible refine (M.Does.call (CP) HM (M.perm_at 0 rfl)).mono ?_); clear HM; rintro e w_ ⟨v_, L_, rfl, ⟨rfl, rfl⟩, HM⟩; (try simp only [M.nrm] at HM); dsimp only)
          | (refine M.at_mem rfl ?_; first | (refine M.at_load 24 rfl ?_; first | (refine M.load_cell_m HM rfl 24 _ rfl 0 _ _ _ _ _ rfl rfl rfl (by kernel_rfl) (by kernel_rfl) ?_; go_simp)) | ((fail_if_success (refine M.lit_t rfl ?_)); (fail_if_success (refine M.lit_f rfl ?_)); refine M.split_guard rfl rfl ?_ ?_ <;> (intro hg_; simp only [hg_]; try simp only [M.hgs] at hg_)))
          | (refine Mc.at_cmp _ rfl ?_; refine Mc.cmp_m rfl _ rfl _ _ _ rfl _ _ _ rfl rfl _ rfl ?_ ?_ <;> (intro hg_; try simp only [M.hgs] at hg_; first | (exfalso; first | omega | (simp at hg_; done)) | (go_simp)))
          | ((fail_if_success (refine M.lit_t rfl ?_)); (fail_if_success (refine M.lit_f rfl ?_)); refine M.split_guard rfl rfl ?_ ?_ <;> (intro hg_; simp only [hg_]; try simp only [M.hgs] at hg_)))
        all_goals
          go_roundw
          case rel => exact ⟨j + 1, by omega, by first | rfl | (refine congrArg (fun z => Value.int .i64 z) ?_; omega), fun i hi => by
            by_cases he : i = j
            · subst he; exact HNF.out
            · exact HNO.out i (by omega), HM⟩
          case measure => first | (simp [intOf]; done) | (simp [intOf]; omega)
    · obtain rfl : j = 512 := by omega
      go_wp2_with (first
        | (go_big_skip)
        | (refine M.at_mem rfl ?_; first | (refine M.at_load 24 rfl ?_; first | (refine M.load_cell_m HM rfl 24 _ rfl 0 _ _ _ _ _ rfl rfl rfl (by kernel_rfl) (by kernel_rfl) ?_; go_simp)) | ((fail_if_success (refine M.lit_t rfl ?_)); (fail_if_success (refine M.lit_f rfl ?_)); refine M.split_guard rfl rfl ?_ ?_ <;> (intro hg_; simp only [hg_]; try simp only [M.hgs] at hg_)))
        | (refine Mc.at_cmp _ rfl ?_; refine Mc.cmp_m rfl _ rfl _ _ _ rfl _ _ _ rfl rfl _ rfl ?_ ?_ <;> (intro hg_; try simp only [M.hgs] at hg_; first | (exfalso; first | omega | (simp at hg_; done)) | (go_simp)))
        | ((fail_if_success (refine M.lit_t rfl ?_)); (fail_if_success (refine M.lit_f rfl ?_)); refine M.split_guard rfl rfl ?_ ?_ <;> (intro hg_; simp only [hg_]; try simp only [M.hgs] at hg_)))
      all_goals
        go_ret2
        first
        | exact ⟨_, _, rfl, .inr (.inr (.inl ⟨HOK.out, HB.out, HNO.out, rfl, HAC.out⟩)), HM⟩
        | exact ⟨_, .inr (.inr (.inl ⟨HOK.out, HB.out, HNO.out, rfl, HAC.out⟩)), HM⟩
        | exact ⟨_, rfl, _, .inr (.inr (.inl ⟨HOK.out, HB.out, HNO.out, rfl, HAC.out⟩)), HM⟩
end Go.Proofs.Ytndeaikmelpflaa.Ab
