/- A page of a memory is made 0: wipe, Clear. -/
import Derived.Test.YtndeaikmelpflaaBg
import Derived.Test.YtndeaikmelpflaaAc
namespace Go.Proofs.Ytndeaikmelpflaa.Bh
open Go.RowKit Go.Shelf Go.Proofs.Ytndeaikmelpflaa.G Go.Proofs.Ytndeaikmelpflaa.B Go.Proofs.Ytndeaikmelpflaa.M Go.Proofs.Ytndeaikmelpflaa.Mv Go.Proofs.Ytndeaikmelpflaa.Sl Go.Proofs.Ytndeaikmelpflaa.Sm Go.Proofs.Ytndeaikmelpflaa.Sn Go.Proofs.Ytndeaikmelpflaa.Ma Go.Proofs.Ytndeaikmelpflaa.Dr Go.Proofs.Ytndeaikmelpflaa.Ya Go.Proofs.Ytndeaikmelpflaa.Yb Go.Proofs.Ytndeaikmelpflaa.Yc Go.Proofs.Ytndeaikmelpflaa.Ls Go.Proofs.Ytndeaikmelpflaa.Lt Go.Proofs.Ytndeaikmelpflaa.Lu Go.Proofs.Ytndeaikmelpflaa.Ba Go.Proofs.Ytndeaikmelpflaa.Bc Go.Proofs.Ytndeaikmelpflaa.Be Go.Proofs.Ytndeaikmelpflaa.Bf Go.Proofs.Ytndeaikmelpflaa.Bg

set_option linter.unusedVariables false
set_option linter.unusedSimpArgs false
set_option maxRecDepth 100000
theorem wipe_any {sz : Int} {f : Int → Int} {gM : Nat} {A : Hp} (h : Pm sz f gM A) (p : Int) (p0 : 0 ≤ p) (p1 : p < 1048576) : Does Try.prog 42 #[.pointer (some ⟨gM, 0, none⟩), .int .u64 p, .int .u64 (p * 4096), .int .u64 (p * 4096 + 4096)] A
    fun r L => r = .tuple #[] ∧ Pm sz (clr f p) gM L := by
  obtain ⟨gm, clock, es, S, hs, rfl⟩ := h
  refine spare (frame (R := sheets S) (wipe_one hs p p0 p1 gM gm (.int .u64 sz))) fun r L ⟨L1, ⟨h1, es', h2, h3⟩, h4⟩ => ?_
  obtain ⟨X, hX⟩ := sheets_sans S p
  refine ⟨_, X, ?_, h1, gm, clock, es', sans S p, pms_sans hs p h2, rfl⟩
  rw [h4, h3]
  exact (List.Perm.cons _ (List.Perm.cons _ hX))
theorem clr_clr (f : Int → Int) (q : Int) : clr (clr f q) q = clr f q := by
  funext n; unfold clr; split <;> rfl
theorem clr_gone {f : Int → Int} {q : Int} (h : ∀ n, n / 512 = q → f n = 0) : clr f q = f := by
  funext n; unfold clr; split
  · rename_i e; exact (h n e).symm
  · rfl
theorem perm_in (Bm gM gm : Nat × Obj) (Sx : Hp) : (Bm :: gM :: gm :: Sx).Perm ([Bm, gm] ++ (gM :: Sx)) := (List.Perm.swap _ _ _).cons _
theorem perm_out (A : Hp) (Bm gM gm : Nat × Obj) (Sx : Hp) : ((A ++ [Bm, gm]) ++ (gM :: Sx)).Perm ([Bm] ++ (A ++ (gM :: gm :: Sx))) := by
  rw [List.append_assoc]
  refine (perm_front A [Bm] (gm :: gM :: Sx)).trans (List.Perm.cons _ ?_)
  exact (List.Perm.swap _ _ _).append_left A
set_option maxHeartbeats 8000000 in
theorem mclear_any {sz : Int} {f : Int → Int} {gM : Nat} {A : Hp} (h : Pm sz f gM A) (q : Int) (q0 : 0 ≤ q) (q1 : q * 4096 + 4096 ≤ sz) : Does Try.prog 26 #[.pointer (some ⟨gM, 0, none⟩), .int .u64 (q * 4096), .int .u64 4096] A
    fun r L => r = .int .i64 0 ∧ Pm sz (clr f q) gM L := by
  obtain ⟨gm, clock, es, S, hs, rfl⟩ := h
  have hmost := hs.most
  have hP : Pm sz f gM ((gM, row #[.int .u64 sz, .map (some gm)] 91) :: (gm, .map es clock) :: sheets S) := ⟨gm, clock, es, S, hs, rfl⟩
  have CA := fun w => aligned_any (q * 4096) 3 (by omega) (by omega) w
  have CB := fun w => aligned_any 4096 3 (by omega) (by omega) w
  rw [al3, decide_eq_true (by omega)] at CA
  rw [al3, decide_eq_true (by omega)] at CB
  have CC := fun Bm => collect_any hs gm Bm
  have HP := Lib.hid hP
  have HS := Lib.hid hs
  clear hP hs
  intro w hH
  have HM := Mem.start hH
  go_enter Try.func26, Try.ntmps26
  go_wp2_with (first
    | (go_big_skip)
    | (go_at_call 41; refine (call_new (keysf_any gm) HM).mono ?_; clear HM; rintro e w_ ⟨v_, L_, rfl, ⟨Bm_, rfl, rfl⟩, HM⟩; simp only [List.cons_append, List.nil_append] at HM; dsimp only)
    | (go_at_call 40; refine ((CC Bm_).call HM (perm_in _ _ _ _)).mono ?_; clear HM; rintro e w_ ⟨v_, L_, rfl, ⟨ys_, A_, hy_, hl_, rfl⟩, HM⟩; have HM := (HM.perm (perm_out _ _ _ _ _)).drop; obtain ⟨p_, c_, rfl, hc_, hV_⟩ := hl_.read; (try simp only [List.length_map] at hc_ ⊢); try dsimp only)
    | (go_at_call 24; (with_reducible refine (M.call_pure (CA) HM).mono ?_); clear HM; rintro e w_ ⟨rfl, HM⟩; dsimp only)
    | (go_at_call 24; (with_reducible refine (M.call_pure (CB) HM).mono ?_); clear HM; rintro e w_ ⟨rfl, HM⟩; dsimp only)
    | (refine M.at_mem rfl ?_; first | (refine M.at_load 25 rfl ?_; first | (refine M.load_cell_m HM rfl 25 _ rfl 0 _ _ _ _ _ rfl rfl rfl (by kernel_rfl) (by kernel_rfl) ?_; go_simp)) | (refine M.at_load 89 rfl ?_; first | (refine M.load_cell_m HM rfl 89 _ rfl 0 _ _ _ _ _ rfl rfl rfl (by kernel_rfl) (by kernel_rfl) ?_; go_simp)) | ((fail_if_success (refine M.lit_t rfl ?_)); (fail_if_success (refine M.lit_f rfl ?_)); refine M.split_guard rfl rfl ?_ ?_ <;> (intro hg_; simp only [hg_]; try simp only [M.hgs] at hg_)))
    | (refine Mc.at_cmp _ rfl ?_; refine Mc.cmp_m rfl _ rfl _ _ _ rfl _ _ _ rfl rfl _ rfl ?_ ?_ <;> (intro hg_; try simp only [M.hgs] at hg_; first | (exfalso; first | omega | (simp at hg_; done)) | (go_simp)))
    | ((fail_if_success (refine M.lit_t rfl ?_)); (fail_if_success (refine M.lit_f rfl ?_)); refine M.split_guard rfl rfl ?_ ?_ <;> (intro hg_; simp only [hg_]; try simp only [M.hgs] at hg_)))
  rename_i HMold_
  clear HMold_ CA CB CC hl_
  obtain ⟨hy1_, hy2_, hy3_⟩ := hy_
  have HE := Lib.hid (fun (i : Nat) (e : U1) (he : (ys_.map U1.mk)[i]? = some e) => (show e.v ∈ ys_ by
    have := List.mem_of_getElem? he
    obtain ⟨y, hy, rfl⟩ := List.mem_map.1 this
    exact hy))
  have HY1 := Lib.hid hy1_; have HY2 := Lib.hid hy2_
  have hn0 : (ys_.map U1.mk).length = ys_.length := List.length_map ..
  generalize hn : ys_.length = n at hc_ hn0 hy3_ ⊢
  have HIN := Lib.hid (fun (y : Int) (hy : y ∈ ys_) => (show ∃ i, (ys_.map U1.mk)[i]? = some (U1.mk y) from List.mem_iff_getElem?.1 (List.mem_map.2 ⟨y, hy, rfl⟩)))
  generalize hl0 : ys_.map U1.mk = l at hV_ HE HIN hn0
  have HV := Lib.hid hV_; have HN := Lib.hid hn0
  have hn1 : (n : Int) ≤ 1048576 := by omega
  clear hl0 hn hV_ hn0 hy1_ hy2_ hy3_
  go_loopw [42] (fun iv wr => ∃ (i : Nat) (f' : Int → Int) (L' : Hp), i ≤ n ∧ iv = .int .i64 i ∧ (f' = f ∨ f' = clr f q) ∧ (∀ (j : Nat) (e : U1), j < i → l[j]? = some e → e.v = q → f' = clr f q) ∧ Pm sz f' gM L' ∧ Mem w _ (A_ ++ L') wr) (fun iv _ => n - (intOf iv).toNat)
  case atStart => exact ⟨0, f, _, by omega, rfl, .inl rfl, fun j e hj => by omega, HP.out, HM⟩
  case round =>
    clear HM
    obtain ⟨i, f', L', iR, rfl, hf, hdo, hP', HM⟩ := hrel
    have HF := Lib.hid hf; have HDO := Lib.hid hdo; have HP2 := Lib.hid hP'
    clear hf hdo hP'
    by_cases hlt : i < n
    · obtain ⟨x, hx⟩ : ∃ x, l[i]? = some x := ⟨_, List.getElem?_eq_getElem (by have := HN.out; omega)⟩
      have hxy := HE.out i x hx
      obtain ⟨x0, x1⟩ := HY2.out _ hxy
      rcases HV.out with ⟨-, he, -⟩ | ⟨g, off, cur, rfl, hR, rfl⟩
      · rw [he] at hx; simp at hx
      have h0 := Ac.row_cell hR hx (j := 0) (v := .int .u64 x.v) rfl
      rw [Nat.add_zero, Nat.mul_one] at h0
      have hi1 : (i : Int) < n := by omega
      have H0 := Lib.hid h0; have HX := Lib.hid hx
      have hsh := u64_wrap (x.v * 4096) (by omega) (by omega)
      have hsh2 := u64_wrap ((x.v + 1) * 4096) (by omega) (by omega)
      clear h0 hR hx hxy
      by_cases hq : x.v = q
      · have CW := wipe_any HP2.out q q0 (by omega)
        generalize hxv : x.v = xv at H0 hq x0 x1 hsh hsh2
        have HXV := Lib.hid hxv
        clear hxv
        subst hq
        go_wp2_with (first
          | (go_big_skip)
          | (refine Sl.at_indexAddr 92 rfl ?_; refine Sl.indexAddr_m rfl _ rfl 92 rfl 25 (by kernel_rfl) 1 (by kernel_rfl) g (off) (n) (c_) rfl .i64 (i : Int) rfl (by omega) (by omega) (off + i * 1) (by omega) ?_; go_simp)
          | (go_at_call 42; have HM_ : M.Mem _ _ (([_]) ++ (L')) _ := HM; (with_reducible refine (M.Does.tail _ (CW) HM_).mono ?_); clear HM HM_; rintro e w_ ⟨v_, L_, rfl, ⟨rfl, HPN⟩, HM⟩; (try simp only [List.cons_append, List.nil_append, List.append_nil] at HM); dsimp only)
          | (refine M.at_mem rfl ?_; first | (refine M.at_load 25 rfl ?_; first | (refine M.load_cell_m HM rfl 25 _ rfl 0 g (off + i) _ cur (.int .u64 xv) rfl rfl H0.out (by kernel_rfl) (by kernel_rfl) ?_; go_simp) | (refine M.load_cell_m HM rfl 25 _ rfl 0 _ _ _ _ _ rfl rfl rfl (by kernel_rfl) (by kernel_rfl) ?_; go_simp)) | (refine M.at_load 89 rfl ?_; first | (refine M.load_cell_m HM rfl 25 _ rfl 0 g (off + i) _ cur (.int .u64 xv) rfl rfl H0.out (by kernel_rfl) (by kernel_rfl) ?_; go_simp) | (refine M.load_cell_m HM rfl 89 _ rfl 0 _ _ _ _ _ rfl rfl rfl (by kernel_rfl) (by kernel_rfl) ?_; go_simp)) | ((fail_if_success (refine M.lit_t rfl ?_)); (fail_if_success (refine M.lit_f rfl ?_)); refine M.split_guard rfl rfl ?_ ?_ <;> (intro hg_; simp only [hg_]; try simp only [M.hgs] at hg_)))
          | (refine Mc.at_cmp _ rfl ?_; refine Mc.cmp_m rfl _ rfl _ _ _ rfl _ _ _ rfl rfl _ rfl ?_ ?_ <;> (intro hg_; try simp only [M.hgs] at hg_; first | (exfalso; first | omega | (simp at hg_; done)) | (go_simp)))
          | ((fail_if_success (refine M.lit_t rfl ?_)); (fail_if_success (refine M.lit_f rfl ?_)); refine M.split_guard rfl rfl ?_ ?_ <;> (intro hg_; simp only [hg_]; try simp only [M.hgs] at hg_)))
        all_goals
          go_roundw
          case rel => exact ⟨i + 1, clr f' xv, _, by omega, by first | rfl | (refine congrArg (fun z => Value.int .i64 z) ?_; omega), .inr (by rcases HF.out with e | e <;> rw [e]; exact clr_clr _ _), (fun _ _ _ _ _ => by rcases HF.out with e | e <;> rw [e]; exact clr_clr _ _), HPN, HM⟩
          case measure => first | (simp [intOf]; done) | (simp [intOf]; omega)
      · have HXV := Lib.hid hq
        generalize hxv : x.v = xv at H0 hq x0 x1 hsh hsh2
        clear hxv
        go_wp2_with (first
          | (go_big_skip)
          | (refine Sl.at_indexAddr 92 rfl ?_; refine Sl.indexAddr_m rfl _ rfl 92 rfl 25 (by kernel_rfl) 1 (by kernel_rfl) g (off) (n) (c_) rfl .i64 (i : Int) rfl (by omega) (by omega) (off + i * 1) (by omega) ?_; go_simp)
          | (refine M.at_mem rfl ?_; first | (refine M.at_load 25 rfl ?_; first | (refine M.load_cell_m HM rfl 25 _ rfl 0 g (off + i) _ cur (.int .u64 xv) rfl rfl H0.out (by kernel_rfl) (by kernel_rfl) ?_; go_simp) | (refine M.load_cell_m HM rfl 25 _ rfl 0 _ _ _ _ _ rfl rfl rfl (by kernel_rfl) (by kernel_rfl) ?_; go_simp)) | (refine M.at_load 89 rfl ?_; first | (refine M.load_cell_m HM rfl 25 _ rfl 0 g (off + i) _ cur (.int .u64 xv) rfl rfl H0.out (by kernel_rfl) (by kernel_rfl) ?_; go_simp) | (refine M.load_cell_m HM rfl 89 _ rfl 0 _ _ _ _ _ rfl rfl rfl (by kernel_rfl) (by kernel_rfl) ?_; go_simp)) | ((fail_if_success (refine M.lit_t rfl ?_)); (fail_if_success (refine M.lit_f rfl ?_)); refine M.split_guard rfl rfl ?_ ?_ <;> (intro hg_; simp only [hg_]; try simp only [M.hgs] at hg_)))
          | (refine Mc.at_cmp _ rfl ?_; refine Mc.cmp_m rfl _ rfl _ _ _ rfl _ _ _ rfl rfl _ rfl ?_ ?_ <;> (intro hg_; try simp only [M.hgs] at hg_; first | (exfalso; first | omega | (simp at hg_; done)) | (go_simp)))
          | ((fail_if_success (refine M.lit_t rfl ?_)); (fail_if_success (refine M.lit_f rfl ?_)); refine M.split_guard rfl rfl ?_ ?_ <;> (intro hg_; simp only [hg_]; try simp only [M.hgs] at hg_)))
        all_goals
          go_roundw
          case rel => exact ⟨i + 1, f', L', by omega, by first | rfl | (refine congrArg (fun z => Value.int .i64 z) ?_; omega), HF.out, fun j y hj hy => by
            by_cases he : j = i
            · subst he
              have := HX.out.symm.trans hy
              cases this
              exact fun e => absurd e HXV.out
            · exact HDO.out j y (by omega) hy, HP2.out, HM⟩
          case measure => first | (simp [intOf]; done) | (simp [intOf]; omega)
    · obtain rfl : i = n := by omega
      have hfin : f' = clr f q := by
        by_cases hq : q ∈ ys_
        · obtain ⟨j, hj⟩ := HIN.out q hq
          exact HDO.out j _ (by have := (List.getElem?_eq_some_iff.1 hj).1; have := HN.out; omega) hj rfl
        · rcases HF.out with e | e
          · rw [e]
            refine (clr_gone fun n hn => HS.out.no n fun s hs e2 => hq ?_).symm
            rw [← hn, ← e2]
            exact HY1.out s hs
          · exact e
      have HFI := Lib.hid hfin
      clear hfin
      go_wp2_with (first
        | (go_big_skip)
        | (refine M.at_mem rfl ?_; first | (refine M.at_load 25 rfl ?_; first | (refine M.load_cell_m HM rfl 25 _ rfl 0 _ _ _ _ _ rfl rfl rfl (by kernel_rfl) (by kernel_rfl) ?_; go_simp)) | (refine M.at_load 89 rfl ?_; first | (refine M.load_cell_m HM rfl 89 _ rfl 0 _ _ _ _ _ rfl rfl rfl (by kernel_rfl) (by kernel_rfl) ?_; go_simp)) | ((fail_if_success (refine M.lit_t rfl ?_)); (fail_if_success (refine M.lit_f rfl ?_)); refine M.split_guard rfl rfl ?_ ?_ <;> (intro hg_; simp only [hg_]; try simp only [M.hgs] at hg_)))
        | (refine Mc.at_cmp _ rfl ?_; refine Mc.cmp_m rfl _ rfl _ _ _ rfl _ _ _ rfl rfl _ rfl ?_ ?_ <;> (intro hg_; try simp only [M.hgs] at hg_; first | (exfalso; first | omega | (simp at hg_; done)) | (go_simp)))
        | ((fail_if_success (refine M.lit_t rfl ?_)); (fail_if_success (refine M.lit_f rfl ?_)); refine M.split_guard rfl rfl ?_ ?_ <;> (intro hg_; simp only [hg_]; try simp only [M.hgs] at hg_)))
      all_goals
        go_ret
        have HM2 := HM.drop
        have HP3 := HP2.out
        rw [HFI.out] at HP3
        first
        | exact ⟨_, _, rfl, ⟨rfl, HP3⟩, HM2⟩
        | exact ⟨_, ⟨rfl, HP3⟩, HM2⟩
        | exact ⟨_, rfl, _, ⟨rfl, HP3⟩, HM2⟩
end Go.Proofs.Ytndeaikmelpflaa.Bh
