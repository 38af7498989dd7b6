/- Virtual ASIDs: same. -/
import Derived.Test.YtndeaikmelpflaaCe
namespace Go.Proofs.Ytndeaikmelpflaa.Cf
open Go.RowKit Go.Proofs.Ytndeaikmelpflaa.G Go.Proofs.Ytndeaikmelpflaa.B Go.Proofs.Ytndeaikmelpflaa.M Go.Proofs.Ytndeaikmelpflaa.Mv Go.Proofs.Ytndeaikmelpflaa.Sl Go.Proofs.Ytndeaikmelpflaa.Sm Go.Proofs.Ytndeaikmelpflaa.Sn Go.Proofs.Ytndeaikmelpflaa.Ma Go.Proofs.Ytndeaikmelpflaa.Dr Go.Proofs.Ytndeaikmelpflaa.Ya Go.Proofs.Ytndeaikmelpflaa.Yb Go.Proofs.Ytndeaikmelpflaa.Yc Go.Proofs.Ytndeaikmelpflaa.Ls Go.Proofs.Ytndeaikmelpflaa.Lt Go.Proofs.Ytndeaikmelpflaa.Lu Go.Proofs.Ytndeaikmelpflaa.Aa Go.Proofs.Ytndeaikmelpflaa.Ab Go.Proofs.Ytndeaikmelpflaa.Ac Go.Proofs.Ytndeaikmelpflaa.Ad Go.Proofs.Ytndeaikmelpflaa.Ae Go.Proofs.Ytndeaikmelpflaa.Af Go.Proofs.Ytndeaikmelpflaa.Bd Go.Proofs.Ytndeaikmelpflaa.Bp Go.Proofs.Ytndeaikmelpflaa.Ca Go.Proofs.Ytndeaikmelpflaa.Cb Go.Proofs.Ytndeaikmelpflaa.Cd Go.Proofs.Ytndeaikmelpflaa.Ce

set_option linter.unusedVariables false
set_option linter.unusedSimpArgs false
set_option maxRecDepth 100000
theorem pool_val {ps : Nat → Int} {i : Nat} (hi : i < 8) : poolP ps i = ps i ∧ okP ps i = decide (ps i ≠ 0) := by
  have e : okP ps i = decide (ps i ≠ 0) := by
    unfold okP; rw [decide_eq_true (by omega), Bool.true_and, Int.toNat_natCast]
  refine ⟨?_, e⟩
  unfold poolP
  rw [e]
  by_cases h : ps i = 0
  · simp [h]
  · simp [h]
theorem permS (X A1 L' A Av : Hp) : (X ++ (A ++ ((A1 ++ L') ++ Av))).Perm ((X ++ (A ++ L')) ++ (A1 ++ Av)) := by
  rw [List.append_assoc X]
  refine List.Perm.append_left X ?_
  rw [List.append_assoc A]
  refine List.Perm.append_left A ?_
  rw [List.append_assoc]
  exact Ba.perm_front A1 L' Av
set_option maxHeartbeats 8000000 in
theorem same_any {f : Int → Int} {gM gC : Nat} {ps : Nat → Int} {T A : Hp} (hA : AC f gM gC ps T) (hps : Psok ps) {v : Value} (hv : LR 54 (vl f ps) v A) {w0 u : World} {ML : List Nat} (HM : Mem w0 ML (T ++ A) u) :
    Calls Try.prog 14 #[.pointer (some ⟨gC, 0, none⟩), .agg (docC ps v)] u fun e u' => e = .returned (.bool true) ∧ ∃ T', AC f gM gC ps T' ∧ Mem w0 ML (T' ++ A) u' := by
  obtain ⟨AM, hP, rfl⟩ := hA
  obtain ⟨p, c, rfl, hc, hV⟩ := hv.read
  have CS : ∀ x ∈ vl f ps, Does Try.prog 21 #[.pointer (some ⟨gC, 0, none⟩), .int .i64 x.v] ((gC, row (ccells gM ps) 68) :: AM) fun r L => r = .tuple #[.int .u64 x.sp, .int .i64 0] ∧ L = ((gC, row (ccells gM ps) 68) :: AM) := fun x hx => by
    obtain ⟨h1, h2⟩ := mem_vl.1 hx
    have := vl_rng x hx
    have := space_any (gC := gC) hP hps x.v (by omega)
    rw [← h1, show spcV x.sp = .tuple #[.int .u64 x.sp, .int .i64 0] by unfold spcV; rw [if_neg h2]] at this
    exact this
  have CP : ∀ i : Nat, i < 8 → Does Try.prog 15 #[.pointer (some ⟨gC, 0, none⟩), .int .i64 i] [(gC, row (ccells gM ps) 68)] fun r L => r = .tuple #[.int .u64 (ps i), .bool (decide (ps i ≠ 0))] ∧ L = [(gC, row (ccells gM ps) 68)] := fun i hi => by
    have := pool_any gM gC ps i
    rw [(pool_val hi).1, (pool_val hi).2] at this
    exact this
  have CL := list_any (gC := gC) hP hps
  have hcl : (vl f ps).map (·.v) = (cat f ps 8).map (·.1) := by
    unfold vl; rw [List.map_map]; rfl
  have hll := vl_len f ps
  have HCS := Lib.hid CS; have HCP := Lib.hid CP; have HCL := Lib.hid hcl; have HV := Lib.hid hV
  have HDP := Lib.hid (fun (j : Nat) (hj : j < 8) => docC_p ps (.slice p (vl f ps).length c) hj)
  generalize hn : (vl f ps).length = n at hc hll HDP
  have HN := Lib.hid hn
  have hn1 : (n : Int) ≤ 4096 := by omega
  clear CS CP hcl hV hv hP hn
  generalize hT : (gC, row (ccells gM ps) 68) :: AM = T at HM CL HCS
  have HT := Lib.hid hT; clear hT
  simp only [docC] at HDP ⊢
  have HM := HM.perm List.perm_append_comm
  go_enter Try.func14, Try.ntmps14
  go_wp2_with (first
    | (go_big_skip)
    | (refine M.at_mem rfl ?_; first | (refine M.at_load 3 rfl ?_; first | (refine M.load_cell_m HM rfl 3 _ rfl 0 _ _ _ _ _ rfl rfl rfl (by kernel_rfl) (by kernel_rfl) ?_; go_simp)) | (refine M.at_load 25 rfl ?_; first | (refine M.load_cell_m HM rfl 25 _ rfl 0 _ _ _ _ _ rfl rfl rfl (by kernel_rfl) (by kernel_rfl) ?_; go_simp)) | (refine M.at_load 27 rfl ?_; first | (refine M.load_cell_m HM rfl 27 _ rfl 0 _ _ _ _ _ rfl rfl rfl (by kernel_rfl) (by kernel_rfl) ?_; go_simp)) | (refine M.at_load 54 rfl ?_; first | (refine M.load_row_m HM rfl 54 _ rfl 0 _ _ _ rfl rfl (by kernel_rfl) (by kernel_rfl) ?_; go_simp)) | (refine M.at_store 54 rfl ?_; first | (refine M.store_row_m HM rfl 54 _ _ rfl 0 _ _ _ _ rfl rfl rfl (by kernel_rfl) rfl (by simp [Value.oneCell']) ?_; clear HM; intro w_ HM; (try simp only [M.nrm] at HM); go_simp)) | (refine M.at_alloc 54 rfl ?_; first | (refine M.alloc_m HM rfl rfl 54 rfl (.agg #[(.int .i64 0), (.int .u64 0)]) (by kernel_rfl) #[(.int .i64 0), (.int .u64 0)] rfl ?_; clear HM; intro g_ w_ HM; go_simp)) | (refine M.at_box 29 rfl ?_; first | (refine M.box_m HM rfl rfl 29 _ rfl _ rfl ?_; clear HM; intro g_ w_ HM; go_simp)) | ((fail_if_success (refine M.lit_t rfl ?_)); (fail_if_success (refine M.lit_f rfl ?_)); refine M.split_guard rfl rfl ?_ ?_ <;> (intro hg_; simp only [hg_]; try simp only [M.hgs] at hg_)))
    | (refine Mc.at_cmp _ rfl ?_; refine Mc.cmp_m rfl _ rfl _ _ _ rfl _ _ _ rfl rfl _ rfl ?_ ?_ <;> (intro hg_; try simp only [M.hgs] at hg_; first | (exfalso; first | omega | (simp at hg_; done)) | (go_simp)))
    | ((fail_if_success (refine M.lit_t rfl ?_)); (fail_if_success (refine M.lit_f rfl ?_)); refine M.split_guard rfl rfl ?_ ?_ <;> (intro hg_; simp only [hg_]; try simp only [M.hgs] at hg_)))
  go_loopw [5, 16] (fun ov iv wr => ∃ (i : Nat) (vo : Value) (Ao : Hp), i ≤ n ∧ iv = .int .i64 i ∧ ov = vo ∧ LR 3 (((vl f ps).take i).map (·.v)) vo Ao ∧ Mem w0 ML ((g_, row #[.int .u64 131072, .int .u64 (ps 0), .int .u64 (ps 1), .int .u64 (ps 2), .int .u64 (ps 3), .int .u64 (ps 4), .int .u64 (ps 5), .int .u64 (ps 6), .int .u64 (ps 7), .slice p n c] 29) :: (A ++ (T ++ Ao))) wr) (fun _ iv _ => n - (intOf iv).toNat)
  case atStart => exact ⟨0, _, [], by omega, rfl, rfl, LR.nil _, by rw [List.append_nil]; exact HM⟩
  case round =>
    clear HM
    obtain ⟨i, vo, Ao, iR, rfl, rfl, ho, HM⟩ := hrel
    by_cases hlt : i < n
    · obtain ⟨x, hx⟩ : ∃ x, (vl f ps)[i]? = some x := ⟨_, List.getElem?_eq_getElem (by have := HN.out; omega)⟩
      have CSx := HCS.out x (List.mem_of_getElem? hx)
      have htk : ((vl f ps).take (i + 1)).map (·.v) = ((vl f ps).take i).map (·.v) ++ [x.v] := by rw [List.take_add_one, hx, List.map_append]; rfl
      have hlo : (((vl f ps).take i).map (·.v)).length ≤ i := by rw [List.length_map, List.length_take]; omega
      rcases HV.out with ⟨-, hl, -⟩ | ⟨g, off, cur, rfl, hR, rfl⟩
      · rw [hl] at hx; simp at hx
      have hg := hR.get hx
      have hsz := hR.fit (List.getElem?_eq_some_iff.1 hx).1
      have hi1 : (i : Int) < n := by omega
      obtain ⟨xv, xs⟩ := x
      dsimp only at CSx htk
      have HG := Lib.hid (show _ = (#[.int .i64 xv, .int .u64 xs] : Array Value) from hg); have HOFF := Lib.hid hsz; have HTK := Lib.hid htk
      have HO := Lib.hid ho
      generalize ((vl f ps).take i).map (·.v) = lo at HO HTK hlo
      clear hg hsz hR hx htk ho
      simp only [List.cons_append, List.nil_append] at HM
      go_wp2_with (first
        | (go_big_skip)
        | (refine Sl.at_indexAddr 27 rfl ?_; refine Sl.indexAddr_m rfl _ rfl 27 rfl 54 (by kernel_rfl) 2 (by kernel_rfl) g (off) (n) (c) rfl .i64 (i : Int) rfl (by omega) (by omega) (off + i * 2) (by omega) ?_; go_simp)
        | (refine Sl.at_bslice 37 rfl ?_; first | (refine Ls.bslice1v_m HM rfl rfl 37 3 _ rfl (by kernel_rfl) (.int .i64 xv) rfl (by kernel_rfl) ?_; clear HM; intro gb_ w_ HM; go_simp))
        | (refine Sm.at_call_append rfl ?_; first | (refine Ls.append_lr_m (R := [_] ++ T) HM rfl rfl _ _ 37 3 rfl 8 (by kernel_rfl) (by kernel_rfl) _ _ HO.out rfl (xv) 0 _ rfl rfl (by (try simp only [maxLen, List.length_append, List.length_cons, List.length_nil]); omega) (by (try simp only [List.length_append, List.length_cons, List.length_nil]); omega) ?_; clear HM HO; intro vo_ Ao_ w_ ho_ HM; have HO := Lib.hid ho_; clear ho_; (try simp only [List.cons_append, List.nil_append] at HM); go_simp) | (refine Ls.append_lr_m (R := [_, _] ++ T) HM rfl rfl _ _ 37 3 rfl 8 (by kernel_rfl) (by kernel_rfl) _ _ HO.out rfl (xv) 0 _ rfl rfl (by (try simp only [maxLen, List.length_append, List.length_cons, List.length_nil]); omega) (by (try simp only [List.length_append, List.length_cons, List.length_nil]); omega) ?_; clear HM HO; intro vo_ Ao_ w_ ho_ HM; have HO := Lib.hid ho_; clear ho_; (try simp only [List.cons_append, List.nil_append] at HM); go_simp) | (refine Ls.append_lr_m (R := [_, _, _] ++ T) HM rfl rfl _ _ 37 3 rfl 8 (by kernel_rfl) (by kernel_rfl) _ _ HO.out rfl (xv) 0 _ rfl rfl (by (try simp only [maxLen, List.length_append, List.length_cons, List.length_nil]); omega) (by (try simp only [List.length_append, List.length_cons, List.length_nil]); omega) ?_; clear HM HO; intro vo_ Ao_ w_ ho_ HM; have HO := Lib.hid ho_; clear ho_; (try simp only [List.cons_append, List.nil_append] at HM); go_simp) | (refine Ls.append_lr_m (R := [_, _, _, _] ++ T) HM rfl rfl _ _ 37 3 rfl 8 (by kernel_rfl) (by kernel_rfl) _ _ HO.out rfl (xv) 0 _ rfl rfl (by (try simp only [maxLen, List.length_append, List.length_cons, List.length_nil]); omega) (by (try simp only [List.length_append, List.length_cons, List.length_nil]); omega) ?_; clear HM HO; intro vo_ Ao_ w_ ho_ HM; have HO := Lib.hid ho_; clear ho_; (try simp only [List.cons_append, List.nil_append] at HM); go_simp) | (refine Ls.append_lr_m (R := [_, _, _, _, _] ++ T) HM rfl rfl _ _ 37 3 rfl 8 (by kernel_rfl) (by kernel_rfl) _ _ HO.out rfl (xv) 0 _ rfl rfl (by (try simp only [maxLen, List.length_append, List.length_cons, List.length_nil]); omega) (by (try simp only [List.length_append, List.length_cons, List.length_nil]); omega) ?_; clear HM HO; intro vo_ Ao_ w_ ho_ HM; have HO := Lib.hid ho_; clear ho_; (try simp only [List.cons_append, List.nil_append] at HM); go_simp) | (refine Ls.append_lr_m (R := [_, _, _, _, _, _] ++ T) HM rfl rfl _ _ 37 3 rfl 8 (by kernel_rfl) (by kernel_rfl) _ _ HO.out rfl (xv) 0 _ rfl rfl (by (try simp only [maxLen, List.length_append, List.length_cons, List.length_nil]); omega) (by (try simp only [List.length_append, List.length_cons, List.length_nil]); omega) ?_; clear HM HO; intro vo_ Ao_ w_ ho_ HM; have HO := Lib.hid ho_; clear ho_; (try simp only [List.cons_append, List.nil_append] at HM); go_simp) | (refine Ls.append_lr_m (R := [_, _, _, _, _, _, _] ++ T) HM rfl rfl _ _ 37 3 rfl 8 (by kernel_rfl) (by kernel_rfl) _ _ HO.out rfl (xv) 0 _ rfl rfl (by (try simp only [maxLen, List.length_append, List.length_cons, List.length_nil]); omega) (by (try simp only [List.length_append, List.length_cons, List.length_nil]); omega) ?_; clear HM HO; intro vo_ Ao_ w_ ho_ HM; have HO := Lib.hid ho_; clear ho_; (try simp only [List.cons_append, List.nil_append] at HM); go_simp) | (refine Ls.append_lr_m (R := [_, _, _, _, _, _, _, _] ++ T) HM rfl rfl _ _ 37 3 rfl 8 (by kernel_rfl) (by kernel_rfl) _ _ HO.out rfl (xv) 0 _ rfl rfl (by (try simp only [maxLen, List.length_append, List.length_cons, List.length_nil]); omega) (by (try simp only [List.length_append, List.length_cons, List.length_nil]); omega) ?_; clear HM HO; intro vo_ Ao_ w_ ho_ HM; have HO := Lib.hid ho_; clear ho_; (try simp only [List.cons_append, List.nil_append] at HM); go_simp))
        | (go_at_call 21; have HM_ : M.Mem _ _ ([_, _, _, _] ++ (T ++ _)) _ := HM; (with_reducible refine (mid_call [_, _, _, _] CSx HM_).mono ?_); clear HM HM_; rintro e w_ ⟨v_, TL_, rfl, ⟨rfl, hTL_⟩, HM⟩; replace hTL_ := Lib.hid hTL_; (try simp only [List.cons_append, List.nil_append] at HM); dsimp only)
        | (refine M.at_mem rfl ?_; first | (refine M.at_load 3 rfl ?_; first | (refine M.load_part_m HM rfl 54 _ rfl 1 g (off + i * 2) 2 _ cur rfl rfl HOFF.out #[.int .i64 xv, .int .u64 xs] HG.out (by kernel_rfl) (by kernel_rfl) ?_; go_simp) | (refine M.load_cell_m HM rfl 3 _ rfl 0 _ _ _ _ _ rfl rfl rfl (by kernel_rfl) (by kernel_rfl) ?_; go_simp) | (refine M.load_cell_m HM rfl 3 _ rfl 1 _ _ _ _ _ rfl rfl rfl (by kernel_rfl) (by kernel_rfl) ?_; go_simp) | (refine M.load_cell_m HM rfl 3 _ rfl 2 _ _ _ _ _ rfl rfl rfl (by kernel_rfl) (by kernel_rfl) ?_; go_simp)) | (refine M.at_load 25 rfl ?_; first | (refine M.load_part_m HM rfl 54 _ rfl 1 g (off + i * 2) 2 _ cur rfl rfl HOFF.out #[.int .i64 xv, .int .u64 xs] HG.out (by kernel_rfl) (by kernel_rfl) ?_; go_simp) | (refine M.load_cell_m HM rfl 25 _ rfl 0 _ _ _ _ _ rfl rfl rfl (by kernel_rfl) (by kernel_rfl) ?_; go_simp) | (refine M.load_cell_m HM rfl 25 _ rfl 1 _ _ _ _ _ rfl rfl rfl (by kernel_rfl) (by kernel_rfl) ?_; go_simp) | (refine M.load_cell_m HM rfl 25 _ rfl 2 _ _ _ _ _ rfl rfl rfl (by kernel_rfl) (by kernel_rfl) ?_; go_simp)) | (refine M.at_load 27 rfl ?_; first | (refine M.load_part_m HM rfl 54 _ rfl 1 g (off + i * 2) 2 _ cur rfl rfl HOFF.out #[.int .i64 xv, .int .u64 xs] HG.out (by kernel_rfl) (by kernel_rfl) ?_; go_simp) | (refine M.load_cell_m HM rfl 27 _ rfl 0 _ _ _ _ _ rfl rfl rfl (by kernel_rfl) (by kernel_rfl) ?_; go_simp) | (refine M.load_cell_m HM rfl 27 _ rfl 1 _ _ _ _ _ rfl rfl rfl (by kernel_rfl) (by kernel_rfl) ?_; go_simp) | (refine M.load_cell_m HM rfl 27 _ rfl 2 _ _ _ _ _ rfl rfl rfl (by kernel_rfl) (by kernel_rfl) ?_; go_simp)) | (refine M.at_load 54 rfl ?_; first | (refine M.load_part_m HM rfl 54 _ rfl 1 g (off + i * 2) 2 _ cur rfl rfl HOFF.out #[.int .i64 xv, .int .u64 xs] HG.out (by kernel_rfl) (by kernel_rfl) ?_; go_simp) | (refine M.load_row_m HM rfl 54 _ rfl 0 _ _ _ rfl rfl (by kernel_rfl) (by kernel_rfl) ?_; go_simp) | (refine M.load_row_m HM rfl 54 _ rfl 1 _ _ _ rfl rfl (by kernel_rfl) (by kernel_rfl) ?_; go_simp) | (refine M.load_row_m HM rfl 54 _ rfl 2 _ _ _ rfl rfl (by kernel_rfl) (by kernel_rfl) ?_; go_simp)) | (refine M.at_store 54 rfl ?_; first | (refine M.store_row_m HM rfl 54 _ _ rfl 0 _ _ _ _ rfl rfl rfl (by kernel_rfl) rfl (by simp [Value.oneCell']) ?_; clear HM; intro w_ HM; (try simp only [M.nrm] at HM); go_simp) | (refine M.store_row_m HM rfl 54 _ _ rfl 1 _ _ _ _ rfl rfl rfl (by kernel_rfl) rfl (by simp [Value.oneCell']) ?_; clear HM; intro w_ HM; (try simp only [M.nrm] at HM); go_simp) | (refine M.store_row_m HM rfl 54 _ _ rfl 2 _ _ _ _ rfl rfl rfl (by kernel_rfl) rfl (by simp [Value.oneCell']) ?_; clear HM; intro w_ HM; (try simp only [M.nrm] at HM); go_simp)) | (refine M.at_alloc 54 rfl ?_; first | (refine M.alloc_m HM rfl rfl 54 rfl (.agg #[(.int .i64 0), (.int .u64 0)]) (by kernel_rfl) #[(.int .i64 0), (.int .u64 0)] rfl ?_; clear HM; intro g_ w_ HM; go_simp)) | (refine M.at_box 29 rfl ?_; first | (refine M.box_m HM rfl rfl 29 _ rfl _ rfl ?_; clear HM; intro g_ w_ HM; go_simp)) | ((fail_if_success (refine M.lit_t rfl ?_)); (fail_if_success (refine M.lit_f rfl ?_)); refine M.split_guard rfl rfl ?_ ?_ <;> (intro hg_; simp only [hg_]; try simp only [M.hgs] at hg_)))
        | (refine Mc.at_cmp _ rfl ?_; refine Mc.cmp_m rfl _ rfl _ _ _ rfl _ _ _ rfl rfl _ rfl ?_ ?_ <;> (intro hg_; try simp only [M.hgs] at hg_; first | (exfalso; first | omega | (simp at hg_; done)) | (go_simp)))
        | ((fail_if_success (refine M.lit_t rfl ?_)); (fail_if_success (refine M.lit_f rfl ?_)); refine M.split_guard rfl rfl ?_ ?_ <;> (intro hg_; simp only [hg_]; try simp only [M.hgs] at hg_)))
      all_goals
        go_roundw
        case rel => exact ⟨i + 1, _, Ao_, by omega, by first | rfl | (refine congrArg (fun z => Value.int .i64 z) ?_; omega), rfl, by rw [HTK.out]; exact HO.out, by
          have h := hTL_.out ▸ HM
          exact h.drop (A := [_, _])⟩
        case measure => first | (simp [intOf]; done) | (simp [intOf]; omega)
    · obtain rfl : i = n := by omega
      rw [List.take_of_length_le (by have := HN.out; omega), HCL.out] at ho
      obtain ⟨pb, cb, rfl, hcb, hVb⟩ := ho.read
      have HLL := Lib.hid (show ((cat f ps 8).map (·.1)).length ≤ 100000 by rw [← HCL.out, List.length_map]; have := vl_len f ps; omega)
      have HVB := Lib.hid hVb
      generalize hlc : (cat f ps 8).map (·.1) = lc at HVB HLL ⊢
      have HLC := Lib.hid hlc
      generalize hln : lc.length = nl at HLL ⊢
      have HLN := Lib.hid hln
      clear ho hcb hVb hlc hln HCS HCL
      have hT := HT.out
      subst hT
      go_wp2_with (first
        | (go_big_skip)
        | (refine M.at_mem rfl ?_; first | (refine M.at_load 3 rfl ?_; first | (refine M.load_cell_m HM rfl 3 _ rfl 0 _ _ _ _ _ rfl rfl rfl (by kernel_rfl) (by kernel_rfl) ?_; go_simp)) | (refine M.at_load 25 rfl ?_; first | (refine M.load_cell_m HM rfl 25 _ rfl 0 _ _ _ _ _ rfl rfl rfl (by kernel_rfl) (by kernel_rfl) ?_; go_simp)) | (refine M.at_load 27 rfl ?_; first | (refine M.load_cell_m HM rfl 27 _ rfl 0 _ _ _ _ _ rfl rfl rfl (by kernel_rfl) (by kernel_rfl) ?_; go_simp)) | (refine M.at_load 54 rfl ?_; first | (refine M.load_row_m HM rfl 54 _ rfl 0 _ _ _ rfl rfl (by kernel_rfl) (by kernel_rfl) ?_; go_simp)) | (refine M.at_store 54 rfl ?_; first | (refine M.store_row_m HM rfl 54 _ _ rfl 0 _ _ _ _ rfl rfl rfl (by kernel_rfl) rfl (by simp [Value.oneCell']) ?_; clear HM; intro w_ HM; (try simp only [M.nrm] at HM); go_simp)) | (refine M.at_alloc 54 rfl ?_; first | (refine M.alloc_m HM rfl rfl 54 rfl (.agg #[(.int .i64 0), (.int .u64 0)]) (by kernel_rfl) #[(.int .i64 0), (.int .u64 0)] rfl ?_; clear HM; intro g_ w_ HM; go_simp)) | (refine M.at_box 29 rfl ?_; first | (refine M.box_m HM rfl rfl 29 _ rfl _ rfl ?_; clear HM; intro g_ w_ HM; go_simp)) | ((fail_if_success (refine M.lit_t rfl ?_)); (fail_if_success (refine M.lit_f rfl ?_)); refine M.split_guard rfl rfl ?_ ?_ <;> (intro hg_; simp only [hg_]; try simp only [M.hgs] at hg_)))
        | (refine Mc.at_cmp _ rfl ?_; refine Mc.cmp_m rfl _ rfl _ _ _ rfl _ _ _ rfl rfl _ rfl ?_ ?_ <;> (intro hg_; try simp only [M.hgs] at hg_; first | (exfalso; first | omega | (simp at hg_; done)) | (go_simp)))
        | ((fail_if_success (refine M.lit_t rfl ?_)); (fail_if_success (refine M.lit_f rfl ?_)); refine M.split_guard rfl rfl ?_ ?_ <;> (intro hg_; simp only [hg_]; try simp only [M.hgs] at hg_)))
      go_loopw [41] (fun jv wr => ∃ j : Nat, j ≤ 8 ∧ jv = .int .i64 j ∧ Mem w0 ML ((g_, row #[.int .u64 131072, .int .u64 (ps 0), .int .u64 (ps 1), .int .u64 (ps 2), .int .u64 (ps 3), .int .u64 (ps 4), .int .u64 (ps 5), .int .u64 (ps 6), .int .u64 (ps 7), .slice p i c] 29) :: (A ++ (((gC, row (ccells gM ps) 68) :: AM) ++ Ao))) wr) (fun jv _ => 8 - (intOf jv).toNat)
      case atStart => exact ⟨0, by omega, rfl, HM⟩
      case round =>
        clear HM
        obtain ⟨j, jR, rfl, HM⟩ := hrel
        by_cases hj : j < 8
        · have hj1 : (j : Int) < 8 := by omega
          have CPj := HCP.out j hj
          have hd := HDP.out j hj
          have HD := Lib.hid hd
          generalize ps j = pj at CPj HD
          clear hd
          by_cases hz : pj = 0
          · rw [decide_eq_false (by simpa using hz)] at CPj
            go_wp2_with (first
              | (go_big_skip)
              | (go_at_call 15; have HM_ : M.Mem _ _ ((_ :: A) ++ ([_] ++ (AM ++ Ao))) _ := HM; (with_reducible refine (mid_call (_ :: A) CPj HM_).mono ?_); clear HM HM_; rintro e w_ ⟨v_, L2_, rfl, ⟨rfl, rfl⟩, HM⟩; (try simp only [List.cons_append, List.nil_append] at HM); dsimp only)
              | (refine Sl.at_indexAddr 26 rfl ?_; refine Ma.indexArr_m rfl _ rfl 26 rfl 8 25 (by kernel_rfl) 1 (by kernel_rfl) g_ 1 rfl .i64 (j : Int) rfl (by omega) (by omega) (1 + j) (by omega) ?_; go_simp)
              | (refine M.at_mem rfl ?_; first | (refine M.at_load 3 rfl ?_; first | (refine M.load_cell_m HM rfl 25 _ rfl 0 g_ (1 + j) _ _ (.int .u64 pj) rfl rfl HD.out (by kernel_rfl) (by kernel_rfl) ?_; go_simp) | (refine M.load_cell_m HM rfl 3 _ rfl 0 _ _ _ _ _ rfl rfl rfl (by kernel_rfl) (by kernel_rfl) ?_; go_simp)) | (refine M.at_load 25 rfl ?_; first | (refine M.load_cell_m HM rfl 25 _ rfl 0 g_ (1 + j) _ _ (.int .u64 pj) rfl rfl HD.out (by kernel_rfl) (by kernel_rfl) ?_; go_simp) | (refine M.load_cell_m HM rfl 25 _ rfl 0 _ _ _ _ _ rfl rfl rfl (by kernel_rfl) (by kernel_rfl) ?_; go_simp)) | (refine M.at_load 27 rfl ?_; first | (refine M.load_cell_m HM rfl 25 _ rfl 0 g_ (1 + j) _ _ (.int .u64 pj) rfl rfl HD.out (by kernel_rfl) (by kernel_rfl) ?_; go_simp) | (refine M.load_cell_m HM rfl 27 _ rfl 0 _ _ _ _ _ rfl rfl rfl (by kernel_rfl) (by kernel_rfl) ?_; go_simp)) | (refine M.at_load 54 rfl ?_; first | (refine M.load_cell_m HM rfl 25 _ rfl 0 g_ (1 + j) _ _ (.int .u64 pj) rfl rfl HD.out (by kernel_rfl) (by kernel_rfl) ?_; go_simp) | (refine M.load_row_m HM rfl 54 _ rfl 0 _ _ _ rfl rfl (by kernel_rfl) (by kernel_rfl) ?_; go_simp)) | (refine M.at_store 54 rfl ?_; first | (refine M.store_row_m HM rfl 54 _ _ rfl 0 _ _ _ _ rfl rfl rfl (by kernel_rfl) rfl (by simp [Value.oneCell']) ?_; clear HM; intro w_ HM; (try simp only [M.nrm] at HM); go_simp)) | (refine M.at_alloc 54 rfl ?_; first | (refine M.alloc_m HM rfl rfl 54 rfl (.agg #[(.int .i64 0), (.int .u64 0)]) (by kernel_rfl) #[(.int .i64 0), (.int .u64 0)] rfl ?_; clear HM; intro g_ w_ HM; go_simp)) | (refine M.at_box 29 rfl ?_; first | (refine M.box_m HM rfl rfl 29 _ rfl _ rfl ?_; clear HM; intro g_ w_ HM; go_simp)) | ((fail_if_success (refine M.lit_t rfl ?_)); (fail_if_success (refine M.lit_f rfl ?_)); refine M.split_guard rfl rfl ?_ ?_ <;> (intro hg_; simp only [hg_]; try simp only [M.hgs] at hg_)))
              | (refine Mc.at_cmp _ rfl ?_; refine Mc.cmp_m rfl _ rfl _ _ _ rfl _ _ _ rfl rfl _ rfl ?_ ?_ <;> (intro hg_; try simp only [M.hgs] at hg_; first | (exfalso; first | omega | (simp at hg_; done)) | (go_simp)))
              | ((fail_if_success (refine M.lit_t rfl ?_)); (fail_if_success (refine M.lit_f rfl ?_)); refine M.split_guard rfl rfl ?_ ?_ <;> (intro hg_; simp only [hg_]; try simp only [M.hgs] at hg_)))
            all_goals
              go_roundw
              case rel => exact ⟨j + 1, by omega, by first | rfl | (refine congrArg (fun z => Value.int .i64 z) ?_; omega), HM⟩
              case measure => first | (simp [intOf]; done) | (simp [intOf]; omega)
          · rw [decide_eq_true (by simpa using hz)] at CPj
            go_wp2_with (first
              | (go_big_skip)
              | (go_at_call 15; have HM_ : M.Mem _ _ ((_ :: A) ++ ([_] ++ (AM ++ Ao))) _ := HM; (with_reducible refine (mid_call (_ :: A) CPj HM_).mono ?_); clear HM HM_; rintro e w_ ⟨v_, L2_, rfl, ⟨rfl, rfl⟩, HM⟩; (try simp only [List.cons_append, List.nil_append] at HM); dsimp only)
              | (refine Sl.at_indexAddr 26 rfl ?_; refine Ma.indexArr_m rfl _ rfl 26 rfl 8 25 (by kernel_rfl) 1 (by kernel_rfl) g_ 1 rfl .i64 (j : Int) rfl (by omega) (by omega) (1 + j) (by omega) ?_; go_simp)
              | (refine M.at_mem rfl ?_; first | (refine M.at_load 3 rfl ?_; first | (refine M.load_cell_m HM rfl 25 _ rfl 0 g_ (1 + j) _ _ (.int .u64 pj) rfl rfl HD.out (by kernel_rfl) (by kernel_rfl) ?_; go_simp) | (refine M.load_cell_m HM rfl 3 _ rfl 0 _ _ _ _ _ rfl rfl rfl (by kernel_rfl) (by kernel_rfl) ?_; go_simp)) | (refine M.at_load 25 rfl ?_; first | (refine M.load_cell_m HM rfl 25 _ rfl 0 g_ (1 + j) _ _ (.int .u64 pj) rfl rfl HD.out (by kernel_rfl) (by kernel_rfl) ?_; go_simp) | (refine M.load_cell_m HM rfl 25 _ rfl 0 _ _ _ _ _ rfl rfl rfl (by kernel_rfl) (by kernel_rfl) ?_; go_simp)) | (refine M.at_load 27 rfl ?_; first | (refine M.load_cell_m HM rfl 25 _ rfl 0 g_ (1 + j) _ _ (.int .u64 pj) rfl rfl HD.out (by kernel_rfl) (by kernel_rfl) ?_; go_simp) | (refine M.load_cell_m HM rfl 27 _ rfl 0 _ _ _ _ _ rfl rfl rfl (by kernel_rfl) (by kernel_rfl) ?_; go_simp)) | (refine M.at_load 54 rfl ?_; first | (refine M.load_cell_m HM rfl 25 _ rfl 0 g_ (1 + j) _ _ (.int .u64 pj) rfl rfl HD.out (by kernel_rfl) (by kernel_rfl) ?_; go_simp) | (refine M.load_row_m HM rfl 54 _ rfl 0 _ _ _ rfl rfl (by kernel_rfl) (by kernel_rfl) ?_; go_simp)) | (refine M.at_store 54 rfl ?_; first | (refine M.store_row_m HM rfl 54 _ _ rfl 0 _ _ _ _ rfl rfl rfl (by kernel_rfl) rfl (by simp [Value.oneCell']) ?_; clear HM; intro w_ HM; (try simp only [M.nrm] at HM); go_simp)) | (refine M.at_alloc 54 rfl ?_; first | (refine M.alloc_m HM rfl rfl 54 rfl (.agg #[(.int .i64 0), (.int .u64 0)]) (by kernel_rfl) #[(.int .i64 0), (.int .u64 0)] rfl ?_; clear HM; intro g_ w_ HM; go_simp)) | (refine M.at_box 29 rfl ?_; first | (refine M.box_m HM rfl rfl 29 _ rfl _ rfl ?_; clear HM; intro g_ w_ HM; go_simp)) | ((fail_if_success (refine M.lit_t rfl ?_)); (fail_if_success (refine M.lit_f rfl ?_)); refine M.split_guard rfl rfl ?_ ?_ <;> (intro hg_; simp only [hg_]; try simp only [M.hgs] at hg_)))
              | (refine Mc.at_cmp _ rfl ?_; refine Mc.cmp_m rfl _ rfl _ _ _ rfl _ _ _ rfl rfl _ rfl ?_ ?_ <;> (intro hg_; try simp only [M.hgs] at hg_; first | (exfalso; first | omega | (simp at hg_; done)) | (go_simp)))
              | ((fail_if_success (refine M.lit_t rfl ?_)); (fail_if_success (refine M.lit_f rfl ?_)); refine M.split_guard rfl rfl ?_ ?_ <;> (intro hg_; simp only [hg_]; try simp only [M.hgs] at hg_)))
            all_goals
              go_roundw
              case rel => exact ⟨j + 1, by omega, by first | rfl | (refine congrArg (fun z => Value.int .i64 z) ?_; omega), HM⟩
              case measure => first | (simp [intOf]; done) | (simp [intOf]; omega)
        · obtain rfl : j = 8 := by omega
          go_wp2_with (first
            | (go_big_skip)
            | (go_at_call 11; have HM_ : M.Mem _ _ ((_ :: A) ++ (((gC, row (ccells gM ps) 68) :: AM) ++ Ao)) _ := HM; (with_reducible refine (mid_call (_ :: A) CL HM_).mono ?_); clear HM HM_; rintro e w_ ⟨v_, L1_, rfl, ⟨A1_, L2_, hl1_, rfl, hAC_⟩, HM⟩; rw [HLC.out] at hl1_; obtain ⟨pa_, ca_, rfl, hca_, hVa_⟩ := hl1_.read; rw [HLN.out]; replace HM := HM.perm (permS [_] A1_ L2_ A Ao); dsimp only)
            | (go_at_call 33; have HM_ : M.Mem _ _ (([_] ++ (A ++ L2_)) ++ (A1_ ++ Ao)) _ := HM; (with_reducible refine (M.Does.tail _ (listed_any hVa_ HVB.out _ _ _ HLN.out HLL.out) HM_).mono ?_); clear HM HM_; rintro e w_ ⟨v_, L3_, rfl, ⟨rfl, rfl⟩, HM⟩; dsimp only)
            | (refine M.at_mem rfl ?_; first | (refine M.at_load 3 rfl ?_; first | (refine M.load_cell_m HM rfl 3 _ rfl 0 _ _ _ _ _ rfl rfl rfl (by kernel_rfl) (by kernel_rfl) ?_; go_simp)) | (refine M.at_load 25 rfl ?_; first | (refine M.load_cell_m HM rfl 25 _ rfl 0 _ _ _ _ _ rfl rfl rfl (by kernel_rfl) (by kernel_rfl) ?_; go_simp)) | (refine M.at_load 27 rfl ?_; first | (refine M.load_cell_m HM rfl 27 _ rfl 0 _ _ _ _ _ rfl rfl rfl (by kernel_rfl) (by kernel_rfl) ?_; go_simp)) | (refine M.at_load 54 rfl ?_; first | (refine M.load_row_m HM rfl 54 _ rfl 0 _ _ _ rfl rfl (by kernel_rfl) (by kernel_rfl) ?_; go_simp)) | (refine M.at_store 54 rfl ?_; first | (refine M.store_row_m HM rfl 54 _ _ rfl 0 _ _ _ _ rfl rfl rfl (by kernel_rfl) rfl (by simp [Value.oneCell']) ?_; clear HM; intro w_ HM; (try simp only [M.nrm] at HM); go_simp)) | (refine M.at_alloc 54 rfl ?_; first | (refine M.alloc_m HM rfl rfl 54 rfl (.agg #[(.int .i64 0), (.int .u64 0)]) (by kernel_rfl) #[(.int .i64 0), (.int .u64 0)] rfl ?_; clear HM; intro g_ w_ HM; go_simp)) | (refine M.at_box 29 rfl ?_; first | (refine M.box_m HM rfl rfl 29 _ rfl _ rfl ?_; clear HM; intro g_ w_ HM; go_simp)) | ((fail_if_success (refine M.lit_t rfl ?_)); (fail_if_success (refine M.lit_f rfl ?_)); refine M.split_guard rfl rfl ?_ ?_ <;> (intro hg_; simp only [hg_]; try simp only [M.hgs] at hg_)))
            | (refine Mc.at_cmp _ rfl ?_; refine Mc.cmp_m rfl _ rfl _ _ _ rfl _ _ _ rfl rfl _ rfl ?_ ?_ <;> (intro hg_; try simp only [M.hgs] at hg_; first | (exfalso; first | omega | (simp at hg_; done)) | (go_simp)))
            | ((fail_if_success (refine M.lit_t rfl ?_)); (fail_if_success (refine M.lit_f rfl ?_)); refine M.split_guard rfl rfl ?_ ?_ <;> (intro hg_; simp only [hg_]; try simp only [M.hgs] at hg_)))
          all_goals
            go_ret
            exact ⟨by first | rfl | simp, L2_, hAC_, ((HM.take).drop (A := [_])).perm List.perm_append_comm⟩
def SameRel (f : Int → Int) (gM gC : Nat) (ps : Nat → Int) (A : Hp) (r : Value) (L : Hp) : Prop := r = .bool true ∧ ∃ T', AC f gM gC ps T' ∧ L = T' ++ A
theorem same_does {f : Int → Int} {gM gC : Nat} {ps : Nat → Int} {T A : Hp} (hA : AC f gM gC ps T) (hps : Psok ps) {v : Value} (hv : LR 54 (vl f ps) v A) : Does Try.prog 14 #[.pointer (some ⟨gC, 0, none⟩), .agg (docC ps v)] (T ++ A) (SameRel f gM gC ps A) := fun w hH =>
  (same_any hA hps hv (Mem.start hH)).mono fun e w' ⟨he, T', h1, hm⟩ => ⟨_, _, he, ⟨rfl, T', h1, rfl⟩, hm⟩
end Go.Proofs.Ytndeaikmelpflaa.Cf
