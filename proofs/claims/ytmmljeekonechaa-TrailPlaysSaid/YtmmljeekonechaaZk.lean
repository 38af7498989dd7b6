/- The document's trail: Add, Best, Walked, Flush. -/
import Derived.Test.YtmmljeekonechaaProg
import Derived.Test.YtmmljeekonechaaLu
import Derived.Test.YtmmljeekonechaaZf
namespace Go.Proofs.Ytmmljeekonechaa.Zk
open Go.RowKit Go.Proofs.Ytmmljeekonechaa.G Go.Proofs.Ytmmljeekonechaa.B Go.Proofs.Ytmmljeekonechaa.M Go.Proofs.Ytmmljeekonechaa.Mv Go.Proofs.Ytmmljeekonechaa.Sl Go.Proofs.Ytmmljeekonechaa.Sm Go.Proofs.Ytmmljeekonechaa.Sn Go.Proofs.Ytmmljeekonechaa.Ls Go.Proofs.Ytmmljeekonechaa.Lt Go.Proofs.Ytmmljeekonechaa.Lu Go.Proofs.Ytmmljeekonechaa.Dr Go.Proofs.Ytmmljeekonechaa.Ds Go.Proofs.Ytmmljeekonechaa.Tp Go.Proofs.Ytmmljeekonechaa.Yd Go.Proofs.Ytmmljeekonechaa.Yf Go.Proofs.Ytmmljeekonechaa.Yh Go.Proofs.Ytmmljeekonechaa.Eq Go.Proofs.Ytmmljeekonechaa.Za Go.Proofs.Ytmmljeekonechaa.Zb Go.Proofs.Ytmmljeekonechaa.Zc Go.Proofs.Ytmmljeekonechaa.Zd Go.Proofs.Ytmmljeekonechaa.Ze Go.Proofs.Ytmmljeekonechaa.Zf

set_option linter.unusedVariables false
set_option linter.unusedSimpArgs false
set_option maxRecDepth 100000
/-- A slice of marks is the answer. -/
def RL (l : List K) (r : Value) (L : Hp) : Prop := LR 45 l r L
def RIs (x : Value) (A : Hp) (r : Value) (L : Hp) : Prop := r = x ∧ L = A
theorem cut_rest {l : List K} {p : Option Addr} {n c i : Nat} {A : Hp} (h : LR 45 l (.slice p n c) A) (hn : l.length = n) (hi : i < n) : LR 45 (l.drop i) (cutV c i p n) A := by
  subst hn
  obtain ⟨p', c', e, -, -, h2⟩ := Lt.LR.rest h hi
  injection e with e1 e2 e3
  subst e1 e3
  exact h2
set_option maxHeartbeats 4000000 in
theorem radd_any {most : Int} {l : List K} {v : Value} {A : Hp} (hA : LR 45 l v A) (e : K) (ho : e.ok) (h0 : 1 ≤ most) (h9 : most ≤ 900) (hl : (l.length : Int) ≤ most) : Does Try.prog 26 #[v, .int .i64 most, .agg e.cells] A (RL (stepK most l e)) := by
  have CR := fun w => rright_any e ho w
  obtain ⟨p, c, rfl, hc, hV⟩ := hA.read
  generalize hn : l.length = n at hA hc hl
  have HA := Lib.hid hA; have HV := Lib.hid hV; have HN := Lib.hid hn
  clear hA hV hn ho
  by_cases hr : rightK e = true
  rotate_left
  · have hr : rightK e = false := by simpa using hr
    have hst : stepK most l e = l := by unfold stepK; rw [if_neg (by rw [hr]; simp)]
    rw [hr] at CR
    rw [hst]
    clear hst hr
    intro w hH
    have HM := Mem.start hH
    go_enter Try.func26, Try.ntmps26
    go_wp2_with (first
      | (go_big_skip)
      | (go_at_call 27; (with_reducible refine (M.call_pure (CR) HM).mono ?_); clear HM; rintro e w_ ⟨rfl, HM⟩; dsimp only)
      | (refine M.at_reg 7 ?_; refine Mq.region_m (id := 7) HM (by kernel_rfl) (by kernel_rfl) ?_; (repeat (any_goals (first | go_big_quiet_skip | (refine Mq.qat_load 45 rfl ?_; go_big_quiet_want; first | (refine Mq.quiet_load_row 45 _ rfl 0 _ _ _ rfl rfl (by kernel_rfl) (by kernel_rfl) ?_; simp only [Act.put, List.setIfInBounds_toArray, List.set_cons_zero, List.set_cons_succ]; go_big_quiet_on) | (refine Mq.quiet_load_row 45 _ rfl 1 _ _ _ rfl rfl (by kernel_rfl) (by kernel_rfl) ?_; simp only [Act.put, List.setIfInBounds_toArray, List.set_cons_zero, List.set_cons_succ]; go_big_quiet_on)) | ((fail_if_success (refine Mq.qlit_t rfl ?_)); (fail_if_success (refine Mq.qlit_f rfl ?_)); refine Mq.qsplit rfl rfl ?_ ?_ <;> (intro hg_; simp only [hg_]; try simp only [M.hgs] at hg_)) | go_big_quiet_step (first | (go_at_call 27; with_reducible exact Mq.quiet_call_m (CR _)) | exact rfl)))); all_goals (refine Go.Proofs.Ytmmljeekonechaa.G.wpQuiet_end ?_; clear HM; intro w_ HM))
      | (refine M.at_mem rfl ?_; first | (refine M.at_load 45 rfl ?_; first | (refine M.load_row_m HM rfl 45 _ rfl 0 _ _ _ rfl rfl (by kernel_rfl) (by kernel_rfl) ?_; go_simp) | (refine M.load_row_m HM rfl 45 _ rfl 1 _ _ _ rfl rfl (by kernel_rfl) (by kernel_rfl) ?_; go_simp)) | (refine M.at_box 45 rfl ?_; first | (refine M.box_m HM rfl rfl 45 _ rfl e.cells rfl ?_; clear HM; intro gE_ w_ HM; go_simp) | (refine M.box_m HM rfl rfl 45 _ rfl _ rfl ?_; clear HM; intro g_ w_ HM; go_simp)) | ((fail_if_success (refine M.lit_t rfl ?_)); (fail_if_success (refine M.lit_f rfl ?_)); refine M.split_guard rfl rfl ?_ ?_ <;> (intro hg_; simp only [hg_]; try simp only [M.hgs] at hg_)))
      | (refine Mc.at_cmp _ rfl ?_; refine Mc.cmp_m rfl _ rfl _ _ _ rfl _ _ _ rfl rfl _ rfl ?_ ?_ <;> (intro hg_; try simp only [M.hgs] at hg_; first | (exfalso; first | omega | (simp at hg_; done)) | (go_simp)))
      | ((fail_if_success (refine M.lit_t rfl ?_)); (fail_if_success (refine M.lit_f rfl ?_)); refine M.split_guard rfl rfl ?_ ?_ <;> (intro hg_; simp only [hg_]; try simp only [M.hgs] at hg_)))
    all_goals
      go_ret
      exact ⟨_, _, rfl, HA.out, HM.drop (A := [_])⟩
  rw [hr] at CR
  have hst : stepK most l e = addK most l e := by unfold stepK; rw [if_pos hr]
  rw [hst]
  clear hst hr
  intro w hH
  have HM := Mem.start hH
  go_enter Try.func26, Try.ntmps26
  go_wp2_with (first
    | (go_big_skip)
    | (go_at_call 27; (with_reducible refine (M.call_pure (CR) HM).mono ?_); clear HM; rintro e w_ ⟨rfl, HM⟩; dsimp only)
    | (refine M.at_reg 7 ?_; refine Mq.region_m (id := 7) HM (by kernel_rfl) (by kernel_rfl) ?_; (repeat (any_goals (first | go_big_quiet_skip | (refine Mq.qat_load 45 rfl ?_; go_big_quiet_want; first | (refine Mq.quiet_load_row 45 _ rfl 0 _ _ _ rfl rfl (by kernel_rfl) (by kernel_rfl) ?_; simp only [Act.put, List.setIfInBounds_toArray, List.set_cons_zero, List.set_cons_succ]; go_big_quiet_on)) | ((fail_if_success (refine Mq.qlit_t rfl ?_)); (fail_if_success (refine Mq.qlit_f rfl ?_)); refine Mq.qsplit rfl rfl ?_ ?_ <;> (intro hg_; simp only [hg_]; try simp only [M.hgs] at hg_)) | go_big_quiet_step (first | (go_at_call 27; with_reducible exact Mq.quiet_call_m (CR _)) | exact rfl)))); all_goals (refine Go.Proofs.Ytmmljeekonechaa.G.wpQuiet_end ?_; clear HM; intro w_ HM))
    | (refine M.at_mem rfl ?_; first | (refine M.at_load 45 rfl ?_; first | (refine M.load_row_m HM rfl 45 _ rfl 0 _ _ _ rfl rfl (by kernel_rfl) (by kernel_rfl) ?_; go_simp)) | (refine M.at_box 45 rfl ?_; first | (refine M.box_m HM rfl rfl 45 _ rfl e.cells rfl ?_; clear HM; intro gE_ w_ HM; go_simp) | (refine M.box_m HM rfl rfl 45 _ rfl _ rfl ?_; clear HM; intro g_ w_ HM; go_simp)) | ((fail_if_success (refine M.lit_t rfl ?_)); (fail_if_success (refine M.lit_f rfl ?_)); refine M.split_guard rfl rfl ?_ ?_ <;> (intro hg_; simp only [hg_]; try simp only [M.hgs] at hg_)))
    | (refine Mc.at_cmp _ rfl ?_; refine Mc.cmp_m rfl _ rfl _ _ _ rfl _ _ _ rfl rfl _ rfl ?_ ?_ <;> (intro hg_; try simp only [M.hgs] at hg_; first | (exfalso; first | omega | (simp at hg_; done)) | (go_simp)))
    | ((fail_if_success (refine M.lit_t rfl ?_)); (fail_if_success (refine M.lit_f rfl ?_)); refine M.split_guard rfl rfl ?_ ?_ <;> (intro hg_; simp only [hg_]; try simp only [M.hgs] at hg_)))
  clear CR
  go_loopw [7, 8] (fun ov iv wr => ∃ (i : Nat) (vo : Value) (Ao : Hp), i ≤ n ∧ iv = .int .i64 i ∧ ov = vo ∧ ¬ (e ∈ l.take i) ∧ LR 45 (l.take i) vo Ao ∧ Mem w _ ((gE_, row e.cells 45) :: (A ++ Ao)) wr) (fun _ iv _ => n - (intOf iv).toNat)
  case atStart => exact ⟨0, _, [], by omega, rfl, rfl, by simp, LR.nil _, by simpa using HM⟩
  case round =>
    clear HM
    obtain ⟨i, vo, Ao, iR, rfl, rfl, hno, ho, HM⟩ := hrel
    have HO := Lib.hid ho; have HNO := Lib.hid hno; clear ho hno
    by_cases hlt : i < n
    · obtain ⟨x, hx⟩ : ∃ x, l[i]? = some x := ⟨_, List.getElem?_eq_getElem (by have := HN.out; omega)⟩
      rcases HV.out with ⟨-, hl, -⟩ | ⟨g, off, cur, rfl, hR, rfl⟩
      · rw [hl] at hx; simp at hx
      have hg := hR.get hx
      have hsz := hR.fit (List.getElem?_eq_some_iff.1 hx).1
      have HG := Lib.hid (show _ = x.cells from hg); have HOFF := Lib.hid hsz
      have hi1 : (i : Int) < n := by omega
      have HX := Lib.hid hx
      clear hg hsz hR hx
      simp only [List.cons_append, List.nil_append] at HM
      by_cases hxe : x = e
      · have hb : eqB .eql (decide (x = e)) = some true := by rw [decide_eq_true hxe]; rfl
        have HB := Lib.hid hb; clear hb hxe
        go_wp2_with (first
          | (go_big_skip)
          | (refine M.at_reg 7 ?_; refine Mq.region_m (id := 7) HM (by kernel_rfl) (by kernel_rfl) ?_; (repeat (any_goals (first | go_big_quiet_skip | (refine Sm.qat_indexAddr 39 rfl ?_; go_big_quiet_want; refine Sm.quiet_indexAddr_own 39 rfl 45 (by kernel_rfl) 4 (by kernel_rfl) g (off) (n) (c) rfl .i64 (i : Int) rfl (by omega) (by omega) (off + i * 4) (by omega) ?_; simp only [Act.put, List.setIfInBounds_toArray, List.set_cons_zero, List.set_cons_succ]; go_big_quiet_on) | (refine Ls.qat_bin .eql rfl ?_; go_big_quiet_want; refine Ls.quiet_eqR (T := K) rfl Za.eqK2 (e := x) (f := e) rfl rfl (b := true) (HB.out) ?_; simp only [Act.put, List.setIfInBounds_toArray, List.set_cons_zero, List.set_cons_succ]; go_big_quiet_on) | (refine Mq.qat_load 45 rfl ?_; go_big_quiet_want; first | (refine Sn.quiet_load_part 45 _ rfl 1 g (off + i * 4) 4 _ cur rfl rfl HOFF.out x.cells HG.out (by kernel_rfl) (by kernel_rfl) ?_; simp only [Act.put, List.setIfInBounds_toArray, List.set_cons_zero, List.set_cons_succ]; go_big_quiet_on) | (refine Mq.quiet_load_row 45 _ rfl 0 _ _ _ rfl rfl (by kernel_rfl) (by kernel_rfl) ?_; simp only [Act.put, List.setIfInBounds_toArray, List.set_cons_zero, List.set_cons_succ]; go_big_quiet_on) | (refine Mq.quiet_load_row 45 _ rfl 1 _ _ _ rfl rfl (by kernel_rfl) (by kernel_rfl) ?_; simp only [Act.put, List.setIfInBounds_toArray, List.set_cons_zero, List.set_cons_succ]; go_big_quiet_on)) | ((fail_if_success (refine Mq.qlit_t rfl ?_)); (fail_if_success (refine Mq.qlit_f rfl ?_)); refine Mq.qsplit rfl rfl ?_ ?_ <;> (intro hg_; simp only [hg_]; try simp only [M.hgs] at hg_)) | go_big_quiet_step (first | exact rfl)))); all_goals (refine Go.Proofs.Ytmmljeekonechaa.G.wpQuiet_end ?_; clear HM; intro w_ HM))
          | (refine M.at_mem rfl ?_; first | (refine M.at_load 45 rfl ?_; first | (refine M.load_row_m HM rfl 45 _ rfl 0 _ _ _ rfl rfl (by kernel_rfl) (by kernel_rfl) ?_; go_simp) | (refine M.load_row_m HM rfl 45 _ rfl 1 _ _ _ rfl rfl (by kernel_rfl) (by kernel_rfl) ?_; go_simp)) | (refine M.at_box 45 rfl ?_; first | (refine M.box_m HM rfl rfl 45 _ rfl _ rfl ?_; clear HM; intro g_ w_ HM; go_simp)) | ((fail_if_success (refine M.lit_t rfl ?_)); (fail_if_success (refine M.lit_f rfl ?_)); refine M.split_guard rfl rfl ?_ ?_ <;> (intro hg_; simp only [hg_]; try simp only [M.hgs] at hg_)))
          | (refine Mc.at_cmp _ rfl ?_; refine Mc.cmp_m rfl _ rfl _ _ _ rfl _ _ _ rfl rfl _ rfl ?_ ?_ <;> (intro hg_; try simp only [M.hgs] at hg_; first | (exfalso; first | omega | (simp at hg_; done)) | (go_simp)))
          | ((fail_if_success (refine M.lit_t rfl ?_)); (fail_if_success (refine M.lit_f rfl ?_)); refine M.split_guard rfl rfl ?_ ?_ <;> (intro hg_; simp only [hg_]; try simp only [M.hgs] at hg_)))
        all_goals
          go_ret
          have hin : x = e := by have := HB.out; simpa [eqB] using this
          refine ⟨_, _, rfl, ?_, (HM.drop (A := [_])).take (A := [_])⟩
          have he : addK most l e = l := by unfold addK; rw [if_pos (by rw [← hin]; exact List.mem_of_getElem? HX.out)]
          rw [he]
          exact HA.out
      · have hb : eqB .eql (decide (x = e)) = some false := by rw [decide_eq_false hxe]; rfl
        have htk : l.take (i + 1) = l.take i ++ [x] := by rw [List.take_add_one, HX.out]; rfl
        have HB := Lib.hid hb; have HXE := Lib.hid hxe; have HTK := Lib.hid htk; clear hb hxe htk
        have HLT := Lib.hid (show (l.take i).length + 1 = i + 1 by rw [List.length_take, HN.out]; omega)
        go_wp2_with (first
          | (go_big_skip)
          | (refine Sl.at_indexAddr 39 rfl ?_; refine Sl.indexAddr_m rfl _ rfl 39 rfl 45 (by kernel_rfl) 4 (by kernel_rfl) g (off) (n) (c) rfl .i64 (i : Int) rfl (by omega) (by omega) (off + i * 4) (by omega) ?_; go_simp)
          | (refine Sl.at_bslice 39 rfl ?_; first | (refine Ls.bslice1_m HM rfl rfl 39 45 _ rfl (by kernel_rfl) (x.cells) rfl (by kernel_rfl) ?_; clear HM; intro gb_ w_ HM; go_simp))
          | (refine Sm.at_call_append rfl ?_; refine Lu.append_lr2_m (R := [_, _, _]) HM rfl rfl _ _ 39 45 rfl 32 (by kernel_rfl) (by kernel_rfl) (l.take i) _ HO.out rfl (x) 0 _ rfl rfl (i + 1) HLT.out (by simp only [maxLen]; omega) (by omega) ?_; clear HM; intro p2_ c2_ Ao_ w_ hc2_ ho_ HM; (try simp only [List.cons_append, List.nil_append] at HM); go_simp)
          | (refine M.at_reg 7 ?_; refine Mq.region_m (id := 7) HM (by kernel_rfl) (by kernel_rfl) ?_; (repeat (any_goals (first | go_big_quiet_skip | (refine Sm.qat_indexAddr 39 rfl ?_; go_big_quiet_want; refine Sm.quiet_indexAddr_own 39 rfl 45 (by kernel_rfl) 4 (by kernel_rfl) g (off) (n) (c) rfl .i64 (i : Int) rfl (by omega) (by omega) (off + i * 4) (by omega) ?_; simp only [Act.put, List.setIfInBounds_toArray, List.set_cons_zero, List.set_cons_succ]; go_big_quiet_on) | (refine Ls.qat_bin .eql rfl ?_; go_big_quiet_want; refine Ls.quiet_eqR (T := K) rfl Za.eqK2 (e := x) (f := e) rfl rfl (b := false) (HB.out) ?_; simp only [Act.put, List.setIfInBounds_toArray, List.set_cons_zero, List.set_cons_succ]; go_big_quiet_on) | (refine Mq.qat_load 45 rfl ?_; go_big_quiet_want; first | (refine Sn.quiet_load_part 45 _ rfl 1 g (off + i * 4) 4 _ cur rfl rfl HOFF.out x.cells HG.out (by kernel_rfl) (by kernel_rfl) ?_; simp only [Act.put, List.setIfInBounds_toArray, List.set_cons_zero, List.set_cons_succ]; go_big_quiet_on) | (refine Mq.quiet_load_row 45 _ rfl 0 _ _ _ rfl rfl (by kernel_rfl) (by kernel_rfl) ?_; simp only [Act.put, List.setIfInBounds_toArray, List.set_cons_zero, List.set_cons_succ]; go_big_quiet_on) | (refine Mq.quiet_load_row 45 _ rfl 1 _ _ _ rfl rfl (by kernel_rfl) (by kernel_rfl) ?_; simp only [Act.put, List.setIfInBounds_toArray, List.set_cons_zero, List.set_cons_succ]; go_big_quiet_on)) | ((fail_if_success (refine Mq.qlit_t rfl ?_)); (fail_if_success (refine Mq.qlit_f rfl ?_)); refine Mq.qsplit rfl rfl ?_ ?_ <;> (intro hg_; simp only [hg_]; try simp only [M.hgs] at hg_)) | go_big_quiet_step (first | exact rfl)))); all_goals (refine Go.Proofs.Ytmmljeekonechaa.G.wpQuiet_end ?_; clear HM; intro w_ HM))
          | (refine M.at_mem rfl ?_; first | (refine M.at_load 45 rfl ?_; first | (refine M.load_part_m HM rfl 45 _ rfl 1 g (off + i * 4) 4 _ cur rfl rfl HOFF.out x.cells HG.out (by kernel_rfl) (by kernel_rfl) ?_; go_simp) | (refine M.load_row_m HM rfl 45 _ rfl 0 _ _ _ rfl rfl (by kernel_rfl) (by kernel_rfl) ?_; go_simp) | (refine M.load_row_m HM rfl 45 _ rfl 1 _ _ _ rfl rfl (by kernel_rfl) (by kernel_rfl) ?_; go_simp)) | (refine M.at_box 45 rfl ?_; first | (refine M.box_m HM rfl rfl 45 _ rfl _ rfl ?_; clear HM; intro g_ w_ HM; go_simp)) | ((fail_if_success (refine M.lit_t rfl ?_)); (fail_if_success (refine M.lit_f rfl ?_)); refine M.split_guard rfl rfl ?_ ?_ <;> (intro hg_; simp only [hg_]; try simp only [M.hgs] at hg_)))
          | (refine Mc.at_cmp _ rfl ?_; refine Mc.cmp_m rfl _ rfl _ _ _ rfl _ _ _ rfl rfl _ rfl ?_ ?_ <;> (intro hg_; try simp only [M.hgs] at hg_; first | (exfalso; first | omega | (simp at hg_; done)) | (go_simp)))
          | ((fail_if_success (refine M.lit_t rfl ?_)); (fail_if_success (refine M.lit_f rfl ?_)); refine M.split_guard rfl rfl ?_ ?_ <;> (intro hg_; simp only [hg_]; try simp only [M.hgs] at hg_)))
        all_goals
          go_roundw
          case rel => exact ⟨i + 1, _, Ao_, by omega, by first | rfl | (refine congrArg (fun z => Value.int .i64 z) ?_; omega), rfl, by rw [HTK.out, List.mem_append, List.mem_singleton]; exact fun h => h.elim HNO.out fun h => HXE.out h.symm, by rw [HTK.out]; exact ho_, HM.drop (A := [_])⟩
          case measure => first | (simp [intOf]; done) | (simp [intOf]; omega)
    · obtain rfl : i = n := by omega
      have htk : l.take i = l := List.take_of_length_le (by have := HN.out; omega)
      have hno := HNO.out; have ho := HO.out
      rw [htk] at hno ho
      clear HNO HO htk
      have hak : addK most l e = if (l.length : Int) + 1 ≤ most then l ++ [e] else (l ++ [e]).drop 1 := by unfold addK; rw [if_neg hno]
      have HN1 := Lib.hid (show l.length + 1 = i + 1 by rw [HN.out])
      have HO := Lib.hid ho; have HAK := Lib.hid hak; clear ho hno hak
      by_cases hm : (i : Int) + 1 ≤ most
      · skip
        go_wp2_with (first
          | (go_big_skip)
          | (refine Sl.at_bslice 39 rfl ?_; first | (refine Ls.bslice1_m HM rfl rfl 39 45 _ rfl (by kernel_rfl) (e.cells) rfl (by kernel_rfl) ?_; clear HM; intro gb_ w_ HM; go_simp))
          | (refine Sm.at_call_append rfl ?_; refine Lu.append_lr2_m (R := [_, _] ++ A) HM rfl rfl _ _ 39 45 rfl 32 (by kernel_rfl) (by kernel_rfl) l _ HO.out rfl (e) 0 _ rfl rfl (i + 1) HN1.out (by simp only [maxLen]; omega) (by omega) ?_; clear HM; intro p2_ c2_ Ao_ w_ hc2_ ho_ HM; (try simp only [List.cons_append, List.nil_append] at HM); go_simp)
          | (refine M.at_reg 7 ?_; refine Mq.region_m (id := 7) HM (by kernel_rfl) (by kernel_rfl) ?_; (repeat (any_goals (first | go_big_quiet_skip | (refine Mq.qat_load 45 rfl ?_; go_big_quiet_want; first | (refine Mq.quiet_load_row 45 _ rfl 0 _ _ _ rfl rfl (by kernel_rfl) (by kernel_rfl) ?_; simp only [Act.put, List.setIfInBounds_toArray, List.set_cons_zero, List.set_cons_succ]; go_big_quiet_on) | (refine Mq.quiet_load_row 45 _ rfl 1 _ _ _ rfl rfl (by kernel_rfl) (by kernel_rfl) ?_; simp only [Act.put, List.setIfInBounds_toArray, List.set_cons_zero, List.set_cons_succ]; go_big_quiet_on)) | ((fail_if_success (refine Mq.qlit_t rfl ?_)); (fail_if_success (refine Mq.qlit_f rfl ?_)); refine Mq.qsplit rfl rfl ?_ ?_ <;> (intro hg_; simp only [hg_]; try simp only [M.hgs] at hg_)) | go_big_quiet_step (first | exact rfl)))); all_goals (refine Go.Proofs.Ytmmljeekonechaa.G.wpQuiet_end ?_; clear HM; intro w_ HM))
          | (refine M.at_mem rfl ?_; first | (refine M.at_load 45 rfl ?_; first | (refine M.load_row_m HM rfl 45 _ rfl 0 _ _ _ rfl rfl (by kernel_rfl) (by kernel_rfl) ?_; go_simp) | (refine M.load_row_m HM rfl 45 _ rfl 1 _ _ _ rfl rfl (by kernel_rfl) (by kernel_rfl) ?_; go_simp)) | (refine M.at_box 45 rfl ?_; first | (refine M.box_m HM rfl rfl 45 _ rfl _ rfl ?_; clear HM; intro g_ w_ HM; go_simp)) | ((fail_if_success (refine M.lit_t rfl ?_)); (fail_if_success (refine M.lit_f rfl ?_)); refine M.split_guard rfl rfl ?_ ?_ <;> (intro hg_; simp only [hg_]; try simp only [M.hgs] at hg_)))
          | (refine Mc.at_cmp _ rfl ?_; refine Mc.cmp_m rfl _ rfl _ _ _ rfl _ _ _ rfl rfl _ rfl ?_ ?_ <;> (intro hg_; try simp only [M.hgs] at hg_; first | (exfalso; first | omega | (simp at hg_; done)) | (go_simp)))
          | ((fail_if_success (refine M.lit_t rfl ?_)); (fail_if_success (refine M.lit_f rfl ?_)); refine M.split_guard rfl rfl ?_ ?_ <;> (intro hg_; simp only [hg_]; try simp only [M.hgs] at hg_)))
        all_goals
          go_ret
          first | refine ⟨_, _, rfl, ?_, (HM.drop (A := [_, _] ++ A))⟩ | refine ⟨_, rfl, _, ?_, (HM.drop (A := [_, _] ++ A))⟩
          rw [HAK.out, if_pos (by rw [HN.out]; exact hm)]
          exact ho_
      · have hm2 : most < (i : Int) + 1 := by omega
        go_wp2_with (first
          | (go_big_skip)
          | (refine Sl.at_bslice 39 rfl ?_; first | (refine Ls.bslice1_m HM rfl rfl 39 45 _ rfl (by kernel_rfl) (e.cells) rfl (by kernel_rfl) ?_; clear HM; intro gb_ w_ HM; go_simp))
          | (refine Sm.at_call_append rfl ?_; refine Lu.append_lr2_m (R := [_, _] ++ A) HM rfl rfl _ _ 39 45 rfl 32 (by kernel_rfl) (by kernel_rfl) l _ HO.out rfl (e) 0 _ rfl rfl (i + 1) HN1.out (by simp only [maxLen]; omega) (by omega) ?_; clear HM; intro p2_ c2_ Ao_ w_ hc2_ ho_ HM; (try simp only [List.cons_append, List.nil_append] at HM); go_simp)
          | (refine Lt.at_slice 39 rfl ?_; refine Lt.slice_m rfl _ rfl 39 45 rfl (by kernel_rfl) 4 (by kernel_rfl) p2_ (i + 1) c2_ rfl 1 (i + 1) c2_ (Or.inl ⟨rfl, rfl⟩) (Or.inl ⟨rfl, rfl, rfl⟩) (Or.inr ⟨_, rfl, by omega⟩) (cutV c2_ 1 p2_ (i + 1)) rfl ?_; go_simp)
          | (refine M.at_reg 7 ?_; refine Mq.region_m (id := 7) HM (by kernel_rfl) (by kernel_rfl) ?_; (repeat (any_goals (first | go_big_quiet_skip | (refine Mq.qat_load 45 rfl ?_; go_big_quiet_want; first | (refine Mq.quiet_load_row 45 _ rfl 0 _ _ _ rfl rfl (by kernel_rfl) (by kernel_rfl) ?_; simp only [Act.put, List.setIfInBounds_toArray, List.set_cons_zero, List.set_cons_succ]; go_big_quiet_on) | (refine Mq.quiet_load_row 45 _ rfl 1 _ _ _ rfl rfl (by kernel_rfl) (by kernel_rfl) ?_; simp only [Act.put, List.setIfInBounds_toArray, List.set_cons_zero, List.set_cons_succ]; go_big_quiet_on)) | ((fail_if_success (refine Mq.qlit_t rfl ?_)); (fail_if_success (refine Mq.qlit_f rfl ?_)); refine Mq.qsplit rfl rfl ?_ ?_ <;> (intro hg_; simp only [hg_]; try simp only [M.hgs] at hg_)) | go_big_quiet_step (first | exact rfl)))); all_goals (refine Go.Proofs.Ytmmljeekonechaa.G.wpQuiet_end ?_; clear HM; intro w_ HM))
          | (refine M.at_mem rfl ?_; first | (refine M.at_load 45 rfl ?_; first | (refine M.load_row_m HM rfl 45 _ rfl 0 _ _ _ rfl rfl (by kernel_rfl) (by kernel_rfl) ?_; go_simp) | (refine M.load_row_m HM rfl 45 _ rfl 1 _ _ _ rfl rfl (by kernel_rfl) (by kernel_rfl) ?_; go_simp)) | (refine M.at_box 45 rfl ?_; first | (refine M.box_m HM rfl rfl 45 _ rfl _ rfl ?_; clear HM; intro g_ w_ HM; go_simp)) | ((fail_if_success (refine M.lit_t rfl ?_)); (fail_if_success (refine M.lit_f rfl ?_)); refine M.split_guard rfl rfl ?_ ?_ <;> (intro hg_; simp only [hg_]; try simp only [M.hgs] at hg_)))
          | (refine Mc.at_cmp _ rfl ?_; refine Mc.cmp_m rfl _ rfl _ _ _ rfl _ _ _ rfl rfl _ rfl ?_ ?_ <;> (intro hg_; try simp only [M.hgs] at hg_; first | (exfalso; first | omega | (simp at hg_; done)) | (go_simp)))
          | ((fail_if_success (refine M.lit_t rfl ?_)); (fail_if_success (refine M.lit_f rfl ?_)); refine M.split_guard rfl rfl ?_ ?_ <;> (intro hg_; simp only [hg_]; try simp only [M.hgs] at hg_)))
        all_goals
          go_ret
          first | refine ⟨_, _, rfl, ?_, (HM.drop (A := [_, _] ++ A))⟩ | refine ⟨_, rfl, _, ?_, (HM.drop (A := [_, _] ++ A))⟩
          rw [HAK.out, if_neg (by rw [HN.out]; omega)]
          exact cut_rest (i := 1) ho_ (by rw [List.length_append, List.length_singleton, HN.out]) (by omega)
set_option maxHeartbeats 4000000 in
theorem rflush_va {l : List K} {v : Value} {A : Hp} (hA : LR 45 l v A) (hok : ∀ k ∈ l, rightK k = true) (h1 : l.length ≤ 1000) (asid va : Int) (v0 : 0 ≤ va) (v1 : va < 18446744073709551616) : Does Try.prog 31 #[v, .int .i64 asid, .bool true, .int .u64 va] A (RL (l.filter (fun e : K => !leadsK e asid va))) := by
  obtain ⟨p, c, rfl, hc, hV⟩ := hA.read
  generalize hn : l.length = n at hA h1 hc
  have HV := Lib.hid hV; have HN := Lib.hid hn; have HOK := Lib.hid hok
  clear hA hV hn hok
  have hn1 : (n : Int) ≤ 1000 := by omega
  generalize hq : (fun e : K => !leadsK e asid va) = q
  have hqe : ∀ x : K, q x = (!leadsK x asid va) := fun x => by rw [← hq]
  have HQ := Lib.hid hqe
  clear hq hqe
  intro w hH
  have HM := Mem.start hH
  go_enter Try.func31, Try.ntmps31
  go_wp2_with (first
    | (go_big_skip)
    | (refine M.at_mem rfl ?_; first | (refine M.at_load 3 rfl ?_; first | (refine M.load_cell_m HM rfl 3 _ rfl 0 _ _ _ _ _ rfl rfl rfl (by kernel_rfl) (by kernel_rfl) ?_; go_simp)) | (refine M.at_load 45 rfl ?_; first | (refine M.load_row_m HM rfl 45 _ rfl 0 _ _ _ rfl rfl (by kernel_rfl) (by kernel_rfl) ?_; go_simp)) | ((fail_if_success (refine M.lit_t rfl ?_)); (fail_if_success (refine M.lit_f rfl ?_)); refine M.split_guard rfl rfl ?_ ?_ <;> (intro hg_; simp only [hg_]; try simp only [M.hgs] at hg_)))
    | (refine Mc.at_cmp _ rfl ?_; refine Mc.cmp_m rfl _ rfl _ _ _ rfl _ _ _ rfl rfl _ rfl ?_ ?_ <;> (intro hg_; try simp only [M.hgs] at hg_; first | (exfalso; first | omega | (simp at hg_; done)) | (go_simp)))
    | ((fail_if_success (refine M.lit_t rfl ?_)); (fail_if_success (refine M.lit_f rfl ?_)); refine M.split_guard rfl rfl ?_ ?_ <;> (intro hg_; simp only [hg_]; try simp only [M.hgs] at hg_)))
  go_loopw [9, 10] (fun ov iv wr => ∃ (i : Nat) (vo : Value) (Ao : Hp), i ≤ n ∧ iv = .int .i64 i ∧ ov = vo ∧ LR 45 ((l.take i).filter q) vo Ao ∧ Mem w _ (A ++ Ao) wr) (fun _ iv _ => n - (intOf iv).toNat)
  case atStart => exact ⟨0, _, [], by omega, rfl, rfl, LR.nil _, by simpa using HM⟩
  case round =>
    clear HM
    obtain ⟨i, vo, Ao, iR, rfl, rfl, ho, HM⟩ := hrel
    by_cases hlt : i < n
    · obtain ⟨x, hx⟩ : ∃ x, l[i]? = some x := ⟨_, List.getElem?_eq_getElem (by have := HN.out; omega)⟩
      have hfy := filter_yes (q := q) hx
      have hfn := filter_no (q := q) hx
      have hfl := filter_len q l i
      rcases HV.out with ⟨-, hl, -⟩ | ⟨g, off, cur, rfl, hR, rfl⟩
      · rw [hl] at hx; simp at hx
      have hg := hR.get hx
      have hsz := hR.fit (List.getElem?_eq_some_iff.1 hx).1
      have hac := Row.cell hR hx (j := 0) (v := .int .i64 x.asid) rfl
      have hrx := rightK_level (HOK.out x (List.mem_of_getElem? hx))
      have CL := fun w => rleads_any x asid va v0 v1 hrx.2.2.1 hrx.2.2.2 w
      have hi1 : (i : Int) < n := by omega
      have HFY := Lib.hid hfy; have HFN := Lib.hid hfn; have HG := Lib.hid (show _ = x.cells from hg); have HOFF := Lib.hid hsz; have HAC := Lib.hid hac
      clear hfy hfn hR hx hg hsz hac hrx
      simp only [List.cons_append, List.nil_append] at HM
      have HO := Lib.hid ho; clear ho
      have hqx := HQ.out x
      generalize (l.take i).filter q = lo at HO HFY HFN hfl
      rcases Bool.eq_false_or_eq_true (leadsK x asid va) with hz | hz
      · have hqf : q x = false := by rw [hqx, hz]; rfl
        have HQX := Lib.hid hqf; clear hqf hqx
        rw [hz] at CL; clear hz
        go_wp2_with (first
          | (go_big_skip)
          | (refine Sl.at_indexAddr 39 rfl ?_; refine Sl.indexAddr_m rfl _ rfl 39 rfl 45 (by kernel_rfl) 4 (by kernel_rfl) g (off) (n) (c) rfl .i64 (i : Int) rfl (by omega) (by omega) (off + i * 4) (by omega) ?_; go_simp)
          | (go_at_call 45; (with_reducible refine (M.call_pure (CL) HM).mono ?_); clear HM; rintro e w_ ⟨rfl, HM⟩; dsimp only)
          | (refine M.at_mem rfl ?_; first | (refine M.at_load 3 rfl ?_; first | (refine M.load_part_m HM rfl 45 _ rfl 1 g (off + i * 4) 4 _ cur rfl rfl HOFF.out x.cells HG.out (by kernel_rfl) (by kernel_rfl) ?_; go_simp) | (refine M.load_cell_m HM rfl 3 _ rfl 0 g (off + i * 4) _ cur (.int .i64 x.asid) rfl rfl HAC.out (by kernel_rfl) (by kernel_rfl) ?_; go_simp) | (refine M.load_part_m HM rfl 45 _ rfl 0 g (off + i * 4) 4 _ cur rfl rfl HOFF.out x.cells HG.out (by kernel_rfl) (by kernel_rfl) ?_; go_simp) | (refine M.load_cell_m HM rfl 3 _ rfl 0 _ _ _ _ _ rfl rfl rfl (by kernel_rfl) (by kernel_rfl) ?_; go_simp) | (refine M.load_cell_m HM rfl 3 _ rfl 1 _ _ _ _ _ rfl rfl rfl (by kernel_rfl) (by kernel_rfl) ?_; go_simp)) | (refine M.at_load 45 rfl ?_; first | (refine M.load_part_m HM rfl 45 _ rfl 1 g (off + i * 4) 4 _ cur rfl rfl HOFF.out x.cells HG.out (by kernel_rfl) (by kernel_rfl) ?_; go_simp) | (refine M.load_cell_m HM rfl 3 _ rfl 0 g (off + i * 4) _ cur (.int .i64 x.asid) rfl rfl HAC.out (by kernel_rfl) (by kernel_rfl) ?_; go_simp) | (refine M.load_part_m HM rfl 45 _ rfl 0 g (off + i * 4) 4 _ cur rfl rfl HOFF.out x.cells HG.out (by kernel_rfl) (by kernel_rfl) ?_; go_simp) | (refine M.load_row_m HM rfl 45 _ rfl 0 _ _ _ rfl rfl (by kernel_rfl) (by kernel_rfl) ?_; go_simp) | (refine M.load_row_m HM rfl 45 _ rfl 1 _ _ _ rfl rfl (by kernel_rfl) (by kernel_rfl) ?_; go_simp)) | ((fail_if_success (refine M.lit_t rfl ?_)); (fail_if_success (refine M.lit_f rfl ?_)); refine M.split_guard rfl rfl ?_ ?_ <;> (intro hg_; simp only [hg_]; try simp only [M.hgs] at hg_)))
          | (refine Mc.at_cmp _ rfl ?_; refine Mc.cmp_m rfl _ rfl _ _ _ rfl _ _ _ rfl rfl _ rfl ?_ ?_ <;> (intro hg_; try simp only [M.hgs] at hg_; first | (exfalso; first | omega | (simp at hg_; done)) | (go_simp)))
          | ((fail_if_success (refine M.lit_t rfl ?_)); (fail_if_success (refine M.lit_f rfl ?_)); refine M.split_guard rfl rfl ?_ ?_ <;> (intro hg_; simp only [hg_]; try simp only [M.hgs] at hg_)))
        all_goals
          go_roundw
          case rel => exact ⟨i + 1, _, Ao, by omega, by first | rfl | (refine congrArg (fun z => Value.int .i64 z) ?_; omega), rfl, by rw [HFN.out HQX.out]; exact HO.out, HM⟩
          case measure => first | (simp [intOf]; done) | (simp [intOf]; omega)
      · have hqf : q x = true := by rw [hqx, hz]; rfl
        have HQX := Lib.hid hqf; clear hqf hqx
        rw [hz] at CL; clear hz
        go_wp2_with (first
          | (go_big_skip)
          | (refine Sl.at_indexAddr 39 rfl ?_; refine Sl.indexAddr_m rfl _ rfl 39 rfl 45 (by kernel_rfl) 4 (by kernel_rfl) g (off) (n) (c) rfl .i64 (i : Int) rfl (by omega) (by omega) (off + i * 4) (by omega) ?_; go_simp)
          | (refine Sl.at_bslice 39 rfl ?_; first | (refine Ls.bslice1_m HM rfl rfl 39 45 _ rfl (by kernel_rfl) (x.cells) rfl (by kernel_rfl) ?_; clear HM; intro gb_ w_ HM; go_simp))
          | (refine Sm.at_call_append rfl ?_; first | (refine Ls.append_lr_m (R := [_]) HM rfl rfl _ _ 39 45 rfl 32 (by kernel_rfl) (by kernel_rfl) _ _ HO.out rfl (x) 0 _ rfl rfl (by (try simp only [maxLen, List.length_append, List.length_cons, List.length_nil]); omega) (by (try simp only [List.length_append, List.length_cons, List.length_nil]); omega) ?_; clear HM HO; intro vo_ Ao_ w_ ho_ HM; have HO := Lib.hid ho_; clear ho_; (try simp only [List.cons_append, List.nil_append] at HM); go_simp) | (refine Ls.append_lr_m (R := [_, _]) HM rfl rfl _ _ 39 45 rfl 32 (by kernel_rfl) (by kernel_rfl) _ _ HO.out rfl (x) 0 _ rfl rfl (by (try simp only [maxLen, List.length_append, List.length_cons, List.length_nil]); omega) (by (try simp only [List.length_append, List.length_cons, List.length_nil]); omega) ?_; clear HM HO; intro vo_ Ao_ w_ ho_ HM; have HO := Lib.hid ho_; clear ho_; (try simp only [List.cons_append, List.nil_append] at HM); go_simp) | (refine Ls.append_lr_m (R := [_, _, _]) HM rfl rfl _ _ 39 45 rfl 32 (by kernel_rfl) (by kernel_rfl) _ _ HO.out rfl (x) 0 _ rfl rfl (by (try simp only [maxLen, List.length_append, List.length_cons, List.length_nil]); omega) (by (try simp only [List.length_append, List.length_cons, List.length_nil]); omega) ?_; clear HM HO; intro vo_ Ao_ w_ ho_ HM; have HO := Lib.hid ho_; clear ho_; (try simp only [List.cons_append, List.nil_append] at HM); go_simp) | (refine Ls.append_lr_m (R := [_, _, _, _]) HM rfl rfl _ _ 39 45 rfl 32 (by kernel_rfl) (by kernel_rfl) _ _ HO.out rfl (x) 0 _ rfl rfl (by (try simp only [maxLen, List.length_append, List.length_cons, List.length_nil]); omega) (by (try simp only [List.length_append, List.length_cons, List.length_nil]); omega) ?_; clear HM HO; intro vo_ Ao_ w_ ho_ HM; have HO := Lib.hid ho_; clear ho_; (try simp only [List.cons_append, List.nil_append] at HM); go_simp) | (refine Ls.append_lr_m (R := [_, _, _, _, _]) HM rfl rfl _ _ 39 45 rfl 32 (by kernel_rfl) (by kernel_rfl) _ _ HO.out rfl (x) 0 _ rfl rfl (by (try simp only [maxLen, List.length_append, List.length_cons, List.length_nil]); omega) (by (try simp only [List.length_append, List.length_cons, List.length_nil]); omega) ?_; clear HM HO; intro vo_ Ao_ w_ ho_ HM; have HO := Lib.hid ho_; clear ho_; (try simp only [List.cons_append, List.nil_append] at HM); go_simp) | (refine Ls.append_lr_m (R := [_, _, _, _, _, _]) HM rfl rfl _ _ 39 45 rfl 32 (by kernel_rfl) (by kernel_rfl) _ _ HO.out rfl (x) 0 _ rfl rfl (by (try simp only [maxLen, List.length_append, List.length_cons, List.length_nil]); omega) (by (try simp only [List.length_append, List.length_cons, List.length_nil]); omega) ?_; clear HM HO; intro vo_ Ao_ w_ ho_ HM; have HO := Lib.hid ho_; clear ho_; (try simp only [List.cons_append, List.nil_append] at HM); go_simp) | (refine Ls.append_lr_m (R := [_, _, _, _, _, _, _]) HM rfl rfl _ _ 39 45 rfl 32 (by kernel_rfl) (by kernel_rfl) _ _ HO.out rfl (x) 0 _ rfl rfl (by (try simp only [maxLen, List.length_append, List.length_cons, List.length_nil]); omega) (by (try simp only [List.length_append, List.length_cons, List.length_nil]); omega) ?_; clear HM HO; intro vo_ Ao_ w_ ho_ HM; have HO := Lib.hid ho_; clear ho_; (try simp only [List.cons_append, List.nil_append] at HM); go_simp) | (refine Ls.append_lr_m (R := [_, _, _, _, _, _, _, _]) HM rfl rfl _ _ 39 45 rfl 32 (by kernel_rfl) (by kernel_rfl) _ _ HO.out rfl (x) 0 _ rfl rfl (by (try simp only [maxLen, List.length_append, List.length_cons, List.length_nil]); omega) (by (try simp only [List.length_append, List.length_cons, List.length_nil]); omega) ?_; clear HM HO; intro vo_ Ao_ w_ ho_ HM; have HO := Lib.hid ho_; clear ho_; (try simp only [List.cons_append, List.nil_append] at HM); go_simp))
          | (go_at_call 45; (with_reducible refine (M.call_pure (CL) HM).mono ?_); clear HM; rintro e w_ ⟨rfl, HM⟩; dsimp only)
          | (refine M.at_mem rfl ?_; first | (refine M.at_load 3 rfl ?_; first | (refine M.load_part_m HM rfl 45 _ rfl 1 g (off + i * 4) 4 _ cur rfl rfl HOFF.out x.cells HG.out (by kernel_rfl) (by kernel_rfl) ?_; go_simp) | (refine M.load_cell_m HM rfl 3 _ rfl 0 g (off + i * 4) _ cur (.int .i64 x.asid) rfl rfl HAC.out (by kernel_rfl) (by kernel_rfl) ?_; go_simp) | (refine M.load_part_m HM rfl 45 _ rfl 0 g (off + i * 4) 4 _ cur rfl rfl HOFF.out x.cells HG.out (by kernel_rfl) (by kernel_rfl) ?_; go_simp) | (refine M.load_cell_m HM rfl 3 _ rfl 0 _ _ _ _ _ rfl rfl rfl (by kernel_rfl) (by kernel_rfl) ?_; go_simp) | (refine M.load_cell_m HM rfl 3 _ rfl 1 _ _ _ _ _ rfl rfl rfl (by kernel_rfl) (by kernel_rfl) ?_; go_simp)) | (refine M.at_load 45 rfl ?_; first | (refine M.load_part_m HM rfl 45 _ rfl 1 g (off + i * 4) 4 _ cur rfl rfl HOFF.out x.cells HG.out (by kernel_rfl) (by kernel_rfl) ?_; go_simp) | (refine M.load_cell_m HM rfl 3 _ rfl 0 g (off + i * 4) _ cur (.int .i64 x.asid) rfl rfl HAC.out (by kernel_rfl) (by kernel_rfl) ?_; go_simp) | (refine M.load_part_m HM rfl 45 _ rfl 0 g (off + i * 4) 4 _ cur rfl rfl HOFF.out x.cells HG.out (by kernel_rfl) (by kernel_rfl) ?_; go_simp) | (refine M.load_row_m HM rfl 45 _ rfl 0 _ _ _ rfl rfl (by kernel_rfl) (by kernel_rfl) ?_; go_simp) | (refine M.load_row_m HM rfl 45 _ rfl 1 _ _ _ rfl rfl (by kernel_rfl) (by kernel_rfl) ?_; go_simp)) | ((fail_if_success (refine M.lit_t rfl ?_)); (fail_if_success (refine M.lit_f rfl ?_)); refine M.split_guard rfl rfl ?_ ?_ <;> (intro hg_; simp only [hg_]; try simp only [M.hgs] at hg_)))
          | (refine Mc.at_cmp _ rfl ?_; refine Mc.cmp_m rfl _ rfl _ _ _ rfl _ _ _ rfl rfl _ rfl ?_ ?_ <;> (intro hg_; try simp only [M.hgs] at hg_; first | (exfalso; first | omega | (simp at hg_; done)) | (go_simp)))
          | ((fail_if_success (refine M.lit_t rfl ?_)); (fail_if_success (refine M.lit_f rfl ?_)); refine M.split_guard rfl rfl ?_ ?_ <;> (intro hg_; simp only [hg_]; try simp only [M.hgs] at hg_)))
        all_goals
          go_roundw
          case rel => exact ⟨i + 1, _, Ao_, by omega, by first | rfl | (refine congrArg (fun z => Value.int .i64 z) ?_; omega), rfl, by rw [HFY.out HQX.out]; exact HO.out, HM.drop (A := [_])⟩
          case measure => first | (simp [intOf]; done) | (simp [intOf]; omega)
    · obtain rfl : i = n := by omega
      rw [List.take_of_length_le (by have := HN.out; omega)] at ho
      have HO := Lib.hid ho; clear ho
      go_wp2_with (first
        | (go_big_skip)
        | (refine M.at_mem rfl ?_; first | (refine M.at_load 3 rfl ?_; first | (refine M.load_cell_m HM rfl 3 _ rfl 0 _ _ _ _ _ rfl rfl rfl (by kernel_rfl) (by kernel_rfl) ?_; go_simp)) | (refine M.at_load 45 rfl ?_; first | (refine M.load_row_m HM rfl 45 _ rfl 0 _ _ _ rfl rfl (by kernel_rfl) (by kernel_rfl) ?_; go_simp)) | ((fail_if_success (refine M.lit_t rfl ?_)); (fail_if_success (refine M.lit_f rfl ?_)); refine M.split_guard rfl rfl ?_ ?_ <;> (intro hg_; simp only [hg_]; try simp only [M.hgs] at hg_)))
        | (refine Mc.at_cmp _ rfl ?_; refine Mc.cmp_m rfl _ rfl _ _ _ rfl _ _ _ rfl rfl _ rfl ?_ ?_ <;> (intro hg_; try simp only [M.hgs] at hg_; first | (exfalso; first | omega | (simp at hg_; done)) | (go_simp)))
        | ((fail_if_success (refine M.lit_t rfl ?_)); (fail_if_success (refine M.lit_f rfl ?_)); refine M.split_guard rfl rfl ?_ ?_ <;> (intro hg_; simp only [hg_]; try simp only [M.hgs] at hg_)))
      all_goals
        go_ret
        exact ⟨_, _, rfl, HO.out, HM.drop (A := A)⟩
set_option maxHeartbeats 4000000 in
theorem rflush_as {l : List K} {v : Value} {A : Hp} (hA : LR 45 l v A) (hok : ∀ k ∈ l, rightK k = true) (h1 : l.length ≤ 1000) (asid : Int) (a0 : 0 ≤ asid) : Does Try.prog 31 #[v, .int .i64 asid, .bool false, .int .u64 0] A (RL (l.filter (fun e : K => !decide (e.asid = asid)))) := by
  obtain ⟨p, c, rfl, hc, hV⟩ := hA.read
  generalize hn : l.length = n at hA h1 hc
  have HV := Lib.hid hV; have HN := Lib.hid hn; have HOK := Lib.hid hok
  clear hA hV hn hok
  have hn1 : (n : Int) ≤ 1000 := by omega
  generalize hq : (fun e : K => !decide (e.asid = asid)) = q
  have hqe : ∀ x : K, q x = (!decide (x.asid = asid)) := fun x => by rw [← hq]
  have HQ := Lib.hid hqe
  clear hq hqe
  intro w hH
  have HM := Mem.start hH
  go_enter Try.func31, Try.ntmps31
  go_wp2_with (first
    | (go_big_skip)
    | (refine M.at_mem rfl ?_; first | (refine M.at_load 3 rfl ?_; first | (refine M.load_cell_m HM rfl 3 _ rfl 0 _ _ _ _ _ rfl rfl rfl (by kernel_rfl) (by kernel_rfl) ?_; go_simp)) | (refine M.at_load 45 rfl ?_; first | (refine M.load_row_m HM rfl 45 _ rfl 0 _ _ _ rfl rfl (by kernel_rfl) (by kernel_rfl) ?_; go_simp)) | ((fail_if_success (refine M.lit_t rfl ?_)); (fail_if_success (refine M.lit_f rfl ?_)); refine M.split_guard rfl rfl ?_ ?_ <;> (intro hg_; simp only [hg_]; try simp only [M.hgs] at hg_)))
    | (refine Mc.at_cmp _ rfl ?_; refine Mc.cmp_m rfl _ rfl _ _ _ rfl _ _ _ rfl rfl _ rfl ?_ ?_ <;> (intro hg_; try simp only [M.hgs] at hg_; first | (exfalso; first | omega | (simp at hg_; done)) | (go_simp)))
    | ((fail_if_success (refine M.lit_t rfl ?_)); (fail_if_success (refine M.lit_f rfl ?_)); refine M.split_guard rfl rfl ?_ ?_ <;> (intro hg_; simp only [hg_]; try simp only [M.hgs] at hg_)))
  go_loopw [9, 10] (fun ov iv wr => ∃ (i : Nat) (vo : Value) (Ao : Hp), i ≤ n ∧ iv = .int .i64 i ∧ ov = vo ∧ LR 45 ((l.take i).filter q) vo Ao ∧ Mem w _ (A ++ Ao) wr) (fun _ iv _ => n - (intOf iv).toNat)
  case atStart => exact ⟨0, _, [], by omega, rfl, rfl, LR.nil _, by simpa using HM⟩
  case round =>
    clear HM
    obtain ⟨i, vo, Ao, iR, rfl, rfl, ho, HM⟩ := hrel
    by_cases hlt : i < n
    · obtain ⟨x, hx⟩ : ∃ x, l[i]? = some x := ⟨_, List.getElem?_eq_getElem (by have := HN.out; omega)⟩
      have hfy := filter_yes (q := q) hx
      have hfn := filter_no (q := q) hx
      have hfl := filter_len q l i
      rcases HV.out with ⟨-, hl, -⟩ | ⟨g, off, cur, rfl, hR, rfl⟩
      · rw [hl] at hx; simp at hx
      have hg := hR.get hx
      have hsz := hR.fit (List.getElem?_eq_some_iff.1 hx).1
      have hac := Row.cell hR hx (j := 0) (v := .int .i64 x.asid) rfl
      have hrx := rightK_level (HOK.out x (List.mem_of_getElem? hx))
      have hi1 : (i : Int) < n := by omega
      have HFY := Lib.hid hfy; have HFN := Lib.hid hfn; have HG := Lib.hid (show _ = x.cells from hg); have HOFF := Lib.hid hsz; have HAC := Lib.hid hac
      clear hfy hfn hR hx hg hsz hac hrx
      simp only [List.cons_append, List.nil_append] at HM
      have HO := Lib.hid ho; clear ho
      have hqx := HQ.out x
      generalize (l.take i).filter q = lo at HO HFY HFN hfl
      rcases Bool.eq_false_or_eq_true (decide (x.asid = asid)) with hz | hz
      · have hqf : q x = false := by rw [hqx, hz]; rfl
        have HQX := Lib.hid hqf; clear hqf hqx
        simp only [decide_eq_true_eq, decide_eq_false_iff_not] at hz
        go_wp2_with (first
          | (go_big_skip)
          | (refine Sl.at_indexAddr 39 rfl ?_; refine Sl.indexAddr_m rfl _ rfl 39 rfl 45 (by kernel_rfl) 4 (by kernel_rfl) g (off) (n) (c) rfl .i64 (i : Int) rfl (by omega) (by omega) (off + i * 4) (by omega) ?_; go_simp)
          | (refine M.at_mem rfl ?_; first | (refine M.at_load 3 rfl ?_; first | (refine M.load_part_m HM rfl 45 _ rfl 1 g (off + i * 4) 4 _ cur rfl rfl HOFF.out x.cells HG.out (by kernel_rfl) (by kernel_rfl) ?_; go_simp) | (refine M.load_cell_m HM rfl 3 _ rfl 0 g (off + i * 4) _ cur (.int .i64 x.asid) rfl rfl HAC.out (by kernel_rfl) (by kernel_rfl) ?_; go_simp) | (refine M.load_part_m HM rfl 45 _ rfl 0 g (off + i * 4) 4 _ cur rfl rfl HOFF.out x.cells HG.out (by kernel_rfl) (by kernel_rfl) ?_; go_simp) | (refine M.load_cell_m HM rfl 3 _ rfl 0 _ _ _ _ _ rfl rfl rfl (by kernel_rfl) (by kernel_rfl) ?_; go_simp) | (refine M.load_cell_m HM rfl 3 _ rfl 1 _ _ _ _ _ rfl rfl rfl (by kernel_rfl) (by kernel_rfl) ?_; go_simp)) | (refine M.at_load 45 rfl ?_; first | (refine M.load_part_m HM rfl 45 _ rfl 1 g (off + i * 4) 4 _ cur rfl rfl HOFF.out x.cells HG.out (by kernel_rfl) (by kernel_rfl) ?_; go_simp) | (refine M.load_cell_m HM rfl 3 _ rfl 0 g (off + i * 4) _ cur (.int .i64 x.asid) rfl rfl HAC.out (by kernel_rfl) (by kernel_rfl) ?_; go_simp) | (refine M.load_part_m HM rfl 45 _ rfl 0 g (off + i * 4) 4 _ cur rfl rfl HOFF.out x.cells HG.out (by kernel_rfl) (by kernel_rfl) ?_; go_simp) | (refine M.load_row_m HM rfl 45 _ rfl 0 _ _ _ rfl rfl (by kernel_rfl) (by kernel_rfl) ?_; go_simp) | (refine M.load_row_m HM rfl 45 _ rfl 1 _ _ _ rfl rfl (by kernel_rfl) (by kernel_rfl) ?_; go_simp)) | ((fail_if_success (refine M.lit_t rfl ?_)); (fail_if_success (refine M.lit_f rfl ?_)); refine M.split_guard rfl rfl ?_ ?_ <;> (intro hg_; simp only [hg_]; try simp only [M.hgs] at hg_)))
          | (refine Mc.at_cmp _ rfl ?_; refine Mc.cmp_m rfl _ rfl _ _ _ rfl _ _ _ rfl rfl _ rfl ?_ ?_ <;> (intro hg_; try simp only [M.hgs] at hg_; first | (exfalso; first | omega | (simp at hg_; done)) | (go_simp)))
          | ((fail_if_success (refine M.lit_t rfl ?_)); (fail_if_success (refine M.lit_f rfl ?_)); refine M.split_guard rfl rfl ?_ ?_ <;> (intro hg_; simp only [hg_]; try simp only [M.hgs] at hg_)))
        all_goals
          go_roundw
          case rel => exact ⟨i + 1, _, Ao, by omega, by first | rfl | (refine congrArg (fun z => Value.int .i64 z) ?_; omega), rfl, by rw [HFN.out HQX.out]; exact HO.out, HM⟩
          case measure => first | (simp [intOf]; done) | (simp [intOf]; omega)
      · have hqf : q x = true := by rw [hqx, hz]; rfl
        have HQX := Lib.hid hqf; clear hqf hqx
        simp only [decide_eq_true_eq, decide_eq_false_iff_not] at hz
        go_wp2_with (first
          | (go_big_skip)
          | (refine Sl.at_indexAddr 39 rfl ?_; refine Sl.indexAddr_m rfl _ rfl 39 rfl 45 (by kernel_rfl) 4 (by kernel_rfl) g (off) (n) (c) rfl .i64 (i : Int) rfl (by omega) (by omega) (off + i * 4) (by omega) ?_; go_simp)
          | (refine Sl.at_bslice 39 rfl ?_; first | (refine Ls.bslice1_m HM rfl rfl 39 45 _ rfl (by kernel_rfl) (x.cells) rfl (by kernel_rfl) ?_; clear HM; intro gb_ w_ HM; go_simp))
          | (refine Sm.at_call_append rfl ?_; first | (refine Ls.append_lr_m (R := [_]) HM rfl rfl _ _ 39 45 rfl 32 (by kernel_rfl) (by kernel_rfl) _ _ HO.out rfl (x) 0 _ rfl rfl (by (try simp only [maxLen, List.length_append, List.length_cons, List.length_nil]); omega) (by (try simp only [List.length_append, List.length_cons, List.length_nil]); omega) ?_; clear HM HO; intro vo_ Ao_ w_ ho_ HM; have HO := Lib.hid ho_; clear ho_; (try simp only [List.cons_append, List.nil_append] at HM); go_simp) | (refine Ls.append_lr_m (R := [_, _]) HM rfl rfl _ _ 39 45 rfl 32 (by kernel_rfl) (by kernel_rfl) _ _ HO.out rfl (x) 0 _ rfl rfl (by (try simp only [maxLen, List.length_append, List.length_cons, List.length_nil]); omega) (by (try simp only [List.length_append, List.length_cons, List.length_nil]); omega) ?_; clear HM HO; intro vo_ Ao_ w_ ho_ HM; have HO := Lib.hid ho_; clear ho_; (try simp only [List.cons_append, List.nil_append] at HM); go_simp) | (refine Ls.append_lr_m (R := [_, _, _]) HM rfl rfl _ _ 39 45 rfl 32 (by kernel_rfl) (by kernel_rfl) _ _ HO.out rfl (x) 0 _ rfl rfl (by (try simp only [maxLen, List.length_append, List.length_cons, List.length_nil]); omega) (by (try simp only [List.length_append, List.length_cons, List.length_nil]); omega) ?_; clear HM HO; intro vo_ Ao_ w_ ho_ HM; have HO := Lib.hid ho_; clear ho_; (try simp only [List.cons_append, List.nil_append] at HM); go_simp) | (refine Ls.append_lr_m (R := [_, _, _, _]) HM rfl rfl _ _ 39 45 rfl 32 (by kernel_rfl) (by kernel_rfl) _ _ HO.out rfl (x) 0 _ rfl rfl (by (try simp only [maxLen, List.length_append, List.length_cons, List.length_nil]); omega) (by (try simp only [List.length_append, List.length_cons, List.length_nil]); omega) ?_; clear HM HO; intro vo_ Ao_ w_ ho_ HM; have HO := Lib.hid ho_; clear ho_; (try simp only [List.cons_append, List.nil_append] at HM); go_simp) | (refine Ls.append_lr_m (R := [_, _, _, _, _]) HM rfl rfl _ _ 39 45 rfl 32 (by kernel_rfl) (by kernel_rfl) _ _ HO.out rfl (x) 0 _ rfl rfl (by (try simp only [maxLen, List.length_append, List.length_cons, List.length_nil]); omega) (by (try simp only [List.length_append, List.length_cons, List.length_nil]); omega) ?_; clear HM HO; intro vo_ Ao_ w_ ho_ HM; have HO := Lib.hid ho_; clear ho_; (try simp only [List.cons_append, List.nil_append] at HM); go_simp) | (refine Ls.append_lr_m (R := [_, _, _, _, _, _]) HM rfl rfl _ _ 39 45 rfl 32 (by kernel_rfl) (by kernel_rfl) _ _ HO.out rfl (x) 0 _ rfl rfl (by (try simp only [maxLen, List.length_append, List.length_cons, List.length_nil]); omega) (by (try simp only [List.length_append, List.length_cons, List.length_nil]); omega) ?_; clear HM HO; intro vo_ Ao_ w_ ho_ HM; have HO := Lib.hid ho_; clear ho_; (try simp only [List.cons_append, List.nil_append] at HM); go_simp) | (refine Ls.append_lr_m (R := [_, _, _, _, _, _, _]) HM rfl rfl _ _ 39 45 rfl 32 (by kernel_rfl) (by kernel_rfl) _ _ HO.out rfl (x) 0 _ rfl rfl (by (try simp only [maxLen, List.length_append, List.length_cons, List.length_nil]); omega) (by (try simp only [List.length_append, List.length_cons, List.length_nil]); omega) ?_; clear HM HO; intro vo_ Ao_ w_ ho_ HM; have HO := Lib.hid ho_; clear ho_; (try simp only [List.cons_append, List.nil_append] at HM); go_simp) | (refine Ls.append_lr_m (R := [_, _, _, _, _, _, _, _]) HM rfl rfl _ _ 39 45 rfl 32 (by kernel_rfl) (by kernel_rfl) _ _ HO.out rfl (x) 0 _ rfl rfl (by (try simp only [maxLen, List.length_append, List.length_cons, List.length_nil]); omega) (by (try simp only [List.length_append, List.length_cons, List.length_nil]); omega) ?_; clear HM HO; intro vo_ Ao_ w_ ho_ HM; have HO := Lib.hid ho_; clear ho_; (try simp only [List.cons_append, List.nil_append] at HM); go_simp))
          | (refine M.at_mem rfl ?_; first | (refine M.at_load 3 rfl ?_; first | (refine M.load_part_m HM rfl 45 _ rfl 1 g (off + i * 4) 4 _ cur rfl rfl HOFF.out x.cells HG.out (by kernel_rfl) (by kernel_rfl) ?_; go_simp) | (refine M.load_cell_m HM rfl 3 _ rfl 0 g (off + i * 4) _ cur (.int .i64 x.asid) rfl rfl HAC.out (by kernel_rfl) (by kernel_rfl) ?_; go_simp) | (refine M.load_part_m HM rfl 45 _ rfl 0 g (off + i * 4) 4 _ cur rfl rfl HOFF.out x.cells HG.out (by kernel_rfl) (by kernel_rfl) ?_; go_simp) | (refine M.load_cell_m HM rfl 3 _ rfl 0 _ _ _ _ _ rfl rfl rfl (by kernel_rfl) (by kernel_rfl) ?_; go_simp) | (refine M.load_cell_m HM rfl 3 _ rfl 1 _ _ _ _ _ rfl rfl rfl (by kernel_rfl) (by kernel_rfl) ?_; go_simp)) | (refine M.at_load 45 rfl ?_; first | (refine M.load_part_m HM rfl 45 _ rfl 1 g (off + i * 4) 4 _ cur rfl rfl HOFF.out x.cells HG.out (by kernel_rfl) (by kernel_rfl) ?_; go_simp) | (refine M.load_cell_m HM rfl 3 _ rfl 0 g (off + i * 4) _ cur (.int .i64 x.asid) rfl rfl HAC.out (by kernel_rfl) (by kernel_rfl) ?_; go_simp) | (refine M.load_part_m HM rfl 45 _ rfl 0 g (off + i * 4) 4 _ cur rfl rfl HOFF.out x.cells HG.out (by kernel_rfl) (by kernel_rfl) ?_; go_simp) | (refine M.load_row_m HM rfl 45 _ rfl 0 _ _ _ rfl rfl (by kernel_rfl) (by kernel_rfl) ?_; go_simp) | (refine M.load_row_m HM rfl 45 _ rfl 1 _ _ _ rfl rfl (by kernel_rfl) (by kernel_rfl) ?_; go_simp)) | ((fail_if_success (refine M.lit_t rfl ?_)); (fail_if_success (refine M.lit_f rfl ?_)); refine M.split_guard rfl rfl ?_ ?_ <;> (intro hg_; simp only [hg_]; try simp only [M.hgs] at hg_)))
          | (refine Mc.at_cmp _ rfl ?_; refine Mc.cmp_m rfl _ rfl _ _ _ rfl _ _ _ rfl rfl _ rfl ?_ ?_ <;> (intro hg_; try simp only [M.hgs] at hg_; first | (exfalso; first | omega | (simp at hg_; done)) | (go_simp)))
          | ((fail_if_success (refine M.lit_t rfl ?_)); (fail_if_success (refine M.lit_f rfl ?_)); refine M.split_guard rfl rfl ?_ ?_ <;> (intro hg_; simp only [hg_]; try simp only [M.hgs] at hg_)))
        all_goals
          go_roundw
          case rel => exact ⟨i + 1, _, Ao_, by omega, by first | rfl | (refine congrArg (fun z => Value.int .i64 z) ?_; omega), rfl, by rw [HFY.out HQX.out]; exact HO.out, HM.drop (A := [_])⟩
          case measure => first | (simp [intOf]; done) | (simp [intOf]; omega)
    · obtain rfl : i = n := by omega
      rw [List.take_of_length_le (by have := HN.out; omega)] at ho
      have HO := Lib.hid ho; clear ho
      go_wp2_with (first
        | (go_big_skip)
        | (refine M.at_mem rfl ?_; first | (refine M.at_load 3 rfl ?_; first | (refine M.load_cell_m HM rfl 3 _ rfl 0 _ _ _ _ _ rfl rfl rfl (by kernel_rfl) (by kernel_rfl) ?_; go_simp)) | (refine M.at_load 45 rfl ?_; first | (refine M.load_row_m HM rfl 45 _ rfl 0 _ _ _ rfl rfl (by kernel_rfl) (by kernel_rfl) ?_; go_simp)) | ((fail_if_success (refine M.lit_t rfl ?_)); (fail_if_success (refine M.lit_f rfl ?_)); refine M.split_guard rfl rfl ?_ ?_ <;> (intro hg_; simp only [hg_]; try simp only [M.hgs] at hg_)))
        | (refine Mc.at_cmp _ rfl ?_; refine Mc.cmp_m rfl _ rfl _ _ _ rfl _ _ _ rfl rfl _ rfl ?_ ?_ <;> (intro hg_; try simp only [M.hgs] at hg_; first | (exfalso; first | omega | (simp at hg_; done)) | (go_simp)))
        | ((fail_if_success (refine M.lit_t rfl ?_)); (fail_if_success (refine M.lit_f rfl ?_)); refine M.split_guard rfl rfl ?_ ?_ <;> (intro hg_; simp only [hg_]; try simp only [M.hgs] at hg_)))
      all_goals
        go_ret
        exact ⟨_, _, rfl, HO.out, HM.drop (A := A)⟩
theorem best_none {asid va : Int} {l : List K} (h : ∀ k ∈ l, leadsK k asid va = false) : bestK asid va l = K.zero := by
  unfold bestK
  suffices ∀ (l : List K) (b : K), (∀ k ∈ l, leadsK k asid va = false) → l.foldl (bestS asid va) b = b from this l K.zero h
  intro l
  induction l with
  | nil => intro b _; rfl
  | cons x l ih =>
    intro b h
    have e : bestS asid va b x = b := by unfold bestS; rw [if_neg (by rw [h x (by simp)]; simp)]
    rw [List.foldl_cons, e]
    exact ih b fun k hk => h k (by simp [hk])
theorem best_keep {asid va : Int} : ∀ (l : List K) (b : K), (∀ k ∈ l, leadsK k asid va = true → k.level < b.level) → l.foldl (bestS asid va) b = b
  | [], _, _ => rfl
  | x :: l, b, h => by
    have e : bestS asid va b x = b := by
      unfold bestS
      rw [if_neg]
      rintro ⟨h1, h2⟩
      have := h x (by simp) h1
      omega
    rw [List.foldl_cons, e]
    exact best_keep l b fun k hk => h k (by simp [hk])
theorem best_low {asid va lv : Int} : ∀ (l : List K) (b : K), b.level ≤ lv → (∀ k ∈ l, leadsK k asid va = true → k.level ≤ lv) → (l.foldl (bestS asid va) b).level ≤ lv
  | [], _, h, _ => h
  | x :: l, b, h0, h => by
    rw [List.foldl_cons]
    refine best_low l _ ?_ fun k hk => h k (by simp [hk])
    unfold bestS
    split
    · rename_i h1; exact h x (by simp) h1.1
    · exact h0
theorem best_is {asid va : Int} {l : List K} {i : Nat} {x : K} (hx : l[i]? = some x) (hl : leadsK x asid va = true) (h0 : 0 ≤ x.level) (hup : ∀ k ∈ l, leadsK k asid va = true → k.level ≤ x.level) (hlast : ∀ (j : Nat) (y : K), i + 1 ≤ j → l[j]? = some y → leadsK y asid va = true → y.level < x.level) : bestK asid va l = x := by
  have hlt := (List.getElem?_eq_some_iff.1 hx).1
  have e : l = l.take i ++ x :: l.drop (i + 1) := by
    conv => lhs; rw [← List.take_append_drop i l, List.drop_eq_getElem_cons hlt, (List.getElem?_eq_some_iff.1 hx).2]
  unfold bestK
  conv => lhs; rw [e, List.foldl_append, List.foldl_cons]
  have h1 : bestS asid va ((l.take i).foldl (bestS asid va) K.zero) x = x := by
    unfold bestS
    rw [if_pos]
    exact ⟨hl, best_low _ _ h0 fun k hk => hup k (List.mem_of_mem_take hk)⟩
  rw [h1]
  refine best_keep _ _ fun k hk h2 => ?_
  obtain ⟨j, hj⟩ := List.mem_iff_getElem?.1 hk
  rw [List.getElem?_drop] at hj
  exact hlast (i + 1 + j) k (by omega) hj h2
set_option maxHeartbeats 4000000 in
theorem rbest_any {l : List K} {v : Value} {A : Hp} (hA : LR 45 l v A) (hok : ∀ k ∈ l, rightK k = true) (h1 : l.length ≤ 1000) (asid va : Int) (v0 : 0 ≤ va) (v1 : va < 18446744073709551616) : Does Try.prog 28 #[v, .int .i64 asid, .int .u64 va] A (RIs (.agg (bestK asid va l).cells) A) := by
  obtain ⟨p, c, rfl, hc, hV⟩ := hA.read
  generalize hn : l.length = n at hA h1 hc
  have HV := Lib.hid hV; have HN := Lib.hid hn; have HOK := Lib.hid hok
  clear hA hV hn hok
  have hn1 : (n : Int) ≤ 1000 := by omega
  intro w hH
  have HM := Mem.start hH
  go_enter Try.func28, Try.ntmps28
  go_wp2_with (first
    | (go_big_skip)
    | (refine M.at_mem rfl ?_; first | (refine M.at_load 3 rfl ?_; first | (refine M.load_cell_m HM rfl 3 _ rfl 0 _ _ _ _ _ rfl rfl rfl (by kernel_rfl) (by kernel_rfl) ?_; go_simp)) | (refine M.at_load 45 rfl ?_; first | (refine M.load_row_m HM rfl 45 _ rfl 0 _ _ _ rfl rfl (by kernel_rfl) (by kernel_rfl) ?_; go_simp)) | (refine M.at_store 45 rfl ?_; first | (refine M.store_row_m HM rfl 45 _ _ rfl 0 _ _ _ _ rfl rfl rfl (by kernel_rfl) rfl (by simp [Value.oneCell']) ?_; clear HM; intro w_ HM; (try simp only [M.nrm] at HM); go_simp)) | (refine M.at_alloc 45 rfl ?_; first | (refine M.alloc_m HM rfl rfl 45 rfl (.agg K.zero.cells) (by kernel_rfl) K.zero.cells rfl ?_; clear HM; intro gR_ w_ HM; go_simp) | (refine M.alloc_m HM rfl rfl 45 rfl (.agg #[(.int .i64 0), (.int .u64 0), (.int .i64 0), (.int .u64 0)]) (by kernel_rfl) #[(.int .i64 0), (.int .u64 0), (.int .i64 0), (.int .u64 0)] rfl ?_; clear HM; intro g_ w_ HM; go_simp)) | ((fail_if_success (refine M.lit_t rfl ?_)); (fail_if_success (refine M.lit_f rfl ?_)); refine M.split_guard rfl rfl ?_ ?_ <;> (intro hg_; simp only [hg_]; try simp only [M.hgs] at hg_)))
    | (refine Mc.at_cmp _ rfl ?_; refine Mc.cmp_m rfl _ rfl _ _ _ rfl _ _ _ rfl rfl _ rfl ?_ ?_ <;> (intro hg_; try simp only [M.hgs] at hg_; first | (exfalso; first | omega | (simp at hg_; done)) | (go_simp)))
    | ((fail_if_success (refine M.lit_t rfl ?_)); (fail_if_success (refine M.lit_f rfl ?_)); refine M.split_guard rfl rfl ?_ ?_ <;> (intro hg_; simp only [hg_]; try simp only [M.hgs] at hg_)))
  go_loopw [7] (fun v wr => ∃ lv : Int, v = .int .i64 lv ∧ 0 ≤ lv ∧ lv ≤ 3 ∧ (∀ k ∈ l, leadsK k asid va = true → k.level ≤ lv) ∧ Mem w _ ((gR_, row K.zero.cells 45) :: A) wr) (fun v _ => (intOf v).toNat)
  case atStart => exact ⟨3, rfl, by decide, by decide, fun k hk _ => (rightK_level (HOK.out k hk)).2.2.2, HM⟩
  case round =>
    clear HM
    obtain ⟨lv, rfl, q0, q3, hup, HM⟩ := hrel
    have HUP := Lib.hid hup; clear hup
    by_cases hlv : 1 ≤ lv
    · skip
      go_wp2_with (first
        | (go_big_skip)
        | (refine M.at_mem rfl ?_; first | (refine M.at_load 3 rfl ?_; first | (refine M.load_cell_m HM rfl 3 _ rfl 0 _ _ _ _ _ rfl rfl rfl (by kernel_rfl) (by kernel_rfl) ?_; go_simp)) | (refine M.at_load 45 rfl ?_; first | (refine M.load_row_m HM rfl 45 _ rfl 0 _ _ _ rfl rfl (by kernel_rfl) (by kernel_rfl) ?_; go_simp)) | (refine M.at_store 45 rfl ?_; first | (refine M.store_row_m HM rfl 45 _ _ rfl 0 _ _ _ _ rfl rfl rfl (by kernel_rfl) rfl (by simp [Value.oneCell']) ?_; clear HM; intro w_ HM; (try simp only [M.nrm] at HM); go_simp)) | (refine M.at_alloc 45 rfl ?_; first | (refine M.alloc_m HM rfl rfl 45 rfl (.agg #[(.int .i64 0), (.int .u64 0), (.int .i64 0), (.int .u64 0)]) (by kernel_rfl) #[(.int .i64 0), (.int .u64 0), (.int .i64 0), (.int .u64 0)] rfl ?_; clear HM; intro g_ w_ HM; go_simp)) | ((fail_if_success (refine M.lit_t rfl ?_)); (fail_if_success (refine M.lit_f rfl ?_)); refine M.split_guard rfl rfl ?_ ?_ <;> (intro hg_; simp only [hg_]; try simp only [M.hgs] at hg_)))
        | (refine Mc.at_cmp _ rfl ?_; refine Mc.cmp_m rfl _ rfl _ _ _ rfl _ _ _ rfl rfl _ rfl ?_ ?_ <;> (intro hg_; try simp only [M.hgs] at hg_; first | (exfalso; first | omega | (simp at hg_; done)) | (go_simp)))
        | ((fail_if_success (refine M.lit_t rfl ?_)); (fail_if_success (refine M.lit_f rfl ?_)); refine M.split_guard rfl rfl ?_ ?_ <;> (intro hg_; simp only [hg_]; try simp only [M.hgs] at hg_)))
      go_loopw [8] (fun v wr => ∃ (j : Nat) (jv : Int), v = .int .i64 jv ∧ jv = (j : Int) - 1 ∧ j ≤ n ∧ (∀ (i : Nat) (x : K), j ≤ i → l[i]? = some x → leadsK x asid va = true → x.level < lv) ∧ Mem w _ ((gR_, row K.zero.cells 45) :: A) wr) (fun v _ => (intOf v + 1).toNat)
      case atStart => exact ⟨n, _, rfl, by first | rfl | omega, Nat.le_refl _, fun i x hi hx => by
        have := (List.getElem?_eq_some_iff.1 hx).1
        have := HN.out
        omega, HM⟩
      case round =>
        clear HM
        obtain ⟨j, jv, rfl, hjv, jn, hin, HM⟩ := hrel
        have HIN := Lib.hid hin; clear hin
        by_cases hj : 1 ≤ j
        · obtain ⟨i, rfl⟩ : ∃ i, j = i + 1 := ⟨j - 1, by omega⟩
          obtain rfl : jv = (i : Int) := by omega
          clear hjv
          obtain ⟨x, hx⟩ : ∃ x, l[i]? = some x := ⟨_, List.getElem?_eq_getElem (by have := HN.out; omega)⟩
          have hrx := rightK_level (HOK.out x (List.mem_of_getElem? hx))
          have CL := fun w => rleads_any x asid va v0 v1 hrx.2.2.1 hrx.2.2.2 w
          rcases HV.out with ⟨-, hl, -⟩ | ⟨g, off, cur, rfl, hR, rfl⟩
          · rw [hl] at hx; simp at hx
          have hg := hR.get hx
          have hsz := hR.fit (List.getElem?_eq_some_iff.1 hx).1
          have hlc := Row.cell hR hx (j := 2) (v := .int .i64 x.level) rfl
          have HG := Lib.hid (show _ = x.cells from hg); have HOFF := Lib.hid hsz; have HLC := Lib.hid hlc; have HX := Lib.hid hx; have HRX := Lib.hid hrx
          have hi1 : (i : Int) < n := by omega
          clear hg hsz hR hlc hx hrx
          by_cases hxl : x.level = lv
          · have hlc := HLC.out
            rw [hxl] at hlc
            have HLC := Lib.hid hlc; have HXL := Lib.hid hxl; clear hlc hxl
            cases hld : leadsK x asid va with
            | false =>
              rw [hld] at CL
              have HLD := Lib.hid hld; clear hld
              go_wp2_with (first
                | (go_big_skip)
                | (refine Sl.at_indexAddr 39 rfl ?_; refine Sl.indexAddr_m rfl _ rfl 39 rfl 45 (by kernel_rfl) 4 (by kernel_rfl) g (off) (n) (c) rfl .i64 (i : Int) rfl (by omega) (by omega) (off + i * 4) (by omega) ?_; go_simp)
                | (go_at_call 45; (with_reducible refine (M.call_pure (CL) HM).mono ?_); clear HM; rintro e w_ ⟨rfl, HM⟩; dsimp only)
                | (refine M.at_mem rfl ?_; first | (refine M.at_load 3 rfl ?_; first | (refine M.load_cell_m HM rfl 3 _ rfl 1 g (off + i * 4 + 2) _ cur (.int .i64 lv) rfl rfl HLC.out (by kernel_rfl) (by kernel_rfl) ?_; go_simp) | (refine M.load_part_m HM rfl 45 _ rfl 1 g (off + i * 4) 4 _ cur rfl rfl HOFF.out x.cells HG.out (by kernel_rfl) (by kernel_rfl) ?_; go_simp) | (refine M.load_cell_m HM rfl 3 _ rfl 0 _ _ _ _ _ rfl rfl rfl (by kernel_rfl) (by kernel_rfl) ?_; go_simp)) | (refine M.at_load 45 rfl ?_; first | (refine M.load_cell_m HM rfl 3 _ rfl 1 g (off + i * 4 + 2) _ cur (.int .i64 lv) rfl rfl HLC.out (by kernel_rfl) (by kernel_rfl) ?_; go_simp) | (refine M.load_part_m HM rfl 45 _ rfl 1 g (off + i * 4) 4 _ cur rfl rfl HOFF.out x.cells HG.out (by kernel_rfl) (by kernel_rfl) ?_; go_simp) | (refine M.load_row_m HM rfl 45 _ rfl 0 _ _ _ rfl rfl (by kernel_rfl) (by kernel_rfl) ?_; go_simp)) | (refine M.at_store 45 rfl ?_; first | (refine M.store_row_m HM rfl 45 _ _ rfl 0 _ _ _ _ rfl rfl rfl (by kernel_rfl) rfl (by simp [Value.oneCell']) ?_; clear HM; intro w_ HM; (try simp only [M.nrm] at HM); go_simp)) | (refine M.at_alloc 45 rfl ?_; first | (refine M.alloc_m HM rfl rfl 45 rfl (.agg #[(.int .i64 0), (.int .u64 0), (.int .i64 0), (.int .u64 0)]) (by kernel_rfl) #[(.int .i64 0), (.int .u64 0), (.int .i64 0), (.int .u64 0)] rfl ?_; clear HM; intro g_ w_ HM; go_simp)) | ((fail_if_success (refine M.lit_t rfl ?_)); (fail_if_success (refine M.lit_f rfl ?_)); refine M.split_guard rfl rfl ?_ ?_ <;> (intro hg_; simp only [hg_]; try simp only [M.hgs] at hg_)))
                | (refine Mc.at_cmp _ rfl ?_; refine Mc.cmp_m rfl _ rfl _ _ _ rfl _ _ _ rfl rfl _ rfl ?_ ?_ <;> (intro hg_; try simp only [M.hgs] at hg_; first | (exfalso; first | omega | (simp at hg_; done)) | (clear hg_; go_simp)))
                | ((fail_if_success (refine M.lit_t rfl ?_)); (fail_if_success (refine M.lit_f rfl ?_)); refine M.split_guard rfl rfl ?_ ?_ <;> (intro hg_; simp only [hg_]; try simp only [M.hgs] at hg_)))
              all_goals
                go_roundw
                case rel => exact ⟨i, _, rfl, by first | rfl | omega, by omega, fun i' y hi' hy hyl => by
                  by_cases he : i' = i
                  · subst he
                    have := HX.out.symm.trans hy
                    cases this
                    rw [HLD.out] at hyl; cases hyl
                  · exact HIN.out i' y (by omega) hy hyl, HM⟩
                case measure => first | (simp [intOf]; done) | (simp [intOf]; omega)
            | true =>
              rw [hld] at CL
              have hbest : bestK asid va l = x := best_is HX.out hld (by have := HRX.out; omega) (fun k hk hk2 => by have := HUP.out k hk hk2; have := HXL.out; omega) (fun j y hj hy hyl => by have := HIN.out j y hj hy hyl; have := HXL.out; omega)
              have HB := Lib.hid hbest; clear hbest hld
              go_wp2_with (first
                | (go_big_skip)
                | (refine Sl.at_indexAddr 39 rfl ?_; refine Sl.indexAddr_m rfl _ rfl 39 rfl 45 (by kernel_rfl) 4 (by kernel_rfl) g (off) (n) (c) rfl .i64 (i : Int) rfl (by omega) (by omega) (off + i * 4) (by omega) ?_; go_simp)
                | (go_at_call 45; (with_reducible refine (M.call_pure (CL) HM).mono ?_); clear HM; rintro e w_ ⟨rfl, HM⟩; dsimp only)
                | (refine M.at_mem rfl ?_; first | (refine M.at_load 3 rfl ?_; first | (refine M.load_cell_m HM rfl 3 _ rfl 1 g (off + i * 4 + 2) _ cur (.int .i64 lv) rfl rfl HLC.out (by kernel_rfl) (by kernel_rfl) ?_; go_simp) | (refine M.load_part_m HM rfl 45 _ rfl 1 g (off + i * 4) 4 _ cur rfl rfl HOFF.out x.cells HG.out (by kernel_rfl) (by kernel_rfl) ?_; go_simp) | (refine M.load_cell_m HM rfl 3 _ rfl 0 _ _ _ _ _ rfl rfl rfl (by kernel_rfl) (by kernel_rfl) ?_; go_simp)) | (refine M.at_load 45 rfl ?_; first | (refine M.load_cell_m HM rfl 3 _ rfl 1 g (off + i * 4 + 2) _ cur (.int .i64 lv) rfl rfl HLC.out (by kernel_rfl) (by kernel_rfl) ?_; go_simp) | (refine M.load_part_m HM rfl 45 _ rfl 1 g (off + i * 4) 4 _ cur rfl rfl HOFF.out x.cells HG.out (by kernel_rfl) (by kernel_rfl) ?_; go_simp) | (refine M.load_row_m HM rfl 45 _ rfl 0 _ _ _ rfl rfl (by kernel_rfl) (by kernel_rfl) ?_; go_simp)) | (refine M.at_store 45 rfl ?_; first | (refine M.store_row_m HM rfl 45 _ _ rfl 0 _ _ _ (x.cells) rfl rfl rfl (by kernel_rfl) rfl (Rec.one (T := K) _) ?_; clear HM; intro w_ HM; (try simp only [List.set_cons_zero, List.set_cons_succ] at HM); go_simp) | (refine M.store_row_m HM rfl 45 _ _ rfl 0 _ _ _ _ rfl rfl rfl (by kernel_rfl) rfl (by simp [Value.oneCell']) ?_; clear HM; intro w_ HM; (try simp only [M.nrm] at HM); go_simp)) | (refine M.at_alloc 45 rfl ?_; first | (refine M.alloc_m HM rfl rfl 45 rfl (.agg #[(.int .i64 0), (.int .u64 0), (.int .i64 0), (.int .u64 0)]) (by kernel_rfl) #[(.int .i64 0), (.int .u64 0), (.int .i64 0), (.int .u64 0)] rfl ?_; clear HM; intro g_ w_ HM; go_simp)) | ((fail_if_success (refine M.lit_t rfl ?_)); (fail_if_success (refine M.lit_f rfl ?_)); refine M.split_guard rfl rfl ?_ ?_ <;> (intro hg_; simp only [hg_]; try simp only [M.hgs] at hg_)))
                | (refine Mc.at_cmp _ rfl ?_; refine Mc.cmp_m rfl _ rfl _ _ _ rfl _ _ _ rfl rfl _ rfl ?_ ?_ <;> (intro hg_; try simp only [M.hgs] at hg_; first | (exfalso; first | omega | (simp at hg_; done)) | (clear hg_; go_simp)))
                | ((fail_if_success (refine M.lit_t rfl ?_)); (fail_if_success (refine M.lit_f rfl ?_)); refine M.split_guard rfl rfl ?_ ?_ <;> (intro hg_; simp only [hg_]; try simp only [M.hgs] at hg_)))
              all_goals
                refine bodyPost_ret (res_c HM rfl _ 0 _ _ _ rfl rfl (by kernel_rfl) (by kernel_rfl)) rfl ?_
                rw [HB.out]
                first | exact ⟨_, _, rfl, ⟨rfl, rfl⟩, HM.drop (A := [_])⟩ | exact ⟨_, ⟨rfl, rfl⟩, HM.drop (A := [_])⟩ | exact ⟨_, rfl, _, ⟨rfl, rfl⟩, HM.drop (A := [_])⟩
          · have hlc := HLC.out
            have HXL := Lib.hid hxl
            have HLV := Lib.hid (rfl : x.level = x.level)
            generalize x.level = xl at hlc hxl
            have HLC := Lib.hid hlc; clear hlc
            go_wp2_with (first
              | (go_big_skip)
              | (refine Sl.at_indexAddr 39 rfl ?_; refine Sl.indexAddr_m rfl _ rfl 39 rfl 45 (by kernel_rfl) 4 (by kernel_rfl) g (off) (n) (c) rfl .i64 (i : Int) rfl (by omega) (by omega) (off + i * 4) (by omega) ?_; go_simp)
              | (go_at_call 45; (with_reducible refine (M.call_pure (CL) HM).mono ?_); clear HM; rintro e w_ ⟨rfl, HM⟩; dsimp only)
              | (refine M.at_mem rfl ?_; first | (refine M.at_load 3 rfl ?_; first | (refine M.load_cell_m HM rfl 3 _ rfl 1 g (off + i * 4 + 2) _ cur (.int .i64 xl) rfl rfl HLC.out (by kernel_rfl) (by kernel_rfl) ?_; go_simp) | (refine M.load_cell_m HM rfl 3 _ rfl 0 _ _ _ _ _ rfl rfl rfl (by kernel_rfl) (by kernel_rfl) ?_; go_simp)) | (refine M.at_load 45 rfl ?_; first | (refine M.load_cell_m HM rfl 3 _ rfl 1 g (off + i * 4 + 2) _ cur (.int .i64 xl) rfl rfl HLC.out (by kernel_rfl) (by kernel_rfl) ?_; go_simp) | (refine M.load_row_m HM rfl 45 _ rfl 0 _ _ _ rfl rfl (by kernel_rfl) (by kernel_rfl) ?_; go_simp)) | (refine M.at_store 45 rfl ?_; first | (refine M.store_row_m HM rfl 45 _ _ rfl 0 _ _ _ _ rfl rfl rfl (by kernel_rfl) rfl (by simp [Value.oneCell']) ?_; clear HM; intro w_ HM; (try simp only [M.nrm] at HM); go_simp)) | (refine M.at_alloc 45 rfl ?_; first | (refine M.alloc_m HM rfl rfl 45 rfl (.agg #[(.int .i64 0), (.int .u64 0), (.int .i64 0), (.int .u64 0)]) (by kernel_rfl) #[(.int .i64 0), (.int .u64 0), (.int .i64 0), (.int .u64 0)] rfl ?_; clear HM; intro g_ w_ HM; go_simp)) | ((fail_if_success (refine M.lit_t rfl ?_)); (fail_if_success (refine M.lit_f rfl ?_)); refine M.split_guard rfl rfl ?_ ?_ <;> (intro hg_; simp only [hg_]; try simp only [M.hgs] at hg_)))
              | (refine Mc.at_cmp _ rfl ?_; refine Mc.cmp_m rfl _ rfl _ _ _ rfl _ _ _ rfl rfl _ rfl ?_ ?_ <;> (intro hg_; try simp only [M.hgs] at hg_; first | (exfalso; first | omega | (simp at hg_; done)) | (clear hg_; go_simp)))
              | ((fail_if_success (refine M.lit_t rfl ?_)); (fail_if_success (refine M.lit_f rfl ?_)); refine M.split_guard rfl rfl ?_ ?_ <;> (intro hg_; simp only [hg_]; try simp only [M.hgs] at hg_)))
            all_goals
              go_roundw
              case rel => exact ⟨i, _, rfl, by first | rfl | omega, by omega, fun i' y hi' hy hyl => by
                by_cases he : i' = i
                · subst he
                  have := HX.out.symm.trans hy
                  cases this
                  have := HUP.out x (List.mem_of_getElem? HX.out) hyl
                  have := HXL.out
                  omega
                · exact HIN.out i' y (by omega) hy hyl, HM⟩
              case measure => first | (simp [intOf]; done) | (simp [intOf]; omega)
        · obtain rfl : j = 0 := by omega
          have hj1 : jv ≤ -1 := by omega
          have hj2 : -1 ≤ jv := by omega
          clear hjv
          go_wp2_with (first
            | (go_big_skip)
            | (refine M.at_mem rfl ?_; first | (refine M.at_load 3 rfl ?_; first | (refine M.load_cell_m HM rfl 3 _ rfl 0 _ _ _ _ _ rfl rfl rfl (by kernel_rfl) (by kernel_rfl) ?_; go_simp)) | (refine M.at_load 45 rfl ?_; first | (refine M.load_row_m HM rfl 45 _ rfl 0 _ _ _ rfl rfl (by kernel_rfl) (by kernel_rfl) ?_; go_simp)) | (refine M.at_store 45 rfl ?_; first | (refine M.store_row_m HM rfl 45 _ _ rfl 0 _ _ _ _ rfl rfl rfl (by kernel_rfl) rfl (by simp [Value.oneCell']) ?_; clear HM; intro w_ HM; (try simp only [M.nrm] at HM); go_simp)) | (refine M.at_alloc 45 rfl ?_; first | (refine M.alloc_m HM rfl rfl 45 rfl (.agg #[(.int .i64 0), (.int .u64 0), (.int .i64 0), (.int .u64 0)]) (by kernel_rfl) #[(.int .i64 0), (.int .u64 0), (.int .i64 0), (.int .u64 0)] rfl ?_; clear HM; intro g_ w_ HM; go_simp)) | ((fail_if_success (refine M.lit_t rfl ?_)); (fail_if_success (refine M.lit_f rfl ?_)); refine M.split_guard rfl rfl ?_ ?_ <;> (intro hg_; simp only [hg_]; try simp only [M.hgs] at hg_)))
            | (refine Mc.at_cmp _ rfl ?_; refine Mc.cmp_m rfl _ rfl _ _ _ rfl _ _ _ rfl rfl _ rfl ?_ ?_ <;> (intro hg_; try simp only [M.hgs] at hg_; first | (exfalso; first | omega | (simp at hg_; done)) | (go_simp)))
            | ((fail_if_success (refine M.lit_t rfl ?_)); (fail_if_success (refine M.lit_f rfl ?_)); refine M.split_guard rfl rfl ?_ ?_ <;> (intro hg_; simp only [hg_]; try simp only [M.hgs] at hg_)))
          all_goals
            go_roundw
            case rel => exact ⟨lv - 1, by first | rfl | (refine congrArg (fun z => Value.int .i64 z) ?_; omega), by omega, by omega, fun k hk hk2 => by
              obtain ⟨i, hi⟩ := List.mem_iff_getElem?.1 hk
              have := HIN.out i k (by omega) hi hk2
              omega, HM⟩
            case measure => first | (simp [intOf]; done) | (simp [intOf]; omega)
    · obtain rfl : lv = 0 := by omega
      have hbest : bestK asid va l = K.zero := best_none fun k hk => by
        cases hk2 : leadsK k asid va with
        | false => rfl
        | true =>
          have := HUP.out k hk hk2
          have := (rightK_level (HOK.out k hk)).2.2.1
          omega
      have HB := Lib.hid hbest; clear hbest
      go_wp2_with (first
        | (go_big_skip)
        | (refine M.at_mem rfl ?_; first | (refine M.at_load 3 rfl ?_; first | (refine M.load_cell_m HM rfl 3 _ rfl 0 _ _ _ _ _ rfl rfl rfl (by kernel_rfl) (by kernel_rfl) ?_; go_simp)) | (refine M.at_load 45 rfl ?_; first | (refine M.load_row_m HM rfl 45 _ rfl 0 _ _ _ rfl rfl (by kernel_rfl) (by kernel_rfl) ?_; go_simp)) | (refine M.at_store 45 rfl ?_; first | (refine M.store_row_m HM rfl 45 _ _ rfl 0 _ _ _ (K.zero.cells) rfl rfl rfl (by kernel_rfl) rfl (Rec.one (T := K) _) ?_; clear HM; intro w_ HM; (try simp only [List.set_cons_zero, List.set_cons_succ] at HM); go_simp) | (refine M.store_row_m HM rfl 45 _ _ rfl 0 _ _ _ _ rfl rfl rfl (by kernel_rfl) rfl (by simp [Value.oneCell']) ?_; clear HM; intro w_ HM; (try simp only [M.nrm] at HM); go_simp)) | (refine M.at_alloc 45 rfl ?_; first | (refine M.alloc_m HM rfl rfl 45 rfl (.agg #[(.int .i64 0), (.int .u64 0), (.int .i64 0), (.int .u64 0)]) (by kernel_rfl) #[(.int .i64 0), (.int .u64 0), (.int .i64 0), (.int .u64 0)] rfl ?_; clear HM; intro g_ w_ HM; go_simp)) | ((fail_if_success (refine M.lit_t rfl ?_)); (fail_if_success (refine M.lit_f rfl ?_)); refine M.split_guard rfl rfl ?_ ?_ <;> (intro hg_; simp only [hg_]; try simp only [M.hgs] at hg_)))
        | (refine Mc.at_cmp _ rfl ?_; refine Mc.cmp_m rfl _ rfl _ _ _ rfl _ _ _ rfl rfl _ rfl ?_ ?_ <;> (intro hg_; try simp only [M.hgs] at hg_; first | (exfalso; first | omega | (simp at hg_; done)) | (go_simp)))
        | ((fail_if_success (refine M.lit_t rfl ?_)); (fail_if_success (refine M.lit_f rfl ?_)); refine M.split_guard rfl rfl ?_ ?_ <;> (intro hg_; simp only [hg_]; try simp only [M.hgs] at hg_)))
      all_goals
        refine bodyPost_ret (res_c HM rfl _ 0 _ _ _ rfl rfl (by kernel_rfl) (by kernel_rfl)) rfl ?_
        rw [HB.out]
        first | exact ⟨_, _, rfl, ⟨rfl, rfl⟩, HM.drop (A := [_])⟩ | exact ⟨_, ⟨rfl, rfl⟩, HM.drop (A := [_])⟩ | exact ⟨_, rfl, _, ⟨rfl, rfl⟩, HM.drop (A := [_])⟩
/-- What Walked answers. -/
def RWalk (fin : List K × Nat) (r : Value) (L : Hp) : Prop := ∃ v', r = .tuple #[v', .int .i64 (fin.2 : Nat)] ∧ LR 45 fin.1 v' L
theorem walked_3 {most asid va : Int} {s : W2} {st : List W2} {l : List K} (h0 : 0 ≤ s.word) (h1 : s.word < 18446744073709551616) : walkedL most asid va (s :: st) 3 l = (l, 0) := by
  cases hd : decV 3 s.word with
  | none => exact walked_none (by decide) hd
  | some d =>
    refine walked_not (by decide) hd fun hk => ?_
    rcases decV_kind (by decide) (by decide) h0 h1 hd with rfl | ⟨-, h2, -⟩ | ⟨h2, -⟩
    · simp [zero] at hk
    · exact absurd h2 (by decide)
    · omega
set_option maxHeartbeats 8000000 in
theorem rwalked_any {most : Int} (h0 : 1 ≤ most) (h9 : most ≤ 900) {l0 : List K} {vl0 : Value} {A0 : Hp} (hA0 : LR 45 l0 vl0 A0) (hl0 : (l0.length : Int) ≤ most) (asid va level0 : Int) (v0 : 0 ≤ va) (v1 : va < 18446744073709551616)
    (st : List W2) (p : Option Addr) (n c : Nat) (B : Hp) (hn : st.length = n) (h1 : n ≤ 1000) (hok : ∀ s ∈ st, 0 ≤ s.word ∧ s.word < 18446744073709551616) (hV : LV 77 st p B) :
    Does Try.prog 29 #[vl0, .int .i64 most, .int .i64 asid, .int .u64 va, .int .i64 level0, .slice p n c] (A0 ++ B) (RWalk (walkedL most asid va st level0 l0)) := by
  generalize hfin : walkedL most asid va st level0 l0 = fin
  have HN := Lib.hid hn; have HV := Lib.hid hV; have HOK := Lib.hid hok
  clear hn hV hok
  have hn1 : (n : Int) ≤ 1000 := by omega
  intro w hH
  have HM := Mem.start hH
  go_enter Try.func29, Try.ntmps29
  go_wp2_with (first
    | (go_big_skip)
    | (refine M.at_mem rfl ?_; first | (refine M.at_load 3 rfl ?_; first | (refine M.load_cell_m HM rfl 3 _ rfl 0 _ _ _ _ _ rfl rfl rfl (by kernel_rfl) (by kernel_rfl) ?_; go_simp)) | (refine M.at_load 23 rfl ?_; first | (refine M.load_cell_m HM rfl 23 _ rfl 0 _ _ _ _ _ rfl rfl rfl (by kernel_rfl) (by kernel_rfl) ?_; go_simp)) | (refine M.at_store 98 rfl ?_; first | (refine M.store_row_m HM rfl 98 _ _ rfl 0 _ _ _ _ rfl rfl rfl (by kernel_rfl) rfl (by simp [Value.oneCell']) ?_; clear HM; intro w_ HM; (try simp only [M.nrm] at HM); go_simp)) | (refine M.at_alloc 98 rfl ?_; first | (refine M.alloc_m HM rfl rfl 98 rfl (.agg #[(.int .i64 0), (.int .u64 0), (.bool false), (.bool false), (.bool false), (.bool false), (.int .i64 0)]) (by kernel_rfl) #[(.int .i64 0), (.int .u64 0), (.bool false), (.bool false), (.bool false), (.bool false), (.int .i64 0)] rfl ?_; clear HM; intro g_ w_ HM; go_simp)) | ((fail_if_success (refine M.lit_t rfl ?_)); (fail_if_success (refine M.lit_f rfl ?_)); refine M.split_guard rfl rfl ?_ ?_ <;> (intro hg_; simp only [hg_]; try simp only [M.hgs] at hg_)))
    | (refine Mc.at_cmp _ rfl ?_; refine Mc.cmp_m rfl _ rfl _ _ _ rfl _ _ _ rfl rfl _ rfl ?_ ?_ <;> (intro hg_; try simp only [M.hgs] at hg_; first | (exfalso; first | omega | (simp at hg_; done)) | (go_simp)))
    | ((fail_if_success (refine M.lit_t rfl ?_)); (fail_if_success (refine M.lit_f rfl ?_)); refine M.split_guard rfl rfl ?_ ?_ <;> (intro hg_; simp only [hg_]; try simp only [M.hgs] at hg_)))
  go_loopw [0, 4, 14] (fun lw lv iv wr => ∃ (i : Nat) (level : Int) (l : List K) (vl : Value) (Ac : Hp), i ≤ n ∧ iv = .int .i64 i ∧ lv = .int .i64 level ∧ lw = vl ∧ LR 45 l vl Ac ∧ (l.length : Int) ≤ most ∧ ((walkedL most asid va (st.drop i) level l).1, i + (walkedL most asid va (st.drop i) level l).2) = fin ∧ Mem w _ (Ac ++ B) wr) (fun _ _ iv _ => n - (intOf iv).toNat)
  case atStart => exact ⟨0, level0, l0, vl0, A0, by omega, rfl, rfl, rfl, hA0, hl0, by rw [← hfin]; simp, HM⟩
  case round =>
    clear HM hA0 hl0 hfin
    obtain ⟨i, level, l, vl, Ac, iR, rfl, rfl, rfl, hA, hl, hfin, HM⟩ := hrel
    by_cases hlt : i < n
    · obtain ⟨x, hx⟩ : ∃ x, st[i]? = some x := ⟨_, List.getElem?_eq_getElem (by have := HN.out; omega)⟩
      have hxo := HOK.out x (List.mem_of_getElem? hx)
      rcases HV.out with ⟨-, he, -⟩ | ⟨g, off, cur, rfl, hR, rfl⟩
      · rw [he] at hx; simp at hx
      have hwc := Row.cell hR hx (j := 1) (v := .int .u64 x.word) rfl
      have HWC := Lib.hid hwc
      have hdr : st.drop i = x :: st.drop (i + 1) := by
        have := List.drop_eq_getElem_cons (l := st) (i := i) (by have := HN.out; omega)
        rw [this]; congr 1
        exact (List.getElem?_eq_some_iff.1 hx).2
      rw [hdr] at hfin
      have hi1 : (i : Int) < n := by omega
      obtain ⟨xa, xw⟩ := x
      have hx0 := hxo.1; have hx1 := hxo.2
      dsimp only at hx0 hx1 HWC
      clear hx hxo hdr hwc hR
      by_cases hlv : level < 0 ∨ 3 ≤ level
      · have hfin : (l, i + 0) = fin := by
          by_cases h3 : level = 3
          · subst h3
            rw [walked_3 hx0 hx1] at hfin; exact hfin
          · rw [walked_out (by omega)] at hfin; exact hfin
        have HF := Lib.hid hfin; have HA := Lib.hid hA; clear hfin hA
        rcases hlv with hlv | hlv
        all_goals
          go_wp2_with (first
            | (go_big_skip)
            | (refine M.at_mem rfl ?_; first | (refine M.at_load 3 rfl ?_; first | (refine M.load_cell_m HM rfl 3 _ rfl 0 _ _ _ _ _ rfl rfl rfl (by kernel_rfl) (by kernel_rfl) ?_; go_simp)) | (refine M.at_load 23 rfl ?_; first | (refine M.load_cell_m HM rfl 23 _ rfl 0 _ _ _ _ _ rfl rfl rfl (by kernel_rfl) (by kernel_rfl) ?_; go_simp)) | (refine M.at_store 98 rfl ?_; first | (refine M.store_row_m HM rfl 98 _ _ rfl 0 _ _ _ _ rfl rfl rfl (by kernel_rfl) rfl (by simp [Value.oneCell']) ?_; clear HM; intro w_ HM; (try simp only [M.nrm] at HM); go_simp)) | (refine M.at_alloc 98 rfl ?_; first | (refine M.alloc_m HM rfl rfl 98 rfl (.agg #[(.int .i64 0), (.int .u64 0), (.bool false), (.bool false), (.bool false), (.bool false), (.int .i64 0)]) (by kernel_rfl) #[(.int .i64 0), (.int .u64 0), (.bool false), (.bool false), (.bool false), (.bool false), (.int .i64 0)] rfl ?_; clear HM; intro g_ w_ HM; go_simp)) | ((fail_if_success (refine M.lit_t rfl ?_)); (fail_if_success (refine M.lit_f rfl ?_)); refine M.split_guard rfl rfl ?_ ?_ <;> (intro hg_; simp only [hg_]; try simp only [M.hgs] at hg_)))
            | (refine Mc.at_cmp _ rfl ?_; refine Mc.cmp_m rfl _ rfl _ _ _ rfl _ _ _ rfl rfl _ rfl ?_ ?_ <;> (intro hg_; try simp only [M.hgs] at hg_; first | (exfalso; first | omega | (simp at hg_; done)) | (go_simp)))
            | ((fail_if_success (refine M.lit_t rfl ?_)); (fail_if_success (refine M.lit_f rfl ?_)); refine M.split_guard rfl rfl ?_ ?_ <;> (intro hg_; simp only [hg_]; try simp only [M.hgs] at hg_)))
          all_goals
            go_ret2
            first
            | exact ⟨_, _, rfl, ⟨_, congrArg (fun z : List K × Nat => Value.tuple #[_, .int .i64 (z.2 : Nat)]) HF.out, by rw [← HF.out]; exact HA.out⟩, HM.take⟩
            | exact ⟨_, rfl, _, ⟨_, congrArg (fun z : List K × Nat => Value.tuple #[_, .int .i64 (z.2 : Nat)]) HF.out, by rw [← HF.out]; exact HA.out⟩, HM.take⟩
      · have l0' : 0 ≤ level := by omega
        have l3' : level < 4 := by omega
        have hlv' : ¬ (level < 0 ∨ 4 ≤ level) := by omega
        have CD := fun w => Em.rdecode_is level xw l0' l3' hx0 hx1 w
        cases hd : decV level xw with
        | none =>
          rw [walked_none hlv' hd] at hfin
          have HF := Lib.hid hfin; have HA := Lib.hid hA; clear hfin hA
          rw [hd] at CD
          simp only [Em.refV, D7.val, zero] at CD
          clear hd
          go_wp2_with (first
            | (go_big_skip)
            | (refine Sl.at_indexAddr 76 rfl ?_; refine Sl.indexAddr_m rfl _ rfl 76 rfl 77 (by kernel_rfl) 2 (by kernel_rfl) g (off) (n) (c) rfl .i64 (i : Int) rfl (by omega) (by omega) (off + i * 2) (by omega) ?_; go_simp)
            | (go_at_call 46; (with_reducible refine (M.call_pure (CD) HM).mono ?_); clear HM; rintro e w_ ⟨rfl, HM⟩; dsimp only)
            | (refine M.at_mem rfl ?_; first | (refine M.at_load 3 rfl ?_; first | (have HM9_ := HM.perm List.perm_append_comm; refine M.load_cell_m HM9_ rfl 23 _ rfl 0 g (off + i * 2 + 1) _ cur (.int .u64 xw) rfl rfl HWC.out (by kernel_rfl) (by kernel_rfl) ?_; clear HM9_; go_simp) | (refine M.load_cell_m HM rfl 3 _ rfl 0 _ _ _ _ _ rfl rfl rfl (by kernel_rfl) (by kernel_rfl) ?_; go_simp)) | (refine M.at_load 23 rfl ?_; first | (have HM9_ := HM.perm List.perm_append_comm; refine M.load_cell_m HM9_ rfl 23 _ rfl 0 g (off + i * 2 + 1) _ cur (.int .u64 xw) rfl rfl HWC.out (by kernel_rfl) (by kernel_rfl) ?_; clear HM9_; go_simp) | (refine M.load_cell_m HM rfl 23 _ rfl 0 _ _ _ _ _ rfl rfl rfl (by kernel_rfl) (by kernel_rfl) ?_; go_simp)) | (refine M.at_store 98 rfl ?_; first | (refine M.store_row_m HM rfl 98 _ _ rfl 0 _ _ _ _ rfl rfl rfl (by kernel_rfl) rfl (by simp [Value.oneCell']) ?_; clear HM; intro w_ HM; (try simp only [M.nrm] at HM); go_simp)) | (refine M.at_alloc 98 rfl ?_; first | (refine M.alloc_m HM rfl rfl 98 rfl (.agg #[(.int .i64 0), (.int .u64 0), (.bool false), (.bool false), (.bool false), (.bool false), (.int .i64 0)]) (by kernel_rfl) #[(.int .i64 0), (.int .u64 0), (.bool false), (.bool false), (.bool false), (.bool false), (.int .i64 0)] rfl ?_; clear HM; intro g_ w_ HM; go_simp)) | ((fail_if_success (refine M.lit_t rfl ?_)); (fail_if_success (refine M.lit_f rfl ?_)); refine M.split_guard rfl rfl ?_ ?_ <;> (intro hg_; simp only [hg_]; try simp only [M.hgs] at hg_)))
            | (refine Mc.at_cmp _ rfl ?_; refine Mc.cmp_m rfl _ rfl _ _ _ rfl _ _ _ rfl rfl _ rfl ?_ ?_ <;> (intro hg_; try simp only [M.hgs] at hg_; first | (exfalso; first | omega | (simp at hg_; done)) | (go_simp)))
            | ((fail_if_success (refine M.lit_t rfl ?_)); (fail_if_success (refine M.lit_f rfl ?_)); refine M.split_guard rfl rfl ?_ ?_ <;> (intro hg_; simp only [hg_]; try simp only [M.hgs] at hg_)))
          all_goals
            go_ret2
            first
            | exact ⟨_, _, rfl, ⟨_, congrArg (fun z : List K × Nat => Value.tuple #[_, .int .i64 (z.2 : Nat)]) HF.out, by rw [← HF.out]; exact HA.out⟩, (by first | exact (HM.drop (A := [_])).take | simpa using (HM.drop (A := [_])).take)⟩
            | exact ⟨_, rfl, _, ⟨_, congrArg (fun z : List K × Nat => Value.tuple #[_, .int .i64 (z.2 : Nat)]) HF.out, by rw [← HF.out]; exact HA.out⟩, (by first | exact (HM.drop (A := [_])).take | simpa using (HM.drop (A := [_])).take)⟩
        | some d =>
          rw [hd] at CD
          by_cases hk : d.kind = 1
          · rw [walked_on hlv' hd hk] at hfin
            have hkd := decV_kind l0' l3' hx0 hx1 hd
            have hout : 0 ≤ d.out ∧ d.out < 18446744073709551616 := by
              rcases hkd with rfl | ⟨-, -, h2, h3, -⟩ | ⟨h2, -⟩
              · simp [zero] at hk
              · omega
              · omega
            have CB := fun w => rbase_any va level v0 v1 (by omega) (by omega) w
            have hbr : 0 ≤ baseV va level ∧ baseV va level < 18446744073709551616 := base_rng va level v0
            have CA := radd_any hA ⟨asid, baseV va level, level + 1, d.out⟩ ⟨hbr.1, hbr.2, hout.1, hout.2⟩ h0 h9 hl
            have hsl := stepK_len (e := ⟨asid, baseV va level, level + 1, d.out⟩) hl
            have hlow : lowB va = decide (va < 281474976710656) := rfl
            rw [hlow] at hfin
            clear hd hkd hout hbr hlow
            obtain ⟨k1, k2, k3, k4, k5, k6, k7⟩ := d
            dsimp only at hk CA hfin hsl
            subst hk
            simp only [Em.refV, D7.val] at CD
            simp only [K.cells] at CA
            generalize stepK most l ⟨asid, baseV va level, level + 1, k2⟩ = ls at CA hfin hsl
            generalize baseV va level = bv at CB CA
            have HF := Lib.hid hfin; have HSL := Lib.hid hsl; have HL := Lib.hid hl; have HA := Lib.hid hA; clear hfin hsl hl hA
            by_cases hlo : va < 281474976710656
            · have hf := HF.out
              rw [decide_eq_true hlo] at hf
              simp only [if_true] at hf
              have HF := Lib.hid hf; clear hf
              go_wp2_with (first
                | (go_big_skip)
                | (refine Sl.at_indexAddr 76 rfl ?_; refine Sl.indexAddr_m rfl _ rfl 76 rfl 77 (by kernel_rfl) 2 (by kernel_rfl) g (off) (n) (c) rfl .i64 (i : Int) rfl (by omega) (by omega) (off + i * 2) (by omega) ?_; go_simp)
                | (go_at_call 46; (with_reducible refine (M.call_pure (CD) HM).mono ?_); clear HM; rintro e w_ ⟨rfl, HM⟩; dsimp only)
                | (go_at_call 44; (with_reducible refine (M.call_pure (CB) HM).mono ?_); clear HM; rintro e w_ ⟨rfl, HM⟩; dsimp only)
                | (go_at_call 26; have HM_ : M.Mem _ _ (([_]) ++ ((Ac) ++ ([_]))) _ := HM; (with_reducible refine (Yf.Does.mid _ _ (CA) HM_).mono ?_); clear HM HM_; rintro e w_ ⟨v_, L_, rfl, hr_, HM⟩; (try simp only [List.cons_append, List.nil_append, List.append_nil] at HM); dsimp only)
                | (refine M.at_reg 10 ?_; refine Mq.region_tail_m (id := 10) 11 HM (by kernel_rfl) (by kernel_rfl) ?_; simp only [List.take_succ_cons, List.take_zero, List.drop_succ_cons, List.drop_zero]; (repeat (any_goals (first | go_big_quiet_skip | (refine Mq.qat_load 3 rfl ?_; go_big_quiet_want; first | (refine Mq.quiet_load_cell 3 _ rfl 0 _ _ _ _ _ rfl rfl rfl (by kernel_rfl) (by kernel_rfl) ?_; simp only [Act.put, List.setIfInBounds_toArray, List.set_cons_zero, List.set_cons_succ]; go_big_quiet_on)) | (refine Mq.qat_load 23 rfl ?_; go_big_quiet_want; first | (refine Mq.quiet_load_cell 23 _ rfl 0 _ _ _ _ _ rfl rfl rfl (by kernel_rfl) (by kernel_rfl) ?_; simp only [Act.put, List.setIfInBounds_toArray, List.set_cons_zero, List.set_cons_succ]; go_big_quiet_on)) | ((fail_if_success (refine Mq.qlit_t rfl ?_)); (fail_if_success (refine Mq.qlit_f rfl ?_)); refine Mq.qsplit rfl rfl ?_ ?_ <;> (intro hg_; simp only [hg_]; try simp only [M.hgs] at hg_)) | go_big_quiet_step (first | (go_at_call 46; with_reducible exact Mq.quiet_call_m (CD _)) | (go_at_call 44; with_reducible exact Mq.quiet_call_m (CB _)) | exact rfl)))); all_goals (refine Go.Proofs.Ytmmljeekonechaa.G.wpQuiet_end ?_; clear HM; intro w_ HM))
                | (refine M.at_mem rfl ?_; first | (refine M.at_load 3 rfl ?_; first | (have HM9_ := HM.perm List.perm_append_comm; refine M.load_cell_m HM9_ rfl 23 _ rfl 0 g (off + i * 2 + 1) _ cur (.int .u64 xw) rfl rfl HWC.out (by kernel_rfl) (by kernel_rfl) ?_; clear HM9_; go_simp) | (refine M.load_cell_m HM rfl 3 _ rfl 0 _ _ _ _ _ rfl rfl rfl (by kernel_rfl) (by kernel_rfl) ?_; go_simp)) | (refine M.at_load 23 rfl ?_; first | (have HM9_ := HM.perm List.perm_append_comm; refine M.load_cell_m HM9_ rfl 23 _ rfl 0 g (off + i * 2 + 1) _ cur (.int .u64 xw) rfl rfl HWC.out (by kernel_rfl) (by kernel_rfl) ?_; clear HM9_; go_simp) | (refine M.load_cell_m HM rfl 23 _ rfl 0 _ _ _ _ _ rfl rfl rfl (by kernel_rfl) (by kernel_rfl) ?_; go_simp)) | (refine M.at_store 98 rfl ?_; first | (refine M.store_row_m HM rfl 98 _ _ rfl 0 _ _ _ _ rfl rfl rfl (by kernel_rfl) rfl (by simp [Value.oneCell']) ?_; clear HM; intro w_ HM; (try simp only [M.nrm] at HM); go_simp)) | (refine M.at_alloc 98 rfl ?_; first | (refine M.alloc_m HM rfl rfl 98 rfl (.agg #[(.int .i64 0), (.int .u64 0), (.bool false), (.bool false), (.bool false), (.bool false), (.int .i64 0)]) (by kernel_rfl) #[(.int .i64 0), (.int .u64 0), (.bool false), (.bool false), (.bool false), (.bool false), (.int .i64 0)] rfl ?_; clear HM; intro g_ w_ HM; go_simp)) | ((fail_if_success (refine M.lit_t rfl ?_)); (fail_if_success (refine M.lit_f rfl ?_)); refine M.split_guard rfl rfl ?_ ?_ <;> (intro hg_; simp only [hg_]; try simp only [M.hgs] at hg_)))
                | (refine Mc.at_cmp _ rfl ?_; refine Mc.cmp_m rfl _ rfl _ _ _ rfl _ _ _ rfl rfl _ rfl ?_ ?_ <;> (intro hg_; try simp only [M.hgs] at hg_; first | (exfalso; first | omega | (simp at hg_; done)) | (go_simp)))
                | ((fail_if_success (refine M.lit_t rfl ?_)); (fail_if_success (refine M.lit_f rfl ?_)); refine M.split_guard rfl rfl ?_ ?_ <;> (intro hg_; simp only [hg_]; try simp only [M.hgs] at hg_)))
              all_goals
                go_roundw
                case rel => exact ⟨i + 1, level + 1, ls, v_, L_, by omega, by first | rfl | (refine congrArg (fun z => Value.int .i64 z) ?_; omega), by first | rfl | (refine congrArg (fun z => Value.int .i64 z) ?_; omega), rfl, hr_, HSL.out, by rw [← HF.out, Nat.add_assoc, Nat.add_comm 1], HM.drop (A := [_])⟩
                case measure => first | (simp [intOf]; done) | (simp [intOf]; omega)
            · have hf := HF.out
              rw [decide_eq_false hlo] at hf
              simp only [Bool.false_eq_true, if_false] at hf
              have HF := Lib.hid hf; clear hf CA
              go_wp2_with (first
                | (go_big_skip)
                | (refine Sl.at_indexAddr 76 rfl ?_; refine Sl.indexAddr_m rfl _ rfl 76 rfl 77 (by kernel_rfl) 2 (by kernel_rfl) g (off) (n) (c) rfl .i64 (i : Int) rfl (by omega) (by omega) (off + i * 2) (by omega) ?_; go_simp)
                | (go_at_call 46; (with_reducible refine (M.call_pure (CD) HM).mono ?_); clear HM; rintro e w_ ⟨rfl, HM⟩; dsimp only)
                | (refine M.at_mem rfl ?_; first | (refine M.at_load 3 rfl ?_; first | (have HM9_ := HM.perm List.perm_append_comm; refine M.load_cell_m HM9_ rfl 23 _ rfl 0 g (off + i * 2 + 1) _ cur (.int .u64 xw) rfl rfl HWC.out (by kernel_rfl) (by kernel_rfl) ?_; clear HM9_; go_simp) | (refine M.load_cell_m HM rfl 3 _ rfl 0 _ _ _ _ _ rfl rfl rfl (by kernel_rfl) (by kernel_rfl) ?_; go_simp)) | (refine M.at_load 23 rfl ?_; first | (have HM9_ := HM.perm List.perm_append_comm; refine M.load_cell_m HM9_ rfl 23 _ rfl 0 g (off + i * 2 + 1) _ cur (.int .u64 xw) rfl rfl HWC.out (by kernel_rfl) (by kernel_rfl) ?_; clear HM9_; go_simp) | (refine M.load_cell_m HM rfl 23 _ rfl 0 _ _ _ _ _ rfl rfl rfl (by kernel_rfl) (by kernel_rfl) ?_; go_simp)) | (refine M.at_store 98 rfl ?_; first | (refine M.store_row_m HM rfl 98 _ _ rfl 0 _ _ _ _ rfl rfl rfl (by kernel_rfl) rfl (by simp [Value.oneCell']) ?_; clear HM; intro w_ HM; (try simp only [M.nrm] at HM); go_simp)) | (refine M.at_alloc 98 rfl ?_; first | (refine M.alloc_m HM rfl rfl 98 rfl (.agg #[(.int .i64 0), (.int .u64 0), (.bool false), (.bool false), (.bool false), (.bool false), (.int .i64 0)]) (by kernel_rfl) #[(.int .i64 0), (.int .u64 0), (.bool false), (.bool false), (.bool false), (.bool false), (.int .i64 0)] rfl ?_; clear HM; intro g_ w_ HM; go_simp)) | ((fail_if_success (refine M.lit_t rfl ?_)); (fail_if_success (refine M.lit_f rfl ?_)); refine M.split_guard rfl rfl ?_ ?_ <;> (intro hg_; simp only [hg_]; try simp only [M.hgs] at hg_)))
                | (refine Mc.at_cmp _ rfl ?_; refine Mc.cmp_m rfl _ rfl _ _ _ rfl _ _ _ rfl rfl _ rfl ?_ ?_ <;> (intro hg_; try simp only [M.hgs] at hg_; first | (exfalso; first | omega | (simp at hg_; done)) | (go_simp)))
                | ((fail_if_success (refine M.lit_t rfl ?_)); (fail_if_success (refine M.lit_f rfl ?_)); refine M.split_guard rfl rfl ?_ ?_ <;> (intro hg_; simp only [hg_]; try simp only [M.hgs] at hg_)))
              all_goals
                go_roundw
                case rel => exact ⟨i + 1, level + 1, l, _, Ac, by omega, by first | rfl | (refine congrArg (fun z => Value.int .i64 z) ?_; omega), by first | rfl | (refine congrArg (fun z => Value.int .i64 z) ?_; omega), rfl, HA.out, HL.out, by rw [← HF.out, Nat.add_assoc, Nat.add_comm 1], HM.drop (A := [_])⟩
                case measure => first | (simp [intOf]; done) | (simp [intOf]; omega)
          · rw [walked_not hlv' hd hk] at hfin
            have HF := Lib.hid hfin; have HA := Lib.hid hA; clear hfin hd hA
            obtain ⟨k1, k2, k3, k4, k5, k6, k7⟩ := d
            dsimp only at hk
            simp only [Em.refV, D7.val] at CD
            go_wp2_with (first
              | (go_big_skip)
              | (refine Sl.at_indexAddr 76 rfl ?_; refine Sl.indexAddr_m rfl _ rfl 76 rfl 77 (by kernel_rfl) 2 (by kernel_rfl) g (off) (n) (c) rfl .i64 (i : Int) rfl (by omega) (by omega) (off + i * 2) (by omega) ?_; go_simp)
              | (go_at_call 46; (with_reducible refine (M.call_pure (CD) HM).mono ?_); clear HM; rintro e w_ ⟨rfl, HM⟩; dsimp only)
              | (refine M.at_mem rfl ?_; first | (refine M.at_load 3 rfl ?_; first | (have HM9_ := HM.perm List.perm_append_comm; refine M.load_cell_m HM9_ rfl 23 _ rfl 0 g (off + i * 2 + 1) _ cur (.int .u64 xw) rfl rfl HWC.out (by kernel_rfl) (by kernel_rfl) ?_; clear HM9_; go_simp) | (refine M.load_cell_m HM rfl 3 _ rfl 0 _ _ _ _ _ rfl rfl rfl (by kernel_rfl) (by kernel_rfl) ?_; go_simp)) | (refine M.at_load 23 rfl ?_; first | (have HM9_ := HM.perm List.perm_append_comm; refine M.load_cell_m HM9_ rfl 23 _ rfl 0 g (off + i * 2 + 1) _ cur (.int .u64 xw) rfl rfl HWC.out (by kernel_rfl) (by kernel_rfl) ?_; clear HM9_; go_simp) | (refine M.load_cell_m HM rfl 23 _ rfl 0 _ _ _ _ _ rfl rfl rfl (by kernel_rfl) (by kernel_rfl) ?_; go_simp)) | (refine M.at_store 98 rfl ?_; first | (refine M.store_row_m HM rfl 98 _ _ rfl 0 _ _ _ _ rfl rfl rfl (by kernel_rfl) rfl (by simp [Value.oneCell']) ?_; clear HM; intro w_ HM; (try simp only [M.nrm] at HM); go_simp)) | (refine M.at_alloc 98 rfl ?_; first | (refine M.alloc_m HM rfl rfl 98 rfl (.agg #[(.int .i64 0), (.int .u64 0), (.bool false), (.bool false), (.bool false), (.bool false), (.int .i64 0)]) (by kernel_rfl) #[(.int .i64 0), (.int .u64 0), (.bool false), (.bool false), (.bool false), (.bool false), (.int .i64 0)] rfl ?_; clear HM; intro g_ w_ HM; go_simp)) | ((fail_if_success (refine M.lit_t rfl ?_)); (fail_if_success (refine M.lit_f rfl ?_)); refine M.split_guard rfl rfl ?_ ?_ <;> (intro hg_; simp only [hg_]; try simp only [M.hgs] at hg_)))
              | (refine Mc.at_cmp _ rfl ?_; refine Mc.cmp_m rfl _ rfl _ _ _ rfl _ _ _ rfl rfl _ rfl ?_ ?_ <;> (intro hg_; try simp only [M.hgs] at hg_; first | (exfalso; first | omega | (simp at hg_; done)) | (go_simp)))
              | ((fail_if_success (refine M.lit_t rfl ?_)); (fail_if_success (refine M.lit_f rfl ?_)); refine M.split_guard rfl rfl ?_ ?_ <;> (intro hg_; simp only [hg_]; try simp only [M.hgs] at hg_)))
            all_goals
              go_ret2
              first
              | exact ⟨_, _, rfl, ⟨_, congrArg (fun z : List K × Nat => Value.tuple #[_, .int .i64 (z.2 : Nat)]) HF.out, by rw [← HF.out]; exact HA.out⟩, (by first | exact (HM.drop (A := [_])).take | simpa using (HM.drop (A := [_])).take)⟩
              | exact ⟨_, rfl, _, ⟨_, congrArg (fun z : List K × Nat => Value.tuple #[_, .int .i64 (z.2 : Nat)]) HF.out, by rw [← HF.out]; exact HA.out⟩, (by first | exact (HM.drop (A := [_])).take | simpa using (HM.drop (A := [_])).take)⟩
    · obtain rfl : i = n := by omega
      rw [List.drop_eq_nil_of_le (by have := HN.out; omega)] at hfin
      simp only [walkedL] at hfin
      have HF := Lib.hid hfin; have HA := Lib.hid hA; clear hfin hA
      go_wp2_with (first
        | (go_big_skip)
        | (refine M.at_mem rfl ?_; first | (refine M.at_load 3 rfl ?_; first | (refine M.load_cell_m HM rfl 3 _ rfl 0 _ _ _ _ _ rfl rfl rfl (by kernel_rfl) (by kernel_rfl) ?_; go_simp)) | (refine M.at_load 23 rfl ?_; first | (refine M.load_cell_m HM rfl 23 _ rfl 0 _ _ _ _ _ rfl rfl rfl (by kernel_rfl) (by kernel_rfl) ?_; go_simp)) | (refine M.at_store 98 rfl ?_; first | (refine M.store_row_m HM rfl 98 _ _ rfl 0 _ _ _ _ rfl rfl rfl (by kernel_rfl) rfl (by simp [Value.oneCell']) ?_; clear HM; intro w_ HM; (try simp only [M.nrm] at HM); go_simp)) | (refine M.at_alloc 98 rfl ?_; first | (refine M.alloc_m HM rfl rfl 98 rfl (.agg #[(.int .i64 0), (.int .u64 0), (.bool false), (.bool false), (.bool false), (.bool false), (.int .i64 0)]) (by kernel_rfl) #[(.int .i64 0), (.int .u64 0), (.bool false), (.bool false), (.bool false), (.bool false), (.int .i64 0)] rfl ?_; clear HM; intro g_ w_ HM; go_simp)) | ((fail_if_success (refine M.lit_t rfl ?_)); (fail_if_success (refine M.lit_f rfl ?_)); refine M.split_guard rfl rfl ?_ ?_ <;> (intro hg_; simp only [hg_]; try simp only [M.hgs] at hg_)))
        | (refine Mc.at_cmp _ rfl ?_; refine Mc.cmp_m rfl _ rfl _ _ _ rfl _ _ _ rfl rfl _ rfl ?_ ?_ <;> (intro hg_; try simp only [M.hgs] at hg_; first | (exfalso; first | omega | (simp at hg_; done)) | (go_simp)))
        | ((fail_if_success (refine M.lit_t rfl ?_)); (fail_if_success (refine M.lit_f rfl ?_)); refine M.split_guard rfl rfl ?_ ?_ <;> (intro hg_; simp only [hg_]; try simp only [M.hgs] at hg_)))
      all_goals
        go_ret2
        first
        | exact ⟨_, _, rfl, ⟨_, congrArg (fun z : List K × Nat => Value.tuple #[_, .int .i64 (z.2 : Nat)]) HF.out, by rw [← HF.out]; exact HA.out⟩, HM.take⟩
        | exact ⟨_, rfl, _, ⟨_, congrArg (fun z : List K × Nat => Value.tuple #[_, .int .i64 (z.2 : Nat)]) HF.out, by rw [← HF.out]; exact HA.out⟩, HM.take⟩
end Go.Proofs.Ytmmljeekonechaa.Zk
