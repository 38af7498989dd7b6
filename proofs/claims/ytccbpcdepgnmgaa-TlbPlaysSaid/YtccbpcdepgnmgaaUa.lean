/- The document's buffer of entries: Fill, Find, Flush. -/
import Derived.Test.YtccbpcdepgnmgaaProg
import Derived.Test.YtccbpcdepgnmgaaLu
import Derived.Test.YtccbpcdepgnmgaaTg
import Derived.Test.YtccbpcdepgnmgaaTw
namespace Go.Proofs.Ytccbpcdepgnmgaa.Ua
open Go.Proofs.Ytccbpcdepgnmgaa.Te (E)
open Go.RowKit Go.Proofs.Ytccbpcdepgnmgaa.G Go.Proofs.Ytccbpcdepgnmgaa.B Go.Proofs.Ytccbpcdepgnmgaa.M Go.Proofs.Ytccbpcdepgnmgaa.Mv Go.Proofs.Ytccbpcdepgnmgaa.Sl Go.Proofs.Ytccbpcdepgnmgaa.Sm Go.Proofs.Ytccbpcdepgnmgaa.Sn Go.Proofs.Ytccbpcdepgnmgaa.Ls Go.Proofs.Ytccbpcdepgnmgaa.Lt Go.Proofs.Ytccbpcdepgnmgaa.Lu Go.Proofs.Ytccbpcdepgnmgaa.Dr Go.Proofs.Ytccbpcdepgnmgaa.Ds Go.Proofs.Ytccbpcdepgnmgaa.Tp Go.Proofs.Ytccbpcdepgnmgaa.Tq Go.Proofs.Ytccbpcdepgnmgaa.Tt Go.Proofs.Ytccbpcdepgnmgaa.Tu Go.Proofs.Ytccbpcdepgnmgaa.Tw Go.Proofs.Ytccbpcdepgnmgaa.Tg

set_option linter.unusedVariables false
set_option linter.unusedSimpArgs false
set_option maxRecDepth 100000
theorem Does.mid {P : Program} {f : FuncId} {args : Array Value} {A : Hp} (X B : Hp) {Rel : Value → Hp → Prop} {w0 u : World} {M : List Nat} (C : Does P f args A Rel) (h : Mem w0 M (X ++ (A ++ B)) u) :
    Calls P f args u fun e w' => ∃ v L', e = .returned v ∧ Rel v L' ∧ Mem w0 M (X ++ (L' ++ B)) w' := by
  have p : ∀ A : Hp, (X ++ (A ++ B)).Perm (A ++ (X ++ B)) := fun A => by
    rw [← List.append_assoc, ← List.append_assoc]
    exact List.Perm.append_right B List.perm_append_comm
  exact (C.call h (p A)).mono fun _ _ ⟨v, L', he, hr, hm⟩ => ⟨v, L', he, hr, hm.perm (p L').symm⟩
theorem row_cell {T : Type} {k : Nat} [Rec T k] {l : List T} {off : Nat} {cur : Array Value} (h : Row l off cur) {i : Nat} {e : T} (hi : l[i]? = some e) {j : Nat} {v : Value} (hj : (Rec.cells e)[j]? = some v) : cur[off + i * k + j]? = some v := by
  have hg := h.get hi
  have hjk : j < k := by have := (Array.getElem?_eq_some_iff.1 hj).1; rwa [Rec.size] at this
  have hf := h.fit (List.getElem?_eq_some_iff.1 hi).1
  rw [← hg, Array.getElem?_extract] at hj
  split at hj
  · exact hj
  · cases hj
instance : Rec E 10 := ⟨Te.E.cells, Te.E.size, Te.E.one, by decide⟩
theorem eqE2 : EqR Try.prog 30 E := Te.eqT2
theorem rightE_level {e : E} (h : rightE e = true) : 0 ≤ e.asid ∧ e.asid ≤ 255 ∧ 1 ≤ e.level ∧ e.level ≤ 3 := by
  unfold rightE at h
  simp only [Bool.and_eq_true, decide_eq_true_eq] at h
  exact h.1
def RL (l : List E) (r : Value) (L : Hp) : Prop := LR 30 l r L
def RIs (x : Value) (A : Hp) (r : Value) (L : Hp) : Prop := r = x ∧ L = A
def cutV (c i : Nat) (p : Option Addr) (n : Nat) : Value := .slice (if c = i then p else p.map (·.add (i * 10))) (n - i) (c - i)
theorem cut_rest {l : List E} {p : Option Addr} {n c i : Nat} {A : Hp} (h : LR 30 l (.slice p n c) A) (hn : l.length = n) (hi : i < n) : LR 30 (l.drop i) (cutV c i p n) A := by
  subst hn
  obtain ⟨p', c', e, -, -, h2⟩ := Lt.LR.rest h hi
  injection e with e1 e2 e3
  subst e1 e3
  exact h2
theorem filter_take {q : E → Bool} {l : List E} {i : Nat} {x : E} (h : l[i]? = some x) : (l.take (i + 1)).filter q = (l.take i).filter q ++ (if q x = true then [x] else []) := by
  rw [List.take_add_one, h, List.filter_append]
  simp [List.filter_cons]
theorem filter_yes {q : E → Bool} {l : List E} {i : Nat} {x : E} (h : l[i]? = some x) (hq : q x = true) : (l.take (i + 1)).filter q = (l.take i).filter q ++ [x] := by rw [filter_take h, if_pos hq]
theorem filter_no {q : E → Bool} {l : List E} {i : Nat} {x : E} (h : l[i]? = some x) (hq : q x = false) : (l.take (i + 1)).filter q = (l.take i).filter q := by rw [filter_take h, if_neg (by rw [hq]; simp), List.append_nil]
theorem filter_len (q : E → Bool) (l : List E) (i : Nat) : ((l.take i).filter q).length ≤ i := Nat.le_trans (List.length_filter_le _ _) (by rw [List.length_take]; omega)
theorem addL_drop {most : Int} {l : List E} {e : E} (h : ¬ e ∈ l) : addL most l e = if (l.length : Int) + 1 ≤ most then l ++ [e] else (l ++ [e]).drop 1 := by
  unfold addL
  rw [if_neg h, List.eraseIdx_zero, List.drop_one]
set_option maxHeartbeats 4000000 in
theorem radd_any {most : Int} {l : List E} {v : Value} {A : Hp} (hA : LR 30 l v A) (e : E) (h0 : 1 ≤ most) (h9 : most ≤ 900) (hl : (l.length : Int) ≤ most) : Does Try.prog 36 #[v, .int .i64 most, .agg e.cells] A (RL (addL most l e)) := by
  obtain ⟨p, c, rfl, hc, hV⟩ := hA.read
  generalize hn : l.length = n at hA hc hl
  have HA := Lib.hid hA; have HV := Lib.hid hV; have HN := Lib.hid hn
  clear hA hV hn
  intro w hH
  have HM := Mem.start hH
  go_enter Try.func36, Try.ntmps36
  go_wp2_with (first
    | (go_big_skip)
    | (refine Go.Proofs.Ytccbpcdepgnmgaa.M.at_reg 5 ?_; refine Mq.region_m (id := 5) HM (by kernel_rfl) (by kernel_rfl) ?_; (repeat (any_goals (first | go_big_quiet_skip | (refine Mq.qat_load 30 rfl ?_; go_big_quiet_want; first | (refine Mq.quiet_load_row 30 _ rfl 0 _ _ _ rfl rfl (by kernel_rfl) (by kernel_rfl) ?_; simp only [Act.put, List.setIfInBounds_toArray, List.set_cons_zero, List.set_cons_succ]; go_big_quiet_on)) | ((fail_if_success (refine Mq.qlit_t rfl ?_)); (fail_if_success (refine Mq.qlit_f rfl ?_)); refine Mq.qsplit rfl rfl ?_ ?_ <;> (intro hg_; simp only [hg_]; try simp only [Go.Proofs.Ytccbpcdepgnmgaa.M.hgs] at hg_)) | go_big_quiet_step (first | exact rfl)))); all_goals (refine Go.Proofs.Ytccbpcdepgnmgaa.G.wpQuiet_end ?_; clear HM; intro w_ HM))
    | (refine Go.Proofs.Ytccbpcdepgnmgaa.M.at_mem rfl ?_; first | (refine Go.Proofs.Ytccbpcdepgnmgaa.M.at_load 30 rfl ?_; first | (refine Go.Proofs.Ytccbpcdepgnmgaa.M.load_row_m HM rfl 30 _ rfl 0 _ _ _ rfl rfl (by kernel_rfl) (by kernel_rfl) ?_; go_simp)) | (refine Go.Proofs.Ytccbpcdepgnmgaa.M.at_box 30 rfl ?_; first | (refine Go.Proofs.Ytccbpcdepgnmgaa.M.box_m HM rfl rfl 30 _ rfl e.cells rfl ?_; clear HM; intro gE_ w_ HM; go_simp) | (refine Go.Proofs.Ytccbpcdepgnmgaa.M.box_m HM rfl rfl 30 _ rfl _ rfl ?_; clear HM; intro g_ w_ HM; go_simp)) | ((fail_if_success (refine Go.Proofs.Ytccbpcdepgnmgaa.M.lit_t rfl ?_)); (fail_if_success (refine Go.Proofs.Ytccbpcdepgnmgaa.M.lit_f rfl ?_)); refine Go.Proofs.Ytccbpcdepgnmgaa.M.split_guard rfl rfl ?_ ?_ <;> (intro hg_; simp only [hg_]; try simp only [Go.Proofs.Ytccbpcdepgnmgaa.M.hgs] at hg_)))
    | (refine Mc.at_cmp _ rfl ?_; refine Mc.cmp_m rfl _ rfl _ _ _ rfl _ _ _ rfl rfl _ rfl ?_ ?_ <;> (intro hg_; try simp only [Go.Proofs.Ytccbpcdepgnmgaa.M.hgs] at hg_; first | (exfalso; first | omega | (simp at hg_; done)) | (go_simp)))
    | ((fail_if_success (refine Go.Proofs.Ytccbpcdepgnmgaa.M.lit_t rfl ?_)); (fail_if_success (refine Go.Proofs.Ytccbpcdepgnmgaa.M.lit_f rfl ?_)); refine Go.Proofs.Ytccbpcdepgnmgaa.M.split_guard rfl rfl ?_ ?_ <;> (intro hg_; simp only [hg_]; try simp only [Go.Proofs.Ytccbpcdepgnmgaa.M.hgs] at hg_)))
  go_loopw [7, 8] (fun ov iv wr => ∃ (i : Nat) (vo : Value) (Ao : Hp), i ≤ n ∧ iv = .int .i64 i ∧ ov = vo ∧ ¬ (e ∈ l.take i) ∧ LR 30 (l.take i) vo Ao ∧ Mem w _ ((gE_, row e.cells 30) :: (A ++ Ao)) wr) (fun _ iv _ => n - (intOf iv).toNat)
  case atStart => exact ⟨0, _, [], by omega, rfl, rfl, by simp, LR.nil _, by simpa using HM⟩
  case round =>
    clear HM
    obtain ⟨i, vo, Ao, iR, rfl, rfl, hno, ho, HM⟩ := hrel
    have HO := Lib.hid ho; have HNO := Lib.hid hno; clear ho hno
    by_cases hlt : i < n
    · obtain ⟨x, hx⟩ : ∃ x, l[i]? = some x := ⟨_, List.getElem?_eq_getElem (by have := HN.out; omega)⟩
      rcases HV.out with ⟨-, hl, -⟩ | ⟨g, off, cur, rfl, hR, rfl⟩
      · rw [hl] at hx; simp at hx
      have hg := hR.get hx
      have hsz := hR.fit (List.getElem?_eq_some_iff.1 hx).1
      have HG := Lib.hid (show _ = x.cells from hg); have HOFF := Lib.hid hsz
      have hi1 : (i : Int) < n := by omega
      have HX := Lib.hid hx
      clear hg hsz hR hx
      simp only [List.cons_append, List.nil_append] at HM
      by_cases hxe : x = e
      · have hb : eqB .eql (decide (x = e)) = some true := by rw [decide_eq_true hxe]; rfl
        have HB := Lib.hid hb; clear hb hxe
        go_wp2_with (first
          | (go_big_skip)
          | (refine Go.Proofs.Ytccbpcdepgnmgaa.M.at_reg 5 ?_; refine Mq.region_m (id := 5) HM (by kernel_rfl) (by kernel_rfl) ?_; (repeat (any_goals (first | go_big_quiet_skip | (refine Sm.qat_indexAddr 51 rfl ?_; go_big_quiet_want; refine Sm.quiet_indexAddr_own 51 rfl 30 (by kernel_rfl) 10 (by kernel_rfl) g (off) (n) (c) rfl .i64 (i : Int) rfl (by omega) (by omega) (off + i * 10) (by omega) ?_; simp only [Act.put, List.setIfInBounds_toArray, List.set_cons_zero, List.set_cons_succ]; go_big_quiet_on) | (refine Ls.qat_bin .eql rfl ?_; go_big_quiet_want; refine Ls.quiet_eqR (T := E) rfl Go.Proofs.Ytccbpcdepgnmgaa.Ua.eqE2 (e := x) (f := e) rfl rfl (b := true) (HB.out) ?_; simp only [Act.put, List.setIfInBounds_toArray, List.set_cons_zero, List.set_cons_succ]; go_big_quiet_on) | (refine Mq.qat_load 30 rfl ?_; go_big_quiet_want; first | (refine Sn.quiet_load_part 30 _ rfl 1 g (off + i * 10) 10 _ cur rfl rfl HOFF.out x.cells HG.out (by kernel_rfl) (by kernel_rfl) ?_; simp only [Act.put, List.setIfInBounds_toArray, List.set_cons_zero, List.set_cons_succ]; go_big_quiet_on) | (refine Mq.quiet_load_row 30 _ rfl 0 _ _ _ rfl rfl (by kernel_rfl) (by kernel_rfl) ?_; simp only [Act.put, List.setIfInBounds_toArray, List.set_cons_zero, List.set_cons_succ]; go_big_quiet_on) | (refine Mq.quiet_load_row 30 _ rfl 1 _ _ _ rfl rfl (by kernel_rfl) (by kernel_rfl) ?_; simp only [Act.put, List.setIfInBounds_toArray, List.set_cons_zero, List.set_cons_succ]; go_big_quiet_on)) | ((fail_if_success (refine Mq.qlit_t rfl ?_)); (fail_if_success (refine Mq.qlit_f rfl ?_)); refine Mq.qsplit rfl rfl ?_ ?_ <;> (intro hg_; simp only [hg_]; try simp only [Go.Proofs.Ytccbpcdepgnmgaa.M.hgs] at hg_)) | go_big_quiet_step (first | exact rfl)))); all_goals (refine Go.Proofs.Ytccbpcdepgnmgaa.G.wpQuiet_end ?_; clear HM; intro w_ HM))
          | (refine Go.Proofs.Ytccbpcdepgnmgaa.M.at_mem rfl ?_; first | (refine Go.Proofs.Ytccbpcdepgnmgaa.M.at_load 30 rfl ?_; first | (refine Go.Proofs.Ytccbpcdepgnmgaa.M.load_row_m HM rfl 30 _ rfl 0 _ _ _ rfl rfl (by kernel_rfl) (by kernel_rfl) ?_; go_simp) | (refine Go.Proofs.Ytccbpcdepgnmgaa.M.load_row_m HM rfl 30 _ rfl 1 _ _ _ rfl rfl (by kernel_rfl) (by kernel_rfl) ?_; go_simp)) | (refine Go.Proofs.Ytccbpcdepgnmgaa.M.at_box 30 rfl ?_; first | (refine Go.Proofs.Ytccbpcdepgnmgaa.M.box_m HM rfl rfl 30 _ rfl _ rfl ?_; clear HM; intro g_ w_ HM; go_simp)) | ((fail_if_success (refine Go.Proofs.Ytccbpcdepgnmgaa.M.lit_t rfl ?_)); (fail_if_success (refine Go.Proofs.Ytccbpcdepgnmgaa.M.lit_f rfl ?_)); refine Go.Proofs.Ytccbpcdepgnmgaa.M.split_guard rfl rfl ?_ ?_ <;> (intro hg_; simp only [hg_]; try simp only [Go.Proofs.Ytccbpcdepgnmgaa.M.hgs] at hg_)))
          | (refine Mc.at_cmp _ rfl ?_; refine Mc.cmp_m rfl _ rfl _ _ _ rfl _ _ _ rfl rfl _ rfl ?_ ?_ <;> (intro hg_; try simp only [Go.Proofs.Ytccbpcdepgnmgaa.M.hgs] at hg_; first | (exfalso; first | omega | (simp at hg_; done)) | (go_simp)))
          | ((fail_if_success (refine Go.Proofs.Ytccbpcdepgnmgaa.M.lit_t rfl ?_)); (fail_if_success (refine Go.Proofs.Ytccbpcdepgnmgaa.M.lit_f rfl ?_)); refine Go.Proofs.Ytccbpcdepgnmgaa.M.split_guard rfl rfl ?_ ?_ <;> (intro hg_; simp only [hg_]; try simp only [Go.Proofs.Ytccbpcdepgnmgaa.M.hgs] at hg_)))
        all_goals
          go_ret
          have hin : x = e := by have := HB.out; simpa [eqB] using this
          refine ⟨_, _, rfl, ?_, (HM.drop (A := [_])).take (A := [_])⟩
          have he : addL most l e = l := by unfold addL; rw [if_pos (by rw [← hin]; exact List.mem_of_getElem? HX.out)]
          rw [he]
          exact HA.out
      · have hb : eqB .eql (decide (x = e)) = some false := by rw [decide_eq_false hxe]; rfl
        have htk : l.take (i + 1) = l.take i ++ [x] := by rw [List.take_add_one, HX.out]; rfl
        have HB := Lib.hid hb; have HXE := Lib.hid hxe; have HTK := Lib.hid htk; clear hb hxe htk
        have HLT := Lib.hid (show (l.take i).length + 1 = i + 1 by rw [List.length_take, HN.out]; omega)
        go_wp2_with (first
          | (go_big_skip)
          | (refine Sl.at_indexAddr 51 rfl ?_; refine Sl.indexAddr_m rfl _ rfl 51 rfl 30 (by kernel_rfl) 10 (by kernel_rfl) g (off) (n) (c) rfl .i64 (i : Int) rfl (by omega) (by omega) (off + i * 10) (by omega) ?_; go_simp)
          | (refine Sl.at_bslice 51 rfl ?_; first | (refine Ls.bslice1_m HM rfl rfl 51 30 _ rfl (by kernel_rfl) (x.cells) rfl (by kernel_rfl) ?_; clear HM; intro gb_ w_ HM; go_simp))
          | (refine Sm.at_call_append rfl ?_; refine Lu.append_lr2_m (R := [_, _, _]) HM rfl rfl _ _ 51 30 rfl 56 (by kernel_rfl) (by kernel_rfl) (l.take i) _ HO.out rfl (x) 0 _ rfl rfl (i + 1) HLT.out (by simp only [maxLen]; omega) (by omega) ?_; clear HM; intro p2_ c2_ Ao_ w_ hc2_ ho_ HM; (try simp only [List.cons_append, List.nil_append] at HM); go_simp)
          | (refine Go.Proofs.Ytccbpcdepgnmgaa.M.at_reg 5 ?_; refine Mq.region_m (id := 5) HM (by kernel_rfl) (by kernel_rfl) ?_; (repeat (any_goals (first | go_big_quiet_skip | (refine Sm.qat_indexAddr 51 rfl ?_; go_big_quiet_want; refine Sm.quiet_indexAddr_own 51 rfl 30 (by kernel_rfl) 10 (by kernel_rfl) g (off) (n) (c) rfl .i64 (i : Int) rfl (by omega) (by omega) (off + i * 10) (by omega) ?_; simp only [Act.put, List.setIfInBounds_toArray, List.set_cons_zero, List.set_cons_succ]; go_big_quiet_on) | (refine Ls.qat_bin .eql rfl ?_; go_big_quiet_want; refine Ls.quiet_eqR (T := E) rfl Go.Proofs.Ytccbpcdepgnmgaa.Ua.eqE2 (e := x) (f := e) rfl rfl (b := false) (HB.out) ?_; simp only [Act.put, List.setIfInBounds_toArray, List.set_cons_zero, List.set_cons_succ]; go_big_quiet_on) | (refine Mq.qat_load 30 rfl ?_; go_big_quiet_want; first | (refine Sn.quiet_load_part 30 _ rfl 1 g (off + i * 10) 10 _ cur rfl rfl HOFF.out x.cells HG.out (by kernel_rfl) (by kernel_rfl) ?_; simp only [Act.put, List.setIfInBounds_toArray, List.set_cons_zero, List.set_cons_succ]; go_big_quiet_on) | (refine Mq.quiet_load_row 30 _ rfl 0 _ _ _ rfl rfl (by kernel_rfl) (by kernel_rfl) ?_; simp only [Act.put, List.setIfInBounds_toArray, List.set_cons_zero, List.set_cons_succ]; go_big_quiet_on) | (refine Mq.quiet_load_row 30 _ rfl 1 _ _ _ rfl rfl (by kernel_rfl) (by kernel_rfl) ?_; simp only [Act.put, List.setIfInBounds_toArray, List.set_cons_zero, List.set_cons_succ]; go_big_quiet_on)) | ((fail_if_success (refine Mq.qlit_t rfl ?_)); (fail_if_success (refine Mq.qlit_f rfl ?_)); refine Mq.qsplit rfl rfl ?_ ?_ <;> (intro hg_; simp only [hg_]; try simp only [Go.Proofs.Ytccbpcdepgnmgaa.M.hgs] at hg_)) | go_big_quiet_step (first | exact rfl)))); all_goals (refine Go.Proofs.Ytccbpcdepgnmgaa.G.wpQuiet_end ?_; clear HM; intro w_ HM))
          | (refine Go.Proofs.Ytccbpcdepgnmgaa.M.at_mem rfl ?_; first | (refine Go.Proofs.Ytccbpcdepgnmgaa.M.at_load 30 rfl ?_; first | (refine Go.Proofs.Ytccbpcdepgnmgaa.M.load_part_m HM rfl 30 _ rfl 1 g (off + i * 10) 10 _ cur rfl rfl HOFF.out x.cells HG.out (by kernel_rfl) (by kernel_rfl) ?_; go_simp) | (refine Go.Proofs.Ytccbpcdepgnmgaa.M.load_row_m HM rfl 30 _ rfl 0 _ _ _ rfl rfl (by kernel_rfl) (by kernel_rfl) ?_; go_simp) | (refine Go.Proofs.Ytccbpcdepgnmgaa.M.load_row_m HM rfl 30 _ rfl 1 _ _ _ rfl rfl (by kernel_rfl) (by kernel_rfl) ?_; go_simp)) | (refine Go.Proofs.Ytccbpcdepgnmgaa.M.at_box 30 rfl ?_; first | (refine Go.Proofs.Ytccbpcdepgnmgaa.M.box_m HM rfl rfl 30 _ rfl _ rfl ?_; clear HM; intro g_ w_ HM; go_simp)) | ((fail_if_success (refine Go.Proofs.Ytccbpcdepgnmgaa.M.lit_t rfl ?_)); (fail_if_success (refine Go.Proofs.Ytccbpcdepgnmgaa.M.lit_f rfl ?_)); refine Go.Proofs.Ytccbpcdepgnmgaa.M.split_guard rfl rfl ?_ ?_ <;> (intro hg_; simp only [hg_]; try simp only [Go.Proofs.Ytccbpcdepgnmgaa.M.hgs] at hg_)))
          | (refine Mc.at_cmp _ rfl ?_; refine Mc.cmp_m rfl _ rfl _ _ _ rfl _ _ _ rfl rfl _ rfl ?_ ?_ <;> (intro hg_; try simp only [Go.Proofs.Ytccbpcdepgnmgaa.M.hgs] at hg_; first | (exfalso; first | omega | (simp at hg_; done)) | (go_simp)))
          | ((fail_if_success (refine Go.Proofs.Ytccbpcdepgnmgaa.M.lit_t rfl ?_)); (fail_if_success (refine Go.Proofs.Ytccbpcdepgnmgaa.M.lit_f rfl ?_)); refine Go.Proofs.Ytccbpcdepgnmgaa.M.split_guard rfl rfl ?_ ?_ <;> (intro hg_; simp only [hg_]; try simp only [Go.Proofs.Ytccbpcdepgnmgaa.M.hgs] at hg_)))
        all_goals
          go_roundw
          case rel => exact ⟨i + 1, _, Ao_, by omega, by first | rfl | (refine congrArg (fun z => Value.int .i64 z) ?_; omega), rfl, by rw [HTK.out, List.mem_append, List.mem_singleton]; exact fun h => h.elim HNO.out fun h => HXE.out h.symm, by rw [HTK.out]; exact ho_, HM.drop (A := [_])⟩
          case measure => first | (simp [intOf]; done) | (simp [intOf]; omega)
    · obtain rfl : i = n := by omega
      have htk : l.take i = l := List.take_of_length_le (by have := HN.out; omega)
      have hno := HNO.out; have ho := HO.out
      rw [htk] at hno ho
      clear HNO HO htk
      have hak := addL_drop (most := most) hno
      have HN1 := Lib.hid (show l.length + 1 = i + 1 by rw [HN.out])
      have HO := Lib.hid ho; have HAK := Lib.hid hak; clear ho hno hak
      by_cases hm : (i : Int) + 1 ≤ most
      · skip
        go_wp2_with (first
          | (go_big_skip)
          | (refine Sl.at_bslice 51 rfl ?_; first | (refine Ls.bslice1_m HM rfl rfl 51 30 _ rfl (by kernel_rfl) (e.cells) rfl (by kernel_rfl) ?_; clear HM; intro gb_ w_ HM; go_simp))
          | (refine Sm.at_call_append rfl ?_; refine Lu.append_lr2_m (R := [_, _] ++ A) HM rfl rfl _ _ 51 30 rfl 56 (by kernel_rfl) (by kernel_rfl) l _ HO.out rfl (e) 0 _ rfl rfl (i + 1) HN1.out (by simp only [maxLen]; omega) (by omega) ?_; clear HM; intro p2_ c2_ Ao_ w_ hc2_ ho_ HM; (try simp only [List.cons_append, List.nil_append] at HM); go_simp)
          | (refine Go.Proofs.Ytccbpcdepgnmgaa.M.at_reg 5 ?_; refine Mq.region_m (id := 5) HM (by kernel_rfl) (by kernel_rfl) ?_; (repeat (any_goals (first | go_big_quiet_skip | (refine Mq.qat_load 30 rfl ?_; go_big_quiet_want; first | (refine Mq.quiet_load_row 30 _ rfl 0 _ _ _ rfl rfl (by kernel_rfl) (by kernel_rfl) ?_; simp only [Act.put, List.setIfInBounds_toArray, List.set_cons_zero, List.set_cons_succ]; go_big_quiet_on) | (refine Mq.quiet_load_row 30 _ rfl 1 _ _ _ rfl rfl (by kernel_rfl) (by kernel_rfl) ?_; simp only [Act.put, List.setIfInBounds_toArray, List.set_cons_zero, List.set_cons_succ]; go_big_quiet_on)) | ((fail_if_success (refine Mq.qlit_t rfl ?_)); (fail_if_success (refine Mq.qlit_f rfl ?_)); refine Mq.qsplit rfl rfl ?_ ?_ <;> (intro hg_; simp only [hg_]; try simp only [Go.Proofs.Ytccbpcdepgnmgaa.M.hgs] at hg_)) | go_big_quiet_step (first | exact rfl)))); all_goals (refine Go.Proofs.Ytccbpcdepgnmgaa.G.wpQuiet_end ?_; clear HM; intro w_ HM))
          | (refine Go.Proofs.Ytccbpcdepgnmgaa.M.at_mem rfl ?_; first | (refine Go.Proofs.Ytccbpcdepgnmgaa.M.at_load 30 rfl ?_; first | (refine Go.Proofs.Ytccbpcdepgnmgaa.M.load_row_m HM rfl 30 _ rfl 0 _ _ _ rfl rfl (by kernel_rfl) (by kernel_rfl) ?_; go_simp) | (refine Go.Proofs.Ytccbpcdepgnmgaa.M.load_row_m HM rfl 30 _ rfl 1 _ _ _ rfl rfl (by kernel_rfl) (by kernel_rfl) ?_; go_simp)) | (refine Go.Proofs.Ytccbpcdepgnmgaa.M.at_box 30 rfl ?_; first | (refine Go.Proofs.Ytccbpcdepgnmgaa.M.box_m HM rfl rfl 30 _ rfl _ rfl ?_; clear HM; intro g_ w_ HM; go_simp)) | ((fail_if_success (refine Go.Proofs.Ytccbpcdepgnmgaa.M.lit_t rfl ?_)); (fail_if_success (refine Go.Proofs.Ytccbpcdepgnmgaa.M.lit_f rfl ?_)); refine Go.Proofs.Ytccbpcdepgnmgaa.M.split_guard rfl rfl ?_ ?_ <;> (intro hg_; simp only [hg_]; try simp only [Go.Proofs.Ytccbpcdepgnmgaa.M.hgs] at hg_)))
          | (refine Mc.at_cmp _ rfl ?_; refine Mc.cmp_m rfl _ rfl _ _ _ rfl _ _ _ rfl rfl _ rfl ?_ ?_ <;> (intro hg_; try simp only [Go.Proofs.Ytccbpcdepgnmgaa.M.hgs] at hg_; first | (exfalso; first | omega | (simp at hg_; done)) | (go_simp)))
          | ((fail_if_success (refine Go.Proofs.Ytccbpcdepgnmgaa.M.lit_t rfl ?_)); (fail_if_success (refine Go.Proofs.Ytccbpcdepgnmgaa.M.lit_f rfl ?_)); refine Go.Proofs.Ytccbpcdepgnmgaa.M.split_guard rfl rfl ?_ ?_ <;> (intro hg_; simp only [hg_]; try simp only [Go.Proofs.Ytccbpcdepgnmgaa.M.hgs] at hg_)))
        all_goals
          go_ret
          first | refine ⟨_, _, rfl, ?_, (HM.drop (A := [_, _] ++ A))⟩ | refine ⟨_, rfl, _, ?_, (HM.drop (A := [_, _] ++ A))⟩
          rw [HAK.out, if_pos (by rw [HN.out]; exact hm)]
          exact ho_
      · have hm2 : most < (i : Int) + 1 := by omega
        go_wp2_with (first
          | (go_big_skip)
          | (refine Sl.at_bslice 51 rfl ?_; first | (refine Ls.bslice1_m HM rfl rfl 51 30 _ rfl (by kernel_rfl) (e.cells) rfl (by kernel_rfl) ?_; clear HM; intro gb_ w_ HM; go_simp))
          | (refine Sm.at_call_append rfl ?_; refine Lu.append_lr2_m (R := [_, _] ++ A) HM rfl rfl _ _ 51 30 rfl 56 (by kernel_rfl) (by kernel_rfl) l _ HO.out rfl (e) 0 _ rfl rfl (i + 1) HN1.out (by simp only [maxLen]; omega) (by omega) ?_; clear HM; intro p2_ c2_ Ao_ w_ hc2_ ho_ HM; (try simp only [List.cons_append, List.nil_append] at HM); go_simp)
          | (refine Lt.at_slice 51 rfl ?_; refine Lt.slice_m rfl _ rfl 51 30 rfl (by kernel_rfl) 10 (by kernel_rfl) p2_ (i + 1) c2_ rfl 1 (i + 1) c2_ (Or.inl ⟨rfl, rfl⟩) (Or.inl ⟨rfl, rfl, rfl⟩) (Or.inr ⟨_, rfl, by omega⟩) (cutV c2_ 1 p2_ (i + 1)) rfl ?_; go_simp)
          | (refine Go.Proofs.Ytccbpcdepgnmgaa.M.at_reg 5 ?_; refine Mq.region_m (id := 5) HM (by kernel_rfl) (by kernel_rfl) ?_; (repeat (any_goals (first | go_big_quiet_skip | (refine Mq.qat_load 30 rfl ?_; go_big_quiet_want; first | (refine Mq.quiet_load_row 30 _ rfl 0 _ _ _ rfl rfl (by kernel_rfl) (by kernel_rfl) ?_; simp only [Act.put, List.setIfInBounds_toArray, List.set_cons_zero, List.set_cons_succ]; go_big_quiet_on) | (refine Mq.quiet_load_row 30 _ rfl 1 _ _ _ rfl rfl (by kernel_rfl) (by kernel_rfl) ?_; simp only [Act.put, List.setIfInBounds_toArray, List.set_cons_zero, List.set_cons_succ]; go_big_quiet_on)) | ((fail_if_success (refine Mq.qlit_t rfl ?_)); (fail_if_success (refine Mq.qlit_f rfl ?_)); refine Mq.qsplit rfl rfl ?_ ?_ <;> (intro hg_; simp only [hg_]; try simp only [Go.Proofs.Ytccbpcdepgnmgaa.M.hgs] at hg_)) | go_big_quiet_step (first | exact rfl)))); all_goals (refine Go.Proofs.Ytccbpcdepgnmgaa.G.wpQuiet_end ?_; clear HM; intro w_ HM))
          | (refine Go.Proofs.Ytccbpcdepgnmgaa.M.at_mem rfl ?_; first | (refine Go.Proofs.Ytccbpcdepgnmgaa.M.at_load 30 rfl ?_; first | (refine Go.Proofs.Ytccbpcdepgnmgaa.M.load_row_m HM rfl 30 _ rfl 0 _ _ _ rfl rfl (by kernel_rfl) (by kernel_rfl) ?_; go_simp) | (refine Go.Proofs.Ytccbpcdepgnmgaa.M.load_row_m HM rfl 30 _ rfl 1 _ _ _ rfl rfl (by kernel_rfl) (by kernel_rfl) ?_; go_simp)) | (refine Go.Proofs.Ytccbpcdepgnmgaa.M.at_box 30 rfl ?_; first | (refine Go.Proofs.Ytccbpcdepgnmgaa.M.box_m HM rfl rfl 30 _ rfl _ rfl ?_; clear HM; intro g_ w_ HM; go_simp)) | ((fail_if_success (refine Go.Proofs.Ytccbpcdepgnmgaa.M.lit_t rfl ?_)); (fail_if_success (refine Go.Proofs.Ytccbpcdepgnmgaa.M.lit_f rfl ?_)); refine Go.Proofs.Ytccbpcdepgnmgaa.M.split_guard rfl rfl ?_ ?_ <;> (intro hg_; simp only [hg_]; try simp only [Go.Proofs.Ytccbpcdepgnmgaa.M.hgs] at hg_)))
          | (refine Mc.at_cmp _ rfl ?_; refine Mc.cmp_m rfl _ rfl _ _ _ rfl _ _ _ rfl rfl _ rfl ?_ ?_ <;> (intro hg_; try simp only [Go.Proofs.Ytccbpcdepgnmgaa.M.hgs] at hg_; first | (exfalso; first | omega | (simp at hg_; done)) | (go_simp)))
          | ((fail_if_success (refine Go.Proofs.Ytccbpcdepgnmgaa.M.lit_t rfl ?_)); (fail_if_success (refine Go.Proofs.Ytccbpcdepgnmgaa.M.lit_f rfl ?_)); refine Go.Proofs.Ytccbpcdepgnmgaa.M.split_guard rfl rfl ?_ ?_ <;> (intro hg_; simp only [hg_]; try simp only [Go.Proofs.Ytccbpcdepgnmgaa.M.hgs] at hg_)))
        all_goals
          go_ret
          first | refine ⟨_, _, rfl, ?_, (HM.drop (A := [_, _] ++ A))⟩ | refine ⟨_, rfl, _, ?_, (HM.drop (A := [_, _] ++ A))⟩
          rw [HAK.out, if_neg (by rw [HN.out]; omega)]
          exact cut_rest (i := 1) ho_ (by rw [List.length_append, List.length_singleton, HN.out]) (by omega)
set_option maxHeartbeats 4000000 in
theorem rflush_va {l : List E} {v : Value} {A : Hp} (hA : LR 30 l v A) (hok : ∀ k ∈ l, rightE k = true) (h1 : l.length ≤ 1000) (asid va : Int) (v0 : 0 ≤ va) (v1 : va < 18446744073709551616) : Does Try.prog 39 #[v, .int .i64 asid, .bool true, .int .u64 va] A (RL (l.filter (fun e : E => !matchE e asid va))) := by
  obtain ⟨p, c, rfl, hc, hV⟩ := hA.read
  generalize hn : l.length = n at hA h1 hc
  have HV := Lib.hid hV; have HN := Lib.hid hn; have HOK := Lib.hid hok
  clear hA hV hn hok
  have hn1 : (n : Int) ≤ 1000 := by omega
  generalize hq : (fun e : E => !matchE e asid va) = q
  have hqe : ∀ x : E, q x = (!matchE x asid va) := fun x => by rw [← hq]
  have HQ := Lib.hid hqe
  clear hq hqe
  intro w hH
  have HM := Mem.start hH
  go_enter Try.func39, Try.ntmps39
  go_wp2_with (first
    | (go_big_skip)
    | (refine Go.Proofs.Ytccbpcdepgnmgaa.M.at_mem rfl ?_; first | (refine Go.Proofs.Ytccbpcdepgnmgaa.M.at_load 3 rfl ?_; first | (refine Go.Proofs.Ytccbpcdepgnmgaa.M.load_cell_m HM rfl 3 _ rfl 0 _ _ _ _ _ rfl rfl rfl (by kernel_rfl) (by kernel_rfl) ?_; go_simp)) | (refine Go.Proofs.Ytccbpcdepgnmgaa.M.at_load 30 rfl ?_; first | (refine Go.Proofs.Ytccbpcdepgnmgaa.M.load_row_m HM rfl 30 _ rfl 0 _ _ _ rfl rfl (by kernel_rfl) (by kernel_rfl) ?_; go_simp)) | ((fail_if_success (refine Go.Proofs.Ytccbpcdepgnmgaa.M.lit_t rfl ?_)); (fail_if_success (refine Go.Proofs.Ytccbpcdepgnmgaa.M.lit_f rfl ?_)); refine Go.Proofs.Ytccbpcdepgnmgaa.M.split_guard rfl rfl ?_ ?_ <;> (intro hg_; simp only [hg_]; try simp only [Go.Proofs.Ytccbpcdepgnmgaa.M.hgs] at hg_)))
    | (refine Mc.at_cmp _ rfl ?_; refine Mc.cmp_m rfl _ rfl _ _ _ rfl _ _ _ rfl rfl _ rfl ?_ ?_ <;> (intro hg_; try simp only [Go.Proofs.Ytccbpcdepgnmgaa.M.hgs] at hg_; first | (exfalso; first | omega | (simp at hg_; done)) | (go_simp)))
    | ((fail_if_success (refine Go.Proofs.Ytccbpcdepgnmgaa.M.lit_t rfl ?_)); (fail_if_success (refine Go.Proofs.Ytccbpcdepgnmgaa.M.lit_f rfl ?_)); refine Go.Proofs.Ytccbpcdepgnmgaa.M.split_guard rfl rfl ?_ ?_ <;> (intro hg_; simp only [hg_]; try simp only [Go.Proofs.Ytccbpcdepgnmgaa.M.hgs] at hg_)))
  go_loopw [9, 10] (fun ov iv wr => ∃ (i : Nat) (vo : Value) (Ao : Hp), i ≤ n ∧ iv = .int .i64 i ∧ ov = vo ∧ LR 30 ((l.take i).filter q) vo Ao ∧ Mem w _ (A ++ Ao) wr) (fun _ iv _ => n - (intOf iv).toNat)
  case atStart => exact ⟨0, _, [], by omega, rfl, rfl, LR.nil _, by simpa using HM⟩
  case round =>
    clear HM
    obtain ⟨i, vo, Ao, iR, rfl, rfl, ho, HM⟩ := hrel
    by_cases hlt : i < n
    · obtain ⟨x, hx⟩ : ∃ x, l[i]? = some x := ⟨_, List.getElem?_eq_getElem (by have := HN.out; omega)⟩
      have hfy := filter_yes (q := q) hx
      have hfn := filter_no (q := q) hx
      have hfl := filter_len q l i
      rcases HV.out with ⟨-, hl, -⟩ | ⟨g, off, cur, rfl, hR, rfl⟩
      · rw [hl] at hx; simp at hx
      have hg := hR.get hx
      have hsz := hR.fit (List.getElem?_eq_some_iff.1 hx).1
      have hac := row_cell hR hx (j := 0) (v := .int .i64 x.asid) rfl
      have hrx := rightE_level (HOK.out x (List.mem_of_getElem? hx))
      have CL := fun w => rmatch_any x asid va v0 v1 (by omega) hrx.2.2.2 w
      have hi1 : (i : Int) < n := by omega
      have HFY := Lib.hid hfy; have HFN := Lib.hid hfn; have HG := Lib.hid (show _ = x.cells from hg); have HOFF := Lib.hid hsz; have HAC := Lib.hid hac
      clear hfy hfn hR hx hg hsz hac hrx
      simp only [List.cons_append, List.nil_append] at HM
      have HO := Lib.hid ho; clear ho
      have hqx := HQ.out x
      generalize (l.take i).filter q = lo at HO HFY HFN hfl
      rcases Bool.eq_false_or_eq_true (matchE x asid va) with hz | hz
      · have hqf : q x = false := by rw [hqx, hz]; rfl
        have HQX := Lib.hid hqf; clear hqf hqx
        rw [hz] at CL; clear hz
        go_wp2_with (first
          | (go_big_skip)
          | (refine Sl.at_indexAddr 51 rfl ?_; refine Sl.indexAddr_m rfl _ rfl 51 rfl 30 (by kernel_rfl) 10 (by kernel_rfl) g (off) (n) (c) rfl .i64 (i : Int) rfl (by omega) (by omega) (off + i * 10) (by omega) ?_; go_simp)
          | (go_at_call 50; (with_reducible refine (Go.Proofs.Ytccbpcdepgnmgaa.M.call_pure (CL) HM).mono ?_); clear HM; rintro e w_ ⟨rfl, HM⟩; dsimp only)
          | (refine Go.Proofs.Ytccbpcdepgnmgaa.M.at_mem rfl ?_; first | (refine Go.Proofs.Ytccbpcdepgnmgaa.M.at_load 3 rfl ?_; first | (refine Go.Proofs.Ytccbpcdepgnmgaa.M.load_part_m HM rfl 30 _ rfl 1 g (off + i * 10) 10 _ cur rfl rfl HOFF.out x.cells HG.out (by kernel_rfl) (by kernel_rfl) ?_; go_simp) | (refine Go.Proofs.Ytccbpcdepgnmgaa.M.load_cell_m HM rfl 3 _ rfl 0 g (off + i * 10) _ cur (.int .i64 x.asid) rfl rfl HAC.out (by kernel_rfl) (by kernel_rfl) ?_; go_simp) | (refine Go.Proofs.Ytccbpcdepgnmgaa.M.load_part_m HM rfl 30 _ rfl 0 g (off + i * 10) 10 _ cur rfl rfl HOFF.out x.cells HG.out (by kernel_rfl) (by kernel_rfl) ?_; go_simp) | (refine Go.Proofs.Ytccbpcdepgnmgaa.M.load_cell_m HM rfl 3 _ rfl 0 _ _ _ _ _ rfl rfl rfl (by kernel_rfl) (by kernel_rfl) ?_; go_simp) | (refine Go.Proofs.Ytccbpcdepgnmgaa.M.load_cell_m HM rfl 3 _ rfl 1 _ _ _ _ _ rfl rfl rfl (by kernel_rfl) (by kernel_rfl) ?_; go_simp)) | (refine Go.Proofs.Ytccbpcdepgnmgaa.M.at_load 30 rfl ?_; first | (refine Go.Proofs.Ytccbpcdepgnmgaa.M.load_part_m HM rfl 30 _ rfl 1 g (off + i * 10) 10 _ cur rfl rfl HOFF.out x.cells HG.out (by kernel_rfl) (by kernel_rfl) ?_; go_simp) | (refine Go.Proofs.Ytccbpcdepgnmgaa.M.load_cell_m HM rfl 3 _ rfl 0 g (off + i * 10) _ cur (.int .i64 x.asid) rfl rfl HAC.out (by kernel_rfl) (by kernel_rfl) ?_; go_simp) | (refine Go.Proofs.Ytccbpcdepgnmgaa.M.load_part_m HM rfl 30 _ rfl 0 g (off + i * 10) 10 _ cur rfl rfl HOFF.out x.cells HG.out (by kernel_rfl) (by kernel_rfl) ?_; go_simp) | (refine Go.Proofs.Ytccbpcdepgnmgaa.M.load_row_m HM rfl 30 _ rfl 0 _ _ _ rfl rfl (by kernel_rfl) (by kernel_rfl) ?_; go_simp) | (refine Go.Proofs.Ytccbpcdepgnmgaa.M.load_row_m HM rfl 30 _ rfl 1 _ _ _ rfl rfl (by kernel_rfl) (by kernel_rfl) ?_; go_simp)) | ((fail_if_success (refine Go.Proofs.Ytccbpcdepgnmgaa.M.lit_t rfl ?_)); (fail_if_success (refine Go.Proofs.Ytccbpcdepgnmgaa.M.lit_f rfl ?_)); refine Go.Proofs.Ytccbpcdepgnmgaa.M.split_guard rfl rfl ?_ ?_ <;> (intro hg_; simp only [hg_]; try simp only [Go.Proofs.Ytccbpcdepgnmgaa.M.hgs] at hg_)))
          | (refine Mc.at_cmp _ rfl ?_; refine Mc.cmp_m rfl _ rfl _ _ _ rfl _ _ _ rfl rfl _ rfl ?_ ?_ <;> (intro hg_; try simp only [Go.Proofs.Ytccbpcdepgnmgaa.M.hgs] at hg_; first | (exfalso; first | omega | (simp at hg_; done)) | (go_simp)))
          | ((fail_if_success (refine Go.Proofs.Ytccbpcdepgnmgaa.M.lit_t rfl ?_)); (fail_if_success (refine Go.Proofs.Ytccbpcdepgnmgaa.M.lit_f rfl ?_)); refine Go.Proofs.Ytccbpcdepgnmgaa.M.split_guard rfl rfl ?_ ?_ <;> (intro hg_; simp only [hg_]; try simp only [Go.Proofs.Ytccbpcdepgnmgaa.M.hgs] at hg_)))
        all_goals
          go_roundw
          case rel => exact ⟨i + 1, _, Ao, by omega, by first | rfl | (refine congrArg (fun z => Value.int .i64 z) ?_; omega), rfl, by rw [HFN.out HQX.out]; exact HO.out, HM⟩
          case measure => first | (simp [intOf]; done) | (simp [intOf]; omega)
      · have hqf : q x = true := by rw [hqx, hz]; rfl
        have HQX := Lib.hid hqf; clear hqf hqx
        rw [hz] at CL; clear hz
        go_wp2_with (first
          | (go_big_skip)
          | (refine Sl.at_indexAddr 51 rfl ?_; refine Sl.indexAddr_m rfl _ rfl 51 rfl 30 (by kernel_rfl) 10 (by kernel_rfl) g (off) (n) (c) rfl .i64 (i : Int) rfl (by omega) (by omega) (off + i * 10) (by omega) ?_; go_simp)
          | (refine Sl.at_bslice 51 rfl ?_; first | (refine Ls.bslice1_m HM rfl rfl 51 30 _ rfl (by kernel_rfl) (x.cells) rfl (by kernel_rfl) ?_; clear HM; intro gb_ w_ HM; go_simp))
          | (refine Sm.at_call_append rfl ?_; first | (refine Ls.append_lr_m (R := [_]) HM rfl rfl _ _ 51 30 rfl 56 (by kernel_rfl) (by kernel_rfl) _ _ HO.out rfl (x) 0 _ rfl rfl (by (try simp only [maxLen, List.length_append, List.length_cons, List.length_nil]); omega) (by (try simp only [List.length_append, List.length_cons, List.length_nil]); omega) ?_; clear HM HO; intro vo_ Ao_ w_ ho_ HM; have HO := Lib.hid ho_; clear ho_; (try simp only [List.cons_append, List.nil_append] at HM); go_simp) | (refine Ls.append_lr_m (R := [_, _]) HM rfl rfl _ _ 51 30 rfl 56 (by kernel_rfl) (by kernel_rfl) _ _ HO.out rfl (x) 0 _ rfl rfl (by (try simp only [maxLen, List.length_append, List.length_cons, List.length_nil]); omega) (by (try simp only [List.length_append, List.length_cons, List.length_nil]); omega) ?_; clear HM HO; intro vo_ Ao_ w_ ho_ HM; have HO := Lib.hid ho_; clear ho_; (try simp only [List.cons_append, List.nil_append] at HM); go_simp) | (refine Ls.append_lr_m (R := [_, _, _]) HM rfl rfl _ _ 51 30 rfl 56 (by kernel_rfl) (by kernel_rfl) _ _ HO.out rfl (x) 0 _ rfl rfl (by (try simp only [maxLen, List.length_append, List.length_cons, List.length_nil]); omega) (by (try simp only [List.length_append, List.length_cons, List.length_nil]); omega) ?_; clear HM HO; intro vo_ Ao_ w_ ho_ HM; have HO := Lib.hid ho_; clear ho_; (try simp only [List.cons_append, List.nil_append] at HM); go_simp) | (refine Ls.append_lr_m (R := [_, _, _, _]) HM rfl rfl _ _ 51 30 rfl 56 (by kernel_rfl) (by kernel_rfl) _ _ HO.out rfl (x) 0 _ rfl rfl (by (try simp only [maxLen, List.length_append, List.length_cons, List.length_nil]); omega) (by (try simp only [List.length_append, List.length_cons, List.length_nil]); omega) ?_; clear HM HO; intro vo_ Ao_ w_ ho_ HM; have HO := Lib.hid ho_; clear ho_; (try simp only [List.cons_append, List.nil_append] at HM); go_simp) | (refine Ls.append_lr_m (R := [_, _, _, _, _]) HM rfl rfl _ _ 51 30 rfl 56 (by kernel_rfl) (by kernel_rfl) _ _ HO.out rfl (x) 0 _ rfl rfl (by (try simp only [maxLen, List.length_append, List.length_cons, List.length_nil]); omega) (by (try simp only [List.length_append, List.length_cons, List.length_nil]); omega) ?_; clear HM HO; intro vo_ Ao_ w_ ho_ HM; have HO := Lib.hid ho_; clear ho_; (try simp only [List.cons_append, List.nil_append] at HM); go_simp) | (refine Ls.append_lr_m (R := [_, _, _, _, _, _]) HM rfl rfl _ _ 51 30 rfl 56 (by kernel_rfl) (by kernel_rfl) _ _ HO.out rfl (x) 0 _ rfl rfl (by (try simp only [maxLen, List.length_append, List.length_cons, List.length_nil]); omega) (by (try simp only [List.length_append, List.length_cons, List.length_nil]); omega) ?_; clear HM HO; intro vo_ Ao_ w_ ho_ HM; have HO := Lib.hid ho_; clear ho_; (try simp only [List.cons_append, List.nil_append] at HM); go_simp) | (refine Ls.append_lr_m (R := [_, _, _, _, _, _, _]) HM rfl rfl _ _ 51 30 rfl 56 (by kernel_rfl) (by kernel_rfl) _ _ HO.out rfl (x) 0 _ rfl rfl (by (try simp only [maxLen, List.length_append, List.length_cons, List.length_nil]); omega) (by (try simp only [List.length_append, List.length_cons, List.length_nil]); omega) ?_; clear HM HO; intro vo_ Ao_ w_ ho_ HM; have HO := Lib.hid ho_; clear ho_; (try simp only [List.cons_append, List.nil_append] at HM); go_simp) | (refine Ls.append_lr_m (R := [_, _, _, _, _, _, _, _]) HM rfl rfl _ _ 51 30 rfl 56 (by kernel_rfl) (by kernel_rfl) _ _ HO.out rfl (x) 0 _ rfl rfl (by (try simp only [maxLen, List.length_append, List.length_cons, List.length_nil]); omega) (by (try simp only [List.length_append, List.length_cons, List.length_nil]); omega) ?_; clear HM HO; intro vo_ Ao_ w_ ho_ HM; have HO := Lib.hid ho_; clear ho_; (try simp only [List.cons_append, List.nil_append] at HM); go_simp))
          | (go_at_call 50; (with_reducible refine (Go.Proofs.Ytccbpcdepgnmgaa.M.call_pure (CL) HM).mono ?_); clear HM; rintro e w_ ⟨rfl, HM⟩; dsimp only)
          | (refine Go.Proofs.Ytccbpcdepgnmgaa.M.at_mem rfl ?_; first | (refine Go.Proofs.Ytccbpcdepgnmgaa.M.at_load 3 rfl ?_; first | (refine Go.Proofs.Ytccbpcdepgnmgaa.M.load_part_m HM rfl 30 _ rfl 1 g (off + i * 10) 10 _ cur rfl rfl HOFF.out x.cells HG.out (by kernel_rfl) (by kernel_rfl) ?_; go_simp) | (refine Go.Proofs.Ytccbpcdepgnmgaa.M.load_cell_m HM rfl 3 _ rfl 0 g (off + i * 10) _ cur (.int .i64 x.asid) rfl rfl HAC.out (by kernel_rfl) (by kernel_rfl) ?_; go_simp) | (refine Go.Proofs.Ytccbpcdepgnmgaa.M.load_part_m HM rfl 30 _ rfl 0 g (off + i * 10) 10 _ cur rfl rfl HOFF.out x.cells HG.out (by kernel_rfl) (by kernel_rfl) ?_; go_simp) | (refine Go.Proofs.Ytccbpcdepgnmgaa.M.load_cell_m HM rfl 3 _ rfl 0 _ _ _ _ _ rfl rfl rfl (by kernel_rfl) (by kernel_rfl) ?_; go_simp) | (refine Go.Proofs.Ytccbpcdepgnmgaa.M.load_cell_m HM rfl 3 _ rfl 1 _ _ _ _ _ rfl rfl rfl (by kernel_rfl) (by kernel_rfl) ?_; go_simp)) | (refine Go.Proofs.Ytccbpcdepgnmgaa.M.at_load 30 rfl ?_; first | (refine Go.Proofs.Ytccbpcdepgnmgaa.M.load_part_m HM rfl 30 _ rfl 1 g (off + i * 10) 10 _ cur rfl rfl HOFF.out x.cells HG.out (by kernel_rfl) (by kernel_rfl) ?_; go_simp) | (refine Go.Proofs.Ytccbpcdepgnmgaa.M.load_cell_m HM rfl 3 _ rfl 0 g (off + i * 10) _ cur (.int .i64 x.asid) rfl rfl HAC.out (by kernel_rfl) (by kernel_rfl) ?_; go_simp) | (refine Go.Proofs.Ytccbpcdepgnmgaa.M.load_part_m HM rfl 30 _ rfl 0 g (off + i * 10) 10 _ cur rfl rfl HOFF.out x.cells HG.out (by kernel_rfl) (by kernel_rfl) ?_; go_simp) | (refine Go.Proofs.Ytccbpcdepgnmgaa.M.load_row_m HM rfl 30 _ rfl 0 _ _ _ rfl rfl (by kernel_rfl) (by kernel_rfl) ?_; go_simp) | (refine Go.Proofs.Ytccbpcdepgnmgaa.M.load_row_m HM rfl 30 _ rfl 1 _ _ _ rfl rfl (by kernel_rfl) (by kernel_rfl) ?_; go_simp)) | ((fail_if_success (refine Go.Proofs.Ytccbpcdepgnmgaa.M.lit_t rfl ?_)); (fail_if_success (refine Go.Proofs.Ytccbpcdepgnmgaa.M.lit_f rfl ?_)); refine Go.Proofs.Ytccbpcdepgnmgaa.M.split_guard rfl rfl ?_ ?_ <;> (intro hg_; simp only [hg_]; try simp only [Go.Proofs.Ytccbpcdepgnmgaa.M.hgs] at hg_)))
          | (refine Mc.at_cmp _ rfl ?_; refine Mc.cmp_m rfl _ rfl _ _ _ rfl _ _ _ rfl rfl _ rfl ?_ ?_ <;> (intro hg_; try simp only [Go.Proofs.Ytccbpcdepgnmgaa.M.hgs] at hg_; first | (exfalso; first | omega | (simp at hg_; done)) | (go_simp)))
          | ((fail_if_success (refine Go.Proofs.Ytccbpcdepgnmgaa.M.lit_t rfl ?_)); (fail_if_success (refine Go.Proofs.Ytccbpcdepgnmgaa.M.lit_f rfl ?_)); refine Go.Proofs.Ytccbpcdepgnmgaa.M.split_guard rfl rfl ?_ ?_ <;> (intro hg_; simp only [hg_]; try simp only [Go.Proofs.Ytccbpcdepgnmgaa.M.hgs] at hg_)))
        all_goals
          go_roundw
          case rel => exact ⟨i + 1, _, Ao_, by omega, by first | rfl | (refine congrArg (fun z => Value.int .i64 z) ?_; omega), rfl, by rw [HFY.out HQX.out]; exact HO.out, HM.drop (A := [_])⟩
          case measure => first | (simp [intOf]; done) | (simp [intOf]; omega)
    · obtain rfl : i = n := by omega
      rw [List.take_of_length_le (by have := HN.out; omega)] at ho
      have HO := Lib.hid ho; clear ho
      go_wp2_with (first
        | (go_big_skip)
        | (refine Go.Proofs.Ytccbpcdepgnmgaa.M.at_mem rfl ?_; first | (refine Go.Proofs.Ytccbpcdepgnmgaa.M.at_load 3 rfl ?_; first | (refine Go.Proofs.Ytccbpcdepgnmgaa.M.load_cell_m HM rfl 3 _ rfl 0 _ _ _ _ _ rfl rfl rfl (by kernel_rfl) (by kernel_rfl) ?_; go_simp)) | (refine Go.Proofs.Ytccbpcdepgnmgaa.M.at_load 30 rfl ?_; first | (refine Go.Proofs.Ytccbpcdepgnmgaa.M.load_row_m HM rfl 30 _ rfl 0 _ _ _ rfl rfl (by kernel_rfl) (by kernel_rfl) ?_; go_simp)) | ((fail_if_success (refine Go.Proofs.Ytccbpcdepgnmgaa.M.lit_t rfl ?_)); (fail_if_success (refine Go.Proofs.Ytccbpcdepgnmgaa.M.lit_f rfl ?_)); refine Go.Proofs.Ytccbpcdepgnmgaa.M.split_guard rfl rfl ?_ ?_ <;> (intro hg_; simp only [hg_]; try simp only [Go.Proofs.Ytccbpcdepgnmgaa.M.hgs] at hg_)))
        | (refine Mc.at_cmp _ rfl ?_; refine Mc.cmp_m rfl _ rfl _ _ _ rfl _ _ _ rfl rfl _ rfl ?_ ?_ <;> (intro hg_; try simp only [Go.Proofs.Ytccbpcdepgnmgaa.M.hgs] at hg_; first | (exfalso; first | omega | (simp at hg_; done)) | (go_simp)))
        | ((fail_if_success (refine Go.Proofs.Ytccbpcdepgnmgaa.M.lit_t rfl ?_)); (fail_if_success (refine Go.Proofs.Ytccbpcdepgnmgaa.M.lit_f rfl ?_)); refine Go.Proofs.Ytccbpcdepgnmgaa.M.split_guard rfl rfl ?_ ?_ <;> (intro hg_; simp only [hg_]; try simp only [Go.Proofs.Ytccbpcdepgnmgaa.M.hgs] at hg_)))
      all_goals
        go_ret
        exact ⟨_, _, rfl, HO.out, HM.drop (A := A)⟩
set_option maxHeartbeats 4000000 in
theorem rflush_as {l : List E} {v : Value} {A : Hp} (hA : LR 30 l v A) (hok : ∀ k ∈ l, rightE k = true) (h1 : l.length ≤ 1000) (asid : Int) (a0 : 0 ≤ asid) : Does Try.prog 39 #[v, .int .i64 asid, .bool false, .int .u64 0] A (RL (l.filter (fun e : E => !decide (e.asid = asid)))) := by
  obtain ⟨p, c, rfl, hc, hV⟩ := hA.read
  generalize hn : l.length = n at hA h1 hc
  have HV := Lib.hid hV; have HN := Lib.hid hn; have HOK := Lib.hid hok
  clear hA hV hn hok
  have hn1 : (n : Int) ≤ 1000 := by omega
  generalize hq : (fun e : E => !decide (e.asid = asid)) = q
  have hqe : ∀ x : E, q x = (!decide (x.asid = asid)) := fun x => by rw [← hq]
  have HQ := Lib.hid hqe
  clear hq hqe
  intro w hH
  have HM := Mem.start hH
  go_enter Try.func39, Try.ntmps39
  go_wp2_with (first
    | (go_big_skip)
    | (refine Go.Proofs.Ytccbpcdepgnmgaa.M.at_mem rfl ?_; first | (refine Go.Proofs.Ytccbpcdepgnmgaa.M.at_load 3 rfl ?_; first | (refine Go.Proofs.Ytccbpcdepgnmgaa.M.load_cell_m HM rfl 3 _ rfl 0 _ _ _ _ _ rfl rfl rfl (by kernel_rfl) (by kernel_rfl) ?_; go_simp)) | (refine Go.Proofs.Ytccbpcdepgnmgaa.M.at_load 30 rfl ?_; first | (refine Go.Proofs.Ytccbpcdepgnmgaa.M.load_row_m HM rfl 30 _ rfl 0 _ _ _ rfl rfl (by kernel_rfl) (by kernel_rfl) ?_; go_simp)) | ((fail_if_success (refine Go.Proofs.Ytccbpcdepgnmgaa.M.lit_t rfl ?_)); (fail_if_success (refine Go.Proofs.Ytccbpcdepgnmgaa.M.lit_f rfl ?_)); refine Go.Proofs.Ytccbpcdepgnmgaa.M.split_guard rfl rfl ?_ ?_ <;> (intro hg_; simp only [hg_]; try simp only [Go.Proofs.Ytccbpcdepgnmgaa.M.hgs] at hg_)))
    | (refine Mc.at_cmp _ rfl ?_; refine Mc.cmp_m rfl _ rfl _ _ _ rfl _ _ _ rfl rfl _ rfl ?_ ?_ <;> (intro hg_; try simp only [Go.Proofs.Ytccbpcdepgnmgaa.M.hgs] at hg_; first | (exfalso; first | omega | (simp at hg_; done)) | (go_simp)))
    | ((fail_if_success (refine Go.Proofs.Ytccbpcdepgnmgaa.M.lit_t rfl ?_)); (fail_if_success (refine Go.Proofs.Ytccbpcdepgnmgaa.M.lit_f rfl ?_)); refine Go.Proofs.Ytccbpcdepgnmgaa.M.split_guard rfl rfl ?_ ?_ <;> (intro hg_; simp only [hg_]; try simp only [Go.Proofs.Ytccbpcdepgnmgaa.M.hgs] at hg_)))
  go_loopw [9, 10] (fun ov iv wr => ∃ (i : Nat) (vo : Value) (Ao : Hp), i ≤ n ∧ iv = .int .i64 i ∧ ov = vo ∧ LR 30 ((l.take i).filter q) vo Ao ∧ Mem w _ (A ++ Ao) wr) (fun _ iv _ => n - (intOf iv).toNat)
  case atStart => exact ⟨0, _, [], by omega, rfl, rfl, LR.nil _, by simpa using HM⟩
  case round =>
    clear HM
    obtain ⟨i, vo, Ao, iR, rfl, rfl, ho, HM⟩ := hrel
    by_cases hlt : i < n
    · obtain ⟨x, hx⟩ : ∃ x, l[i]? = some x := ⟨_, List.getElem?_eq_getElem (by have := HN.out; omega)⟩
      have hfy := filter_yes (q := q) hx
      have hfn := filter_no (q := q) hx
      have hfl := filter_len q l i
      rcases HV.out with ⟨-, hl, -⟩ | ⟨g, off, cur, rfl, hR, rfl⟩
      · rw [hl] at hx; simp at hx
      have hg := hR.get hx
      have hsz := hR.fit (List.getElem?_eq_some_iff.1 hx).1
      have hac := row_cell hR hx (j := 0) (v := .int .i64 x.asid) rfl
      have hrx := rightE_level (HOK.out x (List.mem_of_getElem? hx))
      have hi1 : (i : Int) < n := by omega
      have HFY := Lib.hid hfy; have HFN := Lib.hid hfn; have HG := Lib.hid (show _ = x.cells from hg); have HOFF := Lib.hid hsz; have HAC := Lib.hid hac
      clear hfy hfn hR hx hg hsz hac hrx
      simp only [List.cons_append, List.nil_append] at HM
      have HO := Lib.hid ho; clear ho
      have hqx := HQ.out x
      generalize (l.take i).filter q = lo at HO HFY HFN hfl
      rcases Bool.eq_false_or_eq_true (decide (x.asid = asid)) with hz | hz
      · have hqf : q x = false := by rw [hqx, hz]; rfl
        have HQX := Lib.hid hqf; clear hqf hqx
        simp only [decide_eq_true_eq, decide_eq_false_iff_not] at hz
        go_wp2_with (first
          | (go_big_skip)
          | (refine Sl.at_indexAddr 51 rfl ?_; refine Sl.indexAddr_m rfl _ rfl 51 rfl 30 (by kernel_rfl) 10 (by kernel_rfl) g (off) (n) (c) rfl .i64 (i : Int) rfl (by omega) (by omega) (off + i * 10) (by omega) ?_; go_simp)
          | (refine Go.Proofs.Ytccbpcdepgnmgaa.M.at_mem rfl ?_; first | (refine Go.Proofs.Ytccbpcdepgnmgaa.M.at_load 3 rfl ?_; first | (refine Go.Proofs.Ytccbpcdepgnmgaa.M.load_part_m HM rfl 30 _ rfl 1 g (off + i * 10) 10 _ cur rfl rfl HOFF.out x.cells HG.out (by kernel_rfl) (by kernel_rfl) ?_; go_simp) | (refine Go.Proofs.Ytccbpcdepgnmgaa.M.load_cell_m HM rfl 3 _ rfl 0 g (off + i * 10) _ cur (.int .i64 x.asid) rfl rfl HAC.out (by kernel_rfl) (by kernel_rfl) ?_; go_simp) | (refine Go.Proofs.Ytccbpcdepgnmgaa.M.load_part_m HM rfl 30 _ rfl 0 g (off + i * 10) 10 _ cur rfl rfl HOFF.out x.cells HG.out (by kernel_rfl) (by kernel_rfl) ?_; go_simp) | (refine Go.Proofs.Ytccbpcdepgnmgaa.M.load_cell_m HM rfl 3 _ rfl 0 _ _ _ _ _ rfl rfl rfl (by kernel_rfl) (by kernel_rfl) ?_; go_simp) | (refine Go.Proofs.Ytccbpcdepgnmgaa.M.load_cell_m HM rfl 3 _ rfl 1 _ _ _ _ _ rfl rfl rfl (by kernel_rfl) (by kernel_rfl) ?_; go_simp)) | (refine Go.Proofs.Ytccbpcdepgnmgaa.M.at_load 30 rfl ?_; first | (refine Go.Proofs.Ytccbpcdepgnmgaa.M.load_part_m HM rfl 30 _ rfl 1 g (off + i * 10) 10 _ cur rfl rfl HOFF.out x.cells HG.out (by kernel_rfl) (by kernel_rfl) ?_; go_simp) | (refine Go.Proofs.Ytccbpcdepgnmgaa.M.load_cell_m HM rfl 3 _ rfl 0 g (off + i * 10) _ cur (.int .i64 x.asid) rfl rfl HAC.out (by kernel_rfl) (by kernel_rfl) ?_; go_simp) | (refine Go.Proofs.Ytccbpcdepgnmgaa.M.load_part_m HM rfl 30 _ rfl 0 g (off + i * 10) 10 _ cur rfl rfl HOFF.out x.cells HG.out (by kernel_rfl) (by kernel_rfl) ?_; go_simp) | (refine Go.Proofs.Ytccbpcdepgnmgaa.M.load_row_m HM rfl 30 _ rfl 0 _ _ _ rfl rfl (by kernel_rfl) (by kernel_rfl) ?_; go_simp) | (refine Go.Proofs.Ytccbpcdepgnmgaa.M.load_row_m HM rfl 30 _ rfl 1 _ _ _ rfl rfl (by kernel_rfl) (by kernel_rfl) ?_; go_simp)) | ((fail_if_success (refine Go.Proofs.Ytccbpcdepgnmgaa.M.lit_t rfl ?_)); (fail_if_success (refine Go.Proofs.Ytccbpcdepgnmgaa.M.lit_f rfl ?_)); refine Go.Proofs.Ytccbpcdepgnmgaa.M.split_guard rfl rfl ?_ ?_ <;> (intro hg_; simp only [hg_]; try simp only [Go.Proofs.Ytccbpcdepgnmgaa.M.hgs] at hg_)))
          | (refine Mc.at_cmp _ rfl ?_; refine Mc.cmp_m rfl _ rfl _ _ _ rfl _ _ _ rfl rfl _ rfl ?_ ?_ <;> (intro hg_; try simp only [Go.Proofs.Ytccbpcdepgnmgaa.M.hgs] at hg_; first | (exfalso; first | omega | (simp at hg_; done)) | (go_simp)))
          | ((fail_if_success (refine Go.Proofs.Ytccbpcdepgnmgaa.M.lit_t rfl ?_)); (fail_if_success (refine Go.Proofs.Ytccbpcdepgnmgaa.M.lit_f rfl ?_)); refine Go.Proofs.Ytccbpcdepgnmgaa.M.split_guard rfl rfl ?_ ?_ <;> (intro hg_; simp only [hg_]; try simp only [Go.Proofs.Ytccbpcdepgnmgaa.M.hgs] at hg_)))
        all_goals
          go_roundw
          case rel => exact ⟨i + 1, _, Ao, by omega, by first | rfl | (refine congrArg (fun z => Value.int .i64 z) ?_; omega), rfl, by rw [HFN.out HQX.out]; exact HO.out, HM⟩
          case measure => first | (simp [intOf]; done) | (simp [intOf]; omega)
      · have hqf : q x = true := by rw [hqx, hz]; rfl
        have HQX := Lib.hid hqf; clear hqf hqx
        simp only [decide_eq_true_eq, decide_eq_false_iff_not] at hz
        go_wp2_with (first
          | (go_big_skip)
          | (refine Sl.at_indexAddr 51 rfl ?_; refine Sl.indexAddr_m rfl _ rfl 51 rfl 30 (by kernel_rfl) 10 (by kernel_rfl) g (off) (n) (c) rfl .i64 (i : Int) rfl (by omega) (by omega) (off + i * 10) (by omega) ?_; go_simp)
          | (refine Sl.at_bslice 51 rfl ?_; first | (refine Ls.bslice1_m HM rfl rfl 51 30 _ rfl (by kernel_rfl) (x.cells) rfl (by kernel_rfl) ?_; clear HM; intro gb_ w_ HM; go_simp))
          | (refine Sm.at_call_append rfl ?_; first | (refine Ls.append_lr_m (R := [_]) HM rfl rfl _ _ 51 30 rfl 56 (by kernel_rfl) (by kernel_rfl) _ _ HO.out rfl (x) 0 _ rfl rfl (by (try simp only [maxLen, List.length_append, List.length_cons, List.length_nil]); omega) (by (try simp only [List.length_append, List.length_cons, List.length_nil]); omega) ?_; clear HM HO; intro vo_ Ao_ w_ ho_ HM; have HO := Lib.hid ho_; clear ho_; (try simp only [List.cons_append, List.nil_append] at HM); go_simp) | (refine Ls.append_lr_m (R := [_, _]) HM rfl rfl _ _ 51 30 rfl 56 (by kernel_rfl) (by kernel_rfl) _ _ HO.out rfl (x) 0 _ rfl rfl (by (try simp only [maxLen, List.length_append, List.length_cons, List.length_nil]); omega) (by (try simp only [List.length_append, List.length_cons, List.length_nil]); omega) ?_; clear HM HO; intro vo_ Ao_ w_ ho_ HM; have HO := Lib.hid ho_; clear ho_; (try simp only [List.cons_append, List.nil_append] at HM); go_simp) | (refine Ls.append_lr_m (R := [_, _, _]) HM rfl rfl _ _ 51 30 rfl 56 (by kernel_rfl) (by kernel_rfl) _ _ HO.out rfl (x) 0 _ rfl rfl (by (try simp only [maxLen, List.length_append, List.length_cons, List.length_nil]); omega) (by (try simp only [List.length_append, List.length_cons, List.length_nil]); omega) ?_; clear HM HO; intro vo_ Ao_ w_ ho_ HM; have HO := Lib.hid ho_; clear ho_; (try simp only [List.cons_append, List.nil_append] at HM); go_simp) | (refine Ls.append_lr_m (R := [_, _, _, _]) HM rfl rfl _ _ 51 30 rfl 56 (by kernel_rfl) (by kernel_rfl) _ _ HO.out rfl (x) 0 _ rfl rfl (by (try simp only [maxLen, List.length_append, List.length_cons, List.length_nil]); omega) (by (try simp only [List.length_append, List.length_cons, List.length_nil]); omega) ?_; clear HM HO; intro vo_ Ao_ w_ ho_ HM; have HO := Lib.hid ho_; clear ho_; (try simp only [List.cons_append, List.nil_append] at HM); go_simp) | (refine Ls.append_lr_m (R := [_, _, _, _, _]) HM rfl rfl _ _ 51 30 rfl 56 (by kernel_rfl) (by kernel_rfl) _ _ HO.out rfl (x) 0 _ rfl rfl (by (try simp only [maxLen, List.length_append, List.length_cons, List.length_nil]); omega) (by (try simp only [List.length_append, List.length_cons, List.length_nil]); omega) ?_; clear HM HO; intro vo_ Ao_ w_ ho_ HM; have HO := Lib.hid ho_; clear ho_; (try simp only [List.cons_append, List.nil_append] at HM); go_simp) | (refine Ls.append_lr_m (R := [_, _, _, _, _, _]) HM rfl rfl _ _ 51 30 rfl 56 (by kernel_rfl) (by kernel_rfl) _ _ HO.out rfl (x) 0 _ rfl rfl (by (try simp only [maxLen, List.length_append, List.length_cons, List.length_nil]); omega) (by (try simp only [List.length_append, List.length_cons, List.length_nil]); omega) ?_; clear HM HO; intro vo_ Ao_ w_ ho_ HM; have HO := Lib.hid ho_; clear ho_; (try simp only [List.cons_append, List.nil_append] at HM); go_simp) | (refine Ls.append_lr_m (R := [_, _, _, _, _, _, _]) HM rfl rfl _ _ 51 30 rfl 56 (by kernel_rfl) (by kernel_rfl) _ _ HO.out rfl (x) 0 _ rfl rfl (by (try simp only [maxLen, List.length_append, List.length_cons, List.length_nil]); omega) (by (try simp only [List.length_append, List.length_cons, List.length_nil]); omega) ?_; clear HM HO; intro vo_ Ao_ w_ ho_ HM; have HO := Lib.hid ho_; clear ho_; (try simp only [List.cons_append, List.nil_append] at HM); go_simp) | (refine Ls.append_lr_m (R := [_, _, _, _, _, _, _, _]) HM rfl rfl _ _ 51 30 rfl 56 (by kernel_rfl) (by kernel_rfl) _ _ HO.out rfl (x) 0 _ rfl rfl (by (try simp only [maxLen, List.length_append, List.length_cons, List.length_nil]); omega) (by (try simp only [List.length_append, List.length_cons, List.length_nil]); omega) ?_; clear HM HO; intro vo_ Ao_ w_ ho_ HM; have HO := Lib.hid ho_; clear ho_; (try simp only [List.cons_append, List.nil_append] at HM); go_simp))
          | (refine Go.Proofs.Ytccbpcdepgnmgaa.M.at_mem rfl ?_; first | (refine Go.Proofs.Ytccbpcdepgnmgaa.M.at_load 3 rfl ?_; first | (refine Go.Proofs.Ytccbpcdepgnmgaa.M.load_part_m HM rfl 30 _ rfl 1 g (off + i * 10) 10 _ cur rfl rfl HOFF.out x.cells HG.out (by kernel_rfl) (by kernel_rfl) ?_; go_simp) | (refine Go.Proofs.Ytccbpcdepgnmgaa.M.load_cell_m HM rfl 3 _ rfl 0 g (off + i * 10) _ cur (.int .i64 x.asid) rfl rfl HAC.out (by kernel_rfl) (by kernel_rfl) ?_; go_simp) | (refine Go.Proofs.Ytccbpcdepgnmgaa.M.load_part_m HM rfl 30 _ rfl 0 g (off + i * 10) 10 _ cur rfl rfl HOFF.out x.cells HG.out (by kernel_rfl) (by kernel_rfl) ?_; go_simp) | (refine Go.Proofs.Ytccbpcdepgnmgaa.M.load_cell_m HM rfl 3 _ rfl 0 _ _ _ _ _ rfl rfl rfl (by kernel_rfl) (by kernel_rfl) ?_; go_simp) | (refine Go.Proofs.Ytccbpcdepgnmgaa.M.load_cell_m HM rfl 3 _ rfl 1 _ _ _ _ _ rfl rfl rfl (by kernel_rfl) (by kernel_rfl) ?_; go_simp)) | (refine Go.Proofs.Ytccbpcdepgnmgaa.M.at_load 30 rfl ?_; first | (refine Go.Proofs.Ytccbpcdepgnmgaa.M.load_part_m HM rfl 30 _ rfl 1 g (off + i * 10) 10 _ cur rfl rfl HOFF.out x.cells HG.out (by kernel_rfl) (by kernel_rfl) ?_; go_simp) | (refine Go.Proofs.Ytccbpcdepgnmgaa.M.load_cell_m HM rfl 3 _ rfl 0 g (off + i * 10) _ cur (.int .i64 x.asid) rfl rfl HAC.out (by kernel_rfl) (by kernel_rfl) ?_; go_simp) | (refine Go.Proofs.Ytccbpcdepgnmgaa.M.load_part_m HM rfl 30 _ rfl 0 g (off + i * 10) 10 _ cur rfl rfl HOFF.out x.cells HG.out (by kernel_rfl) (by kernel_rfl) ?_; go_simp) | (refine Go.Proofs.Ytccbpcdepgnmgaa.M.load_row_m HM rfl 30 _ rfl 0 _ _ _ rfl rfl (by kernel_rfl) (by kernel_rfl) ?_; go_simp) | (refine Go.Proofs.Ytccbpcdepgnmgaa.M.load_row_m HM rfl 30 _ rfl 1 _ _ _ rfl rfl (by kernel_rfl) (by kernel_rfl) ?_; go_simp)) | ((fail_if_success (refine Go.Proofs.Ytccbpcdepgnmgaa.M.lit_t rfl ?_)); (fail_if_success (refine Go.Proofs.Ytccbpcdepgnmgaa.M.lit_f rfl ?_)); refine Go.Proofs.Ytccbpcdepgnmgaa.M.split_guard rfl rfl ?_ ?_ <;> (intro hg_; simp only [hg_]; try simp only [Go.Proofs.Ytccbpcdepgnmgaa.M.hgs] at hg_)))
          | (refine Mc.at_cmp _ rfl ?_; refine Mc.cmp_m rfl _ rfl _ _ _ rfl _ _ _ rfl rfl _ rfl ?_ ?_ <;> (intro hg_; try simp only [Go.Proofs.Ytccbpcdepgnmgaa.M.hgs] at hg_; first | (exfalso; first | omega | (simp at hg_; done)) | (go_simp)))
          | ((fail_if_success (refine Go.Proofs.Ytccbpcdepgnmgaa.M.lit_t rfl ?_)); (fail_if_success (refine Go.Proofs.Ytccbpcdepgnmgaa.M.lit_f rfl ?_)); refine Go.Proofs.Ytccbpcdepgnmgaa.M.split_guard rfl rfl ?_ ?_ <;> (intro hg_; simp only [hg_]; try simp only [Go.Proofs.Ytccbpcdepgnmgaa.M.hgs] at hg_)))
        all_goals
          go_roundw
          case rel => exact ⟨i + 1, _, Ao_, by omega, by first | rfl | (refine congrArg (fun z => Value.int .i64 z) ?_; omega), rfl, by rw [HFY.out HQX.out]; exact HO.out, HM.drop (A := [_])⟩
          case measure => first | (simp [intOf]; done) | (simp [intOf]; omega)
    · obtain rfl : i = n := by omega
      rw [List.take_of_length_le (by have := HN.out; omega)] at ho
      have HO := Lib.hid ho; clear ho
      go_wp2_with (first
        | (go_big_skip)
        | (refine Go.Proofs.Ytccbpcdepgnmgaa.M.at_mem rfl ?_; first | (refine Go.Proofs.Ytccbpcdepgnmgaa.M.at_load 3 rfl ?_; first | (refine Go.Proofs.Ytccbpcdepgnmgaa.M.load_cell_m HM rfl 3 _ rfl 0 _ _ _ _ _ rfl rfl rfl (by kernel_rfl) (by kernel_rfl) ?_; go_simp)) | (refine Go.Proofs.Ytccbpcdepgnmgaa.M.at_load 30 rfl ?_; first | (refine Go.Proofs.Ytccbpcdepgnmgaa.M.load_row_m HM rfl 30 _ rfl 0 _ _ _ rfl rfl (by kernel_rfl) (by kernel_rfl) ?_; go_simp)) | ((fail_if_success (refine Go.Proofs.Ytccbpcdepgnmgaa.M.lit_t rfl ?_)); (fail_if_success (refine Go.Proofs.Ytccbpcdepgnmgaa.M.lit_f rfl ?_)); refine Go.Proofs.Ytccbpcdepgnmgaa.M.split_guard rfl rfl ?_ ?_ <;> (intro hg_; simp only [hg_]; try simp only [Go.Proofs.Ytccbpcdepgnmgaa.M.hgs] at hg_)))
        | (refine Mc.at_cmp _ rfl ?_; refine Mc.cmp_m rfl _ rfl _ _ _ rfl _ _ _ rfl rfl _ rfl ?_ ?_ <;> (intro hg_; try simp only [Go.Proofs.Ytccbpcdepgnmgaa.M.hgs] at hg_; first | (exfalso; first | omega | (simp at hg_; done)) | (go_simp)))
        | ((fail_if_success (refine Go.Proofs.Ytccbpcdepgnmgaa.M.lit_t rfl ?_)); (fail_if_success (refine Go.Proofs.Ytccbpcdepgnmgaa.M.lit_f rfl ?_)); refine Go.Proofs.Ytccbpcdepgnmgaa.M.split_guard rfl rfl ?_ ?_ <;> (intro hg_; simp only [hg_]; try simp only [Go.Proofs.Ytccbpcdepgnmgaa.M.hgs] at hg_)))
      all_goals
        go_ret
        exact ⟨_, _, rfl, HO.out, HM.drop (A := A)⟩
set_option maxHeartbeats 4000000 in
theorem rfind_any {l : List E} {v : Value} {A : Hp} (hA : LR 30 l v A) (hok : ∀ k ∈ l, rightE k = true) (h1 : l.length ≤ 1000) (asid va : Int) (v0 : 0 ≤ va) (v1 : va < 18446744073709551616) : Does Try.prog 37 #[v, .int .i64 asid, .int .u64 va] A (RIs (.tuple #[.agg (firstE (matchE · asid va) l).cells, .int .i64 (cntE (matchE · asid va) l)]) A) := by
  obtain ⟨p, c, rfl, hc, hV⟩ := hA.read
  generalize hn : l.length = n at hA h1 hc
  have HV := Lib.hid hV; have HN := Lib.hid hn; have HOK := Lib.hid hok
  clear hA hV hn hok
  have hn1 : (n : Int) ≤ 1000 := by omega
  generalize hq : (fun x : E => matchE x asid va) = q
  have hqe : ∀ x : E, q x = matchE x asid va := fun x => by rw [← hq]
  have HQ := Lib.hid hqe
  clear hq hqe
  intro w hH
  have HM := Mem.start hH
  go_enter Try.func37, Try.ntmps37
  go_wp2_with (first
    | (go_big_skip)
    | (refine Go.Proofs.Ytccbpcdepgnmgaa.M.at_mem rfl ?_; first | (refine Go.Proofs.Ytccbpcdepgnmgaa.M.at_load 30 rfl ?_; first | (refine Go.Proofs.Ytccbpcdepgnmgaa.M.load_row_m HM rfl 30 _ rfl 0 _ _ _ rfl rfl (by kernel_rfl) (by kernel_rfl) ?_; go_simp)) | (refine Go.Proofs.Ytccbpcdepgnmgaa.M.at_store 30 rfl ?_; first | (refine Go.Proofs.Ytccbpcdepgnmgaa.M.store_row_m HM rfl 30 _ _ rfl 0 _ _ _ (Te.E.zero.cells) rfl rfl rfl (by kernel_rfl) rfl (Rec.one (T := E) _) ?_; clear HM; intro w_ HM; (try simp only [List.set_cons_zero, List.set_cons_succ] at HM); go_simp) | (refine Go.Proofs.Ytccbpcdepgnmgaa.M.store_row_m HM rfl 30 _ _ rfl 0 _ _ _ _ rfl rfl rfl (by kernel_rfl) rfl (by simp [Value.oneCell']) ?_; clear HM; intro w_ HM; (try simp only [Go.Proofs.Ytccbpcdepgnmgaa.M.nrm] at HM); go_simp)) | (refine Go.Proofs.Ytccbpcdepgnmgaa.M.at_alloc 30 rfl ?_; first | ((fail_if_success (have x_ := gR_)); refine Go.Proofs.Ytccbpcdepgnmgaa.M.alloc_m HM rfl rfl 30 rfl (.agg Te.E.zero.cells) (by kernel_rfl) Te.E.zero.cells rfl ?_; clear HM; intro gR_ w_ HM; go_simp) | (refine Go.Proofs.Ytccbpcdepgnmgaa.M.alloc_m HM rfl rfl 30 rfl (.agg Te.E.zero.cells) (by kernel_rfl) Te.E.zero.cells rfl ?_; clear HM; intro gF_ w_ HM; go_simp) | (refine Go.Proofs.Ytccbpcdepgnmgaa.M.alloc_m HM rfl rfl 30 rfl (.agg #[(.int .i64 0), (.int .u64 0), (.int .i64 0), (.int .i64 0), (.int .u64 0), (.bool false), (.bool false), (.bool false), (.bool false), (.int .i64 0)]) (by kernel_rfl) #[(.int .i64 0), (.int .u64 0), (.int .i64 0), (.int .i64 0), (.int .u64 0), (.bool false), (.bool false), (.bool false), (.bool false), (.int .i64 0)] rfl ?_; clear HM; intro g_ w_ HM; go_simp)) | ((fail_if_success (refine Go.Proofs.Ytccbpcdepgnmgaa.M.lit_t rfl ?_)); (fail_if_success (refine Go.Proofs.Ytccbpcdepgnmgaa.M.lit_f rfl ?_)); refine Go.Proofs.Ytccbpcdepgnmgaa.M.split_guard rfl rfl ?_ ?_ <;> (intro hg_; simp only [hg_]; try simp only [Go.Proofs.Ytccbpcdepgnmgaa.M.hgs] at hg_)))
    | (refine Mc.at_cmp _ rfl ?_; refine Mc.cmp_m rfl _ rfl _ _ _ rfl _ _ _ rfl rfl _ rfl ?_ ?_ <;> (intro hg_; try simp only [Go.Proofs.Ytccbpcdepgnmgaa.M.hgs] at hg_; first | (exfalso; first | omega | (simp at hg_; done)) | (go_simp)))
    | ((fail_if_success (refine Go.Proofs.Ytccbpcdepgnmgaa.M.lit_t rfl ?_)); (fail_if_success (refine Go.Proofs.Ytccbpcdepgnmgaa.M.lit_f rfl ?_)); refine Go.Proofs.Ytccbpcdepgnmgaa.M.split_guard rfl rfl ?_ ?_ <;> (intro hg_; simp only [hg_]; try simp only [Go.Proofs.Ytccbpcdepgnmgaa.M.hgs] at hg_)))
  go_loopw [9, 10] (fun nv iv wr => ∃ i : Nat, i ≤ n ∧ iv = .int .i64 i ∧ nv = .int .i64 (cntE q (l.take i) : Nat) ∧ Mem w _ ((gF_, row (firstE q (l.take i)).cells 30) :: (gR_, row Te.E.zero.cells 30) :: A) wr) (fun _ iv _ => n - (intOf iv).toNat)
  case atStart => exact ⟨0, by omega, rfl, by first | rfl | simp [cntE], by simpa [firstE] using HM⟩
  case round =>
    clear HM
    obtain ⟨i, iR, rfl, rfl, HM⟩ := hrel
    by_cases hlt : i < n
    · obtain ⟨x, hx⟩ : ∃ x, l[i]? = some x := ⟨_, List.getElem?_eq_getElem (by have := HN.out; omega)⟩
      have hcs := cnt_step (p := q) hx
      have hfs := first_step (p := q) hx
      have hcl : cntE q (l.take i) ≤ i := filter_len q l i
      have hrx := rightE_level (HOK.out x (List.mem_of_getElem? hx))
      have CL := fun w => rmatch_any x asid va v0 v1 (by omega) hrx.2.2.2 w
      have hqx := HQ.out x
      rcases HV.out with ⟨-, hl, -⟩ | ⟨g, off, cur, rfl, hR, rfl⟩
      · rw [hl] at hx; simp at hx
      have hg := hR.get hx
      have hsz := hR.fit (List.getElem?_eq_some_iff.1 hx).1
      have HG := Lib.hid (show _ = x.cells from hg); have HOFF := Lib.hid hsz
      have hi1 : (i : Int) < n := by omega
      clear hg hsz hR hx hrx
      rw [← hqx] at CL
      clear hqx
      generalize hnc : cntE q (l.take i) = nc at HM hcs hfs hcl
      generalize firstE q (l.take i) = fe at HM hfs
      have hnc1 : (nc : Int) ≤ i := by omega
      rcases Bool.eq_false_or_eq_true (q x) with hz | hz
      · rw [hz] at hcs hfs CL
        by_cases hn0 : nc = 0
        · subst hn0
          simp only [and_self, if_true] at hcs hfs
          have HCS := Lib.hid hcs; have HFS := Lib.hid hfs
          clear hcs hfs hz hnc
          go_wp2_with (first
            | (go_big_skip)
            | (refine Sl.at_indexAddr 51 rfl ?_; refine Sl.indexAddr_m rfl _ rfl 51 rfl 30 (by kernel_rfl) 10 (by kernel_rfl) g (off) (n) (c) rfl .i64 (i : Int) rfl (by omega) (by omega) (off + i * 10) (by omega) ?_; go_simp)
            | (go_at_call 50; (with_reducible refine (Go.Proofs.Ytccbpcdepgnmgaa.M.call_pure (CL) HM).mono ?_); clear HM; rintro e w_ ⟨rfl, HM⟩; dsimp only)
            | (refine Go.Proofs.Ytccbpcdepgnmgaa.M.at_mem rfl ?_; first | (refine Go.Proofs.Ytccbpcdepgnmgaa.M.at_load 30 rfl ?_; first | (refine Go.Proofs.Ytccbpcdepgnmgaa.M.load_part_m HM rfl 30 _ rfl 2 g (off + i * 10) 10 _ cur rfl rfl HOFF.out x.cells HG.out (by kernel_rfl) (by kernel_rfl) ?_; go_simp) | (refine Go.Proofs.Ytccbpcdepgnmgaa.M.load_row_m HM rfl 30 _ rfl 0 _ _ _ rfl rfl (by kernel_rfl) (by kernel_rfl) ?_; go_simp)) | (refine Go.Proofs.Ytccbpcdepgnmgaa.M.at_store 30 rfl ?_; first | (refine Go.Proofs.Ytccbpcdepgnmgaa.M.store_row_m HM rfl 30 _ _ rfl 0 _ _ _ (x.cells) rfl rfl rfl (by kernel_rfl) rfl (Rec.one (T := E) _) ?_; clear HM; intro w_ HM; (try simp only [List.set_cons_zero, List.set_cons_succ] at HM); go_simp) | (refine Go.Proofs.Ytccbpcdepgnmgaa.M.store_row_m HM rfl 30 _ _ rfl 0 _ _ _ _ rfl rfl rfl (by kernel_rfl) rfl (by simp [Value.oneCell']) ?_; clear HM; intro w_ HM; (try simp only [Go.Proofs.Ytccbpcdepgnmgaa.M.nrm] at HM); go_simp)) | (refine Go.Proofs.Ytccbpcdepgnmgaa.M.at_alloc 30 rfl ?_; first | (refine Go.Proofs.Ytccbpcdepgnmgaa.M.alloc_m HM rfl rfl 30 rfl (.agg #[(.int .i64 0), (.int .u64 0), (.int .i64 0), (.int .i64 0), (.int .u64 0), (.bool false), (.bool false), (.bool false), (.bool false), (.int .i64 0)]) (by kernel_rfl) #[(.int .i64 0), (.int .u64 0), (.int .i64 0), (.int .i64 0), (.int .u64 0), (.bool false), (.bool false), (.bool false), (.bool false), (.int .i64 0)] rfl ?_; clear HM; intro g_ w_ HM; go_simp)) | ((fail_if_success (refine Go.Proofs.Ytccbpcdepgnmgaa.M.lit_t rfl ?_)); (fail_if_success (refine Go.Proofs.Ytccbpcdepgnmgaa.M.lit_f rfl ?_)); refine Go.Proofs.Ytccbpcdepgnmgaa.M.split_guard rfl rfl ?_ ?_ <;> (intro hg_; simp only [hg_]; try simp only [Go.Proofs.Ytccbpcdepgnmgaa.M.hgs] at hg_)))
            | (refine Mc.at_cmp _ rfl ?_; refine Mc.cmp_m rfl _ rfl _ _ _ rfl _ _ _ rfl rfl _ rfl ?_ ?_ <;> (intro hg_; try simp only [Go.Proofs.Ytccbpcdepgnmgaa.M.hgs] at hg_; first | (exfalso; first | omega | (simp at hg_; done)) | (go_simp)))
            | ((fail_if_success (refine Go.Proofs.Ytccbpcdepgnmgaa.M.lit_t rfl ?_)); (fail_if_success (refine Go.Proofs.Ytccbpcdepgnmgaa.M.lit_f rfl ?_)); refine Go.Proofs.Ytccbpcdepgnmgaa.M.split_guard rfl rfl ?_ ?_ <;> (intro hg_; simp only [hg_]; try simp only [Go.Proofs.Ytccbpcdepgnmgaa.M.hgs] at hg_)))
          all_goals
            go_roundw
            case rel => exact ⟨i + 1, by omega, by first | rfl | (refine congrArg (fun z => Value.int .i64 z) ?_; omega), by rw [HCS.out]; first | rfl | (refine congrArg (fun z => Value.int .i64 z) ?_; omega), by rw [HFS.out]; exact HM⟩
            case measure => first | (simp [intOf]; done) | (simp [intOf]; omega)
        · simp only [hn0, and_false, if_true, if_false] at hcs hfs
          have hn0' : ¬ (nc : Int) = 0 := by omega
          have HCS := Lib.hid hcs; have HFS := Lib.hid hfs
          clear hcs hfs hz hn0 hnc
          go_wp2_with (first
            | (go_big_skip)
            | (refine Sl.at_indexAddr 51 rfl ?_; refine Sl.indexAddr_m rfl _ rfl 51 rfl 30 (by kernel_rfl) 10 (by kernel_rfl) g (off) (n) (c) rfl .i64 (i : Int) rfl (by omega) (by omega) (off + i * 10) (by omega) ?_; go_simp)
            | (go_at_call 50; (with_reducible refine (Go.Proofs.Ytccbpcdepgnmgaa.M.call_pure (CL) HM).mono ?_); clear HM; rintro e w_ ⟨rfl, HM⟩; dsimp only)
            | (refine Go.Proofs.Ytccbpcdepgnmgaa.M.at_mem rfl ?_; first | (refine Go.Proofs.Ytccbpcdepgnmgaa.M.at_load 30 rfl ?_; first | (refine Go.Proofs.Ytccbpcdepgnmgaa.M.load_part_m HM rfl 30 _ rfl 2 g (off + i * 10) 10 _ cur rfl rfl HOFF.out x.cells HG.out (by kernel_rfl) (by kernel_rfl) ?_; go_simp) | (refine Go.Proofs.Ytccbpcdepgnmgaa.M.load_row_m HM rfl 30 _ rfl 0 _ _ _ rfl rfl (by kernel_rfl) (by kernel_rfl) ?_; go_simp)) | (refine Go.Proofs.Ytccbpcdepgnmgaa.M.at_store 30 rfl ?_; first | (refine Go.Proofs.Ytccbpcdepgnmgaa.M.store_row_m HM rfl 30 _ _ rfl 0 _ _ _ _ rfl rfl rfl (by kernel_rfl) rfl (by simp [Value.oneCell']) ?_; clear HM; intro w_ HM; (try simp only [Go.Proofs.Ytccbpcdepgnmgaa.M.nrm] at HM); go_simp)) | (refine Go.Proofs.Ytccbpcdepgnmgaa.M.at_alloc 30 rfl ?_; first | (refine Go.Proofs.Ytccbpcdepgnmgaa.M.alloc_m HM rfl rfl 30 rfl (.agg #[(.int .i64 0), (.int .u64 0), (.int .i64 0), (.int .i64 0), (.int .u64 0), (.bool false), (.bool false), (.bool false), (.bool false), (.int .i64 0)]) (by kernel_rfl) #[(.int .i64 0), (.int .u64 0), (.int .i64 0), (.int .i64 0), (.int .u64 0), (.bool false), (.bool false), (.bool false), (.bool false), (.int .i64 0)] rfl ?_; clear HM; intro g_ w_ HM; go_simp)) | ((fail_if_success (refine Go.Proofs.Ytccbpcdepgnmgaa.M.lit_t rfl ?_)); (fail_if_success (refine Go.Proofs.Ytccbpcdepgnmgaa.M.lit_f rfl ?_)); refine Go.Proofs.Ytccbpcdepgnmgaa.M.split_guard rfl rfl ?_ ?_ <;> (intro hg_; simp only [hg_]; try simp only [Go.Proofs.Ytccbpcdepgnmgaa.M.hgs] at hg_)))
            | (refine Mc.at_cmp _ rfl ?_; refine Mc.cmp_m rfl _ rfl _ _ _ rfl _ _ _ rfl rfl _ rfl ?_ ?_ <;> (intro hg_; try simp only [Go.Proofs.Ytccbpcdepgnmgaa.M.hgs] at hg_; first | (exfalso; first | omega | (simp at hg_; done)) | (go_simp)))
            | ((fail_if_success (refine Go.Proofs.Ytccbpcdepgnmgaa.M.lit_t rfl ?_)); (fail_if_success (refine Go.Proofs.Ytccbpcdepgnmgaa.M.lit_f rfl ?_)); refine Go.Proofs.Ytccbpcdepgnmgaa.M.split_guard rfl rfl ?_ ?_ <;> (intro hg_; simp only [hg_]; try simp only [Go.Proofs.Ytccbpcdepgnmgaa.M.hgs] at hg_)))
          all_goals
            go_roundw
            case rel => exact ⟨i + 1, by omega, by first | rfl | (refine congrArg (fun z => Value.int .i64 z) ?_; omega), by rw [HCS.out]; first | rfl | (refine congrArg (fun z => Value.int .i64 z) ?_; omega), by rw [HFS.out]; exact HM⟩
            case measure => first | (simp [intOf]; done) | (simp [intOf]; omega)
      · rw [hz] at hcs hfs CL
        simp only [Bool.false_eq_true, false_and, if_false, Nat.add_zero] at hcs hfs
        have HCS := Lib.hid hcs; have HFS := Lib.hid hfs
        clear hcs hfs hz hnc
        go_wp2_with (first
          | (go_big_skip)
          | (refine Sl.at_indexAddr 51 rfl ?_; refine Sl.indexAddr_m rfl _ rfl 51 rfl 30 (by kernel_rfl) 10 (by kernel_rfl) g (off) (n) (c) rfl .i64 (i : Int) rfl (by omega) (by omega) (off + i * 10) (by omega) ?_; go_simp)
          | (go_at_call 50; (with_reducible refine (Go.Proofs.Ytccbpcdepgnmgaa.M.call_pure (CL) HM).mono ?_); clear HM; rintro e w_ ⟨rfl, HM⟩; dsimp only)
          | (refine Go.Proofs.Ytccbpcdepgnmgaa.M.at_mem rfl ?_; first | (refine Go.Proofs.Ytccbpcdepgnmgaa.M.at_load 30 rfl ?_; first | (refine Go.Proofs.Ytccbpcdepgnmgaa.M.load_part_m HM rfl 30 _ rfl 2 g (off + i * 10) 10 _ cur rfl rfl HOFF.out x.cells HG.out (by kernel_rfl) (by kernel_rfl) ?_; go_simp) | (refine Go.Proofs.Ytccbpcdepgnmgaa.M.load_row_m HM rfl 30 _ rfl 0 _ _ _ rfl rfl (by kernel_rfl) (by kernel_rfl) ?_; go_simp)) | (refine Go.Proofs.Ytccbpcdepgnmgaa.M.at_store 30 rfl ?_; first | (refine Go.Proofs.Ytccbpcdepgnmgaa.M.store_row_m HM rfl 30 _ _ rfl 0 _ _ _ _ rfl rfl rfl (by kernel_rfl) rfl (by simp [Value.oneCell']) ?_; clear HM; intro w_ HM; (try simp only [Go.Proofs.Ytccbpcdepgnmgaa.M.nrm] at HM); go_simp)) | (refine Go.Proofs.Ytccbpcdepgnmgaa.M.at_alloc 30 rfl ?_; first | (refine Go.Proofs.Ytccbpcdepgnmgaa.M.alloc_m HM rfl rfl 30 rfl (.agg #[(.int .i64 0), (.int .u64 0), (.int .i64 0), (.int .i64 0), (.int .u64 0), (.bool false), (.bool false), (.bool false), (.bool false), (.int .i64 0)]) (by kernel_rfl) #[(.int .i64 0), (.int .u64 0), (.int .i64 0), (.int .i64 0), (.int .u64 0), (.bool false), (.bool false), (.bool false), (.bool false), (.int .i64 0)] rfl ?_; clear HM; intro g_ w_ HM; go_simp)) | ((fail_if_success (refine Go.Proofs.Ytccbpcdepgnmgaa.M.lit_t rfl ?_)); (fail_if_success (refine Go.Proofs.Ytccbpcdepgnmgaa.M.lit_f rfl ?_)); refine Go.Proofs.Ytccbpcdepgnmgaa.M.split_guard rfl rfl ?_ ?_ <;> (intro hg_; simp only [hg_]; try simp only [Go.Proofs.Ytccbpcdepgnmgaa.M.hgs] at hg_)))
          | (refine Mc.at_cmp _ rfl ?_; refine Mc.cmp_m rfl _ rfl _ _ _ rfl _ _ _ rfl rfl _ rfl ?_ ?_ <;> (intro hg_; try simp only [Go.Proofs.Ytccbpcdepgnmgaa.M.hgs] at hg_; first | (exfalso; first | omega | (simp at hg_; done)) | (go_simp)))
          | ((fail_if_success (refine Go.Proofs.Ytccbpcdepgnmgaa.M.lit_t rfl ?_)); (fail_if_success (refine Go.Proofs.Ytccbpcdepgnmgaa.M.lit_f rfl ?_)); refine Go.Proofs.Ytccbpcdepgnmgaa.M.split_guard rfl rfl ?_ ?_ <;> (intro hg_; simp only [hg_]; try simp only [Go.Proofs.Ytccbpcdepgnmgaa.M.hgs] at hg_)))
        all_goals
          go_roundw
          case rel => exact ⟨i + 1, by omega, by first | rfl | (refine congrArg (fun z => Value.int .i64 z) ?_; omega), by rw [HCS.out], by rw [HFS.out]; exact HM⟩
          case measure => first | (simp [intOf]; done) | (simp [intOf]; omega)
    · obtain rfl : i = n := by omega
      rw [List.take_of_length_le (by have := HN.out; omega)] at HM ⊢
      generalize hfe : firstE q l = fe at HM ⊢
      generalize hnc : cntE q l = nc at HM ⊢
      have HFE := Lib.hid hfe; have HNC := Lib.hid hnc; clear hfe hnc
      go_wp2_with (first
        | (go_big_skip)
        | (refine Go.Proofs.Ytccbpcdepgnmgaa.M.at_mem rfl ?_; first | (refine Go.Proofs.Ytccbpcdepgnmgaa.M.at_load 30 rfl ?_; first | (refine Go.Proofs.Ytccbpcdepgnmgaa.M.load_row_m HM rfl 30 _ rfl 0 _ _ _ rfl rfl (by kernel_rfl) (by kernel_rfl) ?_; go_simp) | (refine Go.Proofs.Ytccbpcdepgnmgaa.M.load_row_m HM rfl 30 _ rfl 1 _ _ _ rfl rfl (by kernel_rfl) (by kernel_rfl) ?_; go_simp)) | (refine Go.Proofs.Ytccbpcdepgnmgaa.M.at_store 30 rfl ?_; first | (refine Go.Proofs.Ytccbpcdepgnmgaa.M.store_row_m HM rfl 30 _ _ rfl 1 _ _ _ (fe.cells) rfl rfl rfl (by kernel_rfl) rfl (Rec.one (T := E) _) ?_; clear HM; intro w_ HM; (try simp only [List.set_cons_zero, List.set_cons_succ] at HM); go_simp) | (refine Go.Proofs.Ytccbpcdepgnmgaa.M.store_row_m HM rfl 30 _ _ rfl 0 _ _ _ _ rfl rfl rfl (by kernel_rfl) rfl (by simp [Value.oneCell']) ?_; clear HM; intro w_ HM; (try simp only [Go.Proofs.Ytccbpcdepgnmgaa.M.nrm] at HM); go_simp) | (refine Go.Proofs.Ytccbpcdepgnmgaa.M.store_row_m HM rfl 30 _ _ rfl 1 _ _ _ _ rfl rfl rfl (by kernel_rfl) rfl (by simp [Value.oneCell']) ?_; clear HM; intro w_ HM; (try simp only [Go.Proofs.Ytccbpcdepgnmgaa.M.nrm] at HM); go_simp)) | (refine Go.Proofs.Ytccbpcdepgnmgaa.M.at_alloc 30 rfl ?_; first | (refine Go.Proofs.Ytccbpcdepgnmgaa.M.alloc_m HM rfl rfl 30 rfl (.agg #[(.int .i64 0), (.int .u64 0), (.int .i64 0), (.int .i64 0), (.int .u64 0), (.bool false), (.bool false), (.bool false), (.bool false), (.int .i64 0)]) (by kernel_rfl) #[(.int .i64 0), (.int .u64 0), (.int .i64 0), (.int .i64 0), (.int .u64 0), (.bool false), (.bool false), (.bool false), (.bool false), (.int .i64 0)] rfl ?_; clear HM; intro g_ w_ HM; go_simp)) | ((fail_if_success (refine Go.Proofs.Ytccbpcdepgnmgaa.M.lit_t rfl ?_)); (fail_if_success (refine Go.Proofs.Ytccbpcdepgnmgaa.M.lit_f rfl ?_)); refine Go.Proofs.Ytccbpcdepgnmgaa.M.split_guard rfl rfl ?_ ?_ <;> (intro hg_; simp only [hg_]; try simp only [Go.Proofs.Ytccbpcdepgnmgaa.M.hgs] at hg_)))
        | (refine Mc.at_cmp _ rfl ?_; refine Mc.cmp_m rfl _ rfl _ _ _ rfl _ _ _ rfl rfl _ rfl ?_ ?_ <;> (intro hg_; try simp only [Go.Proofs.Ytccbpcdepgnmgaa.M.hgs] at hg_; first | (exfalso; first | omega | (simp at hg_; done)) | (go_simp)))
        | ((fail_if_success (refine Go.Proofs.Ytccbpcdepgnmgaa.M.lit_t rfl ?_)); (fail_if_success (refine Go.Proofs.Ytccbpcdepgnmgaa.M.lit_f rfl ?_)); refine Go.Proofs.Ytccbpcdepgnmgaa.M.split_guard rfl rfl ?_ ?_ <;> (intro hg_; simp only [hg_]; try simp only [Go.Proofs.Ytccbpcdepgnmgaa.M.hgs] at hg_)))
      all_goals
        refine bodyPost_ret (res_ct HM rfl _ 1 _ _ _ rfl rfl (by kernel_rfl) (by kernel_rfl)) rfl ?_
        exact ⟨_, _, rfl, ⟨by rw [HFE.out, HNC.out]; rfl, rfl⟩, HM.drop (A := [_, _])⟩
end Go.Proofs.Ytccbpcdepgnmgaa.Ua
