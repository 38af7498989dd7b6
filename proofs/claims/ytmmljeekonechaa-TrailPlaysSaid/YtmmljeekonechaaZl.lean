/- A trail: Drop. -/
import Derived.Test.YtmmljeekonechaaProg
import Derived.Test.YtmmljeekonechaaLu
import Derived.Test.YtmmljeekonechaaZf
namespace Go.Proofs.Ytmmljeekonechaa.Zl
open Go.RowKit Go.Proofs.Ytmmljeekonechaa.G Go.Proofs.Ytmmljeekonechaa.B Go.Proofs.Ytmmljeekonechaa.M Go.Proofs.Ytmmljeekonechaa.Mv Go.Proofs.Ytmmljeekonechaa.Sl Go.Proofs.Ytmmljeekonechaa.Sm Go.Proofs.Ytmmljeekonechaa.Sn Go.Proofs.Ytmmljeekonechaa.Ls Go.Proofs.Ytmmljeekonechaa.Lt Go.Proofs.Ytmmljeekonechaa.Lu Go.Proofs.Ytmmljeekonechaa.Za Go.Proofs.Ytmmljeekonechaa.Zb Go.Proofs.Ytmmljeekonechaa.Zc Go.Proofs.Ytmmljeekonechaa.Zd

set_option linter.unusedVariables false
set_option linter.unusedSimpArgs false
set_option maxRecDepth 100000
def RM (l : List K) (r : Value) (L : Hp) : Prop := LR 30 l r L
set_option maxHeartbeats 2000000 in
theorem grow_any (n : Nat) (h1 : n ≤ 2000) (w : World) : Calls Try.prog 60 #[.slice none 0 0, .int .i64 n] w (Ans w [] (RM [])) := by
  have hn1 : (n : Int) ≤ 2000 := by omega
  by_cases h0 : n = 0
  · subst h0
    have HM := Mem.nil w
    go_enter Try.func60, Try.ntmps60
    go_wp2_with (first
      | (go_big_skip)
      | (refine Mc.at_cmp _ rfl ?_; refine Mc.cmp_m rfl _ rfl _ _ _ rfl _ _ _ rfl rfl _ rfl ?_ ?_ <;> (intro hg_; try simp only [M.hgs] at hg_; first | (exfalso; first | omega | (simp at hg_; done)) | (go_simp)))
      | ((fail_if_success (refine M.lit_t rfl ?_)); (fail_if_success (refine M.lit_f rfl ?_)); refine M.split_guard rfl rfl ?_ ?_ <;> (intro hg_; simp only [hg_]; try simp only [M.hgs] at hg_)))
    all_goals
      go_ret
      exact Ans.mk (LR.nil _) HM
  · have hn0 : 0 < (n : Int) := by omega
    have HM := Mem.nil w
    go_enter Try.func60, Try.ntmps60
    go_wp2_with (first
      | (go_big_skip)
      | (refine Lt.at_slice 22 rfl ?_; refine Lt.slice_m rfl _ rfl 22 30 rfl (by kernel_rfl) 4 (by kernel_rfl) none 0 0 rfl 0 0 0 (Or.inl ⟨rfl, rfl⟩) (Or.inr ⟨_, rfl, by omega⟩) (Or.inl ⟨rfl, rfl⟩) (.slice (none) 0 0) (by first | rfl | simp [Ls.add_at] | (rw [Lu.fore_ptr]; rfl)) ?_; go_simp)
      | (refine Sm.at_call_append rfl ?_; refine Lu.append_zeros_m (k := 4) HM rfl rfl _ _ 22 3 30 rfl 32 (by kernel_rfl) (by kernel_rfl) .i64 Try.underlying3 (by decide) rfl n (by omega) rfl (by simp only [maxLen]; omega) (by omega) ?_; clear HM; intro gz_ cz_ cur_ w_ hc1_ hc2_ hc3_ HM; go_simp)
      | (refine Lt.at_slice 22 rfl ?_; refine Lt.slice_m rfl _ rfl 22 30 rfl (by kernel_rfl) 4 (by kernel_rfl) (some ⟨gz_, 0, none⟩) n cz_ rfl 0 0 cz_ (Or.inl ⟨rfl, rfl⟩) (Or.inr ⟨_, rfl, by omega⟩) (Or.inl ⟨rfl, rfl⟩) (.slice (some ⟨gz_, 0, none⟩) 0 cz_) (by first | rfl | simp [Ls.add_at] | (rw [Lu.fore_ptr]; rfl)) ?_; go_simp)
      | (refine Mc.at_cmp _ rfl ?_; refine Mc.cmp_m rfl _ rfl _ _ _ rfl _ _ _ rfl rfl _ rfl ?_ ?_ <;> (intro hg_; try simp only [M.hgs] at hg_; first | (exfalso; first | omega | (simp at hg_; done)) | (go_simp)))
      | ((fail_if_success (refine M.lit_t rfl ?_)); (fail_if_success (refine M.lit_f rfl ?_)); refine M.split_guard rfl rfl ?_ ?_ <;> (intro hg_; simp only [hg_]; try simp only [M.hgs] at hg_)))
    all_goals
      go_ret
      exact Ans.mk (LR.room (T := K) hc2_ hc3_) HM
set_option maxHeartbeats 8000000 in
theorem concat_any {l m : List K} {p q : Option Addr} {A : Hp} (hV : LV 30 l p A) (hW : LV 30 m q A) (n1 c1 n2 c2 gS : Nat) (e1 : l.length = n1) (e2 : m.length = n2) (h1 : n1 ≤ 1000) (h2 : n2 ≤ 1000) :
    Does Try.prog 47 #[.slice (some ⟨gS, 0, none⟩) 2 2] ((gS, row #[.slice p n1 c1, .slice q n2 c2] 22) :: A) (RM (l ++ m)) := by
  have hn1 : (n1 : Int) ≤ 1000 := by omega
  have hn2 : (n2 : Int) ≤ 1000 := by omega
  have CG := fun w => grow_any (n1 + n2) (by omega) w
  have hp : p = none → l = [] := by
    intro h; subst h
    rcases hV with ⟨-, h, -⟩ | ⟨g, off, cur, h, -, -⟩
    · exact h
    · cases h
  have hq : q = none → m = [] := by
    intro h; subst h
    rcases hW with ⟨-, h, -⟩ | ⟨g, off, cur, h, -, -⟩
    · exact h
    · cases h
  have hc0 : ((n1 + n2 : Nat) : Int) = n1 + n2 := by omega
  rw [hc0] at CG
  have HV := Lib.hid hV; have HW := Lib.hid hW; have E1 := Lib.hid e1; have E2 := Lib.hid e2; have HP := Lib.hid hp; have HQ := Lib.hid hq
  clear hV hW e1 e2 hp hq hc0
  intro w hH
  have HM := Mem.start hH
  go_enter Try.func47, Try.ntmps47
  go_wp2_with (first
    | (go_big_skip)
    | (refine wp_loop_rounds 3 ?_; refine Ms.rounds_mk ?_)
    | (refine Ms.rounds_mk ?_)
    | (go_at_call 60; (with_reducible refine (Sm.new_call HM (CG _)).mono ?_); clear HM; rintro e w_ ⟨v_, L_, rfl, hr_, HM⟩; unfold RM at hr_; have HO := Lib.hid hr_; clear hr_; replace HM := HM.perm List.perm_append_comm; dsimp only)
    | (refine Sl.at_indexAddr 115 rfl ?_; first | (refine Sl.indexAddr_m rfl _ rfl 115 rfl 22 (by kernel_rfl) 1 (by kernel_rfl) gS 0 2 2 rfl .i64 (0 : Int) rfl (by omega) (by omega) 0 (by omega) ?_; go_simp) | (refine Sl.indexAddr_m rfl _ rfl 115 rfl 22 (by kernel_rfl) 1 (by kernel_rfl) gS 0 2 2 rfl .i64 (1 : Int) rfl (by omega) (by omega) 1 (by omega) ?_; go_simp))
    | (refine Sm.at_call_append rfl ?_; first | (refine Lu.append_ls_m (R := (_ :: A)) HM rfl rfl _ _ 22 30 rfl 32 (by kernel_rfl) (by kernel_rfl) [] _ HO.out rfl p n1 c1 rfl l E1.out HP.out (fun u hu ad hpa => LV.row HV.out (M.Has.right (A := [_]) (hu.take).has) ad hpa) (by simp only [maxLen, List.length_nil, List.length_append, E1.out, E2.out]; omega) (by simp only [List.length_nil, List.length_append, E1.out, E2.out]; omega) ?_; clear HM HO; intro vo_ Ao_ w_ ho_ HM; have HO := Lib.hid ho_; clear ho_; (try rw [List.nil_append] at HO); go_simp) | (refine Lu.append_ls_m (R := (_ :: A)) HM rfl rfl _ _ 22 30 rfl 32 (by kernel_rfl) (by kernel_rfl) l _ HO.out rfl q n2 c2 rfl m E2.out HQ.out (fun u hu ad hpa => LV.row HW.out (M.Has.right (A := [_]) (hu.take).has) ad hpa) (by simp only [maxLen, List.length_nil, List.length_append, E1.out, E2.out]; omega) (by simp only [List.length_nil, List.length_append, E1.out, E2.out]; omega) ?_; clear HM HO; intro vo_ Ao_ w_ ho_ HM; have HO := Lib.hid ho_; clear ho_; (try rw [List.nil_append] at HO); go_simp))
    | (refine M.at_mem rfl ?_; first | (refine M.at_load 22 rfl ?_; first | (refine M.load_cell_m HM rfl 22 _ rfl 0 _ _ _ _ _ rfl rfl rfl (by kernel_rfl) (by kernel_rfl) ?_; go_simp)) | ((fail_if_success (refine M.lit_t rfl ?_)); (fail_if_success (refine M.lit_f rfl ?_)); refine M.split_guard rfl rfl ?_ ?_ <;> (intro hg_; simp only [hg_]; try simp only [M.hgs] at hg_)))
    | (refine Mc.at_cmp _ rfl ?_; refine Mc.cmp_m rfl _ rfl _ _ _ rfl _ _ _ rfl rfl _ rfl ?_ ?_ <;> (intro hg_; try simp only [M.hgs] at hg_; first | (exfalso; first | omega | (simp at hg_; done)) | (go_simp)))
    | ((fail_if_success (refine M.lit_t rfl ?_)); (fail_if_success (refine M.lit_f rfl ?_)); refine M.split_guard rfl rfl ?_ ?_ <;> (intro hg_; simp only [hg_]; try simp only [M.hgs] at hg_)))
  all_goals
    go_ret
    first | exact ⟨_, _, rfl, HO.out, HM.drop (A := _ :: A)⟩ | exact ⟨_, HO.out, HM.drop (A := _ :: A)⟩
theorem perm_bt (b t : Nat × Obj) (A : Hp) : (b :: t :: A).Perm ((b :: A) ++ [t]) := List.Perm.cons b (List.perm_append_comm (l₁ := [t]) (l₂ := A))
def DropNo (T : Hp) (r : Value) (L : Hp) : Prop := r = .bool false ∧ L = T
def DropOk (most : Int) (l : List K) (gT : Nat) (r : Value) (L : Hp) : Prop := r = .bool true ∧ TR most l gT L
set_option maxHeartbeats 2000000 in
theorem drop_no {most : Int} {l : List K} {gT : Nat} {T : Hp} (HT : TR most l gT T) (h1 : l.length ≤ 1000) (i : Int) (hi : i < 0 ∨ (l.length : Int) ≤ i) : Does Try.prog 30 #[.pointer (some ⟨gT, 0, none⟩), .int .i64 i] T (DropNo T) := by
  obtain ⟨v, A, hA, rfl⟩ := HT
  obtain ⟨p, c, rfl, hc, hV⟩ := hA.read
  clear hA hV
  generalize l.length = n at h1 hc hi
  rcases hi with hi | hi
  all_goals
    intro w hH
    have HM := Mem.start hH
    go_enter Try.func30, Try.ntmps30
    go_wp2_with (first
      | (go_big_skip)
      | (refine M.at_mem rfl ?_; first | (refine M.at_load 22 rfl ?_; first | (refine M.load_cell_m HM rfl 22 _ rfl 0 _ _ _ _ _ rfl rfl rfl (by kernel_rfl) (by kernel_rfl) ?_; go_simp)) | (refine M.at_store 22 rfl ?_; first | (refine M.store_cell_m HM rfl 22 _ _ rfl 0 _ _ _ _ _ rfl rfl rfl (by kernel_rfl) rfl (by simp) ?_; clear HM; intro w_ HM; (try simp only [M.nrm] at HM); go_simp)) | ((fail_if_success (refine M.lit_t rfl ?_)); (fail_if_success (refine M.lit_f rfl ?_)); refine M.split_guard rfl rfl ?_ ?_ <;> (intro hg_; simp only [hg_]; try simp only [M.hgs] at hg_)))
      | (refine Mc.at_cmp _ rfl ?_; refine Mc.cmp_m rfl _ rfl _ _ _ rfl _ _ _ rfl rfl _ rfl ?_ ?_ <;> (intro hg_; try simp only [M.hgs] at hg_; first | (exfalso; first | omega | (simp at hg_; done)) | (go_simp)))
      | ((fail_if_success (refine M.lit_t rfl ?_)); (fail_if_success (refine M.lit_f rfl ?_)); refine M.split_guard rfl rfl ?_ ?_ <;> (intro hg_; simp only [hg_]; try simp only [M.hgs] at hg_)))
    all_goals
      go_ret
      exact ⟨_, _, rfl, ⟨rfl, rfl⟩, HM⟩
set_option maxHeartbeats 4000000 in
theorem drop_ok {most : Int} {l : List K} {gT : Nat} {T : Hp} (HT : TR most l gT T) (h1 : l.length ≤ 1000) (i : Nat) (hi : i < l.length) : Does Try.prog 30 #[.pointer (some ⟨gT, 0, none⟩), .int .i64 i] T (DropOk most (l.take i ++ l.drop (i + 1)) gT) := by
  obtain ⟨v, A, hA, rfl⟩ := HT
  obtain ⟨p, c, rfl, hc, hV⟩ := hA.read
  have hV1 := LV.fore hV (i := i) (by omega)
  have hV2 := LV.cut hV (i := i + 1) (c := c) (by omega) hc
  have e1 : (l.take i).length = i := by rw [List.length_take]; omega
  have e2 : (l.drop (i + 1)).length = l.length - (i + 1) := List.length_drop
  generalize hn : l.length = n at h1 hc hi e2
  have hfp := fore_ptr c p 4
  generalize hq : (if c = i + 1 then p else p.map (·.add ((i + 1) * 4))) = q at hV2
  have CCC := fun gS => concat_any hV1 hV2 i c (n - (i + 1)) (c - (i + 1)) gS e1 e2 (by omega) (by omega)
  clear hA hV hV1 hV2 hn e1 e2
  generalize l.take i ++ l.drop (i + 1) = lr at CCC
  have HQ := Lib.hid hq; have HFP := Lib.hid hfp; have HI := Lib.hid (show Value.int .i64 ((i : Int) + 1) = .int .i64 ((i + 1 : Nat) : Int) by congr 1)
  clear hq hfp
  have hi1 : (i : Int) < n := by omega
  have hn1 : (n : Int) ≤ 1000 := by omega
  intro w hH
  have HM := Mem.start hH
  go_enter Try.func30, Try.ntmps30
  go_wp2_with (first
    | (go_big_skip)
    | (refine M.at_reg 3 ?_; refine Mr.region_anyC (id := 3) 16 19 3 (fun _ h_ => h_.take (A := [_])) HM (by kernel_rfl) rfl rfl (by kernel_rfl) ?_; intro s_; refine Mr.any_run 14 0 #[true, true, true, true, true, true, true, true, true, true, true, true, true, true, false, false, false, false, false] s_ (by decide) (by kernel_rfl) ?_; simp only [List.drop_succ_cons, List.drop_zero, List.take_succ_cons, List.take_zero]; (repeat (any_goals (first | go_big_quiet_skip | (refine Lt.qat_slice 22 rfl ?_; go_big_quiet_want; refine Lt.quiet_slice 22 30 rfl (by kernel_rfl) 4 (by kernel_rfl) p n c rfl 0 i c (Or.inl ⟨rfl, rfl⟩) (Or.inr ⟨_, rfl, by omega⟩) (Or.inl ⟨rfl, rfl⟩) (.slice p i c) (by rw [HFP.out]; rfl) ?_; simp only [Act.put, List.setIfInBounds_toArray, List.set_cons_zero, List.set_cons_succ]; go_big_quiet_on) | (refine Lt.qat_slice 22 rfl ?_; go_big_quiet_want; refine Lt.quiet_slice 22 30 rfl (by kernel_rfl) 4 (by kernel_rfl) p n c rfl (i + 1) n c (Or.inl ⟨rfl, rfl⟩) (Or.inl ⟨rfl, rfl, rfl⟩) (Or.inr ⟨_, congrArg some HI.out, by omega⟩) (.slice q (n - (i + 1)) (c - (i + 1))) (by rw [HQ.out]) ?_; simp only [Act.put, List.setIfInBounds_toArray, List.set_cons_zero, List.set_cons_succ]; go_big_quiet_on) | (refine Mq.qat_load 22 rfl ?_; go_big_quiet_want; first | (refine Mq.quiet_load_cell 22 _ rfl 0 _ _ _ _ _ rfl rfl rfl (by kernel_rfl) (by kernel_rfl) ?_; simp only [Act.put, List.setIfInBounds_toArray, List.set_cons_zero, List.set_cons_succ]; go_big_quiet_on)) | ((fail_if_success (refine Mq.qlit_t rfl ?_)); (fail_if_success (refine Mq.qlit_f rfl ?_)); refine Mq.qsplit rfl rfl ?_ ?_ <;> (intro hg_; simp only [hg_]; try simp only [M.hgs] at hg_)) | (go_big_quiet_step (exact rfl); skip)))); refine Go.Proofs.Ytmmljeekonechaa.G.wpQuiet_end ?_; clear s_; intro s_; refine Mr.any_one 14 (some 30) #[true, true, true, true, true, true, true, true, true, true, true, true, true, true, true, false, false, false, false] s_ rfl rfl (by kernel_rfl) (by kernel_rfl) rfl (fun _ h_ => ⟨⟨_, h_.take (A := [_])⟩, rfl⟩) (Sl.outs_bslice 115 22 2 _ rfl (by kernel_rfl) #[.slice p i c, .slice q (n - (i + 1)) (c - (i + 1))] (by kernel_rfl)) ?_; clear s_; rintro v_ L_ ⟨gb_, rfl, rfl⟩ s_; simp only [Act.put, List.setIfInBounds_toArray, List.set_cons_zero, List.set_cons_succ]; refine Mr.any_one 15 (some 31) #[true, true, true, true, true, true, true, true, true, true, true, true, true, true, true, true, false, false, false] s_ rfl rfl (by kernel_rfl) (by kernel_rfl) rfl (fun _ h_ => ⟨⟨_, (h_.drop (A := [_])).take (A := [_])⟩, rfl⟩) (Mr.outs_does (R := [_]) 47 _ _ rfl Try.func47 (by kernel_rfl) (by kernel_rfl) (CCC gb_) rfl (Zl.perm_bt _ _ _)) ?_; clear s_; rintro v_ L_ ⟨A2_, hr_, rfl⟩ s_; simp only [Act.put, List.setIfInBounds_toArray, List.set_cons_zero, List.set_cons_succ]; refine Mr.any_tail (by kernel_rfl) (fun _ h_ => ⟨⟨_, h_.drop (A := A2_)⟩, rfl⟩) ?_; clear s_ HM; intro w_ HM; simp only [List.drop_succ_cons, List.drop_zero])
    | (refine M.at_mem rfl ?_; first | (refine M.at_load 22 rfl ?_; first | (refine M.load_cell_m HM rfl 22 _ rfl 0 _ _ _ _ _ rfl rfl rfl (by kernel_rfl) (by kernel_rfl) ?_; go_simp)) | (refine M.at_store 22 rfl ?_; first | (replace HM := HM.perm List.perm_append_comm; refine M.store_cell_m HM rfl 22 _ _ rfl 0 gT 1 _ _ v_ rfl rfl rfl (by kernel_rfl) (LR.one hr_) (by simp) ?_; clear HM; intro w_ HM; (try simp only [List.set_cons_zero, List.set_cons_succ, List.setIfInBounds_toArray, List.cons_append, List.nil_append] at HM); go_simp) | (refine M.store_cell_m HM rfl 22 _ _ rfl 0 _ _ _ _ _ rfl rfl rfl (by kernel_rfl) rfl (by simp) ?_; clear HM; intro w_ HM; (try simp only [M.nrm] at HM); go_simp)) | ((fail_if_success (refine M.lit_t rfl ?_)); (fail_if_success (refine M.lit_f rfl ?_)); refine M.split_guard rfl rfl ?_ ?_ <;> (intro hg_; simp only [hg_]; try simp only [M.hgs] at hg_)))
    | (refine Mc.at_cmp _ rfl ?_; refine Mc.cmp_m rfl _ rfl _ _ _ rfl _ _ _ rfl rfl _ rfl ?_ ?_ <;> (intro hg_; try simp only [M.hgs] at hg_; first | (exfalso; first | omega | (simp at hg_; done)) | (go_simp)))
    | ((fail_if_success (refine M.lit_t rfl ?_)); (fail_if_success (refine M.lit_f rfl ?_)); refine M.split_guard rfl rfl ?_ ?_ <;> (intro hg_; simp only [hg_]; try simp only [M.hgs] at hg_)))
  all_goals
    go_ret
    first | exact ⟨_, _, rfl, ⟨rfl, ⟨_, A2_, hr_, rfl⟩⟩, HM⟩ | exact ⟨_, ⟨rfl, ⟨_, A2_, hr_, rfl⟩⟩, HM⟩ | exact ⟨_, rfl, _, ⟨rfl, ⟨_, A2_, hr_, rfl⟩⟩, HM⟩
end Go.Proofs.Ytmmljeekonechaa.Zl
