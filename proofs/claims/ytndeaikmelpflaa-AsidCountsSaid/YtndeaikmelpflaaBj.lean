/- Count. -/
import Derived.Test.YtndeaikmelpflaaBd
namespace Go.Proofs.Ytndeaikmelpflaa.Bj
open Go.RowKit Go.Shelf Go.Proofs.Ytndeaikmelpflaa.G Go.Proofs.Ytndeaikmelpflaa.B Go.Proofs.Ytndeaikmelpflaa.M Go.Proofs.Ytndeaikmelpflaa.Mv Go.Proofs.Ytndeaikmelpflaa.Sl Go.Proofs.Ytndeaikmelpflaa.Sm Go.Proofs.Ytndeaikmelpflaa.Sn Go.Proofs.Ytndeaikmelpflaa.Ma Go.Proofs.Ytndeaikmelpflaa.Dr Go.Proofs.Ytndeaikmelpflaa.Ya Go.Proofs.Ytndeaikmelpflaa.Yb Go.Proofs.Ytndeaikmelpflaa.Yc Go.Proofs.Ytndeaikmelpflaa.Ls Go.Proofs.Ytndeaikmelpflaa.Lt Go.Proofs.Ytndeaikmelpflaa.Lu Go.Proofs.Ytndeaikmelpflaa.Aa Go.Proofs.Ytndeaikmelpflaa.Ab Go.Proofs.Ytndeaikmelpflaa.Ba Go.Proofs.Ytndeaikmelpflaa.Bb Go.Proofs.Ytndeaikmelpflaa.Bc Go.Proofs.Ytndeaikmelpflaa.Bd

set_option linter.unusedVariables false
set_option linter.unusedSimpArgs false
set_option maxRecDepth 100000
attribute [local go_sem] Oper.semAt_some
section
variable {P : Program} {w0 W : World} {M : List Nat} {L : Hp}
/-- Results: a number in memory and two values. -/
theorem res_vtt (HM : Mem w0 M L W) {fn : Func} {p u q : Tmp} {ty : TypeId} (h : fn.results = #[.cell p ty, .tmp u, .tmp q]) (tmps : Array Value) (i g : Nat) (t : TypeId) (v : Value) (hi : L[i]? = some (g, row #[v] t))
    (hp : tmps.getD p undef = .pointer (some ⟨g, 0, none⟩)) (hagg : aggB P ty = false) (hu : (P.underlying ty).isSome = true) : (results fn tmps).run P W = .ok (.tuple #[v, tmps.getD u undef, tmps.getD q undef]) W := by
  have hl' : (loadVar ty ⟨g, 0, none⟩).run P W = .ok v W := by simpa [Instr.loadAt, Instr.sureAddr] using run_load_cell (P := P) (W := W) (off := 0) hagg hu (v := v) (by rw [blk_cell (HM.get i hi)]; rfl)
  have hp' : tmps[p]?.getD undef = .pointer (some ⟨g, 0, none⟩) := by simpa using hp
  simp [results, h, hp', asAddr, hl']
/-- Results: two values in memory. -/
theorem res_vv (HM : Mem w0 M L W) {fn : Func} {p q : Tmp} {ty ty' : TypeId} (h : fn.results = #[.cell p ty, .cell q ty']) (tmps : Array Value) (i g : Nat) (t : TypeId) (v : Value) (hi : L[i]? = some (g, row #[v] t)) (j g' : Nat) (t' : TypeId) (v' : Value) (hj : L[j]? = some (g', row #[v'] t'))
    (hp : tmps.getD p undef = .pointer (some ⟨g, 0, none⟩)) (hq : tmps.getD q undef = .pointer (some ⟨g', 0, none⟩)) (hagg : aggB P ty = false) (hu : (P.underlying ty).isSome = true) (hagg' : aggB P ty' = false) (hu' : (P.underlying ty').isSome = true) : (results fn tmps).run P W = .ok (.tuple #[v, v']) W := by
  have hl' : (loadVar ty ⟨g, 0, none⟩).run P W = .ok v W := by simpa [Instr.loadAt, Instr.sureAddr] using run_load_cell (P := P) (W := W) (off := 0) hagg hu (v := v) (by rw [blk_cell (HM.get i hi)]; rfl)
  have hl2 : (loadVar ty' ⟨g', 0, none⟩).run P W = .ok v' W := by simpa [Instr.loadAt, Instr.sureAddr] using run_load_cell (P := P) (W := W) (off := 0) hagg' hu' (v := v') (by rw [blk_cell (HM.get j hj)]; rfl)
  have hp' : tmps[p]?.getD undef = .pointer (some ⟨g, 0, none⟩) := by simpa using hp
  have hq' : tmps[q]?.getD undef = .pointer (some ⟨g', 0, none⟩) := by simpa using hq
  simp [results, h, hp', hq', asAddr, hl', hl2]
end
def CntRel (f : Int → Int) (gM gC : Nat) (ps : Nat → Int) (pool : Int) (r : Value) (L : Hp) : Prop :=
  AC f gM gC ps L ∧ ((okP ps pool = false ∧ r = .tuple #[.int .i64 0, .int .i64 0, .int .i64 14]) ∨
  (okP ps pool = true ∧ r = .tuple #[.int .i64 ((lst f ps pool).length : Nat), .int .i64 (512 - ((lst f ps pool).length : Nat) - (if pool = 0 then 1 else 0)), .int .i64 0]))
set_option maxHeartbeats 8000000 in
theorem count_any {f : Int → Int} {gM gC : Nat} {ps : Nat → Int} {AM : Hp} (hP : Pm 131072 f gM AM) (h : Psok ps) (pool : Int) : Does Try.prog 19 #[.pointer (some ⟨gC, 0, none⟩), .int .i64 pool] ((gC, row (ccells gM ps) 68) :: AM) (CntRel f gM gC ps pool) := by
  have CQ := pool_any gM gC ps pool
  have hAC : AC f gM gC ps ((gC, row (ccells gM ps) 68) :: AM) := ⟨AM, hP, rfl⟩
  have HAC := Lib.hid hAC
  unfold RIs at CQ
  by_cases ho : okP ps pool = true
  rotate_left
  · have ho : okP ps pool = false := by simpa using ho
    have HOK := Lib.hid ho
    rw [ho] at CQ
    generalize poolP ps pool = pv at CQ
    clear ho hAC
    intro w hH
    have HM := Mem.start hH
    refine calls_marks Try.func19 rfl ?_
    simp only [Try.ntmps19, List.size_toArray, List.length_cons, List.length_nil, Nat.reduceAdd, Nat.reduceSub, Array.replicate_succ, Array.replicate_zero, List.push_toArray, List.append_toArray, List.nil_append, List.cons_append]
    go_wp2_with (first
      | (go_big_skip)
      | (go_at_call 15; (with_reducible refine (Go.Proofs.Ytndeaikmelpflaa.M.Does.call (CQ) HM (Go.Proofs.Ytndeaikmelpflaa.M.perm_at 1 rfl)).mono ?_); clear HM; rintro e w_ ⟨v_, L_, rfl, ⟨rfl, rfl⟩, HM⟩; (try simp only [Go.Proofs.Ytndeaikmelpflaa.M.nrm] at HM); dsimp only)
      | (refine Go.Proofs.Ytndeaikmelpflaa.M.at_mem rfl ?_; first | (refine Go.Proofs.Ytndeaikmelpflaa.M.at_load 3 rfl ?_; first | (refine Go.Proofs.Ytndeaikmelpflaa.M.load_cell_m HM rfl 3 _ rfl 0 _ _ _ _ _ rfl rfl rfl (by kernel_rfl) (by kernel_rfl) ?_; go_simp) | (refine Go.Proofs.Ytndeaikmelpflaa.M.load_cell_m HM rfl 3 _ rfl 1 _ _ _ _ _ rfl rfl rfl (by kernel_rfl) (by kernel_rfl) ?_; go_simp)) | (refine Go.Proofs.Ytndeaikmelpflaa.M.at_store 3 rfl ?_; first | (refine Go.Proofs.Ytndeaikmelpflaa.M.store_cell_m HM rfl 3 _ _ rfl 0 _ _ _ _ _ rfl rfl rfl (by kernel_rfl) rfl (by simp) ?_; clear HM; intro w_ HM; (try simp only [Go.Proofs.Ytndeaikmelpflaa.M.nrm] at HM); go_simp) | (refine Go.Proofs.Ytndeaikmelpflaa.M.store_cell_m HM rfl 3 _ _ rfl 1 _ _ _ _ _ rfl rfl rfl (by kernel_rfl) rfl (by simp) ?_; clear HM; intro w_ HM; (try simp only [Go.Proofs.Ytndeaikmelpflaa.M.nrm] at HM); go_simp)) | (refine Go.Proofs.Ytndeaikmelpflaa.M.at_alloc 3 rfl ?_; first | (refine Go.Proofs.Ytndeaikmelpflaa.M.alloc_m HM rfl rfl 3 rfl (.int .i64 0) (by kernel_rfl) #[(.int .i64 0)] rfl ?_; clear HM; intro g_ w_ HM; go_simp)) | ((fail_if_success (refine Go.Proofs.Ytndeaikmelpflaa.M.lit_t rfl ?_)); (fail_if_success (refine Go.Proofs.Ytndeaikmelpflaa.M.lit_f rfl ?_)); refine Go.Proofs.Ytndeaikmelpflaa.M.split_guard rfl rfl ?_ ?_ <;> (intro hg_; simp only [hg_]; try simp only [Go.Proofs.Ytndeaikmelpflaa.M.hgs] at hg_)))
      | (refine Mc.at_cmp _ rfl ?_; refine Mc.cmp_m rfl _ rfl _ _ _ rfl _ _ _ rfl rfl _ rfl ?_ ?_ <;> (intro hg_; try simp only [Go.Proofs.Ytndeaikmelpflaa.M.hgs] at hg_; first | (exfalso; first | omega | (simp at hg_; done)) | (go_simp)))
      | ((fail_if_success (refine Go.Proofs.Ytndeaikmelpflaa.M.lit_t rfl ?_)); (fail_if_success (refine Go.Proofs.Ytndeaikmelpflaa.M.lit_f rfl ?_)); refine Go.Proofs.Ytndeaikmelpflaa.M.split_guard rfl rfl ?_ ?_ <;> (intro hg_; simp only [hg_]; try simp only [Go.Proofs.Ytndeaikmelpflaa.M.hgs] at hg_)))
    all_goals
      try simp only [Exit.inBlock, Exit.then]
      refine leave_end (res_vtt HM rfl _ 1 g_ _ (.int .i64 0) rfl rfl (by kernel_rfl) (by kernel_rfl)) ?_
      have HM := HM.perm ((perm_at 1 rfl).trans (List.Perm.refl (_ :: _)))
      first
      | exact ⟨_, _, rfl, ⟨HAC.out, .inl ⟨HOK.out, rfl⟩⟩, HM.drop (A := [_])⟩
      | exact ⟨_, ⟨HAC.out, .inl ⟨HOK.out, rfl⟩⟩, HM.drop (A := [_])⟩
  obtain ⟨hp0, hp8⟩ : 0 ≤ pool ∧ pool < 8 := by
    unfold okP at ho
    simp only [Bool.and_eq_true, decide_eq_true_eq] at ho
    exact ho.1
  have HOK := Lib.hid ho
  rw [ho] at CQ
  generalize poolP ps pool = pv at CQ
  clear ho hAC
  obtain ⟨p, rfl⟩ : ∃ p : Nat, pool = p := ⟨pool.toNat, by omega⟩
  intro w hH
  have HM := Mem.start hH
  refine calls_marks Try.func19 rfl ?_
  simp only [Try.ntmps19, List.size_toArray, List.length_cons, List.length_nil, Nat.reduceAdd, Nat.reduceSub, Array.replicate_succ, Array.replicate_zero, List.push_toArray, List.append_toArray, List.nil_append, List.cons_append]
  go_wp2_with (first
    | (go_big_skip)
    | (go_at_call 29; refine (call_new (spaces_any gC p) HM).mono ?_; clear HM; rintro e w_ ⟨v_, L_, rfl, ⟨Bc_, Bp_, rfl, rfl⟩, HM⟩; simp only [List.cons_append, List.nil_append] at HM; dsimp only)
    | (go_at_call 15; (with_reducible refine (Go.Proofs.Ytndeaikmelpflaa.M.Does.call (CQ) HM (Go.Proofs.Ytndeaikmelpflaa.M.perm_at 1 rfl)).mono ?_); clear HM; rintro e w_ ⟨v_, L_, rfl, ⟨rfl, rfl⟩, HM⟩; (try simp only [Go.Proofs.Ytndeaikmelpflaa.M.nrm] at HM); dsimp only)
    | (refine Go.Proofs.Ytndeaikmelpflaa.M.at_mem rfl ?_; first | (refine Go.Proofs.Ytndeaikmelpflaa.M.at_load 3 rfl ?_; first | (refine Go.Proofs.Ytndeaikmelpflaa.M.load_cell_m HM rfl 3 _ rfl 0 _ _ _ _ _ rfl rfl rfl (by kernel_rfl) (by kernel_rfl) ?_; go_simp) | (refine Go.Proofs.Ytndeaikmelpflaa.M.load_cell_m HM rfl 3 _ rfl 1 _ _ _ _ _ rfl rfl rfl (by kernel_rfl) (by kernel_rfl) ?_; go_simp)) | (refine Go.Proofs.Ytndeaikmelpflaa.M.at_store 3 rfl ?_; first | (refine Go.Proofs.Ytndeaikmelpflaa.M.store_cell_m HM rfl 3 _ _ rfl 0 _ _ _ _ _ rfl rfl rfl (by kernel_rfl) rfl (by simp) ?_; clear HM; intro w_ HM; (try simp only [Go.Proofs.Ytndeaikmelpflaa.M.nrm] at HM); go_simp) | (refine Go.Proofs.Ytndeaikmelpflaa.M.store_cell_m HM rfl 3 _ _ rfl 1 _ _ _ _ _ rfl rfl rfl (by kernel_rfl) rfl (by simp) ?_; clear HM; intro w_ HM; (try simp only [Go.Proofs.Ytndeaikmelpflaa.M.nrm] at HM); go_simp)) | (refine Go.Proofs.Ytndeaikmelpflaa.M.at_alloc 3 rfl ?_; first | (refine Go.Proofs.Ytndeaikmelpflaa.M.alloc_m HM rfl rfl 3 rfl (.int .i64 0) (by kernel_rfl) #[(.int .i64 0)] rfl ?_; clear HM; intro g_ w_ HM; go_simp)) | ((fail_if_success (refine Go.Proofs.Ytndeaikmelpflaa.M.lit_t rfl ?_)); (fail_if_success (refine Go.Proofs.Ytndeaikmelpflaa.M.lit_f rfl ?_)); refine Go.Proofs.Ytndeaikmelpflaa.M.split_guard rfl rfl ?_ ?_ <;> (intro hg_; simp only [hg_]; try simp only [Go.Proofs.Ytndeaikmelpflaa.M.hgs] at hg_)))
    | (refine Mc.at_cmp _ rfl ?_; refine Mc.cmp_m rfl _ rfl _ _ _ rfl _ _ _ rfl rfl _ rfl ?_ ?_ <;> (intro hg_; try simp only [Go.Proofs.Ytndeaikmelpflaa.M.hgs] at hg_; first | (exfalso; first | omega | (simp at hg_; done)) | (go_simp)))
    | ((fail_if_success (refine Go.Proofs.Ytndeaikmelpflaa.M.lit_t rfl ?_)); (fail_if_success (refine Go.Proofs.Ytndeaikmelpflaa.M.lit_f rfl ?_)); refine Go.Proofs.Ytndeaikmelpflaa.M.split_guard rfl rfl ?_ ?_ <;> (intro hg_; simp only [hg_]; try simp only [Go.Proofs.Ytndeaikmelpflaa.M.hgs] at hg_)))
  have HM2 : Mem _ _ ([(g_, row #[.int .i64 0] 3)] ++ ((Bp_, row #[.int .i64 (p : Int)] 3) :: (Bc_, row #[.pointer (some ⟨gC, 0, none⟩)] 23) :: (gC, row (ccells gM ps) 68) :: AM)) _ := HM.fore 3 rfl
  have hp2 : ((Bp_, row #[.int .i64 (p : Int)] 3) :: (Bc_, row #[.pointer (some ⟨gC, 0, none⟩)] 23) :: (gC, row (ccells gM ps) 68) :: AM).Perm (itR gM gC ps p Bc_ Bp_ AM) := List.Perm.swap _ _ _
  have hH2 := HM2.has.right.perm hp2
  apply wp_range (R := itR gM gC ps p Bc_ Bp_ AM) (xs := lst f ps p) (N := 512) (encs := encs) (I := fun pre B => B = [(g_, row #[.int .i64 (pre.length : Nat)] 3)]) (Ix := fun _ _ => False) (gf := 43) (lb := #[.pointer (some ⟨Bc_, 0, none⟩), .pointer (some ⟨Bp_, 0, none⟩)]) (a₁ := fun x => { tmps := #[.pointer (some ⟨gC, 0, none⟩), .int .i64 (p : Int), undef, undef, .pointer (some ⟨g_, 0, none⟩), .int .i64 0, .int .i64 0, .int .u64 pv, .bool true, .tuple #[.int .u64 pv, .bool true], .pointer (some ⟨gC, 0, none⟩), .int .i64 (p : Int), .tuple #[.int .u64 pv, .bool true], .int .u64 pv, .bool true, .bool true, .bool false, .pointer (some ⟨gC, 0, none⟩), .int .i64 (p : Int), .func (.func 43) #[] #[.pointer (some ⟨Bc_, 0, none⟩), .pointer (some ⟨Bp_, 0, none⟩)], .int .i64 x.1, .int .u64 x.2, undef, undef, undef, undef, undef, undef, undef, undef, undef, undef], defers := [] }) (hsub := fun q hq => hp2.mem_iff.2 hq) HM2
  case hg => rfl
  case eg => exact enters_of Try.func43 (by kernel_rfl) rfl
  case hseq => exact spaces_stops hP h p hp0 hp8 Bc_ Bp_ _ hH2
  case hps => exact fun _ => rfl
  case hIc =>
    rintro pre B rfl q hq
    rw [List.mem_singleton] at hq
    subst hq
    rfl
  case hIxc => exact fun _ _ h => h.elim
  case h0 => rfl
  case hassign =>
    intro l x W K hK
    dsimp only [encs]
    gi_wp2
    refine Eq.mpr (congrArg (fun T => K { tmps := T, defers := [] } W) ?_) hK
    kernel_rfl
  case hbody =>
    rintro l pre ⟨xv, xs⟩ W B rfl hlen hB
    have hpl : ((pre ++ [(xv, xs)]).length : Nat) = pre.length + 1 := by simp
    rw [hpl]
    generalize pre.length = m at hlen hB
    clear HM HM2 hH2 hp2 hpl
    refine wpIn_block ?_
    refine region_in (fun ⟨a, w, hh⟩ => hh) (by simp) ?_
    have HM := Mem.start hB
    go_wp2_with (first
      | (refine Go.Proofs.Ytndeaikmelpflaa.M.at_mem rfl ?_; first | (refine Go.Proofs.Ytndeaikmelpflaa.M.at_load 3 rfl ?_; first | (refine Go.Proofs.Ytndeaikmelpflaa.M.load_cell_m HM rfl 3 _ rfl 0 _ _ _ _ _ rfl rfl rfl (by kernel_rfl) (by kernel_rfl) ?_; go_simp) | (refine Go.Proofs.Ytndeaikmelpflaa.M.load_cell_m HM rfl 3 _ rfl 1 _ _ _ _ _ rfl rfl rfl (by kernel_rfl) (by kernel_rfl) ?_; go_simp) | (refine Go.Proofs.Ytndeaikmelpflaa.M.load_cell_m HM rfl 3 _ rfl 2 _ _ _ _ _ rfl rfl rfl (by kernel_rfl) (by kernel_rfl) ?_; go_simp) | (refine Go.Proofs.Ytndeaikmelpflaa.M.load_cell_m HM rfl 3 _ rfl 3 _ _ _ _ _ rfl rfl rfl (by kernel_rfl) (by kernel_rfl) ?_; go_simp)) | (refine Go.Proofs.Ytndeaikmelpflaa.M.at_store 3 rfl ?_; first | (refine Go.Proofs.Ytndeaikmelpflaa.M.store_cell_m HM rfl 3 _ _ rfl 0 _ _ _ _ _ rfl rfl rfl (by kernel_rfl) rfl (by simp) ?_; clear HM; intro w_ HM; (try simp only [Go.Proofs.Ytndeaikmelpflaa.M.nrm] at HM); go_simp) | (refine Go.Proofs.Ytndeaikmelpflaa.M.store_cell_m HM rfl 3 _ _ rfl 1 _ _ _ _ _ rfl rfl rfl (by kernel_rfl) rfl (by simp) ?_; clear HM; intro w_ HM; (try simp only [Go.Proofs.Ytndeaikmelpflaa.M.nrm] at HM); go_simp) | (refine Go.Proofs.Ytndeaikmelpflaa.M.store_cell_m HM rfl 3 _ _ rfl 2 _ _ _ _ _ rfl rfl rfl (by kernel_rfl) rfl (by simp) ?_; clear HM; intro w_ HM; (try simp only [Go.Proofs.Ytndeaikmelpflaa.M.nrm] at HM); go_simp) | (refine Go.Proofs.Ytndeaikmelpflaa.M.store_cell_m HM rfl 3 _ _ rfl 3 _ _ _ _ _ rfl rfl rfl (by kernel_rfl) rfl (by simp) ?_; clear HM; intro w_ HM; (try simp only [Go.Proofs.Ytndeaikmelpflaa.M.nrm] at HM); go_simp)) | (refine Go.Proofs.Ytndeaikmelpflaa.M.at_alloc 3 rfl ?_; first | (refine Go.Proofs.Ytndeaikmelpflaa.M.alloc_m HM rfl rfl 3 rfl (.int .i64 0) (by kernel_rfl) #[(.int .i64 0)] rfl ?_; clear HM; intro g_ w_ HM; go_simp)) | ((fail_if_success (refine Go.Proofs.Ytndeaikmelpflaa.M.lit_t rfl ?_)); (fail_if_success (refine Go.Proofs.Ytndeaikmelpflaa.M.lit_f rfl ?_)); refine Go.Proofs.Ytndeaikmelpflaa.M.split_guard rfl rfl ?_ ?_ <;> (intro hg_; simp only [hg_]; try simp only [Go.Proofs.Ytndeaikmelpflaa.M.hgs] at hg_)))
      | ((fail_if_success (refine Go.Proofs.Ytndeaikmelpflaa.M.lit_t rfl ?_)); (fail_if_success (refine Go.Proofs.Ytndeaikmelpflaa.M.lit_f rfl ?_)); refine Go.Proofs.Ytndeaikmelpflaa.M.split_guard rfl rfl ?_ ?_ <;> (intro hg_; simp only [hg_]; try simp only [Go.Proofs.Ytndeaikmelpflaa.M.hgs] at hg_)))
    try simp only [Exit.inBlock]
    exact ⟨_, by first | rfl | (push_cast; rfl), HM⟩
  case hdone =>
    rintro D W B rfl HM
    have hln : (lst f ps p).length ≤ 512 := upto_len f ps p 512
    have HP := Lib.hid hP
    generalize hlen : (lst f ps p).length = n at HM hln
    have HLEN := Lib.hid hlen
    clear hlen
    clear HM2 hH2 hp2
    by_cases hz : (p : Int) = 0
    all_goals
      dsimp only [Exit.inBlock, Exit.then]
      go_wp2_with (first
        | (go_big_skip)
        | (refine Go.Proofs.Ytndeaikmelpflaa.M.at_mem rfl ?_; first | (refine Go.Proofs.Ytndeaikmelpflaa.M.at_load 3 rfl ?_; first | (refine Go.Proofs.Ytndeaikmelpflaa.M.load_cell_m HM rfl 3 _ rfl 0 _ _ _ _ _ rfl rfl rfl (by kernel_rfl) (by kernel_rfl) ?_; go_simp) | (refine Go.Proofs.Ytndeaikmelpflaa.M.load_cell_m HM rfl 3 _ rfl 1 _ _ _ _ _ rfl rfl rfl (by kernel_rfl) (by kernel_rfl) ?_; go_simp)) | (refine Go.Proofs.Ytndeaikmelpflaa.M.at_store 3 rfl ?_; first | (refine Go.Proofs.Ytndeaikmelpflaa.M.store_cell_m HM rfl 3 _ _ rfl 0 _ _ _ _ _ rfl rfl rfl (by kernel_rfl) rfl (by simp) ?_; clear HM; intro w_ HM; (try simp only [Go.Proofs.Ytndeaikmelpflaa.M.nrm] at HM); go_simp) | (refine Go.Proofs.Ytndeaikmelpflaa.M.store_cell_m HM rfl 3 _ _ rfl 1 _ _ _ _ _ rfl rfl rfl (by kernel_rfl) rfl (by simp) ?_; clear HM; intro w_ HM; (try simp only [Go.Proofs.Ytndeaikmelpflaa.M.nrm] at HM); go_simp)) | (refine Go.Proofs.Ytndeaikmelpflaa.M.at_alloc 3 rfl ?_; first | (refine Go.Proofs.Ytndeaikmelpflaa.M.alloc_m HM rfl rfl 3 rfl (.int .i64 0) (by kernel_rfl) #[(.int .i64 0)] rfl ?_; clear HM; intro g_ w_ HM; go_simp)) | ((fail_if_success (refine Go.Proofs.Ytndeaikmelpflaa.M.lit_t rfl ?_)); (fail_if_success (refine Go.Proofs.Ytndeaikmelpflaa.M.lit_f rfl ?_)); refine Go.Proofs.Ytndeaikmelpflaa.M.split_guard rfl rfl ?_ ?_ <;> (intro hg_; simp only [hg_]; try simp only [Go.Proofs.Ytndeaikmelpflaa.M.hgs] at hg_)))
        | (refine Mc.at_cmp _ rfl ?_; refine Mc.cmp_m rfl _ rfl _ _ _ rfl _ _ _ rfl rfl _ rfl ?_ ?_ <;> (intro hg_; try simp only [Go.Proofs.Ytndeaikmelpflaa.M.hgs] at hg_; first | (exfalso; first | omega | (simp at hg_; done)) | (go_simp)))
        | ((fail_if_success (refine Go.Proofs.Ytndeaikmelpflaa.M.lit_t rfl ?_)); (fail_if_success (refine Go.Proofs.Ytndeaikmelpflaa.M.lit_f rfl ?_)); refine Go.Proofs.Ytndeaikmelpflaa.M.split_guard rfl rfl ?_ ?_ <;> (intro hg_; simp only [hg_]; try simp only [Go.Proofs.Ytndeaikmelpflaa.M.hgs] at hg_)))
      refine leave_mark HM 0 D rfl (fun W' HM => ?_)
      refine leave_end (res_vtt HM rfl _ 1 g_ _ (.int .i64 (n : Int)) rfl rfl (by kernel_rfl) (by kernel_rfl)) ?_
      have HM := HM.drop (A := [_, _, _, _])
      refine ⟨_, _, rfl, ⟨⟨AM, HP.out, rfl⟩, .inr ⟨HOK.out, ?_⟩⟩, HM⟩
      rw [HLEN.out]
      first
      | (rw [if_pos hz]; rfl)
      | (rw [if_neg hz, Int.sub_zero]; rfl)
  case hstop =>
    intro D W B pre _ hh
    exact hh.elim
end Go.Proofs.Ytndeaikmelpflaa.Bj
