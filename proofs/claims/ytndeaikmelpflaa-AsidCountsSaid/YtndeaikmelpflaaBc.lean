/- The maker of the iterator; Drop. -/
import Derived.Test.YtndeaikmelpflaaBb
import Derived.Test.YtndeaikmelpflaaLu
namespace Go.Proofs.Ytndeaikmelpflaa.Bc
open Go.RowKit Go.Shelf Go.Proofs.Ytndeaikmelpflaa.G Go.Proofs.Ytndeaikmelpflaa.B Go.Proofs.Ytndeaikmelpflaa.M Go.Proofs.Ytndeaikmelpflaa.Mv Go.Proofs.Ytndeaikmelpflaa.Sl Go.Proofs.Ytndeaikmelpflaa.Sm Go.Proofs.Ytndeaikmelpflaa.Sn Go.Proofs.Ytndeaikmelpflaa.Ma Go.Proofs.Ytndeaikmelpflaa.Dr Go.Proofs.Ytndeaikmelpflaa.Ya Go.Proofs.Ytndeaikmelpflaa.Yb Go.Proofs.Ytndeaikmelpflaa.Yc Go.Proofs.Ytndeaikmelpflaa.Ls Go.Proofs.Ytndeaikmelpflaa.Lt Go.Proofs.Ytndeaikmelpflaa.Lu Go.Proofs.Ytndeaikmelpflaa.Aa Go.Proofs.Ytndeaikmelpflaa.Ab Go.Proofs.Ytndeaikmelpflaa.Ba Go.Proofs.Ytndeaikmelpflaa.Bb

set_option linter.unusedVariables false
set_option linter.unusedSimpArgs false
set_option maxRecDepth 100000
attribute [local go_sem] Oper.semAt_some
def SpRel (gC : Nat) (pool : Int) (r : Value) (L : Hp) : Prop := ∃ Bc Bp : Nat, r = .func (.func 43) #[] #[.pointer (some ⟨Bc, 0, none⟩), .pointer (some ⟨Bp, 0, none⟩)] ∧ L = [(Bp, row #[.int .i64 pool] 3), (Bc, row #[.pointer (some ⟨gC, 0, none⟩)] 23)]
theorem lr_cells {T : Type} {k : Nat} [Rec T k] {t : TypeId} {l : List T} {v : Value} {A : Hp} (h : LR t l v A) : ∀ p ∈ A, p.2.isCells = true := by
  rcases h with ⟨-, -, rfl⟩ | ⟨g, o, cap, cur, -, -, -, -, -, rfl⟩
  · intro p hp; cases hp
  · intro p hp
    rw [List.mem_singleton] at hp
    subst hp
    rfl
set_option maxHeartbeats 4000000 in
theorem spaces_any (gC : Nat) (pool : Int) : Does Try.prog 29 #[.pointer (some ⟨gC, 0, none⟩), .int .i64 pool] [] (SpRel gC pool) := by
  intro w hH
  have HM := Mem.start hH
  go_enter Try.func29, Try.ntmps29
  go_wp2_with (first
    | (refine M.at_mem rfl ?_; first | (refine M.at_box 3 rfl ?_; first | (refine M.box1_m HM rfl rfl 3 _ rfl _ rfl rfl ?_; clear HM; intro g_ w_ HM; go_simp)) | (refine M.at_box 23 rfl ?_; first | (refine M.box1_m HM rfl rfl 23 _ rfl _ rfl rfl ?_; clear HM; intro g_ w_ HM; go_simp)) | ((fail_if_success (refine M.lit_t rfl ?_)); (fail_if_success (refine M.lit_f rfl ?_)); refine M.split_guard rfl rfl ?_ ?_ <;> (intro hg_; simp only [hg_]; try simp only [M.hgs] at hg_)))
    | ((fail_if_success (refine M.lit_t rfl ?_)); (fail_if_success (refine M.lit_f rfl ?_)); refine M.split_guard rfl rfl ?_ ?_ <;> (intro hg_; simp only [hg_]; try simp only [M.hgs] at hg_)))
  go_ret
  first
  | exact ⟨_, _, rfl, ⟨_, _, rfl, rfl⟩, HM⟩
  | exact ⟨_, ⟨_, _, rfl, rfl⟩, HM⟩
theorem spaces_stops {f : Int → Int} {gM gC : Nat} {ps : Nat → Int} {AM : Hp} (hP : Pm 131072 f gM AM) (h : Psok ps) (pool : Int) (p0 : 0 ≤ pool) (p8 : pool < 8) (Bc Bp : Nat) (w : World) (hH : Has (itR gM gC ps pool Bc Bp AM) w) :
    SeqStopsK Fence.wide 4 Try.prog 43 #[.pointer (some ⟨Bc, 0, none⟩), .pointer (some ⟨Bp, 0, none⟩)] encs (KpR (itR gM gC ps pool Bc Bp AM)) (fun ys => ys = lst f ps pool) (fun pre => pre <+: lst f ps pool) 512 w := fun l J Jx W hW hJ hJx hY h0 =>
  spaces_in hP h pool p0 p8 Bc Bp l J Jx W hJ hJx hY (has_below hH ⟨hW.os, hW.tape, hW.output, hW.size, hW.block⟩) h0
def upp (ps : Nat → Int) (i : Nat) (v : Int) : Nat → Int := fun j => if j = i then v else ps j
def DropRel (f : Int → Int) (gM gC : Nat) (ps : Nat → Int) (pool : Int) (r : Value) (L : Hp) : Prop :=
  (okP ps pool = false ∧ r = .tuple #[.slice none 0 0, .int .i64 14] ∧ AC f gM gC ps L) ∨
  (okP ps pool = true ∧ ∃ v A L', LR 3 ((lst f ps pool).map (·.1)) v A ∧ r = .tuple #[v, .int .i64 0] ∧ L = A ++ L' ∧ AC f gM gC (upp ps pool.toNat 0) L')
theorem ccells_set (gM : Nat) (ps : Nat → Int) {i : Nat} (hi : (i : Int) < 8) (v : Int) : (ccells gM ps).setIfInBounds (1 + i) (.int .u64 v) = ccells gM (upp ps i v) := by
  obtain rfl | rfl | rfl | rfl | rfl | rfl | rfl | rfl : i = 0 ∨ i = 1 ∨ i = 2 ∨ i = 3 ∨ i = 4 ∨ i = 5 ∨ i = 6 ∨ i = 7 := by omega
  all_goals simp [ccells, upp]
set_option maxHeartbeats 8000000 in
theorem drop_any {f : Int → Int} {gM gC : Nat} {ps : Nat → Int} {AM : Hp} (hP : Pm 131072 f gM AM) (h : Psok ps) (pool : Int) : Does Try.prog 31 #[.pointer (some ⟨gC, 0, none⟩), .int .i64 pool] ((gC, row (ccells gM ps) 68) :: AM) (DropRel f gM gC ps pool) := by
  have CQ := pool_any gM gC ps pool
  have hAC : AC f gM gC ps ((gC, row (ccells gM ps) 68) :: AM) := ⟨AM, hP, rfl⟩
  have HAC := Lib.hid hAC
  unfold RIs at CQ
  by_cases ho : okP ps pool = true
  rotate_left
  · have ho : okP ps pool = false := by simpa using ho
    have HOK := Lib.hid ho
    rw [ho] at CQ
    generalize poolP ps pool = pv at CQ
    clear ho hAC
    intro w hH
    have HM := Mem.start hH
    refine calls_marks Try.func31 rfl ?_
    simp only [Try.ntmps31, List.size_toArray, List.length_cons, List.length_nil, Nat.reduceAdd, Nat.reduceSub, Array.replicate_succ, Array.replicate_zero, List.push_toArray, List.append_toArray, List.nil_append, List.cons_append]
    go_wp2_with (first
      | (go_big_skip)
      | (go_at_call 15; (with_reducible refine (M.Does.call (CQ) HM (M.perm_at 0 rfl)).mono ?_); clear HM; rintro e w_ ⟨v_, L_, rfl, ⟨rfl, rfl⟩, HM⟩; (try simp only [M.nrm] at HM); dsimp only)
      | (refine M.at_mem rfl ?_; first | (refine M.at_load 37 rfl ?_; first | (refine M.load_cell_m HM rfl 37 _ rfl 0 _ _ _ _ _ rfl rfl rfl (by kernel_rfl) (by kernel_rfl) ?_; go_simp)) | (refine M.at_store 25 rfl ?_; first | (refine M.store_cell_m HM rfl 25 _ _ rfl 0 _ _ _ _ _ rfl rfl rfl (by kernel_rfl) rfl (by simp) ?_; clear HM; intro w_ HM; (try simp only [M.nrm] at HM); go_simp)) | (refine M.at_store 37 rfl ?_; first | (refine M.store_cell_m HM rfl 37 _ _ rfl 0 _ _ _ _ _ rfl rfl rfl (by kernel_rfl) rfl (by simp) ?_; clear HM; intro w_ HM; (try simp only [M.nrm] at HM); go_simp)) | (refine M.at_alloc 37 rfl ?_; first | (refine M.alloc_m HM rfl rfl 37 rfl (.slice none 0 0) (by kernel_rfl) #[(.slice none 0 0)] rfl ?_; clear HM; intro g_ w_ HM; go_simp)) | ((fail_if_success (refine M.lit_t rfl ?_)); (fail_if_success (refine M.lit_f rfl ?_)); refine M.split_guard rfl rfl ?_ ?_ <;> (intro hg_; simp only [hg_]; try simp only [M.hgs] at hg_)))
      | (refine Mc.at_cmp _ rfl ?_; refine Mc.cmp_m rfl _ rfl _ _ _ rfl _ _ _ rfl rfl _ rfl ?_ ?_ <;> (intro hg_; try simp only [M.hgs] at hg_; first | (exfalso; first | omega | (simp at hg_; done)) | (go_simp)))
      | ((fail_if_success (refine M.lit_t rfl ?_)); (fail_if_success (refine M.lit_f rfl ?_)); refine M.split_guard rfl rfl ?_ ?_ <;> (intro hg_; simp only [hg_]; try simp only [M.hgs] at hg_)))
    all_goals
      try simp only [Exit.inBlock, Exit.then]
      refine leave_end (results_tmp2 rfl _ _ _) ?_
      first
      | exact ⟨_, _, rfl, .inl ⟨HOK.out, rfl, HAC.out⟩, HM⟩
      | exact ⟨_, .inl ⟨HOK.out, rfl, HAC.out⟩, HM⟩
  obtain ⟨hp0, hp8⟩ : 0 ≤ pool ∧ pool < 8 := by
    unfold okP at ho
    simp only [Bool.and_eq_true, decide_eq_true_eq] at ho
    exact ho.1
  have HOK := Lib.hid ho
  rw [ho] at CQ
  generalize poolP ps pool = pv at CQ
  clear ho hAC
  obtain ⟨p, rfl⟩ : ∃ p : Nat, pool = p := ⟨pool.toNat, by omega⟩
  intro w hH
  have HM := Mem.start hH
  refine calls_marks Try.func31 rfl ?_
  simp only [Try.ntmps31, List.size_toArray, List.length_cons, List.length_nil, Nat.reduceAdd, Nat.reduceSub, Array.replicate_succ, Array.replicate_zero, List.push_toArray, List.append_toArray, List.nil_append, List.cons_append]
  go_wp2_with (first
    | (go_big_skip)
    | (go_at_call 29; refine (call_new (spaces_any gC p) HM).mono ?_; clear HM; rintro e w_ ⟨v_, L_, rfl, ⟨Bc_, Bp_, rfl, rfl⟩, HM⟩; simp only [List.cons_append, List.nil_append] at HM; dsimp only)
    | (go_at_call 15; (with_reducible refine (M.Does.call (CQ) HM (M.perm_at 0 rfl)).mono ?_); clear HM; rintro e w_ ⟨v_, L_, rfl, ⟨rfl, rfl⟩, HM⟩; (try simp only [M.nrm] at HM); dsimp only)
    | (refine M.at_mem rfl ?_; first | (refine M.at_load 37 rfl ?_; first | (refine M.load_cell_m HM rfl 37 _ rfl 0 _ _ _ _ _ rfl rfl rfl (by kernel_rfl) (by kernel_rfl) ?_; go_simp) | (refine M.load_cell_m HM rfl 37 _ rfl 1 _ _ _ _ _ rfl rfl rfl (by kernel_rfl) (by kernel_rfl) ?_; go_simp)) | (refine M.at_store 25 rfl ?_; first | (refine M.store_cell_m HM rfl 25 _ _ rfl 0 _ _ _ _ _ rfl rfl rfl (by kernel_rfl) rfl (by simp) ?_; clear HM; intro w_ HM; (try simp only [M.nrm] at HM); go_simp) | (refine M.store_cell_m HM rfl 25 _ _ rfl 1 _ _ _ _ _ rfl rfl rfl (by kernel_rfl) rfl (by simp) ?_; clear HM; intro w_ HM; (try simp only [M.nrm] at HM); go_simp)) | (refine M.at_store 37 rfl ?_; first | (refine M.store_cell_m HM rfl 37 _ _ rfl 0 _ _ _ _ _ rfl rfl rfl (by kernel_rfl) rfl (by simp) ?_; clear HM; intro w_ HM; (try simp only [M.nrm] at HM); go_simp) | (refine M.store_cell_m HM rfl 37 _ _ rfl 1 _ _ _ _ _ rfl rfl rfl (by kernel_rfl) rfl (by simp) ?_; clear HM; intro w_ HM; (try simp only [M.nrm] at HM); go_simp)) | (refine M.at_alloc 37 rfl ?_; first | (refine M.alloc_m HM rfl rfl 37 rfl (.slice none 0 0) (by kernel_rfl) #[(.slice none 0 0)] rfl ?_; clear HM; intro g_ w_ HM; go_simp)) | ((fail_if_success (refine M.lit_t rfl ?_)); (fail_if_success (refine M.lit_f rfl ?_)); refine M.split_guard rfl rfl ?_ ?_ <;> (intro hg_; simp only [hg_]; try simp only [M.hgs] at hg_)))
    | (refine Mc.at_cmp _ rfl ?_; refine Mc.cmp_m rfl _ rfl _ _ _ rfl _ _ _ rfl rfl _ rfl ?_ ?_ <;> (intro hg_; try simp only [M.hgs] at hg_; first | (exfalso; first | omega | (simp at hg_; done)) | (go_simp)))
    | ((fail_if_success (refine M.lit_t rfl ?_)); (fail_if_success (refine M.lit_f rfl ?_)); refine M.split_guard rfl rfl ?_ ?_ <;> (intro hg_; simp only [hg_]; try simp only [M.hgs] at hg_)))
  have HM2 : Mem _ _ ([_] ++ (_ :: _ :: _ :: AM)) _ := HM.fore 2 rfl
  have hp2 : ((Bp_, row #[.int .i64 (p : Int)] 3) :: (Bc_, row #[.pointer (some ⟨gC, 0, none⟩)] 23) :: (g_, row #[.slice none 0 0] 37) :: (gC, row (ccells gM ps) 68) :: AM).Perm (itR gM gC ps p Bc_ Bp_ AM ++ [(g_, row #[.slice none 0 0] 37)]) := (List.Perm.swap _ _ _).trans (List.Perm.cons _ (List.Perm.cons _ (List.perm_append_comm (l₁ := [_]))))
  have hH2 := (HM.perm hp2).has.left
  apply wp_range (R := itR gM gC ps p Bc_ Bp_ AM) (xs := lst f ps p) (N := 512) (encs := encs) (I := fun pre B => ∃ v A, B = (g_, row #[v] 37) :: A ∧ LR 3 (pre.map (·.1)) v A) (Ix := fun _ _ => False) (gf := 43) (lb := #[.pointer (some ⟨Bc_, 0, none⟩), .pointer (some ⟨Bp_, 0, none⟩)]) (hsub := by
    intro p hp
    simp only [itR, List.mem_cons] at hp ⊢
    rcases hp with e | e | e | e
    · exact .inr (.inl e)
    · exact .inl e
    · exact .inr (.inr (.inl e))
    · exact .inr (.inr (.inr e))) HM2
  case hg => rfl
  case eg => exact enters_of Try.func43 (by kernel_rfl) rfl
  case hseq => exact spaces_stops hP h p hp0 hp8 Bc_ Bp_ _ hH2
  case hps => exact fun _ => rfl
  case hIc =>
    rintro pre B ⟨v, A, rfl, hl⟩ p hp
    rcases List.mem_cons.1 hp with rfl | hp
    · rfl
    · exact lr_cells hl p hp
  case hIxc => exact fun _ _ h => h.elim
  case h0 => exact ⟨_, [], rfl, LR.nil _⟩
  case hassign =>
    intro l x W K hK
    dsimp only [encs]
    gi_wp2
    exact hK
  case hbody =>
    rintro l pre ⟨xv, xs⟩ W B ⟨v, A, rfl, hl⟩ hlen hB
    have hl2 : (pre.map (·.1)).length < 512 := by simpa using hlen
    have HL := Lib.hid hl
    clear HM HM2 hH2 hp2 hl
    refine wpIn_block ?_
    refine region_in (fun ⟨a, w, hh⟩ => hh) (by simp) ?_
    have HM := Mem.start hB
    go_wp2_with (first
      | (refine Sl.at_bslice 37 rfl ?_; first | (refine Ls.bslice1v_m HM rfl rfl 37 3 _ rfl (by kernel_rfl) (.int .i64 xv) rfl (by kernel_rfl) ?_; clear HM; intro gb_ w_ HM; go_simp))
      | (refine Sm.at_call_append rfl ?_; first | (refine Ls.append_lr_m (R := [_]) HM rfl rfl _ _ 37 3 rfl 8 (by kernel_rfl) (by kernel_rfl) _ _ HL.out rfl (xv) 0 _ rfl rfl (by (try simp only [maxLen, List.length_append, List.length_cons, List.length_nil]); omega) (by (try simp only [List.length_append, List.length_cons, List.length_nil]); omega) ?_; clear HM HL; intro vo_ Ao_ w_ ho_ HM; have HL := Lib.hid ho_; clear ho_; (try simp only [List.cons_append, List.nil_append] at HM); go_simp) | (refine Ls.append_lr_m (R := [_, _]) HM rfl rfl _ _ 37 3 rfl 8 (by kernel_rfl) (by kernel_rfl) _ _ HL.out rfl (xv) 0 _ rfl rfl (by (try simp only [maxLen, List.length_append, List.length_cons, List.length_nil]); omega) (by (try simp only [List.length_append, List.length_cons, List.length_nil]); omega) ?_; clear HM HL; intro vo_ Ao_ w_ ho_ HM; have HL := Lib.hid ho_; clear ho_; (try simp only [List.cons_append, List.nil_append] at HM); go_simp) | (refine Ls.append_lr_m (R := [_, _, _]) HM rfl rfl _ _ 37 3 rfl 8 (by kernel_rfl) (by kernel_rfl) _ _ HL.out rfl (xv) 0 _ rfl rfl (by (try simp only [maxLen, List.length_append, List.length_cons, List.length_nil]); omega) (by (try simp only [List.length_append, List.length_cons, List.length_nil]); omega) ?_; clear HM HL; intro vo_ Ao_ w_ ho_ HM; have HL := Lib.hid ho_; clear ho_; (try simp only [List.cons_append, List.nil_append] at HM); go_simp) | (refine Ls.append_lr_m (R := [_, _, _, _]) HM rfl rfl _ _ 37 3 rfl 8 (by kernel_rfl) (by kernel_rfl) _ _ HL.out rfl (xv) 0 _ rfl rfl (by (try simp only [maxLen, List.length_append, List.length_cons, List.length_nil]); omega) (by (try simp only [List.length_append, List.length_cons, List.length_nil]); omega) ?_; clear HM HL; intro vo_ Ao_ w_ ho_ HM; have HL := Lib.hid ho_; clear ho_; (try simp only [List.cons_append, List.nil_append] at HM); go_simp) | (refine Ls.append_lr_m (R := [_, _, _, _, _]) HM rfl rfl _ _ 37 3 rfl 8 (by kernel_rfl) (by kernel_rfl) _ _ HL.out rfl (xv) 0 _ rfl rfl (by (try simp only [maxLen, List.length_append, List.length_cons, List.length_nil]); omega) (by (try simp only [List.length_append, List.length_cons, List.length_nil]); omega) ?_; clear HM HL; intro vo_ Ao_ w_ ho_ HM; have HL := Lib.hid ho_; clear ho_; (try simp only [List.cons_append, List.nil_append] at HM); go_simp) | (refine Ls.append_lr_m (R := [_, _, _, _, _, _]) HM rfl rfl _ _ 37 3 rfl 8 (by kernel_rfl) (by kernel_rfl) _ _ HL.out rfl (xv) 0 _ rfl rfl (by (try simp only [maxLen, List.length_append, List.length_cons, List.length_nil]); omega) (by (try simp only [List.length_append, List.length_cons, List.length_nil]); omega) ?_; clear HM HL; intro vo_ Ao_ w_ ho_ HM; have HL := Lib.hid ho_; clear ho_; (try simp only [List.cons_append, List.nil_append] at HM); go_simp) | (refine Ls.append_lr_m (R := [_, _, _, _, _, _, _]) HM rfl rfl _ _ 37 3 rfl 8 (by kernel_rfl) (by kernel_rfl) _ _ HL.out rfl (xv) 0 _ rfl rfl (by (try simp only [maxLen, List.length_append, List.length_cons, List.length_nil]); omega) (by (try simp only [List.length_append, List.length_cons, List.length_nil]); omega) ?_; clear HM HL; intro vo_ Ao_ w_ ho_ HM; have HL := Lib.hid ho_; clear ho_; (try simp only [List.cons_append, List.nil_append] at HM); go_simp) | (refine Ls.append_lr_m (R := [_, _, _, _, _, _, _, _]) HM rfl rfl _ _ 37 3 rfl 8 (by kernel_rfl) (by kernel_rfl) _ _ HL.out rfl (xv) 0 _ rfl rfl (by (try simp only [maxLen, List.length_append, List.length_cons, List.length_nil]); omega) (by (try simp only [List.length_append, List.length_cons, List.length_nil]); omega) ?_; clear HM HL; intro vo_ Ao_ w_ ho_ HM; have HL := Lib.hid ho_; clear ho_; (try simp only [List.cons_append, List.nil_append] at HM); go_simp))
      | (refine M.at_mem rfl ?_; first | (refine M.at_load 37 rfl ?_; first | (refine M.load_cell_m HM rfl 37 _ rfl 0 _ _ _ _ _ rfl rfl rfl (by kernel_rfl) (by kernel_rfl) ?_; go_simp) | (refine M.load_cell_m HM rfl 37 _ rfl 1 _ _ _ _ _ rfl rfl rfl (by kernel_rfl) (by kernel_rfl) ?_; go_simp) | (refine M.load_cell_m HM rfl 37 _ rfl 2 _ _ _ _ _ rfl rfl rfl (by kernel_rfl) (by kernel_rfl) ?_; go_simp) | (refine M.load_cell_m HM rfl 37 _ rfl 3 _ _ _ _ _ rfl rfl rfl (by kernel_rfl) (by kernel_rfl) ?_; go_simp)) | (refine M.at_store 25 rfl ?_; first | (refine M.store_cell_m HM rfl 37 _ _ rfl 1 _ _ _ _ vo_ rfl rfl rfl (by kernel_rfl) HL.out.one (by simp) ?_; clear HM; intro w_ HM; (try simp only [M.nrm] at HM); go_simp) | (refine M.store_cell_m HM rfl 25 _ _ rfl 0 _ _ _ _ _ rfl rfl rfl (by kernel_rfl) rfl (by simp) ?_; clear HM; intro w_ HM; (try simp only [M.nrm] at HM); go_simp) | (refine M.store_cell_m HM rfl 25 _ _ rfl 1 _ _ _ _ _ rfl rfl rfl (by kernel_rfl) rfl (by simp) ?_; clear HM; intro w_ HM; (try simp only [M.nrm] at HM); go_simp) | (refine M.store_cell_m HM rfl 25 _ _ rfl 2 _ _ _ _ _ rfl rfl rfl (by kernel_rfl) rfl (by simp) ?_; clear HM; intro w_ HM; (try simp only [M.nrm] at HM); go_simp) | (refine M.store_cell_m HM rfl 25 _ _ rfl 3 _ _ _ _ _ rfl rfl rfl (by kernel_rfl) rfl (by simp) ?_; clear HM; intro w_ HM; (try simp only [M.nrm] at HM); go_simp)) | (refine M.at_store 37 rfl ?_; first | (refine M.store_cell_m HM rfl 37 _ _ rfl 1 _ _ _ _ vo_ rfl rfl rfl (by kernel_rfl) HL.out.one (by simp) ?_; clear HM; intro w_ HM; (try simp only [M.nrm] at HM); go_simp) | (refine M.store_cell_m HM rfl 37 _ _ rfl 0 _ _ _ _ _ rfl rfl rfl (by kernel_rfl) rfl (by simp) ?_; clear HM; intro w_ HM; (try simp only [M.nrm] at HM); go_simp) | (refine M.store_cell_m HM rfl 37 _ _ rfl 1 _ _ _ _ _ rfl rfl rfl (by kernel_rfl) rfl (by simp) ?_; clear HM; intro w_ HM; (try simp only [M.nrm] at HM); go_simp) | (refine M.store_cell_m HM rfl 37 _ _ rfl 2 _ _ _ _ _ rfl rfl rfl (by kernel_rfl) rfl (by simp) ?_; clear HM; intro w_ HM; (try simp only [M.nrm] at HM); go_simp) | (refine M.store_cell_m HM rfl 37 _ _ rfl 3 _ _ _ _ _ rfl rfl rfl (by kernel_rfl) rfl (by simp) ?_; clear HM; intro w_ HM; (try simp only [M.nrm] at HM); go_simp)) | (refine M.at_alloc 37 rfl ?_; first | (refine M.alloc_m HM rfl rfl 37 rfl (.slice none 0 0) (by kernel_rfl) #[(.slice none 0 0)] rfl ?_; clear HM; intro g_ w_ HM; go_simp)) | ((fail_if_success (refine M.lit_t rfl ?_)); (fail_if_success (refine M.lit_f rfl ?_)); refine M.split_guard rfl rfl ?_ ?_ <;> (intro hg_; simp only [hg_]; try simp only [M.hgs] at hg_)))
      | ((fail_if_success (refine M.lit_t rfl ?_)); (fail_if_success (refine M.lit_f rfl ?_)); refine M.split_guard rfl rfl ?_ ?_ <;> (intro hg_; simp only [hg_]; try simp only [M.hgs] at hg_)))
    try simp only [Exit.inBlock]
    exact ⟨_, ⟨_, _, rfl, by first | exact HL.out | (rw [List.map_append]; exact HL.out)⟩, HM.drop (A := [_])⟩
  case hdone =>
    rintro D W B ⟨v, A, rfl, hl⟩ HM
    have HL := Lib.hid hl
    clear hl HM2 hH2 hp2
    have HM := HM.perm (List.Perm.cons _ (List.Perm.cons _ (perm_front A [_, _, _] AM)))
    simp only [List.cons_append, List.nil_append] at HM
    dsimp only [Exit.inBlock, Exit.then]
    go_wp2_with (first
      | (go_big_skip)
      | (refine Sl.at_indexAddr 26 rfl ?_; refine Ma.indexArr_m rfl _ rfl 26 rfl 8 25 (by kernel_rfl) 1 (by kernel_rfl) gC 1 rfl .i64 (p : Int) rfl (by omega) (by omega) (1 + p) (by omega) ?_; go_simp)
      | (refine M.at_mem rfl ?_; first | (refine M.at_load 37 rfl ?_; first | (refine M.load_cell_m HM rfl 37 _ rfl 0 _ _ _ _ _ rfl rfl rfl (by kernel_rfl) (by kernel_rfl) ?_; go_simp) | (refine M.load_cell_m HM rfl 37 _ rfl 1 _ _ _ _ _ rfl rfl rfl (by kernel_rfl) (by kernel_rfl) ?_; go_simp) | (refine M.load_cell_m HM rfl 37 _ rfl 2 _ _ _ _ _ rfl rfl rfl (by kernel_rfl) (by kernel_rfl) ?_; go_simp) | (refine M.load_cell_m HM rfl 37 _ rfl 3 _ _ _ _ _ rfl rfl rfl (by kernel_rfl) (by kernel_rfl) ?_; go_simp) | (refine M.load_cell_m HM rfl 37 _ rfl 4 _ _ _ _ _ rfl rfl rfl (by kernel_rfl) (by kernel_rfl) ?_; go_simp)) | (refine M.at_store 25 rfl ?_; first | (refine M.store_cell_m HM rfl 25 _ _ rfl 4 _ (1 + p) _ _ (.int .u64 0) rfl rfl rfl (by kernel_rfl) rfl (by simp [ccells]; omega) ?_; clear HM; intro w_ HM; (try simp only [M.nrm] at HM); go_simp) | (refine M.store_cell_m HM rfl 25 _ _ rfl 0 _ _ _ _ _ rfl rfl rfl (by kernel_rfl) rfl (by simp) ?_; clear HM; intro w_ HM; (try simp only [M.nrm] at HM); go_simp) | (refine M.store_cell_m HM rfl 25 _ _ rfl 1 _ _ _ _ _ rfl rfl rfl (by kernel_rfl) rfl (by simp) ?_; clear HM; intro w_ HM; (try simp only [M.nrm] at HM); go_simp) | (refine M.store_cell_m HM rfl 25 _ _ rfl 2 _ _ _ _ _ rfl rfl rfl (by kernel_rfl) rfl (by simp) ?_; clear HM; intro w_ HM; (try simp only [M.nrm] at HM); go_simp) | (refine M.store_cell_m HM rfl 25 _ _ rfl 3 _ _ _ _ _ rfl rfl rfl (by kernel_rfl) rfl (by simp) ?_; clear HM; intro w_ HM; (try simp only [M.nrm] at HM); go_simp) | (refine M.store_cell_m HM rfl 25 _ _ rfl 4 _ _ _ _ _ rfl rfl rfl (by kernel_rfl) rfl (by simp) ?_; clear HM; intro w_ HM; (try simp only [M.nrm] at HM); go_simp)) | (refine M.at_store 37 rfl ?_; first | (refine M.store_cell_m HM rfl 25 _ _ rfl 4 _ (1 + p) _ _ (.int .u64 0) rfl rfl rfl (by kernel_rfl) rfl (by simp [ccells]; omega) ?_; clear HM; intro w_ HM; (try simp only [M.nrm] at HM); go_simp) | (refine M.store_cell_m HM rfl 37 _ _ rfl 0 _ _ _ _ _ rfl rfl rfl (by kernel_rfl) rfl (by simp) ?_; clear HM; intro w_ HM; (try simp only [M.nrm] at HM); go_simp) | (refine M.store_cell_m HM rfl 37 _ _ rfl 1 _ _ _ _ _ rfl rfl rfl (by kernel_rfl) rfl (by simp) ?_; clear HM; intro w_ HM; (try simp only [M.nrm] at HM); go_simp) | (refine M.store_cell_m HM rfl 37 _ _ rfl 2 _ _ _ _ _ rfl rfl rfl (by kernel_rfl) rfl (by simp) ?_; clear HM; intro w_ HM; (try simp only [M.nrm] at HM); go_simp) | (refine M.store_cell_m HM rfl 37 _ _ rfl 3 _ _ _ _ _ rfl rfl rfl (by kernel_rfl) rfl (by simp) ?_; clear HM; intro w_ HM; (try simp only [M.nrm] at HM); go_simp) | (refine M.store_cell_m HM rfl 37 _ _ rfl 4 _ _ _ _ _ rfl rfl rfl (by kernel_rfl) rfl (by simp) ?_; clear HM; intro w_ HM; (try simp only [M.nrm] at HM); go_simp)) | (refine M.at_alloc 37 rfl ?_; first | (refine M.alloc_m HM rfl rfl 37 rfl (.slice none 0 0) (by kernel_rfl) #[(.slice none 0 0)] rfl ?_; clear HM; intro g_ w_ HM; go_simp)) | ((fail_if_success (refine M.lit_t rfl ?_)); (fail_if_success (refine M.lit_f rfl ?_)); refine M.split_guard rfl rfl ?_ ?_ <;> (intro hg_; simp only [hg_]; try simp only [M.hgs] at hg_)))
      | ((fail_if_success (refine M.lit_t rfl ?_)); (fail_if_success (refine M.lit_f rfl ?_)); refine M.split_guard rfl rfl ?_ ?_ <;> (intro hg_; simp only [hg_]; try simp only [M.hgs] at hg_)))
    all_goals
      try simp only [Exit.inBlock, Exit.then]
      refine leave_mark HM 0 D rfl (fun W' HM => ?_)
      refine leave_end (results_tmp2 rfl _ _ _) ?_
      rw [ccells_set gM ps hp8] at HM
      have HM := (HM.drop (A := [_, _, _, _])).perm List.perm_middle.symm
      first
      | exact ⟨_, _, rfl, .inr ⟨HOK.out, _, _, _, HL.out, rfl, rfl, ⟨AM, hP, rfl⟩⟩, HM⟩
      | exact ⟨_, .inr ⟨HOK.out, _, _, _, HL.out, rfl, rfl, ⟨AM, hP, rfl⟩⟩, HM⟩
  case hstop =>
    intro D W B pre _ hh
    exact hh.elim
end Go.Proofs.Ytndeaikmelpflaa.Bc
