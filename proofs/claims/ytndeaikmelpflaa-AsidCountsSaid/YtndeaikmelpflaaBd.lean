/- List. -/
import Derived.Test.YtndeaikmelpflaaBc
namespace Go.Proofs.Ytndeaikmelpflaa.Bd
open Go.RowKit Go.Shelf Go.Proofs.Ytndeaikmelpflaa.G Go.Proofs.Ytndeaikmelpflaa.B Go.Proofs.Ytndeaikmelpflaa.M Go.Proofs.Ytndeaikmelpflaa.Mv Go.Proofs.Ytndeaikmelpflaa.Sl Go.Proofs.Ytndeaikmelpflaa.Sm Go.Proofs.Ytndeaikmelpflaa.Sn Go.Proofs.Ytndeaikmelpflaa.Ma Go.Proofs.Ytndeaikmelpflaa.Dr Go.Proofs.Ytndeaikmelpflaa.Ya Go.Proofs.Ytndeaikmelpflaa.Yb Go.Proofs.Ytndeaikmelpflaa.Yc Go.Proofs.Ytndeaikmelpflaa.Ls Go.Proofs.Ytndeaikmelpflaa.Lt Go.Proofs.Ytndeaikmelpflaa.Lu Go.Proofs.Ytndeaikmelpflaa.Aa Go.Proofs.Ytndeaikmelpflaa.Ab Go.Proofs.Ytndeaikmelpflaa.Ba Go.Proofs.Ytndeaikmelpflaa.Bb Go.Proofs.Ytndeaikmelpflaa.Bc

set_option linter.unusedVariables false
set_option linter.unusedSimpArgs false
set_option maxRecDepth 100000
attribute [local go_sem] Oper.semAt_some
/-- All spaces of the first i pools. -/
def cat (f : Int → Int) (ps : Nat → Int) : Nat → List (Int × Int)
  | 0 => []
  | i + 1 => cat f ps i ++ lst f ps i
theorem cat_len (f : Int → Int) (ps : Nat → Int) : ∀ i : Nat, (cat f ps i).length ≤ i * 512
  | 0 => Nat.le_refl _
  | i + 1 => by
    have h1 := cat_len f ps i
    have h2 : (lst f ps i).length ≤ 512 := upto_len f ps i 512
    rw [cat, List.length_append]
    omega
def ListRel (f : Int → Int) (gM gC : Nat) (ps : Nat → Int) (r : Value) (L : Hp) : Prop := ∃ A L', LR 3 ((cat f ps 8).map (·.1)) r A ∧ L = A ++ L' ∧ AC f gM gC ps L'
theorem shuffle1 {α : Type} (b c g k : α) (A Y : List α) : (b :: c :: g :: k :: (A ++ Y)).Perm ((g :: A) ++ (b :: c :: k :: Y)) :=
  (perm3_ b c g _).trans (List.Perm.cons _ (perm_front A [b, c, k] Y).symm)
where perm3_ (b c g : α) (l : List α) : (b :: c :: g :: l).Perm (g :: b :: c :: l) := ((List.Perm.swap g c l).cons b).trans (List.Perm.swap g b _)
theorem shuffle2 {α : Type} (b c g k : α) (A AM X : List α) : (b :: c :: g :: k :: (A ++ (AM ++ X))).Perm ((c :: b :: k :: AM) ++ (g :: (A ++ X))) := by
  refine (List.Perm.swap _ _ _).trans (List.Perm.cons _ (List.Perm.cons _ ?_))
  refine (List.Perm.swap _ _ _).trans (List.Perm.cons _ ?_)
  exact ((perm_front A AM X).cons g).trans List.perm_middle.symm
theorem shuffle3 {α : Type} (D b c g k : α) (A AM X : List α) : (D :: (g :: A ++ (b :: c :: k :: (AM ++ X)))).Perm ([b, c] ++ (g :: k :: (A ++ (AM ++ (D :: X))))) := by
  have h1 : (D :: (g :: A ++ (b :: c :: k :: (AM ++ X)))).Perm (D :: g :: b :: c :: k :: (A ++ (AM ++ X))) := List.Perm.cons _ (List.Perm.cons _ (perm_front A [b, c, k] (AM ++ X)))
  have h2 : (D :: g :: b :: c :: k :: (A ++ (AM ++ X))).Perm (b :: c :: g :: k :: D :: (A ++ (AM ++ X))) := by
    have e : ∀ (D : α) (p : List α) (l : List α), (D :: (p ++ l)).Perm (p ++ D :: l) := fun D p l => List.perm_middle.symm
    refine (e D [g, b, c, k] _).trans ?_
    exact (e g [b, c] _)
  refine h1.trans (h2.trans (List.Perm.cons _ (List.Perm.cons _ (List.Perm.cons _ (List.Perm.cons _ ?_)))))
  exact List.perm_middle.symm.trans ((List.perm_middle.symm).append_left A)
/-- Between two pools. -/
def LI (f : Int → Int) (gM gC g_ : Nat) (ps : Nat → Int) (AM : Hp) (w : World) (a' : Act) (W' : World) : Prop := ∃ (i : Nat) (ds : List Nat) (u4 u5 u7 u8 u9 u10 u11 u12 u13 u14 u15 u16 u17 u18 u19 : Value), i ≤ 8 ∧ a' = { tmps := #[.pointer (some ⟨gC, 0, none⟩), undef, .slice none 0 0, .pointer (some ⟨g_, 0, none⟩), u4, u5, .int .i64 i, u7, u8, u9, u10, u11, u12, u13, u14, u15, u16, u17, u18, u19], defers := ds.map Ba.mark } ∧ ∃ v A, LR 3 ((cat f ps i).map (·.1)) v A ∧ Mem w (((gC, row (ccells gM ps) 68) :: AM).map (·.1)) ((g_, row #[v] 37) :: (gC, row (ccells gM ps) 68) :: (A ++ (AM ++ ds.map Ba.mk))) W'
def LMu (a' : Act) (_ : World) : Nat := 8 - (intOf (a'.tmps.getD 6 undef)).toNat
set_option maxHeartbeats 8000000 in
theorem list_any {f : Int → Int} {gM gC : Nat} {ps : Nat → Int} {AM : Hp} (hP : Pm 131072 f gM AM) (h : Psok ps) : Does Try.prog 11 #[.pointer (some ⟨gC, 0, none⟩)] ((gC, row (ccells gM ps) 68) :: AM) (ListRel f gM gC ps) := by
  intro w hH
  have HM := Mem.start hH
  refine calls_marks Try.func11 rfl ?_
  simp only [Try.ntmps11, List.size_toArray, List.length_cons, List.length_nil, Nat.reduceAdd, Nat.reduceSub, Array.replicate_succ, Array.replicate_zero, List.push_toArray, List.append_toArray, List.nil_append, List.cons_append]
  go_wp2_with (first
    | (go_big_skip)
    | (refine M.at_mem rfl ?_; first | (refine M.at_load 37 rfl ?_; first | (refine M.load_cell_m HM rfl 37 _ rfl 0 _ _ _ _ _ rfl rfl rfl (by kernel_rfl) (by kernel_rfl) ?_; go_simp) | (refine M.load_cell_m HM rfl 37 _ rfl 1 _ _ _ _ _ rfl rfl rfl (by kernel_rfl) (by kernel_rfl) ?_; go_simp)) | (refine M.at_store 37 rfl ?_; first | (refine M.store_cell_m HM rfl 37 _ _ rfl 0 _ _ _ _ _ rfl rfl rfl (by kernel_rfl) rfl (by simp) ?_; clear HM; intro w_ HM; (try simp only [M.nrm] at HM); go_simp) | (refine M.store_cell_m HM rfl 37 _ _ rfl 1 _ _ _ _ _ rfl rfl rfl (by kernel_rfl) rfl (by simp) ?_; clear HM; intro w_ HM; (try simp only [M.nrm] at HM); go_simp)) | (refine M.at_alloc 37 rfl ?_; first | (refine M.alloc_m HM rfl rfl 37 rfl (.slice none 0 0) (by kernel_rfl) #[(.slice none 0 0)] rfl ?_; clear HM; intro g_ w_ HM; go_simp)) | ((fail_if_success (refine M.lit_t rfl ?_)); (fail_if_success (refine M.lit_f rfl ?_)); refine M.split_guard rfl rfl ?_ ?_ <;> (intro hg_; simp only [hg_]; try simp only [M.hgs] at hg_)))
    | ((fail_if_success (refine M.lit_t rfl ?_)); (fail_if_success (refine M.lit_f rfl ?_)); refine M.split_guard rfl rfl ?_ ?_ <;> (intro hg_; simp only [hg_]; try simp only [M.hgs] at hg_)))
  refine wp_loop (LI f gM gC g_ ps AM w) LMu ⟨0, [], _, _, _, _, _, _, _, _, _, _, _, _, _, _, _, by omega, rfl, _, [], LR.nil _, by simpa using HM⟩ ?_
  rintro a' W' ⟨i, ds, u4, u5, u7, u8, u9, u10, u11, u12, u13, u14, u15, u16, u17, u18, u19, hi, rfl, v, A, hl, HM⟩
  have HL := Lib.hid hl
  clear hl
  by_cases hlt : i < 8
  rotate_left
  · obtain rfl : i = 8 := by omega
    go_wp2_with (first
      | (go_big_skip)
      | (refine M.at_mem rfl ?_; first | (refine M.at_load 37 rfl ?_; first | (refine M.load_cell_m HM rfl 37 _ rfl 0 _ _ _ _ _ rfl rfl rfl (by kernel_rfl) (by kernel_rfl) ?_; go_simp)) | (refine M.at_store 37 rfl ?_; first | (refine M.store_cell_m HM rfl 37 _ _ rfl 0 _ _ _ _ _ rfl rfl rfl (by kernel_rfl) rfl (by simp) ?_; clear HM; intro w_ HM; (try simp only [M.nrm] at HM); go_simp)) | (refine M.at_alloc 37 rfl ?_; first | (refine M.alloc_m HM rfl rfl 37 rfl (.slice none 0 0) (by kernel_rfl) #[(.slice none 0 0)] rfl ?_; clear HM; intro g_ w_ HM; go_simp)) | ((fail_if_success (refine M.lit_t rfl ?_)); (fail_if_success (refine M.lit_f rfl ?_)); refine M.split_guard rfl rfl ?_ ?_ <;> (intro hg_; simp only [hg_]; try simp only [M.hgs] at hg_)))
      | (refine Mc.at_cmp _ rfl ?_; refine Mc.cmp_m rfl _ rfl _ _ _ rfl _ _ _ rfl rfl _ rfl ?_ ?_ <;> (intro hg_; try simp only [M.hgs] at hg_; first | (exfalso; first | omega | (simp at hg_; done)) | (go_simp)))
      | ((fail_if_success (refine M.lit_t rfl ?_)); (fail_if_success (refine M.lit_f rfl ?_)); refine M.split_guard rfl rfl ?_ ?_ <;> (intro hg_; simp only [hg_]; try simp only [M.hgs] at hg_)))
    refine leave_marks (L := (g_, row #[v] 37) :: (gC, row (ccells gM ps) 68) :: (A ++ AM)) (fun W2 HM2 => ?_) ds W' (by simpa [List.append_assoc] using HM)
    refine leave_end (results_tmp rfl _ _ _) ?_
    have HM3 := (HM2.drop (A := [_])).perm List.perm_middle.symm
    exact ⟨_, _, rfl, ⟨A, _, HL.out, rfl, ⟨AM, hP, rfl⟩⟩, HM3⟩
  · have hi1 : (i : Int) < 8 := by omega
    go_wp2_with (first
      | (go_big_skip)
      | (go_at_call 29; refine (call_new (spaces_any gC i) HM).mono ?_; clear HM; rintro e w_ ⟨v_, L_, rfl, ⟨Bc_, Bp_, rfl, rfl⟩, HM⟩; simp only [List.cons_append, List.nil_append] at HM; dsimp only)
      | (refine M.at_mem rfl ?_; first | (refine M.at_load 37 rfl ?_; first | (refine M.load_cell_m HM rfl 37 _ rfl 0 _ _ _ _ _ rfl rfl rfl (by kernel_rfl) (by kernel_rfl) ?_; go_simp) | (refine M.load_cell_m HM rfl 37 _ rfl 1 _ _ _ _ _ rfl rfl rfl (by kernel_rfl) (by kernel_rfl) ?_; go_simp)) | (refine M.at_store 37 rfl ?_; first | (refine M.store_cell_m HM rfl 37 _ _ rfl 0 _ _ _ _ _ rfl rfl rfl (by kernel_rfl) rfl (by simp) ?_; clear HM; intro w_ HM; (try simp only [M.nrm] at HM); go_simp) | (refine M.store_cell_m HM rfl 37 _ _ rfl 1 _ _ _ _ _ rfl rfl rfl (by kernel_rfl) rfl (by simp) ?_; clear HM; intro w_ HM; (try simp only [M.nrm] at HM); go_simp)) | (refine M.at_alloc 37 rfl ?_; first | (refine M.alloc_m HM rfl rfl 37 rfl (.slice none 0 0) (by kernel_rfl) #[(.slice none 0 0)] rfl ?_; clear HM; intro g_ w_ HM; go_simp)) | ((fail_if_success (refine M.lit_t rfl ?_)); (fail_if_success (refine M.lit_f rfl ?_)); refine M.split_guard rfl rfl ?_ ?_ <;> (intro hg_; simp only [hg_]; try simp only [M.hgs] at hg_)))
      | (refine Mc.at_cmp _ rfl ?_; refine Mc.cmp_m rfl _ rfl _ _ _ rfl _ _ _ rfl rfl _ rfl ?_ ?_ <;> (intro hg_; try simp only [M.hgs] at hg_; first | (exfalso; first | omega | (simp at hg_; done)) | (go_simp)))
      | ((fail_if_success (refine M.lit_t rfl ?_)); (fail_if_success (refine M.lit_f rfl ?_)); refine M.split_guard rfl rfl ?_ ?_ <;> (intro hg_; simp only [hg_]; try simp only [M.hgs] at hg_)))
    have HM2 := HM.perm (shuffle1 _ _ _ _ A (AM ++ ds.map Ba.mk))
    have hH2 : Has (itR gM gC ps i Bc_ Bp_ AM) w_ := (HM.perm (shuffle2 _ _ _ _ A AM (ds.map Ba.mk))).has.left
    have hcl := cat_len f ps i
    apply wp_range (R := itR gM gC ps i Bc_ Bp_ AM) (xs := lst f ps i) (N := 512) (encs := encs) (I := fun pre B => ∃ v A, B = (g_, row #[v] 37) :: A ∧ LR 3 ((cat f ps i).map (·.1) ++ pre.map (·.1)) v A) (Ix := fun _ _ => False) (gf := 43) (lb := #[.pointer (some ⟨Bc_, 0, none⟩), .pointer (some ⟨Bp_, 0, none⟩)]) (hsub := by
      intro p hp
      simp only [itR, List.mem_cons, List.mem_append] at hp ⊢
      rcases hp with e | e | e | e
      · exact .inr (.inl e)
      · exact .inl e
      · exact .inr (.inr (.inl e))
      · exact .inr (.inr (.inr (.inl e)))) HM2
    case hg => rfl
    case eg => exact enters_of Try.func43 (by kernel_rfl) rfl
    case hseq => exact spaces_stops hP h i (by omega) hi1 Bc_ Bp_ _ hH2
    case hps => exact fun _ => rfl
    case hIc =>
      rintro pre B ⟨v, A, rfl, hl⟩ p hp
      rcases List.mem_cons.1 hp with rfl | hp
      · rfl
      · exact lr_cells hl p hp
    case hIxc => exact fun _ _ h => h.elim
    case h0 => exact ⟨_, _, rfl, by simpa using HL.out⟩
    case hassign =>
      intro l x W K hK
      dsimp only [encs]
      gi_wp2
      exact hK
    case hbody =>
      rintro l pre ⟨xv, xs⟩ W B ⟨v, A, rfl, hl⟩ hlen hB
      have hl2 : ((cat f ps i).map (·.1) ++ pre.map (·.1)).length < 4096 := by
        rw [List.length_append, List.length_map, List.length_map]; omega
      have he : (cat f ps i).map (·.1) ++ (pre.map (·.1) ++ [xv]) = ((cat f ps i).map (·.1) ++ pre.map (·.1)) ++ [xv] := by simp
      generalize (cat f ps i).map (·.1) ++ pre.map (·.1) = pl at hl hl2 he
      have HL2 := Lib.hid hl
      have HE := Lib.hid he
      clear HM HM2 hH2 hl HL he
      refine wpIn_block ?_
      refine region_in (fun ⟨a, w, hh⟩ => hh) (by simp) ?_
      have HM := Mem.start hB
      go_wp2_with (first
        | (refine Sl.at_bslice 37 rfl ?_; first | (refine Ls.bslice1v_m HM rfl rfl 37 3 _ rfl (by kernel_rfl) (.int .i64 xv) rfl (by kernel_rfl) ?_; clear HM; intro gb_ w_ HM; go_simp))
        | (refine Sm.at_call_append rfl ?_; first | (refine Ls.append_lr_m (R := [_]) HM rfl rfl _ _ 37 3 rfl 8 (by kernel_rfl) (by kernel_rfl) _ _ HL2.out rfl (xv) 0 _ rfl rfl (by (try simp only [maxLen, List.length_append, List.length_cons, List.length_nil]); omega) (by (try simp only [List.length_append, List.length_cons, List.length_nil]); omega) ?_; clear HM HL2; intro vo_ Ao_ w_ ho_ HM; have HL2 := Lib.hid ho_; clear ho_; (try simp only [List.cons_append, List.nil_append] at HM); go_simp) | (refine Ls.append_lr_m (R := [_, _]) HM rfl rfl _ _ 37 3 rfl 8 (by kernel_rfl) (by kernel_rfl) _ _ HL2.out rfl (xv) 0 _ rfl rfl (by (try simp only [maxLen, List.length_append, List.length_cons, List.length_nil]); omega) (by (try simp only [List.length_append, List.length_cons, List.length_nil]); omega) ?_; clear HM HL2; intro vo_ Ao_ w_ ho_ HM; have HL2 := Lib.hid ho_; clear ho_; (try simp only [List.cons_append, List.nil_append] at HM); go_simp) | (refine Ls.append_lr_m (R := [_, _, _]) HM rfl rfl _ _ 37 3 rfl 8 (by kernel_rfl) (by kernel_rfl) _ _ HL2.out rfl (xv) 0 _ rfl rfl (by (try simp only [maxLen, List.length_append, List.length_cons, List.length_nil]); omega) (by (try simp only [List.length_append, List.length_cons, List.length_nil]); omega) ?_; clear HM HL2; intro vo_ Ao_ w_ ho_ HM; have HL2 := Lib.hid ho_; clear ho_; (try simp only [List.cons_append, List.nil_append] at HM); go_simp) | (refine Ls.append_lr_m (R := [_, _, _, _]) HM rfl rfl _ _ 37 3 rfl 8 (by kernel_rfl) (by kernel_rfl) _ _ HL2.out rfl (xv) 0 _ rfl rfl (by (try simp only [maxLen, List.length_append, List.length_cons, List.length_nil]); omega) (by (try simp only [List.length_append, List.length_cons, List.length_nil]); omega) ?_; clear HM HL2; intro vo_ Ao_ w_ ho_ HM; have HL2 := Lib.hid ho_; clear ho_; (try simp only [List.cons_append, List.nil_append] at HM); go_simp) | (refine Ls.append_lr_m (R := [_, _, _, _, _]) HM rfl rfl _ _ 37 3 rfl 8 (by kernel_rfl) (by kernel_rfl) _ _ HL2.out rfl (xv) 0 _ rfl rfl (by (try simp only [maxLen, List.length_append, List.length_cons, List.length_nil]); omega) (by (try simp only [List.length_append, List.length_cons, List.length_nil]); omega) ?_; clear HM HL2; intro vo_ Ao_ w_ ho_ HM; have HL2 := Lib.hid ho_; clear ho_; (try simp only [List.cons_append, List.nil_append] at HM); go_simp) | (refine Ls.append_lr_m (R := [_, _, _, _, _, _]) HM rfl rfl _ _ 37 3 rfl 8 (by kernel_rfl) (by kernel_rfl) _ _ HL2.out rfl (xv) 0 _ rfl rfl (by (try simp only [maxLen, List.length_append, List.length_cons, List.length_nil]); omega) (by (try simp only [List.length_append, List.length_cons, List.length_nil]); omega) ?_; clear HM HL2; intro vo_ Ao_ w_ ho_ HM; have HL2 := Lib.hid ho_; clear ho_; (try simp only [List.cons_append, List.nil_append] at HM); go_simp) | (refine Ls.append_lr_m (R := [_, _, _, _, _, _, _]) HM rfl rfl _ _ 37 3 rfl 8 (by kernel_rfl) (by kernel_rfl) _ _ HL2.out rfl (xv) 0 _ rfl rfl (by (try simp only [maxLen, List.length_append, List.length_cons, List.length_nil]); omega) (by (try simp only [List.length_append, List.length_cons, List.length_nil]); omega) ?_; clear HM HL2; intro vo_ Ao_ w_ ho_ HM; have HL2 := Lib.hid ho_; clear ho_; (try simp only [List.cons_append, List.nil_append] at HM); go_simp) | (refine Ls.append_lr_m (R := [_, _, _, _, _, _, _, _]) HM rfl rfl _ _ 37 3 rfl 8 (by kernel_rfl) (by kernel_rfl) _ _ HL2.out rfl (xv) 0 _ rfl rfl (by (try simp only [maxLen, List.length_append, List.length_cons, List.length_nil]); omega) (by (try simp only [List.length_append, List.length_cons, List.length_nil]); omega) ?_; clear HM HL2; intro vo_ Ao_ w_ ho_ HM; have HL2 := Lib.hid ho_; clear ho_; (try simp only [List.cons_append, List.nil_append] at HM); go_simp))
        | (refine M.at_mem rfl ?_; first | (refine M.at_load 37 rfl ?_; first | (refine M.load_cell_m HM rfl 37 _ rfl 0 _ _ _ _ _ rfl rfl rfl (by kernel_rfl) (by kernel_rfl) ?_; go_simp) | (refine M.load_cell_m HM rfl 37 _ rfl 1 _ _ _ _ _ rfl rfl rfl (by kernel_rfl) (by kernel_rfl) ?_; go_simp) | (refine M.load_cell_m HM rfl 37 _ rfl 2 _ _ _ _ _ rfl rfl rfl (by kernel_rfl) (by kernel_rfl) ?_; go_simp) | (refine M.load_cell_m HM rfl 37 _ rfl 3 _ _ _ _ _ rfl rfl rfl (by kernel_rfl) (by kernel_rfl) ?_; go_simp)) | (refine M.at_store 37 rfl ?_; first | (refine M.store_cell_m HM rfl 37 _ _ rfl 1 _ _ _ _ vo_ rfl rfl rfl (by kernel_rfl) HL2.out.one (by simp) ?_; clear HM; intro w_ HM; (try simp only [M.nrm] at HM); go_simp) | (refine M.store_cell_m HM rfl 37 _ _ rfl 0 _ _ _ _ _ rfl rfl rfl (by kernel_rfl) rfl (by simp) ?_; clear HM; intro w_ HM; (try simp only [M.nrm] at HM); go_simp) | (refine M.store_cell_m HM rfl 37 _ _ rfl 1 _ _ _ _ _ rfl rfl rfl (by kernel_rfl) rfl (by simp) ?_; clear HM; intro w_ HM; (try simp only [M.nrm] at HM); go_simp) | (refine M.store_cell_m HM rfl 37 _ _ rfl 2 _ _ _ _ _ rfl rfl rfl (by kernel_rfl) rfl (by simp) ?_; clear HM; intro w_ HM; (try simp only [M.nrm] at HM); go_simp) | (refine M.store_cell_m HM rfl 37 _ _ rfl 3 _ _ _ _ _ rfl rfl rfl (by kernel_rfl) rfl (by simp) ?_; clear HM; intro w_ HM; (try simp only [M.nrm] at HM); go_simp)) | (refine M.at_alloc 37 rfl ?_; first | (refine M.alloc_m HM rfl rfl 37 rfl (.slice none 0 0) (by kernel_rfl) #[(.slice none 0 0)] rfl ?_; clear HM; intro g_ w_ HM; go_simp)) | ((fail_if_success (refine M.lit_t rfl ?_)); (fail_if_success (refine M.lit_f rfl ?_)); refine M.split_guard rfl rfl ?_ ?_ <;> (intro hg_; simp only [hg_]; try simp only [M.hgs] at hg_)))
        | ((fail_if_success (refine M.lit_t rfl ?_)); (fail_if_success (refine M.lit_f rfl ?_)); refine M.split_guard rfl rfl ?_ ?_ <;> (intro hg_; simp only [hg_]; try simp only [M.hgs] at hg_)))
      try simp only [Exit.inBlock]
      refine ⟨_, ⟨_, _, rfl, ?_⟩, HM.drop (A := [_])⟩
      rw [HE.out]
      exact HL2.out
    case hdone =>
      rintro D W B ⟨v, A, rfl, hl⟩ HM
      have HL := Lib.hid hl
      clear hl HM2 hH2
      have HM := (HM.perm (shuffle3 _ _ _ _ _ A AM (ds.map Ba.mk))).drop
      dsimp only [Exit.inBlock, Exit.then]
      go_wp2_with (first
        | (go_big_skip)
        | (refine M.at_mem rfl ?_; first | (refine M.at_load 37 rfl ?_; first | (refine M.load_cell_m HM rfl 37 _ rfl 0 _ _ _ _ _ rfl rfl rfl (by kernel_rfl) (by kernel_rfl) ?_; go_simp)) | (refine M.at_store 37 rfl ?_; first | (refine M.store_cell_m HM rfl 37 _ _ rfl 0 _ _ _ _ _ rfl rfl rfl (by kernel_rfl) rfl (by simp) ?_; clear HM; intro w_ HM; (try simp only [M.nrm] at HM); go_simp)) | (refine M.at_alloc 37 rfl ?_; first | (refine M.alloc_m HM rfl rfl 37 rfl (.slice none 0 0) (by kernel_rfl) #[(.slice none 0 0)] rfl ?_; clear HM; intro g_ w_ HM; go_simp)) | ((fail_if_success (refine M.lit_t rfl ?_)); (fail_if_success (refine M.lit_f rfl ?_)); refine M.split_guard rfl rfl ?_ ?_ <;> (intro hg_; simp only [hg_]; try simp only [M.hgs] at hg_)))
        | ((fail_if_success (refine M.lit_t rfl ?_)); (fail_if_success (refine M.lit_f rfl ?_)); refine M.split_guard rfl rfl ?_ ?_ <;> (intro hg_; simp only [hg_]; try simp only [M.hgs] at hg_)))
      refine ⟨⟨i + 1, D :: ds, _, _, _, _, _, _, _, _, _, _, _, _, _, _, _, by omega, rfl, v, A, ?_, HM⟩, ?_⟩
      · rw [cat, List.map_append]; exact HL.out
      · simp [LMu, intOf]; omega
    case hstop =>
      intro D W B pre _ hh
      exact hh.elim
end Go.Proofs.Ytndeaikmelpflaa.Bd
