/- Of. -/
import Derived.Test.YtndeaikmelpflaaBj
namespace Go.Proofs.Ytndeaikmelpflaa.Bk
open Go.RowKit Go.Shelf Go.Proofs.Ytndeaikmelpflaa.G Go.Proofs.Ytndeaikmelpflaa.B Go.Proofs.Ytndeaikmelpflaa.M Go.Proofs.Ytndeaikmelpflaa.Mv Go.Proofs.Ytndeaikmelpflaa.Sl Go.Proofs.Ytndeaikmelpflaa.Sm Go.Proofs.Ytndeaikmelpflaa.Sn Go.Proofs.Ytndeaikmelpflaa.Ma Go.Proofs.Ytndeaikmelpflaa.Dr Go.Proofs.Ytndeaikmelpflaa.Ya Go.Proofs.Ytndeaikmelpflaa.Yb Go.Proofs.Ytndeaikmelpflaa.Yc Go.Proofs.Ytndeaikmelpflaa.Ls Go.Proofs.Ytndeaikmelpflaa.Lt Go.Proofs.Ytndeaikmelpflaa.Lu Go.Proofs.Ytndeaikmelpflaa.Aa Go.Proofs.Ytndeaikmelpflaa.Ab Go.Proofs.Ytndeaikmelpflaa.Ba Go.Proofs.Ytndeaikmelpflaa.Bb Go.Proofs.Ytndeaikmelpflaa.Bc Go.Proofs.Ytndeaikmelpflaa.Bd Go.Proofs.Ytndeaikmelpflaa.Bj

set_option linter.unusedVariables false
set_option linter.unusedSimpArgs false
set_option maxRecDepth 100000
attribute [local go_sem] Oper.semAt_some
def seekS (l : List (Int × Int)) (space : Int) : Option (Int × Int) := l.find? fun x => decide (x.2 = space)
theorem seek_none {l : List (Int × Int)} {space : Int} (h : ∀ y ∈ l, y.2 ≠ space) : seekS l space = none := by
  unfold seekS
  rw [List.find?_eq_none]
  intro y hy
  simpa using h y hy
theorem seek_hit {l pre m : List (Int × Int)} {x : Int × Int} {space : Int} (h : pre ++ [x] <+: m) (hx : x.2 = space) (hl : ∀ y ∈ l, y.2 ≠ space) (hp : ∀ y ∈ pre, y.2 ≠ space) (r : List (Int × Int)) : seekS (l ++ m ++ r) space = some x := by
  obtain ⟨t, rfl⟩ := h
  have h1 := seek_none hl
  have h2 := seek_none hp
  unfold seekS at *
  rw [List.find?_append, List.find?_append, h1, List.find?_append, List.find?_append, h2, List.find?_cons]
  simp [hx]
theorem cat_pre (f : Int → Int) (ps : Nat → Int) {i j : Nat} (h : i ≤ j) : ∃ r, cat f ps j = cat f ps i ++ r := by
  obtain ⟨k, rfl⟩ := Nat.exists_eq_add_of_le h
  clear h
  induction k with
  | zero => exact ⟨[], by simp⟩
  | succ k ih =>
    obtain ⟨r, hr⟩ := ih
    exact ⟨r ++ lst f ps (i + k : Nat), by rw [← Nat.add_assoc, cat, hr, List.append_assoc]⟩
def ofV (r : Option (Int × Int)) : Value := match r with | some x => .tuple #[.int .i64 x.1, .bool true] | none => .tuple #[.int .i64 0, .bool false]
def OfRel (f : Int → Int) (gM gC : Nat) (ps : Nat → Int) (space : Int) (r : Value) (L : Hp) : Prop := r = ofV (seekS (cat f ps 8) space) ∧ AC f gM gC ps L
theorem shufO {α : Type} (D : α) (X Y C S : List α) : (D :: (X ++ (Y ++ (C ++ S)))).Perm (Y ++ (X ++ (C ++ D :: S))) := by
  refine ((perm_front X Y (C ++ S)).cons D).trans ?_
  have e : Y ++ (X ++ (C ++ D :: S)) = (Y ++ X ++ C) ++ D :: S := by simp
  have e2 : Y ++ (X ++ (C ++ S)) = (Y ++ X ++ C) ++ S := by simp
  rw [e, e2]
  exact List.perm_middle.symm
/-- Between two pools. -/
def OI (f : Int → Int) (gM gC g3 g4 g5 : Nat) (ps : Nat → Int) (space : Int) (AM : Hp) (w : World) (a' : Act) (W' : World) : Prop := ∃ (i : Nat) (ds : List Nat) (u6 u7 u8 u10 u11 u12 u13 u14 u15 u16 u17 u18 u19 u20 u21 : Value), i ≤ 8 ∧ a' = { tmps := #[.pointer (some ⟨gC, 0, none⟩), .int .u64 space, undef, .pointer (some ⟨g3, 0, none⟩), .pointer (some ⟨g4, 0, none⟩), .pointer (some ⟨g5, 0, none⟩), u6, u7, u8, .int .i64 i, u10, u11, u12, u13, u14, u15, u16, u17, u18, u19, u20, u21], defers := ds.map Ba.mark } ∧ (∀ y ∈ cat f ps i, y.2 ≠ space) ∧
  Mem w (((gC, row (ccells gM ps) 68) :: AM).map (·.1)) ((g5, row #[.bool false] 4) :: (g4, row #[.int .i64 0] 3) :: (g3, row #[.int .u64 space] 25) :: (gC, row (ccells gM ps) 68) :: (AM ++ ds.map Ba.mk)) W'
def OMu (a' : Act) (_ : World) : Nat := 8 - (intOf (a'.tmps.getD 9 undef)).toNat
def OfI (g3 g4 g5 : Nat) (space : Int) (pre : List (Int × Int)) (B : Hp) : Prop := (∀ y ∈ pre, y.2 ≠ space) ∧ B = [(g5, row #[.bool false] 4), (g4, row #[.int .i64 0] 3), (g3, row #[.int .u64 space] 25)]
def OfX (g3 g4 g5 : Nat) (space : Int) (pre : List (Int × Int)) (B : Hp) : Prop := ∃ pre' x, pre = pre' ++ [x] ∧ x.2 = space ∧ (∀ y ∈ pre', y.2 ≠ space) ∧ B = [(g5, row #[.bool true] 4), (g4, row #[.int .i64 x.1] 3), (g3, row #[.int .u64 space] 25)]
set_option maxHeartbeats 8000000 in
theorem of_any {f : Int → Int} {gM gC : Nat} {ps : Nat → Int} {AM : Hp} (hP : Pm 131072 f gM AM) (h : Psok ps) (space : Int) : Does Try.prog 18 #[.pointer (some ⟨gC, 0, none⟩), .int .u64 space] ((gC, row (ccells gM ps) 68) :: AM) (OfRel f gM gC ps space) := by
  intro w hH
  have HM := Mem.start hH
  refine calls_marks Try.func18 rfl ?_
  simp only [Try.ntmps18, List.size_toArray, List.length_cons, List.length_nil, Nat.reduceAdd, Nat.reduceSub, Array.replicate_succ, Array.replicate_zero, List.push_toArray, List.append_toArray, List.nil_append, List.cons_append]
  go_wp2_with (first
    | (go_big_skip)
    | (refine M.at_mem rfl ?_; first | (refine M.at_load 25 rfl ?_; first | (refine M.load_cell_m HM rfl 25 _ rfl 0 _ _ _ _ _ rfl rfl rfl (by kernel_rfl) (by kernel_rfl) ?_; go_simp) | (refine M.load_cell_m HM rfl 25 _ rfl 1 _ _ _ _ _ rfl rfl rfl (by kernel_rfl) (by kernel_rfl) ?_; go_simp)) | (refine M.at_store 3 rfl ?_; first | (refine M.store_cell_m HM rfl 3 _ _ rfl 0 _ _ _ _ _ rfl rfl rfl (by kernel_rfl) rfl (by simp) ?_; clear HM; intro w_ HM; (try simp only [M.nrm] at HM); go_simp) | (refine M.store_cell_m HM rfl 3 _ _ rfl 1 _ _ _ _ _ rfl rfl rfl (by kernel_rfl) rfl (by simp) ?_; clear HM; intro w_ HM; (try simp only [M.nrm] at HM); go_simp)) | (refine M.at_store 4 rfl ?_; first | (refine M.store_cell_m HM rfl 4 _ _ rfl 0 _ _ _ _ _ rfl rfl rfl (by kernel_rfl) rfl (by simp) ?_; clear HM; intro w_ HM; (try simp only [M.nrm] at HM); go_simp) | (refine M.store_cell_m HM rfl 4 _ _ rfl 1 _ _ _ _ _ rfl rfl rfl (by kernel_rfl) rfl (by simp) ?_; clear HM; intro w_ HM; (try simp only [M.nrm] at HM); go_simp)) | (refine M.at_alloc 3 rfl ?_; first | (refine M.box1_m HM rfl rfl 25 _ rfl _ rfl rfl ?_; clear HM; intro g3_ w_ HM; go_simp) | (refine M.alloc_m HM rfl rfl 3 rfl (.int .i64 0) (by kernel_rfl) #[(.int .i64 0)] rfl ?_; clear HM; intro g4_ w_ HM; go_simp) | (refine M.alloc_m HM rfl rfl 4 rfl (.bool false) (by kernel_rfl) #[(.bool false)] rfl ?_; clear HM; intro g5_ w_ HM; go_simp) | (refine M.alloc_m HM rfl rfl 3 rfl (.int .i64 0) (by kernel_rfl) #[(.int .i64 0)] rfl ?_; clear HM; intro g_ w_ HM; go_simp)) | (refine M.at_alloc 4 rfl ?_; first | (refine M.box1_m HM rfl rfl 25 _ rfl _ rfl rfl ?_; clear HM; intro g3_ w_ HM; go_simp) | (refine M.alloc_m HM rfl rfl 3 rfl (.int .i64 0) (by kernel_rfl) #[(.int .i64 0)] rfl ?_; clear HM; intro g4_ w_ HM; go_simp) | (refine M.alloc_m HM rfl rfl 4 rfl (.bool false) (by kernel_rfl) #[(.bool false)] rfl ?_; clear HM; intro g5_ w_ HM; go_simp) | (refine M.alloc_m HM rfl rfl 4 rfl (.bool false) (by kernel_rfl) #[(.bool false)] rfl ?_; clear HM; intro g_ w_ HM; go_simp)) | (refine M.at_box 25 rfl ?_; first | (refine M.box1_m HM rfl rfl 25 _ rfl _ rfl rfl ?_; clear HM; intro g3_ w_ HM; go_simp) | (refine M.alloc_m HM rfl rfl 3 rfl (.int .i64 0) (by kernel_rfl) #[(.int .i64 0)] rfl ?_; clear HM; intro g4_ w_ HM; go_simp) | (refine M.alloc_m HM rfl rfl 4 rfl (.bool false) (by kernel_rfl) #[(.bool false)] rfl ?_; clear HM; intro g5_ w_ HM; go_simp) | (refine M.box1_m HM rfl rfl 25 _ rfl _ rfl rfl ?_; clear HM; intro g_ w_ HM; go_simp)) | ((fail_if_success (refine M.lit_t rfl ?_)); (fail_if_success (refine M.lit_f rfl ?_)); refine M.split_guard rfl rfl ?_ ?_ <;> (intro hg_; simp only [hg_]; try simp only [M.hgs] at hg_)))
    | ((fail_if_success (refine M.lit_t rfl ?_)); (fail_if_success (refine M.lit_f rfl ?_)); refine M.split_guard rfl rfl ?_ ?_ <;> (intro hg_; simp only [hg_]; try simp only [M.hgs] at hg_)))
  refine wp_loop (OI f gM gC g3_ g4_ g5_ ps space AM w) OMu ⟨0, [], _, _, _, _, _, _, _, _, _, _, _, _, _, _, _, by omega, rfl, (fun y hy => by cases hy), (by show Mem _ _ (_ :: _ :: _ :: _ :: (AM ++ [])) _; rw [List.append_nil]; exact HM)⟩ ?_
  rintro a' W' ⟨i, ds, u6, u7, u8, u10, u11, u12, u13, u14, u15, u16, u17, u18, u19, u20, u21, hi, rfl, hno, HM⟩
  have HNO := Lib.hid hno
  clear hno
  by_cases hlt : i < 8
  rotate_left
  · obtain rfl : i = 8 := by omega
    go_wp2_with (first
      | (go_big_skip)
      | (refine M.at_mem rfl ?_; first | (refine M.at_load 25 rfl ?_; first | (refine M.load_cell_m HM rfl 25 _ rfl 0 _ _ _ _ _ rfl rfl rfl (by kernel_rfl) (by kernel_rfl) ?_; go_simp) | (refine M.load_cell_m HM rfl 25 _ rfl 1 _ _ _ _ _ rfl rfl rfl (by kernel_rfl) (by kernel_rfl) ?_; go_simp)) | (refine M.at_store 3 rfl ?_; first | (refine M.store_cell_m HM rfl 3 _ _ rfl 0 _ _ _ _ _ rfl rfl rfl (by kernel_rfl) rfl (by simp) ?_; clear HM; intro w_ HM; (try simp only [M.nrm] at HM); go_simp) | (refine M.store_cell_m HM rfl 3 _ _ rfl 1 _ _ _ _ _ rfl rfl rfl (by kernel_rfl) rfl (by simp) ?_; clear HM; intro w_ HM; (try simp only [M.nrm] at HM); go_simp)) | (refine M.at_store 4 rfl ?_; first | (refine M.store_cell_m HM rfl 4 _ _ rfl 0 _ _ _ _ _ rfl rfl rfl (by kernel_rfl) rfl (by simp) ?_; clear HM; intro w_ HM; (try simp only [M.nrm] at HM); go_simp) | (refine M.store_cell_m HM rfl 4 _ _ rfl 1 _ _ _ _ _ rfl rfl rfl (by kernel_rfl) rfl (by simp) ?_; clear HM; intro w_ HM; (try simp only [M.nrm] at HM); go_simp)) | (refine M.at_alloc 3 rfl ?_; first | (refine M.alloc_m HM rfl rfl 3 rfl (.int .i64 0) (by kernel_rfl) #[(.int .i64 0)] rfl ?_; clear HM; intro g_ w_ HM; go_simp)) | (refine M.at_alloc 4 rfl ?_; first | (refine M.alloc_m HM rfl rfl 4 rfl (.bool false) (by kernel_rfl) #[(.bool false)] rfl ?_; clear HM; intro g_ w_ HM; go_simp)) | (refine M.at_box 25 rfl ?_; first | (refine M.box1_m HM rfl rfl 25 _ rfl _ rfl rfl ?_; clear HM; intro g_ w_ HM; go_simp)) | ((fail_if_success (refine M.lit_t rfl ?_)); (fail_if_success (refine M.lit_f rfl ?_)); refine M.split_guard rfl rfl ?_ ?_ <;> (intro hg_; simp only [hg_]; try simp only [M.hgs] at hg_)))
      | (refine Mc.at_cmp _ rfl ?_; refine Mc.cmp_m rfl _ rfl _ _ _ rfl _ _ _ rfl rfl _ rfl ?_ ?_ <;> (intro hg_; try simp only [M.hgs] at hg_; first | (exfalso; first | omega | (simp at hg_; done)) | (go_simp)))
      | ((fail_if_success (refine M.lit_t rfl ?_)); (fail_if_success (refine M.lit_f rfl ?_)); refine M.split_guard rfl rfl ?_ ?_ <;> (intro hg_; simp only [hg_]; try simp only [M.hgs] at hg_)))
    refine leave_marks (L := (g5_, row #[.bool false] 4) :: (g4_, row #[.int .i64 0] 3) :: (g3_, row #[.int .u64 space] 25) :: (gC, row (ccells gM ps) 68) :: AM) (fun W2 HM2 => ?_) ds _ HM
    refine leave_end (res_vv HM2 rfl _ 1 g4_ _ (.int .i64 0) rfl 0 g5_ _ (.bool false) rfl rfl rfl (by kernel_rfl) (by kernel_rfl) (by kernel_rfl) (by kernel_rfl)) ?_
    refine ⟨_, _, rfl, ⟨?_, ⟨AM, hP, rfl⟩⟩, HM2.drop (A := [_, _, _])⟩
    rw [seek_none HNO.out]
    rfl
  · have hi1 : (i : Int) < 8 := by omega
    go_wp2_with (first
      | (go_big_skip)
      | (go_at_call 29; refine (call_new (spaces_any gC i) HM).mono ?_; clear HM; rintro e w_ ⟨v_, L_, rfl, ⟨Bc_, Bp_, rfl, rfl⟩, HM⟩; simp only [List.cons_append, List.nil_append] at HM; dsimp only)
      | (refine M.at_mem rfl ?_; first | (refine M.at_load 25 rfl ?_; first | (refine M.load_cell_m HM rfl 25 _ rfl 0 _ _ _ _ _ rfl rfl rfl (by kernel_rfl) (by kernel_rfl) ?_; go_simp) | (refine M.load_cell_m HM rfl 25 _ rfl 1 _ _ _ _ _ rfl rfl rfl (by kernel_rfl) (by kernel_rfl) ?_; go_simp)) | (refine M.at_store 3 rfl ?_; first | (refine M.store_cell_m HM rfl 3 _ _ rfl 0 _ _ _ _ _ rfl rfl rfl (by kernel_rfl) rfl (by simp) ?_; clear HM; intro w_ HM; (try simp only [M.nrm] at HM); go_simp) | (refine M.store_cell_m HM rfl 3 _ _ rfl 1 _ _ _ _ _ rfl rfl rfl (by kernel_rfl) rfl (by simp) ?_; clear HM; intro w_ HM; (try simp only [M.nrm] at HM); go_simp)) | (refine M.at_store 4 rfl ?_; first | (refine M.store_cell_m HM rfl 4 _ _ rfl 0 _ _ _ _ _ rfl rfl rfl (by kernel_rfl) rfl (by simp) ?_; clear HM; intro w_ HM; (try simp only [M.nrm] at HM); go_simp) | (refine M.store_cell_m HM rfl 4 _ _ rfl 1 _ _ _ _ _ rfl rfl rfl (by kernel_rfl) rfl (by simp) ?_; clear HM; intro w_ HM; (try simp only [M.nrm] at HM); go_simp)) | (refine M.at_alloc 3 rfl ?_; first | (refine M.alloc_m HM rfl rfl 3 rfl (.int .i64 0) (by kernel_rfl) #[(.int .i64 0)] rfl ?_; clear HM; intro g_ w_ HM; go_simp)) | (refine M.at_alloc 4 rfl ?_; first | (refine M.alloc_m HM rfl rfl 4 rfl (.bool false) (by kernel_rfl) #[(.bool false)] rfl ?_; clear HM; intro g_ w_ HM; go_simp)) | (refine M.at_box 25 rfl ?_; first | (refine M.box1_m HM rfl rfl 25 _ rfl _ rfl rfl ?_; clear HM; intro g_ w_ HM; go_simp)) | ((fail_if_success (refine M.lit_t rfl ?_)); (fail_if_success (refine M.lit_f rfl ?_)); refine M.split_guard rfl rfl ?_ ?_ <;> (intro hg_; simp only [hg_]; try simp only [M.hgs] at hg_)))
      | (refine Mc.at_cmp _ rfl ?_; refine Mc.cmp_m rfl _ rfl _ _ _ rfl _ _ _ rfl rfl _ rfl ?_ ?_ <;> (intro hg_; try simp only [M.hgs] at hg_; first | (exfalso; first | omega | (simp at hg_; done)) | (go_simp)))
      | ((fail_if_success (refine M.lit_t rfl ?_)); (fail_if_success (refine M.lit_f rfl ?_)); refine M.split_guard rfl rfl ?_ ?_ <;> (intro hg_; simp only [hg_]; try simp only [M.hgs] at hg_)))
    have HM2 : Mem _ _ ([(g5_, row #[.bool false] 4), (g4_, row #[.int .i64 0] 3), (g3_, row #[.int .u64 space] 25)] ++ ([(Bp_, row #[.int .i64 (i : Int)] 3), (Bc_, row #[.pointer (some ⟨gC, 0, none⟩)] 23)] ++ (((gC, row (ccells gM ps) 68) :: AM) ++ ds.map Ba.mk))) _ := HM.perm (perm_front [_, _] [_, _, _] _)
    have hH2 : Has (itR gM gC ps i Bc_ Bp_ AM) w_ := (HM2.has.right.perm (L' := itR gM gC ps i Bc_ Bp_ AM ++ ds.map Ba.mk) (List.Perm.swap _ _ _)).left
    apply wp_range (R := itR gM gC ps i Bc_ Bp_ AM) (xs := lst f ps i) (N := 512) (encs := encs) (I := OfI g3_ g4_ g5_ space) (Ix := OfX g3_ g4_ g5_ space) (gf := 43) (lb := #[.pointer (some ⟨Bc_, 0, none⟩), .pointer (some ⟨Bp_, 0, none⟩)]) (hsub := by
      intro p hp
      simp only [itR, List.mem_cons, List.mem_append, List.cons_append, List.nil_append] at hp ⊢
      rcases hp with e | e | e | e
      · exact .inr (.inl e)
      · exact .inl e
      · exact .inr (.inr (.inl e))
      · exact .inr (.inr (.inr (.inl e)))) HM2
    case hg => rfl
    case eg => exact enters_of Try.func43 (by kernel_rfl) rfl
    case hseq => exact spaces_stops hP h i (by omega) hi1 Bc_ Bp_ _ hH2
    case hps => exact fun _ => rfl
    case hIc =>
      rintro pre B ⟨-, rfl⟩ p hp
      simp only [List.mem_cons, List.not_mem_nil, or_false] at hp
      rcases hp with rfl | rfl | rfl <;> rfl
    case hIxc =>
      rintro pre B ⟨_, _, -, -, -, rfl⟩ p hp
      simp only [List.mem_cons, List.not_mem_nil, or_false] at hp
      rcases hp with rfl | rfl | rfl <;> rfl
    case h0 => exact ⟨(fun y hy => by cases hy), rfl⟩
    case hassign =>
      intro l x W K hK
      dsimp only [encs]
      gi_wp2
      exact hK
    case hbody =>
      rintro l pre ⟨xv, xs⟩ W B ⟨hpre, rfl⟩ hlen hB
      have HPRE := Lib.hid hpre
      clear HM HM2 hH2 hpre
      refine wpIn_block ?_
      by_cases hx : xs = space
      · subst hx
        refine wpIn_seq ?_
        refine region_in (fun ⟨a, w, hh⟩ => hh) (by simp) ?_
        have HM := Mem.start hB
        go_wp2_with (first
          | (refine M.at_mem rfl ?_; first | (refine M.at_load 25 rfl ?_; first | (refine M.load_cell_m HM rfl 25 _ rfl 0 _ _ _ _ _ rfl rfl rfl (by kernel_rfl) (by kernel_rfl) ?_; go_simp) | (refine M.load_cell_m HM rfl 25 _ rfl 1 _ _ _ _ _ rfl rfl rfl (by kernel_rfl) (by kernel_rfl) ?_; go_simp) | (refine M.load_cell_m HM rfl 25 _ rfl 2 _ _ _ _ _ rfl rfl rfl (by kernel_rfl) (by kernel_rfl) ?_; go_simp) | (refine M.load_cell_m HM rfl 25 _ rfl 3 _ _ _ _ _ rfl rfl rfl (by kernel_rfl) (by kernel_rfl) ?_; go_simp)) | (refine M.at_store 3 rfl ?_; first | (refine M.store_cell_m HM rfl 3 _ _ rfl 0 _ _ _ _ _ rfl rfl rfl (by kernel_rfl) rfl (by simp) ?_; clear HM; intro w_ HM; (try simp only [M.nrm] at HM); go_simp) | (refine M.store_cell_m HM rfl 3 _ _ rfl 1 _ _ _ _ _ rfl rfl rfl (by kernel_rfl) rfl (by simp) ?_; clear HM; intro w_ HM; (try simp only [M.nrm] at HM); go_simp) | (refine M.store_cell_m HM rfl 3 _ _ rfl 2 _ _ _ _ _ rfl rfl rfl (by kernel_rfl) rfl (by simp) ?_; clear HM; intro w_ HM; (try simp only [M.nrm] at HM); go_simp) | (refine M.store_cell_m HM rfl 3 _ _ rfl 3 _ _ _ _ _ rfl rfl rfl (by kernel_rfl) rfl (by simp) ?_; clear HM; intro w_ HM; (try simp only [M.nrm] at HM); go_simp)) | (refine M.at_store 4 rfl ?_; first | (refine M.store_cell_m HM rfl 4 _ _ rfl 0 _ _ _ _ _ rfl rfl rfl (by kernel_rfl) rfl (by simp) ?_; clear HM; intro w_ HM; (try simp only [M.nrm] at HM); go_simp) | (refine M.store_cell_m HM rfl 4 _ _ rfl 1 _ _ _ _ _ rfl rfl rfl (by kernel_rfl) rfl (by simp) ?_; clear HM; intro w_ HM; (try simp only [M.nrm] at HM); go_simp) | (refine M.store_cell_m HM rfl 4 _ _ rfl 2 _ _ _ _ _ rfl rfl rfl (by kernel_rfl) rfl (by simp) ?_; clear HM; intro w_ HM; (try simp only [M.nrm] at HM); go_simp) | (refine M.store_cell_m HM rfl 4 _ _ rfl 3 _ _ _ _ _ rfl rfl rfl (by kernel_rfl) rfl (by simp) ?_; clear HM; intro w_ HM; (try simp only [M.nrm] at HM); go_simp)) | (refine M.at_alloc 3 rfl ?_; first | (refine M.alloc_m HM rfl rfl 3 rfl (.int .i64 0) (by kernel_rfl) #[(.int .i64 0)] rfl ?_; clear HM; intro g_ w_ HM; go_simp)) | (refine M.at_alloc 4 rfl ?_; first | (refine M.alloc_m HM rfl rfl 4 rfl (.bool false) (by kernel_rfl) #[(.bool false)] rfl ?_; clear HM; intro g_ w_ HM; go_simp)) | (refine M.at_box 25 rfl ?_; first | (refine M.box1_m HM rfl rfl 25 _ rfl _ rfl rfl ?_; clear HM; intro g_ w_ HM; go_simp)) | ((fail_if_success (refine M.lit_t rfl ?_)); (fail_if_success (refine M.lit_f rfl ?_)); refine M.split_guard rfl rfl ?_ ?_ <;> (intro hg_; simp only [hg_]; try simp only [M.hgs] at hg_)))
          | ((fail_if_success (refine M.lit_t rfl ?_)); (fail_if_success (refine M.lit_f rfl ?_)); refine M.split_guard rfl rfl ?_ ?_ <;> (intro hg_; simp only [hg_]; try simp only [M.hgs] at hg_)))
        refine wpIn_cond_true rfl ?_
        refine wpIn_seq ?_
        refine region_in (fun ⟨a, w, hh⟩ => hh) (by simp) ?_
        go_wp2_with (first
          | (refine M.at_mem rfl ?_; first | (refine M.at_load 25 rfl ?_; first | (refine M.load_cell_m HM rfl 25 _ rfl 0 _ _ _ _ _ rfl rfl rfl (by kernel_rfl) (by kernel_rfl) ?_; go_simp) | (refine M.load_cell_m HM rfl 25 _ rfl 1 _ _ _ _ _ rfl rfl rfl (by kernel_rfl) (by kernel_rfl) ?_; go_simp) | (refine M.load_cell_m HM rfl 25 _ rfl 2 _ _ _ _ _ rfl rfl rfl (by kernel_rfl) (by kernel_rfl) ?_; go_simp) | (refine M.load_cell_m HM rfl 25 _ rfl 3 _ _ _ _ _ rfl rfl rfl (by kernel_rfl) (by kernel_rfl) ?_; go_simp)) | (refine M.at_store 3 rfl ?_; first | (refine M.store_cell_m HM rfl 3 _ _ rfl 0 _ _ _ _ _ rfl rfl rfl (by kernel_rfl) rfl (by simp) ?_; clear HM; intro w_ HM; (try simp only [M.nrm] at HM); go_simp) | (refine M.store_cell_m HM rfl 3 _ _ rfl 1 _ _ _ _ _ rfl rfl rfl (by kernel_rfl) rfl (by simp) ?_; clear HM; intro w_ HM; (try simp only [M.nrm] at HM); go_simp) | (refine M.store_cell_m HM rfl 3 _ _ rfl 2 _ _ _ _ _ rfl rfl rfl (by kernel_rfl) rfl (by simp) ?_; clear HM; intro w_ HM; (try simp only [M.nrm] at HM); go_simp) | (refine M.store_cell_m HM rfl 3 _ _ rfl 3 _ _ _ _ _ rfl rfl rfl (by kernel_rfl) rfl (by simp) ?_; clear HM; intro w_ HM; (try simp only [M.nrm] at HM); go_simp)) | (refine M.at_store 4 rfl ?_; first | (refine M.store_cell_m HM rfl 4 _ _ rfl 0 _ _ _ _ _ rfl rfl rfl (by kernel_rfl) rfl (by simp) ?_; clear HM; intro w_ HM; (try simp only [M.nrm] at HM); go_simp) | (refine M.store_cell_m HM rfl 4 _ _ rfl 1 _ _ _ _ _ rfl rfl rfl (by kernel_rfl) rfl (by simp) ?_; clear HM; intro w_ HM; (try simp only [M.nrm] at HM); go_simp) | (refine M.store_cell_m HM rfl 4 _ _ rfl 2 _ _ _ _ _ rfl rfl rfl (by kernel_rfl) rfl (by simp) ?_; clear HM; intro w_ HM; (try simp only [M.nrm] at HM); go_simp) | (refine M.store_cell_m HM rfl 4 _ _ rfl 3 _ _ _ _ _ rfl rfl rfl (by kernel_rfl) rfl (by simp) ?_; clear HM; intro w_ HM; (try simp only [M.nrm] at HM); go_simp)) | (refine M.at_alloc 3 rfl ?_; first | (refine M.alloc_m HM rfl rfl 3 rfl (.int .i64 0) (by kernel_rfl) #[(.int .i64 0)] rfl ?_; clear HM; intro g_ w_ HM; go_simp)) | (refine M.at_alloc 4 rfl ?_; first | (refine M.alloc_m HM rfl rfl 4 rfl (.bool false) (by kernel_rfl) #[(.bool false)] rfl ?_; clear HM; intro g_ w_ HM; go_simp)) | (refine M.at_box 25 rfl ?_; first | (refine M.box1_m HM rfl rfl 25 _ rfl _ rfl rfl ?_; clear HM; intro g_ w_ HM; go_simp)) | ((fail_if_success (refine M.lit_t rfl ?_)); (fail_if_success (refine M.lit_f rfl ?_)); refine M.split_guard rfl rfl ?_ ?_ <;> (intro hg_; simp only [hg_]; try simp only [M.hgs] at hg_)))
          | ((fail_if_success (refine M.lit_t rfl ?_)); (fail_if_success (refine M.lit_f rfl ?_)); refine M.split_guard rfl rfl ?_ ?_ <;> (intro hg_; simp only [hg_]; try simp only [M.hgs] at hg_)))
        refine wpIn_ret ?_
        try simp only [Exit.inBlock]
        exact ⟨_, ⟨pre, (xv, xs), rfl, rfl, HPRE.out, rfl⟩, HM⟩
      · refine wpIn_seq ?_
        have HX := Lib.hid hx
        refine region_in (fun ⟨a, w, hh⟩ => hh) (by simp) ?_
        have HM := Mem.start hB
        go_wp2_with (first
          | (refine M.at_mem rfl ?_; first | (refine M.at_load 25 rfl ?_; first | (refine M.load_cell_m HM rfl 25 _ rfl 0 _ _ _ _ _ rfl rfl rfl (by kernel_rfl) (by kernel_rfl) ?_; go_simp) | (refine M.load_cell_m HM rfl 25 _ rfl 1 _ _ _ _ _ rfl rfl rfl (by kernel_rfl) (by kernel_rfl) ?_; go_simp) | (refine M.load_cell_m HM rfl 25 _ rfl 2 _ _ _ _ _ rfl rfl rfl (by kernel_rfl) (by kernel_rfl) ?_; go_simp) | (refine M.load_cell_m HM rfl 25 _ rfl 3 _ _ _ _ _ rfl rfl rfl (by kernel_rfl) (by kernel_rfl) ?_; go_simp)) | (refine M.at_store 3 rfl ?_; first | (refine M.store_cell_m HM rfl 3 _ _ rfl 0 _ _ _ _ _ rfl rfl rfl (by kernel_rfl) rfl (by simp) ?_; clear HM; intro w_ HM; (try simp only [M.nrm] at HM); go_simp) | (refine M.store_cell_m HM rfl 3 _ _ rfl 1 _ _ _ _ _ rfl rfl rfl (by kernel_rfl) rfl (by simp) ?_; clear HM; intro w_ HM; (try simp only [M.nrm] at HM); go_simp) | (refine M.store_cell_m HM rfl 3 _ _ rfl 2 _ _ _ _ _ rfl rfl rfl (by kernel_rfl) rfl (by simp) ?_; clear HM; intro w_ HM; (try simp only [M.nrm] at HM); go_simp) | (refine M.store_cell_m HM rfl 3 _ _ rfl 3 _ _ _ _ _ rfl rfl rfl (by kernel_rfl) rfl (by simp) ?_; clear HM; intro w_ HM; (try simp only [M.nrm] at HM); go_simp)) | (refine M.at_store 4 rfl ?_; first | (refine M.store_cell_m HM rfl 4 _ _ rfl 0 _ _ _ _ _ rfl rfl rfl (by kernel_rfl) rfl (by simp) ?_; clear HM; intro w_ HM; (try simp only [M.nrm] at HM); go_simp) | (refine M.store_cell_m HM rfl 4 _ _ rfl 1 _ _ _ _ _ rfl rfl rfl (by kernel_rfl) rfl (by simp) ?_; clear HM; intro w_ HM; (try simp only [M.nrm] at HM); go_simp) | (refine M.store_cell_m HM rfl 4 _ _ rfl 2 _ _ _ _ _ rfl rfl rfl (by kernel_rfl) rfl (by simp) ?_; clear HM; intro w_ HM; (try simp only [M.nrm] at HM); go_simp) | (refine M.store_cell_m HM rfl 4 _ _ rfl 3 _ _ _ _ _ rfl rfl rfl (by kernel_rfl) rfl (by simp) ?_; clear HM; intro w_ HM; (try simp only [M.nrm] at HM); go_simp)) | (refine M.at_alloc 3 rfl ?_; first | (refine M.alloc_m HM rfl rfl 3 rfl (.int .i64 0) (by kernel_rfl) #[(.int .i64 0)] rfl ?_; clear HM; intro g_ w_ HM; go_simp)) | (refine M.at_alloc 4 rfl ?_; first | (refine M.alloc_m HM rfl rfl 4 rfl (.bool false) (by kernel_rfl) #[(.bool false)] rfl ?_; clear HM; intro g_ w_ HM; go_simp)) | (refine M.at_box 25 rfl ?_; first | (refine M.box1_m HM rfl rfl 25 _ rfl _ rfl rfl ?_; clear HM; intro g_ w_ HM; go_simp)) | ((fail_if_success (refine M.lit_t rfl ?_)); (fail_if_success (refine M.lit_f rfl ?_)); refine M.split_guard rfl rfl ?_ ?_ <;> (intro hg_; simp only [hg_]; try simp only [M.hgs] at hg_)))
          | (refine Mc.at_cmp _ rfl ?_; refine Mc.cmp_m rfl _ rfl _ _ _ rfl _ _ _ rfl rfl _ rfl ?_ ?_ <;> (intro hg_; try simp only [M.hgs] at hg_; first | (exfalso; first | omega | (simp at hg_; done)) | (go_simp)))
          | ((fail_if_success (refine M.lit_t rfl ?_)); (fail_if_success (refine M.lit_f rfl ?_)); refine M.split_guard rfl rfl ?_ ?_ <;> (intro hg_; simp only [hg_]; try simp only [M.hgs] at hg_)))
        refine wpIn_cond_false rfl ?_
        refine wpIn_skip ?_
        try simp only [Exit.inBlock]
        exact ⟨_, ⟨fun y hy => by
          rcases List.mem_append.1 hy with hy | hy
          · exact HPRE.out y hy
          · rw [List.mem_singleton] at hy; subst hy; exact HX.out, rfl⟩, HM⟩
    case hdone =>
      rintro D W B ⟨hpre, rfl⟩ HM
      have HM := (HM.perm (shufO (D, Obj.deferred (some [])) _ _ _ (ds.map Ba.mk))).drop
      have hno2 : ∀ y ∈ cat f ps (i + 1), y.2 ≠ space := fun y hy => by
        rcases List.mem_append.1 hy with hy | hy
        · exact HNO.out y hy
        · exact hpre y hy
      dsimp only [Exit.inBlock, Exit.then]
      go_wp2_with (first
        | (go_big_skip)
        | (refine M.at_mem rfl ?_; first | (refine M.at_load 25 rfl ?_; first | (refine M.load_cell_m HM rfl 25 _ rfl 0 _ _ _ _ _ rfl rfl rfl (by kernel_rfl) (by kernel_rfl) ?_; go_simp)) | (refine M.at_store 3 rfl ?_; first | (refine M.store_cell_m HM rfl 3 _ _ rfl 0 _ _ _ _ _ rfl rfl rfl (by kernel_rfl) rfl (by simp) ?_; clear HM; intro w_ HM; (try simp only [M.nrm] at HM); go_simp)) | (refine M.at_store 4 rfl ?_; first | (refine M.store_cell_m HM rfl 4 _ _ rfl 0 _ _ _ _ _ rfl rfl rfl (by kernel_rfl) rfl (by simp) ?_; clear HM; intro w_ HM; (try simp only [M.nrm] at HM); go_simp)) | (refine M.at_alloc 3 rfl ?_; first | (refine M.alloc_m HM rfl rfl 3 rfl (.int .i64 0) (by kernel_rfl) #[(.int .i64 0)] rfl ?_; clear HM; intro g_ w_ HM; go_simp)) | (refine M.at_alloc 4 rfl ?_; first | (refine M.alloc_m HM rfl rfl 4 rfl (.bool false) (by kernel_rfl) #[(.bool false)] rfl ?_; clear HM; intro g_ w_ HM; go_simp)) | (refine M.at_box 25 rfl ?_; first | (refine M.box1_m HM rfl rfl 25 _ rfl _ rfl rfl ?_; clear HM; intro g_ w_ HM; go_simp)) | ((fail_if_success (refine M.lit_t rfl ?_)); (fail_if_success (refine M.lit_f rfl ?_)); refine M.split_guard rfl rfl ?_ ?_ <;> (intro hg_; simp only [hg_]; try simp only [M.hgs] at hg_)))
        | ((fail_if_success (refine M.lit_t rfl ?_)); (fail_if_success (refine M.lit_f rfl ?_)); refine M.split_guard rfl rfl ?_ ?_ <;> (intro hg_; simp only [hg_]; try simp only [M.hgs] at hg_)))
      refine ⟨⟨i + 1, D :: ds, _, _, _, _, _, _, _, _, _, _, _, _, _, _, _, by omega, rfl, hno2, HM⟩, ?_⟩
      simp [OMu, intOf]; omega
    case hstop =>
      rintro D W B pre hpre ⟨pre', x, rfl, hx, hno', rfl⟩ HM
      have HM := (HM.perm (shufO (D, Obj.deferred (some [])) _ _ _ (ds.map Ba.mk))).drop
      dsimp only [Exit.inBlock, Exit.then]
      refine leave_marks (L := (g5_, row #[.bool true] 4) :: (g4_, row #[.int .i64 x.1] 3) :: (g3_, row #[.int .u64 space] 25) :: (gC, row (ccells gM ps) 68) :: AM) (fun W2 HM2 => ?_) (D :: ds) _ HM
      refine leave_end (res_vv HM2 rfl _ 1 g4_ _ (.int .i64 x.1) rfl 0 g5_ _ (.bool true) rfl rfl rfl (by kernel_rfl) (by kernel_rfl) (by kernel_rfl) (by kernel_rfl)) ?_
      refine ⟨_, _, rfl, ⟨?_, ⟨AM, hP, rfl⟩⟩, HM2.drop (A := [_, _, _])⟩
      obtain ⟨r, hr⟩ := cat_pre f ps (show i + 1 ≤ 8 by omega)
      rw [hr, cat, seek_hit hpre hx HNO.out hno' r]
      rfl
end Go.Proofs.Ytndeaikmelpflaa.Bk
