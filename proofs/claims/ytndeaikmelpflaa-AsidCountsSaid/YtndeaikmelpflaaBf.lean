/- The pages that a memory keeps, collected. -/
import Derived.Test.YtndeaikmelpflaaBe
namespace Go.Proofs.Ytndeaikmelpflaa.Bf
open Go.RowKit Go.Shelf Go.Proofs.Ytndeaikmelpflaa.G Go.Proofs.Ytndeaikmelpflaa.B Go.Proofs.Ytndeaikmelpflaa.M Go.Proofs.Ytndeaikmelpflaa.Mv Go.Proofs.Ytndeaikmelpflaa.Sl Go.Proofs.Ytndeaikmelpflaa.Sm Go.Proofs.Ytndeaikmelpflaa.Sn Go.Proofs.Ytndeaikmelpflaa.Ma Go.Proofs.Ytndeaikmelpflaa.Dr Go.Proofs.Ytndeaikmelpflaa.Ya Go.Proofs.Ytndeaikmelpflaa.Yb Go.Proofs.Ytndeaikmelpflaa.Yc Go.Proofs.Ytndeaikmelpflaa.Ls Go.Proofs.Ytndeaikmelpflaa.Lt Go.Proofs.Ytndeaikmelpflaa.Lu Go.Proofs.Ytndeaikmelpflaa.Ba Go.Proofs.Ytndeaikmelpflaa.Bc Go.Proofs.Ytndeaikmelpflaa.Be

set_option linter.unusedVariables false
set_option linter.unusedSimpArgs false
set_option maxRecDepth 100000
attribute [local go_sem] Oper.semAt_some
/-- A number of 64 bits. -/
structure U1 where
  v : Int
def U1.cells (x : U1) : Array Value := #[.int .u64 x.v]
instance : Rec U1 1 := ⟨U1.cells, fun _ => rfl, fun _ => by simp [U1.cells, Value.oneCell'], by decide⟩
variable {sz : Int} {f : Int → Int} {clock : Nat} {es : Array MapEntry} {S : List Sh}
def keysR (Bm gm clock : Nat) (es : Array MapEntry) : Hp := [(Bm, row #[.map (some gm)] 89), (gm, .map es clock)]
theorem keys_stops (h : PmS sz f clock es S) (gm Bm : Nat) (w : World) (hH : Has (keysR Bm gm clock es) w) :
    SeqStopsK Fence.wide 4 Try.prog 45 #[.pointer (some ⟨Bm, 0, none⟩)] encK (KpW []) (KS S) (fun _ => True) 1048576 w := fun l J Jx W hW hJ hJx hY h0 => by
  have hH2 := has_below hH ⟨hW.os, hW.tape, hW.output, hW.size, hW.block⟩
  exact keys_in h gm Bm [] l J Jx W hJ hJx hY (cell_of (hH2.get 0 rfl) (i := 0) rfl) (hH2.get 1 rfl) h0
def KyRel (gm : Nat) (r : Value) (L : Hp) : Prop := ∃ Bm : Nat, r = .func (.func 45) #[] #[.pointer (some ⟨Bm, 0, none⟩)] ∧ L = [(Bm, row #[.map (some gm)] 89)]
set_option maxHeartbeats 4000000 in
theorem keysf_any (gm : Nat) : Does Try.prog 41 #[.map (some gm)] [] (KyRel gm) := by
  intro w hH
  have HM := Mem.start hH
  go_enter Try.func41, Try.ntmps41
  go_wp2_with (first
    | (refine M.at_mem rfl ?_; first | (refine M.at_box 89 rfl ?_; first | (refine M.box1_m HM rfl rfl 89 _ rfl _ rfl rfl ?_; clear HM; intro g_ w_ HM; go_simp)) | ((fail_if_success (refine M.lit_t rfl ?_)); (fail_if_success (refine M.lit_f rfl ?_)); refine M.split_guard rfl rfl ?_ ?_ <;> (intro hg_; simp only [hg_]; try simp only [M.hgs] at hg_)))
    | ((fail_if_success (refine M.lit_t rfl ?_)); (fail_if_success (refine M.lit_f rfl ?_)); refine M.split_guard rfl rfl ?_ ?_ <;> (intro hg_; simp only [hg_]; try simp only [M.hgs] at hg_)))
  go_ret
  first
  | exact ⟨_, _, rfl, ⟨_, rfl, rfl⟩, HM⟩
  | exact ⟨_, ⟨_, rfl, rfl⟩, HM⟩
def CoRel (Bm gm clock : Nat) (es : Array MapEntry) (S : List Sh) (r : Value) (L : Hp) : Prop := ∃ ys A, KS S ys ∧ LR 25 (ys.map U1.mk) r A ∧ L = A ++ keysR Bm gm clock es
set_option maxHeartbeats 8000000 in
theorem appendseq_any (h : PmS sz f clock es S) (gm Bm : Nat) : Does Try.prog 44 #[.slice none 0 0, .func (.func 45) #[] #[.pointer (some ⟨Bm, 0, none⟩)]] (keysR Bm gm clock es) (CoRel Bm gm clock es S) := by
  intro w hH
  have HM := Mem.start hH
  refine calls_marks Try.func44 rfl ?_
  simp only [Try.ntmps44, List.size_toArray, List.length_cons, List.length_nil, Nat.reduceAdd, Nat.reduceSub, Array.replicate_succ, Array.replicate_zero, List.push_toArray, List.append_toArray, List.nil_append, List.cons_append]
  go_wp2_with (first
    | (go_big_skip)
    | (refine M.at_mem rfl ?_; first | (refine M.at_load 92 rfl ?_; first | (refine M.load_cell_m HM rfl 92 _ rfl 0 _ _ _ _ _ rfl rfl rfl (by kernel_rfl) (by kernel_rfl) ?_; go_simp) | (refine M.load_cell_m HM rfl 92 _ rfl 1 _ _ _ _ _ rfl rfl rfl (by kernel_rfl) (by kernel_rfl) ?_; go_simp)) | (refine M.at_store 92 rfl ?_; first | (refine M.store_cell_m HM rfl 92 _ _ rfl 0 _ _ _ _ _ rfl rfl rfl (by kernel_rfl) rfl (by simp) ?_; clear HM; intro w_ HM; (try simp only [M.nrm] at HM); go_simp) | (refine M.store_cell_m HM rfl 92 _ _ rfl 1 _ _ _ _ _ rfl rfl rfl (by kernel_rfl) rfl (by simp) ?_; clear HM; intro w_ HM; (try simp only [M.nrm] at HM); go_simp)) | (refine M.at_box 92 rfl ?_; first | (refine M.box1_m HM rfl rfl 92 _ rfl _ rfl rfl ?_; clear HM; intro g_ w_ HM; go_simp)) | ((fail_if_success (refine M.lit_t rfl ?_)); (fail_if_success (refine M.lit_f rfl ?_)); refine M.split_guard rfl rfl ?_ ?_ <;> (intro hg_; simp only [hg_]; try simp only [M.hgs] at hg_)))
    | ((fail_if_success (refine M.lit_t rfl ?_)); (fail_if_success (refine M.lit_f rfl ?_)); refine M.split_guard rfl rfl ?_ ?_ <;> (intro hg_; simp only [hg_]; try simp only [M.hgs] at hg_)))
  have HM2 : Mem _ _ ([_] ++ keysR Bm gm clock es) _ := HM
  apply wp_rangeW (R := []) (Sd := KS S) (Sp := fun _ => True) (N := 1048576) (encs := encK) (I := fun pre B => ∃ v A, B = (g_, row #[v] 92) :: A ∧ LR 25 (pre.map U1.mk) v A) (Ix := fun _ _ => False) (gf := 45) (lb := #[.pointer (some ⟨Bm, 0, none⟩)]) (hsub := fun p hp => by cases hp) HM2
  case hg => rfl
  case eg => exact enters_of Try.func45 (by kernel_rfl) rfl
  case hseq => exact keys_stops h gm Bm _ HM2.has.right
  case hps => exact fun _ => rfl
  case hIc =>
    rintro pre B ⟨v, A, rfl, hl⟩ p hp
    rcases List.mem_cons.1 hp with rfl | hp
    · rfl
    · exact lr_cells hl p hp
  case hIxc => exact fun _ _ h => h.elim
  case h0 => exact ⟨_, [], rfl, LR.nil _⟩
  case hassign =>
    intro l x W K hK
    dsimp only [encK]
    gi_wp2
    exact hK
  case hbody =>
    rintro l pre x W B ⟨v, A, rfl, hl⟩ hlen hB
    have hl2 : (pre.map U1.mk).length < 1048576 := by simpa using hlen
    have HL := Lib.hid hl
    clear HM HM2 hl
    refine wpIn_block ?_
    refine region_in (fun ⟨a, w, hh⟩ => hh) (by simp) ?_
    have HM := Mem.start hB
    go_wp2_with (first
      | (refine Sl.at_bslice 92 rfl ?_; first | (refine Ls.bslice1v_m HM rfl rfl 92 25 _ rfl (by kernel_rfl) (.int .u64 x) rfl (by kernel_rfl) ?_; clear HM; intro gb_ w_ HM; go_simp))
      | (refine Sm.at_call_append rfl ?_; first | (refine Ls.append_lr_m (R := [_]) HM rfl rfl _ _ 92 25 rfl 8 (by kernel_rfl) (by kernel_rfl) _ _ HL.out rfl (⟨x⟩) 0 _ rfl rfl (by (try simp only [maxLen, List.length_append, List.length_cons, List.length_nil]); omega) (by (try simp only [List.length_append, List.length_cons, List.length_nil]); omega) ?_; clear HM HL; intro vo_ Ao_ w_ ho_ HM; have HL := Lib.hid ho_; clear ho_; (try simp only [List.cons_append, List.nil_append] at HM); go_simp) | (refine Ls.append_lr_m (R := [_, _]) HM rfl rfl _ _ 92 25 rfl 8 (by kernel_rfl) (by kernel_rfl) _ _ HL.out rfl (⟨x⟩) 0 _ rfl rfl (by (try simp only [maxLen, List.length_append, List.length_cons, List.length_nil]); omega) (by (try simp only [List.length_append, List.length_cons, List.length_nil]); omega) ?_; clear HM HL; intro vo_ Ao_ w_ ho_ HM; have HL := Lib.hid ho_; clear ho_; (try simp only [List.cons_append, List.nil_append] at HM); go_simp) | (refine Ls.append_lr_m (R := [_, _, _]) HM rfl rfl _ _ 92 25 rfl 8 (by kernel_rfl) (by kernel_rfl) _ _ HL.out rfl (⟨x⟩) 0 _ rfl rfl (by (try simp only [maxLen, List.length_append, List.length_cons, List.length_nil]); omega) (by (try simp only [List.length_append, List.length_cons, List.length_nil]); omega) ?_; clear HM HL; intro vo_ Ao_ w_ ho_ HM; have HL := Lib.hid ho_; clear ho_; (try simp only [List.cons_append, List.nil_append] at HM); go_simp) | (refine Ls.append_lr_m (R := [_, _, _, _]) HM rfl rfl _ _ 92 25 rfl 8 (by kernel_rfl) (by kernel_rfl) _ _ HL.out rfl (⟨x⟩) 0 _ rfl rfl (by (try simp only [maxLen, List.length_append, List.length_cons, List.length_nil]); omega) (by (try simp only [List.length_append, List.length_cons, List.length_nil]); omega) ?_; clear HM HL; intro vo_ Ao_ w_ ho_ HM; have HL := Lib.hid ho_; clear ho_; (try simp only [List.cons_append, List.nil_append] at HM); go_simp) | (refine Ls.append_lr_m (R := [_, _, _, _, _]) HM rfl rfl _ _ 92 25 rfl 8 (by kernel_rfl) (by kernel_rfl) _ _ HL.out rfl (⟨x⟩) 0 _ rfl rfl (by (try simp only [maxLen, List.length_append, List.length_cons, List.length_nil]); omega) (by (try simp only [List.length_append, List.length_cons, List.length_nil]); omega) ?_; clear HM HL; intro vo_ Ao_ w_ ho_ HM; have HL := Lib.hid ho_; clear ho_; (try simp only [List.cons_append, List.nil_append] at HM); go_simp) | (refine Ls.append_lr_m (R := [_, _, _, _, _, _]) HM rfl rfl _ _ 92 25 rfl 8 (by kernel_rfl) (by kernel_rfl) _ _ HL.out rfl (⟨x⟩) 0 _ rfl rfl (by (try simp only [maxLen, List.length_append, List.length_cons, List.length_nil]); omega) (by (try simp only [List.length_append, List.length_cons, List.length_nil]); omega) ?_; clear HM HL; intro vo_ Ao_ w_ ho_ HM; have HL := Lib.hid ho_; clear ho_; (try simp only [List.cons_append, List.nil_append] at HM); go_simp) | (refine Ls.append_lr_m (R := [_, _, _, _, _, _, _]) HM rfl rfl _ _ 92 25 rfl 8 (by kernel_rfl) (by kernel_rfl) _ _ HL.out rfl (⟨x⟩) 0 _ rfl rfl (by (try simp only [maxLen, List.length_append, List.length_cons, List.length_nil]); omega) (by (try simp only [List.length_append, List.length_cons, List.length_nil]); omega) ?_; clear HM HL; intro vo_ Ao_ w_ ho_ HM; have HL := Lib.hid ho_; clear ho_; (try simp only [List.cons_append, List.nil_append] at HM); go_simp) | (refine Ls.append_lr_m (R := [_, _, _, _, _, _, _, _]) HM rfl rfl _ _ 92 25 rfl 8 (by kernel_rfl) (by kernel_rfl) _ _ HL.out rfl (⟨x⟩) 0 _ rfl rfl (by (try simp only [maxLen, List.length_append, List.length_cons, List.length_nil]); omega) (by (try simp only [List.length_append, List.length_cons, List.length_nil]); omega) ?_; clear HM HL; intro vo_ Ao_ w_ ho_ HM; have HL := Lib.hid ho_; clear ho_; (try simp only [List.cons_append, List.nil_append] at HM); go_simp))
      | (refine M.at_mem rfl ?_; first | (refine M.at_load 92 rfl ?_; first | (refine M.load_cell_m HM rfl 92 _ rfl 0 _ _ _ _ _ rfl rfl rfl (by kernel_rfl) (by kernel_rfl) ?_; go_simp) | (refine M.load_cell_m HM rfl 92 _ rfl 1 _ _ _ _ _ rfl rfl rfl (by kernel_rfl) (by kernel_rfl) ?_; go_simp) | (refine M.load_cell_m HM rfl 92 _ rfl 2 _ _ _ _ _ rfl rfl rfl (by kernel_rfl) (by kernel_rfl) ?_; go_simp) | (refine M.load_cell_m HM rfl 92 _ rfl 3 _ _ _ _ _ rfl rfl rfl (by kernel_rfl) (by kernel_rfl) ?_; go_simp)) | (refine M.at_store 92 rfl ?_; first | (refine M.store_cell_m HM rfl 92 _ _ rfl 1 _ _ _ _ vo_ rfl rfl rfl (by kernel_rfl) HL.out.one (by simp) ?_; clear HM; intro w_ HM; (try simp only [M.nrm] at HM); go_simp) | (refine M.store_cell_m HM rfl 92 _ _ rfl 0 _ _ _ _ _ rfl rfl rfl (by kernel_rfl) rfl (by simp) ?_; clear HM; intro w_ HM; (try simp only [M.nrm] at HM); go_simp) | (refine M.store_cell_m HM rfl 92 _ _ rfl 1 _ _ _ _ _ rfl rfl rfl (by kernel_rfl) rfl (by simp) ?_; clear HM; intro w_ HM; (try simp only [M.nrm] at HM); go_simp) | (refine M.store_cell_m HM rfl 92 _ _ rfl 2 _ _ _ _ _ rfl rfl rfl (by kernel_rfl) rfl (by simp) ?_; clear HM; intro w_ HM; (try simp only [M.nrm] at HM); go_simp) | (refine M.store_cell_m HM rfl 92 _ _ rfl 3 _ _ _ _ _ rfl rfl rfl (by kernel_rfl) rfl (by simp) ?_; clear HM; intro w_ HM; (try simp only [M.nrm] at HM); go_simp)) | (refine M.at_box 92 rfl ?_; first | (refine M.box1_m HM rfl rfl 92 _ rfl _ rfl rfl ?_; clear HM; intro g_ w_ HM; go_simp)) | ((fail_if_success (refine M.lit_t rfl ?_)); (fail_if_success (refine M.lit_f rfl ?_)); refine M.split_guard rfl rfl ?_ ?_ <;> (intro hg_; simp only [hg_]; try simp only [M.hgs] at hg_)))
      | ((fail_if_success (refine M.lit_t rfl ?_)); (fail_if_success (refine M.lit_f rfl ?_)); refine M.split_guard rfl rfl ?_ ?_ <;> (intro hg_; simp only [hg_]; try simp only [M.hgs] at hg_)))
    try simp only [Exit.inBlock]
    exact ⟨_, ⟨_, _, rfl, by first | exact HL.out | (rw [List.map_append]; exact HL.out)⟩, HM.drop (A := [_])⟩
  case hdone =>
    rintro D W B ys hys ⟨v, A, rfl, hl⟩ HM
    have HL := Lib.hid hl
    have HY := Lib.hid hys
    clear hl HM2 hys
    simp only [List.cons_append] at HM
    dsimp only [Exit.inBlock, Exit.then]
    go_wp2_with (first
      | (go_big_skip)
      | (refine M.at_mem rfl ?_; first | (refine M.at_load 92 rfl ?_; first | (refine M.load_cell_m HM rfl 92 _ rfl 0 _ _ _ _ _ rfl rfl rfl (by kernel_rfl) (by kernel_rfl) ?_; go_simp) | (refine M.load_cell_m HM rfl 92 _ rfl 1 _ _ _ _ _ rfl rfl rfl (by kernel_rfl) (by kernel_rfl) ?_; go_simp) | (refine M.load_cell_m HM rfl 92 _ rfl 2 _ _ _ _ _ rfl rfl rfl (by kernel_rfl) (by kernel_rfl) ?_; go_simp)) | (refine M.at_store 92 rfl ?_; first | (refine M.store_cell_m HM rfl 92 _ _ rfl 0 _ _ _ _ _ rfl rfl rfl (by kernel_rfl) rfl (by simp) ?_; clear HM; intro w_ HM; (try simp only [M.nrm] at HM); go_simp) | (refine M.store_cell_m HM rfl 92 _ _ rfl 1 _ _ _ _ _ rfl rfl rfl (by kernel_rfl) rfl (by simp) ?_; clear HM; intro w_ HM; (try simp only [M.nrm] at HM); go_simp) | (refine M.store_cell_m HM rfl 92 _ _ rfl 2 _ _ _ _ _ rfl rfl rfl (by kernel_rfl) rfl (by simp) ?_; clear HM; intro w_ HM; (try simp only [M.nrm] at HM); go_simp)) | (refine M.at_box 92 rfl ?_; first | (refine M.box1_m HM rfl rfl 92 _ rfl _ rfl rfl ?_; clear HM; intro g_ w_ HM; go_simp)) | ((fail_if_success (refine M.lit_t rfl ?_)); (fail_if_success (refine M.lit_f rfl ?_)); refine M.split_guard rfl rfl ?_ ?_ <;> (intro hg_; simp only [hg_]; try simp only [M.hgs] at hg_)))
      | ((fail_if_success (refine M.lit_t rfl ?_)); (fail_if_success (refine M.lit_f rfl ?_)); refine M.split_guard rfl rfl ?_ ?_ <;> (intro hg_; simp only [hg_]; try simp only [M.hgs] at hg_)))
    all_goals
      try simp only [Exit.inBlock, Exit.then]
      refine leave_mark HM 0 D rfl (fun W' HM => ?_)
      refine leave_end (results_tmp rfl _ _ _) ?_
      have HM := HM.drop (A := [_, _])
      first
      | exact ⟨_, _, rfl, ⟨_, _, HY.out, HL.out, rfl⟩, HM⟩
      | exact ⟨_, ⟨_, _, HY.out, HL.out, rfl⟩, HM⟩
  case hstop =>
    intro D W B pre _ hh
    exact hh.elim
set_option maxHeartbeats 4000000 in
theorem collect_any (h : PmS sz f clock es S) (gm Bm : Nat) : Does Try.prog 40 #[.func (.func 45) #[] #[.pointer (some ⟨Bm, 0, none⟩)]] (keysR Bm gm clock es) (CoRel Bm gm clock es S) := by
  have CA := appendseq_any h gm Bm
  generalize CoRel Bm gm clock es S = Rl at CA
  intro w hH
  have HM := Mem.start hH
  go_enter Try.func40, Try.ntmps40
  go_wp2_with (first
    | (go_at_call 44; have HM_ : M.Mem _ _ ([] ++ keysR Bm gm clock es) _ := HM; (with_reducible refine (M.Does.tail _ CA HM_).mono ?_); clear HM HM_; rintro e w_ ⟨v_, L_, rfl, hR_, HM⟩; (try simp only [List.append_nil, List.nil_append] at HM); dsimp only)
    | ((fail_if_success (refine M.lit_t rfl ?_)); (fail_if_success (refine M.lit_f rfl ?_)); refine M.split_guard rfl rfl ?_ ?_ <;> (intro hg_; simp only [hg_]; try simp only [M.hgs] at hg_)))
  go_ret
  first
  | exact ⟨_, _, rfl, hR_, HM⟩
  | exact ⟨_, hR_, HM⟩
  | exact ⟨_, rfl, _, hR_, HM⟩
end Go.Proofs.Ytndeaikmelpflaa.Bf
