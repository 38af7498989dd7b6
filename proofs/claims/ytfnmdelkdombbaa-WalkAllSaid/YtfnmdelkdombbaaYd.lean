/- The document's memory: a list of words: may, Read, Write: what each call answers. -/
import Derived.Test.YtfnmdelkdombbaaProg
import Derived.Test.YtfnmdelkdombbaaLs
import Derived.Test.YtfnmdelkdombbaaYc
namespace Go.Proofs.Ytfnmdelkdombbaa.Yd
open Go.RowKit Go.Proofs.Ytfnmdelkdombbaa.G Go.Proofs.Ytfnmdelkdombbaa.B Go.Proofs.Ytfnmdelkdombbaa.M Go.Proofs.Ytfnmdelkdombbaa.Mv Go.Proofs.Ytfnmdelkdombbaa.Sl Go.Proofs.Ytfnmdelkdombbaa.Sm Go.Proofs.Ytfnmdelkdombbaa.Sn Go.Proofs.Ytfnmdelkdombbaa.Ma Go.Proofs.Ytfnmdelkdombbaa.Dr Go.Proofs.Ytfnmdelkdombbaa.Ya Go.Proofs.Ytfnmdelkdombbaa.Yb Go.Proofs.Ytfnmdelkdombbaa.Yc Go.Proofs.Ytfnmdelkdombbaa.Ls

set_option linter.unusedVariables false
set_option linter.unusedSimpArgs false
set_option maxRecDepth 100000
/-- A pair of words. -/
structure W2 where
  at_ : Int
  word : Int
def W2.cells (x : W2) : Array Value := #[.int .u64 x.at_, .int .u64 x.word]
instance : Rec W2 2 := ⟨W2.cells, fun _ => rfl, fun _ => by simp [W2.cells, Value.oneCell'], by decide⟩
theorem Row.cell {T : Type} {k : Nat} [Rec T k] {l : List T} {off : Nat} {cur : Array Value} (h : Row l off cur) {i : Nat} {e : T} (hi : l[i]? = some e) {j : Nat} {v : Value} (hj : (Rec.cells e)[j]? = some v) : cur[off + i * k + j]? = some v := by
  have hg := h.get hi
  have hjk : j < k := by have := (Array.getElem?_eq_some_iff.1 hj).1; rwa [Rec.size] at this
  have hf := h.fit (List.getElem?_eq_some_iff.1 hi).1
  rw [← hg, Array.getElem?_extract] at hj
  split at hj
  · exact hj
  · cases hj
theorem all2 {a b : Value} (h1 : a.oneCell' = true) (h2 : b.oneCell' = true) : (#[a, b] : Array Value).all (·.oneCell') = true := by simp [h1, h2]
theorem all4 {a b c d : Value} (h1 : a.oneCell' = true) (h2 : b.oneCell' = true) (h3 : c.oneCell' = true) (h4 : d.oneCell' = true) : (#[a, b, c, d] : Array Value).all (·.oneCell') = true := by simp [h1, h2, h3, h4]
/-- What stands at an address; 0: nothing. -/
def lookW : List W2 → Int → Int
  | [], _ => 0
  | p :: t, a => if p.at_ = a then p.word else lookW t a
def rreadV (size : Int) (l : List W2) (a : Int) : Value := if errV size a = 0 then .tuple #[.int .u64 (lookW l a), .int .i64 0] else .tuple #[.int .u64 0, .int .i64 (errV size a)]
theorem rmay_any (size a : Int) (a0 : 0 ≤ a) (v : Value) (w : World) : Calls Try.prog 42 #[.agg #[.int .u64 size, v], .int .u64 a] w fun e w' => e = .returned (.int .i64 (errV size a)) ∧ Below w.heap.size w w' := by
  have e1 : a.tmod 8 = a % 8 := Int.tmod_eq_emod_of_nonneg a0
  have h3 : IntKind.u64.wrap (a % 8) = a % 8 := u64_wrap _ (by omega) (by omega)
  have HM := Mem.nil w
  by_cases h8 : a % 8 = 0
  · rw [h8] at e1 h3
    have he : errV size a = if a < size then 0 else 12 := by unfold errV; rw [if_pos h8]
    have HE := Lib.hid he; clear he h8
    go_enter Try.func42, Try.ntmps42
    go_wp2_with (first
      | (go_big_skip)
      | (refine M.at_mem rfl ?_; first | (refine M.at_load 22 rfl ?_; first | (refine M.load_cell_m HM rfl 22 _ rfl 0 _ _ _ _ _ rfl rfl rfl (by kernel_rfl) (by kernel_rfl) ?_; go_simp)) | (refine M.at_box 28 rfl ?_; first | (refine M.box_m HM rfl rfl 28 _ rfl _ rfl ?_; clear HM; intro g_ w_ HM; go_simp)) | ((fail_if_success (refine M.lit_t rfl ?_)); (fail_if_success (refine M.lit_f rfl ?_)); refine M.split_guard rfl rfl ?_ ?_ <;> (intro hg_; simp only [hg_]; try simp only [M.hgs] at hg_)))
      | (refine Mc.at_cmp _ rfl ?_; refine Mc.cmp_m rfl _ rfl _ _ _ rfl _ _ _ rfl rfl _ rfl ?_ ?_ <;> (intro hg_; try simp only [M.hgs] at hg_; first | (exfalso; first | omega | (simp at hg_; done)) | (go_simp)))
      | ((fail_if_success (refine M.lit_t rfl ?_)); (fail_if_success (refine M.lit_f rfl ?_)); refine M.split_guard rfl rfl ?_ ?_ <;> (intro hg_; simp only [hg_]; try simp only [M.hgs] at hg_)))
    all_goals
      go_ret
      refine ⟨?_, HM.none.to_below⟩
      rw [HE.out]
      first | (rw [if_pos (by omega)]; rfl) | (rw [if_neg (by omega)]; rfl)
  · have he : errV size a = 13 := by unfold errV; rw [if_neg h8]
    rw [he]; clear he
    go_enter Try.func42, Try.ntmps42
    go_wp2_with (first
      | (go_big_skip)
      | (refine M.at_mem rfl ?_; first | (refine M.at_load 22 rfl ?_; first | (refine M.load_cell_m HM rfl 22 _ rfl 0 _ _ _ _ _ rfl rfl rfl (by kernel_rfl) (by kernel_rfl) ?_; go_simp)) | (refine M.at_box 28 rfl ?_; first | (refine M.box_m HM rfl rfl 28 _ rfl _ rfl ?_; clear HM; intro g_ w_ HM; go_simp)) | ((fail_if_success (refine M.lit_t rfl ?_)); (fail_if_success (refine M.lit_f rfl ?_)); refine M.split_guard rfl rfl ?_ ?_ <;> (intro hg_; simp only [hg_]; try simp only [M.hgs] at hg_)))
      | (refine Mc.at_cmp _ rfl ?_; refine Mc.cmp_m rfl _ rfl _ _ _ rfl _ _ _ rfl rfl _ rfl ?_ ?_ <;> (intro hg_; try simp only [M.hgs] at hg_; first | (exfalso; first | omega | (simp at hg_; done)) | (go_simp)))
      | ((fail_if_success (refine M.lit_t rfl ?_)); (fail_if_success (refine M.lit_f rfl ?_)); refine M.split_guard rfl rfl ?_ ?_ <;> (intro hg_; simp only [hg_]; try simp only [M.hgs] at hg_)))
    all_goals
      go_ret
      exact ⟨rfl, HM.none.to_below⟩
theorem lookW_drop {l : List W2} {i : Nat} {x : W2} (hi : l[i]? = some x) (a : Int) : lookW (l.drop i) a = if x.at_ = a then x.word else lookW (l.drop (i + 1)) a := by
  obtain ⟨hlt, he⟩ := List.getElem?_eq_some_iff.1 hi
  rw [show l.drop i = x :: l.drop (i + 1) from by rw [← he]; exact List.drop_eq_getElem_cons hlt]
  rfl
set_option maxHeartbeats 2000000 in
theorem rread_any (size a : Int) (a0 : 0 ≤ a) (l : List W2) (p : Option Addr) (c : Nat) (A : Hp) (hL : LV 97 l p A) (hl : l.length ≤ 1000) :
    Does Try.prog 26 #[.agg #[.int .u64 size, .slice p l.length c], .int .u64 a] A fun r L => r = rreadV size l a ∧ L = A := by
  have CM := fun w => rmay_any size a a0 (.slice p l.length c) w
  by_cases he : errV size a = 0
  · have hv : rreadV size l a = .tuple #[.int .u64 (lookW l a), .int .i64 0] := by unfold rreadV; rw [if_pos he]
    rw [hv]
    rw [he] at CM
    clear hv he
    generalize hn : l.length = n at CM hl
    have HL := Lib.hid hL; have HN := Lib.hid hn; clear hL hn
    intro w hH
    have HM := Mem.start hH
    go_enter Try.func26, Try.ntmps26
    go_wp2_with (first
      | (go_big_skip)
      | (go_at_call 42; (with_reducible refine (M.call_pure (CM) HM).mono ?_); clear HM; rintro e w_ ⟨rfl, HM⟩; dsimp only)
      | (refine M.at_mem rfl ?_; first | (refine M.at_load 22 rfl ?_; first | (refine M.load_cell_m HM rfl 22 _ rfl 0 _ _ _ _ _ rfl rfl rfl (by kernel_rfl) (by kernel_rfl) ?_; go_simp) | (refine M.load_cell_m HM rfl 22 _ rfl 1 _ _ _ _ _ rfl rfl rfl (by kernel_rfl) (by kernel_rfl) ?_; go_simp)) | (refine M.at_load 26 rfl ?_; first | (refine M.load_cell_m HM rfl 26 _ rfl 0 _ _ _ _ _ rfl rfl rfl (by kernel_rfl) (by kernel_rfl) ?_; go_simp) | (refine M.load_cell_m HM rfl 26 _ rfl 1 _ _ _ _ _ rfl rfl rfl (by kernel_rfl) (by kernel_rfl) ?_; go_simp)) | (refine M.at_load 28 rfl ?_; first | (refine M.load_row_m HM rfl 28 _ rfl 0 _ _ _ rfl rfl (by kernel_rfl) (by kernel_rfl) ?_; go_simp) | (refine M.load_row_m HM rfl 28 _ rfl 1 _ _ _ rfl rfl (by kernel_rfl) (by kernel_rfl) ?_; go_simp)) | (refine M.at_box 28 rfl ?_; first | (refine M.box_m HM rfl rfl 28 _ rfl _ rfl ?_; clear HM; intro g_ w_ HM; go_simp)) | ((fail_if_success (refine M.lit_t rfl ?_)); (fail_if_success (refine M.lit_f rfl ?_)); refine M.split_guard rfl rfl ?_ ?_ <;> (intro hg_; simp only [hg_]; try simp only [M.hgs] at hg_)))
      | (refine Mc.at_cmp _ rfl ?_; refine Mc.cmp_m rfl _ rfl _ _ _ rfl _ _ _ rfl rfl _ rfl ?_ ?_ <;> (intro hg_; try simp only [M.hgs] at hg_; first | (exfalso; first | omega | (simp at hg_; done)) | (go_simp)))
      | ((fail_if_success (refine M.lit_t rfl ?_)); (fail_if_success (refine M.lit_f rfl ?_)); refine M.split_guard rfl rfl ?_ ?_ <;> (intro hg_; simp only [hg_]; try simp only [M.hgs] at hg_)))
    clear CM
    go_loopw [7] (fun v wr => ∃ i : Nat, i ≤ n ∧ v = .int .i64 i ∧ lookW l a = lookW (l.drop i) a ∧ Mem w (A.map (·.1)) ((g_, row #[.int .u64 size, .slice p n c] 28) :: A) wr) (fun v _ => n - (intOf v).toNat)
    case atStart => exact ⟨0, by omega, rfl, rfl, HM⟩
    case round =>
      clear HM
      obtain ⟨i, iR, rfl, hlk, HM⟩ := hrel
      have HK := Lib.hid hlk; clear hlk
      by_cases hlt : i < n
      · obtain ⟨x, hx⟩ : ∃ x, l[i]? = some x := ⟨_, List.getElem?_eq_getElem (by have := HN.out; omega)⟩
        have hst := lookW_drop hx a
        rcases HL.out with ⟨rfl, rfl, rfl⟩ | ⟨g, off, cur, rfl, hR, rfl⟩
        · simp at hx
        have hf := hR.fit (List.getElem?_eq_some_iff.1 hx).1
        have h0 := Row.cell hR hx (j := 0) (v := .int .u64 x.at_) rfl
        have h1 := Row.cell hR hx (j := 1) (v := .int .u64 x.word) rfl
        have HST := Lib.hid hst; have H0 := Lib.hid h0; have H1 := Lib.hid h1
        have hi1 : (i : Int) < n := by omega
        clear hst h0 h1 hR hx hf HL
        generalize x.at_ = xa at HST H0
        generalize x.word = xw at HST H1
        go_wp2_with (first
          | (go_big_skip)
          | (refine Sl.at_indexAddr 26 rfl ?_; refine Sl.indexAddr_m rfl _ rfl 26 rfl 97 (by kernel_rfl) 2 (by kernel_rfl) g (off) (n) (c) rfl .i64 (i : Int) rfl (by omega) (by omega) (off + i * 2) (by omega) ?_; go_simp)
          | (refine M.at_mem rfl ?_; first | (refine M.at_load 22 rfl ?_; first | (refine M.load_cell_m HM rfl 22 _ rfl 1 g (off + i * 2) _ cur (.int .u64 xa) rfl rfl H0.out (by kernel_rfl) (by kernel_rfl) ?_; go_simp) | (refine M.load_cell_m HM rfl 22 _ rfl 1 g (off + i * 2 + 1) _ cur (.int .u64 xw) rfl rfl H1.out (by kernel_rfl) (by kernel_rfl) ?_; go_simp) | (refine M.load_cell_m HM rfl 22 _ rfl 0 _ _ _ _ _ rfl rfl rfl (by kernel_rfl) (by kernel_rfl) ?_; go_simp)) | (refine M.at_load 26 rfl ?_; first | (refine M.load_cell_m HM rfl 22 _ rfl 1 g (off + i * 2) _ cur (.int .u64 xa) rfl rfl H0.out (by kernel_rfl) (by kernel_rfl) ?_; go_simp) | (refine M.load_cell_m HM rfl 22 _ rfl 1 g (off + i * 2 + 1) _ cur (.int .u64 xw) rfl rfl H1.out (by kernel_rfl) (by kernel_rfl) ?_; go_simp) | (refine M.load_cell_m HM rfl 26 _ rfl 0 _ _ _ _ _ rfl rfl rfl (by kernel_rfl) (by kernel_rfl) ?_; go_simp)) | (refine M.at_load 28 rfl ?_; first | (refine M.load_cell_m HM rfl 22 _ rfl 1 g (off + i * 2) _ cur (.int .u64 xa) rfl rfl H0.out (by kernel_rfl) (by kernel_rfl) ?_; go_simp) | (refine M.load_cell_m HM rfl 22 _ rfl 1 g (off + i * 2 + 1) _ cur (.int .u64 xw) rfl rfl H1.out (by kernel_rfl) (by kernel_rfl) ?_; go_simp) | (refine M.load_row_m HM rfl 28 _ rfl 0 _ _ _ rfl rfl (by kernel_rfl) (by kernel_rfl) ?_; go_simp)) | (refine M.at_box 28 rfl ?_; first | (refine M.box_m HM rfl rfl 28 _ rfl _ rfl ?_; clear HM; intro g_ w_ HM; go_simp)) | ((fail_if_success (refine M.lit_t rfl ?_)); (fail_if_success (refine M.lit_f rfl ?_)); refine M.split_guard rfl rfl ?_ ?_ <;> (intro hg_; simp only [hg_]; try simp only [M.hgs] at hg_)))
          | (refine Mc.at_cmp _ rfl ?_; refine Mc.cmp_m rfl _ rfl _ _ _ rfl _ _ _ rfl rfl _ rfl ?_ ?_ <;> (intro hg_; try simp only [M.hgs] at hg_; first | (exfalso; first | omega | (simp at hg_; done)) | (go_simp)))
          | ((fail_if_success (refine M.lit_t rfl ?_)); (fail_if_success (refine M.lit_f rfl ?_)); refine M.split_guard rfl rfl ?_ ?_ <;> (intro hg_; simp only [hg_]; try simp only [M.hgs] at hg_)))
        · go_ret2
          refine ⟨_, _, rfl, ⟨?_, rfl⟩, HM.drop (A := [_])⟩
          rw [HK.out, HST.out, if_pos ‹_›]
          rfl
        · go_roundw
          case rel => exact ⟨i + 1, by omega, by first | rfl | (refine congrArg (fun z => Value.int .i64 z) ?_; omega), by rw [HK.out, HST.out, if_neg ‹_›], HM⟩
          case measure => simp [intOf]; omega
      · obtain rfl : i = n := by omega
        have hz : lookW l a = 0 := by
          rw [HK.out, List.drop_of_length_le (by rw [HN.out]; exact Nat.le_refl _)]; rfl
        have HZ := Lib.hid hz
        clear HK hz HL HN
        go_wp2_with (first
          | (go_big_skip)
          | (refine M.at_mem rfl ?_; first | (refine M.at_load 22 rfl ?_; first | (refine M.load_cell_m HM rfl 22 _ rfl 0 _ _ _ _ _ rfl rfl rfl (by kernel_rfl) (by kernel_rfl) ?_; go_simp)) | (refine M.at_load 26 rfl ?_; first | (refine M.load_cell_m HM rfl 26 _ rfl 0 _ _ _ _ _ rfl rfl rfl (by kernel_rfl) (by kernel_rfl) ?_; go_simp)) | (refine M.at_load 28 rfl ?_; first | (refine M.load_row_m HM rfl 28 _ rfl 0 _ _ _ rfl rfl (by kernel_rfl) (by kernel_rfl) ?_; go_simp)) | (refine M.at_box 28 rfl ?_; first | (refine M.box_m HM rfl rfl 28 _ rfl _ rfl ?_; clear HM; intro g_ w_ HM; go_simp)) | ((fail_if_success (refine M.lit_t rfl ?_)); (fail_if_success (refine M.lit_f rfl ?_)); refine M.split_guard rfl rfl ?_ ?_ <;> (intro hg_; simp only [hg_]; try simp only [M.hgs] at hg_)))
          | (refine Mc.at_cmp _ rfl ?_; refine Mc.cmp_m rfl _ rfl _ _ _ rfl _ _ _ rfl rfl _ rfl ?_ ?_ <;> (intro hg_; try simp only [M.hgs] at hg_; first | (exfalso; first | omega | (simp at hg_; done)) | (go_simp)))
          | ((fail_if_success (refine M.lit_t rfl ?_)); (fail_if_success (refine M.lit_f rfl ?_)); refine M.split_guard rfl rfl ?_ ?_ <;> (intro hg_; simp only [hg_]; try simp only [M.hgs] at hg_)))
        all_goals
          go_ret2
          refine ⟨_, _, rfl, ⟨?_, rfl⟩, HM.drop (A := [_])⟩
          rw [HZ.out]; rfl
  · have hv : rreadV size l a = .tuple #[.int .u64 0, .int .i64 (errV size a)] := by unfold rreadV; rw [if_neg he]
    rw [hv]
    generalize errV size a = e at CM he ⊢
    clear hv hL
    generalize l.length = n at CM ⊢
    intro w hH
    have HM := Mem.start hH
    go_enter Try.func26, Try.ntmps26
    go_wp2_with (first
      | (go_big_skip)
      | (go_at_call 42; (with_reducible refine (M.call_pure (CM) HM).mono ?_); clear HM; rintro e w_ ⟨rfl, HM⟩; dsimp only)
      | (refine M.at_mem rfl ?_; first | (refine M.at_load 22 rfl ?_; first | (refine M.load_cell_m HM rfl 22 _ rfl 0 _ _ _ _ _ rfl rfl rfl (by kernel_rfl) (by kernel_rfl) ?_; go_simp) | (refine M.load_cell_m HM rfl 22 _ rfl 1 _ _ _ _ _ rfl rfl rfl (by kernel_rfl) (by kernel_rfl) ?_; go_simp)) | (refine M.at_load 26 rfl ?_; first | (refine M.load_cell_m HM rfl 26 _ rfl 0 _ _ _ _ _ rfl rfl rfl (by kernel_rfl) (by kernel_rfl) ?_; go_simp) | (refine M.load_cell_m HM rfl 26 _ rfl 1 _ _ _ _ _ rfl rfl rfl (by kernel_rfl) (by kernel_rfl) ?_; go_simp)) | (refine M.at_load 28 rfl ?_; first | (refine M.load_row_m HM rfl 28 _ rfl 0 _ _ _ rfl rfl (by kernel_rfl) (by kernel_rfl) ?_; go_simp) | (refine M.load_row_m HM rfl 28 _ rfl 1 _ _ _ rfl rfl (by kernel_rfl) (by kernel_rfl) ?_; go_simp)) | (refine M.at_box 28 rfl ?_; first | (refine M.box_m HM rfl rfl 28 _ rfl _ rfl ?_; clear HM; intro g_ w_ HM; go_simp)) | ((fail_if_success (refine M.lit_t rfl ?_)); (fail_if_success (refine M.lit_f rfl ?_)); refine M.split_guard rfl rfl ?_ ?_ <;> (intro hg_; simp only [hg_]; try simp only [M.hgs] at hg_)))
      | (refine Mc.at_cmp _ rfl ?_; refine Mc.cmp_m rfl _ rfl _ _ _ rfl _ _ _ rfl rfl _ rfl ?_ ?_ <;> (intro hg_; try simp only [M.hgs] at hg_; first | (exfalso; first | omega | (simp at hg_; done)) | (go_simp)))
      | ((fail_if_success (refine M.lit_t rfl ?_)); (fail_if_success (refine M.lit_f rfl ?_)); refine M.split_guard rfl rfl ?_ ?_ <;> (intro hg_; simp only [hg_]; try simp only [M.hgs] at hg_)))
    all_goals
      go_ret2
      exact ⟨_, _, rfl, ⟨rfl, rfl⟩, HM.drop (A := [_])⟩
end Go.Proofs.Ytfnmdelkdombbaa.Yd
