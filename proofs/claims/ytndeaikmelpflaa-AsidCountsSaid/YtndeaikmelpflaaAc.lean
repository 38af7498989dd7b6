/- The document's control of virtual ASIDs: There, Space, Clear. -/
import Derived.Test.YtndeaikmelpflaaProg
import Derived.Test.YtndeaikmelpflaaAa
namespace Go.Proofs.Ytndeaikmelpflaa.Ac
open Go.RowKit Go.Proofs.Ytndeaikmelpflaa.G Go.Proofs.Ytndeaikmelpflaa.B Go.Proofs.Ytndeaikmelpflaa.M Go.Proofs.Ytndeaikmelpflaa.Mv Go.Proofs.Ytndeaikmelpflaa.Sl Go.Proofs.Ytndeaikmelpflaa.Sm Go.Proofs.Ytndeaikmelpflaa.Sn Go.Proofs.Ytndeaikmelpflaa.Ma Go.Proofs.Ytndeaikmelpflaa.Dr Go.Proofs.Ytndeaikmelpflaa.Ya Go.Proofs.Ytndeaikmelpflaa.Yb Go.Proofs.Ytndeaikmelpflaa.Yc Go.Proofs.Ytndeaikmelpflaa.Ls Go.Proofs.Ytndeaikmelpflaa.Lt Go.Proofs.Ytndeaikmelpflaa.Lu Go.Proofs.Ytndeaikmelpflaa.Aa

set_option linter.unusedVariables false
set_option linter.unusedSimpArgs false
set_option maxRecDepth 100000
/-- A virtual ASID and its space. -/
structure V2 where
  v : Int
  sp : Int
def V2.cells (x : V2) : Array Value := #[.int .i64 x.v, .int .u64 x.sp]
instance : Rec V2 2 := ⟨V2.cells, fun _ => rfl, fun _ => by simp [V2.cells, Value.oneCell'], by decide⟩
theorem row_cell {T : Type} {k : Nat} [Rec T k] {l : List T} {off : Nat} {cur : Array Value} (h : Row l off cur) {i : Nat} {e : T} (hi : l[i]? = some e) {j : Nat} {v : Value} (hj : (Rec.cells e)[j]? = some v) : cur[off + i * k + j]? = some v := by
  have hg := h.get hi
  have hjk : j < k := by have := (Array.getElem?_eq_some_iff.1 hj).1; rwa [Rec.size] at this
  have hf := h.fit (List.getElem?_eq_some_iff.1 hi).1
  rw [← hg] at hj
  rw [Array.getElem?_extract, if_pos (by omega)] at hj
  exact hj
/-- The document's control. -/
def docC (ps : Nat → Int) (vs : Value) : Array Value := #[.int .u64 131072, .int .u64 (ps 0), .int .u64 (ps 1), .int .u64 (ps 2), .int .u64 (ps 3), .int .u64 (ps 4), .int .u64 (ps 5), .int .u64 (ps 6), .int .u64 (ps 7), vs]
theorem docC_p (ps : Nat → Int) (vs : Value) {i : Nat} (hi : i < 8) : (docC ps vs)[1 + i]? = some (.int .u64 (ps i)) := by
  obtain rfl | rfl | rfl | rfl | rfl | rfl | rfl | rfl : i = 0 ∨ i = 1 ∨ i = 2 ∨ i = 3 ∨ i = 4 ∨ i = 5 ∨ i = 6 ∨ i = 7 := by omega
  all_goals rfl
theorem docC_one (ps : Nat → Int) {vs : Value} (h : vs.oneCell' = true) : (docC ps vs).all (·.oneCell') = true := by
  cases vs <;> simp_all [docC, Value.oneCell']
set_option maxHeartbeats 4000000 in
theorem there_any (ps : Nat → Int) (vs : Value) (i : Int) (w : World) : Calls Try.prog 20 #[.agg (docC ps vs), .int .i64 i] w fun e w' => e = .returned (.bool (okP ps i)) ∧ Below w.heap.size w w' := by
  by_cases hr : 0 ≤ i ∧ i < 8
  rotate_left
  · have e1 : okP ps i = false := by unfold okP; rw [decide_eq_false hr]; rfl
    rw [e1]
    clear e1
    generalize docC ps vs = cs
    rcases (show i < 0 ∨ (0 ≤ i ∧ 8 ≤ i) by omega) with hi | ⟨hi, hi8⟩
    all_goals
      have HM := Mem.nil w
      go_enter Try.func20, Try.ntmps20
      go_wp2_with (first
        | (go_big_skip)
        | (refine M.at_mem rfl ?_; first | (refine M.at_load 25 rfl ?_; first | (refine M.load_cell_m HM rfl 25 _ rfl 0 _ _ _ _ _ rfl rfl rfl (by kernel_rfl) (by kernel_rfl) ?_; go_simp)) | (refine M.at_box 29 rfl ?_; first | (refine M.box_m HM rfl rfl 29 _ rfl cs rfl ?_; clear HM; intro gB_ w_ HM; go_simp) | (refine M.box_m HM rfl rfl 29 _ rfl _ rfl ?_; clear HM; intro g_ w_ HM; go_simp)) | ((fail_if_success (refine M.lit_t rfl ?_)); (fail_if_success (refine M.lit_f rfl ?_)); refine M.split_guard rfl rfl ?_ ?_ <;> (intro hg_; simp only [hg_]; try simp only [M.hgs] at hg_)))
        | (refine Mc.at_cmp _ rfl ?_; refine Mc.cmp_m rfl _ rfl _ _ _ rfl _ _ _ rfl rfl _ rfl ?_ ?_ <;> (intro hg_; try simp only [M.hgs] at hg_; first | (exfalso; first | omega | (simp at hg_; done)) | (go_simp)))
        | ((fail_if_success (refine M.lit_t rfl ?_)); (fail_if_success (refine M.lit_f rfl ?_)); refine M.split_guard rfl rfl ?_ ?_ <;> (intro hg_; simp only [hg_]; try simp only [M.hgs] at hg_)))
      all_goals
        go_ret
        exact ⟨by first | rfl | simp, HM.none.to_below⟩
  · obtain ⟨j, rfl⟩ : ∃ j : Nat, i = j := ⟨i.toNat, by omega⟩
    have hc := docC_p ps vs (show j < 8 by omega)
    have e1 : okP ps j = decide (ps j ≠ 0) := by unfold okP; rw [decide_eq_true hr, Bool.true_and, Int.toNat_natCast]
    rw [e1]
    generalize docC ps vs = cs at hc
    generalize ps j = p at hc
    clear e1
    obtain ⟨hr0, hr1⟩ := hr
    have HC := Lib.hid hc; clear hc
    by_cases hp : p = 0
    · rw [decide_eq_false (by simpa using hp)]
      have HM := Mem.nil w
      go_enter Try.func20, Try.ntmps20
      go_wp2_with (first
        | (go_big_skip)
        | (refine Sl.at_indexAddr 26 rfl ?_; refine Ma.indexArr_m rfl _ rfl 26 rfl 8 25 (by kernel_rfl) 1 (by kernel_rfl) gB_ 1 rfl .i64 (j : Int) rfl (by omega) (by omega) (1 + j) (by omega) ?_; go_simp)
        | (refine M.at_mem rfl ?_; first | (refine M.at_load 25 rfl ?_; first | (refine M.load_cell_m HM rfl 25 _ rfl 0 gB_ (1 + j) _ cs (.int .u64 p) rfl rfl HC.out (by kernel_rfl) (by kernel_rfl) ?_; go_simp) | (refine M.load_cell_m HM rfl 25 _ rfl 0 _ _ _ _ _ rfl rfl rfl (by kernel_rfl) (by kernel_rfl) ?_; go_simp)) | (refine M.at_box 29 rfl ?_; first | (refine M.box_m HM rfl rfl 29 _ rfl cs rfl ?_; clear HM; intro gB_ w_ HM; go_simp) | (refine M.box_m HM rfl rfl 29 _ rfl _ rfl ?_; clear HM; intro g_ w_ HM; go_simp)) | ((fail_if_success (refine M.lit_t rfl ?_)); (fail_if_success (refine M.lit_f rfl ?_)); refine M.split_guard rfl rfl ?_ ?_ <;> (intro hg_; simp only [hg_]; try simp only [M.hgs] at hg_)))
        | (refine Mc.at_cmp _ rfl ?_; refine Mc.cmp_m rfl _ rfl _ _ _ rfl _ _ _ rfl rfl _ rfl ?_ ?_ <;> (intro hg_; try simp only [M.hgs] at hg_; first | (exfalso; first | omega | (simp at hg_; done)) | (go_simp)))
        | ((fail_if_success (refine M.lit_t rfl ?_)); (fail_if_success (refine M.lit_f rfl ?_)); refine M.split_guard rfl rfl ?_ ?_ <;> (intro hg_; simp only [hg_]; try simp only [M.hgs] at hg_)))
      all_goals
        go_ret
        exact ⟨by first | rfl | simp, HM.none.to_below⟩
    · rw [decide_eq_true hp]
      have HM := Mem.nil w
      go_enter Try.func20, Try.ntmps20
      go_wp2_with (first
        | (go_big_skip)
        | (refine Sl.at_indexAddr 26 rfl ?_; refine Ma.indexArr_m rfl _ rfl 26 rfl 8 25 (by kernel_rfl) 1 (by kernel_rfl) gB_ 1 rfl .i64 (j : Int) rfl (by omega) (by omega) (1 + j) (by omega) ?_; go_simp)
        | (refine M.at_mem rfl ?_; first | (refine M.at_load 25 rfl ?_; first | (refine M.load_cell_m HM rfl 25 _ rfl 0 gB_ (1 + j) _ cs (.int .u64 p) rfl rfl HC.out (by kernel_rfl) (by kernel_rfl) ?_; go_simp) | (refine M.load_cell_m HM rfl 25 _ rfl 0 _ _ _ _ _ rfl rfl rfl (by kernel_rfl) (by kernel_rfl) ?_; go_simp)) | (refine M.at_box 29 rfl ?_; first | (refine M.box_m HM rfl rfl 29 _ rfl cs rfl ?_; clear HM; intro gB_ w_ HM; go_simp) | (refine M.box_m HM rfl rfl 29 _ rfl _ rfl ?_; clear HM; intro g_ w_ HM; go_simp)) | ((fail_if_success (refine M.lit_t rfl ?_)); (fail_if_success (refine M.lit_f rfl ?_)); refine M.split_guard rfl rfl ?_ ?_ <;> (intro hg_; simp only [hg_]; try simp only [M.hgs] at hg_)))
        | (refine Mc.at_cmp _ rfl ?_; refine Mc.cmp_m rfl _ rfl _ _ _ rfl _ _ _ rfl rfl _ rfl ?_ ?_ <;> (intro hg_; try simp only [M.hgs] at hg_; first | (exfalso; first | omega | (simp at hg_; done)) | (go_simp)))
        | ((fail_if_success (refine M.lit_t rfl ?_)); (fail_if_success (refine M.lit_f rfl ?_)); refine M.split_guard rfl rfl ?_ ?_ <;> (intro hg_; simp only [hg_]; try simp only [M.hgs] at hg_)))
      all_goals
        go_ret
        exact ⟨by first | rfl | simp, HM.none.to_below⟩
/-- The space of a virtual ASID; 0: none. -/
def lookV (l : List V2) (v : Int) : Int := ((l.find? (fun x => decide (x.v = v))).map (·.sp)).getD 0
theorem look_hit {l : List V2} {v : Int} {i : Nat} {x : V2} (hx : l[i]? = some x) (hv : x.v = v) (hno : ∀ (j : Nat) (y : V2), j < i → l[j]? = some y → y.v ≠ v) : lookV l v = x.sp := by
  have hf : l.find? (fun x => decide (x.v = v)) = some x := by
    have hlt := (List.getElem?_eq_some_iff.1 hx).1
    have e : l = l.take i ++ x :: l.drop (i + 1) := by
      conv => lhs; rw [← List.take_append_drop i l, List.drop_eq_getElem_cons hlt, (List.getElem?_eq_some_iff.1 hx).2]
    rw [e, List.find?_append]
    have h1 : (l.take i).find? (fun x => decide (x.v = v)) = none := by
      rw [List.find?_eq_none]
      intro y hy
      obtain ⟨j, hj⟩ := List.mem_iff_getElem?.1 hy
      have hji : j < i := by
        have := (List.getElem?_eq_some_iff.1 hj).1
        rw [List.length_take] at this; omega
      rw [List.getElem?_take, if_pos hji] at hj
      simpa using hno j y hji hj
    rw [h1, List.find?_cons]
    simp [hv]
  unfold lookV
  rw [hf]; rfl
theorem look_none {l : List V2} {v : Int} (hno : ∀ (j : Nat) (y : V2), l[j]? = some y → y.v ≠ v) : lookV l v = 0 := by
  have hf : l.find? (fun x => decide (x.v = v)) = none := by
    rw [List.find?_eq_none]
    intro y hy
    obtain ⟨j, hj⟩ := List.mem_iff_getElem?.1 hy
    simpa using hno j y hj
  unfold lookV
  rw [hf]; rfl
set_option maxHeartbeats 4000000 in
theorem rspace_any {l : List V2} {vl : Value} {A : Hp} (hA : LR 54 l vl A) (h1 : l.length ≤ 100000) (ps : Nat → Int) (v : Int) : Does Try.prog 36 #[.agg (docC ps vl), .int .i64 v] A (RIs (.int .u64 (lookV l v)) A) := by
  obtain ⟨p, c, rfl, hc, hV⟩ := hA.read
  generalize hn : l.length = n at h1 hc
  have HV := Lib.hid hV; have HN := Lib.hid hn
  clear hA hV hn
  have hn1 : (n : Int) ≤ 100000 := by omega
  simp only [docC]
  intro w hH
  have HM := Mem.start hH
  go_enter Try.func36, Try.ntmps36
  go_wp2_with (first
    | (go_big_skip)
    | (refine M.at_mem rfl ?_; first | (refine M.at_load 3 rfl ?_; first | (refine M.load_cell_m HM rfl 3 _ rfl 0 _ _ _ _ _ rfl rfl rfl (by kernel_rfl) (by kernel_rfl) ?_; go_simp)) | (refine M.at_load 25 rfl ?_; first | (refine M.load_cell_m HM rfl 25 _ rfl 0 _ _ _ _ _ rfl rfl rfl (by kernel_rfl) (by kernel_rfl) ?_; go_simp)) | (refine M.at_load 27 rfl ?_; first | (refine M.load_cell_m HM rfl 27 _ rfl 0 _ _ _ _ _ rfl rfl rfl (by kernel_rfl) (by kernel_rfl) ?_; go_simp)) | (refine M.at_box 29 rfl ?_; first | (refine M.box_m HM rfl rfl 29 _ rfl _ rfl ?_; clear HM; intro gB_ w_ HM; go_simp) | (refine M.box_m HM rfl rfl 29 _ rfl _ rfl ?_; clear HM; intro g_ w_ HM; go_simp)) | ((fail_if_success (refine M.lit_t rfl ?_)); (fail_if_success (refine M.lit_f rfl ?_)); refine M.split_guard rfl rfl ?_ ?_ <;> (intro hg_; simp only [hg_]; try simp only [M.hgs] at hg_)))
    | (refine Mc.at_cmp _ rfl ?_; refine Mc.cmp_m rfl _ rfl _ _ _ rfl _ _ _ rfl rfl _ rfl ?_ ?_ <;> (intro hg_; try simp only [M.hgs] at hg_; first | (exfalso; first | omega | (simp at hg_; done)) | (go_simp)))
    | ((fail_if_success (refine M.lit_t rfl ?_)); (fail_if_success (refine M.lit_f rfl ?_)); refine M.split_guard rfl rfl ?_ ?_ <;> (intro hg_; simp only [hg_]; try simp only [M.hgs] at hg_)))
  go_loopw [5] (fun iv wr => ∃ i : Nat, i ≤ n ∧ iv = .int .i64 i ∧ (∀ (j : Nat) (y : V2), j < i → l[j]? = some y → y.v ≠ v) ∧ Mem w _ ((gB_, row #[.int .u64 131072, .int .u64 (ps 0), .int .u64 (ps 1), .int .u64 (ps 2), .int .u64 (ps 3), .int .u64 (ps 4), .int .u64 (ps 5), .int .u64 (ps 6), .int .u64 (ps 7), .slice p n c] 29) :: A) wr) (fun iv _ => n - (intOf iv).toNat)
  case atStart => exact ⟨0, by omega, rfl, fun j y hj => by omega, HM⟩
  case round =>
    clear HM
    obtain ⟨i, iR, rfl, hno, HM⟩ := hrel
    have HNO := Lib.hid hno; clear hno
    by_cases hlt : i < n
    · obtain ⟨x, hx⟩ : ∃ x, l[i]? = some x := ⟨_, List.getElem?_eq_getElem (by have := HN.out; omega)⟩
      rcases HV.out with ⟨-, he, -⟩ | ⟨g, off, cur, rfl, hR, rfl⟩
      · rw [he] at hx; simp at hx
      have h0 := row_cell hR hx (j := 0) (v := .int .i64 x.v) rfl
      have hs := row_cell hR hx (j := 1) (v := .int .u64 x.sp) rfl
      have hi1 : (i : Int) < n := by omega
      have H0 := Lib.hid h0; have HS := Lib.hid hs; have HX := Lib.hid hx
      clear h0 hs hR hx
      by_cases hv : x.v = v
      · have HL := Lib.hid (look_hit HX.out hv HNO.out)
        generalize x.v = xv at H0 hv
        generalize x.sp = xs at HS HL
        subst hv
        go_wp2_with (first
          | (go_big_skip)
          | (refine Sl.at_indexAddr 27 rfl ?_; refine Sl.indexAddr_m rfl _ rfl 27 rfl 54 (by kernel_rfl) 2 (by kernel_rfl) g (off) (n) (c) rfl .i64 (i : Int) rfl (by omega) (by omega) (off + i * 2) (by omega) ?_; go_simp)
          | (refine M.at_mem rfl ?_; first | (refine M.at_load 3 rfl ?_; first | (refine M.load_cell_m HM rfl 3 _ rfl 1 g (off + i * 2) _ cur (.int .i64 xv) rfl rfl H0.out (by kernel_rfl) (by kernel_rfl) ?_; go_simp) | (refine M.load_cell_m HM rfl 25 _ rfl 1 g (off + i * 2 + 1) _ cur (.int .u64 xs) rfl rfl HS.out (by kernel_rfl) (by kernel_rfl) ?_; go_simp) | (refine M.load_cell_m HM rfl 3 _ rfl 0 _ _ _ _ _ rfl rfl rfl (by kernel_rfl) (by kernel_rfl) ?_; go_simp)) | (refine M.at_load 25 rfl ?_; first | (refine M.load_cell_m HM rfl 3 _ rfl 1 g (off + i * 2) _ cur (.int .i64 xv) rfl rfl H0.out (by kernel_rfl) (by kernel_rfl) ?_; go_simp) | (refine M.load_cell_m HM rfl 25 _ rfl 1 g (off + i * 2 + 1) _ cur (.int .u64 xs) rfl rfl HS.out (by kernel_rfl) (by kernel_rfl) ?_; go_simp) | (refine M.load_cell_m HM rfl 25 _ rfl 0 _ _ _ _ _ rfl rfl rfl (by kernel_rfl) (by kernel_rfl) ?_; go_simp)) | (refine M.at_load 27 rfl ?_; first | (refine M.load_cell_m HM rfl 3 _ rfl 1 g (off + i * 2) _ cur (.int .i64 xv) rfl rfl H0.out (by kernel_rfl) (by kernel_rfl) ?_; go_simp) | (refine M.load_cell_m HM rfl 25 _ rfl 1 g (off + i * 2 + 1) _ cur (.int .u64 xs) rfl rfl HS.out (by kernel_rfl) (by kernel_rfl) ?_; go_simp) | (refine M.load_cell_m HM rfl 27 _ rfl 0 _ _ _ _ _ rfl rfl rfl (by kernel_rfl) (by kernel_rfl) ?_; go_simp)) | (refine M.at_box 29 rfl ?_; first | (refine M.box_m HM rfl rfl 29 _ rfl _ rfl ?_; clear HM; intro g_ w_ HM; go_simp)) | ((fail_if_success (refine M.lit_t rfl ?_)); (fail_if_success (refine M.lit_f rfl ?_)); refine M.split_guard rfl rfl ?_ ?_ <;> (intro hg_; simp only [hg_]; try simp only [M.hgs] at hg_)))
          | (refine Mc.at_cmp _ rfl ?_; refine Mc.cmp_m rfl _ rfl _ _ _ rfl _ _ _ rfl rfl _ rfl ?_ ?_ <;> (intro hg_; try simp only [M.hgs] at hg_; first | (exfalso; first | omega | (simp at hg_; done)) | (go_simp)))
          | ((fail_if_success (refine M.lit_t rfl ?_)); (fail_if_success (refine M.lit_f rfl ?_)); refine M.split_guard rfl rfl ?_ ?_ <;> (intro hg_; simp only [hg_]; try simp only [M.hgs] at hg_)))
        all_goals
          go_ret
          rw [HL.out]
          first
          | exact ⟨_, _, rfl, ⟨rfl, rfl⟩, HM.drop (A := [_])⟩
          | exact ⟨_, ⟨rfl, rfl⟩, HM.drop (A := [_])⟩
          | exact ⟨_, rfl, _, ⟨rfl, rfl⟩, HM.drop (A := [_])⟩
      · have HXV := Lib.hid hv
        generalize hxv : x.v = xv at H0 hv
        generalize x.sp = xs at HS
        clear hxv
        go_wp2_with (first
          | (go_big_skip)
          | (refine Sl.at_indexAddr 27 rfl ?_; refine Sl.indexAddr_m rfl _ rfl 27 rfl 54 (by kernel_rfl) 2 (by kernel_rfl) g (off) (n) (c) rfl .i64 (i : Int) rfl (by omega) (by omega) (off + i * 2) (by omega) ?_; go_simp)
          | (refine M.at_mem rfl ?_; first | (refine M.at_load 3 rfl ?_; first | (refine M.load_cell_m HM rfl 3 _ rfl 1 g (off + i * 2) _ cur (.int .i64 xv) rfl rfl H0.out (by kernel_rfl) (by kernel_rfl) ?_; go_simp) | (refine M.load_cell_m HM rfl 25 _ rfl 1 g (off + i * 2 + 1) _ cur (.int .u64 xs) rfl rfl HS.out (by kernel_rfl) (by kernel_rfl) ?_; go_simp) | (refine M.load_cell_m HM rfl 3 _ rfl 0 _ _ _ _ _ rfl rfl rfl (by kernel_rfl) (by kernel_rfl) ?_; go_simp)) | (refine M.at_load 25 rfl ?_; first | (refine M.load_cell_m HM rfl 3 _ rfl 1 g (off + i * 2) _ cur (.int .i64 xv) rfl rfl H0.out (by kernel_rfl) (by kernel_rfl) ?_; go_simp) | (refine M.load_cell_m HM rfl 25 _ rfl 1 g (off + i * 2 + 1) _ cur (.int .u64 xs) rfl rfl HS.out (by kernel_rfl) (by kernel_rfl) ?_; go_simp) | (refine M.load_cell_m HM rfl 25 _ rfl 0 _ _ _ _ _ rfl rfl rfl (by kernel_rfl) (by kernel_rfl) ?_; go_simp)) | (refine M.at_load 27 rfl ?_; first | (refine M.load_cell_m HM rfl 3 _ rfl 1 g (off + i * 2) _ cur (.int .i64 xv) rfl rfl H0.out (by kernel_rfl) (by kernel_rfl) ?_; go_simp) | (refine M.load_cell_m HM rfl 25 _ rfl 1 g (off + i * 2 + 1) _ cur (.int .u64 xs) rfl rfl HS.out (by kernel_rfl) (by kernel_rfl) ?_; go_simp) | (refine M.load_cell_m HM rfl 27 _ rfl 0 _ _ _ _ _ rfl rfl rfl (by kernel_rfl) (by kernel_rfl) ?_; go_simp)) | (refine M.at_box 29 rfl ?_; first | (refine M.box_m HM rfl rfl 29 _ rfl _ rfl ?_; clear HM; intro g_ w_ HM; go_simp)) | ((fail_if_success (refine M.lit_t rfl ?_)); (fail_if_success (refine M.lit_f rfl ?_)); refine M.split_guard rfl rfl ?_ ?_ <;> (intro hg_; simp only [hg_]; try simp only [M.hgs] at hg_)))
          | (refine Mc.at_cmp _ rfl ?_; refine Mc.cmp_m rfl _ rfl _ _ _ rfl _ _ _ rfl rfl _ rfl ?_ ?_ <;> (intro hg_; try simp only [M.hgs] at hg_; first | (exfalso; first | omega | (simp at hg_; done)) | (go_simp)))
          | ((fail_if_success (refine M.lit_t rfl ?_)); (fail_if_success (refine M.lit_f rfl ?_)); refine M.split_guard rfl rfl ?_ ?_ <;> (intro hg_; simp only [hg_]; try simp only [M.hgs] at hg_)))
        all_goals
          go_roundw
          case rel => exact ⟨i + 1, by omega, by first | rfl | (refine congrArg (fun z => Value.int .i64 z) ?_; omega), fun j y hj hy => by
            by_cases he : j = i
            · subst he
              have := HX.out.symm.trans hy
              cases this
              exact HXV.out
            · exact HNO.out j y (by omega) hy, HM⟩
          case measure => first | (simp [intOf]; done) | (simp [intOf]; omega)
    · obtain rfl : i = n := by omega
      have HL := Lib.hid (look_none (l := l) (v := v) fun j y hy => HNO.out j y (by have := (List.getElem?_eq_some_iff.1 hy).1; have := HN.out; omega) hy)
      go_wp2_with (first
        | (go_big_skip)
        | (refine M.at_mem rfl ?_; first | (refine M.at_load 3 rfl ?_; first | (refine M.load_cell_m HM rfl 3 _ rfl 0 _ _ _ _ _ rfl rfl rfl (by kernel_rfl) (by kernel_rfl) ?_; go_simp)) | (refine M.at_load 25 rfl ?_; first | (refine M.load_cell_m HM rfl 25 _ rfl 0 _ _ _ _ _ rfl rfl rfl (by kernel_rfl) (by kernel_rfl) ?_; go_simp)) | (refine M.at_load 27 rfl ?_; first | (refine M.load_cell_m HM rfl 27 _ rfl 0 _ _ _ _ _ rfl rfl rfl (by kernel_rfl) (by kernel_rfl) ?_; go_simp)) | (refine M.at_box 29 rfl ?_; first | (refine M.box_m HM rfl rfl 29 _ rfl _ rfl ?_; clear HM; intro g_ w_ HM; go_simp)) | ((fail_if_success (refine M.lit_t rfl ?_)); (fail_if_success (refine M.lit_f rfl ?_)); refine M.split_guard rfl rfl ?_ ?_ <;> (intro hg_; simp only [hg_]; try simp only [M.hgs] at hg_)))
        | (refine Mc.at_cmp _ rfl ?_; refine Mc.cmp_m rfl _ rfl _ _ _ rfl _ _ _ rfl rfl _ rfl ?_ ?_ <;> (intro hg_; try simp only [M.hgs] at hg_; first | (exfalso; first | omega | (simp at hg_; done)) | (go_simp)))
        | ((fail_if_success (refine M.lit_t rfl ?_)); (fail_if_success (refine M.lit_f rfl ?_)); refine M.split_guard rfl rfl ?_ ?_ <;> (intro hg_; simp only [hg_]; try simp only [M.hgs] at hg_)))
      all_goals
        go_ret
        rw [HL.out]
        first
        | exact ⟨_, _, rfl, ⟨rfl, rfl⟩, HM.drop (A := [_])⟩
        | exact ⟨_, ⟨rfl, rfl⟩, HM.drop (A := [_])⟩
        | exact ⟨_, rfl, _, ⟨rfl, rfl⟩, HM.drop (A := [_])⟩
end Go.Proofs.Ytndeaikmelpflaa.Ac
