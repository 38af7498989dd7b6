/- The document's control of virtual ASIDs: Assign. -/
import Derived.Test.YtndeaikmelpflaaProg
import Derived.Test.YtndeaikmelpflaaAe
namespace Go.Proofs.Ytndeaikmelpflaa.Af
open Go.RowKit Go.Proofs.Ytndeaikmelpflaa.G Go.Proofs.Ytndeaikmelpflaa.B Go.Proofs.Ytndeaikmelpflaa.M Go.Proofs.Ytndeaikmelpflaa.Mv Go.Proofs.Ytndeaikmelpflaa.Sl Go.Proofs.Ytndeaikmelpflaa.Sm Go.Proofs.Ytndeaikmelpflaa.Sn Go.Proofs.Ytndeaikmelpflaa.Ma Go.Proofs.Ytndeaikmelpflaa.Dr Go.Proofs.Ytndeaikmelpflaa.Ya Go.Proofs.Ytndeaikmelpflaa.Yb Go.Proofs.Ytndeaikmelpflaa.Yc Go.Proofs.Ytndeaikmelpflaa.Ls Go.Proofs.Ytndeaikmelpflaa.Lt Go.Proofs.Ytndeaikmelpflaa.Lu Go.Proofs.Ytndeaikmelpflaa.Aa Go.Proofs.Ytndeaikmelpflaa.Ab Go.Proofs.Ytndeaikmelpflaa.Ac Go.Proofs.Ytndeaikmelpflaa.Ad Go.Proofs.Ytndeaikmelpflaa.Ae

set_option linter.unusedVariables false
set_option linter.unusedSimpArgs false
set_option maxRecDepth 100000
/-- Free by the document's list. -/
def rfree (l : List V2) (v : Int) : Prop := v ≠ 0 ∧ lookV l v = 0
/-- One more, in its place. -/
def insV (l : List V2) (x : V2) : List V2 := l.takeWhile (fun y => decide (y.v < x.v)) ++ x :: l.dropWhile (fun y => decide (y.v < x.v))
theorem ins_at {l : List V2} {x : V2} {k : Nat} (hk : k ≤ l.length) (h1 : ∀ (j : Nat) (y : V2), j < k → l[j]? = some y → y.v < x.v) (h2 : ∀ y, l[k]? = some y → ¬ y.v < x.v) : insV l x = l.take k ++ x :: l.drop k := by
  induction l generalizing k with
  | nil => simp at hk; subst hk; rfl
  | cons a l ih =>
    cases k with
    | zero =>
      have := h2 a rfl
      simp [insV, this]
    | succ k =>
      have ha := h1 0 a (by omega) rfl
      have := ih (k := k) (by simpa using hk) (fun j y hj hy => h1 (j + 1) y (by omega) (by simpa using hy)) (fun y hy => h2 y (by simpa using hy))
      unfold insV at this ⊢
      simp only [List.takeWhile_cons, List.dropWhile_cons, decide_eq_true ha, if_true, List.take_succ_cons, List.drop_succ_cons, List.cons_append, this]
def RAsg (l : List V2) (ps : Nat → Int) (vl : Value) (A : Hp) (pool space : Int) (r : Value) (L : Hp) : Prop :=
  (okP ps pool = false ∧ r = rT ps vl 0 14 ∧ L = A) ∨
  (okP ps pool = true ∧ badS space ∧ r = rT ps vl 0 10 ∧ L = A) ∨
  (okP ps pool = true ∧ ¬ badS space ∧ (∀ j : Nat, j < 512 → ¬ rfree l (512 * pool + j)) ∧ r = rT ps vl 0 15 ∧ L = A) ∨
  (okP ps pool = true ∧ ¬ badS space ∧ ∃ i : Nat, i < 512 ∧ rfree l (512 * pool + i) ∧ (∀ j : Nat, j < i → ¬ rfree l (512 * pool + j)) ∧ ∃ vl', LR 54 (insV l ⟨512 * pool + i, space⟩) vl' L ∧ r = rT ps vl' (512 * pool + i) 0)
theorem lv_nil {l : List V2} {p : Option Addr} {A : Hp} (h : LV 54 l p A) : p = none → l = [] := by
  intro e; subst e
  rcases h with ⟨-, h, -⟩ | ⟨g, off, cur, h, -, -⟩
  · exact h
  · cases h
set_option maxHeartbeats 16000000 in
theorem rassign_any {l : List V2} {vl : Value} {A : Hp} (hA : LR 54 l vl A) (h1 : l.length ≤ 100000) (ps : Nat → Int) (pool space : Int) (c0 : 0 ≤ space) (c1 : space < 18446744073709551616) : Does Try.prog 34 #[.agg (docC ps vl), .int .i64 pool, .int .u64 space] A (RAsg l ps vl A pool space) := by
  have HVL := Lib.hid hA.one
  have CT := fun w => there_any ps vl pool w
  have hmod : space.tmod 4096 = space % 4096 := Int.tmod_eq_emod_of_nonneg (by omega)
  by_cases ho : okP ps pool = true
  rotate_left
  · have ho : okP ps pool = false := by simpa using ho
    have HOK := Lib.hid ho
    rw [ho] at CT
    simp only [docC] at CT
    clear hmod
    intro w hH
    have HM := Mem.start hH
    go_enter Try.func34, Try.ntmps34
    simp only [docC]
    go_wp2_with (first
      | (go_big_skip)
      | (go_at_call 20; (with_reducible refine (M.call_pure (CT) HM).mono ?_); clear HM; rintro e w_ ⟨rfl, HM⟩; dsimp only)
      | (refine M.at_mem rfl ?_; first | (refine M.at_load 3 rfl ?_; first | (refine M.load_cell_m HM rfl 3 _ rfl 0 _ _ _ _ _ rfl rfl rfl (by kernel_rfl) (by kernel_rfl) ?_; go_simp) | (refine M.load_cell_m HM rfl 3 _ rfl 1 _ _ _ _ _ rfl rfl rfl (by kernel_rfl) (by kernel_rfl) ?_; go_simp)) | (refine M.at_load 27 rfl ?_; first | (refine M.load_cell_m HM rfl 27 _ rfl 0 _ _ _ _ _ rfl rfl rfl (by kernel_rfl) (by kernel_rfl) ?_; go_simp) | (refine M.load_cell_m HM rfl 27 _ rfl 1 _ _ _ _ _ rfl rfl rfl (by kernel_rfl) (by kernel_rfl) ?_; go_simp)) | (refine M.at_load 29 rfl ?_; first | (refine M.load_row_m HM rfl 29 _ rfl 0 _ _ _ rfl rfl (by kernel_rfl) (by kernel_rfl) ?_; go_simp) | (refine M.load_row_m HM rfl 29 _ rfl 1 _ _ _ rfl rfl (by kernel_rfl) (by kernel_rfl) ?_; go_simp)) | (refine M.at_store 27 rfl ?_; first | (refine M.store_row_m HM rfl 29 _ _ rfl 0 _ _ _ _ rfl rfl rfl (by kernel_rfl) rfl (docC_one _ HVL.out) ?_; clear HM; intro w_ HM; (try simp only [M.nrm] at HM); go_simp) | (refine M.store_cell_m HM rfl 27 _ _ rfl 0 _ _ _ _ _ rfl rfl rfl (by kernel_rfl) rfl (by simp) ?_; clear HM; intro w_ HM; (try simp only [M.nrm] at HM); go_simp) | (refine M.store_cell_m HM rfl 27 _ _ rfl 1 _ _ _ _ _ rfl rfl rfl (by kernel_rfl) rfl (by simp) ?_; clear HM; intro w_ HM; (try simp only [M.nrm] at HM); go_simp)) | (refine M.at_store 29 rfl ?_; first | (refine M.store_row_m HM rfl 29 _ _ rfl 0 _ _ _ _ rfl rfl rfl (by kernel_rfl) rfl (docC_one _ HVL.out) ?_; clear HM; intro w_ HM; (try simp only [M.nrm] at HM); go_simp) | (refine M.store_row_m HM rfl 29 _ _ rfl 0 _ _ _ _ rfl rfl rfl (by kernel_rfl) rfl (by simp [Value.oneCell']) ?_; clear HM; intro w_ HM; (try simp only [M.nrm] at HM); go_simp) | (refine M.store_row_m HM rfl 29 _ _ rfl 1 _ _ _ _ rfl rfl rfl (by kernel_rfl) rfl (by simp [Value.oneCell']) ?_; clear HM; intro w_ HM; (try simp only [M.nrm] at HM); go_simp)) | (refine M.at_alloc 29 rfl ?_; first | (refine M.box_m HM rfl rfl 29 _ rfl _ rfl ?_; clear HM; intro g3_ w_ HM; go_simp) | (refine M.alloc_m HM rfl rfl 29 rfl (.agg #[.int .u64 0, .int .u64 0, .int .u64 0, .int .u64 0, .int .u64 0, .int .u64 0, .int .u64 0, .int .u64 0, .int .u64 0, .slice none 0 0]) (by kernel_rfl) #[.int .u64 0, .int .u64 0, .int .u64 0, .int .u64 0, .int .u64 0, .int .u64 0, .int .u64 0, .int .u64 0, .int .u64 0, .slice none 0 0] rfl ?_; clear HM; intro g6_ w_ HM; go_simp) | (refine M.alloc_m HM rfl rfl 29 rfl (.agg #[(.int .u64 0), (.int .u64 0), (.int .u64 0), (.int .u64 0), (.int .u64 0), (.int .u64 0), (.int .u64 0), (.int .u64 0), (.int .u64 0), (.slice none 0 0)]) (by kernel_rfl) #[(.int .u64 0), (.int .u64 0), (.int .u64 0), (.int .u64 0), (.int .u64 0), (.int .u64 0), (.int .u64 0), (.int .u64 0), (.int .u64 0), (.slice none 0 0)] rfl ?_; clear HM; intro g_ w_ HM; go_simp)) | (refine M.at_box 29 rfl ?_; first | (refine M.box_m HM rfl rfl 29 _ rfl _ rfl ?_; clear HM; intro g3_ w_ HM; go_simp) | (refine M.alloc_m HM rfl rfl 29 rfl (.agg #[.int .u64 0, .int .u64 0, .int .u64 0, .int .u64 0, .int .u64 0, .int .u64 0, .int .u64 0, .int .u64 0, .int .u64 0, .slice none 0 0]) (by kernel_rfl) #[.int .u64 0, .int .u64 0, .int .u64 0, .int .u64 0, .int .u64 0, .int .u64 0, .int .u64 0, .int .u64 0, .int .u64 0, .slice none 0 0] rfl ?_; clear HM; intro g6_ w_ HM; go_simp) | (refine M.box_m HM rfl rfl 29 _ rfl _ rfl ?_; clear HM; intro g_ w_ HM; go_simp)) | ((fail_if_success (refine M.lit_t rfl ?_)); (fail_if_success (refine M.lit_f rfl ?_)); refine M.split_guard rfl rfl ?_ ?_ <;> (intro hg_; simp only [hg_]; try simp only [M.hgs] at hg_)))
      | (refine Mc.at_cmp _ rfl ?_; refine Mc.cmp_m rfl _ rfl _ _ _ rfl _ _ _ rfl rfl _ rfl ?_ ?_ <;> (intro hg_; try simp only [M.hgs] at hg_; first | (exfalso; first | omega | (simp at hg_; done)) | (go_simp)))
      | ((fail_if_success (refine M.lit_t rfl ?_)); (fail_if_success (refine M.lit_f rfl ?_)); refine M.split_guard rfl rfl ?_ ?_ <;> (intro hg_; simp only [hg_]; try simp only [M.hgs] at hg_)))
    all_goals
      refine bodyPost_ret (res_ctt HM rfl _ 0 _ _ _ rfl rfl (by kernel_rfl) (by kernel_rfl)) rfl ?_
      exact ⟨_, _, rfl, .inl ⟨HOK.out, rfl, rfl⟩, HM.drop (A := [_, _])⟩
  obtain ⟨hp0, hp8⟩ : 0 ≤ pool ∧ pool < 8 := by
    unfold okP at ho
    simp only [Bool.and_eq_true, decide_eq_true_eq] at ho
    exact ho.1
  have HOK := Lib.hid ho
  rw [ho] at CT
  simp only [docC] at CT
  clear ho
  by_cases hb : badS space
  · have HB := Lib.hid hb
    rcases (show space = 0 ∨ (space ≠ 0 ∧ space % 4096 ≠ 0) ∨ (space ≠ 0 ∧ space % 4096 = 0 ∧ 281474976710656 ≤ space) by rcases hb with h | h | h <;> omega) with rfl | ⟨hs, ha⟩ | ⟨hs, ha, hg⟩
    all_goals
      clear hb
      intro w hH
      have HM := Mem.start hH
      go_enter Try.func34, Try.ntmps34
      simp only [docC]
      go_wp2_with (first
        | (go_big_skip)
        | (go_at_call 20; (with_reducible refine (M.call_pure (CT) HM).mono ?_); clear HM; rintro e w_ ⟨rfl, HM⟩; dsimp only)
        | (refine M.at_mem rfl ?_; first | (refine M.at_load 3 rfl ?_; first | (refine M.load_cell_m HM rfl 3 _ rfl 0 _ _ _ _ _ rfl rfl rfl (by kernel_rfl) (by kernel_rfl) ?_; go_simp) | (refine M.load_cell_m HM rfl 3 _ rfl 1 _ _ _ _ _ rfl rfl rfl (by kernel_rfl) (by kernel_rfl) ?_; go_simp)) | (refine M.at_load 27 rfl ?_; first | (refine M.load_cell_m HM rfl 27 _ rfl 0 _ _ _ _ _ rfl rfl rfl (by kernel_rfl) (by kernel_rfl) ?_; go_simp) | (refine M.load_cell_m HM rfl 27 _ rfl 1 _ _ _ _ _ rfl rfl rfl (by kernel_rfl) (by kernel_rfl) ?_; go_simp)) | (refine M.at_load 29 rfl ?_; first | (refine M.load_row_m HM rfl 29 _ rfl 0 _ _ _ rfl rfl (by kernel_rfl) (by kernel_rfl) ?_; go_simp) | (refine M.load_row_m HM rfl 29 _ rfl 1 _ _ _ rfl rfl (by kernel_rfl) (by kernel_rfl) ?_; go_simp)) | (refine M.at_store 27 rfl ?_; first | (refine M.store_row_m HM rfl 29 _ _ rfl 0 _ _ _ _ rfl rfl rfl (by kernel_rfl) rfl (docC_one _ HVL.out) ?_; clear HM; intro w_ HM; (try simp only [M.nrm] at HM); go_simp) | (refine M.store_cell_m HM rfl 27 _ _ rfl 0 _ _ _ _ _ rfl rfl rfl (by kernel_rfl) rfl (by simp) ?_; clear HM; intro w_ HM; (try simp only [M.nrm] at HM); go_simp) | (refine M.store_cell_m HM rfl 27 _ _ rfl 1 _ _ _ _ _ rfl rfl rfl (by kernel_rfl) rfl (by simp) ?_; clear HM; intro w_ HM; (try simp only [M.nrm] at HM); go_simp)) | (refine M.at_store 29 rfl ?_; first | (refine M.store_row_m HM rfl 29 _ _ rfl 0 _ _ _ _ rfl rfl rfl (by kernel_rfl) rfl (docC_one _ HVL.out) ?_; clear HM; intro w_ HM; (try simp only [M.nrm] at HM); go_simp) | (refine M.store_row_m HM rfl 29 _ _ rfl 0 _ _ _ _ rfl rfl rfl (by kernel_rfl) rfl (by simp [Value.oneCell']) ?_; clear HM; intro w_ HM; (try simp only [M.nrm] at HM); go_simp) | (refine M.store_row_m HM rfl 29 _ _ rfl 1 _ _ _ _ rfl rfl rfl (by kernel_rfl) rfl (by simp [Value.oneCell']) ?_; clear HM; intro w_ HM; (try simp only [M.nrm] at HM); go_simp)) | (refine M.at_alloc 29 rfl ?_; first | (refine M.box_m HM rfl rfl 29 _ rfl _ rfl ?_; clear HM; intro g3_ w_ HM; go_simp) | (refine M.alloc_m HM rfl rfl 29 rfl (.agg #[.int .u64 0, .int .u64 0, .int .u64 0, .int .u64 0, .int .u64 0, .int .u64 0, .int .u64 0, .int .u64 0, .int .u64 0, .slice none 0 0]) (by kernel_rfl) #[.int .u64 0, .int .u64 0, .int .u64 0, .int .u64 0, .int .u64 0, .int .u64 0, .int .u64 0, .int .u64 0, .int .u64 0, .slice none 0 0] rfl ?_; clear HM; intro g6_ w_ HM; go_simp) | (refine M.alloc_m HM rfl rfl 29 rfl (.agg #[(.int .u64 0), (.int .u64 0), (.int .u64 0), (.int .u64 0), (.int .u64 0), (.int .u64 0), (.int .u64 0), (.int .u64 0), (.int .u64 0), (.slice none 0 0)]) (by kernel_rfl) #[(.int .u64 0), (.int .u64 0), (.int .u64 0), (.int .u64 0), (.int .u64 0), (.int .u64 0), (.int .u64 0), (.int .u64 0), (.int .u64 0), (.slice none 0 0)] rfl ?_; clear HM; intro g_ w_ HM; go_simp)) | (refine M.at_box 29 rfl ?_; first | (refine M.box_m HM rfl rfl 29 _ rfl _ rfl ?_; clear HM; intro g3_ w_ HM; go_simp) | (refine M.alloc_m HM rfl rfl 29 rfl (.agg #[.int .u64 0, .int .u64 0, .int .u64 0, .int .u64 0, .int .u64 0, .int .u64 0, .int .u64 0, .int .u64 0, .int .u64 0, .slice none 0 0]) (by kernel_rfl) #[.int .u64 0, .int .u64 0, .int .u64 0, .int .u64 0, .int .u64 0, .int .u64 0, .int .u64 0, .int .u64 0, .int .u64 0, .slice none 0 0] rfl ?_; clear HM; intro g6_ w_ HM; go_simp) | (refine M.box_m HM rfl rfl 29 _ rfl _ rfl ?_; clear HM; intro g_ w_ HM; go_simp)) | ((fail_if_success (refine M.lit_t rfl ?_)); (fail_if_success (refine M.lit_f rfl ?_)); refine M.split_guard rfl rfl ?_ ?_ <;> (intro hg_; simp only [hg_]; try simp only [M.hgs] at hg_)))
        | (refine Mc.at_cmp _ rfl ?_; refine Mc.cmp_m rfl _ rfl _ _ _ rfl _ _ _ rfl rfl _ rfl ?_ ?_ <;> (intro hg_; try simp only [M.hgs] at hg_; first | (exfalso; first | omega | (simp at hg_; done)) | (go_simp)))
        | ((fail_if_success (refine M.lit_t rfl ?_)); (fail_if_success (refine M.lit_f rfl ?_)); refine M.split_guard rfl rfl ?_ ?_ <;> (intro hg_; simp only [hg_]; try simp only [M.hgs] at hg_)))
      all_goals
        refine bodyPost_ret (res_ctt HM rfl _ 0 _ _ _ rfl rfl (by kernel_rfl) (by kernel_rfl)) rfl ?_
        exact ⟨_, _, rfl, .inr (.inl ⟨HOK.out, HB.out, rfl, rfl⟩), HM.drop (A := [_, _])⟩
  have HB := Lib.hid hb
  have hs0 : ¬ space = 0 := fun e => hb (.inl e)
  have hsa : space % 4096 = 0 := by
    by_cases e : space % 4096 = 0
    · exact e
    · exact absurd (.inr (.inl e)) hb
  have hsg : space < 281474976710656 := by
    by_cases e : space < 281474976710656
    · exact e
    · exact absurd (.inr (.inr (by omega))) hb
  clear hb
  have CSH := Lib.hid (fun (v : Int) => rspace_any hA h1 ps v)
  obtain ⟨p, c, rfl, hc, hV⟩ := hA.read
  generalize hn : l.length = n at h1 hc CSH CT HVL
  have HV := Lib.hid hV; have HN := Lib.hid hn
  clear hA hV hn
  have hn1 : (n : Int) ≤ 100000 := by omega
  intro w hH
  have HM := Mem.start hH
  go_enter Try.func34, Try.ntmps34
  simp only [docC]
  go_wp2_with (first
    | (go_big_skip)
    | (go_at_call 20; (with_reducible refine (M.call_pure (CT) HM).mono ?_); clear HM; rintro e w_ ⟨rfl, HM⟩; dsimp only)
    | (refine M.at_mem rfl ?_; first | (refine M.at_load 3 rfl ?_; first | (refine M.load_cell_m HM rfl 3 _ rfl 0 _ _ _ _ _ rfl rfl rfl (by kernel_rfl) (by kernel_rfl) ?_; go_simp) | (refine M.load_cell_m HM rfl 3 _ rfl 1 _ _ _ _ _ rfl rfl rfl (by kernel_rfl) (by kernel_rfl) ?_; go_simp)) | (refine M.at_load 27 rfl ?_; first | (refine M.load_cell_m HM rfl 27 _ rfl 0 _ _ _ _ _ rfl rfl rfl (by kernel_rfl) (by kernel_rfl) ?_; go_simp) | (refine M.load_cell_m HM rfl 27 _ rfl 1 _ _ _ _ _ rfl rfl rfl (by kernel_rfl) (by kernel_rfl) ?_; go_simp)) | (refine M.at_load 29 rfl ?_; first | (refine M.load_row_m HM rfl 29 _ rfl 0 _ _ _ rfl rfl (by kernel_rfl) (by kernel_rfl) ?_; go_simp) | (refine M.load_row_m HM rfl 29 _ rfl 1 _ _ _ rfl rfl (by kernel_rfl) (by kernel_rfl) ?_; go_simp)) | (refine M.at_store 27 rfl ?_; first | (refine M.store_cell_m HM rfl 27 _ _ rfl 0 _ _ _ _ _ rfl rfl rfl (by kernel_rfl) rfl (by simp) ?_; clear HM; intro w_ HM; (try simp only [M.nrm] at HM); go_simp) | (refine M.store_cell_m HM rfl 27 _ _ rfl 1 _ _ _ _ _ rfl rfl rfl (by kernel_rfl) rfl (by simp) ?_; clear HM; intro w_ HM; (try simp only [M.nrm] at HM); go_simp)) | (refine M.at_store 29 rfl ?_; first | (refine M.store_row_m HM rfl 29 _ _ rfl 0 _ _ _ _ rfl rfl rfl (by kernel_rfl) rfl (by simp [Value.oneCell']) ?_; clear HM; intro w_ HM; (try simp only [M.nrm] at HM); go_simp) | (refine M.store_row_m HM rfl 29 _ _ rfl 1 _ _ _ _ rfl rfl rfl (by kernel_rfl) rfl (by simp [Value.oneCell']) ?_; clear HM; intro w_ HM; (try simp only [M.nrm] at HM); go_simp)) | (refine M.at_alloc 29 rfl ?_; first | (refine M.box_m HM rfl rfl 29 _ rfl _ rfl ?_; clear HM; intro g3_ w_ HM; go_simp) | (refine M.alloc_m HM rfl rfl 29 rfl (.agg #[.int .u64 0, .int .u64 0, .int .u64 0, .int .u64 0, .int .u64 0, .int .u64 0, .int .u64 0, .int .u64 0, .int .u64 0, .slice none 0 0]) (by kernel_rfl) #[.int .u64 0, .int .u64 0, .int .u64 0, .int .u64 0, .int .u64 0, .int .u64 0, .int .u64 0, .int .u64 0, .int .u64 0, .slice none 0 0] rfl ?_; clear HM; intro g6_ w_ HM; go_simp) | (refine M.alloc_m HM rfl rfl 29 rfl (.agg #[(.int .u64 0), (.int .u64 0), (.int .u64 0), (.int .u64 0), (.int .u64 0), (.int .u64 0), (.int .u64 0), (.int .u64 0), (.int .u64 0), (.slice none 0 0)]) (by kernel_rfl) #[(.int .u64 0), (.int .u64 0), (.int .u64 0), (.int .u64 0), (.int .u64 0), (.int .u64 0), (.int .u64 0), (.int .u64 0), (.int .u64 0), (.slice none 0 0)] rfl ?_; clear HM; intro g_ w_ HM; go_simp)) | (refine M.at_box 29 rfl ?_; first | (refine M.box_m HM rfl rfl 29 _ rfl _ rfl ?_; clear HM; intro g3_ w_ HM; go_simp) | (refine M.alloc_m HM rfl rfl 29 rfl (.agg #[.int .u64 0, .int .u64 0, .int .u64 0, .int .u64 0, .int .u64 0, .int .u64 0, .int .u64 0, .int .u64 0, .int .u64 0, .slice none 0 0]) (by kernel_rfl) #[.int .u64 0, .int .u64 0, .int .u64 0, .int .u64 0, .int .u64 0, .int .u64 0, .int .u64 0, .int .u64 0, .int .u64 0, .slice none 0 0] rfl ?_; clear HM; intro g6_ w_ HM; go_simp) | (refine M.box_m HM rfl rfl 29 _ rfl _ rfl ?_; clear HM; intro g_ w_ HM; go_simp)) | ((fail_if_success (refine M.lit_t rfl ?_)); (fail_if_success (refine M.lit_f rfl ?_)); refine M.split_guard rfl rfl ?_ ?_ <;> (intro hg_; simp only [hg_]; try simp only [M.hgs] at hg_)))
    | (refine Mc.at_cmp _ rfl ?_; refine Mc.cmp_m rfl _ rfl _ _ _ rfl _ _ _ rfl rfl _ rfl ?_ ?_ <;> (intro hg_; try simp only [M.hgs] at hg_; first | (exfalso; first | omega | (simp at hg_; done)) | (go_simp)))
    | ((fail_if_success (refine M.lit_t rfl ?_)); (fail_if_success (refine M.lit_f rfl ?_)); refine M.split_guard rfl rfl ?_ ?_ <;> (intro hg_; simp only [hg_]; try simp only [M.hgs] at hg_)))
  clear CT hmod
  go_loopw [9] (fun iv wr => ∃ i : Nat, i ≤ 512 ∧ iv = .int .i64 i ∧ (∀ j : Nat, j < i → ¬ rfree l (512 * pool + j)) ∧ Mem w _ ((g6_, row #[.int .u64 0, .int .u64 0, .int .u64 0, .int .u64 0, .int .u64 0, .int .u64 0, .int .u64 0, .int .u64 0, .int .u64 0, .slice none 0 0] 29) :: (g3_, row #[.int .u64 131072, .int .u64 (ps 0), .int .u64 (ps 1), .int .u64 (ps 2), .int .u64 (ps 3), .int .u64 (ps 4), .int .u64 (ps 5), .int .u64 (ps 6), .int .u64 (ps 7), .slice p n c] 29) :: A) wr) (fun iv _ => 512 - (intOf iv).toNat)
  case atStart => exact ⟨0, by omega, rfl, fun j hj => by omega, HM⟩
  case round =>
    clear HM
    obtain ⟨i, iR, rfl, hno, HM⟩ := hrel
    have HNO := Lib.hid hno; clear hno
    by_cases hlt : i < 512
    · have hi1 : (i : Int) < 512 := by omega
      have CS := CSH.out (512 * pool + i)
      unfold Aa.RIs at CS
      simp only [docC] at CS
      by_cases hv0 : 512 * pool + (i : Int) = 0
      · have HNF := Lib.hid (fun e => e.1 hv0 : ¬ rfree l (512 * pool + i))
        have hp00 : pool = 0 := by omega
        have hi00 : i = 0 := by omega
        subst hp00 hi00
        clear CS
        go_wp2_with (first
          | (go_big_skip)
          | (refine M.at_mem rfl ?_; first | (refine M.at_load 3 rfl ?_; first | (refine M.load_cell_m HM rfl 3 _ rfl 0 _ _ _ _ _ rfl rfl rfl (by kernel_rfl) (by kernel_rfl) ?_; go_simp) | (refine M.load_cell_m HM rfl 3 _ rfl 1 _ _ _ _ _ rfl rfl rfl (by kernel_rfl) (by kernel_rfl) ?_; go_simp)) | (refine M.at_load 27 rfl ?_; first | (refine M.load_cell_m HM rfl 27 _ rfl 0 _ _ _ _ _ rfl rfl rfl (by kernel_rfl) (by kernel_rfl) ?_; go_simp) | (refine M.load_cell_m HM rfl 27 _ rfl 1 _ _ _ _ _ rfl rfl rfl (by kernel_rfl) (by kernel_rfl) ?_; go_simp)) | (refine M.at_load 29 rfl ?_; first | (refine M.load_row_m HM rfl 29 _ rfl 0 _ _ _ rfl rfl (by kernel_rfl) (by kernel_rfl) ?_; go_simp) | (refine M.load_row_m HM rfl 29 _ rfl 1 _ _ _ rfl rfl (by kernel_rfl) (by kernel_rfl) ?_; go_simp)) | (refine M.at_store 27 rfl ?_; first | (refine M.store_cell_m HM rfl 27 _ _ rfl 0 _ _ _ _ _ rfl rfl rfl (by kernel_rfl) rfl (by simp) ?_; clear HM; intro w_ HM; (try simp only [M.nrm] at HM); go_simp) | (refine M.store_cell_m HM rfl 27 _ _ rfl 1 _ _ _ _ _ rfl rfl rfl (by kernel_rfl) rfl (by simp) ?_; clear HM; intro w_ HM; (try simp only [M.nrm] at HM); go_simp)) | (refine M.at_store 29 rfl ?_; first | (refine M.store_row_m HM rfl 29 _ _ rfl 0 _ _ _ _ rfl rfl rfl (by kernel_rfl) rfl (by simp [Value.oneCell']) ?_; clear HM; intro w_ HM; (try simp only [M.nrm] at HM); go_simp) | (refine M.store_row_m HM rfl 29 _ _ rfl 1 _ _ _ _ rfl rfl rfl (by kernel_rfl) rfl (by simp [Value.oneCell']) ?_; clear HM; intro w_ HM; (try simp only [M.nrm] at HM); go_simp)) | (refine M.at_alloc 29 rfl ?_; first | (refine M.alloc_m HM rfl rfl 29 rfl (.agg #[(.int .u64 0), (.int .u64 0), (.int .u64 0), (.int .u64 0), (.int .u64 0), (.int .u64 0), (.int .u64 0), (.int .u64 0), (.int .u64 0), (.slice none 0 0)]) (by kernel_rfl) #[(.int .u64 0), (.int .u64 0), (.int .u64 0), (.int .u64 0), (.int .u64 0), (.int .u64 0), (.int .u64 0), (.int .u64 0), (.int .u64 0), (.slice none 0 0)] rfl ?_; clear HM; intro g_ w_ HM; go_simp)) | (refine M.at_box 29 rfl ?_; first | (refine M.box_m HM rfl rfl 29 _ rfl _ rfl ?_; clear HM; intro g_ w_ HM; go_simp)) | ((fail_if_success (refine M.lit_t rfl ?_)); (fail_if_success (refine M.lit_f rfl ?_)); refine M.split_guard rfl rfl ?_ ?_ <;> (intro hg_; simp only [hg_]; try simp only [M.hgs] at hg_)))
          | (refine Mc.at_cmp _ rfl ?_; refine Mc.cmp_m rfl _ rfl _ _ _ rfl _ _ _ rfl rfl _ rfl ?_ ?_ <;> (intro hg_; try simp only [M.hgs] at hg_; first | (exfalso; first | omega | (simp at hg_; done)) | (go_simp)))
          | ((fail_if_success (refine M.lit_t rfl ?_)); (fail_if_success (refine M.lit_f rfl ?_)); refine M.split_guard rfl rfl ?_ ?_ <;> (intro hg_; simp only [hg_]; try simp only [M.hgs] at hg_)))
        all_goals
          go_roundw
          case rel => exact ⟨1, by omega, rfl, fun j hj => by
            obtain rfl : j = 0 := by omega
            exact HNF.out, HM⟩
          case measure => first | (simp [intOf]; done) | (simp [intOf]; omega)
      · by_cases hf : lookV l (512 * pool + i) = 0
        · rw [hf] at CS
          have HFR := Lib.hid (⟨hv0, hf⟩ : rfree l (512 * pool + i))
          clear hf
          go_wp2_with (first
            | (go_big_skip)
            | (go_at_call 36; have HM_ : M.Mem _ _ (([_, _]) ++ (A)) _ := HM; (with_reducible refine (M.Does.tail _ (CS) HM_).mono ?_); clear HM HM_; rintro e w_ ⟨v_, L_, rfl, ⟨rfl, hL_⟩, HM⟩; (try simp only [List.cons_append, List.nil_append, List.append_nil] at HM); dsimp only)
            | (refine M.at_mem rfl ?_; first | (refine M.at_load 3 rfl ?_; first | (refine M.load_cell_m HM rfl 3 _ rfl 0 _ _ _ _ _ rfl rfl rfl (by kernel_rfl) (by kernel_rfl) ?_; go_simp) | (refine M.load_cell_m HM rfl 3 _ rfl 1 _ _ _ _ _ rfl rfl rfl (by kernel_rfl) (by kernel_rfl) ?_; go_simp)) | (refine M.at_load 27 rfl ?_; first | (refine M.load_cell_m HM rfl 27 _ rfl 0 _ _ _ _ _ rfl rfl rfl (by kernel_rfl) (by kernel_rfl) ?_; go_simp) | (refine M.load_cell_m HM rfl 27 _ rfl 1 _ _ _ _ _ rfl rfl rfl (by kernel_rfl) (by kernel_rfl) ?_; go_simp)) | (refine M.at_load 29 rfl ?_; first | (refine M.load_row_m HM rfl 29 _ rfl 0 _ _ _ rfl rfl (by kernel_rfl) (by kernel_rfl) ?_; go_simp) | (refine M.load_row_m HM rfl 29 _ rfl 1 _ _ _ rfl rfl (by kernel_rfl) (by kernel_rfl) ?_; go_simp)) | (refine M.at_store 27 rfl ?_; first | (refine M.store_cell_m HM rfl 27 _ _ rfl 0 _ _ _ _ _ rfl rfl rfl (by kernel_rfl) rfl (by simp) ?_; clear HM; intro w_ HM; (try simp only [M.nrm] at HM); go_simp) | (refine M.store_cell_m HM rfl 27 _ _ rfl 1 _ _ _ _ _ rfl rfl rfl (by kernel_rfl) rfl (by simp) ?_; clear HM; intro w_ HM; (try simp only [M.nrm] at HM); go_simp)) | (refine M.at_store 29 rfl ?_; first | (refine M.store_row_m HM rfl 29 _ _ rfl 0 _ _ _ _ rfl rfl rfl (by kernel_rfl) rfl (by simp [Value.oneCell']) ?_; clear HM; intro w_ HM; (try simp only [M.nrm] at HM); go_simp) | (refine M.store_row_m HM rfl 29 _ _ rfl 1 _ _ _ _ rfl rfl rfl (by kernel_rfl) rfl (by simp [Value.oneCell']) ?_; clear HM; intro w_ HM; (try simp only [M.nrm] at HM); go_simp)) | (refine M.at_alloc 29 rfl ?_; first | (refine M.alloc_m HM rfl rfl 29 rfl (.agg #[(.int .u64 0), (.int .u64 0), (.int .u64 0), (.int .u64 0), (.int .u64 0), (.int .u64 0), (.int .u64 0), (.int .u64 0), (.int .u64 0), (.slice none 0 0)]) (by kernel_rfl) #[(.int .u64 0), (.int .u64 0), (.int .u64 0), (.int .u64 0), (.int .u64 0), (.int .u64 0), (.int .u64 0), (.int .u64 0), (.int .u64 0), (.slice none 0 0)] rfl ?_; clear HM; intro g_ w_ HM; go_simp)) | (refine M.at_box 29 rfl ?_; first | (refine M.box_m HM rfl rfl 29 _ rfl _ rfl ?_; clear HM; intro g_ w_ HM; go_simp)) | ((fail_if_success (refine M.lit_t rfl ?_)); (fail_if_success (refine M.lit_f rfl ?_)); refine M.split_guard rfl rfl ?_ ?_ <;> (intro hg_; simp only [hg_]; try simp only [M.hgs] at hg_)))
            | (refine Mc.at_cmp _ rfl ?_; refine Mc.cmp_m rfl _ rfl _ _ _ rfl _ _ _ rfl rfl _ rfl ?_ ?_ <;> (intro hg_; try simp only [M.hgs] at hg_; first | (exfalso; first | omega | (simp at hg_; done)) | (go_simp)))
            | ((fail_if_success (refine M.lit_t rfl ?_)); (fail_if_success (refine M.lit_f rfl ?_)); refine M.split_guard rfl rfl ?_ ?_ <;> (intro hg_; simp only [hg_]; try simp only [M.hgs] at hg_)))
          have HM := hL_ ▸ HM
          clear CS
          go_loopw [12] (fun kv wr => ∃ k : Nat, k ≤ n ∧ kv = .int .i64 k ∧ (∀ (j : Nat) (y : V2), j < k → l[j]? = some y → y.v < 512 * pool + i) ∧ Mem w _ ((g6_, row #[.int .u64 0, .int .u64 0, .int .u64 0, .int .u64 0, .int .u64 0, .int .u64 0, .int .u64 0, .int .u64 0, .int .u64 0, .slice none 0 0] 29) :: (g3_, row #[.int .u64 131072, .int .u64 (ps 0), .int .u64 (ps 1), .int .u64 (ps 2), .int .u64 (ps 3), .int .u64 (ps 4), .int .u64 (ps 5), .int .u64 (ps 6), .int .u64 (ps 7), .slice p n c] 29) :: A) wr) (fun kv _ => n - (intOf kv).toNat)
          case atStart => exact ⟨0, by omega, rfl, fun j y hj => by omega, HM⟩
          case round =>
            clear HM
            obtain ⟨k, kR, rfl, hlo, HM⟩ := hrel
            by_cases hcont : ∃ y, l[k]? = some y ∧ y.v < 512 * pool + i
            · obtain ⟨y, hy, hyl⟩ := hcont
              have hk : k < n := by have := (List.getElem?_eq_some_iff.1 hy).1; have := HN.out; omega
              have hk1 : (k : Int) < n := by omega
              rcases HV.out with ⟨-, hl, -⟩ | ⟨g, off, cur, rfl, hR, rfl⟩
              · rw [hl] at hy; simp at hy
              have h0 := row_cell hR hy (j := 0) (v := .int .i64 y.v) rfl
              rw [Nat.add_zero] at h0
              have H0 := Lib.hid h0; have HY := Lib.hid hy; have HYL := Lib.hid hyl; have HLO := Lib.hid hlo
              generalize hyv : y.v = yv at H0 hyl
              clear h0 hR hy hyv hlo
              go_wp2_with (first
                | (go_big_skip)
                | (refine Sl.at_indexAddr 27 rfl ?_; refine Sl.indexAddr_m rfl _ rfl 27 rfl 54 (by kernel_rfl) 2 (by kernel_rfl) g (off) (n) (c) rfl .i64 (k : Int) rfl (by omega) (by omega) (off + k * 2) (by omega) ?_; go_simp)
                | (refine M.at_mem rfl ?_; first | (refine M.at_load 3 rfl ?_; first | (refine M.load_cell_m HM rfl 3 _ rfl 2 g (off + k * 2) _ cur (.int .i64 yv) rfl rfl H0.out (by kernel_rfl) (by kernel_rfl) ?_; go_simp) | (refine M.load_cell_m HM rfl 3 _ rfl 0 _ _ _ _ _ rfl rfl rfl (by kernel_rfl) (by kernel_rfl) ?_; go_simp) | (refine M.load_cell_m HM rfl 3 _ rfl 1 _ _ _ _ _ rfl rfl rfl (by kernel_rfl) (by kernel_rfl) ?_; go_simp)) | (refine M.at_load 27 rfl ?_; first | (refine M.load_cell_m HM rfl 3 _ rfl 2 g (off + k * 2) _ cur (.int .i64 yv) rfl rfl H0.out (by kernel_rfl) (by kernel_rfl) ?_; go_simp) | (refine M.load_cell_m HM rfl 27 _ rfl 0 _ _ _ _ _ rfl rfl rfl (by kernel_rfl) (by kernel_rfl) ?_; go_simp) | (refine M.load_cell_m HM rfl 27 _ rfl 1 _ _ _ _ _ rfl rfl rfl (by kernel_rfl) (by kernel_rfl) ?_; go_simp)) | (refine M.at_load 29 rfl ?_; first | (refine M.load_cell_m HM rfl 3 _ rfl 2 g (off + k * 2) _ cur (.int .i64 yv) rfl rfl H0.out (by kernel_rfl) (by kernel_rfl) ?_; go_simp) | (refine M.load_row_m HM rfl 29 _ rfl 0 _ _ _ rfl rfl (by kernel_rfl) (by kernel_rfl) ?_; go_simp) | (refine M.load_row_m HM rfl 29 _ rfl 1 _ _ _ rfl rfl (by kernel_rfl) (by kernel_rfl) ?_; go_simp)) | (refine M.at_store 27 rfl ?_; first | (refine M.store_cell_m HM rfl 27 _ _ rfl 0 _ _ _ _ _ rfl rfl rfl (by kernel_rfl) rfl (by simp) ?_; clear HM; intro w_ HM; (try simp only [M.nrm] at HM); go_simp) | (refine M.store_cell_m HM rfl 27 _ _ rfl 1 _ _ _ _ _ rfl rfl rfl (by kernel_rfl) rfl (by simp) ?_; clear HM; intro w_ HM; (try simp only [M.nrm] at HM); go_simp)) | (refine M.at_store 29 rfl ?_; first | (refine M.store_row_m HM rfl 29 _ _ rfl 0 _ _ _ _ rfl rfl rfl (by kernel_rfl) rfl (by simp [Value.oneCell']) ?_; clear HM; intro w_ HM; (try simp only [M.nrm] at HM); go_simp) | (refine M.store_row_m HM rfl 29 _ _ rfl 1 _ _ _ _ rfl rfl rfl (by kernel_rfl) rfl (by simp [Value.oneCell']) ?_; clear HM; intro w_ HM; (try simp only [M.nrm] at HM); go_simp)) | (refine M.at_alloc 29 rfl ?_; first | (refine M.alloc_m HM rfl rfl 29 rfl (.agg #[(.int .u64 0), (.int .u64 0), (.int .u64 0), (.int .u64 0), (.int .u64 0), (.int .u64 0), (.int .u64 0), (.int .u64 0), (.int .u64 0), (.slice none 0 0)]) (by kernel_rfl) #[(.int .u64 0), (.int .u64 0), (.int .u64 0), (.int .u64 0), (.int .u64 0), (.int .u64 0), (.int .u64 0), (.int .u64 0), (.int .u64 0), (.slice none 0 0)] rfl ?_; clear HM; intro g_ w_ HM; go_simp)) | (refine M.at_box 29 rfl ?_; first | (refine M.box_m HM rfl rfl 29 _ rfl _ rfl ?_; clear HM; intro g_ w_ HM; go_simp)) | ((fail_if_success (refine M.lit_t rfl ?_)); (fail_if_success (refine M.lit_f rfl ?_)); refine M.split_guard rfl rfl ?_ ?_ <;> (intro hg_; simp only [hg_]; try simp only [M.hgs] at hg_)))
                | (refine Mc.at_cmp _ rfl ?_; refine Mc.cmp_m rfl _ rfl _ _ _ rfl _ _ _ rfl rfl _ rfl ?_ ?_ <;> (intro hg_; try simp only [M.hgs] at hg_; first | (exfalso; first | omega | (simp at hg_; done)) | (go_simp)))
                | ((fail_if_success (refine M.lit_t rfl ?_)); (fail_if_success (refine M.lit_f rfl ?_)); refine M.split_guard rfl rfl ?_ ?_ <;> (intro hg_; simp only [hg_]; try simp only [M.hgs] at hg_)))
              all_goals
                go_roundw
                case rel => exact ⟨k + 1, by omega, by first | rfl | (refine congrArg (fun z => Value.int .i64 z) ?_; omega), fun j z hj hz => by
                  by_cases he : j = k
                  · subst he
                    have := HY.out.symm.trans hz
                    cases this
                    exact HYL.out
                  · exact HLO.out j z (by omega) hz, HM⟩
                case measure => first | (simp [intOf]; done) | (simp [intOf]; omega)
            · by_cases hk : k < n
              · obtain ⟨y, hy⟩ : ∃ y, l[k]? = some y := ⟨_, List.getElem?_eq_getElem (by have := HN.out; omega)⟩
                have hyl : ¬ y.v < 512 * pool + i := fun e => hcont ⟨y, hy, e⟩
                have hk1 : (k : Int) < n := by omega
                have HV1 := Lib.hid (LV.fore HV.out (i := k) (by rw [HN.out]; exact kR))
                have hV2 := LV.cut HV.out (i := k) (c := c) (by rw [HN.out]; exact kR) (by rw [HN.out]; exact hc)
                generalize hq0 : (if c = k then p else p.map (·.add (k * 2))) = q_ at hV2
                have HV2 := Lib.hid hV2; have HQ0 := Lib.hid hq0
                have E1 := Lib.hid (show (l.take k).length = k by rw [List.length_take, HN.out]; omega)
                have E2 := Lib.hid (show (l.drop k).length = n - k by rw [List.length_drop, HN.out])
                have HN1 := Lib.hid (lv_nil HV1.out); have HN2 := Lib.hid (lv_nil HV2.out)
                have HIN := Lib.hid (ins_at (x := ⟨512 * pool + i, space⟩) (by rw [HN.out]; exact kR) hlo (fun y hy hl => hcont ⟨y, hy, hl⟩))
                clear hV2 hq0 hlo
                rcases HV.out with ⟨-, hl, -⟩ | ⟨g, off, cur, rfl, hR, rfl⟩
                · rw [hl] at hy; simp at hy
                have h0 := row_cell hR hy (j := 0) (v := .int .i64 y.v) rfl
                rw [Nat.add_zero] at h0
                have H0 := Lib.hid h0
                generalize hyv : y.v = yv at H0 hyl
                clear h0 hR hy hyv hcont
                go_wp2_with (first
                  | (go_big_skip)
                  | (refine Sl.at_indexAddr 27 rfl ?_; refine Sl.indexAddr_m rfl _ rfl 27 rfl 54 (by kernel_rfl) 2 (by kernel_rfl) g (off) (n) (c) rfl .i64 (k : Int) rfl (by omega) (by omega) (off + k * 2) (by omega) ?_; go_simp)
                  | (refine Lt.at_slice 27 rfl ?_; first | (refine Lt.slice_m rfl _ rfl 27 54 rfl (by kernel_rfl) 2 (by kernel_rfl) (some ⟨g, off, none⟩) n c rfl 0 k c (Or.inl ⟨rfl, rfl⟩) (Or.inr ⟨_, rfl, by omega⟩) (Or.inl ⟨rfl, rfl⟩) (.slice (some ⟨g, off, none⟩) k c) (by rw [Lu.fore_ptr]; rfl) ?_; go_simp) | (refine Lt.slice_m rfl _ rfl 27 54 rfl (by kernel_rfl) 2 (by kernel_rfl) (some ⟨g, off, none⟩) n c rfl k n c (Or.inl ⟨rfl, rfl⟩) (Or.inl ⟨rfl, rfl, rfl⟩) (Or.inr ⟨_, rfl, by omega⟩) (.slice q_ (n - k) (c - k)) (by rw [HQ0.out]) ?_; go_simp))
                  | (refine Sm.at_call_append rfl ?_; have HM := (show M.Mem _ _ ((_ :: _ :: [(g, row cur 54)]) ++ []) _ by rw [List.append_nil]; exact HM); refine Lu.append_ls_m (R := (_ :: _ :: [(g, row cur 54)])) HM rfl rfl _ _ 27 54 rfl 16 (by kernel_rfl) (by kernel_rfl) [] _ (LR.nil _) rfl (some ⟨g, off, none⟩) k c rfl (l.take k) E1.out HN1.out (fun u hu ad hpa => LV.row HV1.out (M.Has.right (A := [_, _]) (hu.take).has) ad hpa) (by simp only [maxLen, List.length_nil]; omega) (by simp only [List.length_nil]; omega) ?_; clear HM; intro vo_ Ao_ w_ ho_ HM; have HO := Lib.hid ho_; clear ho_; rw [List.nil_append] at HO; (try simp only [List.cons_append, List.nil_append] at HM); go_simp)
                  | (refine Sl.at_bslice 27 rfl ?_; first | (refine Ls.bslice1_m HM rfl rfl 27 54 _ rfl (by kernel_rfl) ((V2.mk (512 * pool + i) space).cells) rfl (by kernel_rfl) ?_; clear HM; intro gb_ w_ HM; go_simp))
                  | (refine Sm.at_call_append rfl ?_; refine Ls.append_lr_m (R := [_, _, _] ++ [(g, row cur 54)]) HM rfl rfl _ _ 27 54 rfl 16 (by kernel_rfl) (by kernel_rfl) (l.take k) _ HO.out rfl (V2.mk (512 * pool + i) space) 0 _ rfl rfl (by simp only [maxLen, E1.out]; omega) (by simp only [E1.out]; omega) ?_; clear HM HO; intro vo_ Ao_ w_ ho_ HM; have HO2 := Lib.hid ho_; clear ho_; (try simp only [List.cons_append, List.nil_append] at HM); go_simp)
                  | (refine Sm.at_call_append rfl ?_; refine Lu.append_ls_m (R := (_ :: _ :: _ :: [(g, row cur 54)])) HM rfl rfl _ _ 27 54 rfl 16 (by kernel_rfl) (by kernel_rfl) (l.take k ++ [V2.mk (512 * pool + i) space]) _ HO2.out rfl q_ (n - k) (c - k) rfl (l.drop k) E2.out HN2.out (fun u hu ad hpa => LV.row HV2.out (M.Has.right (A := [_, _, _]) (hu.take).has) ad hpa) (by simp only [maxLen, List.length_append, List.length_singleton, E1.out]; omega) (by simp only [List.length_append, List.length_singleton, E1.out]; omega) ?_; clear HM HO2; intro vo_ Ao_ w_ ho_ HM; have HO3 := Lib.hid ho_; clear ho_; (try simp only [List.cons_append, List.nil_append] at HM); go_simp)
                  | (refine M.at_mem rfl ?_; first | (refine M.at_load 3 rfl ?_; first | (refine M.load_cell_m HM rfl 3 _ rfl 2 g (off + k * 2) _ cur (.int .i64 yv) rfl rfl H0.out (by kernel_rfl) (by kernel_rfl) ?_; go_simp) | (refine M.load_cell_m HM rfl 3 _ rfl 0 _ _ _ _ _ rfl rfl rfl (by kernel_rfl) (by kernel_rfl) ?_; go_simp) | (refine M.load_cell_m HM rfl 3 _ rfl 1 _ _ _ _ _ rfl rfl rfl (by kernel_rfl) (by kernel_rfl) ?_; go_simp) | (refine M.load_cell_m HM rfl 3 _ rfl 2 _ _ _ _ _ rfl rfl rfl (by kernel_rfl) (by kernel_rfl) ?_; go_simp)) | (refine M.at_load 27 rfl ?_; first | (refine M.load_cell_m HM rfl 3 _ rfl 2 g (off + k * 2) _ cur (.int .i64 yv) rfl rfl H0.out (by kernel_rfl) (by kernel_rfl) ?_; go_simp) | (refine M.load_cell_m HM rfl 27 _ rfl 0 _ _ _ _ _ rfl rfl rfl (by kernel_rfl) (by kernel_rfl) ?_; go_simp) | (refine M.load_cell_m HM rfl 27 _ rfl 1 _ _ _ _ _ rfl rfl rfl (by kernel_rfl) (by kernel_rfl) ?_; go_simp) | (refine M.load_cell_m HM rfl 27 _ rfl 2 _ _ _ _ _ rfl rfl rfl (by kernel_rfl) (by kernel_rfl) ?_; go_simp)) | (refine M.at_load 29 rfl ?_; first | (refine M.load_cell_m HM rfl 3 _ rfl 2 g (off + k * 2) _ cur (.int .i64 yv) rfl rfl H0.out (by kernel_rfl) (by kernel_rfl) ?_; go_simp) | (refine M.load_row_m HM rfl 29 _ rfl 0 _ _ _ rfl rfl (by kernel_rfl) (by kernel_rfl) ?_; go_simp) | (refine M.load_row_m HM rfl 29 _ rfl 1 _ _ _ rfl rfl (by kernel_rfl) (by kernel_rfl) ?_; go_simp) | (refine M.load_row_m HM rfl 29 _ rfl 2 _ _ _ rfl rfl (by kernel_rfl) (by kernel_rfl) ?_; go_simp)) | (refine M.at_store 27 rfl ?_; first | (refine M.store_cell_m HM rfl 27 _ _ rfl 2 _ _ _ _ _ rfl rfl rfl (by kernel_rfl) HO3.out.one (by simp) ?_; clear HM; intro w_ HM; (try simp only [M.nrm] at HM); go_simp) | (refine M.store_row_m HM rfl 29 _ _ rfl 1 _ _ _ _ rfl rfl rfl (by kernel_rfl) rfl (docC_one _ HO3.out.one) ?_; clear HM; intro w_ HM; (try simp only [M.nrm] at HM); go_simp) | (refine M.store_cell_m HM rfl 27 _ _ rfl 0 _ _ _ _ _ rfl rfl rfl (by kernel_rfl) rfl (by simp) ?_; clear HM; intro w_ HM; (try simp only [M.nrm] at HM); go_simp) | (refine M.store_cell_m HM rfl 27 _ _ rfl 1 _ _ _ _ _ rfl rfl rfl (by kernel_rfl) rfl (by simp) ?_; clear HM; intro w_ HM; (try simp only [M.nrm] at HM); go_simp) | (refine M.store_cell_m HM rfl 27 _ _ rfl 2 _ _ _ _ _ rfl rfl rfl (by kernel_rfl) rfl (by simp) ?_; clear HM; intro w_ HM; (try simp only [M.nrm] at HM); go_simp)) | (refine M.at_store 29 rfl ?_; first | (refine M.store_cell_m HM rfl 27 _ _ rfl 2 _ _ _ _ _ rfl rfl rfl (by kernel_rfl) HO3.out.one (by simp) ?_; clear HM; intro w_ HM; (try simp only [M.nrm] at HM); go_simp) | (refine M.store_row_m HM rfl 29 _ _ rfl 1 _ _ _ _ rfl rfl rfl (by kernel_rfl) rfl (docC_one _ HO3.out.one) ?_; clear HM; intro w_ HM; (try simp only [M.nrm] at HM); go_simp) | (refine M.store_row_m HM rfl 29 _ _ rfl 0 _ _ _ _ rfl rfl rfl (by kernel_rfl) rfl (by simp [Value.oneCell']) ?_; clear HM; intro w_ HM; (try simp only [M.nrm] at HM); go_simp) | (refine M.store_row_m HM rfl 29 _ _ rfl 1 _ _ _ _ rfl rfl rfl (by kernel_rfl) rfl (by simp [Value.oneCell']) ?_; clear HM; intro w_ HM; (try simp only [M.nrm] at HM); go_simp) | (refine M.store_row_m HM rfl 29 _ _ rfl 2 _ _ _ _ rfl rfl rfl (by kernel_rfl) rfl (by simp [Value.oneCell']) ?_; clear HM; intro w_ HM; (try simp only [M.nrm] at HM); go_simp)) | (refine M.at_alloc 29 rfl ?_; first | (refine M.alloc_m HM rfl rfl 29 rfl (.agg #[(.int .u64 0), (.int .u64 0), (.int .u64 0), (.int .u64 0), (.int .u64 0), (.int .u64 0), (.int .u64 0), (.int .u64 0), (.int .u64 0), (.slice none 0 0)]) (by kernel_rfl) #[(.int .u64 0), (.int .u64 0), (.int .u64 0), (.int .u64 0), (.int .u64 0), (.int .u64 0), (.int .u64 0), (.int .u64 0), (.int .u64 0), (.slice none 0 0)] rfl ?_; clear HM; intro g_ w_ HM; go_simp)) | (refine M.at_box 29 rfl ?_; first | (refine M.box_m HM rfl rfl 29 _ rfl _ rfl ?_; clear HM; intro g_ w_ HM; go_simp)) | ((fail_if_success (refine M.lit_t rfl ?_)); (fail_if_success (refine M.lit_f rfl ?_)); refine M.split_guard rfl rfl ?_ ?_ <;> (intro hg_; simp only [hg_]; try simp only [M.hgs] at hg_)))
                  | (refine Mc.at_cmp _ rfl ?_; refine Mc.cmp_m rfl _ rfl _ _ _ rfl _ _ _ rfl rfl _ rfl ?_ ?_ <;> (intro hg_; try simp only [M.hgs] at hg_; first | (exfalso; first | omega | (simp at hg_; done)) | (go_simp)))
                  | ((fail_if_success (refine M.lit_t rfl ?_)); (fail_if_success (refine M.lit_f rfl ?_)); refine M.split_guard rfl rfl ?_ ?_ <;> (intro hg_; simp only [hg_]; try simp only [M.hgs] at hg_)))
                all_goals
                  refine bodyPost_ret (res_ctt HM rfl _ 1 _ _ _ rfl rfl (by kernel_rfl) (by kernel_rfl)) rfl ?_
                  have h3 := HO3.out
                  rw [List.append_assoc, List.singleton_append, ← HIN.out] at h3
                  first
                  | exact ⟨_, _, rfl, .inr (.inr (.inr ⟨HOK.out, HB.out, i, hlt, HFR.out, HNO.out, _, h3, rfl⟩)), HM.drop (A := [_, _, _] ++ [_])⟩
                  | exact ⟨_, rfl, _, .inr (.inr (.inr ⟨HOK.out, HB.out, i, hlt, HFR.out, HNO.out, _, h3, rfl⟩)), HM.drop (A := [_, _, _] ++ [_])⟩
              · skip
                have HV1 := Lib.hid (LV.fore HV.out (i := k) (by rw [HN.out]; exact kR))
                have hV2 := LV.cut HV.out (i := k) (c := c) (by rw [HN.out]; exact kR) (by rw [HN.out]; exact hc)
                generalize hq0 : (if c = k then p else p.map (·.add (k * 2))) = q_ at hV2
                have HV2 := Lib.hid hV2; have HQ0 := Lib.hid hq0
                have E1 := Lib.hid (show (l.take k).length = k by rw [List.length_take, HN.out]; omega)
                have E2 := Lib.hid (show (l.drop k).length = n - k by rw [List.length_drop, HN.out])
                have HN1 := Lib.hid (lv_nil HV1.out); have HN2 := Lib.hid (lv_nil HV2.out)
                have HIN := Lib.hid (ins_at (x := ⟨512 * pool + i, space⟩) (by rw [HN.out]; exact kR) hlo (fun y hy hl => hcont ⟨y, hy, hl⟩))
                clear hV2 hq0 hlo
                clear hcont
                go_wp2_with (first
                  | (go_big_skip)
                  | (refine Lt.at_slice 27 rfl ?_; first | (refine Lt.slice_m rfl _ rfl 27 54 rfl (by kernel_rfl) 2 (by kernel_rfl) p n c rfl 0 k c (Or.inl ⟨rfl, rfl⟩) (Or.inr ⟨_, rfl, by omega⟩) (Or.inl ⟨rfl, rfl⟩) (.slice p k c) (by rw [Lu.fore_ptr]; rfl) ?_; go_simp) | (refine Lt.slice_m rfl _ rfl 27 54 rfl (by kernel_rfl) 2 (by kernel_rfl) p n c rfl k n c (Or.inl ⟨rfl, rfl⟩) (Or.inl ⟨rfl, rfl, rfl⟩) (Or.inr ⟨_, rfl, by omega⟩) (.slice q_ (n - k) (c - k)) (by rw [HQ0.out]) ?_; go_simp))
                  | (refine Sm.at_call_append rfl ?_; have HM := (show M.Mem _ _ ((_ :: _ :: A) ++ []) _ by rw [List.append_nil]; exact HM); refine Lu.append_ls_m (R := (_ :: _ :: A)) HM rfl rfl _ _ 27 54 rfl 16 (by kernel_rfl) (by kernel_rfl) [] _ (LR.nil _) rfl p k c rfl (l.take k) E1.out HN1.out (fun u hu ad hpa => LV.row HV1.out (M.Has.right (A := [_, _]) (hu.take).has) ad hpa) (by simp only [maxLen, List.length_nil]; omega) (by simp only [List.length_nil]; omega) ?_; clear HM; intro vo_ Ao_ w_ ho_ HM; have HO := Lib.hid ho_; clear ho_; rw [List.nil_append] at HO; (try simp only [List.cons_append, List.nil_append] at HM); go_simp)
                  | (refine Sl.at_bslice 27 rfl ?_; first | (refine Ls.bslice1_m HM rfl rfl 27 54 _ rfl (by kernel_rfl) ((V2.mk (512 * pool + i) space).cells) rfl (by kernel_rfl) ?_; clear HM; intro gb_ w_ HM; go_simp))
                  | (refine Sm.at_call_append rfl ?_; refine Ls.append_lr_m (R := [_, _, _] ++ A) HM rfl rfl _ _ 27 54 rfl 16 (by kernel_rfl) (by kernel_rfl) (l.take k) _ HO.out rfl (V2.mk (512 * pool + i) space) 0 _ rfl rfl (by simp only [maxLen, E1.out]; omega) (by simp only [E1.out]; omega) ?_; clear HM HO; intro vo_ Ao_ w_ ho_ HM; have HO2 := Lib.hid ho_; clear ho_; (try simp only [List.cons_append, List.nil_append] at HM); go_simp)
                  | (refine Sm.at_call_append rfl ?_; refine Lu.append_ls_m (R := (_ :: _ :: _ :: A)) HM rfl rfl _ _ 27 54 rfl 16 (by kernel_rfl) (by kernel_rfl) (l.take k ++ [V2.mk (512 * pool + i) space]) _ HO2.out rfl q_ (n - k) (c - k) rfl (l.drop k) E2.out HN2.out (fun u hu ad hpa => LV.row HV2.out (M.Has.right (A := [_, _, _]) (hu.take).has) ad hpa) (by simp only [maxLen, List.length_append, List.length_singleton, E1.out]; omega) (by simp only [List.length_append, List.length_singleton, E1.out]; omega) ?_; clear HM HO2; intro vo_ Ao_ w_ ho_ HM; have HO3 := Lib.hid ho_; clear ho_; (try simp only [List.cons_append, List.nil_append] at HM); go_simp)
                  | (refine M.at_mem rfl ?_; first | (refine M.at_load 3 rfl ?_; first | (refine M.load_cell_m HM rfl 3 _ rfl 0 _ _ _ _ _ rfl rfl rfl (by kernel_rfl) (by kernel_rfl) ?_; go_simp) | (refine M.load_cell_m HM rfl 3 _ rfl 1 _ _ _ _ _ rfl rfl rfl (by kernel_rfl) (by kernel_rfl) ?_; go_simp) | (refine M.load_cell_m HM rfl 3 _ rfl 2 _ _ _ _ _ rfl rfl rfl (by kernel_rfl) (by kernel_rfl) ?_; go_simp)) | (refine M.at_load 27 rfl ?_; first | (refine M.load_cell_m HM rfl 27 _ rfl 0 _ _ _ _ _ rfl rfl rfl (by kernel_rfl) (by kernel_rfl) ?_; go_simp) | (refine M.load_cell_m HM rfl 27 _ rfl 1 _ _ _ _ _ rfl rfl rfl (by kernel_rfl) (by kernel_rfl) ?_; go_simp) | (refine M.load_cell_m HM rfl 27 _ rfl 2 _ _ _ _ _ rfl rfl rfl (by kernel_rfl) (by kernel_rfl) ?_; go_simp)) | (refine M.at_load 29 rfl ?_; first | (refine M.load_row_m HM rfl 29 _ rfl 0 _ _ _ rfl rfl (by kernel_rfl) (by kernel_rfl) ?_; go_simp) | (refine M.load_row_m HM rfl 29 _ rfl 1 _ _ _ rfl rfl (by kernel_rfl) (by kernel_rfl) ?_; go_simp) | (refine M.load_row_m HM rfl 29 _ rfl 2 _ _ _ rfl rfl (by kernel_rfl) (by kernel_rfl) ?_; go_simp)) | (refine M.at_store 27 rfl ?_; first | (refine M.store_cell_m HM rfl 27 _ _ rfl 2 _ _ _ _ _ rfl rfl rfl (by kernel_rfl) HO3.out.one (by simp) ?_; clear HM; intro w_ HM; (try simp only [M.nrm] at HM); go_simp) | (refine M.store_row_m HM rfl 29 _ _ rfl 1 _ _ _ _ rfl rfl rfl (by kernel_rfl) rfl (docC_one _ HO3.out.one) ?_; clear HM; intro w_ HM; (try simp only [M.nrm] at HM); go_simp) | (refine M.store_cell_m HM rfl 27 _ _ rfl 0 _ _ _ _ _ rfl rfl rfl (by kernel_rfl) rfl (by simp) ?_; clear HM; intro w_ HM; (try simp only [M.nrm] at HM); go_simp) | (refine M.store_cell_m HM rfl 27 _ _ rfl 1 _ _ _ _ _ rfl rfl rfl (by kernel_rfl) rfl (by simp) ?_; clear HM; intro w_ HM; (try simp only [M.nrm] at HM); go_simp) | (refine M.store_cell_m HM rfl 27 _ _ rfl 2 _ _ _ _ _ rfl rfl rfl (by kernel_rfl) rfl (by simp) ?_; clear HM; intro w_ HM; (try simp only [M.nrm] at HM); go_simp)) | (refine M.at_store 29 rfl ?_; first | (refine M.store_cell_m HM rfl 27 _ _ rfl 2 _ _ _ _ _ rfl rfl rfl (by kernel_rfl) HO3.out.one (by simp) ?_; clear HM; intro w_ HM; (try simp only [M.nrm] at HM); go_simp) | (refine M.store_row_m HM rfl 29 _ _ rfl 1 _ _ _ _ rfl rfl rfl (by kernel_rfl) rfl (docC_one _ HO3.out.one) ?_; clear HM; intro w_ HM; (try simp only [M.nrm] at HM); go_simp) | (refine M.store_row_m HM rfl 29 _ _ rfl 0 _ _ _ _ rfl rfl rfl (by kernel_rfl) rfl (by simp [Value.oneCell']) ?_; clear HM; intro w_ HM; (try simp only [M.nrm] at HM); go_simp) | (refine M.store_row_m HM rfl 29 _ _ rfl 1 _ _ _ _ rfl rfl rfl (by kernel_rfl) rfl (by simp [Value.oneCell']) ?_; clear HM; intro w_ HM; (try simp only [M.nrm] at HM); go_simp) | (refine M.store_row_m HM rfl 29 _ _ rfl 2 _ _ _ _ rfl rfl rfl (by kernel_rfl) rfl (by simp [Value.oneCell']) ?_; clear HM; intro w_ HM; (try simp only [M.nrm] at HM); go_simp)) | (refine M.at_alloc 29 rfl ?_; first | (refine M.alloc_m HM rfl rfl 29 rfl (.agg #[(.int .u64 0), (.int .u64 0), (.int .u64 0), (.int .u64 0), (.int .u64 0), (.int .u64 0), (.int .u64 0), (.int .u64 0), (.int .u64 0), (.slice none 0 0)]) (by kernel_rfl) #[(.int .u64 0), (.int .u64 0), (.int .u64 0), (.int .u64 0), (.int .u64 0), (.int .u64 0), (.int .u64 0), (.int .u64 0), (.int .u64 0), (.slice none 0 0)] rfl ?_; clear HM; intro g_ w_ HM; go_simp)) | (refine M.at_box 29 rfl ?_; first | (refine M.box_m HM rfl rfl 29 _ rfl _ rfl ?_; clear HM; intro g_ w_ HM; go_simp)) | ((fail_if_success (refine M.lit_t rfl ?_)); (fail_if_success (refine M.lit_f rfl ?_)); refine M.split_guard rfl rfl ?_ ?_ <;> (intro hg_; simp only [hg_]; try simp only [M.hgs] at hg_)))
                  | (refine Mc.at_cmp _ rfl ?_; refine Mc.cmp_m rfl _ rfl _ _ _ rfl _ _ _ rfl rfl _ rfl ?_ ?_ <;> (intro hg_; try simp only [M.hgs] at hg_; first | (exfalso; first | omega | (simp at hg_; done)) | (go_simp)))
                  | ((fail_if_success (refine M.lit_t rfl ?_)); (fail_if_success (refine M.lit_f rfl ?_)); refine M.split_guard rfl rfl ?_ ?_ <;> (intro hg_; simp only [hg_]; try simp only [M.hgs] at hg_)))
                all_goals
                  refine bodyPost_ret (res_ctt HM rfl _ 1 _ _ _ rfl rfl (by kernel_rfl) (by kernel_rfl)) rfl ?_
                  have h3 := HO3.out
                  rw [List.append_assoc, List.singleton_append, ← HIN.out] at h3
                  first
                  | exact ⟨_, _, rfl, .inr (.inr (.inr ⟨HOK.out, HB.out, i, hlt, HFR.out, HNO.out, _, h3, rfl⟩)), HM.drop (A := [_, _, _] ++ A)⟩
                  | exact ⟨_, rfl, _, .inr (.inr (.inr ⟨HOK.out, HB.out, i, hlt, HFR.out, HNO.out, _, h3, rfl⟩)), HM.drop (A := [_, _, _] ++ A)⟩
        · have HNF := Lib.hid (fun e => hf e.2 : ¬ rfree l (512 * pool + i))
          generalize lookV l (512 * pool + i) = sv at CS hf
          go_wp2_with (first
            | (go_big_skip)
            | (go_at_call 36; have HM_ : M.Mem _ _ (([_, _]) ++ (A)) _ := HM; (with_reducible refine (M.Does.tail _ (CS) HM_).mono ?_); clear HM HM_; rintro e w_ ⟨v_, L_, rfl, ⟨rfl, hL_⟩, HM⟩; (try simp only [List.cons_append, List.nil_append, List.append_nil] at HM); dsimp only)
            | (refine M.at_mem rfl ?_; first | (refine M.at_load 3 rfl ?_; first | (refine M.load_cell_m HM rfl 3 _ rfl 0 _ _ _ _ _ rfl rfl rfl (by kernel_rfl) (by kernel_rfl) ?_; go_simp) | (refine M.load_cell_m HM rfl 3 _ rfl 1 _ _ _ _ _ rfl rfl rfl (by kernel_rfl) (by kernel_rfl) ?_; go_simp)) | (refine M.at_load 27 rfl ?_; first | (refine M.load_cell_m HM rfl 27 _ rfl 0 _ _ _ _ _ rfl rfl rfl (by kernel_rfl) (by kernel_rfl) ?_; go_simp) | (refine M.load_cell_m HM rfl 27 _ rfl 1 _ _ _ _ _ rfl rfl rfl (by kernel_rfl) (by kernel_rfl) ?_; go_simp)) | (refine M.at_load 29 rfl ?_; first | (refine M.load_row_m HM rfl 29 _ rfl 0 _ _ _ rfl rfl (by kernel_rfl) (by kernel_rfl) ?_; go_simp) | (refine M.load_row_m HM rfl 29 _ rfl 1 _ _ _ rfl rfl (by kernel_rfl) (by kernel_rfl) ?_; go_simp)) | (refine M.at_store 27 rfl ?_; first | (refine M.store_cell_m HM rfl 27 _ _ rfl 0 _ _ _ _ _ rfl rfl rfl (by kernel_rfl) rfl (by simp) ?_; clear HM; intro w_ HM; (try simp only [M.nrm] at HM); go_simp) | (refine M.store_cell_m HM rfl 27 _ _ rfl 1 _ _ _ _ _ rfl rfl rfl (by kernel_rfl) rfl (by simp) ?_; clear HM; intro w_ HM; (try simp only [M.nrm] at HM); go_simp)) | (refine M.at_store 29 rfl ?_; first | (refine M.store_row_m HM rfl 29 _ _ rfl 0 _ _ _ _ rfl rfl rfl (by kernel_rfl) rfl (by simp [Value.oneCell']) ?_; clear HM; intro w_ HM; (try simp only [M.nrm] at HM); go_simp) | (refine M.store_row_m HM rfl 29 _ _ rfl 1 _ _ _ _ rfl rfl rfl (by kernel_rfl) rfl (by simp [Value.oneCell']) ?_; clear HM; intro w_ HM; (try simp only [M.nrm] at HM); go_simp)) | (refine M.at_alloc 29 rfl ?_; first | (refine M.alloc_m HM rfl rfl 29 rfl (.agg #[(.int .u64 0), (.int .u64 0), (.int .u64 0), (.int .u64 0), (.int .u64 0), (.int .u64 0), (.int .u64 0), (.int .u64 0), (.int .u64 0), (.slice none 0 0)]) (by kernel_rfl) #[(.int .u64 0), (.int .u64 0), (.int .u64 0), (.int .u64 0), (.int .u64 0), (.int .u64 0), (.int .u64 0), (.int .u64 0), (.int .u64 0), (.slice none 0 0)] rfl ?_; clear HM; intro g_ w_ HM; go_simp)) | (refine M.at_box 29 rfl ?_; first | (refine M.box_m HM rfl rfl 29 _ rfl _ rfl ?_; clear HM; intro g_ w_ HM; go_simp)) | ((fail_if_success (refine M.lit_t rfl ?_)); (fail_if_success (refine M.lit_f rfl ?_)); refine M.split_guard rfl rfl ?_ ?_ <;> (intro hg_; simp only [hg_]; try simp only [M.hgs] at hg_)))
            | (refine Mc.at_cmp _ rfl ?_; refine Mc.cmp_m rfl _ rfl _ _ _ rfl _ _ _ rfl rfl _ rfl ?_ ?_ <;> (intro hg_; try simp only [M.hgs] at hg_; first | (exfalso; first | omega | (simp at hg_; done)) | (go_simp)))
            | ((fail_if_success (refine M.lit_t rfl ?_)); (fail_if_success (refine M.lit_f rfl ?_)); refine M.split_guard rfl rfl ?_ ?_ <;> (intro hg_; simp only [hg_]; try simp only [M.hgs] at hg_)))
          all_goals
            go_roundw
            case rel => exact ⟨i + 1, by omega, by first | rfl | (refine congrArg (fun z => Value.int .i64 z) ?_; omega), fun j hj => by
              by_cases he : j = i
              · subst he; exact HNF.out
              · exact HNO.out j (by omega), hL_ ▸ HM⟩
            case measure => first | (simp [intOf]; done) | (simp [intOf]; omega)
    · obtain rfl : i = 512 := by omega
      go_wp2_with (first
        | (go_big_skip)
        | (refine M.at_mem rfl ?_; first | (refine M.at_load 3 rfl ?_; first | (refine M.load_cell_m HM rfl 3 _ rfl 0 _ _ _ _ _ rfl rfl rfl (by kernel_rfl) (by kernel_rfl) ?_; go_simp) | (refine M.load_cell_m HM rfl 3 _ rfl 1 _ _ _ _ _ rfl rfl rfl (by kernel_rfl) (by kernel_rfl) ?_; go_simp)) | (refine M.at_load 27 rfl ?_; first | (refine M.load_cell_m HM rfl 27 _ rfl 0 _ _ _ _ _ rfl rfl rfl (by kernel_rfl) (by kernel_rfl) ?_; go_simp) | (refine M.load_cell_m HM rfl 27 _ rfl 1 _ _ _ _ _ rfl rfl rfl (by kernel_rfl) (by kernel_rfl) ?_; go_simp)) | (refine M.at_load 29 rfl ?_; first | (refine M.load_row_m HM rfl 29 _ rfl 0 _ _ _ rfl rfl (by kernel_rfl) (by kernel_rfl) ?_; go_simp) | (refine M.load_row_m HM rfl 29 _ rfl 1 _ _ _ rfl rfl (by kernel_rfl) (by kernel_rfl) ?_; go_simp)) | (refine M.at_store 27 rfl ?_; first | (refine M.store_row_m HM rfl 29 _ _ rfl 0 _ _ _ _ rfl rfl rfl (by kernel_rfl) rfl (docC_one _ HVL.out) ?_; clear HM; intro w_ HM; (try simp only [M.nrm] at HM); go_simp) | (refine M.store_cell_m HM rfl 27 _ _ rfl 0 _ _ _ _ _ rfl rfl rfl (by kernel_rfl) rfl (by simp) ?_; clear HM; intro w_ HM; (try simp only [M.nrm] at HM); go_simp) | (refine M.store_cell_m HM rfl 27 _ _ rfl 1 _ _ _ _ _ rfl rfl rfl (by kernel_rfl) rfl (by simp) ?_; clear HM; intro w_ HM; (try simp only [M.nrm] at HM); go_simp)) | (refine M.at_store 29 rfl ?_; first | (refine M.store_row_m HM rfl 29 _ _ rfl 0 _ _ _ _ rfl rfl rfl (by kernel_rfl) rfl (docC_one _ HVL.out) ?_; clear HM; intro w_ HM; (try simp only [M.nrm] at HM); go_simp) | (refine M.store_row_m HM rfl 29 _ _ rfl 0 _ _ _ _ rfl rfl rfl (by kernel_rfl) rfl (by simp [Value.oneCell']) ?_; clear HM; intro w_ HM; (try simp only [M.nrm] at HM); go_simp) | (refine M.store_row_m HM rfl 29 _ _ rfl 1 _ _ _ _ rfl rfl rfl (by kernel_rfl) rfl (by simp [Value.oneCell']) ?_; clear HM; intro w_ HM; (try simp only [M.nrm] at HM); go_simp)) | (refine M.at_alloc 29 rfl ?_; first | (refine M.alloc_m HM rfl rfl 29 rfl (.agg #[(.int .u64 0), (.int .u64 0), (.int .u64 0), (.int .u64 0), (.int .u64 0), (.int .u64 0), (.int .u64 0), (.int .u64 0), (.int .u64 0), (.slice none 0 0)]) (by kernel_rfl) #[(.int .u64 0), (.int .u64 0), (.int .u64 0), (.int .u64 0), (.int .u64 0), (.int .u64 0), (.int .u64 0), (.int .u64 0), (.int .u64 0), (.slice none 0 0)] rfl ?_; clear HM; intro g_ w_ HM; go_simp)) | (refine M.at_box 29 rfl ?_; first | (refine M.box_m HM rfl rfl 29 _ rfl _ rfl ?_; clear HM; intro g_ w_ HM; go_simp)) | ((fail_if_success (refine M.lit_t rfl ?_)); (fail_if_success (refine M.lit_f rfl ?_)); refine M.split_guard rfl rfl ?_ ?_ <;> (intro hg_; simp only [hg_]; try simp only [M.hgs] at hg_)))
        | (refine Mc.at_cmp _ rfl ?_; refine Mc.cmp_m rfl _ rfl _ _ _ rfl _ _ _ rfl rfl _ rfl ?_ ?_ <;> (intro hg_; try simp only [M.hgs] at hg_; first | (exfalso; first | omega | (simp at hg_; done)) | (go_simp)))
        | ((fail_if_success (refine M.lit_t rfl ?_)); (fail_if_success (refine M.lit_f rfl ?_)); refine M.split_guard rfl rfl ?_ ?_ <;> (intro hg_; simp only [hg_]; try simp only [M.hgs] at hg_)))
      all_goals
        refine bodyPost_ret (res_ctt HM rfl _ 0 _ _ _ rfl rfl (by kernel_rfl) (by kernel_rfl)) rfl ?_
        exact ⟨_, _, rfl, .inr (.inr (.inl ⟨HOK.out, HB.out, HNO.out, rfl, rfl⟩)), HM.drop (A := [_, _])⟩
end Go.Proofs.Ytndeaikmelpflaa.Af
