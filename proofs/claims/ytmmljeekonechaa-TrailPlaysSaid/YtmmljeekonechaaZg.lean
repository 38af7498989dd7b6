/- Layer 8's anchor. -/
import Derived.Test.YtmmljeekonechaaProg
import Derived.Test.YtmmljeekonechaaYo
import Derived.Test.YtmmljeekonechaaZf
namespace Go.Proofs.Ytmmljeekonechaa.Zg
open Go.RowKit Go.Proofs.Ytmmljeekonechaa.G Go.Proofs.Ytmmljeekonechaa.B Go.Proofs.Ytmmljeekonechaa.M Go.Proofs.Ytmmljeekonechaa.Mv Go.Proofs.Ytmmljeekonechaa.Sl Go.Proofs.Ytmmljeekonechaa.Sm Go.Proofs.Ytmmljeekonechaa.Sn Go.Proofs.Ytmmljeekonechaa.Ls Go.Proofs.Ytmmljeekonechaa.Lt Go.Proofs.Ytmmljeekonechaa.Dr Go.Proofs.Ytmmljeekonechaa.Ds Go.Proofs.Ytmmljeekonechaa.Tp Go.Proofs.Ytmmljeekonechaa.Yd Go.Proofs.Ytmmljeekonechaa.Yf Go.Proofs.Ytmmljeekonechaa.Yh Go.Proofs.Ytmmljeekonechaa.Yo Go.Proofs.Ytmmljeekonechaa.Eq Go.Proofs.Ytmmljeekonechaa.Za Go.Proofs.Ytmmljeekonechaa.Zb Go.Proofs.Ytmmljeekonechaa.Zc Go.Proofs.Ytmmljeekonechaa.Zd Go.Proofs.Ytmmljeekonechaa.Ze Go.Proofs.Ytmmljeekonechaa.Zf

set_option linter.unusedVariables false
set_option linter.unusedSimpArgs false
set_option maxRecDepth 100000
def st4 : List W2 := [⟨0, 8195⟩, ⟨0, 12291⟩, ⟨0, 16387⟩, ⟨0, 0⟩]
def k1 : K := ⟨1, 0, 1, 8192⟩
def k2 : K := ⟨1, 0, 2, 12288⟩
def k3 : K := ⟨1, 0, 3, 16384⟩
theorem walked4 : walkedL 9 1 4096 st4 0 [] = ([k1, k2, k3], 3) := by
  have d0 : decV 0 8195 = some (saidT 8195) := dec_table (by decide) (by decide) (by decide) (by decide) (by decide) (by decide)
  have d1 : decV (0 + 1) 12291 = some (saidT 12291) := dec_table (by decide) (by decide) (by decide) (by decide) (by decide) (by decide)
  have d2 : decV (0 + 1 + 1) 16387 = some (saidT 16387) := dec_table (by decide) (by decide) (by decide) (by decide) (by decide) (by decide)
  have d3 : decV (0 + 1 + 1 + 1) 0 = some zero := Yj.decV_zero _
  have s0 : (if lowB 4096 = true then stepK 9 [] ⟨1, baseV 4096 0, 0 + 1, (saidT 8195).out⟩ else []) = [k1] := by decide
  have s1 : (if lowB 4096 = true then stepK 9 [k1] ⟨1, baseV 4096 (0 + 1), 0 + 1 + 1, (saidT 12291).out⟩ else [k1]) = [k1, k2] := by decide
  have s2 : (if lowB 4096 = true then stepK 9 [k1, k2] ⟨1, baseV 4096 (0 + 1 + 1), 0 + 1 + 1 + 1, (saidT 16387).out⟩ else [k1, k2]) = [k1, k2, k3] := by decide
  rw [st4, walked_on (by decide) d0 rfl, s0, walked_on (by decide) d1 rfl, s1, walked_on (by decide) d2 rfl, s2, walked_not (by decide) d3 (by decide)]
theorem st4_get (i : Nat) (s : W2) (h : st4[i]? = some s) (j : Nat) (v : Value) (hj : s.cells.toList[j]? = some v) : (#[.int .u64 0, .int .u64 8195, .int .u64 0, .int .u64 12291, .int .u64 0, .int .u64 16387, .int .u64 0, .int .u64 0] : Array Value)[i * 2 + j]? = some v := by
  have hi : i < 4 := (List.getElem?_eq_some_iff.1 h).1
  have hj2 : j < 2 := (List.getElem?_eq_some_iff.1 hj).1
  obtain rfl | rfl | rfl | rfl : i = 0 ∨ i = 1 ∨ i = 2 ∨ i = 3 := by omega
  all_goals
    simp only [st4] at h
    simp at h
    subst h
    obtain rfl | rfl : j = 0 ∨ j = 1 := by omega
    all_goals exact hj
theorem walked_call {gT gs : Nat} {w0 u : World} {M : List Nat} (h : Mem w0 M [(gs, row #[.int .u64 0, .int .u64 8195, .int .u64 0, .int .u64 12291, .int .u64 0, .int .u64 16387, .int .u64 0, .int .u64 0] 64), (gT, row #[.int .i64 9, .slice none 0 0] 66)] u) :
    Calls Try.prog 15 #[.pointer (some ⟨gT, 0, none⟩), .int .i64 1, .int .u64 4096, .int .i64 0, .slice (some ⟨gs, 0, none⟩) 4 4] u fun e u' => ∃ T', e = .returned (.int .i64 3) ∧ TR 9 [k1, k2, k3] gT T' ∧ Mem w0 M (T' ++ [(gs, row #[.int .u64 0, .int .u64 8195, .int .u64 0, .int .u64 12291, .int .u64 0, .int .u64 16387, .int .u64 0, .int .u64 0] 64)]) u' := by
  have hw := walked_any (most := 9) (by decide) (by decide) (TR.nil 9 gT) (by decide) 1 4096 0 (by decide) (by decide) st4 (some ⟨gs, 0, none⟩) 4 4 rfl (by decide) (by
    intro s hs
    simp only [st4, List.mem_cons, List.not_mem_nil, or_false] at hs
    rcases hs with rfl | rfl | rfl | rfl
    all_goals exact ⟨by decide, by decide⟩) (w0 := w0) (M := M) (R := [(gs, row #[.int .u64 0, .int .u64 8195, .int .u64 0, .int .u64 12291, .int .u64 0, .int .u64 16387, .int .u64 0, .int .u64 0] 64)]) (fun _ => ⟨_, rfl⟩) (by
    rintro X u' hm a ⟨⟩ i s hs j v hj
    rw [Ls.add_at, blk_cell (hm.has.right.get 0 rfl), Nat.zero_add]
    exact st4_get i s hs j v hj) (h.perm (List.Perm.swap _ _ _))
  rw [walked4] at hw
  exact hw.mono fun e u' ⟨T', h1, h2, h3⟩ => ⟨T', h1, h2, h3⟩
theorem right3 : ∀ k ∈ [k1, k2, k3], rightK k = true := by decide
theorem best_call {gT : Nat} {T : Hp} (HT : TR 9 [k1, k2, k3] gT T) : Does Try.prog 11 #[.pointer (some ⟨gT, 0, none⟩), .int .i64 1, .int .u64 8191] T fun r L => r = .tuple #[.agg #[.int .i64 1, .int .u64 0, .int .i64 3, .int .u64 16384], .bool true] ∧ L = T := by
  have h := best_any HT right3 1 8191 (by decide) (by decide) (by decide)
  rw [show bestK 1 8191 [k1, k2, k3] = k3 by decide] at h
  exact h
theorem list_call {gT : Nat} {T : Hp} (HT : TR 9 [k1, k2, k3] gT T) : Does Try.prog 9 #[.pointer (some ⟨gT, 0, none⟩)] T fun r L => ∃ p c A, r = .slice p 3 c ∧ L = A ++ T :=
  weaken (R1 := CloneRel _ _) (list_any HT (by decide)) fun r L ⟨A, h1, h2⟩ => by
    obtain ⟨p, c, rfl, -⟩ := h1.read
    exact ⟨p, c, A, rfl, h2⟩
set_option maxHeartbeats 4000000 in
theorem anchor_any (w : World) : Calls Try.prog 6 #[] w fun e w' => e = .returned (.bool true) ∧ Below w.heap.size w w' := by
  have CN := fun w => new_ok 9 (by decide) (by decide) w
  have hb1 : eqB .eql (decide (k3 = k3)) = some true := by decide
  have HB1 := Lib.hid hb1; clear hb1
  have HM := Mem.nil w
  go_enter Try.func6, Try.ntmps6
  go_wp2_with (first
    | (go_big_skip)
    | (go_at_call 7; (with_reducible refine (Sm.new_call HM (CN _)).mono ?_); clear HM; rintro e w_ ⟨v_, L_, rfl, ⟨gT_, rfl, rfl⟩, HM⟩; (try simp only [List.append_nil] at HM); dsimp only)
    | (refine Sl.at_bslice 40 rfl ?_; refine Sl.bslice_m HM rfl rfl 40 64 4 _ rfl (by kernel_rfl) (#[.int .u64 0, .int .u64 8195, .int .u64 0, .int .u64 12291, .int .u64 0, .int .u64 16387, .int .u64 0, .int .u64 0]) (by kernel_rfl) ?_; clear HM; intro gs_ w_ HM; go_simp)
    | (go_at_call 15; (with_reducible refine (Zg.walked_call HM).mono ?_); clear HM; rintro e w_ ⟨T_, rfl, HT, HM⟩; dsimp only)
    | (refine Mc.at_cmp .eql rfl ?_; first | (refine Ls.eqRv_m (T := K) rfl _ rfl .eql _ _ rfl Za.eqK (k3) (k3) rfl rfl true (HB1.out) ?_; go_simp))
    | (go_at_call 11; have HM_ : Go.Proofs.Ytmmljeekonechaa.M.Mem _ _ (([]) ++ ((T_) ++ ([_]))) _ := HM; (with_reducible refine (Yf.Does.mid _ _ (best_call HT) HM_).mono ?_); clear HM HM_; rintro e w_ ⟨v_, L_, rfl, ⟨rfl, rfl⟩, HM⟩; (try simp only [List.cons_append, List.nil_append, List.append_nil] at HM); dsimp only)
    | (go_at_call 9; have HM_ : Go.Proofs.Ytmmljeekonechaa.M.Mem _ _ (([_]) ++ ((L_) ++ ([_]))) _ := HM; (with_reducible refine (Yf.Does.mid _ _ (list_call HT) HM_).mono ?_); clear HM HM_; rintro e w_ ⟨v_, L_, rfl, ⟨p3_, c3_, A3_, rfl, rfl⟩, HM⟩; (try simp only [List.cons_append, List.nil_append, List.append_nil] at HM); dsimp only)
    | (refine Go.Proofs.Ytmmljeekonechaa.M.at_mem rfl ?_; first | (refine Go.Proofs.Ytmmljeekonechaa.M.at_load 30 rfl ?_; first | (refine Go.Proofs.Ytmmljeekonechaa.M.load_row_m HM rfl 30 _ rfl 0 _ _ _ rfl rfl (by kernel_rfl) (by kernel_rfl) ?_; go_simp) | (refine Go.Proofs.Ytmmljeekonechaa.M.load_row_m HM rfl 30 _ rfl 1 _ _ _ rfl rfl (by kernel_rfl) (by kernel_rfl) ?_; go_simp)) | (refine Go.Proofs.Ytmmljeekonechaa.M.at_store 30 rfl ?_; first | (refine Go.Proofs.Ytmmljeekonechaa.M.store_row_m HM rfl 30 _ _ rfl 0 _ _ _ (#[.int .i64 1, .int .u64 0, .int .i64 3, .int .u64 16384]) rfl rfl rfl (by kernel_rfl) rfl (by simp [Value.oneCell']) ?_; clear HM; intro w_ HM; (try simp only [List.set_cons_zero, List.set_cons_succ] at HM); go_simp) | (refine Go.Proofs.Ytmmljeekonechaa.M.store_row_m HM rfl 30 _ _ rfl 0 _ _ _ _ rfl rfl rfl (by kernel_rfl) rfl (by simp [Value.oneCell']) ?_; clear HM; intro w_ HM; (try simp only [Go.Proofs.Ytmmljeekonechaa.M.nrm] at HM); go_simp) | (refine Go.Proofs.Ytmmljeekonechaa.M.store_row_m HM rfl 30 _ _ rfl 1 _ _ _ _ rfl rfl rfl (by kernel_rfl) rfl (by simp [Value.oneCell']) ?_; clear HM; intro w_ HM; (try simp only [Go.Proofs.Ytmmljeekonechaa.M.nrm] at HM); go_simp)) | (refine Go.Proofs.Ytmmljeekonechaa.M.at_alloc 30 rfl ?_; first | (refine Go.Proofs.Ytmmljeekonechaa.M.alloc_m HM rfl rfl 30 rfl (.agg K.zero.cells) (by kernel_rfl) K.zero.cells rfl ?_; clear HM; intro gK_ w_ HM; go_simp) | (refine Go.Proofs.Ytmmljeekonechaa.M.alloc_m HM rfl rfl 30 rfl (.agg #[(.int .i64 0), (.int .u64 0), (.int .i64 0), (.int .u64 0)]) (by kernel_rfl) #[(.int .i64 0), (.int .u64 0), (.int .i64 0), (.int .u64 0)] rfl ?_; clear HM; intro g_ w_ HM; go_simp)) | ((fail_if_success (refine Go.Proofs.Ytmmljeekonechaa.M.lit_t rfl ?_)); (fail_if_success (refine Go.Proofs.Ytmmljeekonechaa.M.lit_f rfl ?_)); refine Go.Proofs.Ytmmljeekonechaa.M.split_guard rfl rfl ?_ ?_ <;> (intro hg_; simp only [hg_]; try simp only [Go.Proofs.Ytmmljeekonechaa.M.hgs] at hg_)))
    | ((fail_if_success (refine Go.Proofs.Ytmmljeekonechaa.M.lit_t rfl ?_)); (fail_if_success (refine Go.Proofs.Ytmmljeekonechaa.M.lit_f rfl ?_)); refine Go.Proofs.Ytmmljeekonechaa.M.split_guard rfl rfl ?_ ?_ <;> (intro hg_; simp only [hg_]; try simp only [Go.Proofs.Ytmmljeekonechaa.M.hgs] at hg_)))
  all_goals
    go_ret
    exact ⟨by first | rfl | simp, HM.none.to_below⟩
end Go.Proofs.Ytmmljeekonechaa.Zg
