/- Marks that a walk leaves: whatever mark leads an address, the walk from it ends as the one from the root. -/
/- Layer 8's law on walks: a memory that is laid; the law TrailWalks walked. -/
import Derived.Test.YtmmljeekonechaaYs
import Derived.Test.YtmmljeekonechaaZf
import Derived.Test.YtmmljeekonechaaProg
import Derived.Test.YtmmljeekonechaaYo
import Derived.Test.YtmmljeekonechaaZg
namespace Go.Proofs.Ytmmljeekonechaa.Zi
open Go.RowKit Go.Proofs.Ytmmljeekonechaa.G Go.Proofs.Ytmmljeekonechaa.B Go.Proofs.Ytmmljeekonechaa.Ya Go.Proofs.Ytmmljeekonechaa.Yb Go.Proofs.Ytmmljeekonechaa.Yd Go.Proofs.Ytmmljeekonechaa.Ds Go.Proofs.Ytmmljeekonechaa.Eq Go.Proofs.Ytmmljeekonechaa.Yg Go.Proofs.Ytmmljeekonechaa.Yh Go.Proofs.Ytmmljeekonechaa.Yo Go.Proofs.Ytmmljeekonechaa.Ys Go.Proofs.Ytmmljeekonechaa.Za Go.Proofs.Ytmmljeekonechaa.Zb Go.Proofs.Ytmmljeekonechaa.Zc Go.Proofs.Ytmmljeekonechaa.Zd Go.Proofs.Ytmmljeekonechaa.Ze Go.Proofs.Ytmmljeekonechaa.Zf
set_option linter.unusedVariables false
set_option linter.unusedSimpArgs false
/-- The same for another address whose walk goes the same way as far. -/
theorem go_steps2 (size : Int) (f : Int → Int) (hf : ∀ n, 0 ≤ f n ∧ f n < 18446744073709551616) (va vb : Int) (hva : vb < 281474976710656) : ∀ (n : Nat) (level table : Int), 0 ≤ level → level + n = 4 → ∀ (i : Nat) (x : W2), (goV size f va n level table).st[i]? = some x →
    (∀ l, level ≤ l → l ≤ level + i → idxV vb l = idxV va l) → ∀ d, decV (level + i) x.word = some d → d.kind = 1 → Res.same (fromV size f (level + i + 1) d.out vb) (goV size f vb n level table)
  | 0, _, _, _, _, i, x, h => by simp [goV] at h
  | n + 1, level, table, l0, hl, i, x, h => by
    intro hidx d h8 h9
    have e := hidx level (Int.le_refl _) (by omega)
    have hfst := ent_first size f hf level table (idxV va level)
    have hlen := ent_st_len size f level table (idxV va level)
    rcases ent_cases size f hf level table (idxV va level) l0 (by omega) with ⟨fk, hk, h1, h2, h3⟩ | ⟨h1, h2, h3, h4, h5, h6, h7⟩ | ⟨h1, h2, h3, h4, h5⟩
    · rw [go_fault (by rw [h1]; omega)] at h
      dsimp only at h
      rcases hfst with hz | ⟨a, y, hst, hy, hd⟩
      · rw [hz] at h; simp at h
      · rw [hst] at h
        have hi : i = 0 := by have := (List.getElem?_eq_some_iff.1 h).1; simpa using this
        subst hi
        simp at h
        subst h
        have := hd d (by simpa using h8) h9
        rw [this] at h1
        simp at h1
        omega
    · rw [go_table h1 h3] at h
      rw [go_table (va := vb) (by rw [e]; exact h1) (by rw [e]; exact h3), e]
      dsimp only at h
      cases i with
      | zero =>
        rcases hfst with hz | ⟨a, y, hst, hy, hd⟩
        · exfalso
          unfold entV at hz h1
          split at hz
          · unfold entD at hz
            split at hz
            · cases hz
            · split at hz
              · cases hz
              · split at hz <;> cases hz
          · rename_i hne
            rw [if_neg hne] at h1
            simp at h1
        · rw [hst] at h
          simp at h
          subst h
          have hE := hd d (by simpa using h8) h9
          rw [hE] at h3 h5 h6 h7 ⊢
          dsimp only at h3 h5 h6 h7 ⊢
          rw [from_yes ⟨by omega, by omega, h7, hva⟩]
          rw [show (4 - (level + ((0 : Nat) : Int) + 1)).toNat = n by omega, show level + ((0 : Nat) : Int) + 1 = level + 1 by omega]
          exact ⟨rfl, rfl, rfl, rfl⟩
      | succ j =>
        have hst1 : (entV size f level table (idxV va level)).st.length = 1 ∨ (entV size f level table (idxV va level)).st.length = 0 := by omega
        rcases hfst with hz | ⟨a, y, hst, hy, hd⟩
        · exfalso
          unfold entV at hz h1
          split at hz
          · unfold entD at hz
            split at hz
            · cases hz
            · split at hz
              · cases hz
              · split at hz <;> cases hz
          · rename_i hne
            rw [if_neg hne] at h1
            simp at h1
        · rw [hst] at h
          simp only [List.cons_append, List.nil_append, List.getElem?_cons_succ] at h
          have := go_steps2 size f hf va vb hva n (level + 1) _ (by omega) (by omega) j x h (fun l a b => hidx l (by omega) (by omega)) d (by rw [show level + 1 + (j : Int) = level + ((j + 1 : Nat) : Int) by omega]; exact h8) h9
          rw [show level + 1 + (j : Int) + 1 = level + ((j + 1 : Nat) : Int) + 1 by omega] at this
          exact this
    · rw [go_leaf h1 (by omega)] at h
      dsimp only at h
      rcases hfst with hz | ⟨a, y, hst, hy, hd⟩
      · rw [hz] at h; simp at h
      · rw [hst] at h
        have hi : i = 0 := by have := (List.getElem?_eq_some_iff.1 h).1; simpa using this
        subst hi
        simp at h
        subst h
        have := hd d (by simpa using h8) h9
        rw [this] at h3
        simp at h3
        omega
theorem base_idx {va x i l : Int} (v0 : 0 ≤ va) (v1 : va < 281474976710656) (x0 : 0 ≤ x) (x1 : x < 281474976710656) (i0 : 0 ≤ i) (i3 : i ≤ 3) (h : baseV va i = baseV x i) (l0 : 0 ≤ l) (hl : l ≤ i) : idxV va l = idxV x l := by
  have k1 := kn_of i0 i3
  have k2 := kn_of l0 (show l ≤ 3 by omega)
  rw [baseV_yes k1, baseV_yes k1] at h
  rw [idxV_yes k2, idxV_yes k2]
  obtain rfl | rfl | rfl | rfl : i = 0 ∨ i = 1 ∨ i = 2 ∨ i = 3 := by omega
  · obtain rfl : l = 0 := by omega
    simp only [lsize] at *; simp at *; omega
  · obtain rfl | rfl : l = 0 ∨ l = 1 := by omega
    all_goals (simp only [lsize] at *; simp at *; omega)
  · obtain rfl | rfl | rfl : l = 0 ∨ l = 1 ∨ l = 2 := by omega
    all_goals (simp only [lsize] at *; simp at *; omega)
  · obtain rfl | rfl | rfl | rfl : l = 0 ∨ l = 1 ∨ l = 2 ∨ l = 3 := by omega
    all_goals (simp only [lsize] at *; simp at *; omega)
/-- A mark that may be gone on from. -/
def Good (size : Int) (f : Int → Int) (root : Int) (k : K) : Prop := rightK k = true ∧ 0 ≤ k.table ∧ ∀ va, 0 ≤ va → leadsK k 7 va = true → Res.same (fromV size f k.level k.table va) (fromV size f 0 root va)
theorem walked_good (size : Int) (f : Int → Int) (hf : ∀ n, 0 ≤ f n ∧ f n < 18446744073709551616) (root x : Int) (x0 : 0 ≤ x) : ∀ (n j : Nat) (l : List K), (fromV size f 0 root x).st.length - j = n → (∀ k ∈ l, Good size f root k) →
    ∀ k ∈ (walkedL 64 7 x ((fromV size f 0 root x).st.drop j) j l).1, Good size f root k
  | 0, j, l, hn, hl => by
    rw [List.drop_eq_nil_of_le (by omega)]
    exact hl
  | n + 1, j, l, hn, hl => by
    obtain ⟨s, hs⟩ : ∃ s, (fromV size f 0 root x).st[j]? = some s := ⟨_, List.getElem?_eq_getElem (by omega)⟩
    have hdr : (fromV size f 0 root x).st.drop j = s :: (fromV size f 0 root x).st.drop (j + 1) := by
      have := List.drop_eq_getElem_cons (l := (fromV size f 0 root x).st) (i := j) (by omega)
      rw [this]; congr 1
      exact (List.getElem?_eq_some_iff.1 hs).2
    rw [hdr]
    by_cases hlv : (j : Int) < 0 ∨ 4 ≤ (j : Int)
    · rw [walked_out hlv]; exact hl
    · cases hd : decV j s.word with
      | none => rw [walked_none hlv hd]; exact hl
      | some d =>
        by_cases hk : d.kind = 1
        · have hout : 0 ≤ d.out := by
            have hw := (from_steps size f hf root x j s hs).1
            rcases decV_kind (level := j) (x := s.word) (d := d) (by omega) (by omega) hw.1 hw.2 hd with rfl | ⟨-, -, h2, h3, -⟩ | ⟨h2, h3, h4, -⟩
            · simp [zero] at hk
            · omega
            · omega
          rw [walked_on hlv hd hk]
          dsimp only
          have ih := walked_good size f hf root x x0 n (j + 1)
          rw [show (((j + 1 : Nat) : Nat) : Int) = (j : Int) + 1 by omega] at ih
          refine ih _ (by omega) ?_
          split
          · refine stepK_all hl fun hr => ⟨hr, hout, fun va v0 hle => ?_⟩
            unfold leadsK at hle
            simp only [Bool.and_eq_true, decide_eq_true_eq] at hle
            obtain ⟨-, hlow, hbase⟩ := hle
            have v1 : va < 281474976710656 := by unfold lowB at hlow; simpa using hlow
            rw [show (j : Int) + 1 - 1 = j by omega] at hbase
            by_cases hc : (0 : Int) ≤ 0 ∧ (0 : Int) ≤ 3 ∧ root % 4096 = 0 ∧ x < 281474976710656
            · rw [from_yes hc] at hs
              have := go_steps2 size f hf x va v1 (4 - (0 : Int)).toNat 0 root (by decide) (by decide) j s hs (fun l h1 h2 => base_idx v0 v1 x0 hc.2.2.2 (by omega) (by omega) hbase h1 (by omega)) d (by rw [Int.zero_add]; exact hd) hk
              rw [Int.zero_add] at this
              rw [from_yes (va := va) ⟨hc.1, hc.2.1, hc.2.2.1, v1⟩]
              exact this
            · rw [from_no hc] at hs
              simp at hs
          · exact hl
        · rw [walked_not hlv hd hk]; exact hl
theorem best_mem {asid va : Int} (l : List K) (hl : ∀ k ∈ l, 1 ≤ k.level) : bestK asid va l = K.zero ∨ (bestK asid va l ∈ l ∧ leadsK (bestK asid va l) asid va = true) := by
  unfold bestK
  suffices ∀ (m : List K) (b : K), (∀ k ∈ m, k ∈ l) → (b = K.zero ∨ (b ∈ l ∧ leadsK b asid va = true)) → (m.foldl (bestS asid va) b = K.zero ∨ (m.foldl (bestS asid va) b ∈ l ∧ leadsK (m.foldl (bestS asid va) b) asid va = true)) from this l K.zero (fun _ h => h) (.inl rfl)
  intro m
  induction m with
  | nil => intro b _ hb; exact hb
  | cons y m ih =>
    intro b hm hb
    rw [List.foldl_cons]
    refine ih _ (fun k hk => hm k (by simp [hk])) ?_
    unfold bestS
    split
    · rename_i h; exact .inr ⟨hm y (by simp), h.1⟩
    · exact hb
end Go.Proofs.Ytmmljeekonechaa.Zi

namespace Go.Proofs.Ytmmljeekonechaa.Zj
open Go.Proofs.Ytmmljeekonechaa.Yi Go.Proofs.Ytmmljeekonechaa.Yj Go.Proofs.Ytmmljeekonechaa.Yl Go.Proofs.Ytmmljeekonechaa.Yo Go.RowKit Go.Proofs.Ytmmljeekonechaa.G Go.Proofs.Ytmmljeekonechaa.B Go.Proofs.Ytmmljeekonechaa.M Go.Proofs.Ytmmljeekonechaa.Mv Go.Proofs.Ytmmljeekonechaa.Sl Go.Proofs.Ytmmljeekonechaa.Sm Go.Proofs.Ytmmljeekonechaa.Sn Go.Proofs.Ytmmljeekonechaa.Ma Go.Proofs.Ytmmljeekonechaa.Ls Go.Proofs.Ytmmljeekonechaa.Lt Go.Proofs.Ytmmljeekonechaa.Dr Go.Proofs.Ytmmljeekonechaa.Ds Go.Proofs.Ytmmljeekonechaa.Tp Go.Proofs.Ytmmljeekonechaa.Ya Go.Proofs.Ytmmljeekonechaa.Yb Go.Proofs.Ytmmljeekonechaa.Yc Go.Proofs.Ytmmljeekonechaa.Yd Go.Proofs.Ytmmljeekonechaa.Yf Go.Proofs.Ytmmljeekonechaa.Yh Go.Proofs.Ytmmljeekonechaa.Yk Go.Proofs.Ytmmljeekonechaa.Ym Go.Proofs.Ytmmljeekonechaa.Ys Go.Proofs.Ytmmljeekonechaa.Eq Go.Proofs.Ytmmljeekonechaa.Za Go.Proofs.Ytmmljeekonechaa.Zb Go.Proofs.Ytmmljeekonechaa.Zc Go.Proofs.Ytmmljeekonechaa.Zd Go.Proofs.Ytmmljeekonechaa.Ze Go.Proofs.Ytmmljeekonechaa.Zf Go.Proofs.Ytmmljeekonechaa.Zg Go.Proofs.Ytmmljeekonechaa.Zi

set_option linter.unusedVariables false
set_option linter.unusedSimpArgs false
set_option maxRecDepth 100000
theorem wrs_rng (size : Int) (es : Nat → W2) : ∀ (N : Nat), (∀ i, i < N → W2.ok (es i)) → ∀ n, 0 ≤ wrs size es N n ∧ wrs size es N n < 18446744073709551616
  | 0, _, n => by unfold wrs; decide
  | N + 1, h, n => by
    have ih := wrs_rng size es N fun i hi => h i (by omega)
    have hx := h N (by omega)
    unfold wrs wrF
    split
    · exact upd_rng ih _ _ hx.2.1 hx.2.2 n
    · exact ih n
theorem res_same {r s : Res} (h : Res.same r s) : resV r = resV s := by
  obtain ⟨h1, h2, h3, h4⟩ := h
  unfold resV
  rw [h1, h2, h3, h4]
theorem rightK_table {k : K} (h : rightK k = true) : k.table < 281474976710656 := by
  unfold rightK at h
  simp only [Bool.and_eq_true, decide_eq_true_eq] at h
  exact h.2.2.2.1
theorem walkedL_len {most asid va : Int} : ∀ (st : List W2) (level : Int) (l : List K), (l.length : Int) ≤ most → ((walkedL most asid va st level l).1.length : Int) ≤ most
  | [], level, l, h => h
  | s :: st, level, l, h => by
    by_cases hlv : level < 0 ∨ 4 ≤ level
    · rw [walked_out hlv]; exact h
    · cases hd : decV level s.word with
      | none => rw [walked_none hlv hd]; exact h
      | some d =>
        by_cases hk : d.kind = 1
        · rw [walked_on hlv hd hk]
          refine walkedL_len st (level + 1) _ ?_
          split
          · exact stepK_len h
          · exact h
        · rw [walked_not hlv hd hk]; exact h
/-- What laid answers. -/
def laidOk (es : Nat → W2) (N : Nat) (v : Value) (L : Hp) : Prop := ∃ gM : Nat, v = .tuple #[.pointer (some ⟨gM, 0, none⟩), .bool true] ∧ Pm 1048576 (wrs 1048576 es N) gM L
set_option maxHeartbeats 4000000 in
theorem laid_ok (ao : Option Addr) (N c : Nat) (hN : N ≤ 60) (es : Nat → W2) (w : World)
    (hA : ∀ i, i < N → W2.ok (es i) ∧ ∃ a, ao = some a ∧ ∀ j v, (es i).cells.toList[j]? = some v → w.cell? (a.add (i * 2 + j)) = some v) :
    Calls Try.prog 14 #[.slice ao N c] w (Ans w [] (laidOk es N)) := by
  have CN := fun w => new_any 1048576 (by decide) (by decide) (by decide) w
  have HA := Lib.hid hA; clear hA
  have i3 : (N : Int) ≤ 60 := by omega
  have HM := Mem.nil w
  go_enter Try.func14, Try.ntmps14
  go_wp2_with (first
    | (go_big_skip)
    | (go_at_call 34; (with_reducible refine (Go.Proofs.Ytmmljeekonechaa.Sm.new_call HM (CN _)).mono ?_); clear HM; rintro e w_ ⟨v_, AM_, rfl, ⟨gM_, rfl, HP⟩, HM⟩; (try simp only [List.append_nil] at HM); dsimp only)
    | (refine Go.Proofs.Ytmmljeekonechaa.M.at_mem rfl ?_; first | (refine Go.Proofs.Ytmmljeekonechaa.M.at_load 23 rfl ?_; first | (refine Go.Proofs.Ytmmljeekonechaa.M.load_cell_m HM rfl 23 _ rfl 0 _ _ _ _ _ rfl rfl rfl (by kernel_rfl) (by kernel_rfl) ?_; go_simp)) | (refine Go.Proofs.Ytmmljeekonechaa.M.at_load 64 rfl ?_; first | (refine Go.Proofs.Ytmmljeekonechaa.M.load_row_m HM rfl 64 _ rfl 0 _ _ _ rfl rfl (by kernel_rfl) (by kernel_rfl) ?_; go_simp)) | (refine Go.Proofs.Ytmmljeekonechaa.M.at_store 64 rfl ?_; first | (refine Go.Proofs.Ytmmljeekonechaa.M.store_row_m HM rfl 64 _ _ rfl 0 _ _ _ _ rfl rfl rfl (by kernel_rfl) rfl (by simp [Value.oneCell']) ?_; clear HM; intro w_ HM; (try simp only [List.set_cons_zero, List.set_cons_succ, List.setIfInBounds_toArray, List.eraseIdx_cons_zero, List.eraseIdx_cons_succ, List.cons_append, List.nil_append] at HM); go_simp)) | (refine Go.Proofs.Ytmmljeekonechaa.M.at_alloc 64 rfl ?_; first | (refine Go.Proofs.Ytmmljeekonechaa.M.alloc_m HM rfl rfl 64 rfl (.agg #[(.int .u64 0), (.int .u64 0)]) (by kernel_rfl) #[(.int .u64 0), (.int .u64 0)] rfl ?_; clear HM; intro g_ w_ HM; go_simp)) | ((fail_if_success (refine Go.Proofs.Ytmmljeekonechaa.M.lit_t rfl ?_)); (fail_if_success (refine Go.Proofs.Ytmmljeekonechaa.M.lit_f rfl ?_)); refine Go.Proofs.Ytmmljeekonechaa.M.split_guard rfl rfl ?_ ?_ <;> (intro hg_; simp only [hg_]; try simp only [decide_eq_true_eq, decide_eq_false_iff_not, Bool.and_eq_true, Bool.or_eq_true, Bool.and_eq_false_iff, Bool.or_eq_false_iff, Bool.not_eq_true', Bool.not_eq_false', beq_iff_eq, bne_iff_ne, beq_eq_false_iff_ne, bne_eq_false_iff_eq, Int.not_lt, Int.not_le, ne_eq] at hg_)))
    | (refine Go.Proofs.Ytmmljeekonechaa.Mc.at_cmp _ rfl ?_; refine Go.Proofs.Ytmmljeekonechaa.Mc.cmp_m rfl _ rfl _ _ _ rfl _ _ _ rfl rfl _ rfl ?_ ?_ <;> (intro hg_; try simp only [decide_eq_true_eq, decide_eq_false_iff_not, Bool.and_eq_true, Bool.or_eq_true, Bool.and_eq_false_iff, Bool.or_eq_false_iff, Bool.not_eq_true', Bool.not_eq_false', beq_iff_eq, bne_iff_ne, beq_eq_false_iff_ne, bne_eq_false_iff_eq, Int.not_lt, Int.not_le, ne_eq] at hg_; first | (exfalso; first | omega | (simp at hg_; done)) | (go_simp)))
    | ((fail_if_success (refine Go.Proofs.Ytmmljeekonechaa.M.lit_t rfl ?_)); (fail_if_success (refine Go.Proofs.Ytmmljeekonechaa.M.lit_f rfl ?_)); refine Go.Proofs.Ytmmljeekonechaa.M.split_guard rfl rfl ?_ ?_ <;> (intro hg_; simp only [hg_]; try simp only [decide_eq_true_eq, decide_eq_false_iff_not, Bool.and_eq_true, Bool.or_eq_true, Bool.and_eq_false_iff, Bool.or_eq_false_iff, Bool.not_eq_true', Bool.not_eq_false', beq_iff_eq, bne_iff_ne, beq_eq_false_iff_ne, bne_eq_false_iff_eq, Int.not_lt, Int.not_le, ne_eq] at hg_)))
  clear CN
  go_loopw [25] (fun v wr => ∃ (k : Nat) (AM : Hp), k ≤ N ∧ v = .int .i64 k ∧ Pm 1048576 (wrs 1048576 es k) gM_ AM ∧ Mem w [] AM wr) (fun v _ => N - (intOf v).toNat)
  case atStart => exact ⟨0, AM_, by omega, rfl, HP, by first | exact HM | simpa using HM⟩
  case round =>
    clear HM HP
    obtain ⟨k, AM, kR, rfl, hp, HM⟩ := hrel
    by_cases hlt : k < N
    · obtain ⟨⟨⟨x0, x1⟩, x2, x3⟩, a, rfl, hc⟩ := HA.out k hlt
      have hk1 : (k : Int) < N := by omega
      have CW := write_any hp (es k).at_ (es k).word x0 x1 x2 x3
      rw [show wrF 1048576 (wrs 1048576 es k) (es k).at_ (es k).word = wrs 1048576 es (k + 1) from rfl] at CW
      have HC := Lib.hid hc
      clear hc hp x0 x1 x2 x3
      generalize hx : es k = x at HC CW
      obtain ⟨xa, xw⟩ := x
      dsimp only at CW
      clear hx
      go_wp2_with (first
        | (go_big_skip)
        | (refine Go.Proofs.Ytmmljeekonechaa.Sl.at_indexAddr 40 rfl ?_; refine Go.Proofs.Ytmmljeekonechaa.Sm.indexAddr_arg_m rfl _ rfl 40 rfl 64 (by kernel_rfl) 2 (by kernel_rfl) a (N) (c) rfl .i64 (k : Int) rfl (by omega) (by omega) (k * 2) (by omega) ?_; go_simp)
        | (go_at_call 35; have HM_ : Go.Proofs.Ytmmljeekonechaa.M.Mem _ _ (([_]) ++ (AM)) _ := HM; (with_reducible refine (Go.Proofs.Ytmmljeekonechaa.M.Does.tail _ (CW) HM_).mono ?_); clear HM HM_; rintro e w_ ⟨v_, L_, rfl, ⟨rfl, HP2⟩, HM⟩; (try simp only [List.cons_append, List.nil_append, List.append_nil] at HM); dsimp only)
        | (refine Go.Proofs.Ytmmljeekonechaa.M.at_mem rfl ?_; first | (refine Go.Proofs.Ytmmljeekonechaa.M.at_load 23 rfl ?_; first | (refine Go.Proofs.Ytmmljeekonechaa.Sm.load_struct_arg_m HM rfl 64 _ rfl (a.add (k * 2)) rfl #[.int .u64 xa, .int .u64 xw] (fun j v hj => by rw [add_add]; exact HC.out j v hj) (by simp) (by kernel_rfl) (by kernel_rfl) ?_; go_simp) | (refine Go.Proofs.Ytmmljeekonechaa.M.load_cell_m HM rfl 23 _ rfl 0 _ _ _ _ _ rfl rfl rfl (by kernel_rfl) (by kernel_rfl) ?_; go_simp) | (refine Go.Proofs.Ytmmljeekonechaa.M.load_cell_m HM rfl 23 _ rfl 1 _ _ _ _ _ rfl rfl rfl (by kernel_rfl) (by kernel_rfl) ?_; go_simp)) | (refine Go.Proofs.Ytmmljeekonechaa.M.at_load 64 rfl ?_; first | (refine Go.Proofs.Ytmmljeekonechaa.Sm.load_struct_arg_m HM rfl 64 _ rfl (a.add (k * 2)) rfl #[.int .u64 xa, .int .u64 xw] (fun j v hj => by rw [add_add]; exact HC.out j v hj) (by simp) (by kernel_rfl) (by kernel_rfl) ?_; go_simp) | (refine Go.Proofs.Ytmmljeekonechaa.M.load_row_m HM rfl 64 _ rfl 0 _ _ _ rfl rfl (by kernel_rfl) (by kernel_rfl) ?_; go_simp) | (refine Go.Proofs.Ytmmljeekonechaa.M.load_row_m HM rfl 64 _ rfl 1 _ _ _ rfl rfl (by kernel_rfl) (by kernel_rfl) ?_; go_simp)) | (refine Go.Proofs.Ytmmljeekonechaa.M.at_store 64 rfl ?_; first | (refine Go.Proofs.Ytmmljeekonechaa.M.store_row_m HM rfl 64 _ _ rfl 0 _ _ _ _ rfl rfl rfl (by kernel_rfl) rfl (by simp [Value.oneCell']) ?_; clear HM; intro w_ HM; (try simp only [List.set_cons_zero, List.set_cons_succ, List.setIfInBounds_toArray, List.eraseIdx_cons_zero, List.eraseIdx_cons_succ, List.cons_append, List.nil_append] at HM); go_simp) | (refine Go.Proofs.Ytmmljeekonechaa.M.store_row_m HM rfl 64 _ _ rfl 1 _ _ _ _ rfl rfl rfl (by kernel_rfl) rfl (by simp [Value.oneCell']) ?_; clear HM; intro w_ HM; (try simp only [List.set_cons_zero, List.set_cons_succ, List.setIfInBounds_toArray, List.eraseIdx_cons_zero, List.eraseIdx_cons_succ, List.cons_append, List.nil_append] at HM); go_simp)) | (refine Go.Proofs.Ytmmljeekonechaa.M.at_alloc 64 rfl ?_; first | (refine Go.Proofs.Ytmmljeekonechaa.M.alloc_m HM rfl rfl 64 rfl (.agg #[(.int .u64 0), (.int .u64 0)]) (by kernel_rfl) #[(.int .u64 0), (.int .u64 0)] rfl ?_; clear HM; intro g_ w_ HM; go_simp)) | ((fail_if_success (refine Go.Proofs.Ytmmljeekonechaa.M.lit_t rfl ?_)); (fail_if_success (refine Go.Proofs.Ytmmljeekonechaa.M.lit_f rfl ?_)); refine Go.Proofs.Ytmmljeekonechaa.M.split_guard rfl rfl ?_ ?_ <;> (intro hg_; simp only [hg_]; try simp only [decide_eq_true_eq, decide_eq_false_iff_not, Bool.and_eq_true, Bool.or_eq_true, Bool.and_eq_false_iff, Bool.or_eq_false_iff, Bool.not_eq_true', Bool.not_eq_false', beq_iff_eq, bne_iff_ne, beq_eq_false_iff_ne, bne_eq_false_iff_eq, Int.not_lt, Int.not_le, ne_eq] at hg_)))
        | (refine Go.Proofs.Ytmmljeekonechaa.Mc.at_cmp _ rfl ?_; refine Go.Proofs.Ytmmljeekonechaa.Mc.cmp_m rfl _ rfl _ _ _ rfl _ _ _ rfl rfl _ rfl ?_ ?_ <;> (intro hg_; try simp only [decide_eq_true_eq, decide_eq_false_iff_not, Bool.and_eq_true, Bool.or_eq_true, Bool.and_eq_false_iff, Bool.or_eq_false_iff, Bool.not_eq_true', Bool.not_eq_false', beq_iff_eq, bne_iff_ne, beq_eq_false_iff_ne, bne_eq_false_iff_eq, Int.not_lt, Int.not_le, ne_eq] at hg_; first | (exfalso; first | omega | (simp at hg_; done)) | (go_simp)))
        | ((fail_if_success (refine Go.Proofs.Ytmmljeekonechaa.M.lit_t rfl ?_)); (fail_if_success (refine Go.Proofs.Ytmmljeekonechaa.M.lit_f rfl ?_)); refine Go.Proofs.Ytmmljeekonechaa.M.split_guard rfl rfl ?_ ?_ <;> (intro hg_; simp only [hg_]; try simp only [decide_eq_true_eq, decide_eq_false_iff_not, Bool.and_eq_true, Bool.or_eq_true, Bool.and_eq_false_iff, Bool.or_eq_false_iff, Bool.not_eq_true', Bool.not_eq_false', beq_iff_eq, bne_iff_ne, beq_eq_false_iff_ne, bne_eq_false_iff_eq, Int.not_lt, Int.not_le, ne_eq] at hg_)))
      go_roundw
      case rel => exact ⟨k + 1, L_, by omega, by first | rfl | (refine congrArg (fun z => Value.int .i64 z) ?_; omega), HP2, HM.drop (A := [_])⟩
      case measure => simp [intOf]; omega
    · obtain rfl : k = N := by omega
      go_wp2_with (first
        | (go_big_skip)
        | (refine Go.Proofs.Ytmmljeekonechaa.M.at_mem rfl ?_; first | (refine Go.Proofs.Ytmmljeekonechaa.M.at_load 23 rfl ?_; first | (refine Go.Proofs.Ytmmljeekonechaa.M.load_cell_m HM rfl 23 _ rfl 0 _ _ _ _ _ rfl rfl rfl (by kernel_rfl) (by kernel_rfl) ?_; go_simp)) | (refine Go.Proofs.Ytmmljeekonechaa.M.at_load 64 rfl ?_; first | (refine Go.Proofs.Ytmmljeekonechaa.M.load_row_m HM rfl 64 _ rfl 0 _ _ _ rfl rfl (by kernel_rfl) (by kernel_rfl) ?_; go_simp)) | (refine Go.Proofs.Ytmmljeekonechaa.M.at_store 64 rfl ?_; first | (refine Go.Proofs.Ytmmljeekonechaa.M.store_row_m HM rfl 64 _ _ rfl 0 _ _ _ _ rfl rfl rfl (by kernel_rfl) rfl (by simp [Value.oneCell']) ?_; clear HM; intro w_ HM; (try simp only [List.set_cons_zero, List.set_cons_succ, List.setIfInBounds_toArray, List.eraseIdx_cons_zero, List.eraseIdx_cons_succ, List.cons_append, List.nil_append] at HM); go_simp)) | (refine Go.Proofs.Ytmmljeekonechaa.M.at_alloc 64 rfl ?_; first | (refine Go.Proofs.Ytmmljeekonechaa.M.alloc_m HM rfl rfl 64 rfl (.agg #[(.int .u64 0), (.int .u64 0)]) (by kernel_rfl) #[(.int .u64 0), (.int .u64 0)] rfl ?_; clear HM; intro g_ w_ HM; go_simp)) | ((fail_if_success (refine Go.Proofs.Ytmmljeekonechaa.M.lit_t rfl ?_)); (fail_if_success (refine Go.Proofs.Ytmmljeekonechaa.M.lit_f rfl ?_)); refine Go.Proofs.Ytmmljeekonechaa.M.split_guard rfl rfl ?_ ?_ <;> (intro hg_; simp only [hg_]; try simp only [decide_eq_true_eq, decide_eq_false_iff_not, Bool.and_eq_true, Bool.or_eq_true, Bool.and_eq_false_iff, Bool.or_eq_false_iff, Bool.not_eq_true', Bool.not_eq_false', beq_iff_eq, bne_iff_ne, beq_eq_false_iff_ne, bne_eq_false_iff_eq, Int.not_lt, Int.not_le, ne_eq] at hg_)))
        | (refine Go.Proofs.Ytmmljeekonechaa.Mc.at_cmp _ rfl ?_; refine Go.Proofs.Ytmmljeekonechaa.Mc.cmp_m rfl _ rfl _ _ _ rfl _ _ _ rfl rfl _ rfl ?_ ?_ <;> (intro hg_; try simp only [decide_eq_true_eq, decide_eq_false_iff_not, Bool.and_eq_true, Bool.or_eq_true, Bool.and_eq_false_iff, Bool.or_eq_false_iff, Bool.not_eq_true', Bool.not_eq_false', beq_iff_eq, bne_iff_ne, beq_eq_false_iff_ne, bne_eq_false_iff_eq, Int.not_lt, Int.not_le, ne_eq] at hg_; first | (exfalso; first | omega | (simp at hg_; done)) | (go_simp)))
        | ((fail_if_success (refine Go.Proofs.Ytmmljeekonechaa.M.lit_t rfl ?_)); (fail_if_success (refine Go.Proofs.Ytmmljeekonechaa.M.lit_f rfl ?_)); refine Go.Proofs.Ytmmljeekonechaa.M.split_guard rfl rfl ?_ ?_ <;> (intro hg_; simp only [hg_]; try simp only [decide_eq_true_eq, decide_eq_false_iff_not, Bool.and_eq_true, Bool.or_eq_true, Bool.and_eq_false_iff, Bool.or_eq_false_iff, Bool.not_eq_true', Bool.not_eq_false', beq_iff_eq, bne_iff_ne, beq_eq_false_iff_ne, bne_eq_false_iff_eq, Int.not_lt, Int.not_le, ne_eq] at hg_)))
      all_goals
        go_ret2
        exact Ans.mk ⟨_, rfl, hp⟩ HM
set_option maxHeartbeats 4000000 in
theorem laid_long (ao : Option Addr) (N c : Nat) (hN : 60 < N) (w : World) :
    Calls Try.prog 14 #[.slice ao N c] w fun e w' => e = .returned (.tuple #[.pointer none, .bool false]) ∧ Below w.heap.size w w' := by
  have CN := fun w => new_any 1048576 (by decide) (by decide) (by decide) w
  have i3 : (60 : Int) < N := by omega
  have HM := Mem.nil w
  go_enter Try.func14, Try.ntmps14
  go_wp2_with (first
    | (go_big_skip)
    | (go_at_call 34; (with_reducible refine (Go.Proofs.Ytmmljeekonechaa.Sm.new_call HM (CN _)).mono ?_); clear HM; rintro e w_ ⟨v_, AM_, rfl, ⟨gM_, rfl, HP⟩, HM⟩; (try simp only [List.append_nil] at HM); dsimp only)
    | (refine Go.Proofs.Ytmmljeekonechaa.M.at_mem rfl ?_; first | (refine Go.Proofs.Ytmmljeekonechaa.M.at_load 23 rfl ?_; first | (refine Go.Proofs.Ytmmljeekonechaa.M.load_cell_m HM rfl 23 _ rfl 0 _ _ _ _ _ rfl rfl rfl (by kernel_rfl) (by kernel_rfl) ?_; go_simp)) | (refine Go.Proofs.Ytmmljeekonechaa.M.at_load 64 rfl ?_; first | (refine Go.Proofs.Ytmmljeekonechaa.M.load_row_m HM rfl 64 _ rfl 0 _ _ _ rfl rfl (by kernel_rfl) (by kernel_rfl) ?_; go_simp)) | (refine Go.Proofs.Ytmmljeekonechaa.M.at_store 64 rfl ?_; first | (refine Go.Proofs.Ytmmljeekonechaa.M.store_row_m HM rfl 64 _ _ rfl 0 _ _ _ _ rfl rfl rfl (by kernel_rfl) rfl (by simp [Value.oneCell']) ?_; clear HM; intro w_ HM; (try simp only [List.set_cons_zero, List.set_cons_succ, List.setIfInBounds_toArray, List.eraseIdx_cons_zero, List.eraseIdx_cons_succ, List.cons_append, List.nil_append] at HM); go_simp)) | (refine Go.Proofs.Ytmmljeekonechaa.M.at_alloc 64 rfl ?_; first | (refine Go.Proofs.Ytmmljeekonechaa.M.alloc_m HM rfl rfl 64 rfl (.agg #[(.int .u64 0), (.int .u64 0)]) (by kernel_rfl) #[(.int .u64 0), (.int .u64 0)] rfl ?_; clear HM; intro g_ w_ HM; go_simp)) | ((fail_if_success (refine Go.Proofs.Ytmmljeekonechaa.M.lit_t rfl ?_)); (fail_if_success (refine Go.Proofs.Ytmmljeekonechaa.M.lit_f rfl ?_)); refine Go.Proofs.Ytmmljeekonechaa.M.split_guard rfl rfl ?_ ?_ <;> (intro hg_; simp only [hg_]; try simp only [decide_eq_true_eq, decide_eq_false_iff_not, Bool.and_eq_true, Bool.or_eq_true, Bool.and_eq_false_iff, Bool.or_eq_false_iff, Bool.not_eq_true', Bool.not_eq_false', beq_iff_eq, bne_iff_ne, beq_eq_false_iff_ne, bne_eq_false_iff_eq, Int.not_lt, Int.not_le, ne_eq] at hg_)))
    | (refine Go.Proofs.Ytmmljeekonechaa.Mc.at_cmp _ rfl ?_; refine Go.Proofs.Ytmmljeekonechaa.Mc.cmp_m rfl _ rfl _ _ _ rfl _ _ _ rfl rfl _ rfl ?_ ?_ <;> (intro hg_; try simp only [decide_eq_true_eq, decide_eq_false_iff_not, Bool.and_eq_true, Bool.or_eq_true, Bool.and_eq_false_iff, Bool.or_eq_false_iff, Bool.not_eq_true', Bool.not_eq_false', beq_iff_eq, bne_iff_ne, beq_eq_false_iff_ne, bne_eq_false_iff_eq, Int.not_lt, Int.not_le, ne_eq] at hg_; first | (exfalso; first | omega | (simp at hg_; done)) | (go_simp)))
    | ((fail_if_success (refine Go.Proofs.Ytmmljeekonechaa.M.lit_t rfl ?_)); (fail_if_success (refine Go.Proofs.Ytmmljeekonechaa.M.lit_f rfl ?_)); refine Go.Proofs.Ytmmljeekonechaa.M.split_guard rfl rfl ?_ ?_ <;> (intro hg_; simp only [hg_]; try simp only [decide_eq_true_eq, decide_eq_false_iff_not, Bool.and_eq_true, Bool.or_eq_true, Bool.and_eq_false_iff, Bool.or_eq_false_iff, Bool.not_eq_true', Bool.not_eq_false', beq_iff_eq, bne_iff_ne, beq_eq_false_iff_ne, bne_eq_false_iff_eq, Int.not_lt, Int.not_le, ne_eq] at hg_)))
  all_goals
    go_ret2
    exact ⟨by first | rfl | simp, HM.none.to_below⟩
set_option maxHeartbeats 4000000 in
theorem law_words (ao : Option Addr) (N c : Nat) (hN : 60 < N) (root va : Int) (vw : Value) (w : World) : Calls Try.prog 5 #[.slice ao N c, .int .u64 root, vw, .int .u64 va] w fun e w' => e = .returned (.bool true) ∧ Below w.heap.size w w' := by
  have CA := anchor_any
  have CL := fun w => laid_long ao N c hN w
  have HM := Mem.nil w
  go_enter Try.func5, Try.ntmps5
  go_wp2_with (first
    | (go_big_skip)
    | (go_at_call 6; (with_reducible refine (Go.Proofs.Ytmmljeekonechaa.M.call_pure (CA) HM).mono ?_); clear HM; rintro e w_ ⟨rfl, HM⟩; dsimp only)
    | (go_at_call 14; (with_reducible refine (Go.Proofs.Ytmmljeekonechaa.M.call_pure (CL) HM).mono ?_); clear HM; rintro e w_ ⟨rfl, HM⟩; dsimp only)
    | (refine Go.Proofs.Ytmmljeekonechaa.M.at_mem rfl ?_; first | (refine Go.Proofs.Ytmmljeekonechaa.M.at_load 3 rfl ?_; first | (refine Go.Proofs.Ytmmljeekonechaa.M.load_cell_m HM rfl 3 _ rfl 0 _ _ _ _ _ rfl rfl rfl (by kernel_rfl) (by kernel_rfl) ?_; go_simp)) | (refine Go.Proofs.Ytmmljeekonechaa.M.at_load 23 rfl ?_; first | (refine Go.Proofs.Ytmmljeekonechaa.M.load_cell_m HM rfl 23 _ rfl 0 _ _ _ _ _ rfl rfl rfl (by kernel_rfl) (by kernel_rfl) ?_; go_simp)) | (refine Go.Proofs.Ytmmljeekonechaa.M.at_load 30 rfl ?_; first | (refine Go.Proofs.Ytmmljeekonechaa.M.load_row_m HM rfl 30 _ rfl 0 _ _ _ rfl rfl (by kernel_rfl) (by kernel_rfl) ?_; go_simp)) | (refine Go.Proofs.Ytmmljeekonechaa.M.at_load 56 rfl ?_; first | (refine Go.Proofs.Ytmmljeekonechaa.M.load_row_m HM rfl 56 _ rfl 0 _ _ _ rfl rfl (by kernel_rfl) (by kernel_rfl) ?_; go_simp)) | (refine Go.Proofs.Ytmmljeekonechaa.M.at_load 58 rfl ?_; first | (refine Go.Proofs.Ytmmljeekonechaa.M.load_row_m HM rfl 58 _ rfl 0 _ _ _ rfl rfl (by kernel_rfl) (by kernel_rfl) ?_; go_simp)) | (refine Go.Proofs.Ytmmljeekonechaa.M.at_store 30 rfl ?_; first | (refine Go.Proofs.Ytmmljeekonechaa.M.store_row_m HM rfl 30 _ _ rfl 0 _ _ _ _ rfl rfl rfl (by kernel_rfl) rfl (by simp [Value.oneCell']) ?_; clear HM; intro w_ HM; (try simp only [List.set_cons_zero, List.set_cons_succ, List.setIfInBounds_toArray, List.eraseIdx_cons_zero, List.eraseIdx_cons_succ, List.cons_append, List.nil_append] at HM); go_simp)) | (refine Go.Proofs.Ytmmljeekonechaa.M.at_store 56 rfl ?_; first | (refine Go.Proofs.Ytmmljeekonechaa.M.store_row_m HM rfl 56 _ _ rfl 0 _ _ _ _ rfl rfl rfl (by kernel_rfl) rfl (by simp [Value.oneCell']) ?_; clear HM; intro w_ HM; (try simp only [List.set_cons_zero, List.set_cons_succ, List.setIfInBounds_toArray, List.eraseIdx_cons_zero, List.eraseIdx_cons_succ, List.cons_append, List.nil_append] at HM); go_simp)) | (refine Go.Proofs.Ytmmljeekonechaa.M.at_store 58 rfl ?_; first | (refine Go.Proofs.Ytmmljeekonechaa.M.store_row_m HM rfl 58 _ _ rfl 0 _ _ _ _ rfl rfl rfl (by kernel_rfl) rfl (by simp [Value.oneCell']) ?_; clear HM; intro w_ HM; (try simp only [List.set_cons_zero, List.set_cons_succ, List.setIfInBounds_toArray, List.eraseIdx_cons_zero, List.eraseIdx_cons_succ, List.cons_append, List.nil_append] at HM); go_simp)) | (refine Go.Proofs.Ytmmljeekonechaa.M.at_alloc 30 rfl ?_; first | (refine Go.Proofs.Ytmmljeekonechaa.M.alloc_m HM rfl rfl 30 rfl (.agg #[(.int .i64 0), (.int .u64 0), (.int .i64 0), (.int .u64 0)]) (by kernel_rfl) #[(.int .i64 0), (.int .u64 0), (.int .i64 0), (.int .u64 0)] rfl ?_; clear HM; intro g_ w_ HM; go_simp)) | (refine Go.Proofs.Ytmmljeekonechaa.M.at_alloc 56 rfl ?_; first | (refine Go.Proofs.Ytmmljeekonechaa.M.alloc_m HM rfl rfl 56 rfl (.agg #[(.int .i64 0), (.int .i64 0), (.int .u64 0), (.bool false), (.bool false), (.bool false), (.bool false), (.int .i64 0)]) (by kernel_rfl) #[(.int .i64 0), (.int .i64 0), (.int .u64 0), (.bool false), (.bool false), (.bool false), (.bool false), (.int .i64 0)] rfl ?_; clear HM; intro g_ w_ HM; go_simp)) | (refine Go.Proofs.Ytmmljeekonechaa.M.at_alloc 58 rfl ?_; first | (refine Go.Proofs.Ytmmljeekonechaa.M.alloc_m HM rfl rfl 58 rfl (.agg #[(.int .i64 0), (.int .i64 0)]) (by kernel_rfl) #[(.int .i64 0), (.int .i64 0)] rfl ?_; clear HM; intro g_ w_ HM; go_simp)) | ((fail_if_success (refine Go.Proofs.Ytmmljeekonechaa.M.lit_t rfl ?_)); (fail_if_success (refine Go.Proofs.Ytmmljeekonechaa.M.lit_f rfl ?_)); refine Go.Proofs.Ytmmljeekonechaa.M.split_guard rfl rfl ?_ ?_ <;> (intro hg_; simp only [hg_]; try simp only [decide_eq_true_eq, decide_eq_false_iff_not, Bool.and_eq_true, Bool.or_eq_true, Bool.and_eq_false_iff, Bool.or_eq_false_iff, Bool.not_eq_true', Bool.not_eq_false', beq_iff_eq, bne_iff_ne, beq_eq_false_iff_ne, bne_eq_false_iff_eq, Int.not_lt, Int.not_le, ne_eq] at hg_)))
    | (refine Go.Proofs.Ytmmljeekonechaa.Mc.at_cmp _ rfl ?_; refine Go.Proofs.Ytmmljeekonechaa.Mc.cmp_m rfl _ rfl _ _ _ rfl _ _ _ rfl rfl _ rfl ?_ ?_ <;> (intro hg_; try simp only [decide_eq_true_eq, decide_eq_false_iff_not, Bool.and_eq_true, Bool.or_eq_true, Bool.and_eq_false_iff, Bool.or_eq_false_iff, Bool.not_eq_true', Bool.not_eq_false', beq_iff_eq, bne_iff_ne, beq_eq_false_iff_ne, bne_eq_false_iff_eq, Int.not_lt, Int.not_le, ne_eq] at hg_; first | (exfalso; first | omega | (simp at hg_; done)) | (go_simp)))
    | ((fail_if_success (refine Go.Proofs.Ytmmljeekonechaa.M.lit_t rfl ?_)); (fail_if_success (refine Go.Proofs.Ytmmljeekonechaa.M.lit_f rfl ?_)); refine Go.Proofs.Ytmmljeekonechaa.M.split_guard rfl rfl ?_ ?_ <;> (intro hg_; simp only [hg_]; try simp only [decide_eq_true_eq, decide_eq_false_iff_not, Bool.and_eq_true, Bool.or_eq_true, Bool.and_eq_false_iff, Bool.or_eq_false_iff, Bool.not_eq_true', Bool.not_eq_false', beq_iff_eq, bne_iff_ne, beq_eq_false_iff_ne, bne_eq_false_iff_eq, Int.not_lt, Int.not_le, ne_eq] at hg_)))
  all_goals
    go_ret
    exact ⟨by first | rfl | simp, HM.none.to_below⟩
set_option maxHeartbeats 4000000 in
theorem law_walks (ao : Option Addr) (N c : Nat) (hN : N ≤ 60) (es : Nat → W2) (root va : Int) (ax : Option Addr) (n cx : Nat) (hn : 20 < n) (w : World)
    (hA : ∀ i, i < N → W2.ok (es i) ∧ ∃ a, ao = some a ∧ ∀ j v, (es i).cells.toList[j]? = some v → w.cell? (a.add (i * 2 + j)) = some v) :
    Calls Try.prog 5 #[.slice ao N c, .int .u64 root, .slice ax n cx, .int .u64 va] w fun e w' => e = .returned (.bool true) ∧ Below w.heap.size w w' := by
  have CA := anchor_any
  have CL : ∀ u, Mem w [] [] u → Calls Try.prog 14 #[.slice ao N c] u (Ans u [] (laidOk es N)) := fun u hu => laid_ok ao N c hN es u fun i hi => ⟨(hA i hi).1, by
    obtain ⟨a, e, h⟩ := (hA i hi).2
    exact ⟨a, e, fun j v hj => mem_cell hu (h j v hj) (by simp)⟩⟩
  clear hA
  unfold laidOk at CL
  have CLH := Lib.hid CL; clear CL
  have i3 : (20 : Int) < n := by omega
  have HM := Mem.nil w
  go_enter Try.func5, Try.ntmps5
  go_wp2_with (first
    | (go_big_skip)
    | (go_at_call 14; (with_reducible refine (Go.Proofs.Ytmmljeekonechaa.Sm.new_call HM (CLH.out _ (Go.Proofs.Ytmmljeekonechaa.M.Mem.none HM))).mono ?_); clear HM; rintro e w_ ⟨v_, AM_, rfl, ⟨gM_, rfl, hp_⟩, HM⟩; (try simp only [List.append_nil] at HM); dsimp only)
    | (go_at_call 6; (with_reducible refine (Go.Proofs.Ytmmljeekonechaa.M.call_pure (CA) HM).mono ?_); clear HM; rintro e w_ ⟨rfl, HM⟩; dsimp only)
    | (refine Go.Proofs.Ytmmljeekonechaa.M.at_mem rfl ?_; first | (refine Go.Proofs.Ytmmljeekonechaa.M.at_load 3 rfl ?_; first | (refine Go.Proofs.Ytmmljeekonechaa.M.load_cell_m HM rfl 3 _ rfl 0 _ _ _ _ _ rfl rfl rfl (by kernel_rfl) (by kernel_rfl) ?_; go_simp)) | (refine Go.Proofs.Ytmmljeekonechaa.M.at_load 23 rfl ?_; first | (refine Go.Proofs.Ytmmljeekonechaa.M.load_cell_m HM rfl 23 _ rfl 0 _ _ _ _ _ rfl rfl rfl (by kernel_rfl) (by kernel_rfl) ?_; go_simp)) | (refine Go.Proofs.Ytmmljeekonechaa.M.at_load 30 rfl ?_; first | (refine Go.Proofs.Ytmmljeekonechaa.M.load_row_m HM rfl 30 _ rfl 0 _ _ _ rfl rfl (by kernel_rfl) (by kernel_rfl) ?_; go_simp)) | (refine Go.Proofs.Ytmmljeekonechaa.M.at_load 56 rfl ?_; first | (refine Go.Proofs.Ytmmljeekonechaa.M.load_row_m HM rfl 56 _ rfl 0 _ _ _ rfl rfl (by kernel_rfl) (by kernel_rfl) ?_; go_simp)) | (refine Go.Proofs.Ytmmljeekonechaa.M.at_load 58 rfl ?_; first | (refine Go.Proofs.Ytmmljeekonechaa.M.load_row_m HM rfl 58 _ rfl 0 _ _ _ rfl rfl (by kernel_rfl) (by kernel_rfl) ?_; go_simp)) | (refine Go.Proofs.Ytmmljeekonechaa.M.at_store 30 rfl ?_; first | (refine Go.Proofs.Ytmmljeekonechaa.M.store_row_m HM rfl 30 _ _ rfl 0 _ _ _ _ rfl rfl rfl (by kernel_rfl) rfl (by simp [Value.oneCell']) ?_; clear HM; intro w_ HM; (try simp only [List.set_cons_zero, List.set_cons_succ, List.setIfInBounds_toArray, List.eraseIdx_cons_zero, List.eraseIdx_cons_succ, List.cons_append, List.nil_append] at HM); go_simp)) | (refine Go.Proofs.Ytmmljeekonechaa.M.at_store 56 rfl ?_; first | (refine Go.Proofs.Ytmmljeekonechaa.M.store_row_m HM rfl 56 _ _ rfl 0 _ _ _ _ rfl rfl rfl (by kernel_rfl) rfl (by simp [Value.oneCell']) ?_; clear HM; intro w_ HM; (try simp only [List.set_cons_zero, List.set_cons_succ, List.setIfInBounds_toArray, List.eraseIdx_cons_zero, List.eraseIdx_cons_succ, List.cons_append, List.nil_append] at HM); go_simp)) | (refine Go.Proofs.Ytmmljeekonechaa.M.at_store 58 rfl ?_; first | (refine Go.Proofs.Ytmmljeekonechaa.M.store_row_m HM rfl 58 _ _ rfl 0 _ _ _ _ rfl rfl rfl (by kernel_rfl) rfl (by simp [Value.oneCell']) ?_; clear HM; intro w_ HM; (try simp only [List.set_cons_zero, List.set_cons_succ, List.setIfInBounds_toArray, List.eraseIdx_cons_zero, List.eraseIdx_cons_succ, List.cons_append, List.nil_append] at HM); go_simp)) | (refine Go.Proofs.Ytmmljeekonechaa.M.at_alloc 30 rfl ?_; first | (refine Go.Proofs.Ytmmljeekonechaa.M.alloc_m HM rfl rfl 30 rfl (.agg #[(.int .i64 0), (.int .u64 0), (.int .i64 0), (.int .u64 0)]) (by kernel_rfl) #[(.int .i64 0), (.int .u64 0), (.int .i64 0), (.int .u64 0)] rfl ?_; clear HM; intro g_ w_ HM; go_simp)) | (refine Go.Proofs.Ytmmljeekonechaa.M.at_alloc 56 rfl ?_; first | (refine Go.Proofs.Ytmmljeekonechaa.M.alloc_m HM rfl rfl 56 rfl (.agg #[(.int .i64 0), (.int .i64 0), (.int .u64 0), (.bool false), (.bool false), (.bool false), (.bool false), (.int .i64 0)]) (by kernel_rfl) #[(.int .i64 0), (.int .i64 0), (.int .u64 0), (.bool false), (.bool false), (.bool false), (.bool false), (.int .i64 0)] rfl ?_; clear HM; intro g_ w_ HM; go_simp)) | (refine Go.Proofs.Ytmmljeekonechaa.M.at_alloc 58 rfl ?_; first | (refine Go.Proofs.Ytmmljeekonechaa.M.alloc_m HM rfl rfl 58 rfl (.agg #[(.int .i64 0), (.int .i64 0)]) (by kernel_rfl) #[(.int .i64 0), (.int .i64 0)] rfl ?_; clear HM; intro g_ w_ HM; go_simp)) | ((fail_if_success (refine Go.Proofs.Ytmmljeekonechaa.M.lit_t rfl ?_)); (fail_if_success (refine Go.Proofs.Ytmmljeekonechaa.M.lit_f rfl ?_)); refine Go.Proofs.Ytmmljeekonechaa.M.split_guard rfl rfl ?_ ?_ <;> (intro hg_; simp only [hg_]; try simp only [decide_eq_true_eq, decide_eq_false_iff_not, Bool.and_eq_true, Bool.or_eq_true, Bool.and_eq_false_iff, Bool.or_eq_false_iff, Bool.not_eq_true', Bool.not_eq_false', beq_iff_eq, bne_iff_ne, beq_eq_false_iff_ne, bne_eq_false_iff_eq, Int.not_lt, Int.not_le, ne_eq] at hg_)))
    | (refine Go.Proofs.Ytmmljeekonechaa.Mc.at_cmp _ rfl ?_; refine Go.Proofs.Ytmmljeekonechaa.Mc.cmp_m rfl _ rfl _ _ _ rfl _ _ _ rfl rfl _ rfl ?_ ?_ <;> (intro hg_; try simp only [decide_eq_true_eq, decide_eq_false_iff_not, Bool.and_eq_true, Bool.or_eq_true, Bool.and_eq_false_iff, Bool.or_eq_false_iff, Bool.not_eq_true', Bool.not_eq_false', beq_iff_eq, bne_iff_ne, beq_eq_false_iff_ne, bne_eq_false_iff_eq, Int.not_lt, Int.not_le, ne_eq] at hg_; first | (exfalso; first | omega | (simp at hg_; done)) | (go_simp)))
    | ((fail_if_success (refine Go.Proofs.Ytmmljeekonechaa.M.lit_t rfl ?_)); (fail_if_success (refine Go.Proofs.Ytmmljeekonechaa.M.lit_f rfl ?_)); refine Go.Proofs.Ytmmljeekonechaa.M.split_guard rfl rfl ?_ ?_ <;> (intro hg_; simp only [hg_]; try simp only [decide_eq_true_eq, decide_eq_false_iff_not, Bool.and_eq_true, Bool.or_eq_true, Bool.and_eq_false_iff, Bool.or_eq_false_iff, Bool.not_eq_true', Bool.not_eq_false', beq_iff_eq, bne_iff_ne, beq_eq_false_iff_ne, bne_eq_false_iff_eq, Int.not_lt, Int.not_le, ne_eq] at hg_)))
  all_goals
    go_ret
    exact ⟨by first | rfl | simp, HM.none.to_below⟩
/-- Walked over steps in memory. -/
theorem walked_in {l0 : List K} {gT : Nat} {T0 : Hp} (HT0 : TR 64 l0 gT T0) (hl0 : (l0.length : Int) ≤ 64) (asid va : Int) (v0 : 0 ≤ va) (v1 : va < 18446744073709551616) (st : List W2) (h1 : st.length ≤ 4) (hok : ∀ (i : Nat) (s : W2), st[i]? = some s → 0 ≤ s.word ∧ s.word < 18446744073709551616)
    {p : Option Addr} {c : Nat} {AS AM : Hp} (hV : LV 64 st p AS) {w0 u : World} {M : List Nat} (HM : Mem w0 M (T0 ++ (AM ++ AS)) u) :
    Calls Try.prog 15 #[.pointer (some ⟨gT, 0, none⟩), .int .i64 asid, .int .u64 va, .int .i64 0, .slice p st.length c] u fun e u' => ∃ T', e = .returned (.int .i64 ((walkedL 64 asid va st 0 l0).2 : Nat)) ∧ TR 64 (walkedL 64 asid va st 0 l0).1 gT T' ∧ Mem w0 M (T' ++ AM) u' := by
  have hw := walked_any (most := 64) (by decide) (by decide) HT0 hl0 asid va 0 v0 v1 st p st.length c rfl (by omega) (fun s hs => by
    obtain ⟨i, hi⟩ := List.mem_iff_getElem?.1 hs
    exact hok i s hi) (w0 := w0) (M := M) (R := AM ++ AS) (fun hne => by
      rcases hV with ⟨-, rfl, -⟩ | ⟨g, off, cur, rfl, -, -⟩
      · exact absurd rfl hne
      · exact ⟨_, rfl⟩) (by
    intro X u' hm a hp i s hs j v hj
    subst hp
    obtain ⟨a', ha, hcell⟩ := hV.cells (u := u') (by exact hm.has.right.right) hs
    cases ha
    exact hcell j v hj) HM
  unfold WOut at hw
  exact hw.mono fun e u' ⟨T', h1, h2, h3⟩ => ⟨T', h1, h2, by
    rw [← List.append_assoc] at h3
    exact (h3.perm List.perm_append_comm).drop⟩
set_option maxHeartbeats 8000000 in
theorem law_in (ao : Option Addr) (N c : Nat) (hN : N ≤ 60) (es : Nat → W2) (root va : Int) (t0 : 0 ≤ root) (t1 : root < 18446744073709551616) (v0 : 0 ≤ va) (v1 : va < 18446744073709551616) (ax : Option Addr) (n cx : Nat) (hn : n ≤ 20) (xs : List Int) (hxl : xs.length = n) (hr : ∀ x ∈ xs, 0 ≤ x ∧ x < 18446744073709551616) (w : World)
    (hX : ∀ j, j < n → ∃ a, ax = some a ∧ w.cell? (a.add j) = some (.int .u64 (xs.getD j 0)))
    (hA : ∀ i, i < N → W2.ok (es i) ∧ ∃ a, ao = some a ∧ ∀ j v, (es i).cells.toList[j]? = some v → w.cell? (a.add (i * 2 + j)) = some v) :
    Calls Try.prog 5 #[.slice ao N c, .int .u64 root, .slice ax n cx, .int .u64 va] w fun e w' => e = .returned (.bool true) ∧ Below w.heap.size w w' := by
  have hfr : ∀ n, 0 ≤ wrs 1048576 es N n ∧ wrs 1048576 es N n < 18446744073709551616 := wrs_rng 1048576 es N fun i hi => (hA i hi).1
  have CA := anchor_any
  have CL : ∀ u, Mem w [] [] u → Calls Try.prog 14 #[.slice ao N c] u (Ans u [] (laidOk es N)) := fun u hu => laid_ok ao N c hN es u fun i hi => ⟨(hA i hi).1, by
    obtain ⟨a, e, h⟩ := (hA i hi).2
    exact ⟨a, e, fun j v hj => mem_cell hu (h j v hj) (by simp)⟩⟩
  clear hA
  unfold laidOk at CL
  have CN := fun w => new_ok 64 (by decide) (by decide) w
  have CW := fun (gM : Nat) (AM : Hp) (hp : Pm 1048576 (wrs 1048576 es N) gM AM) => walk_any hp (by decide) (by decide) root va t0 t1 v0 v1
  have CG := fun (gM : Nat) (AM : Hp) (hp : Pm 1048576 (wrs 1048576 es N) gM AM) (level table : Int) (h0 : 0 ≤ table) (h1 : table < 18446744073709551616) => wfrom_any hp (by decide) (by decide) table level va h0 h1 v0 v1
  have CT := fun (x : Int) (x0 : 0 ≤ x) (x1 : x < 18446744073709551616) (gM : Nat) (AM : Hp) (hp : Pm 1048576 (wrs 1048576 es N) gM AM) => trace_any hp (by decide) (by decide) root 0 x t0 t1 x0 x1
  generalize wrs 1048576 es N = f at CL CW CG CT hfr
  have HFR := Lib.hid hfr
  have i3 : (n : Int) ≤ 20 := by omega
  have CLH := Lib.hid CL; have CWH := Lib.hid CW; have CGH := Lib.hid CG; have CTH := Lib.hid CT; have HX := Lib.hid hX; have HR := Lib.hid hr; have HXL := Lib.hid hxl
  clear CL CW CG CT hX hfr hr hxl
  have HM := Mem.nil w
  go_enter Try.func5, Try.ntmps5
  go_wp2_with (first
    | (go_big_skip)
    | (go_at_call 14; (with_reducible refine (Go.Proofs.Ytmmljeekonechaa.Sm.new_call HM (CLH.out _ (Go.Proofs.Ytmmljeekonechaa.M.Mem.none HM))).mono ?_); clear HM; rintro e w_ ⟨v_, AM_, rfl, ⟨gM_, rfl, hp_⟩, HM⟩; (try simp only [List.append_nil] at HM); dsimp only)
    | (go_at_call 7; (with_reducible refine (Go.Proofs.Ytmmljeekonechaa.Sm.new_call HM (CN _)).mono ?_); clear HM; rintro e w_ ⟨v_, L_, rfl, ⟨gT_, rfl, rfl⟩, HM⟩; (try simp only [List.append_nil, List.cons_append, List.nil_append] at HM); dsimp only)
    | (go_at_call 6; (with_reducible refine (Go.Proofs.Ytmmljeekonechaa.M.call_pure (CA) HM).mono ?_); clear HM; rintro e w_ ⟨rfl, HM⟩; dsimp only)
    | (refine Go.Proofs.Ytmmljeekonechaa.M.at_mem rfl ?_; first | (refine Go.Proofs.Ytmmljeekonechaa.M.at_load 3 rfl ?_; first | (refine Go.Proofs.Ytmmljeekonechaa.M.load_cell_m HM rfl 3 _ rfl 0 _ _ _ _ _ rfl rfl rfl (by kernel_rfl) (by kernel_rfl) ?_; go_simp)) | (refine Go.Proofs.Ytmmljeekonechaa.M.at_load 23 rfl ?_; first | (refine Go.Proofs.Ytmmljeekonechaa.M.load_cell_m HM rfl 23 _ rfl 0 _ _ _ _ _ rfl rfl rfl (by kernel_rfl) (by kernel_rfl) ?_; go_simp)) | (refine Go.Proofs.Ytmmljeekonechaa.M.at_load 30 rfl ?_; first | (refine Go.Proofs.Ytmmljeekonechaa.M.load_row_m HM rfl 30 _ rfl 0 _ _ _ rfl rfl (by kernel_rfl) (by kernel_rfl) ?_; go_simp)) | (refine Go.Proofs.Ytmmljeekonechaa.M.at_load 56 rfl ?_; first | (refine Go.Proofs.Ytmmljeekonechaa.M.load_row_m HM rfl 56 _ rfl 0 _ _ _ rfl rfl (by kernel_rfl) (by kernel_rfl) ?_; go_simp)) | (refine Go.Proofs.Ytmmljeekonechaa.M.at_load 58 rfl ?_; first | (refine Go.Proofs.Ytmmljeekonechaa.M.load_row_m HM rfl 58 _ rfl 0 _ _ _ rfl rfl (by kernel_rfl) (by kernel_rfl) ?_; go_simp)) | (refine Go.Proofs.Ytmmljeekonechaa.M.at_store 30 rfl ?_; first | (refine Go.Proofs.Ytmmljeekonechaa.M.store_row_m HM rfl 30 _ _ rfl 0 _ _ _ _ rfl rfl rfl (by kernel_rfl) rfl (by simp [Value.oneCell']) ?_; clear HM; intro w_ HM; (try simp only [List.set_cons_zero, List.set_cons_succ, List.setIfInBounds_toArray, List.eraseIdx_cons_zero, List.eraseIdx_cons_succ, List.cons_append, List.nil_append] at HM); go_simp)) | (refine Go.Proofs.Ytmmljeekonechaa.M.at_store 56 rfl ?_; first | (refine Go.Proofs.Ytmmljeekonechaa.M.store_row_m HM rfl 56 _ _ rfl 0 _ _ _ _ rfl rfl rfl (by kernel_rfl) rfl (by simp [Value.oneCell']) ?_; clear HM; intro w_ HM; (try simp only [List.set_cons_zero, List.set_cons_succ, List.setIfInBounds_toArray, List.eraseIdx_cons_zero, List.eraseIdx_cons_succ, List.cons_append, List.nil_append] at HM); go_simp)) | (refine Go.Proofs.Ytmmljeekonechaa.M.at_store 58 rfl ?_; first | (refine Go.Proofs.Ytmmljeekonechaa.M.store_row_m HM rfl 58 _ _ rfl 0 _ _ _ _ rfl rfl rfl (by kernel_rfl) rfl (by simp [Value.oneCell']) ?_; clear HM; intro w_ HM; (try simp only [List.set_cons_zero, List.set_cons_succ, List.setIfInBounds_toArray, List.eraseIdx_cons_zero, List.eraseIdx_cons_succ, List.cons_append, List.nil_append] at HM); go_simp)) | (refine Go.Proofs.Ytmmljeekonechaa.M.at_alloc 30 rfl ?_; first | (refine Go.Proofs.Ytmmljeekonechaa.M.alloc_m HM rfl rfl 30 rfl (.agg #[(.int .i64 0), (.int .u64 0), (.int .i64 0), (.int .u64 0)]) (by kernel_rfl) #[(.int .i64 0), (.int .u64 0), (.int .i64 0), (.int .u64 0)] rfl ?_; clear HM; intro g_ w_ HM; go_simp)) | (refine Go.Proofs.Ytmmljeekonechaa.M.at_alloc 56 rfl ?_; first | (refine Go.Proofs.Ytmmljeekonechaa.M.alloc_m HM rfl rfl 56 rfl (.agg #[(.int .i64 0), (.int .i64 0), (.int .u64 0), (.bool false), (.bool false), (.bool false), (.bool false), (.int .i64 0)]) (by kernel_rfl) #[(.int .i64 0), (.int .i64 0), (.int .u64 0), (.bool false), (.bool false), (.bool false), (.bool false), (.int .i64 0)] rfl ?_; clear HM; intro g_ w_ HM; go_simp)) | (refine Go.Proofs.Ytmmljeekonechaa.M.at_alloc 58 rfl ?_; first | (refine Go.Proofs.Ytmmljeekonechaa.M.alloc_m HM rfl rfl 58 rfl (.agg #[(.int .i64 0), (.int .i64 0)]) (by kernel_rfl) #[(.int .i64 0), (.int .i64 0)] rfl ?_; clear HM; intro g_ w_ HM; go_simp)) | ((fail_if_success (refine Go.Proofs.Ytmmljeekonechaa.M.lit_t rfl ?_)); (fail_if_success (refine Go.Proofs.Ytmmljeekonechaa.M.lit_f rfl ?_)); refine Go.Proofs.Ytmmljeekonechaa.M.split_guard rfl rfl ?_ ?_ <;> (intro hg_; simp only [hg_]; try simp only [decide_eq_true_eq, decide_eq_false_iff_not, Bool.and_eq_true, Bool.or_eq_true, Bool.and_eq_false_iff, Bool.or_eq_false_iff, Bool.not_eq_true', Bool.not_eq_false', beq_iff_eq, bne_iff_ne, beq_eq_false_iff_ne, bne_eq_false_iff_eq, Int.not_lt, Int.not_le, ne_eq] at hg_)))
    | (refine Go.Proofs.Ytmmljeekonechaa.Mc.at_cmp _ rfl ?_; refine Go.Proofs.Ytmmljeekonechaa.Mc.cmp_m rfl _ rfl _ _ _ rfl _ _ _ rfl rfl _ rfl ?_ ?_ <;> (intro hg_; try simp only [decide_eq_true_eq, decide_eq_false_iff_not, Bool.and_eq_true, Bool.or_eq_true, Bool.and_eq_false_iff, Bool.or_eq_false_iff, Bool.not_eq_true', Bool.not_eq_false', beq_iff_eq, bne_iff_ne, beq_eq_false_iff_ne, bne_eq_false_iff_eq, Int.not_lt, Int.not_le, ne_eq] at hg_; first | (exfalso; first | omega | (simp at hg_; done)) | (go_simp)))
    | ((fail_if_success (refine Go.Proofs.Ytmmljeekonechaa.M.lit_t rfl ?_)); (fail_if_success (refine Go.Proofs.Ytmmljeekonechaa.M.lit_f rfl ?_)); refine Go.Proofs.Ytmmljeekonechaa.M.split_guard rfl rfl ?_ ?_ <;> (intro hg_; simp only [hg_]; try simp only [decide_eq_true_eq, decide_eq_false_iff_not, Bool.and_eq_true, Bool.or_eq_true, Bool.and_eq_false_iff, Bool.or_eq_false_iff, Bool.not_eq_true', Bool.not_eq_false', beq_iff_eq, bne_iff_ne, beq_eq_false_iff_ne, bne_eq_false_iff_eq, Int.not_lt, Int.not_le, ne_eq] at hg_)))
  clear CN CA CLH
  go_loopw [47] (fun v wr => ∃ (k : Nat) (l : List K) (T AM : Hp), k ≤ n ∧ v = .int .i64 k ∧ (l.length : Int) ≤ 64 ∧ (k = 0 → l = []) ∧ (∀ e ∈ l, Zi.Good 1048576 f root e) ∧ TR 64 l gT_ T ∧ Pm 1048576 f gM_ AM ∧ Mem w [] (T ++ AM) wr) (fun v _ => n - (intOf v).toNat)
  case atStart => exact ⟨0, [], _, AM_, by omega, rfl, by simp, fun _ => rfl, by simp, TR.nil 64 gT_, hp_, HM⟩
  case round =>
    clear HM hp_
    obtain ⟨k, l, T, AM, kR, rfl, hl, hk0, hgood, HT, hp, HM⟩ := hrel
    by_cases hlt : k < n
    · obtain ⟨a, rfl, hc⟩ := HX.out k hlt
      have hk1 : (k : Int) < n := by omega
      have hx := HR.out (xs.getD k 0) (by rw [List.getD_eq_getElem?_getD, List.getElem?_eq_getElem (by have := HXL.out; omega)]; simp)
      have HC := Lib.hid hc
      clear hc hk0
      generalize xs.getD k 0 = x at HC hx
      have CT := CTH.out x hx.1 hx.2 _ _ hp
      have hst := from_len 1048576 f 0 root x
      have hsp := fun i s h => (from_steps 1048576 f HFR.out root x i s h).1
      have hgd := walked_good 1048576 f HFR.out root x hx.1 _ 0 l rfl hgood
      rw [List.drop_zero] at hgd
      have hwl := walkedL_len (asid := 7) (va := x) (fromV 1048576 f 0 root x).st 0 l (show (l.length : Int) ≤ 64 from hl)
      generalize (fromV 1048576 f 0 root x).st = st at CT hst hsp hgd hwl
      have HGD := Lib.hid hgd; have HSP := Lib.hid hsp; have HL := Lib.hid hl; have HWL := Lib.hid hwl; have HST := Lib.hid hst
      clear hgd hsp hp hl hwl hgood hst
      go_wp2_with (first
        | (go_big_skip)
        | (refine Go.Proofs.Ytmmljeekonechaa.Sl.at_indexAddr 47 rfl ?_; refine Go.Proofs.Ytmmljeekonechaa.Sm.indexAddr_arg_m rfl _ rfl 47 rfl 23 (by kernel_rfl) 1 (by kernel_rfl) a (n) (cx) rfl .i64 (k : Int) rfl (by omega) (by omega) (k * 1) (by omega) ?_; go_simp)
        | (go_at_call 16; (with_reducible refine (Go.Proofs.Ytmmljeekonechaa.M.Does.tail T CT HM).mono ?_); clear HM CT; rintro e w_ ⟨v_, L_, rfl, ⟨AS_, AM2_, hS_, hp2_, rfl⟩, HM⟩; obtain ⟨p1_, c1_, rfl, hc1_, hV1_⟩ := hS_.read; dsimp only)
        | (go_at_call 15; (with_reducible refine (walked_in HT HL.out 7 x hx.1 hx.2 st HST.out HSP.out hV1_ HM).mono ?_); clear HM HT; rintro e w_ ⟨T2_, rfl, HT2_, HM⟩; dsimp only)
        | (refine Go.Proofs.Ytmmljeekonechaa.M.at_mem rfl ?_; first | (refine Go.Proofs.Ytmmljeekonechaa.M.at_load 3 rfl ?_; first | (refine Go.Proofs.Ytmmljeekonechaa.Sm.load_arg_m HM rfl 23 _ rfl (a.add k) rfl (.int .u64 x) HC.out (by simp) (by kernel_rfl) (by kernel_rfl) ?_; go_simp) | (refine Go.Proofs.Ytmmljeekonechaa.M.load_cell_m HM rfl 3 _ rfl 0 _ _ _ _ _ rfl rfl rfl (by kernel_rfl) (by kernel_rfl) ?_; go_simp)) | (refine Go.Proofs.Ytmmljeekonechaa.M.at_load 23 rfl ?_; first | (refine Go.Proofs.Ytmmljeekonechaa.Sm.load_arg_m HM rfl 23 _ rfl (a.add k) rfl (.int .u64 x) HC.out (by simp) (by kernel_rfl) (by kernel_rfl) ?_; go_simp) | (refine Go.Proofs.Ytmmljeekonechaa.M.load_cell_m HM rfl 23 _ rfl 0 _ _ _ _ _ rfl rfl rfl (by kernel_rfl) (by kernel_rfl) ?_; go_simp)) | (refine Go.Proofs.Ytmmljeekonechaa.M.at_load 30 rfl ?_; first | (refine Go.Proofs.Ytmmljeekonechaa.Sm.load_arg_m HM rfl 23 _ rfl (a.add k) rfl (.int .u64 x) HC.out (by simp) (by kernel_rfl) (by kernel_rfl) ?_; go_simp) | (refine Go.Proofs.Ytmmljeekonechaa.M.load_row_m HM rfl 30 _ rfl 0 _ _ _ rfl rfl (by kernel_rfl) (by kernel_rfl) ?_; go_simp)) | (refine Go.Proofs.Ytmmljeekonechaa.M.at_load 56 rfl ?_; first | (refine Go.Proofs.Ytmmljeekonechaa.Sm.load_arg_m HM rfl 23 _ rfl (a.add k) rfl (.int .u64 x) HC.out (by simp) (by kernel_rfl) (by kernel_rfl) ?_; go_simp) | (refine Go.Proofs.Ytmmljeekonechaa.M.load_row_m HM rfl 56 _ rfl 0 _ _ _ rfl rfl (by kernel_rfl) (by kernel_rfl) ?_; go_simp)) | (refine Go.Proofs.Ytmmljeekonechaa.M.at_load 58 rfl ?_; first | (refine Go.Proofs.Ytmmljeekonechaa.Sm.load_arg_m HM rfl 23 _ rfl (a.add k) rfl (.int .u64 x) HC.out (by simp) (by kernel_rfl) (by kernel_rfl) ?_; go_simp) | (refine Go.Proofs.Ytmmljeekonechaa.M.load_row_m HM rfl 58 _ rfl 0 _ _ _ rfl rfl (by kernel_rfl) (by kernel_rfl) ?_; go_simp)) | (refine Go.Proofs.Ytmmljeekonechaa.M.at_store 30 rfl ?_; first | (refine Go.Proofs.Ytmmljeekonechaa.M.store_row_m HM rfl 30 _ _ rfl 0 _ _ _ _ rfl rfl rfl (by kernel_rfl) rfl (by simp [Value.oneCell']) ?_; clear HM; intro w_ HM; (try simp only [List.set_cons_zero, List.set_cons_succ, List.setIfInBounds_toArray, List.eraseIdx_cons_zero, List.eraseIdx_cons_succ, List.cons_append, List.nil_append] at HM); go_simp)) | (refine Go.Proofs.Ytmmljeekonechaa.M.at_store 56 rfl ?_; first | (refine Go.Proofs.Ytmmljeekonechaa.M.store_row_m HM rfl 56 _ _ rfl 0 _ _ _ _ rfl rfl rfl (by kernel_rfl) rfl (by simp [Value.oneCell']) ?_; clear HM; intro w_ HM; (try simp only [List.set_cons_zero, List.set_cons_succ, List.setIfInBounds_toArray, List.eraseIdx_cons_zero, List.eraseIdx_cons_succ, List.cons_append, List.nil_append] at HM); go_simp)) | (refine Go.Proofs.Ytmmljeekonechaa.M.at_store 58 rfl ?_; first | (refine Go.Proofs.Ytmmljeekonechaa.M.store_row_m HM rfl 58 _ _ rfl 0 _ _ _ _ rfl rfl rfl (by kernel_rfl) rfl (by simp [Value.oneCell']) ?_; clear HM; intro w_ HM; (try simp only [List.set_cons_zero, List.set_cons_succ, List.setIfInBounds_toArray, List.eraseIdx_cons_zero, List.eraseIdx_cons_succ, List.cons_append, List.nil_append] at HM); go_simp)) | (refine Go.Proofs.Ytmmljeekonechaa.M.at_alloc 30 rfl ?_; first | (refine Go.Proofs.Ytmmljeekonechaa.M.alloc_m HM rfl rfl 30 rfl (.agg #[(.int .i64 0), (.int .u64 0), (.int .i64 0), (.int .u64 0)]) (by kernel_rfl) #[(.int .i64 0), (.int .u64 0), (.int .i64 0), (.int .u64 0)] rfl ?_; clear HM; intro g_ w_ HM; go_simp)) | (refine Go.Proofs.Ytmmljeekonechaa.M.at_alloc 56 rfl ?_; first | (refine Go.Proofs.Ytmmljeekonechaa.M.alloc_m HM rfl rfl 56 rfl (.agg #[(.int .i64 0), (.int .i64 0), (.int .u64 0), (.bool false), (.bool false), (.bool false), (.bool false), (.int .i64 0)]) (by kernel_rfl) #[(.int .i64 0), (.int .i64 0), (.int .u64 0), (.bool false), (.bool false), (.bool false), (.bool false), (.int .i64 0)] rfl ?_; clear HM; intro g_ w_ HM; go_simp)) | (refine Go.Proofs.Ytmmljeekonechaa.M.at_alloc 58 rfl ?_; first | (refine Go.Proofs.Ytmmljeekonechaa.M.alloc_m HM rfl rfl 58 rfl (.agg #[(.int .i64 0), (.int .i64 0)]) (by kernel_rfl) #[(.int .i64 0), (.int .i64 0)] rfl ?_; clear HM; intro g_ w_ HM; go_simp)) | ((fail_if_success (refine Go.Proofs.Ytmmljeekonechaa.M.lit_t rfl ?_)); (fail_if_success (refine Go.Proofs.Ytmmljeekonechaa.M.lit_f rfl ?_)); refine Go.Proofs.Ytmmljeekonechaa.M.split_guard rfl rfl ?_ ?_ <;> (intro hg_; simp only [hg_]; try simp only [decide_eq_true_eq, decide_eq_false_iff_not, Bool.and_eq_true, Bool.or_eq_true, Bool.and_eq_false_iff, Bool.or_eq_false_iff, Bool.not_eq_true', Bool.not_eq_false', beq_iff_eq, bne_iff_ne, beq_eq_false_iff_ne, bne_eq_false_iff_eq, Int.not_lt, Int.not_le, ne_eq] at hg_)))
        | (refine Go.Proofs.Ytmmljeekonechaa.Mc.at_cmp _ rfl ?_; refine Go.Proofs.Ytmmljeekonechaa.Mc.cmp_m rfl _ rfl _ _ _ rfl _ _ _ rfl rfl _ rfl ?_ ?_ <;> (intro hg_; try simp only [decide_eq_true_eq, decide_eq_false_iff_not, Bool.and_eq_true, Bool.or_eq_true, Bool.and_eq_false_iff, Bool.or_eq_false_iff, Bool.not_eq_true', Bool.not_eq_false', beq_iff_eq, bne_iff_ne, beq_eq_false_iff_ne, bne_eq_false_iff_eq, Int.not_lt, Int.not_le, ne_eq] at hg_; first | (exfalso; first | omega | (simp at hg_; done)) | (go_simp)))
        | ((fail_if_success (refine Go.Proofs.Ytmmljeekonechaa.M.lit_t rfl ?_)); (fail_if_success (refine Go.Proofs.Ytmmljeekonechaa.M.lit_f rfl ?_)); refine Go.Proofs.Ytmmljeekonechaa.M.split_guard rfl rfl ?_ ?_ <;> (intro hg_; simp only [hg_]; try simp only [decide_eq_true_eq, decide_eq_false_iff_not, Bool.and_eq_true, Bool.or_eq_true, Bool.and_eq_false_iff, Bool.or_eq_false_iff, Bool.not_eq_true', Bool.not_eq_false', beq_iff_eq, bne_iff_ne, beq_eq_false_iff_ne, bne_eq_false_iff_eq, Int.not_lt, Int.not_le, ne_eq] at hg_)))
      all_goals
        go_roundw
        case rel => exact ⟨k + 1, _, T2_, AM2_, by omega, by first | rfl | (refine congrArg (fun z => Value.int .i64 z) ?_; omega), HWL.out, by omega, HGD.out, HT2_, hp2_, HM⟩
        case measure => simp [intOf]; omega
    · obtain rfl : k = n := by omega
      have CW := CWH.out _ _ hp
      have CB := best_any HT (fun e he => (hgood e he).1) 7 va v0 v1 (by omega)
      have hmem := best_mem (asid := 7) (va := va) l (fun e he => (rightK_level (hgood e he).1).2.2.1)
      generalize hres : fromV 1048576 f 0 root va = res at CW
      unfold BestRel at CB
      generalize hb : bestK 7 va l = b at CB hmem
      have hend : (0 < b.level ∧ 0 ≤ b.table ∧ b.table < 18446744073709551616 ∧ resV (fromV 1048576 f b.level b.table va) = resV res) ∨ (b = K.zero ∧ (k = 0 ∨ True)) := by
        rcases hmem with h | ⟨h1, h2⟩
        · exact .inr ⟨h, .inr trivial⟩
        · have hg := hgood b h1
          have hrk := rightK_level hg.1
          have hrt := rightK_table hg.1
          refine .inl ⟨by omega, hg.2.1, by omega, ?_⟩
          rw [← hres]
          exact res_same (hg.2.2 va v0 h2)
      clear hres hb hmem
      have i4 : (0 : Int) ≤ k := by omega
      obtain ⟨lev, ⟨kind, out, user, write, exec, used, attr⟩, fk, fl, st⟩ := res
      simp only [resV, leafV, fltV] at CW
      unfold bestV at CB
      obtain ⟨ba, bv, bl, bt⟩ := b
      dsimp only at hend CB
      simp only [K.cells] at CB
      rcases hend with ⟨hb0, hb1, hb2, hb3⟩ | ⟨hbz, -⟩
      · rw [decide_eq_true hb0] at CB
        have CF := fun (gM : Nat) (AM : Hp) (hp : Pm 1048576 f gM AM) => CGH.out gM AM hp bl bt hb1 hb2
        rw [hb3] at CF
        simp only [resV, leafV, fltV] at CF
        have e1 : eqB .eql (decide (L8.mk lev kind out user write exec used attr = L8.mk lev kind out user write exec used attr)) = some true := by simp [eqB]
        have e2 : eqB .eql (decide (F2.mk fk fl = F2.mk fk fl)) = some true := by simp [eqB]
        have HB1 := Lib.hid e1; have HB2 := Lib.hid e2; have CFH := Lib.hid CF
        clear e1 e2 CF hb3 hgood
        go_wp2_with (first
          | (go_big_skip)
          | (go_at_call 17; have HM_ : Go.Proofs.Ytmmljeekonechaa.M.Mem _ _ ((T) ++ (AM)) _ := HM; (with_reducible refine (Go.Proofs.Ytmmljeekonechaa.M.Does.tail _ (CW) HM_).mono ?_); clear HM HM_ CW hp; rintro e w_ ⟨v_, AM2_, rfl, ⟨rfl, hp2_⟩, HM⟩; (try simp only [List.cons_append, List.nil_append] at HM); dsimp only)
          | (go_at_call 11; (refine (Go.Proofs.Ytmmljeekonechaa.Yf.Does.mid [_, _] AM2_ CB HM).mono ?_); clear HM CB; rintro e w_ ⟨v_, T2_, rfl, ⟨rfl, rfl⟩, HM⟩; (try simp only [List.cons_append, List.nil_append] at HM); dsimp only)
          | (go_at_call 18; have HM_ : Go.Proofs.Ytmmljeekonechaa.M.Mem _ _ ((_ :: _ :: _ :: T2_) ++ AM2_) _ := HM; (with_reducible refine (Go.Proofs.Ytmmljeekonechaa.M.Does.tail _ (CFH.out _ _ hp2_) HM_).mono ?_); clear HM HM_; rintro e w_ ⟨v_, AM3_, rfl, ⟨rfl, hp3_⟩, HM⟩; (try simp only [List.cons_append, List.nil_append] at HM); dsimp only)
          | (refine Go.Proofs.Ytmmljeekonechaa.Mc.at_cmp .eql rfl ?_; first | (refine Go.Proofs.Ytmmljeekonechaa.Ls.eqRv_m (T := L8) rfl _ rfl .eql _ _ rfl Go.Proofs.Ytmmljeekonechaa.Yl.eqL (L8.mk lev kind out user write exec used attr) (L8.mk lev kind out user write exec used attr) rfl rfl true (HB1.out) ?_; go_simp))
          | (refine Go.Proofs.Ytmmljeekonechaa.Mc.at_cmp .eql rfl ?_; first | (refine Go.Proofs.Ytmmljeekonechaa.Ls.eqRv_m (T := F2) rfl _ rfl .eql _ _ rfl Go.Proofs.Ytmmljeekonechaa.Yl.eqF (F2.mk fk fl) (F2.mk fk fl) rfl rfl true (HB2.out) ?_; go_simp))
          | (refine Go.Proofs.Ytmmljeekonechaa.M.at_mem rfl ?_; first | (refine Go.Proofs.Ytmmljeekonechaa.M.at_load 3 rfl ?_; first | (refine Go.Proofs.Ytmmljeekonechaa.M.load_cell_m HM rfl 3 _ rfl 0 _ _ _ _ _ rfl rfl rfl (by kernel_rfl) (by kernel_rfl) ?_; go_simp) | (refine Go.Proofs.Ytmmljeekonechaa.M.load_cell_m HM rfl 3 _ rfl 1 _ _ _ _ _ rfl rfl rfl (by kernel_rfl) (by kernel_rfl) ?_; go_simp) | (refine Go.Proofs.Ytmmljeekonechaa.M.load_cell_m HM rfl 3 _ rfl 2 _ _ _ _ _ rfl rfl rfl (by kernel_rfl) (by kernel_rfl) ?_; go_simp) | (refine Go.Proofs.Ytmmljeekonechaa.M.load_cell_m HM rfl 3 _ rfl 3 _ _ _ _ _ rfl rfl rfl (by kernel_rfl) (by kernel_rfl) ?_; go_simp) | (refine Go.Proofs.Ytmmljeekonechaa.M.load_cell_m HM rfl 3 _ rfl 4 _ _ _ _ _ rfl rfl rfl (by kernel_rfl) (by kernel_rfl) ?_; go_simp)) | (refine Go.Proofs.Ytmmljeekonechaa.M.at_load 23 rfl ?_; first | (refine Go.Proofs.Ytmmljeekonechaa.M.load_cell_m HM rfl 23 _ rfl 0 _ _ _ _ _ rfl rfl rfl (by kernel_rfl) (by kernel_rfl) ?_; go_simp) | (refine Go.Proofs.Ytmmljeekonechaa.M.load_cell_m HM rfl 23 _ rfl 1 _ _ _ _ _ rfl rfl rfl (by kernel_rfl) (by kernel_rfl) ?_; go_simp) | (refine Go.Proofs.Ytmmljeekonechaa.M.load_cell_m HM rfl 23 _ rfl 2 _ _ _ _ _ rfl rfl rfl (by kernel_rfl) (by kernel_rfl) ?_; go_simp) | (refine Go.Proofs.Ytmmljeekonechaa.M.load_cell_m HM rfl 23 _ rfl 3 _ _ _ _ _ rfl rfl rfl (by kernel_rfl) (by kernel_rfl) ?_; go_simp) | (refine Go.Proofs.Ytmmljeekonechaa.M.load_cell_m HM rfl 23 _ rfl 4 _ _ _ _ _ rfl rfl rfl (by kernel_rfl) (by kernel_rfl) ?_; go_simp)) | (refine Go.Proofs.Ytmmljeekonechaa.M.at_load 30 rfl ?_; first | (refine Go.Proofs.Ytmmljeekonechaa.M.load_row_m HM rfl 30 _ rfl 0 _ _ _ rfl rfl (by kernel_rfl) (by kernel_rfl) ?_; go_simp) | (refine Go.Proofs.Ytmmljeekonechaa.M.load_row_m HM rfl 30 _ rfl 1 _ _ _ rfl rfl (by kernel_rfl) (by kernel_rfl) ?_; go_simp) | (refine Go.Proofs.Ytmmljeekonechaa.M.load_row_m HM rfl 30 _ rfl 2 _ _ _ rfl rfl (by kernel_rfl) (by kernel_rfl) ?_; go_simp) | (refine Go.Proofs.Ytmmljeekonechaa.M.load_row_m HM rfl 30 _ rfl 3 _ _ _ rfl rfl (by kernel_rfl) (by kernel_rfl) ?_; go_simp) | (refine Go.Proofs.Ytmmljeekonechaa.M.load_row_m HM rfl 30 _ rfl 4 _ _ _ rfl rfl (by kernel_rfl) (by kernel_rfl) ?_; go_simp)) | (refine Go.Proofs.Ytmmljeekonechaa.M.at_load 56 rfl ?_; first | (refine Go.Proofs.Ytmmljeekonechaa.M.load_row_m HM rfl 56 _ rfl 0 _ _ _ rfl rfl (by kernel_rfl) (by kernel_rfl) ?_; go_simp) | (refine Go.Proofs.Ytmmljeekonechaa.M.load_row_m HM rfl 56 _ rfl 1 _ _ _ rfl rfl (by kernel_rfl) (by kernel_rfl) ?_; go_simp) | (refine Go.Proofs.Ytmmljeekonechaa.M.load_row_m HM rfl 56 _ rfl 2 _ _ _ rfl rfl (by kernel_rfl) (by kernel_rfl) ?_; go_simp) | (refine Go.Proofs.Ytmmljeekonechaa.M.load_row_m HM rfl 56 _ rfl 3 _ _ _ rfl rfl (by kernel_rfl) (by kernel_rfl) ?_; go_simp) | (refine Go.Proofs.Ytmmljeekonechaa.M.load_row_m HM rfl 56 _ rfl 4 _ _ _ rfl rfl (by kernel_rfl) (by kernel_rfl) ?_; go_simp)) | (refine Go.Proofs.Ytmmljeekonechaa.M.at_load 58 rfl ?_; first | (refine Go.Proofs.Ytmmljeekonechaa.M.load_row_m HM rfl 58 _ rfl 0 _ _ _ rfl rfl (by kernel_rfl) (by kernel_rfl) ?_; go_simp) | (refine Go.Proofs.Ytmmljeekonechaa.M.load_row_m HM rfl 58 _ rfl 1 _ _ _ rfl rfl (by kernel_rfl) (by kernel_rfl) ?_; go_simp) | (refine Go.Proofs.Ytmmljeekonechaa.M.load_row_m HM rfl 58 _ rfl 2 _ _ _ rfl rfl (by kernel_rfl) (by kernel_rfl) ?_; go_simp) | (refine Go.Proofs.Ytmmljeekonechaa.M.load_row_m HM rfl 58 _ rfl 3 _ _ _ rfl rfl (by kernel_rfl) (by kernel_rfl) ?_; go_simp) | (refine Go.Proofs.Ytmmljeekonechaa.M.load_row_m HM rfl 58 _ rfl 4 _ _ _ rfl rfl (by kernel_rfl) (by kernel_rfl) ?_; go_simp)) | (refine Go.Proofs.Ytmmljeekonechaa.M.at_store 30 rfl ?_; first | (refine Go.Proofs.Ytmmljeekonechaa.M.store_row_m HM rfl 56 _ _ rfl 1 _ _ _ (#[.int .i64 lev, .int .i64 kind, .int .u64 out, .bool user, .bool write, .bool exec, .bool used, .int .i64 attr]) rfl rfl rfl (by kernel_rfl) rfl (by simp [Value.oneCell']) ?_; clear HM; intro w_ HM; (try simp only [List.set_cons_zero, List.set_cons_succ] at HM); go_simp) | (refine Go.Proofs.Ytmmljeekonechaa.M.store_row_m HM rfl 58 _ _ rfl 0 _ _ _ (#[.int .i64 fk, .int .i64 fl]) rfl rfl rfl (by kernel_rfl) rfl (by simp [Value.oneCell']) ?_; clear HM; intro w_ HM; (try simp only [List.set_cons_zero, List.set_cons_succ] at HM); go_simp) | (refine Go.Proofs.Ytmmljeekonechaa.M.store_row_m HM rfl 30 _ _ rfl 0 _ _ _ (#[.int .i64 ba, .int .u64 bv, .int .i64 bl, .int .u64 bt]) rfl rfl rfl (by kernel_rfl) rfl (by simp [Value.oneCell']) ?_; clear HM; intro w_ HM; (try simp only [List.set_cons_zero, List.set_cons_succ] at HM); go_simp) | (refine Go.Proofs.Ytmmljeekonechaa.M.store_row_m HM rfl 30 _ _ rfl 0 _ _ _ _ rfl rfl rfl (by kernel_rfl) rfl (by simp [Value.oneCell']) ?_; clear HM; intro w_ HM; (try simp only [List.set_cons_zero, List.set_cons_succ, List.setIfInBounds_toArray, List.eraseIdx_cons_zero, List.eraseIdx_cons_succ, List.cons_append, List.nil_append] at HM); go_simp) | (refine Go.Proofs.Ytmmljeekonechaa.M.store_row_m HM rfl 30 _ _ rfl 1 _ _ _ _ rfl rfl rfl (by kernel_rfl) rfl (by simp [Value.oneCell']) ?_; clear HM; intro w_ HM; (try simp only [List.set_cons_zero, List.set_cons_succ, List.setIfInBounds_toArray, List.eraseIdx_cons_zero, List.eraseIdx_cons_succ, List.cons_append, List.nil_append] at HM); go_simp) | (refine Go.Proofs.Ytmmljeekonechaa.M.store_row_m HM rfl 30 _ _ rfl 2 _ _ _ _ rfl rfl rfl (by kernel_rfl) rfl (by simp [Value.oneCell']) ?_; clear HM; intro w_ HM; (try simp only [List.set_cons_zero, List.set_cons_succ, List.setIfInBounds_toArray, List.eraseIdx_cons_zero, List.eraseIdx_cons_succ, List.cons_append, List.nil_append] at HM); go_simp) | (refine Go.Proofs.Ytmmljeekonechaa.M.store_row_m HM rfl 30 _ _ rfl 3 _ _ _ _ rfl rfl rfl (by kernel_rfl) rfl (by simp [Value.oneCell']) ?_; clear HM; intro w_ HM; (try simp only [List.set_cons_zero, List.set_cons_succ, List.setIfInBounds_toArray, List.eraseIdx_cons_zero, List.eraseIdx_cons_succ, List.cons_append, List.nil_append] at HM); go_simp) | (refine Go.Proofs.Ytmmljeekonechaa.M.store_row_m HM rfl 30 _ _ rfl 4 _ _ _ _ rfl rfl rfl (by kernel_rfl) rfl (by simp [Value.oneCell']) ?_; clear HM; intro w_ HM; (try simp only [List.set_cons_zero, List.set_cons_succ, List.setIfInBounds_toArray, List.eraseIdx_cons_zero, List.eraseIdx_cons_succ, List.cons_append, List.nil_append] at HM); go_simp)) | (refine Go.Proofs.Ytmmljeekonechaa.M.at_store 56 rfl ?_; first | (refine Go.Proofs.Ytmmljeekonechaa.M.store_row_m HM rfl 56 _ _ rfl 1 _ _ _ (#[.int .i64 lev, .int .i64 kind, .int .u64 out, .bool user, .bool write, .bool exec, .bool used, .int .i64 attr]) rfl rfl rfl (by kernel_rfl) rfl (by simp [Value.oneCell']) ?_; clear HM; intro w_ HM; (try simp only [List.set_cons_zero, List.set_cons_succ] at HM); go_simp) | (refine Go.Proofs.Ytmmljeekonechaa.M.store_row_m HM rfl 58 _ _ rfl 0 _ _ _ (#[.int .i64 fk, .int .i64 fl]) rfl rfl rfl (by kernel_rfl) rfl (by simp [Value.oneCell']) ?_; clear HM; intro w_ HM; (try simp only [List.set_cons_zero, List.set_cons_succ] at HM); go_simp) | (refine Go.Proofs.Ytmmljeekonechaa.M.store_row_m HM rfl 30 _ _ rfl 0 _ _ _ (#[.int .i64 ba, .int .u64 bv, .int .i64 bl, .int .u64 bt]) rfl rfl rfl (by kernel_rfl) rfl (by simp [Value.oneCell']) ?_; clear HM; intro w_ HM; (try simp only [List.set_cons_zero, List.set_cons_succ] at HM); go_simp) | (refine Go.Proofs.Ytmmljeekonechaa.M.store_row_m HM rfl 56 _ _ rfl 0 _ _ _ _ rfl rfl rfl (by kernel_rfl) rfl (by simp [Value.oneCell']) ?_; clear HM; intro w_ HM; (try simp only [List.set_cons_zero, List.set_cons_succ, List.setIfInBounds_toArray, List.eraseIdx_cons_zero, List.eraseIdx_cons_succ, List.cons_append, List.nil_append] at HM); go_simp) | (refine Go.Proofs.Ytmmljeekonechaa.M.store_row_m HM rfl 56 _ _ rfl 1 _ _ _ _ rfl rfl rfl (by kernel_rfl) rfl (by simp [Value.oneCell']) ?_; clear HM; intro w_ HM; (try simp only [List.set_cons_zero, List.set_cons_succ, List.setIfInBounds_toArray, List.eraseIdx_cons_zero, List.eraseIdx_cons_succ, List.cons_append, List.nil_append] at HM); go_simp) | (refine Go.Proofs.Ytmmljeekonechaa.M.store_row_m HM rfl 56 _ _ rfl 2 _ _ _ _ rfl rfl rfl (by kernel_rfl) rfl (by simp [Value.oneCell']) ?_; clear HM; intro w_ HM; (try simp only [List.set_cons_zero, List.set_cons_succ, List.setIfInBounds_toArray, List.eraseIdx_cons_zero, List.eraseIdx_cons_succ, List.cons_append, List.nil_append] at HM); go_simp) | (refine Go.Proofs.Ytmmljeekonechaa.M.store_row_m HM rfl 56 _ _ rfl 3 _ _ _ _ rfl rfl rfl (by kernel_rfl) rfl (by simp [Value.oneCell']) ?_; clear HM; intro w_ HM; (try simp only [List.set_cons_zero, List.set_cons_succ, List.setIfInBounds_toArray, List.eraseIdx_cons_zero, List.eraseIdx_cons_succ, List.cons_append, List.nil_append] at HM); go_simp) | (refine Go.Proofs.Ytmmljeekonechaa.M.store_row_m HM rfl 56 _ _ rfl 4 _ _ _ _ rfl rfl rfl (by kernel_rfl) rfl (by simp [Value.oneCell']) ?_; clear HM; intro w_ HM; (try simp only [List.set_cons_zero, List.set_cons_succ, List.setIfInBounds_toArray, List.eraseIdx_cons_zero, List.eraseIdx_cons_succ, List.cons_append, List.nil_append] at HM); go_simp)) | (refine Go.Proofs.Ytmmljeekonechaa.M.at_store 58 rfl ?_; first | (refine Go.Proofs.Ytmmljeekonechaa.M.store_row_m HM rfl 56 _ _ rfl 1 _ _ _ (#[.int .i64 lev, .int .i64 kind, .int .u64 out, .bool user, .bool write, .bool exec, .bool used, .int .i64 attr]) rfl rfl rfl (by kernel_rfl) rfl (by simp [Value.oneCell']) ?_; clear HM; intro w_ HM; (try simp only [List.set_cons_zero, List.set_cons_succ] at HM); go_simp) | (refine Go.Proofs.Ytmmljeekonechaa.M.store_row_m HM rfl 58 _ _ rfl 0 _ _ _ (#[.int .i64 fk, .int .i64 fl]) rfl rfl rfl (by kernel_rfl) rfl (by simp [Value.oneCell']) ?_; clear HM; intro w_ HM; (try simp only [List.set_cons_zero, List.set_cons_succ] at HM); go_simp) | (refine Go.Proofs.Ytmmljeekonechaa.M.store_row_m HM rfl 30 _ _ rfl 0 _ _ _ (#[.int .i64 ba, .int .u64 bv, .int .i64 bl, .int .u64 bt]) rfl rfl rfl (by kernel_rfl) rfl (by simp [Value.oneCell']) ?_; clear HM; intro w_ HM; (try simp only [List.set_cons_zero, List.set_cons_succ] at HM); go_simp) | (refine Go.Proofs.Ytmmljeekonechaa.M.store_row_m HM rfl 58 _ _ rfl 0 _ _ _ _ rfl rfl rfl (by kernel_rfl) rfl (by simp [Value.oneCell']) ?_; clear HM; intro w_ HM; (try simp only [List.set_cons_zero, List.set_cons_succ, List.setIfInBounds_toArray, List.eraseIdx_cons_zero, List.eraseIdx_cons_succ, List.cons_append, List.nil_append] at HM); go_simp) | (refine Go.Proofs.Ytmmljeekonechaa.M.store_row_m HM rfl 58 _ _ rfl 1 _ _ _ _ rfl rfl rfl (by kernel_rfl) rfl (by simp [Value.oneCell']) ?_; clear HM; intro w_ HM; (try simp only [List.set_cons_zero, List.set_cons_succ, List.setIfInBounds_toArray, List.eraseIdx_cons_zero, List.eraseIdx_cons_succ, List.cons_append, List.nil_append] at HM); go_simp) | (refine Go.Proofs.Ytmmljeekonechaa.M.store_row_m HM rfl 58 _ _ rfl 2 _ _ _ _ rfl rfl rfl (by kernel_rfl) rfl (by simp [Value.oneCell']) ?_; clear HM; intro w_ HM; (try simp only [List.set_cons_zero, List.set_cons_succ, List.setIfInBounds_toArray, List.eraseIdx_cons_zero, List.eraseIdx_cons_succ, List.cons_append, List.nil_append] at HM); go_simp) | (refine Go.Proofs.Ytmmljeekonechaa.M.store_row_m HM rfl 58 _ _ rfl 3 _ _ _ _ rfl rfl rfl (by kernel_rfl) rfl (by simp [Value.oneCell']) ?_; clear HM; intro w_ HM; (try simp only [List.set_cons_zero, List.set_cons_succ, List.setIfInBounds_toArray, List.eraseIdx_cons_zero, List.eraseIdx_cons_succ, List.cons_append, List.nil_append] at HM); go_simp) | (refine Go.Proofs.Ytmmljeekonechaa.M.store_row_m HM rfl 58 _ _ rfl 4 _ _ _ _ rfl rfl rfl (by kernel_rfl) rfl (by simp [Value.oneCell']) ?_; clear HM; intro w_ HM; (try simp only [List.set_cons_zero, List.set_cons_succ, List.setIfInBounds_toArray, List.eraseIdx_cons_zero, List.eraseIdx_cons_succ, List.cons_append, List.nil_append] at HM); go_simp)) | (refine Go.Proofs.Ytmmljeekonechaa.M.at_alloc 30 rfl ?_; first | ((fail_if_success (have x_ := gA_)); refine Go.Proofs.Ytmmljeekonechaa.M.alloc_m HM rfl rfl 56 rfl (.agg ((L8.mk 0 0 0 false false false false 0).cells)) (by kernel_rfl) ((L8.mk 0 0 0 false false false false 0).cells) rfl ?_; clear HM; intro gA_ w_ HM; go_simp) | (refine Go.Proofs.Ytmmljeekonechaa.M.alloc_m HM rfl rfl 56 rfl (.agg ((L8.mk 0 0 0 false false false false 0).cells)) (by kernel_rfl) ((L8.mk 0 0 0 false false false false 0).cells) rfl ?_; clear HM; intro gB_ w_ HM; go_simp) | ((fail_if_success (have x_ := gF_)); refine Go.Proofs.Ytmmljeekonechaa.M.alloc_m HM rfl rfl 58 rfl (.agg ((F2.mk 0 0).cells)) (by kernel_rfl) ((F2.mk 0 0).cells) rfl ?_; clear HM; intro gF_ w_ HM; go_simp) | (refine Go.Proofs.Ytmmljeekonechaa.M.alloc_m HM rfl rfl 58 rfl (.agg ((F2.mk 0 0).cells)) (by kernel_rfl) ((F2.mk 0 0).cells) rfl ?_; clear HM; intro gG_ w_ HM; go_simp) | (refine Go.Proofs.Ytmmljeekonechaa.M.alloc_m HM rfl rfl 30 rfl (.agg #[(.int .i64 0), (.int .u64 0), (.int .i64 0), (.int .u64 0)]) (by kernel_rfl) #[(.int .i64 0), (.int .u64 0), (.int .i64 0), (.int .u64 0)] rfl ?_; clear HM; intro g_ w_ HM; go_simp)) | (refine Go.Proofs.Ytmmljeekonechaa.M.at_alloc 56 rfl ?_; first | ((fail_if_success (have x_ := gA_)); refine Go.Proofs.Ytmmljeekonechaa.M.alloc_m HM rfl rfl 56 rfl (.agg ((L8.mk 0 0 0 false false false false 0).cells)) (by kernel_rfl) ((L8.mk 0 0 0 false false false false 0).cells) rfl ?_; clear HM; intro gA_ w_ HM; go_simp) | (refine Go.Proofs.Ytmmljeekonechaa.M.alloc_m HM rfl rfl 56 rfl (.agg ((L8.mk 0 0 0 false false false false 0).cells)) (by kernel_rfl) ((L8.mk 0 0 0 false false false false 0).cells) rfl ?_; clear HM; intro gB_ w_ HM; go_simp) | ((fail_if_success (have x_ := gF_)); refine Go.Proofs.Ytmmljeekonechaa.M.alloc_m HM rfl rfl 58 rfl (.agg ((F2.mk 0 0).cells)) (by kernel_rfl) ((F2.mk 0 0).cells) rfl ?_; clear HM; intro gF_ w_ HM; go_simp) | (refine Go.Proofs.Ytmmljeekonechaa.M.alloc_m HM rfl rfl 58 rfl (.agg ((F2.mk 0 0).cells)) (by kernel_rfl) ((F2.mk 0 0).cells) rfl ?_; clear HM; intro gG_ w_ HM; go_simp) | (refine Go.Proofs.Ytmmljeekonechaa.M.alloc_m HM rfl rfl 56 rfl (.agg #[(.int .i64 0), (.int .i64 0), (.int .u64 0), (.bool false), (.bool false), (.bool false), (.bool false), (.int .i64 0)]) (by kernel_rfl) #[(.int .i64 0), (.int .i64 0), (.int .u64 0), (.bool false), (.bool false), (.bool false), (.bool false), (.int .i64 0)] rfl ?_; clear HM; intro g_ w_ HM; go_simp)) | (refine Go.Proofs.Ytmmljeekonechaa.M.at_alloc 58 rfl ?_; first | ((fail_if_success (have x_ := gA_)); refine Go.Proofs.Ytmmljeekonechaa.M.alloc_m HM rfl rfl 56 rfl (.agg ((L8.mk 0 0 0 false false false false 0).cells)) (by kernel_rfl) ((L8.mk 0 0 0 false false false false 0).cells) rfl ?_; clear HM; intro gA_ w_ HM; go_simp) | (refine Go.Proofs.Ytmmljeekonechaa.M.alloc_m HM rfl rfl 56 rfl (.agg ((L8.mk 0 0 0 false false false false 0).cells)) (by kernel_rfl) ((L8.mk 0 0 0 false false false false 0).cells) rfl ?_; clear HM; intro gB_ w_ HM; go_simp) | ((fail_if_success (have x_ := gF_)); refine Go.Proofs.Ytmmljeekonechaa.M.alloc_m HM rfl rfl 58 rfl (.agg ((F2.mk 0 0).cells)) (by kernel_rfl) ((F2.mk 0 0).cells) rfl ?_; clear HM; intro gF_ w_ HM; go_simp) | (refine Go.Proofs.Ytmmljeekonechaa.M.alloc_m HM rfl rfl 58 rfl (.agg ((F2.mk 0 0).cells)) (by kernel_rfl) ((F2.mk 0 0).cells) rfl ?_; clear HM; intro gG_ w_ HM; go_simp) | (refine Go.Proofs.Ytmmljeekonechaa.M.alloc_m HM rfl rfl 58 rfl (.agg #[(.int .i64 0), (.int .i64 0)]) (by kernel_rfl) #[(.int .i64 0), (.int .i64 0)] rfl ?_; clear HM; intro g_ w_ HM; go_simp)) | ((fail_if_success (refine Go.Proofs.Ytmmljeekonechaa.M.lit_t rfl ?_)); (fail_if_success (refine Go.Proofs.Ytmmljeekonechaa.M.lit_f rfl ?_)); refine Go.Proofs.Ytmmljeekonechaa.M.split_guard rfl rfl ?_ ?_ <;> (intro hg_; simp only [hg_]; try simp only [decide_eq_true_eq, decide_eq_false_iff_not, Bool.and_eq_true, Bool.or_eq_true, Bool.and_eq_false_iff, Bool.or_eq_false_iff, Bool.not_eq_true', Bool.not_eq_false', beq_iff_eq, bne_iff_ne, beq_eq_false_iff_ne, bne_eq_false_iff_eq, Int.not_lt, Int.not_le, ne_eq] at hg_)))
          | (refine Go.Proofs.Ytmmljeekonechaa.Mc.at_cmp _ rfl ?_; refine Go.Proofs.Ytmmljeekonechaa.Mc.cmp_m rfl _ rfl _ _ _ rfl _ _ _ rfl rfl _ rfl ?_ ?_ <;> (intro hg_; try simp only [decide_eq_true_eq, decide_eq_false_iff_not, Bool.and_eq_true, Bool.or_eq_true, Bool.and_eq_false_iff, Bool.or_eq_false_iff, Bool.not_eq_true', Bool.not_eq_false', beq_iff_eq, bne_iff_ne, beq_eq_false_iff_ne, bne_eq_false_iff_eq, Int.not_lt, Int.not_le, ne_eq] at hg_; first | (exfalso; first | omega | (simp at hg_; done)) | (go_simp)))
          | ((fail_if_success (refine Go.Proofs.Ytmmljeekonechaa.M.lit_t rfl ?_)); (fail_if_success (refine Go.Proofs.Ytmmljeekonechaa.M.lit_f rfl ?_)); refine Go.Proofs.Ytmmljeekonechaa.M.split_guard rfl rfl ?_ ?_ <;> (intro hg_; simp only [hg_]; try simp only [decide_eq_true_eq, decide_eq_false_iff_not, Bool.and_eq_true, Bool.or_eq_true, Bool.and_eq_false_iff, Bool.or_eq_false_iff, Bool.not_eq_true', Bool.not_eq_false', beq_iff_eq, bne_iff_ne, beq_eq_false_iff_ne, bne_eq_false_iff_eq, Int.not_lt, Int.not_le, ne_eq] at hg_)))
        all_goals
          go_ret
          exact ⟨by first | rfl | simp, HM.none.to_below⟩
      · obtain ⟨rfl, rfl, rfl, rfl⟩ : ba = 0 ∧ bv = 0 ∧ bl = 0 ∧ bt = 0 := by
          have := congrArg (fun q : K => (q.asid, q.va, q.level, q.table)) hbz
          simpa [K.zero] using this
        rw [show decide ((0 : Int) < 0) = false by decide] at CB
        have e1 : eqB .eql (decide (K.mk 0 0 0 0 = K.mk 0 0 0 0)) = some true := by decide
        have HB1 := Lib.hid e1
        clear e1 hgood hbz
        go_wp2_with (first
          | (go_big_skip)
          | (go_at_call 17; have HM_ : Go.Proofs.Ytmmljeekonechaa.M.Mem _ _ ((T) ++ (AM)) _ := HM; (with_reducible refine (Go.Proofs.Ytmmljeekonechaa.M.Does.tail _ (CW) HM_).mono ?_); clear HM HM_ CW hp; rintro e w_ ⟨v_, AM2_, rfl, ⟨rfl, hp2_⟩, HM⟩; (try simp only [List.cons_append, List.nil_append] at HM); dsimp only)
          | (go_at_call 11; (refine (Go.Proofs.Ytmmljeekonechaa.Yf.Does.mid [_, _] AM2_ CB HM).mono ?_); clear HM CB; rintro e w_ ⟨v_, T2_, rfl, ⟨rfl, rfl⟩, HM⟩; (try simp only [List.cons_append, List.nil_append] at HM); dsimp only)
          | (refine Go.Proofs.Ytmmljeekonechaa.Mc.at_cmp .eql rfl ?_; first | (refine Go.Proofs.Ytmmljeekonechaa.Ls.eqRv_m (T := K) rfl _ rfl .eql _ _ rfl Go.Proofs.Ytmmljeekonechaa.Za.eqK (K.mk 0 0 0 0) (K.mk 0 0 0 0) rfl rfl true (HB1.out) ?_; go_simp))
          | (refine Go.Proofs.Ytmmljeekonechaa.M.at_mem rfl ?_; first | (refine Go.Proofs.Ytmmljeekonechaa.M.at_load 3 rfl ?_; first | (refine Go.Proofs.Ytmmljeekonechaa.M.load_cell_m HM rfl 3 _ rfl 0 _ _ _ _ _ rfl rfl rfl (by kernel_rfl) (by kernel_rfl) ?_; go_simp) | (refine Go.Proofs.Ytmmljeekonechaa.M.load_cell_m HM rfl 3 _ rfl 1 _ _ _ _ _ rfl rfl rfl (by kernel_rfl) (by kernel_rfl) ?_; go_simp) | (refine Go.Proofs.Ytmmljeekonechaa.M.load_cell_m HM rfl 3 _ rfl 2 _ _ _ _ _ rfl rfl rfl (by kernel_rfl) (by kernel_rfl) ?_; go_simp) | (refine Go.Proofs.Ytmmljeekonechaa.M.load_cell_m HM rfl 3 _ rfl 3 _ _ _ _ _ rfl rfl rfl (by kernel_rfl) (by kernel_rfl) ?_; go_simp)) | (refine Go.Proofs.Ytmmljeekonechaa.M.at_load 23 rfl ?_; first | (refine Go.Proofs.Ytmmljeekonechaa.M.load_cell_m HM rfl 23 _ rfl 0 _ _ _ _ _ rfl rfl rfl (by kernel_rfl) (by kernel_rfl) ?_; go_simp) | (refine Go.Proofs.Ytmmljeekonechaa.M.load_cell_m HM rfl 23 _ rfl 1 _ _ _ _ _ rfl rfl rfl (by kernel_rfl) (by kernel_rfl) ?_; go_simp) | (refine Go.Proofs.Ytmmljeekonechaa.M.load_cell_m HM rfl 23 _ rfl 2 _ _ _ _ _ rfl rfl rfl (by kernel_rfl) (by kernel_rfl) ?_; go_simp) | (refine Go.Proofs.Ytmmljeekonechaa.M.load_cell_m HM rfl 23 _ rfl 3 _ _ _ _ _ rfl rfl rfl (by kernel_rfl) (by kernel_rfl) ?_; go_simp)) | (refine Go.Proofs.Ytmmljeekonechaa.M.at_load 30 rfl ?_; first | (refine Go.Proofs.Ytmmljeekonechaa.M.load_row_m HM rfl 30 _ rfl 0 _ _ _ rfl rfl (by kernel_rfl) (by kernel_rfl) ?_; go_simp) | (refine Go.Proofs.Ytmmljeekonechaa.M.load_row_m HM rfl 30 _ rfl 1 _ _ _ rfl rfl (by kernel_rfl) (by kernel_rfl) ?_; go_simp) | (refine Go.Proofs.Ytmmljeekonechaa.M.load_row_m HM rfl 30 _ rfl 2 _ _ _ rfl rfl (by kernel_rfl) (by kernel_rfl) ?_; go_simp) | (refine Go.Proofs.Ytmmljeekonechaa.M.load_row_m HM rfl 30 _ rfl 3 _ _ _ rfl rfl (by kernel_rfl) (by kernel_rfl) ?_; go_simp)) | (refine Go.Proofs.Ytmmljeekonechaa.M.at_load 56 rfl ?_; first | (refine Go.Proofs.Ytmmljeekonechaa.M.load_row_m HM rfl 56 _ rfl 0 _ _ _ rfl rfl (by kernel_rfl) (by kernel_rfl) ?_; go_simp) | (refine Go.Proofs.Ytmmljeekonechaa.M.load_row_m HM rfl 56 _ rfl 1 _ _ _ rfl rfl (by kernel_rfl) (by kernel_rfl) ?_; go_simp) | (refine Go.Proofs.Ytmmljeekonechaa.M.load_row_m HM rfl 56 _ rfl 2 _ _ _ rfl rfl (by kernel_rfl) (by kernel_rfl) ?_; go_simp) | (refine Go.Proofs.Ytmmljeekonechaa.M.load_row_m HM rfl 56 _ rfl 3 _ _ _ rfl rfl (by kernel_rfl) (by kernel_rfl) ?_; go_simp)) | (refine Go.Proofs.Ytmmljeekonechaa.M.at_load 58 rfl ?_; first | (refine Go.Proofs.Ytmmljeekonechaa.M.load_row_m HM rfl 58 _ rfl 0 _ _ _ rfl rfl (by kernel_rfl) (by kernel_rfl) ?_; go_simp) | (refine Go.Proofs.Ytmmljeekonechaa.M.load_row_m HM rfl 58 _ rfl 1 _ _ _ rfl rfl (by kernel_rfl) (by kernel_rfl) ?_; go_simp) | (refine Go.Proofs.Ytmmljeekonechaa.M.load_row_m HM rfl 58 _ rfl 2 _ _ _ rfl rfl (by kernel_rfl) (by kernel_rfl) ?_; go_simp) | (refine Go.Proofs.Ytmmljeekonechaa.M.load_row_m HM rfl 58 _ rfl 3 _ _ _ rfl rfl (by kernel_rfl) (by kernel_rfl) ?_; go_simp)) | (refine Go.Proofs.Ytmmljeekonechaa.M.at_store 30 rfl ?_; first | (refine Go.Proofs.Ytmmljeekonechaa.M.store_row_m HM rfl 56 _ _ rfl 1 _ _ _ (#[.int .i64 lev, .int .i64 kind, .int .u64 out, .bool user, .bool write, .bool exec, .bool used, .int .i64 attr]) rfl rfl rfl (by kernel_rfl) rfl (by simp [Value.oneCell']) ?_; clear HM; intro w_ HM; (try simp only [List.set_cons_zero, List.set_cons_succ] at HM); go_simp) | (refine Go.Proofs.Ytmmljeekonechaa.M.store_row_m HM rfl 58 _ _ rfl 0 _ _ _ (#[.int .i64 fk, .int .i64 fl]) rfl rfl rfl (by kernel_rfl) rfl (by simp [Value.oneCell']) ?_; clear HM; intro w_ HM; (try simp only [List.set_cons_zero, List.set_cons_succ] at HM); go_simp) | (refine Go.Proofs.Ytmmljeekonechaa.M.store_row_m HM rfl 30 _ _ rfl 0 _ _ _ (#[.int .i64 0, .int .u64 0, .int .i64 0, .int .u64 0]) rfl rfl rfl (by kernel_rfl) rfl (by simp [Value.oneCell']) ?_; clear HM; intro w_ HM; (try simp only [List.set_cons_zero, List.set_cons_succ] at HM); go_simp) | (refine Go.Proofs.Ytmmljeekonechaa.M.store_row_m HM rfl 30 _ _ rfl 0 _ _ _ _ rfl rfl rfl (by kernel_rfl) rfl (by simp [Value.oneCell']) ?_; clear HM; intro w_ HM; (try simp only [List.set_cons_zero, List.set_cons_succ, List.setIfInBounds_toArray, List.eraseIdx_cons_zero, List.eraseIdx_cons_succ, List.cons_append, List.nil_append] at HM); go_simp) | (refine Go.Proofs.Ytmmljeekonechaa.M.store_row_m HM rfl 30 _ _ rfl 1 _ _ _ _ rfl rfl rfl (by kernel_rfl) rfl (by simp [Value.oneCell']) ?_; clear HM; intro w_ HM; (try simp only [List.set_cons_zero, List.set_cons_succ, List.setIfInBounds_toArray, List.eraseIdx_cons_zero, List.eraseIdx_cons_succ, List.cons_append, List.nil_append] at HM); go_simp) | (refine Go.Proofs.Ytmmljeekonechaa.M.store_row_m HM rfl 30 _ _ rfl 2 _ _ _ _ rfl rfl rfl (by kernel_rfl) rfl (by simp [Value.oneCell']) ?_; clear HM; intro w_ HM; (try simp only [List.set_cons_zero, List.set_cons_succ, List.setIfInBounds_toArray, List.eraseIdx_cons_zero, List.eraseIdx_cons_succ, List.cons_append, List.nil_append] at HM); go_simp) | (refine Go.Proofs.Ytmmljeekonechaa.M.store_row_m HM rfl 30 _ _ rfl 3 _ _ _ _ rfl rfl rfl (by kernel_rfl) rfl (by simp [Value.oneCell']) ?_; clear HM; intro w_ HM; (try simp only [List.set_cons_zero, List.set_cons_succ, List.setIfInBounds_toArray, List.eraseIdx_cons_zero, List.eraseIdx_cons_succ, List.cons_append, List.nil_append] at HM); go_simp)) | (refine Go.Proofs.Ytmmljeekonechaa.M.at_store 56 rfl ?_; first | (refine Go.Proofs.Ytmmljeekonechaa.M.store_row_m HM rfl 56 _ _ rfl 1 _ _ _ (#[.int .i64 lev, .int .i64 kind, .int .u64 out, .bool user, .bool write, .bool exec, .bool used, .int .i64 attr]) rfl rfl rfl (by kernel_rfl) rfl (by simp [Value.oneCell']) ?_; clear HM; intro w_ HM; (try simp only [List.set_cons_zero, List.set_cons_succ] at HM); go_simp) | (refine Go.Proofs.Ytmmljeekonechaa.M.store_row_m HM rfl 58 _ _ rfl 0 _ _ _ (#[.int .i64 fk, .int .i64 fl]) rfl rfl rfl (by kernel_rfl) rfl (by simp [Value.oneCell']) ?_; clear HM; intro w_ HM; (try simp only [List.set_cons_zero, List.set_cons_succ] at HM); go_simp) | (refine Go.Proofs.Ytmmljeekonechaa.M.store_row_m HM rfl 30 _ _ rfl 0 _ _ _ (#[.int .i64 0, .int .u64 0, .int .i64 0, .int .u64 0]) rfl rfl rfl (by kernel_rfl) rfl (by simp [Value.oneCell']) ?_; clear HM; intro w_ HM; (try simp only [List.set_cons_zero, List.set_cons_succ] at HM); go_simp) | (refine Go.Proofs.Ytmmljeekonechaa.M.store_row_m HM rfl 56 _ _ rfl 0 _ _ _ _ rfl rfl rfl (by kernel_rfl) rfl (by simp [Value.oneCell']) ?_; clear HM; intro w_ HM; (try simp only [List.set_cons_zero, List.set_cons_succ, List.setIfInBounds_toArray, List.eraseIdx_cons_zero, List.eraseIdx_cons_succ, List.cons_append, List.nil_append] at HM); go_simp) | (refine Go.Proofs.Ytmmljeekonechaa.M.store_row_m HM rfl 56 _ _ rfl 1 _ _ _ _ rfl rfl rfl (by kernel_rfl) rfl (by simp [Value.oneCell']) ?_; clear HM; intro w_ HM; (try simp only [List.set_cons_zero, List.set_cons_succ, List.setIfInBounds_toArray, List.eraseIdx_cons_zero, List.eraseIdx_cons_succ, List.cons_append, List.nil_append] at HM); go_simp) | (refine Go.Proofs.Ytmmljeekonechaa.M.store_row_m HM rfl 56 _ _ rfl 2 _ _ _ _ rfl rfl rfl (by kernel_rfl) rfl (by simp [Value.oneCell']) ?_; clear HM; intro w_ HM; (try simp only [List.set_cons_zero, List.set_cons_succ, List.setIfInBounds_toArray, List.eraseIdx_cons_zero, List.eraseIdx_cons_succ, List.cons_append, List.nil_append] at HM); go_simp) | (refine Go.Proofs.Ytmmljeekonechaa.M.store_row_m HM rfl 56 _ _ rfl 3 _ _ _ _ rfl rfl rfl (by kernel_rfl) rfl (by simp [Value.oneCell']) ?_; clear HM; intro w_ HM; (try simp only [List.set_cons_zero, List.set_cons_succ, List.setIfInBounds_toArray, List.eraseIdx_cons_zero, List.eraseIdx_cons_succ, List.cons_append, List.nil_append] at HM); go_simp)) | (refine Go.Proofs.Ytmmljeekonechaa.M.at_store 58 rfl ?_; first | (refine Go.Proofs.Ytmmljeekonechaa.M.store_row_m HM rfl 56 _ _ rfl 1 _ _ _ (#[.int .i64 lev, .int .i64 kind, .int .u64 out, .bool user, .bool write, .bool exec, .bool used, .int .i64 attr]) rfl rfl rfl (by kernel_rfl) rfl (by simp [Value.oneCell']) ?_; clear HM; intro w_ HM; (try simp only [List.set_cons_zero, List.set_cons_succ] at HM); go_simp) | (refine Go.Proofs.Ytmmljeekonechaa.M.store_row_m HM rfl 58 _ _ rfl 0 _ _ _ (#[.int .i64 fk, .int .i64 fl]) rfl rfl rfl (by kernel_rfl) rfl (by simp [Value.oneCell']) ?_; clear HM; intro w_ HM; (try simp only [List.set_cons_zero, List.set_cons_succ] at HM); go_simp) | (refine Go.Proofs.Ytmmljeekonechaa.M.store_row_m HM rfl 30 _ _ rfl 0 _ _ _ (#[.int .i64 0, .int .u64 0, .int .i64 0, .int .u64 0]) rfl rfl rfl (by kernel_rfl) rfl (by simp [Value.oneCell']) ?_; clear HM; intro w_ HM; (try simp only [List.set_cons_zero, List.set_cons_succ] at HM); go_simp) | (refine Go.Proofs.Ytmmljeekonechaa.M.store_row_m HM rfl 58 _ _ rfl 0 _ _ _ _ rfl rfl rfl (by kernel_rfl) rfl (by simp [Value.oneCell']) ?_; clear HM; intro w_ HM; (try simp only [List.set_cons_zero, List.set_cons_succ, List.setIfInBounds_toArray, List.eraseIdx_cons_zero, List.eraseIdx_cons_succ, List.cons_append, List.nil_append] at HM); go_simp) | (refine Go.Proofs.Ytmmljeekonechaa.M.store_row_m HM rfl 58 _ _ rfl 1 _ _ _ _ rfl rfl rfl (by kernel_rfl) rfl (by simp [Value.oneCell']) ?_; clear HM; intro w_ HM; (try simp only [List.set_cons_zero, List.set_cons_succ, List.setIfInBounds_toArray, List.eraseIdx_cons_zero, List.eraseIdx_cons_succ, List.cons_append, List.nil_append] at HM); go_simp) | (refine Go.Proofs.Ytmmljeekonechaa.M.store_row_m HM rfl 58 _ _ rfl 2 _ _ _ _ rfl rfl rfl (by kernel_rfl) rfl (by simp [Value.oneCell']) ?_; clear HM; intro w_ HM; (try simp only [List.set_cons_zero, List.set_cons_succ, List.setIfInBounds_toArray, List.eraseIdx_cons_zero, List.eraseIdx_cons_succ, List.cons_append, List.nil_append] at HM); go_simp) | (refine Go.Proofs.Ytmmljeekonechaa.M.store_row_m HM rfl 58 _ _ rfl 3 _ _ _ _ rfl rfl rfl (by kernel_rfl) rfl (by simp [Value.oneCell']) ?_; clear HM; intro w_ HM; (try simp only [List.set_cons_zero, List.set_cons_succ, List.setIfInBounds_toArray, List.eraseIdx_cons_zero, List.eraseIdx_cons_succ, List.cons_append, List.nil_append] at HM); go_simp)) | (refine Go.Proofs.Ytmmljeekonechaa.M.at_alloc 30 rfl ?_; first | (refine Go.Proofs.Ytmmljeekonechaa.M.alloc_m HM rfl rfl 56 rfl (.agg ((L8.mk 0 0 0 false false false false 0).cells)) (by kernel_rfl) ((L8.mk 0 0 0 false false false false 0).cells) rfl ?_; clear HM; intro gA_ w_ HM; go_simp) | (refine Go.Proofs.Ytmmljeekonechaa.M.alloc_m HM rfl rfl 58 rfl (.agg ((F2.mk 0 0).cells)) (by kernel_rfl) ((F2.mk 0 0).cells) rfl ?_; clear HM; intro gF_ w_ HM; go_simp) | (refine Go.Proofs.Ytmmljeekonechaa.M.alloc_m HM rfl rfl 30 rfl (.agg #[(.int .i64 0), (.int .u64 0), (.int .i64 0), (.int .u64 0)]) (by kernel_rfl) #[(.int .i64 0), (.int .u64 0), (.int .i64 0), (.int .u64 0)] rfl ?_; clear HM; intro g_ w_ HM; go_simp)) | (refine Go.Proofs.Ytmmljeekonechaa.M.at_alloc 56 rfl ?_; first | (refine Go.Proofs.Ytmmljeekonechaa.M.alloc_m HM rfl rfl 56 rfl (.agg ((L8.mk 0 0 0 false false false false 0).cells)) (by kernel_rfl) ((L8.mk 0 0 0 false false false false 0).cells) rfl ?_; clear HM; intro gA_ w_ HM; go_simp) | (refine Go.Proofs.Ytmmljeekonechaa.M.alloc_m HM rfl rfl 58 rfl (.agg ((F2.mk 0 0).cells)) (by kernel_rfl) ((F2.mk 0 0).cells) rfl ?_; clear HM; intro gF_ w_ HM; go_simp) | (refine Go.Proofs.Ytmmljeekonechaa.M.alloc_m HM rfl rfl 56 rfl (.agg #[(.int .i64 0), (.int .i64 0), (.int .u64 0), (.bool false), (.bool false), (.bool false), (.bool false), (.int .i64 0)]) (by kernel_rfl) #[(.int .i64 0), (.int .i64 0), (.int .u64 0), (.bool false), (.bool false), (.bool false), (.bool false), (.int .i64 0)] rfl ?_; clear HM; intro g_ w_ HM; go_simp)) | (refine Go.Proofs.Ytmmljeekonechaa.M.at_alloc 58 rfl ?_; first | (refine Go.Proofs.Ytmmljeekonechaa.M.alloc_m HM rfl rfl 56 rfl (.agg ((L8.mk 0 0 0 false false false false 0).cells)) (by kernel_rfl) ((L8.mk 0 0 0 false false false false 0).cells) rfl ?_; clear HM; intro gA_ w_ HM; go_simp) | (refine Go.Proofs.Ytmmljeekonechaa.M.alloc_m HM rfl rfl 58 rfl (.agg ((F2.mk 0 0).cells)) (by kernel_rfl) ((F2.mk 0 0).cells) rfl ?_; clear HM; intro gF_ w_ HM; go_simp) | (refine Go.Proofs.Ytmmljeekonechaa.M.alloc_m HM rfl rfl 58 rfl (.agg #[(.int .i64 0), (.int .i64 0)]) (by kernel_rfl) #[(.int .i64 0), (.int .i64 0)] rfl ?_; clear HM; intro g_ w_ HM; go_simp)) | ((fail_if_success (refine Go.Proofs.Ytmmljeekonechaa.M.lit_t rfl ?_)); (fail_if_success (refine Go.Proofs.Ytmmljeekonechaa.M.lit_f rfl ?_)); refine Go.Proofs.Ytmmljeekonechaa.M.split_guard rfl rfl ?_ ?_ <;> (intro hg_; simp only [hg_]; try simp only [decide_eq_true_eq, decide_eq_false_iff_not, Bool.and_eq_true, Bool.or_eq_true, Bool.and_eq_false_iff, Bool.or_eq_false_iff, Bool.not_eq_true', Bool.not_eq_false', beq_iff_eq, bne_iff_ne, beq_eq_false_iff_ne, bne_eq_false_iff_eq, Int.not_lt, Int.not_le, ne_eq] at hg_)))
          | (refine Go.Proofs.Ytmmljeekonechaa.Mc.at_cmp _ rfl ?_; refine Go.Proofs.Ytmmljeekonechaa.Mc.cmp_m rfl _ rfl _ _ _ rfl _ _ _ rfl rfl _ rfl ?_ ?_ <;> (intro hg_; try simp only [decide_eq_true_eq, decide_eq_false_iff_not, Bool.and_eq_true, Bool.or_eq_true, Bool.and_eq_false_iff, Bool.or_eq_false_iff, Bool.not_eq_true', Bool.not_eq_false', beq_iff_eq, bne_iff_ne, beq_eq_false_iff_ne, bne_eq_false_iff_eq, Int.not_lt, Int.not_le, ne_eq] at hg_; first | (exfalso; first | omega | (simp at hg_; done)) | (go_simp)))
          | ((fail_if_success (refine Go.Proofs.Ytmmljeekonechaa.M.lit_t rfl ?_)); (fail_if_success (refine Go.Proofs.Ytmmljeekonechaa.M.lit_f rfl ?_)); refine Go.Proofs.Ytmmljeekonechaa.M.split_guard rfl rfl ?_ ?_ <;> (intro hg_; simp only [hg_]; try simp only [decide_eq_true_eq, decide_eq_false_iff_not, Bool.and_eq_true, Bool.or_eq_true, Bool.and_eq_false_iff, Bool.or_eq_false_iff, Bool.not_eq_true', Bool.not_eq_false', beq_iff_eq, bne_iff_ne, beq_eq_false_iff_ne, bne_eq_false_iff_eq, Int.not_lt, Int.not_le, ne_eq] at hg_)))
        all_goals
          go_ret
          exact ⟨by first | rfl | simp, HM.none.to_below⟩
theorem law_any (ao : Option Addr) (N c : Nat) (es : Nat → W2) (root va : Int) (t0 : 0 ≤ root) (t1 : root < 18446744073709551616) (v0 : 0 ≤ va) (v1 : va < 18446744073709551616) (vx : Value) (xs : List Int) (w : World) (hX : ArgS w .u64 vx xs) (hr : ∀ x ∈ xs, 0 ≤ x ∧ x < 18446744073709551616)
    (hA : ∀ i, i < N → W2.ok (es i) ∧ ∃ a, ao = some a ∧ ∀ j v, (es i).cells.toList[j]? = some v → w.cell? (a.add (i * 2 + j)) = some v) :
    Calls Try.prog 5 #[.slice ao N c, .int .u64 root, vx, .int .u64 va] w fun e w' => e = .returned (.bool true) ∧ Below w.heap.size w w' := by
  by_cases hN : N ≤ 60
  · rcases hX with ⟨rfl, rfl⟩ | ⟨a, cx, rfl, h1, h2, h3⟩
    · exact law_in ao N c hN es root va t0 t1 v0 v1 none 0 0 (by omega) [] rfl hr w (fun j hj => by omega) hA
    · by_cases hn : xs.length ≤ 20
      · exact law_in ao N c hN es root va t0 t1 v0 v1 _ _ cx hn xs rfl hr w (fun j hj => ⟨a, rfl, h3 j hj⟩) hA
      · exact law_walks ao N c hN es root va _ _ cx (by omega) w hA
  · exact law_words ao N c (by omega) root va vx w
end Go.Proofs.Ytmmljeekonechaa.Zj
