/- Plain laws of walks: a walk that goes on from a table that it came through; all addresses of a leaf's stretch. No program in sight but the words' laws. -/
import Derived.Test.YtfnmdelkdombbaaYo
namespace Go.Proofs.Ytfnmdelkdombbaa.Ys
open Go.RowKit Go.Proofs.Ytfnmdelkdombbaa.G Go.Proofs.Ytfnmdelkdombbaa.B Go.Proofs.Ytfnmdelkdombbaa.Ya Go.Proofs.Ytfnmdelkdombbaa.Yb Go.Proofs.Ytfnmdelkdombbaa.Yd Go.Proofs.Ytfnmdelkdombbaa.Ds Go.Proofs.Ytfnmdelkdombbaa.Eq Go.Proofs.Ytfnmdelkdombbaa.Yg Go.Proofs.Ytfnmdelkdombbaa.Yh Go.Proofs.Ytfnmdelkdombbaa.Yo
set_option linter.unusedVariables false
set_option linter.unusedSimpArgs false
def Res.same (r s : Res) : Prop := r.lev = s.lev ∧ r.d = s.d ∧ r.fk = s.fk ∧ r.fl = s.fl
theorem ent_first (size : Int) (f : Int → Int) (hf : ∀ n, 0 ≤ f n ∧ f n < 18446744073709551616) (level table idx : Int) : (entV size f level table idx).st = [] ∨
    ∃ a x, (entV size f level table idx).st = [⟨a, x⟩] ∧ (0 ≤ x ∧ x < 18446744073709551616) ∧ ∀ d, decV level x = some d → d.kind = 1 → entV size f level table idx = ⟨d, 0, 0, [⟨a, x⟩]⟩ := by
  unfold entV
  split
  · refine .inr ⟨table + idx * 8, f ((table + idx * 8) / 8), ?_, hf _, fun d hd hk => ?_⟩
    · unfold entD
      split
      · rfl
      · split
        · rfl
        · split <;> rfl
    · rw [hd]
      unfold entD
      dsimp only
      rw [if_neg (by omega), if_pos (.inl hk)]
  · exact .inl rfl
/-- Whatever table a walk comes through: the walk from it ends likewise. -/
theorem go_steps (size : Int) (f : Int → Int) (hf : ∀ n, 0 ≤ f n ∧ f n < 18446744073709551616) (va : Int) (hva : va < 281474976710656) : ∀ (n : Nat) (level table : Int), 0 ≤ level → level + n = 4 → ∀ (i : Nat) (x : W2), (goV size f va n level table).st[i]? = some x →
    (0 ≤ x.word ∧ x.word < 18446744073709551616) ∧ i < n ∧ ∀ d, decV (level + i) x.word = some d → d.kind = 1 → Res.same (fromV size f (level + i + 1) d.out va) (goV size f va n level table)
  | 0, _, _, _, _, i, x, h => by simp [goV] at h
  | n + 1, level, table, l0, hl, i, x, h => by
    have hfst := ent_first size f hf level table (idxV va level)
    have hlen := ent_st_len size f level table (idxV va level)
    rcases ent_cases size f hf level table (idxV va level) l0 (by omega) with ⟨fk, hk, h1, h2, h3⟩ | ⟨h1, h2, h3, h4, h5, h6, h7⟩ | ⟨h1, h2, h3, h4, h5⟩
    · rw [go_fault (by rw [h1]; omega)] at h ⊢
      dsimp only at h
      rcases hfst with hz | ⟨a, y, hst, hy, hd⟩
      · rw [hz] at h; simp at h
      · rw [hst] at h
        have hi : i = 0 := by have := (List.getElem?_eq_some_iff.1 h).1; simpa using this
        subst hi
        simp at h
        subst h
        refine ⟨hy, by omega, fun d h8 h9 => ?_⟩
        have := hd d (by simpa using h8) h9
        rw [this] at h1
        simp at h1
        omega
    · rw [go_table h1 h3] at h ⊢
      dsimp only at h
      cases i with
      | zero =>
        rcases hfst with hz | ⟨a, y, hst, hy, hd⟩
        · exfalso
          have he : ∃ d, (entV size f level table (idxV va level)) = d := ⟨_, rfl⟩
          unfold entV at hz h1
          split at hz
          · unfold entD at hz
            split at hz
            · cases hz
            · split at hz
              · cases hz
              · split at hz <;> cases hz
          · rename_i hne
            rw [if_neg hne] at h1
            simp at h1
        · rw [hst] at h
          simp at h
          subst h
          refine ⟨hy, by omega, fun d h8 h9 => ?_⟩
          have hE := hd d (by simpa using h8) h9
          rw [hE] at h3 h5 h6 h7 ⊢
          dsimp only at h3 h5 h6 h7 ⊢
          rw [from_yes ⟨by omega, by omega, h7, hva⟩]
          rw [show (4 - (level + ((0 : Nat) : Int) + 1)).toNat = n by omega, show level + ((0 : Nat) : Int) + 1 = level + 1 by omega]
          exact ⟨rfl, rfl, rfl, rfl⟩
      | succ j =>
        have hst1 : (entV size f level table (idxV va level)).st.length = 1 ∨ (entV size f level table (idxV va level)).st.length = 0 := by omega
        rcases hfst with hz | ⟨a, y, hst, hy, hd⟩
        · exfalso
          unfold entV at hz h1
          split at hz
          · unfold entD at hz
            split at hz
            · cases hz
            · split at hz
              · cases hz
              · split at hz <;> cases hz
          · rename_i hne
            rw [if_neg hne] at h1
            simp at h1
        · rw [hst] at h
          simp only [List.cons_append, List.nil_append, List.getElem?_cons_succ] at h
          obtain ⟨g1, g2, g3⟩ := go_steps size f hf va hva n (level + 1) _ (by omega) (by omega) j x h
          refine ⟨g1, by omega, fun d h8 h9 => ?_⟩
          have := g3 d (by rw [show level + 1 + (j : Int) = level + ((j + 1 : Nat) : Int) by omega]; exact h8) h9
          rw [show level + 1 + (j : Int) + 1 = level + ((j + 1 : Nat) : Int) + 1 by omega] at this
          exact this
    · rw [go_leaf h1 (by omega)] at h ⊢
      dsimp only at h
      rcases hfst with hz | ⟨a, y, hst, hy, hd⟩
      · rw [hz] at h; simp at h
      · rw [hst] at h
        have hi : i = 0 := by have := (List.getElem?_eq_some_iff.1 h).1; simpa using this
        subst hi
        simp at h
        subst h
        refine ⟨hy, by omega, fun d h8 h9 => ?_⟩
        have := hd d (by simpa using h8) h9
        rw [this] at h3
        simp at h3
        omega
theorem from_steps (size : Int) (f : Int → Int) (hf : ∀ n, 0 ≤ f n ∧ f n < 18446744073709551616) (root va : Int) (i : Nat) (x : W2) (h : (fromV size f 0 root va).st[i]? = some x) :
    (0 ≤ x.word ∧ x.word < 18446744073709551616) ∧ i < 4 ∧ ∀ d, decV i x.word = some d → d.kind = 1 → Res.same (fromV size f (i + 1) d.out va) (fromV size f 0 root va) := by
  by_cases hc : (0 : Int) ≤ 0 ∧ (0 : Int) ≤ 3 ∧ root % 4096 = 0 ∧ va < 281474976710656
  · rw [from_yes hc] at h ⊢
    have := go_steps size f hf va hc.2.2.2 4 0 root (by decide) (by decide) i x h
    simpa using this
  · rw [from_no hc] at h
    simp at h
/-- A walk that comes to a leaf is told by the indexes down to the leaf's level. -/
theorem go_same (size : Int) (f : Int → Int) (hf : ∀ n, 0 ≤ f n ∧ f n < 18446744073709551616) (va vb : Int) : ∀ (n : Nat) (level table : Int), 0 ≤ level → level + n = 4 → (goV size f va n level table).fk = 0 →
    level ≤ (goV size f va n level table).lev ∧ ((∀ l, level ≤ l → l ≤ (goV size f va n level table).lev → idxV vb l = idxV va l) → goV size f vb n level table = goV size f va n level table)
  | 0, _, _, _, _, h => by simp [goV] at h
  | n + 1, level, table, l0, hl, h => by
    rcases ent_cases size f hf level table (idxV va level) l0 (by omega) with ⟨fk, hk, h1, h2, h3⟩ | ⟨h1, h2, h3, h4, h5, h6, h7⟩ | ⟨h1, h2, h3, h4, h5⟩
    · rw [go_fault (by rw [h1]; omega)] at h
      dsimp only at h
      rw [h1] at h
      omega
    · have hg := go_table (size := size) (f := f) (va := va) (n := n) h1 h3
      rw [hg] at h ⊢
      dsimp only at h ⊢
      obtain ⟨g1, g2⟩ := go_same size f hf va vb n (level + 1) _ (by omega) (by omega) h
      refine ⟨by omega, fun hi => ?_⟩
      have e := hi level (by omega) (by omega)
      rw [go_table (va := vb) (by rw [e]; exact h1) (by rw [e]; exact h3), e, g2 fun l h8 h9 => hi l (by omega) h9]
    · have hg := go_leaf (size := size) (f := f) (va := va) (n := n) h1 (show (entV size f level table (idxV va level)).d.kind ≠ 1 by omega)
      rw [hg] at h ⊢
      dsimp only at h ⊢
      refine ⟨by omega, fun hi => ?_⟩
      have e := hi level (by omega) (by omega)
      rw [go_leaf (va := vb) (by rw [e]; exact h1) (by rw [e]; omega), e]
/-- An address of a stretch. -/
theorem stretch_idx {va off L l : Int} (v0 : 0 ≤ va) (v1 : va < 281474976710656) (o0 : 0 ≤ off) (L0 : 0 ≤ L) (L3 : L ≤ 3) (l0 : 0 ≤ l) (hl : l ≤ L) : idxV (baseV va L + offV off L) l = idxV va l := by
  have k1 := kn_of L0 L3
  have k2 := kn_of l0 (show l ≤ 3 by omega)
  rw [idxV_yes k2, idxV_yes k2, baseV_yes k1, offV_yes k1]
  obtain rfl | rfl | rfl | rfl : L = 0 ∨ L = 1 ∨ L = 2 ∨ L = 3 := by omega
  · obtain rfl : l = 0 := by omega
    simp only [lsize]; simp; omega
  · obtain rfl | rfl : l = 0 ∨ l = 1 := by omega
    all_goals (simp only [lsize]; simp; omega)
  · obtain rfl | rfl | rfl : l = 0 ∨ l = 1 ∨ l = 2 := by omega
    all_goals (simp only [lsize]; simp; omega)
  · obtain rfl | rfl | rfl | rfl : l = 0 ∨ l = 1 ∨ l = 2 ∨ l = 3 := by omega
    all_goals (simp only [lsize]; simp; omega)
theorem stretch_off {va off L : Int} (v0 : 0 ≤ va) (v1 : va < 281474976710656) (o0 : 0 ≤ off) (L0 : 0 ≤ L) (L3 : L ≤ 3) : offV (baseV va L + offV off L) L = offV off L ∧ 0 ≤ baseV va L + offV off L ∧ baseV va L + offV off L < 281474976710656 := by
  have k1 := kn_of L0 L3
  rw [offV_yes k1, baseV_yes k1, offV_yes k1]
  obtain rfl | rfl | rfl | rfl : L = 0 ∨ L = 1 ∨ L = 2 ∨ L = 3 := by omega
  all_goals (simp only [lsize]; simp; omega)
theorem stretch_or {va off L : Int} (v0 : 0 ≤ va) (v1 : va < 281474976710656) (o0 : 0 ≤ off) (L0 : 0 ≤ L) (L3 : L ≤ 3) : Go.bits .or .u64 (baseV va L) (offV off L) = baseV va L + offV off L := by
  have k1 := kn_of L0 L3
  have key : ∀ (b o : Int) (k : Nat), 0 ≤ b → b < 281474976710656 → 0 ≤ o → o < 2 ^ k → b % 2 ^ k = 0 → k ≤ 40 → Go.bits .or .u64 b o = b + o := by
    intro b o k hb0 hb1 ho0 ho1 hm hk
    obtain ⟨x, rfl⟩ := Int.eq_ofNat_of_zero_le hb0
    obtain ⟨y, rfl⟩ := Int.eq_ofNat_of_zero_le ho0
    have hy : y < 2 ^ k := by exact_mod_cast ho1
    have hx : x % 2 ^ k = 0 := by exact_mod_cast hm
    have h40 : (2 : Nat) ^ k ≤ 2 ^ 40 := Nat.pow_le_pow_right (by decide) hk
    have e40 : (2 : Nat) ^ 40 = 1099511627776 := by decide
    rw [bits_or x y (by rw [n64]; omega) (by rw [n64]; omega)]
    have hd := Nat.div_add_mod x (2 ^ k)
    rw [hx, Nat.add_zero] at hd
    have := Nat.two_pow_add_eq_or_of_lt hy (x / 2 ^ k)
    rw [hd] at this
    rw [← this]; simp
  have hb := lbits_range L
  have hp := lsize_pow k1
  have ho : offV off L = off % lsize L := offV_yes k1
  have hs : lsize L = 549755813888 ∨ lsize L = 1073741824 ∨ lsize L = 2097152 ∨ lsize L = 4096 := by
    obtain rfl | rfl | rfl | rfl : L = 0 ∨ L = 1 ∨ L = 2 ∨ L = 3 := by omega
    all_goals simp [lsize]
  have hbs : baseV va L = va % 281474976710656 - va % 281474976710656 % lsize L := baseV_yes k1
  refine key _ _ (lbits L).toNat ?_ ?_ ?_ ?_ ?_ (by omega)
  · rw [hbs]; rcases hs with h | h | h | h <;> rw [h] <;> omega
  · rw [hbs]; rcases hs with h | h | h | h <;> rw [h] <;> omega
  · rw [ho]; rcases hs with h | h | h | h <;> rw [h] <;> omega
  · rw [hp, ho]; rcases hs with h | h | h | h <;> rw [h] <;> omega
  · rw [hp, hbs]; rcases hs with h | h | h | h <;> rw [h] <;> omega
/-- All addresses of a leaf's stretch come to the same leaf. -/
theorem stretch (size : Int) (f : Int → Int) (hf : ∀ n, 0 ≤ f n ∧ f n < 18446744073709551616) (root va off : Int) (v0 : 0 ≤ va) (o0 : 0 ≤ off) (h : (fromV size f 0 root va).fk = 0) :
    va < 281474976710656 ∧ fromV size f 0 root (baseV va (fromV size f 0 root va).lev + offV off (fromV size f 0 root va).lev) = fromV size f 0 root va := by
  by_cases hc : (0 : Int) ≤ 0 ∧ (0 : Int) ≤ 3 ∧ root % 4096 = 0 ∧ va < 281474976710656
  · have hfv := from_yes (size := size) (f := f) hc
    have he := from_end size f hf 0 root va
    rcases he with ⟨-, -, e1, e2, -⟩ | ⟨e1, -⟩
    · refine ⟨hc.2.2.2, ?_⟩
      obtain ⟨-, b1, b2⟩ := stretch_off v0 hc.2.2.2 o0 e1 e2
      rw [from_yes ⟨hc.1, hc.2.1, hc.2.2.1, b2⟩]
      rw [hfv] at h e1 e2 ⊢
      obtain ⟨-, g2⟩ := go_same size f hf va (baseV va (goV size f va (4 - (0 : Int)).toNat 0 root).lev + offV off (goV size f va (4 - (0 : Int)).toNat 0 root).lev) (4 - (0 : Int)).toNat 0 root (by decide) (by decide) h
      exact g2 fun l h8 h9 => stretch_idx v0 hc.2.2.2 o0 e1 e2 h8 h9
    · exact absurd h e1
  · rw [from_no hc] at h
    simp at h
end Go.Proofs.Ytfnmdelkdombbaa.Ys
