/- Plain law of the list of all leaves: what it has, in which order, and that nothing lacks. No program in sight. -/
import Derived.Test.YtfnmdelkdombbaaYs
namespace Go.Proofs.Ytfnmdelkdombbaa.Yv
open Go.RowKit Go.Proofs.Ytfnmdelkdombbaa.G Go.Proofs.Ytfnmdelkdombbaa.B Go.Proofs.Ytfnmdelkdombbaa.Ya Go.Proofs.Ytfnmdelkdombbaa.Yb Go.Proofs.Ytfnmdelkdombbaa.Yd Go.Proofs.Ytfnmdelkdombbaa.Ls Go.Proofs.Ytfnmdelkdombbaa.Ds Go.Proofs.Ytfnmdelkdombbaa.Eq Go.Proofs.Ytfnmdelkdombbaa.Yg Go.Proofs.Ytfnmdelkdombbaa.Yh Go.Proofs.Ytfnmdelkdombbaa.Yo Go.Proofs.Ytfnmdelkdombbaa.Ys
set_option linter.unusedVariables false
set_option linter.unusedSimpArgs false
/-- A leaf of the list. -/
structure Mp where
  va : Int
  lev : Int
  d : D7
def Mp.cells (x : Mp) : Array Value := #[.int .u64 x.va, .int .i64 x.lev, .int .i64 x.d.kind, .int .u64 x.d.out, .bool x.d.user, .bool x.d.write, .bool x.d.exec, .bool x.d.used, .int .i64 x.d.attr]
instance : Rec Mp 9 := ⟨Mp.cells, fun _ => rfl, fun _ => by simp [Mp.cells, Value.oneCell'], by decide⟩
/-- One entry of a table. -/
noncomputable def lstE (size : Int) (f : Int → Int) (most : Int) (rec : Int → Int → Int → Int → List Mp → Option (Int × List Mp)) (level table va i left : Int) (out : List Mp) : Option (Int × List Mp) :=
  if (entV size f level table i).fk = 1 then some (left, out)
  else if left ≤ 0 then none
  else if (entV size f level table i).fk ≠ 0 then some (left - 1, out)
  else if (entV size f level table i).d.kind = 1 then rec (level + 1) (entV size f level table i).d.out (va + i * lsize level) (left - 1) out
  else if most ≤ out.length then none
  else some (left - 1, out ++ [⟨va + i * lsize level, level, (entV size f level table i).d⟩])
/-- The last entries of a table. -/
noncomputable def lstF (size : Int) (f : Int → Int) (most : Int) (rec : Int → Int → Int → Int → List Mp → Option (Int × List Mp)) (level table va : Int) : Nat → Int → List Mp → Option (Int × List Mp)
  | 0, left, out => some (left, out)
  | k + 1, left, out => match lstE size f most rec level table va (511 - (k : Int)) left out with
    | none => none
    | some (l, o) => lstF size f most rec level table va k l o
/-- A table's leaves. -/
noncomputable def lst (size : Int) (f : Int → Int) (most : Int) : Nat → Int → Int → Int → Int → List Mp → Option (Int × List Mp)
  | 0, _, _, _, left, out => some (left, out)
  | n + 1, level, table, va, left, out => lstF size f most (lst size f most n) level table va 512 left out
/-- What is so of the leaves between two addresses. -/
structure Inv (size : Int) (f : Int → Int) (n : Nat) (level table lo hi : Int) (news : List Mp) : Prop where
  mem : ∀ x ∈ news, lo ≤ x.va ∧ x.va < hi ∧ level ≤ x.lev ∧ x.lev ≤ 3 ∧ x.va % lsize x.lev = 0 ∧ (goV size f x.va n level table).fk = 0 ∧ (goV size f x.va n level table).lev = x.lev ∧ (goV size f x.va n level table).d = x.d
  inc : news.Pairwise fun x y => x.va < y.va
  all : ∀ a, lo ≤ a → a < hi → (goV size f a n level table).fk = 0 → ∃ x ∈ news, baseV a x.lev = x.va ∧ x.lev = (goV size f a n level table).lev ∧ x.d = (goV size f a n level table).d
theorem Inv.nil (size : Int) (f : Int → Int) (n : Nat) (level table lo : Int) : Inv size f n level table lo lo [] :=
  ⟨(fun x hx => by cases hx), List.Pairwise.nil, fun a h1 h2 => by omega⟩
theorem Inv.append {size : Int} {f : Int → Int} {n : Nat} {level table lo mid hi : Int} {m1 m2 : List Mp} (h1 : Inv size f n level table lo mid m1) (h2 : Inv size f n level table mid hi m2) (k1 : lo ≤ mid) (k2 : mid ≤ hi) : Inv size f n level table lo hi (m1 ++ m2) where
  mem := fun x hx => by
    rcases List.mem_append.1 hx with h | h
    · obtain ⟨a1, a2, a3⟩ := h1.mem x h
      exact ⟨a1, by omega, a3⟩
    · obtain ⟨a1, a2, a3⟩ := h2.mem x h
      exact ⟨by omega, a2, a3⟩
  inc := List.pairwise_append.2 ⟨h1.inc, h2.inc, fun x hx y hy => by
    have := (h1.mem x hx).2.1
    have := (h2.mem y hy).1
    omega⟩
  all := fun a a1 a2 h => by
    by_cases hm : a < mid
    · obtain ⟨x, hx, h3⟩ := h1.all a a1 hm h
      exact ⟨x, List.mem_append_left _ hx, h3⟩
    · obtain ⟨x, hx, h3⟩ := h2.all a (by omega) a2 h
      exact ⟨x, List.mem_append_right _ hx, h3⟩
theorem lvl_cases {level : Int} (l0 : 0 ≤ level) (l3 : level ≤ 3) : level = 0 ∨ level = 1 ∨ level = 2 ∨ level = 3 := by omega
theorem lsz0 : lsize 0 = 549755813888 := rfl
theorem lsz1 : lsize 1 = 1073741824 := rfl
theorem lsz2 : lsize 2 = 2097152 := rfl
theorem lsz3 : lsize 3 = 4096 := rfl
theorem idx_in {va a i level : Int} (l0 : 0 ≤ level) (l3 : level ≤ 3) (v0 : 0 ≤ va) (hv : va % (512 * lsize level) = 0) (i0 : 0 ≤ i) (i1 : i < 512) (h1 : va + i * lsize level ≤ a) (h2 : a < va + i * lsize level + lsize level) : idxV a level = i := by
  rw [idxV_yes (kn_of l0 l3)]
  rcases lvl_cases l0 l3 with rfl | rfl | rfl | rfl
  · rw [lsz0] at *; omega
  · rw [lsz1] at *; omega
  · rw [lsz2] at *; omega
  · rw [lsz3] at *; omega
theorem base_in {va a i level : Int} (l0 : 0 ≤ level) (l3 : level ≤ 3) (v0 : 0 ≤ va) (hv : va % (512 * lsize level) = 0) (i0 : 0 ≤ i) (i1 : i < 512) (h1 : va + i * lsize level ≤ a) (h2 : a < va + i * lsize level + lsize level) (ha : a < 281474976710656) : baseV a level = va + i * lsize level := by
  rw [baseV_yes (kn_of l0 l3)]
  rcases lvl_cases l0 l3 with rfl | rfl | rfl | rfl
  · rw [lsz0] at *; omega
  · rw [lsz1] at *; omega
  · rw [lsz2] at *; omega
  · rw [lsz3] at *; omega
theorem al_in {va i level : Int} (l0 : 0 ≤ level) (l3 : level ≤ 3) (hv : va % (512 * lsize level) = 0) : (va + i * lsize level) % lsize level = 0 := by
  rcases lvl_cases l0 l3 with rfl | rfl | rfl | rfl
  · rw [lsz0] at *; omega
  · rw [lsz1] at *; omega
  · rw [lsz2] at *; omega
  · rw [lsz3] at *; omega
theorem next_size {level : Int} (l0 : 0 ≤ level) (l2 : level < 3) : 512 * lsize (level + 1) = lsize level := by
  obtain rfl | rfl | rfl : level = 0 ∨ level = 1 ∨ level = 2 := by omega
  · rfl
  · rfl
  · rfl
theorem lsize_pos {level : Int} (l0 : 0 ≤ level) (l3 : level ≤ 3) : 0 < lsize level := by
  rcases lvl_cases l0 l3 with rfl | rfl | rfl | rfl <;> decide
theorem ent_inv (size : Int) (f : Int → Int) (hf : ∀ n, 0 ≤ f n ∧ f n < 18446744073709551616) (most : Int) (n : Nat) (level : Int) (l0 : 0 ≤ level) (hn : level + (n + 1 : Nat) = 4)
    (IH : ∀ (table va left : Int) (out : List Mp) (l : Int) (o : List Mp), 0 ≤ va → va % (512 * lsize (level + 1)) = 0 → va + 512 * lsize (level + 1) ≤ 281474976710656 → level < 3 → lst size f most n (level + 1) table va left out = some (l, o) → ∃ news, o = out ++ news ∧ Inv size f n (level + 1) table va (va + 512 * lsize (level + 1)) news)
    (table va i left : Int) (out : List Mp) (l : Int) (o : List Mp) (v0 : 0 ≤ va) (hv : va % (512 * lsize level) = 0) (vh : va + 512 * lsize level ≤ 281474976710656) (i0 : 0 ≤ i) (i1 : i < 512)
    (h : lstE size f most (lst size f most n) level table va i left out = some (l, o)) : ∃ news, o = out ++ news ∧ Inv size f (n + 1) level table (va + i * lsize level) (va + i * lsize level + lsize level) news := by
  have l3 : level ≤ 3 := by omega
  have hpos := lsize_pos l0 l3
  have hil : i * lsize level ≤ 511 * lsize level := Int.mul_le_mul_of_nonneg_right (by omega) (by omega)
  have hi0 : 0 ≤ i * lsize level := Int.mul_nonneg i0 (by omega)
  have hix : ∀ a, va + i * lsize level ≤ a → a < va + i * lsize level + lsize level → idxV a level = i := fun a h1 h2 => idx_in l0 l3 v0 hv i0 i1 h1 h2
  have hfault : (entV size f level table i).fk ≠ 0 → Inv size f (n + 1) level table (va + i * lsize level) (va + i * lsize level + lsize level) [] := fun hne =>
    ⟨(fun x hx => by cases hx), List.Pairwise.nil, fun a h1 h2 h3 => by
      rw [go_fault (by rw [hix a h1 h2]; exact hne)] at h3
      exact absurd (by simpa [hix a h1 h2] using h3) hne⟩
  unfold lstE at h
  by_cases h1 : (entV size f level table i).fk = 1
  · rw [if_pos h1] at h
    simp only [Option.some.injEq, Prod.mk.injEq] at h
    exact ⟨[], by rw [List.append_nil]; exact h.2.symm, hfault (by omega)⟩
  rw [if_neg h1] at h
  by_cases h2 : left ≤ 0
  · rw [if_pos h2] at h; cases h
  rw [if_neg h2] at h
  by_cases h3 : (entV size f level table i).fk ≠ 0
  · rw [if_pos h3] at h
    simp only [Option.some.injEq, Prod.mk.injEq] at h
    exact ⟨[], by rw [List.append_nil]; exact h.2.symm, hfault h3⟩
  rw [if_neg h3] at h
  have h3 : (entV size f level table i).fk = 0 := by simpa using h3
  by_cases h4 : (entV size f level table i).d.kind = 1
  · rw [if_pos h4] at h
    have hlt : level < 3 := by
      rcases ent_cases size f hf level table i l0 (by omega) with ⟨fk, hk, e1, -⟩ | ⟨-, -, -, e4, -⟩ | ⟨-, -, e3, -⟩
      · omega
      · exact e4
      · omega
    have hns := next_size l0 hlt
    obtain ⟨news, rfl, hI⟩ := IH _ _ _ _ _ _ (show 0 ≤ va + i * lsize level by omega) (by rw [hns]; exact al_in l0 l3 hv) (by rw [hns]; omega) hlt h
    rw [hns] at hI
    have hgo : ∀ a, va + i * lsize level ≤ a → a < va + i * lsize level + lsize level → Res.same (goV size f a (n + 1) level table) (goV size f a n (level + 1) (entV size f level table i).d.out) := fun a a1 a2 => by
      have e := hix a a1 a2
      rw [go_table (by rw [e]; exact h3) (by rw [e]; exact h4), e]
      exact ⟨rfl, rfl, rfl, rfl⟩
    refine ⟨news, rfl, ⟨fun x hx => ?_, hI.inc, fun a a1 a2 hk => ?_⟩⟩
    · obtain ⟨b1, b2, b3, b4, b5, b6, b7, b8⟩ := hI.mem x hx
      obtain ⟨g1, g2, g3, g4⟩ := hgo x.va b1 b2
      exact ⟨b1, b2, by omega, b4, b5, by rw [g3]; exact b6, by rw [g1]; exact b7, by rw [g2]; exact b8⟩
    · obtain ⟨g1, g2, g3, g4⟩ := hgo a a1 a2
      rw [g3] at hk
      obtain ⟨x, hx, c1, c2, c3⟩ := hI.all a a1 a2 hk
      exact ⟨x, hx, c1, by rw [g1]; exact c2, by rw [g2]; exact c3⟩
  rw [if_neg h4] at h
  by_cases h5 : most ≤ out.length
  · rw [if_pos h5] at h; cases h
  rw [if_neg h5] at h
  simp only [Option.some.injEq, Prod.mk.injEq] at h
  obtain ⟨-, rfl⟩ := h
  have hgo : ∀ a, va + i * lsize level ≤ a → a < va + i * lsize level + lsize level → (goV size f a (n + 1) level table).fk = 0 ∧ (goV size f a (n + 1) level table).lev = level ∧ (goV size f a (n + 1) level table).d = (entV size f level table i).d := fun a a1 a2 => by
    have e := hix a a1 a2
    rw [go_leaf (by rw [e]; exact h3) (by rw [e]; exact h4), e]
    exact ⟨rfl, rfl, rfl⟩
  refine ⟨_, rfl, ⟨fun x hx => ?_, List.pairwise_singleton _ _, fun a a1 a2 hk => ?_⟩⟩
  · rw [List.mem_singleton] at hx
    subst hx
    obtain ⟨g1, g2, g3⟩ := hgo (va + i * lsize level) (by omega) (by omega)
    exact ⟨Int.le_refl _, by dsimp only; omega, Int.le_refl _, l3, al_in l0 l3 hv, g1, g2, g3⟩
  · obtain ⟨g1, g2, g3⟩ := hgo a a1 a2
    exact ⟨_, List.mem_singleton.2 rfl, base_in l0 l3 v0 hv i0 i1 a1 a2 (by omega), g2.symm, g3.symm⟩
theorem fold_inv (size : Int) (f : Int → Int) (hf : ∀ n, 0 ≤ f n ∧ f n < 18446744073709551616) (most : Int) (n : Nat) (level : Int) (l0 : 0 ≤ level) (hn : level + (n + 1 : Nat) = 4)
    (IH : ∀ (table va left : Int) (out : List Mp) (l : Int) (o : List Mp), 0 ≤ va → va % (512 * lsize (level + 1)) = 0 → va + 512 * lsize (level + 1) ≤ 281474976710656 → level < 3 → lst size f most n (level + 1) table va left out = some (l, o) → ∃ news, o = out ++ news ∧ Inv size f n (level + 1) table va (va + 512 * lsize (level + 1)) news)
    (table va : Int) (v0 : 0 ≤ va) (hv : va % (512 * lsize level) = 0) (vh : va + 512 * lsize level ≤ 281474976710656) : ∀ (k : Nat) (left : Int) (out : List Mp) (l : Int) (o : List Mp), k ≤ 512 → lstF size f most (lst size f most n) level table va k left out = some (l, o) →
      ∃ news, o = out ++ news ∧ Inv size f (n + 1) level table (va + (512 - (k : Int)) * lsize level) (va + 512 * lsize level) news
  | 0, left, out, l, o, hk, h => by
    simp only [lstF, Option.some.injEq, Prod.mk.injEq] at h
    refine ⟨[], by rw [List.append_nil]; exact h.2.symm, ?_⟩
    rw [show (512 - ((0 : Nat) : Int)) = 512 by omega]
    exact Inv.nil _ _ _ _ _ _
  | k + 1, left, out, l, o, hk, h => by
    simp only [lstF] at h
    cases he : lstE size f most (lst size f most n) level table va (511 - (k : Int)) left out with
    | none => rw [he] at h; cases h
    | some p =>
      obtain ⟨l1, o1⟩ := p
      rw [he] at h
      dsimp only at h
      obtain ⟨m1, rfl, I1⟩ := ent_inv size f hf most n level l0 hn IH table va (511 - (k : Int)) left out l1 o1 v0 hv vh (by omega) (by omega) he
      obtain ⟨m2, rfl, I2⟩ := fold_inv size f hf most n level l0 hn IH table va v0 hv vh k l1 _ l o (by omega) h
      have hpos := lsize_pos l0 (show level ≤ 3 by omega)
      have e1 : (512 - ((k + 1 : Nat) : Int)) = 511 - (k : Int) := by omega
      have e2 : (512 - (k : Int)) * lsize level = (511 - (k : Int)) * lsize level + lsize level := by
        rw [show (512 - (k : Int)) = (511 - (k : Int)) + 1 by omega, Int.add_mul, Int.one_mul]
      have e3 : (512 - (k : Int)) * lsize level ≤ 512 * lsize level := Int.mul_le_mul_of_nonneg_right (by omega) (by omega)
      refine ⟨m1 ++ m2, by rw [List.append_assoc], ?_⟩
      rw [e1]
      refine Inv.append I1 ?_ (by omega) (by omega)
      rw [e2, ← Int.add_assoc] at I2
      exact I2
theorem lst_inv (size : Int) (f : Int → Int) (hf : ∀ n, 0 ≤ f n ∧ f n < 18446744073709551616) (most : Int) : ∀ (n : Nat) (level : Int), 0 ≤ level → level + n = 4 → 0 < n → ∀ (table va left : Int) (out : List Mp) (l : Int) (o : List Mp), 0 ≤ va → va % (512 * lsize level) = 0 → va + 512 * lsize level ≤ 281474976710656 →
    lst size f most n level table va left out = some (l, o) → ∃ news, o = out ++ news ∧ Inv size f n level table va (va + 512 * lsize level) news
  | 0, _, _, _, h, _, _, _, _, _, _, _, _, _, _ => by omega
  | n + 1, level, l0, hn, _, table, va, left, out, l, o, v0, hv, vh, h => by
    have IH : ∀ (table va left : Int) (out : List Mp) (l : Int) (o : List Mp), 0 ≤ va → va % (512 * lsize (level + 1)) = 0 → va + 512 * lsize (level + 1) ≤ 281474976710656 → level < 3 → lst size f most n (level + 1) table va left out = some (l, o) → ∃ news, o = out ++ news ∧ Inv size f n (level + 1) table va (va + 512 * lsize (level + 1)) news :=
      fun table va left out l o a1 a2 a3 a4 a5 => lst_inv size f hf most n (level + 1) (by omega) (by omega) (by omega) table va left out l o a1 a2 a3 a5
    simp only [lst] at h
    obtain ⟨news, h1, h2⟩ := fold_inv size f hf most n level l0 hn IH table va v0 hv vh 512 left out l o (Nat.le_refl _) h
    refine ⟨news, h1, ?_⟩
    rw [show (512 - ((512 : Nat) : Int)) = 0 by omega, Int.zero_mul, Int.add_zero] at h2
    exact h2
theorem base_idx {va x i l : Int} (v0 : 0 ≤ va) (v1 : va < 281474976710656) (x0 : 0 ≤ x) (x1 : x < 281474976710656) (i0 : 0 ≤ i) (i3 : i ≤ 3) (h : baseV va i = baseV x i) (l0 : 0 ≤ l) (hl : l ≤ i) : idxV va l = idxV x l := by
  have k1 := kn_of i0 i3
  have k2 := kn_of l0 (show l ≤ 3 by omega)
  rw [baseV_yes k1, baseV_yes k1] at h
  rw [idxV_yes k2, idxV_yes k2]
  obtain rfl | rfl | rfl | rfl : i = 0 ∨ i = 1 ∨ i = 2 ∨ i = 3 := by omega
  · obtain rfl : l = 0 := by omega
    simp only [lsize] at *; simp at *; omega
  · obtain rfl | rfl : l = 0 ∨ l = 1 := by omega
    all_goals (simp only [lsize] at *; simp at *; omega)
  · obtain rfl | rfl | rfl : l = 0 ∨ l = 1 ∨ l = 2 := by omega
    all_goals (simp only [lsize] at *; simp at *; omega)
  · obtain rfl | rfl | rfl | rfl : l = 0 ∨ l = 1 ∨ l = 2 ∨ l = 3 := by omega
    all_goals (simp only [lsize] at *; simp at *; omega)
theorem base_self {x l : Int} (x0 : 0 ≤ x) (x1 : x < 281474976710656) (l0 : 0 ≤ l) (l3 : l ≤ 3) (h : x % lsize l = 0) : baseV x l = x := by
  rw [baseV_yes (kn_of l0 l3)]
  rcases lvl_cases l0 l3 with rfl | rfl | rfl | rfl
  · rw [lsz0] at *; omega
  · rw [lsz1] at *; omega
  · rw [lsz2] at *; omega
  · rw [lsz3] at *; omega
/-- What the list of a root's leaves is. -/
structure AllOk (size : Int) (f : Int → Int) (root : Int) (all : List Mp) : Prop where
  each : ∀ x ∈ all, 0 ≤ x.va ∧ x.va < 281474976710656 ∧ 0 ≤ x.lev ∧ x.lev ≤ 3 ∧ baseV x.va x.lev = x.va ∧ (fromV size f 0 root x.va).fk = 0 ∧ (fromV size f 0 root x.va).fl = 0 ∧ (fromV size f 0 root x.va).lev = x.lev ∧ (fromV size f 0 root x.va).d = x.d
  inc : all.Pairwise fun x y => x.va < y.va
  found : ∀ va, 0 ≤ va → (fromV size f 0 root va).fk = 0 → va < 281474976710656 ∧ ∃ x ∈ all, baseV va x.lev = x.va ∧ x.lev = (fromV size f 0 root va).lev ∧ x.d = (fromV size f 0 root va).d
  ends : ∀ va x, 0 ≤ va → va < 281474976710656 → x ∈ all → baseV va x.lev = x.va → (fromV size f 0 root va).fk = 0
theorem all_none (size : Int) (f : Int → Int) (root : Int) (h : root % 4096 ≠ 0) : AllOk size f root [] where
  each := fun x hx => by cases hx
  inc := List.Pairwise.nil
  found := fun va _ hk => by
    rw [from_no (fun hc => h hc.2.2.1)] at hk
    simp at hk
  ends := fun va x _ _ hx => by cases hx
theorem all_ok (size : Int) (f : Int → Int) (hf : ∀ n, 0 ≤ f n ∧ f n < 18446744073709551616) (most root left l : Int) (o : List Mp) (hr : root % 4096 = 0) (h : lst size f most 4 0 root 0 left [] = some (l, o)) : AllOk size f root o := by
  obtain ⟨news, h1, hI⟩ := lst_inv size f hf most 4 0 (by decide) (by decide) (by decide) root 0 left [] l o (by decide) (by decide) (by decide) h
  rw [List.nil_append] at h1
  subst h1
  have hhi : (0 : Int) + 512 * lsize 0 = 281474976710656 := by decide
  rw [hhi] at hI
  have hfv : ∀ va, va < 281474976710656 → fromV size f 0 root va = goV size f va 4 0 root := fun va hv => by
    rw [from_yes ⟨by decide, by decide, hr, hv⟩]; rfl
  refine ⟨fun x hx => ?_, hI.inc, fun va v0 hk => ?_, fun va x v0 v1 hx hb => ?_⟩
  · obtain ⟨a1, a2, a3, a4, a5, a6, a7, a8⟩ := hI.mem x hx
    have hfl : (fromV size f 0 root x.va).fl = 0 := by
      rcases from_end size f hf 0 root x.va with ⟨-, e2, -⟩ | ⟨e1, -⟩
      · exact e2
      · exact absurd (by rw [hfv _ a2]; exact a6) e1
    exact ⟨a1, a2, a3, a4, base_self a1 a2 a3 a4 a5, by rw [hfv _ a2]; exact a6, hfl, by rw [hfv _ a2]; exact a7, by rw [hfv _ a2]; exact a8⟩
  · have hv : va < 281474976710656 := by
      by_cases hv : va < 281474976710656
      · exact hv
      · rw [from_no (fun hc => hv hc.2.2.2)] at hk
        simp at hk
    rw [hfv va hv] at hk ⊢
    exact ⟨hv, hI.all va v0 hv hk⟩
  · obtain ⟨a1, a2, a3, a4, a5, a6, a7, a8⟩ := hI.mem x hx
    have hbs := base_self a1 a2 a3 a4 a5
    obtain ⟨-, g2⟩ := go_same size f hf x.va va 4 0 root (by decide) (by decide) a6
    rw [a7] at g2
    rw [hfv va v1, g2 fun l h1 h2 => base_idx v0 v1 a1 a2 a3 a4 (by rw [hb, hbs]) h1 h2]
    exact a6
/-- How many leaves there are at most. -/
theorem ent_len (size : Int) (f : Int → Int) (most : Int) (rec : Int → Int → Int → Int → List Mp → Option (Int × List Mp))
    (hrec : ∀ a b c left out l o, rec a b c left out = some (l, o) → 0 ≤ left → 0 ≤ l ∧ (o.length : Int) + l ≤ out.length + left ∧ ((out.length : Int) ≤ max most 0 → (o.length : Int) ≤ max most 0))
    (level table va i left : Int) (out : List Mp) (l : Int) (o : List Mp) (h : lstE size f most rec level table va i left out = some (l, o)) (h0 : 0 ≤ left) : 0 ≤ l ∧ (o.length : Int) + l ≤ out.length + left ∧ ((out.length : Int) ≤ max most 0 → (o.length : Int) ≤ max most 0) := by
  unfold lstE at h
  split at h
  · simp only [Option.some.injEq, Prod.mk.injEq] at h
    obtain ⟨rfl, rfl⟩ := h
    exact ⟨h0, Int.le_refl _, fun h => h⟩
  split at h
  · cases h
  split at h
  · simp only [Option.some.injEq, Prod.mk.injEq] at h
    obtain ⟨rfl, rfl⟩ := h
    exact ⟨by omega, by omega, fun h => h⟩
  split at h
  · obtain ⟨r1, r2, r3⟩ := hrec _ _ _ _ _ _ _ h (by omega)
    exact ⟨r1, by omega, r3⟩
  split at h
  · cases h
  simp only [Option.some.injEq, Prod.mk.injEq] at h
  obtain ⟨rfl, rfl⟩ := h
  rw [List.length_append, List.length_singleton]
  exact ⟨by omega, by omega, fun h => by omega⟩
theorem fold_len (size : Int) (f : Int → Int) (most : Int) (rec : Int → Int → Int → Int → List Mp → Option (Int × List Mp))
    (hrec : ∀ a b c left out l o, rec a b c left out = some (l, o) → 0 ≤ left → 0 ≤ l ∧ (o.length : Int) + l ≤ out.length + left ∧ ((out.length : Int) ≤ max most 0 → (o.length : Int) ≤ max most 0))
    (level table va : Int) : ∀ (k : Nat) (left : Int) (out : List Mp) (l : Int) (o : List Mp), lstF size f most rec level table va k left out = some (l, o) → 0 ≤ left → 0 ≤ l ∧ (o.length : Int) + l ≤ out.length + left ∧ ((out.length : Int) ≤ max most 0 → (o.length : Int) ≤ max most 0)
  | 0, left, out, l, o, h, h0 => by
    simp only [lstF, Option.some.injEq, Prod.mk.injEq] at h
    obtain ⟨rfl, rfl⟩ := h
    exact ⟨h0, Int.le_refl _, fun h => h⟩
  | k + 1, left, out, l, o, h, h0 => by
    simp only [lstF] at h
    cases he : lstE size f most rec level table va (511 - (k : Int)) left out with
    | none => rw [he] at h; cases h
    | some p =>
      obtain ⟨l1, o1⟩ := p
      rw [he] at h
      dsimp only at h
      obtain ⟨a1, a2, a3⟩ := ent_len size f most rec hrec level table va _ left out l1 o1 he h0
      obtain ⟨b1, b2, b3⟩ := fold_len size f most rec hrec level table va k l1 o1 l o h a1
      exact ⟨b1, by omega, fun h => b3 (a3 h)⟩
theorem lst_len (size : Int) (f : Int → Int) (most : Int) : ∀ (n : Nat) (level table va left : Int) (out : List Mp) (l : Int) (o : List Mp), lst size f most n level table va left out = some (l, o) → 0 ≤ left → 0 ≤ l ∧ (o.length : Int) + l ≤ out.length + left ∧ ((out.length : Int) ≤ max most 0 → (o.length : Int) ≤ max most 0)
  | 0, level, table, va, left, out, l, o, h, h0 => by
    simp only [lst, Option.some.injEq, Prod.mk.injEq] at h
    obtain ⟨rfl, rfl⟩ := h
    exact ⟨h0, Int.le_refl _, fun h => h⟩
  | n + 1, level, table, va, left, out, l, o, h, h0 => by
    simp only [lst] at h
    exact fold_len size f most _ (fun a b c left out l o h h0 => lst_len size f most n a b c left out l o h h0) level table va 512 left out l o h h0
end Go.Proofs.Ytfnmdelkdombbaa.Yv
